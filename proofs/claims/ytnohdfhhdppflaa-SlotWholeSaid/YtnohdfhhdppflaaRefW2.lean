/- The reference's Digest, walked: it is the program's hash. -/
import Derived.Test.YtnohdfhhdppflaaRefW
namespace Go.Proofs.Ytnohdfhhdppflaa
open Go Go.Vc Go.Sha Go.Fl
set_option linter.unusedVariables false
set_option linter.unusedSimpArgs false
set_option maxRecDepth 100000

section
attribute [local semireducible] H0
theorem H0_lit : H0 = [BitVec.ofNat 32 1779033703, BitVec.ofNat 32 3144134277, BitVec.ofNat 32 1013904242, BitVec.ofNat 32 2773480762, BitVec.ofNat 32 1359893119, BitVec.ofNat 32 2600822924, BitVec.ofNat 32 528734635, BitVec.ofNat 32 1541459225] := rfl
end
section
attribute [local semireducible] filled sha mix takes rnds
set_option maxHeartbeats 4000000 in
theorem digest_c (a : Option Addr) (c : Nat) (xs : List B) (hl : xs.length ≤ 100000) (ro : RO) (hs : SlR v8 (.slice a xs.length c) xs ro) : C Try.prog 17 #[.slice a xs.length c] ro [] fun v own => ∃ g, own = [g] ∧ Sl v8 5 v (sha xs) g := by
  have hfm := filled_mod xs
  have hfl := filled_len xs
  have hpl := padN_le xs.length
  refine c_of_w2 (n := 221) Try.func17 rfl rfl rfl (by rfl) fun E => ?_
  repeat' (first
    | with_reducible refine w_seq ?_
    | with_reducible refine thenP_n ?_
    | with_reducible refine thenP_x ?_
    | with_reducible refine thenP_r ?_
    | with_reducible refine blockP_n ?_
    | with_reducible refine blockP_r ?_
    | with_reducible refine blockP_eq ?_
    | with_reducible refine blockP_ne (by rfl) ?_
    | with_reducible refine w_skip ?_
    | with_reducible refine w_ret ?_
    | with_reducible refine w_exit ?_
    | with_reducible refine w_block ?_
    | refine w_cond_true rfl ?_
    | refine w_cond_false rfl ?_
    | (refine w_cond_dec rfl (fun _ => ?_) (fun _ => ?_) <;> try (exfalso; omega))
    | (refine w_cond_ndec rfl (fun _ => ?_) (fun _ => ?_) <;> try (exfalso; omega))
    | refine w_cond_not rfl (fun _ => ?_) (fun _ => ?_)
    | refine w_cond rfl (fun _ => ?_) (fun _ => ?_)
    | ((with_reducible refine w_region (id := 0) ?_); (first | (refine wl_pure rfl rfl (pvm_assign_s rfl) ?_) | (refine wl_pure rfl rfl pv_assign ?_)); refine wl_nil ?_)
    | ((with_reducible refine w_region (id := 1) ?_); refine wl_pure rfl rfl (pv_build_row (f := v32) (z := List.replicate 8 0) [(BitVec.ofNat 32 1779033703), (BitVec.ofNat 32 3144134277), (BitVec.ofNat 32 1013904242), (BitVec.ofNat 32 2773480762), (BitVec.ofNat 32 1359893119), (BitVec.ofNat 32 2600822924), (BitVec.ofNat 32 528734635), (BitVec.ofNat 32 1541459225)] Try.underlying87 Fa.sz_35 Fa.zero_87 rfl rfl (fun _ => rfl)) ?_; refine wl_do rfl rfl (opw_allocRow (f := v32) (List.replicate 8 0) Fa.zero_87 fun b3 => ?_); (first | (refine wl_no rfl (opw_storeRow (f := v32) 0 0 Fa.sz_87 (by first | exact K256_len | rfl) (fun _ => rfl) rfl rfl rfl rfl (by first | exact K256_len | rfl) ?_)) | (refine wl_no rfl (opw_storeRow (f := v32) 1 0 Fa.sz_87 (by first | exact K256_len | rfl) (fun _ => rfl) rfl rfl rfl rfl (by first | exact K256_len | rfl) ?_)) | (refine wl_no rfl (opw_storeRow (f := v32) 2 0 Fa.sz_87 (by first | exact K256_len | rfl) (fun _ => rfl) rfl rfl rfl rfl (by first | exact K256_len | rfl) ?_)) | (refine wl_no rfl (opw_storeRow (f := v32) 3 0 Fa.sz_87 (by first | exact K256_len | rfl) (fun _ => rfl) rfl rfl rfl rfl (by first | exact K256_len | rfl) ?_)) | (refine wl_no rfl (opw_storeRow (f := v32) 0 1 Fa.sz_87 (by first | exact K256_len | rfl) (fun _ => rfl) rfl rfl rfl rfl (by first | exact K256_len | rfl) ?_)) | (refine wl_no rfl (opw_storeRow (f := v32) 1 1 Fa.sz_87 (by first | exact K256_len | rfl) (fun _ => rfl) rfl rfl rfl rfl (by first | exact K256_len | rfl) ?_)) | (refine wl_no rfl (opw_storeRow (f := v32) 4 0 Fa.sz_87 (by first | exact K256_len | rfl) (fun _ => rfl) rfl rfl rfl rfl (by first | exact K256_len | rfl) ?_)) | (refine wl_no rfl (opw_storeRow (f := v32) 2 1 Fa.sz_87 (by first | exact K256_len | rfl) (fun _ => rfl) rfl rfl rfl rfl (by first | exact K256_len | rfl) ?_)) | (refine wl_no rfl (opw_storeRow (f := v32) 5 0 Fa.sz_87 (by first | exact K256_len | rfl) (fun _ => rfl) rfl rfl rfl rfl (by first | exact K256_len | rfl) ?_))); refine wl_nil ?_)
    | ((with_reducible refine w_region (id := 2) ?_); refine wl_do rfl rfl (opw_call Fa.ca_47 rfl [] (table_c _) RoOk.self (fun v own h => ?_)); obtain ⟨rfl, rfl⟩ := h; refine wl_do rfl rfl (opw_allocRow (f := v32) (List.replicate 64 0) Fa.zero_88 fun b4 => ?_); (first | (refine wl_no rfl (opw_storeRow (f := v32) 0 0 Fa.sz_88 (by first | exact K256_len | rfl) (fun _ => rfl) rfl rfl rfl rfl (by first | exact K256_len | rfl) ?_)) | (refine wl_no rfl (opw_storeRow (f := v32) 1 0 Fa.sz_88 (by first | exact K256_len | rfl) (fun _ => rfl) rfl rfl rfl rfl (by first | exact K256_len | rfl) ?_)) | (refine wl_no rfl (opw_storeRow (f := v32) 2 0 Fa.sz_88 (by first | exact K256_len | rfl) (fun _ => rfl) rfl rfl rfl rfl (by first | exact K256_len | rfl) ?_)) | (refine wl_no rfl (opw_storeRow (f := v32) 3 0 Fa.sz_88 (by first | exact K256_len | rfl) (fun _ => rfl) rfl rfl rfl rfl (by first | exact K256_len | rfl) ?_)) | (refine wl_no rfl (opw_storeRow (f := v32) 0 1 Fa.sz_88 (by first | exact K256_len | rfl) (fun _ => rfl) rfl rfl rfl rfl (by first | exact K256_len | rfl) ?_)) | (refine wl_no rfl (opw_storeRow (f := v32) 1 1 Fa.sz_88 (by first | exact K256_len | rfl) (fun _ => rfl) rfl rfl rfl rfl (by first | exact K256_len | rfl) ?_)) | (refine wl_no rfl (opw_storeRow (f := v32) 4 0 Fa.sz_88 (by first | exact K256_len | rfl) (fun _ => rfl) rfl rfl rfl rfl (by first | exact K256_len | rfl) ?_)) | (refine wl_no rfl (opw_storeRow (f := v32) 2 1 Fa.sz_88 (by first | exact K256_len | rfl) (fun _ => rfl) rfl rfl rfl rfl (by first | exact K256_len | rfl) ?_)) | (refine wl_no rfl (opw_storeRow (f := v32) 5 0 Fa.sz_88 (by first | exact K256_len | rfl) (fun _ => rfl) rfl rfl rfl rfl (by first | exact K256_len | rfl) ?_))); refine wl_nil ?_)
    | ((with_reducible refine w_region (id := 3) ?_); (first | (refine wl_pure rfl rfl (pvm_move_s rfl) ?_) | (refine wl_pure rfl rfl pv_move ?_)); refine wl_pure rfl rfl (pv_len_slice Fa.sl_22 rfl) ?_; refine wl_pure rfl rfl (pvc_i_64 Try.underlying3 Try.underlying24 rfl) ?_; refine wl_pure rfl rfl (pv64_mul rfl (v64_lit 8 rfl (by omega))) ?_; (first | (refine wl_pure rfl rfl (pvm_assign_64 rfl) ?_) | (refine wl_pure rfl rfl pv_assign ?_)); refine wl_nil ?_))
  refine w_sub (own' := [[], [(b3, arr v32 87 H0)], [(b4, arr v32 88 K256)]]) (by rw [H0_lit]; exact Sub.flat rfl) ?_
  repeat' (first
    | with_reducible refine w_seq ?_
    | with_reducible refine thenP_n ?_
    | with_reducible refine thenP_x ?_
    | with_reducible refine thenP_r ?_
    | with_reducible refine blockP_n ?_
    | with_reducible refine blockP_r ?_
    | with_reducible refine blockP_eq ?_
    | with_reducible refine blockP_ne (by rfl) ?_
    | with_reducible refine w_skip ?_
    | with_reducible refine w_ret ?_
    | with_reducible refine w_exit ?_
    | with_reducible refine w_block ?_
    | refine w_cond_true rfl ?_
    | refine w_cond_false rfl ?_
    | (refine w_cond_dec rfl (fun _ => ?_) (fun _ => ?_) <;> try (exfalso; omega))
    | (refine w_cond_ndec rfl (fun _ => ?_) (fun _ => ?_) <;> try (exfalso; omega))
    | refine w_cond_not rfl (fun _ => ?_) (fun _ => ?_)
    | refine w_cond rfl (fun _ => ?_) (fun _ => ?_)
    | ((with_reducible refine w_region (id := 4) ?_); (first | (refine wl_pure rfl rfl (pvm_move_s rfl) ?_) | (refine wl_pure rfl rfl pv_move ?_)); (first | (refine wl_do rfl rfl (opw_append (f := v8) (xs := []) (ys := xs) 0 Fa.sl_22 Fa.ei_5 (fun _ => rfl) 0 rfl rfl Sl.nil rfl rfl (hs.rd _) (by simp; omega) (by omega) (fun v g h => ?_)); rw [List.nil_append] at h) | (refine wl_do rfl rfl (opw_append (f := v8) (xs := xs) (ys := [128#8]) 0 Fa.sl_22 Fa.ei_5 (fun _ => rfl) 0 rfl rfl h rfl rfl (Rd.arr 3 0 rfl (fun k hk => by rw [Nat.zero_add])) (by simp; omega) (by omega) (fun v g h => ?_)))); refine wl_do rfl rfl (opw_buildRow (f := v8) [(BitVec.ofNat 8 128)] Try.underlying22 Fa.sz_5 Fa.zero_5 rfl rfl (by omega) rfl (fun _ => rfl) fun nb => ?_); (first | (refine wl_do rfl rfl (opw_append (f := v8) (xs := []) (ys := xs) 0 Fa.sl_22 Fa.ei_5 (fun _ => rfl) 0 rfl rfl Sl.nil rfl rfl (hs.rd _) (by simp; omega) (by omega) (fun v g h => ?_)); rw [List.nil_append] at h) | (refine wl_do rfl rfl (opw_append (f := v8) (xs := xs) (ys := [128#8]) 0 Fa.sl_22 Fa.ei_5 (fun _ => rfl) 0 rfl rfl h rfl rfl (Rd.arr 3 0 rfl (fun k hk => by rw [Nat.zero_add])) (by simp; omega) (by omega) (fun v g h => ?_)))); (first | (refine wl_pure rfl rfl (pvm_assign_s rfl) ?_) | (refine wl_pure rfl rfl pv_assign ?_)); refine wl_nil ?_))
  refine w_sub (own' := [g, [(b3, arr v32 87 H0)], [(b4, arr v32 88 K256)]]) (Sub.pk' [0, 0, 0] rfl) ?_
  refine w_loop2 (ι := Nat × Value × Blks) (fun x ρ ro' own => x.1 ≤ padN xs.length ∧ Kn [(3, .pointer (some ⟨b3, 0, none⟩)), (4, .pointer (some ⟨b4, 0, none⟩)), (5, v64 (BitVec.ofInt 64 (xs.length : Nat) * 8#64)), (6, x.2.1)] ρ ∧ ro' = ro ∧ own = [x.2.2, [(b3, arr v32 87 H0)], [(b4, arr v32 88 K256)]] ∧ Sl v8 5 x.2.1 (xs ++ [128#8] ++ List.replicate x.1 0#8) x.2.2) (fun x => padN xs.length - x.1) (0, _, _) ⟨Nat.zero_le _, ⟨rfl, rfl, rfl, rfl, trivial⟩, rfl, rfl, by simpa using ‹_›⟩ ?_
  rintro ⟨j, v, g⟩ ρ ro' own ⟨hj, hk, rfl, rfl, hS⟩
  obtain ⟨ρ', rfl⟩ := hk.ex
  dsimp only at *
  obtain ⟨a1, c1, rfl, hle⟩ := hS.slice
  have hL : (xs ++ [128#8] ++ List.replicate j 0#8).length = xs.length + 1 + j := by simp; omega
  have hpm := padN_mod xs.length j hj
  by_cases hlt : j < padN xs.length
  · repeat' (first
        | with_reducible refine w_seq ?_
        | with_reducible refine thenP_n ?_
        | with_reducible refine thenP_x ?_
        | with_reducible refine thenP_r ?_
        | with_reducible refine blockP_n ?_
        | with_reducible refine blockP_r ?_
        | with_reducible refine blockP_eq ?_
        | with_reducible refine blockP_ne (by rfl) ?_
        | with_reducible refine w_skip ?_
        | with_reducible refine w_ret ?_
        | with_reducible refine w_exit ?_
        | with_reducible refine w_block ?_
        | refine w_cond_true rfl ?_
        | refine w_cond_false rfl ?_
        | (refine w_cond_dec rfl (fun _ => ?_) (fun _ => ?_) <;> try (exfalso; omega))
        | (refine w_cond_ndec rfl (fun _ => ?_) (fun _ => ?_) <;> try (exfalso; omega))
        | refine w_cond_not rfl (fun _ => ?_) (fun _ => ?_)
        | refine w_cond rfl (fun _ => ?_) (fun _ => ?_)
        | ((with_reducible refine w_region (id := 5) ?_); (first | (refine wl_pure rfl rfl (pvm_move_s rfl) ?_) | (refine wl_pure rfl rfl pv_move ?_)); refine wl_pure rfl rfl (pv_len_slice Fa.sl_22 rfl) ?_; (first | (refine wl_pure rfl rfl (pv_irem rfl rfl (by omega)) ?_) | (refine wl_pure rfl rfl (pv_rem rfl rfl (by omega)) ?_)); refine wl_pure rfl rfl (pv_neq rfl rfl) ?_; refine wl_nil ?_)
        | ((with_reducible refine w_region (id := 6) ?_); (first | (refine wl_pure rfl rfl (pvm_move_s rfl) ?_) | (refine wl_pure rfl rfl pv_move ?_)); refine wl_do rfl rfl (opw_buildRow (f := v8) [(BitVec.ofNat 8 0)] Try.underlying22 Fa.sz_5 Fa.zero_5 rfl rfl (by omega) rfl (fun _ => rfl) fun nb => ?_); refine wl_do rfl rfl (opw_append (f := v8) (xs := xs ++ [128#8] ++ List.replicate j 0#8) (ys := [0#8]) 0 Fa.sl_22 Fa.ei_5 (fun _ => rfl) 0 rfl rfl hS rfl rfl (Rd.arr 3 0 rfl (fun k hk => by rw [Nat.zero_add])) (by simp; omega) (by omega) (fun v g h => ?_)); (first | (refine wl_pure rfl rfl (pvm_assign_s rfl) ?_) | (refine wl_pure rfl rfl pv_assign ?_)); refine wl_nil ?_))
    refine ⟨(j + 1, _, _), [g, [(b3, arr v32 87 H0)], [(b4, arr v32 88 K256)]], Sub.pk' [0, 0, 0] rfl, ⟨hlt, ⟨rfl, rfl, rfl, rfl, trivial⟩, rfl, rfl, ?_⟩, by dsimp only; omega⟩
    dsimp only
    rw [List.replicate_succ', ← List.append_assoc]
    exact h
  · obtain rfl : j = padN xs.length := by omega
    repeat' (first
        | with_reducible refine w_seq ?_
        | with_reducible refine thenP_n ?_
        | with_reducible refine thenP_x ?_
        | with_reducible refine thenP_r ?_
        | with_reducible refine blockP_n ?_
        | with_reducible refine blockP_r ?_
        | with_reducible refine blockP_eq ?_
        | with_reducible refine blockP_ne (by rfl) ?_
        | with_reducible refine w_skip ?_
        | with_reducible refine w_ret ?_
        | with_reducible refine w_exit ?_
        | with_reducible refine w_block ?_
        | refine w_cond_true rfl ?_
        | refine w_cond_false rfl ?_
        | (refine w_cond_dec rfl (fun _ => ?_) (fun _ => ?_) <;> try (exfalso; omega))
        | (refine w_cond_ndec rfl (fun _ => ?_) (fun _ => ?_) <;> try (exfalso; omega))
        | refine w_cond_not rfl (fun _ => ?_) (fun _ => ?_)
        | refine w_cond rfl (fun _ => ?_) (fun _ => ?_)
        | ((with_reducible refine w_region (id := 5) ?_); (first | (refine wl_pure rfl rfl (pvm_move_s rfl) ?_) | (refine wl_pure rfl rfl pv_move ?_)); refine wl_pure rfl rfl (pv_len_slice Fa.sl_22 rfl) ?_; (first | (refine wl_pure rfl rfl (pv_irem rfl rfl (by omega)) ?_) | (refine wl_pure rfl rfl (pv_rem rfl rfl (by omega)) ?_)); refine wl_pure rfl rfl (pv_neq rfl rfl) ?_; refine wl_nil ?_))
    repeat' (first
        | with_reducible refine w_seq ?_
        | with_reducible refine thenP_n ?_
        | with_reducible refine thenP_x ?_
        | with_reducible refine thenP_r ?_
        | with_reducible refine blockP_n ?_
        | with_reducible refine blockP_r ?_
        | with_reducible refine blockP_eq ?_
        | with_reducible refine blockP_ne (by rfl) ?_
        | with_reducible refine w_skip ?_
        | with_reducible refine w_ret ?_
        | with_reducible refine w_exit ?_
        | with_reducible refine w_block ?_
        | refine w_cond_true rfl ?_
        | refine w_cond_false rfl ?_
        | (refine w_cond_dec rfl (fun _ => ?_) (fun _ => ?_) <;> try (exfalso; omega))
        | (refine w_cond_ndec rfl (fun _ => ?_) (fun _ => ?_) <;> try (exfalso; omega))
        | refine w_cond_not rfl (fun _ => ?_) (fun _ => ?_)
        | refine w_cond rfl (fun _ => ?_) (fun _ => ?_)
        | ((with_reducible refine w_region (id := 7) ?_); (first | (refine wl_pure rfl rfl (pvm_move_s rfl) ?_) | (refine wl_pure rfl rfl pv_move ?_)); (first | (refine wl_pure rfl rfl (pvm_move_64 rfl) ?_) | (refine wl_pure rfl rfl pv_move ?_)); refine wl_pure rfl rfl (pv64_shr rfl rfl (by omega)) ?_; refine wl_pure rfl rfl (pvc_64_32 Try.underlying24 Try.underlying35 rfl) ?_; refine wl_do rfl rfl (opw_call Fa.ca_48 rfl [] (four_c _ _) RoOk.self (fun v own h => ?_)); obtain ⟨gf, rfl, hgf⟩ := h; obtain ⟨af, cf, rfl, hlef⟩ := hgf.slice; (first | (refine wl_do rfl rfl (opw_append (f := v8) (xs := xs ++ [128#8] ++ List.replicate (padN xs.length) 0#8) (ys := be4 _) 1 Fa.sl_22 Fa.ei_5 (fun _ => rfl) 0 rfl rfl hS rfl rfl (Sl.rd hgf (i := 0) rfl) (by simp [be4]; omega) (by omega) (fun v g5 h5 => ?_))) | (refine wl_do rfl rfl (opw_append (f := v8) (xs := xs ++ [128#8] ++ List.replicate (padN xs.length) 0#8 ++ be4 _) (ys := be4 _) 2 Fa.sl_22 Fa.ei_5 (fun _ => rfl) 0 rfl rfl h5 rfl rfl (Sl.rd hgh (i := 0) rfl) (by simp [be4]; omega) (by omega) (fun v g6 h6 => ?_)))); (first | (refine wl_pure rfl rfl (pvm_move_64 rfl) ?_) | (refine wl_pure rfl rfl pv_move ?_)); refine wl_pure rfl rfl (pvc_64_32 Try.underlying24 Try.underlying35 rfl) ?_; refine wl_do rfl rfl (opw_call Fa.ca_48 rfl [] (four_c _ _) RoOk.self (fun v own h => ?_)); obtain ⟨gh, rfl, hgh⟩ := h; obtain ⟨ah, ch, rfl, hleh⟩ := hgh.slice; (first | (refine wl_do rfl rfl (opw_append (f := v8) (xs := xs ++ [128#8] ++ List.replicate (padN xs.length) 0#8) (ys := be4 _) 1 Fa.sl_22 Fa.ei_5 (fun _ => rfl) 0 rfl rfl hS rfl rfl (Sl.rd hgf (i := 0) rfl) (by simp [be4]; omega) (by omega) (fun v g5 h5 => ?_))) | (refine wl_do rfl rfl (opw_append (f := v8) (xs := xs ++ [128#8] ++ List.replicate (padN xs.length) 0#8 ++ be4 _) (ys := be4 _) 2 Fa.sl_22 Fa.ei_5 (fun _ => rfl) 0 rfl rfl h5 rfl rfl (Sl.rd hgh (i := 0) rfl) (by simp [be4]; omega) (by omega) (fun v g6 h6 => ?_)))); (first | (refine wl_pure rfl rfl (pvm_assign_s rfl) ?_) | (refine wl_pure rfl rfl pv_assign ?_)); refine wl_nil ?_))
    have hF : Sl v8 5 v (filled xs) g6 := by
      have h7 : Sl v8 5 v (xs ++ [128#8] ++ List.replicate (padN xs.length) 0#8 ++ be4 (BitVec.ofNat 32 ((BitVec.ofInt 64 ↑xs.length * 8#64) >>> 32).toNat) ++ be4 (BitVec.ofNat 32 (BitVec.ofInt 64 ↑xs.length * 8#64).toNat)) g6 := h6
      rw [List.append_assoc, lenB_four] at h7
      exact h7
    obtain ⟨a6, c6, rfl, hle6⟩ := hF.slice
    clear h6 hgh hgf h5 hleh hlef
    obtain ⟨r, hr, hok⟩ := hF.ro
    refine w_sub (own' := [g6, [(b3, arr v32 87 H0)], [(b4, arr v32 88 K256)]]) (Sub.pk' [2, 2, 2] rfl) ?_
    repeat' (first
        | with_reducible refine w_seq ?_
        | with_reducible refine thenP_n ?_
        | with_reducible refine thenP_x ?_
        | with_reducible refine thenP_r ?_
        | with_reducible refine blockP_n ?_
        | with_reducible refine blockP_r ?_
        | with_reducible refine blockP_eq ?_
        | with_reducible refine blockP_ne (by rfl) ?_
        | with_reducible refine w_skip ?_
        | with_reducible refine w_ret ?_
        | with_reducible refine w_exit ?_
        | with_reducible refine w_block ?_
        | refine w_cond_true rfl ?_
        | refine w_cond_false rfl ?_
        | (refine w_cond_dec rfl (fun _ => ?_) (fun _ => ?_) <;> try (exfalso; omega))
        | (refine w_cond_ndec rfl (fun _ => ?_) (fun _ => ?_) <;> try (exfalso; omega))
        | refine w_cond_not rfl (fun _ => ?_) (fun _ => ?_)
        | refine w_cond rfl (fun _ => ?_) (fun _ => ?_)
        | ((with_reducible refine w_region (id := 8) ?_); (first | (refine wl_pure rfl rfl (pvm_assign_i rfl) ?_) | (refine wl_pure rfl rfl pv_assign ?_)); refine wl_nil ?_))
    refine w_loop2 (ι := Nat × List D) (fun x ρ ro'' own => 64 * x.1 ≤ (filled xs).length ∧ x.2.length = 8 ∧ Kn [(3, .pointer (some ⟨b3, 0, none⟩)), (4, .pointer (some ⟨b4, 0, none⟩)), (6, .slice a6 (filled xs).length c6), (7, .int .i64 (64 * (x.1 : Int)))] ρ ∧ ro'' = ro' ∧ own = [g6, [(b3, arr v32 87 x.2)], [(b4, arr v32 88 K256)]] ∧
      sumsN x.2 ((filled xs).drop (64 * x.1)) ((filled xs).length / 64 - x.1) = sumsN H0 (filled xs) ((filled xs).length / 64)) (fun x => (filled xs).length - 64 * x.1) (0, H0) ⟨Nat.zero_le _, H0_len, ⟨rfl, rfl, rfl, rfl, trivial⟩, rfl, rfl, rfl⟩ ?_
    rintro ⟨i, st⟩ ρ ro'' own ⟨hi, h8, hk, rfl, rfl, he⟩
    obtain ⟨ρ', rfl⟩ := hk.ex
    dsimp only at *
    by_cases hlt2 : 64 * i < (filled xs).length
    · obtain ⟨blk, hblk⟩ : ∃ blk, blk = ((filled xs).drop (64 * i)).take 64 := ⟨_, rfl⟩
      have hbl : blk.length = 64 := by rw [hblk, List.length_take, List.length_drop]; omega
      repeat' (first
          | with_reducible refine w_seq ?_
          | with_reducible refine thenP_n ?_
          | with_reducible refine thenP_x ?_
          | with_reducible refine thenP_r ?_
          | with_reducible refine blockP_n ?_
          | with_reducible refine blockP_r ?_
          | with_reducible refine blockP_eq ?_
          | with_reducible refine blockP_ne (by rfl) ?_
          | with_reducible refine w_skip ?_
          | with_reducible refine w_ret ?_
          | with_reducible refine w_exit ?_
          | with_reducible refine w_block ?_
          | refine w_cond_true rfl ?_
          | refine w_cond_false rfl ?_
          | (refine w_cond_dec rfl (fun _ => ?_) (fun _ => ?_) <;> try (exfalso; omega))
          | (refine w_cond_ndec rfl (fun _ => ?_) (fun _ => ?_) <;> try (exfalso; omega))
          | refine w_cond_not rfl (fun _ => ?_) (fun _ => ?_)
          | refine w_cond rfl (fun _ => ?_) (fun _ => ?_)
          | ((with_reducible refine w_region (id := 9) ?_); (first | (refine wl_pure rfl rfl (pvm_move_i rfl) ?_) | (refine wl_pure rfl rfl pv_move ?_)); (first | (refine wl_pure rfl rfl (pvm_move_s rfl) ?_) | (refine wl_pure rfl rfl pv_move ?_)); refine wl_pure rfl rfl (pv_len_slice Fa.sl_22 rfl) ?_; refine wl_pure rfl rfl (pv_lss rfl rfl) ?_; refine wl_nil ?_)
          | ((with_reducible refine w_region (id := 11) ?_); refine wl_do rfl rfl (opw_allocRow (f := v32) (List.replicate 64 0) Fa.zero_88 fun b8 => ?_); refine wl_nil ?_)
          | ((with_reducible refine w_region (id := 12) ?_); (first | (refine wl_pure rfl rfl (pvm_move_i rfl) ?_) | (refine wl_pure rfl rfl pv_move ?_)); refine wl_nil ?_))
      refine w_loop2 (ι := Nat × List D) (fun x ρ ro3 own => x.1 ≤ 64 ∧ WInv blk x.1 x.2 ∧ Kn [(3, .pointer (some ⟨b3, 0, none⟩)), (4, .pointer (some ⟨b4, 0, none⟩)), (6, .slice a6 (filled xs).length c6), (7, .int .i64 (64 * (i : Int))), (8, .pointer (some ⟨b8, 0, none⟩)), (53, .int .i64 x.1)] ρ ∧ ro3 = ro'' ∧
        own = [g6, [(b3, arr v32 87 st)], [(b4, arr v32 88 K256)], [(b8, arr v32 88 x.2)]]) (fun x => 64 - x.1) (0, List.replicate 64 0) ⟨Nat.zero_le _, WInv.start blk, ⟨rfl, rfl, rfl, rfl, rfl, rfl, trivial⟩, rfl, rfl⟩ ?_
      rintro ⟨j, w⟩ ρ ro3 own ⟨hj, hw, hk, rfl, rfl⟩
      obtain ⟨ρ', rfl⟩ := hk.ex
      dsimp only at *
      have hwl := hw.1
      by_cases hlt3 : j < 64
      · by_cases hj16 : j < 16
        · have hcut := hr.cut (l := 64 * i + 4 * j) (m := 64 * i + 4 * j + 4) (by omega) (by omega)
          repeat' (first
              | with_reducible refine w_seq ?_
              | with_reducible refine thenP_n ?_
              | with_reducible refine thenP_x ?_
              | with_reducible refine thenP_r ?_
              | with_reducible refine blockP_n ?_
              | with_reducible refine blockP_r ?_
              | with_reducible refine blockP_eq ?_
              | with_reducible refine blockP_ne (by rfl) ?_
              | with_reducible refine w_skip ?_
              | with_reducible refine w_ret ?_
              | with_reducible refine w_exit ?_
              | with_reducible refine w_block ?_
              | refine w_cond_true rfl ?_
              | refine w_cond_false rfl ?_
              | (refine w_cond_dec rfl (fun _ => ?_) (fun _ => ?_) <;> try (exfalso; omega))
              | (refine w_cond_ndec rfl (fun _ => ?_) (fun _ => ?_) <;> try (exfalso; omega))
              | refine w_cond_not rfl (fun _ => ?_) (fun _ => ?_)
              | refine w_cond rfl (fun _ => ?_) (fun _ => ?_)
              | ((with_reducible refine w_region (id := 13) ?_); refine wl_pure rfl rfl (pv_lss rfl rfl) ?_; refine wl_nil ?_)
              | ((with_reducible refine w_region (id := 14) ?_); (first | (refine wl_pure rfl rfl (pvm_move_i rfl) ?_) | (refine wl_pure rfl rfl pv_move ?_)); (first | (refine wl_pure rfl rfl (pvm_assign_i rfl) ?_) | (refine wl_pure rfl rfl pv_assign ?_)); refine wl_nil ?_)
              | ((with_reducible refine w_region (id := 15) ?_); (first | (refine wl_pure rfl rfl (pvm_move_i rfl) ?_) | (refine wl_pure rfl rfl pv_move ?_)); refine wl_pure rfl rfl (pv_lss rfl rfl) ?_; refine wl_nil ?_)
              | ((with_reducible refine w_region (id := 16) ?_); (first | (refine wl_pure rfl rfl (pvm_move_i rfl) ?_) | (refine wl_pure rfl rfl pv_move ?_)); (first | (refine wl_pure rfl rfl (pvm_move_s rfl) ?_) | (refine wl_pure rfl rfl pv_move ?_)); (first | (refine wl_pure rfl rfl (pvm_move_i rfl) ?_) | (refine wl_pure rfl rfl pv_move ?_)); (first | (refine wl_pure rfl rfl (pvm_move_i rfl) ?_) | (refine wl_pure rfl rfl pv_move ?_)); (first | (refine wl_pure rfl rfl (pv_imul rfl rfl (by omega)) ?_) | (refine wl_pure rfl rfl (pv_mul rfl rfl) ?_)); (first | (refine wl_pure rfl rfl (pv_iadd rfl rfl (by omega)) ?_) | (refine wl_pure rfl rfl (pv_add rfl rfl) ?_)); (first | (refine wl_pure rfl rfl (pvm_move_i rfl) ?_) | (refine wl_pure rfl rfl pv_move ?_)); (first | (refine wl_pure rfl rfl (pvm_move_i rfl) ?_) | (refine wl_pure rfl rfl pv_move ?_)); (first | (refine wl_pure rfl rfl (pv_imul rfl rfl (by omega)) ?_) | (refine wl_pure rfl rfl (pv_mul rfl rfl) ?_)); (first | (refine wl_pure rfl rfl (pv_iadd rfl rfl (by omega)) ?_) | (refine wl_pure rfl rfl (pv_add rfl rfl) ?_)); (first | (refine wl_pure rfl rfl (pv_iadd rfl rfl (by omega)) ?_) | (refine wl_pure rfl rfl (pv_add rfl rfl) ?_)); refine wl_pure rfl rfl (pv_slice_lh Fa.sl_22 rfl rfl rfl (by omega) (by omega) (by omega)) ?_; refine wl_do rfl rfl (opw_call Fa.ca_49 rfl [] (number_c _ _ _ _ (by rw [List.length_take, List.length_drop]; omega) (by rw [List.length_take]; omega) r hcut) (hok _ _ (List.mem_cons_self ..)) (fun v own h => ?_)); obtain ⟨rfl, rfl⟩ := h; refine wl_pure rfl rfl (pv_indexAddr_arr1 Fa.ar_88 rfl rfl (by omega) (by omega)) ?_; (first | (refine wl_no rfl (opw_storeArr (f := v32) j 3 0 Fa.sz_35 rfl rfl rfl rfl rfl (by omega) (by omega) ?_)) | (refine wl_no rfl (opw_store 0 0 Fa.sz_35 rfl rfl rfl rfl rfl (Nat.le_of_ble_eq_true rfl) (noFr_zero _ _) ?_)) | (refine wl_no rfl (opw_store 1 0 Fa.sz_35 rfl rfl rfl rfl rfl (Nat.le_of_ble_eq_true rfl) (noFr_zero _ _) ?_)) | (refine wl_no rfl (opw_store 2 0 Fa.sz_35 rfl rfl rfl rfl rfl (Nat.le_of_ble_eq_true rfl) (noFr_zero _ _) ?_)) | (refine wl_no rfl (opw_store 3 0 Fa.sz_35 rfl rfl rfl rfl rfl (Nat.le_of_ble_eq_true rfl) (noFr_zero _ _) ?_)) | (refine wl_no rfl (opw_store 0 1 Fa.sz_35 rfl rfl rfl rfl rfl (Nat.le_of_ble_eq_true rfl) (noFr_zero _ _) ?_)) | (refine wl_no rfl (opw_store 1 1 Fa.sz_35 rfl rfl rfl rfl rfl (Nat.le_of_ble_eq_true rfl) (noFr_zero _ _) ?_)) | (refine wl_no rfl (opw_store 4 0 Fa.sz_35 rfl rfl rfl rfl rfl (Nat.le_of_ble_eq_true rfl) (noFr_zero _ _) ?_)) | (refine wl_no rfl (opw_store 2 1 Fa.sz_35 rfl rfl rfl rfl rfl (Nat.le_of_ble_eq_true rfl) (noFr_zero _ _) ?_)) | (refine wl_no rfl (opw_store 5 0 Fa.sz_35 rfl rfl rfl rfl rfl (Nat.le_of_ble_eq_true rfl) (noFr_zero _ _) ?_))); refine wl_nil ?_)
              | ((with_reducible refine w_region (id := 19) ?_); (first | (refine wl_pure rfl rfl (pv_iadd rfl rfl (by omega)) ?_) | (refine wl_pure rfl rfl (pv_add rfl rfl) ?_)); (first | (refine wl_pure rfl rfl (pvm_move_i rfl) ?_) | (refine wl_pure rfl rfl pv_move ?_)); refine wl_nil ?_))
          refine ⟨(j + 1, _), _, Sub.refl, ⟨by dsimp only; omega, hw.low hbl hj16 _ ?_, ⟨rfl, rfl, rfl, rfl, rfl, rfl, trivial⟩, rfl, rfl⟩, by dsimp only; omega⟩
          rw [hblk, List.drop_take, List.take_take, List.drop_drop, Nat.min_eq_left (by omega)]
          congr 1; omega
        · have g2 : w[0 + ((j : Int) - 2).toNat]? = some (w.getD (j - 2) 0) := by rw [show 0 + ((j : Int) - 2).toNat = j - 2 by omega]; exact getD_ofD (by omega)
          have g7 : w[0 + ((j : Int) - 7).toNat]? = some (w.getD (j - 7) 0) := by rw [show 0 + ((j : Int) - 7).toNat = j - 7 by omega]; exact getD_ofD (by omega)
          have g15 : w[0 + ((j : Int) - 15).toNat]? = some (w.getD (j - 15) 0) := by rw [show 0 + ((j : Int) - 15).toNat = j - 15 by omega]; exact getD_ofD (by omega)
          have g16 : w[0 + ((j : Int) - 16).toNat]? = some (w.getD (j - 16) 0) := by rw [show 0 + ((j : Int) - 16).toNat = j - 16 by omega]; exact getD_ofD (by omega)
          repeat' (first
              | with_reducible refine w_seq ?_
              | with_reducible refine thenP_n ?_
              | with_reducible refine thenP_x ?_
              | with_reducible refine thenP_r ?_
              | with_reducible refine blockP_n ?_
              | with_reducible refine blockP_r ?_
              | with_reducible refine blockP_eq ?_
              | with_reducible refine blockP_ne (by rfl) ?_
              | with_reducible refine w_skip ?_
              | with_reducible refine w_ret ?_
              | with_reducible refine w_exit ?_
              | with_reducible refine w_block ?_
              | refine w_cond_true rfl ?_
              | refine w_cond_false rfl ?_
              | (refine w_cond_dec rfl (fun _ => ?_) (fun _ => ?_) <;> try (exfalso; omega))
              | (refine w_cond_ndec rfl (fun _ => ?_) (fun _ => ?_) <;> try (exfalso; omega))
              | refine w_cond_not rfl (fun _ => ?_) (fun _ => ?_)
              | refine w_cond rfl (fun _ => ?_) (fun _ => ?_)
              | ((with_reducible refine w_region (id := 13) ?_); refine wl_pure rfl rfl (pv_lss rfl rfl) ?_; refine wl_nil ?_)
              | ((with_reducible refine w_region (id := 14) ?_); (first | (refine wl_pure rfl rfl (pvm_move_i rfl) ?_) | (refine wl_pure rfl rfl pv_move ?_)); (first | (refine wl_pure rfl rfl (pvm_assign_i rfl) ?_) | (refine wl_pure rfl rfl pv_assign ?_)); refine wl_nil ?_)
              | ((with_reducible refine w_region (id := 15) ?_); (first | (refine wl_pure rfl rfl (pvm_move_i rfl) ?_) | (refine wl_pure rfl rfl pv_move ?_)); refine wl_pure rfl rfl (pv_lss rfl rfl) ?_; refine wl_nil ?_)
              | (refine w_draw (id := 17) [] (hold [(b8, arr v32 88 w)]) Fa.mixed (hold_one 3 0 rfl) ?_; (first | (refine wh_pure 0 rfl (by kernel_rfl) rfl rfl (pvm_move_i rfl) ?_) | (refine wh_pure 0 rfl (by kernel_rfl) rfl rfl pv_move ?_)); (first | (refine wh_pure 1 rfl (by kernel_rfl) rfl rfl (pv_isub rfl rfl (by omega)) ?_) | (refine wh_pure 1 rfl (by kernel_rfl) rfl rfl (pv_sub rfl rfl) ?_)); refine wh_pure 2 rfl (by kernel_rfl) rfl rfl (pv_indexAddr_arr1 Fa.ar_88 rfl rfl (by omega) (by omega)) ?_; (first | (refine wh_load 3 rfl (by kernel_rfl) rfl rfl Fa.one_35 rfl (Has.rowh 0 rfl g15) ?_) | (refine wh_load 3 rfl (by kernel_rfl) rfl rfl Fa.one_35 rfl (Has.rowh 0 rfl g2) ?_) | (refine wh_load 3 rfl (by kernel_rfl) rfl rfl Fa.one_35 rfl (Has.hold 0 rfl rfl) ?_) | (refine wh_load 3 rfl (by kernel_rfl) rfl rfl Fa.one_35 rfl (Has.hold 1 rfl rfl) ?_) | (refine wh_load 3 rfl (by kernel_rfl) rfl rfl Fa.one_35 rfl (Has.hold 2 rfl rfl) ?_) | (refine wh_load 3 rfl (by kernel_rfl) rfl rfl Fa.one_35 rfl (Has.hold 3 rfl rfl) ?_)); (first | (refine wh_pure 4 rfl (by kernel_rfl) rfl rfl (pvm_move_i rfl) ?_) | (refine wh_pure 4 rfl (by kernel_rfl) rfl rfl pv_move ?_)); (first | (refine wh_pure 5 rfl (by kernel_rfl) rfl rfl (pv_isub rfl rfl (by omega)) ?_) | (refine wh_pure 5 rfl (by kernel_rfl) rfl rfl (pv_sub rfl rfl) ?_)); refine wh_pure 6 rfl (by kernel_rfl) rfl rfl (pv_indexAddr_arr1 Fa.ar_88 rfl rfl (by omega) (by omega)) ?_; (first | (refine wh_load 7 rfl (by kernel_rfl) rfl rfl Fa.one_35 rfl (Has.rowh 0 rfl g15) ?_) | (refine wh_load 7 rfl (by kernel_rfl) rfl rfl Fa.one_35 rfl (Has.rowh 0 rfl g2) ?_) | (refine wh_load 7 rfl (by kernel_rfl) rfl rfl Fa.one_35 rfl (Has.hold 0 rfl rfl) ?_) | (refine wh_load 7 rfl (by kernel_rfl) rfl rfl Fa.one_35 rfl (Has.hold 1 rfl rfl) ?_) | (refine wh_load 7 rfl (by kernel_rfl) rfl rfl Fa.one_35 rfl (Has.hold 2 rfl rfl) ?_) | (refine wh_load 7 rfl (by kernel_rfl) rfl rfl Fa.one_35 rfl (Has.hold 3 rfl rfl) ?_)); (first | (refine wh_pure 8 rfl (by kernel_rfl) rfl rfl (pvm_assign_32 rfl) ?_) | (refine wh_pure 8 rfl (by kernel_rfl) rfl rfl pv_assign ?_)); (first | (refine wh_pure 9 rfl (by kernel_rfl) rfl rfl (pvm_assign_32 rfl) ?_) | (refine wh_pure 9 rfl (by kernel_rfl) rfl rfl pv_assign ?_)); first | (refine wh_done (by kernel_rfl) ?_) | (refine wz_done (by kernel_rfl) ?_))
              | (refine w_draw (id := 18) [29] (hold [(b8, arr v32 88 w)]) Fa.mixed (hold_one 3 0 rfl) ?_; (first | (refine wh_pure 0 rfl (by kernel_rfl) rfl rfl (pvm_move_i rfl) ?_) | (refine wh_pure 0 rfl (by kernel_rfl) rfl rfl pv_move ?_)); (first | (refine wh_pure 1 rfl (by kernel_rfl) rfl rfl (pvm_move_i rfl) ?_) | (refine wh_pure 1 rfl (by kernel_rfl) rfl rfl pv_move ?_)); (first | (refine wh_pure 2 rfl (by kernel_rfl) rfl rfl (pv_isub rfl rfl (by omega)) ?_) | (refine wh_pure 2 rfl (by kernel_rfl) rfl rfl (pv_sub rfl rfl) ?_)); refine wh_pure 3 rfl (by kernel_rfl) rfl rfl (pv_indexAddr_arr1 Fa.ar_88 rfl rfl (by omega) (by omega)) ?_; (first | (refine wh_load 4 rfl (by kernel_rfl) rfl rfl Fa.one_35 rfl (Has.rowh 0 rfl g16) ?_) | (refine wh_load 4 rfl (by kernel_rfl) rfl rfl Fa.one_35 rfl (Has.rowh 0 rfl g7) ?_) | (refine wh_load 4 rfl (by kernel_rfl) rfl rfl Fa.one_35 rfl (Has.hold 0 rfl rfl) ?_) | (refine wh_load 4 rfl (by kernel_rfl) rfl rfl Fa.one_35 rfl (Has.hold 1 rfl rfl) ?_) | (refine wh_load 4 rfl (by kernel_rfl) rfl rfl Fa.one_35 rfl (Has.hold 2 rfl rfl) ?_) | (refine wh_load 4 rfl (by kernel_rfl) rfl rfl Fa.one_35 rfl (Has.hold 3 rfl rfl) ?_)); (first | (refine wh_pure 5 rfl (by kernel_rfl) rfl rfl (pvm_move_32 rfl) ?_) | (refine wh_pure 5 rfl (by kernel_rfl) rfl rfl pv_move ?_)); (first | (refine wh_pure 7 rfl (by kernel_rfl) rfl rfl (pvm_move_32 rfl) ?_) | (refine wh_pure 7 rfl (by kernel_rfl) rfl rfl pv_move ?_)); (first | (refine wh_pure 10 rfl (by kernel_rfl) rfl rfl (pvm_move_32 rfl) ?_) | (refine wh_pure 10 rfl (by kernel_rfl) rfl rfl pv_move ?_)); refine wh_pure 11 rfl (by kernel_rfl) rfl rfl (pv32_shr rfl rfl (by omega)) ?_; (first | (refine wh_pure 14 rfl (by kernel_rfl) rfl rfl (pvm_move_i rfl) ?_) | (refine wh_pure 14 rfl (by kernel_rfl) rfl rfl pv_move ?_)); (first | (refine wh_pure 15 rfl (by kernel_rfl) rfl rfl (pv_isub rfl rfl (by omega)) ?_) | (refine wh_pure 15 rfl (by kernel_rfl) rfl rfl (pv_sub rfl rfl) ?_)); refine wh_pure 16 rfl (by kernel_rfl) rfl rfl (pv_indexAddr_arr1 Fa.ar_88 rfl rfl (by omega) (by omega)) ?_; (first | (refine wh_load 17 rfl (by kernel_rfl) rfl rfl Fa.one_35 rfl (Has.rowh 0 rfl g16) ?_) | (refine wh_load 17 rfl (by kernel_rfl) rfl rfl Fa.one_35 rfl (Has.rowh 0 rfl g7) ?_) | (refine wh_load 17 rfl (by kernel_rfl) rfl rfl Fa.one_35 rfl (Has.hold 0 rfl rfl) ?_) | (refine wh_load 17 rfl (by kernel_rfl) rfl rfl Fa.one_35 rfl (Has.hold 1 rfl rfl) ?_) | (refine wh_load 17 rfl (by kernel_rfl) rfl rfl Fa.one_35 rfl (Has.hold 2 rfl rfl) ?_) | (refine wh_load 17 rfl (by kernel_rfl) rfl rfl Fa.one_35 rfl (Has.hold 3 rfl rfl) ?_)); (first | (refine wh_pure 19 rfl (by kernel_rfl) rfl rfl (pvm_move_32 rfl) ?_) | (refine wh_pure 19 rfl (by kernel_rfl) rfl rfl pv_move ?_)); (first | (refine wh_pure 21 rfl (by kernel_rfl) rfl rfl (pvm_move_32 rfl) ?_) | (refine wh_pure 21 rfl (by kernel_rfl) rfl rfl pv_move ?_)); (first | (refine wh_pure 24 rfl (by kernel_rfl) rfl rfl (pvm_move_32 rfl) ?_) | (refine wh_pure 24 rfl (by kernel_rfl) rfl rfl pv_move ?_)); refine wh_pure 25 rfl (by kernel_rfl) rfl rfl (pv32_shr rfl rfl (by omega)) ?_; refine wh_do 6 (by kernel_rfl) rfl rfl rfl rfl (opw_call Fa.ca_50 rfl [] (turn_c _ 7 (by omega) _) RoOk.self (fun v own h => ?_)); obtain ⟨rfl, rfl⟩ := h; refine ⟨(hold_one 3 0 rfl), ?_⟩; refine wh_do 8 (by kernel_rfl) rfl rfl rfl rfl (opw_call Fa.ca_50 rfl [] (turn_c _ 18 (by omega) _) RoOk.self (fun v own h => ?_)); obtain ⟨rfl, rfl⟩ := h; refine ⟨(hold_one 3 0 rfl), ?_⟩; refine wh_pure 9 rfl (by kernel_rfl) rfl rfl (pv32_xor rfl rfl) ?_; refine wh_pure 12 rfl (by kernel_rfl) rfl rfl (pv32_xor rfl rfl) ?_; refine wh_pure 13 rfl (by kernel_rfl) rfl rfl (pv32_add rfl rfl) ?_; refine wh_pure 18 rfl (by kernel_rfl) rfl rfl (pv32_add rfl rfl) ?_; refine wh_do 20 (by kernel_rfl) rfl rfl rfl rfl (opw_call Fa.ca_50 rfl [] (turn_c _ 17 (by omega) _) RoOk.self (fun v own h => ?_)); obtain ⟨rfl, rfl⟩ := h; refine ⟨(hold_one 3 0 rfl), ?_⟩; refine wh_do 22 (by kernel_rfl) rfl rfl rfl rfl (opw_call Fa.ca_50 rfl [] (turn_c _ 19 (by omega) _) RoOk.self (fun v own h => ?_)); obtain ⟨rfl, rfl⟩ := h; refine ⟨(hold_one 3 0 rfl), ?_⟩; refine wh_pure 23 rfl (by kernel_rfl) rfl rfl (pv32_xor rfl rfl) ?_; refine wh_pure 26 rfl (by kernel_rfl) rfl rfl (pv32_xor rfl rfl) ?_; refine wh_pure 27 rfl (by kernel_rfl) rfl rfl (pv32_add rfl rfl) ?_; refine wh_pure 28 rfl (by kernel_rfl) rfl rfl (pv_indexAddr_arr1 Fa.ar_88 rfl rfl (by omega) (by omega)) ?_; (first | (refine wh_rel 29 (by kernel_rfl) rfl rfl rfl rfl (opw_storeArr (f := v32) j 3 0 Fa.sz_35 rfl rfl rfl rfl rfl (by omega) (by omega) ?_)) | (refine wh_rel 29 (by kernel_rfl) rfl rfl rfl rfl (opw_store 0 0 Fa.sz_35 rfl rfl rfl rfl rfl (Nat.le_of_ble_eq_true rfl) (noFr_zero _ _) ?_)) | (refine wh_rel 29 (by kernel_rfl) rfl rfl rfl rfl (opw_store 1 0 Fa.sz_35 rfl rfl rfl rfl rfl (Nat.le_of_ble_eq_true rfl) (noFr_zero _ _) ?_)) | (refine wh_rel 29 (by kernel_rfl) rfl rfl rfl rfl (opw_store 2 0 Fa.sz_35 rfl rfl rfl rfl rfl (Nat.le_of_ble_eq_true rfl) (noFr_zero _ _) ?_)) | (refine wh_rel 29 (by kernel_rfl) rfl rfl rfl rfl (opw_store 3 0 Fa.sz_35 rfl rfl rfl rfl rfl (Nat.le_of_ble_eq_true rfl) (noFr_zero _ _) ?_)) | (refine wh_rel 29 (by kernel_rfl) rfl rfl rfl rfl (opw_store 0 1 Fa.sz_35 rfl rfl rfl rfl rfl (Nat.le_of_ble_eq_true rfl) (noFr_zero _ _) ?_)) | (refine wh_rel 29 (by kernel_rfl) rfl rfl rfl rfl (opw_store 1 1 Fa.sz_35 rfl rfl rfl rfl rfl (Nat.le_of_ble_eq_true rfl) (noFr_zero _ _) ?_)) | (refine wh_rel 29 (by kernel_rfl) rfl rfl rfl rfl (opw_store 4 0 Fa.sz_35 rfl rfl rfl rfl rfl (Nat.le_of_ble_eq_true rfl) (noFr_zero _ _) ?_)) | (refine wh_rel 29 (by kernel_rfl) rfl rfl rfl rfl (opw_store 2 1 Fa.sz_35 rfl rfl rfl rfl rfl (Nat.le_of_ble_eq_true rfl) (noFr_zero _ _) ?_)) | (refine wh_rel 29 (by kernel_rfl) rfl rfl rfl rfl (opw_store 5 0 Fa.sz_35 rfl rfl rfl rfl rfl (Nat.le_of_ble_eq_true rfl) (noFr_zero _ _) ?_))); first | (refine wh_done (by kernel_rfl) ?_) | (refine wz_done (by kernel_rfl) ?_))
              | ((with_reducible refine w_region (id := 19) ?_); (first | (refine wl_pure rfl rfl (pv_iadd rfl rfl (by omega)) ?_) | (refine wl_pure rfl rfl (pv_add rfl rfl) ?_)); (first | (refine wl_pure rfl rfl (pvm_move_i rfl) ?_) | (refine wl_pure rfl rfl pv_move ?_)); refine wl_nil ?_))
          refine ⟨(j + 1, _), _, Sub.refl, ⟨by dsimp only; omega, hw.high (by omega) hlt3 (add4 _ _ _ _), ⟨rfl, rfl, rfl, rfl, rfl, rfl, trivial⟩, rfl, rfl⟩, by dsimp only; omega⟩
      · obtain rfl : j = 64 := by omega
        obtain rfl := hw.all
        repeat' (first
            | with_reducible refine w_seq ?_
            | with_reducible refine thenP_n ?_
            | with_reducible refine thenP_x ?_
            | with_reducible refine thenP_r ?_
            | with_reducible refine blockP_n ?_
            | with_reducible refine blockP_r ?_
            | with_reducible refine blockP_eq ?_
            | with_reducible refine blockP_ne (by rfl) ?_
            | with_reducible refine w_skip ?_
            | with_reducible refine w_ret ?_
            | with_reducible refine w_exit ?_
            | with_reducible refine w_block ?_
            | refine w_cond_true rfl ?_
            | refine w_cond_false rfl ?_
            | (refine w_cond_dec rfl (fun _ => ?_) (fun _ => ?_) <;> try (exfalso; omega))
            | (refine w_cond_ndec rfl (fun _ => ?_) (fun _ => ?_) <;> try (exfalso; omega))
            | refine w_cond_not rfl (fun _ => ?_) (fun _ => ?_)
            | refine w_cond rfl (fun _ => ?_) (fun _ => ?_)
            | ((with_reducible refine w_region (id := 13) ?_); refine wl_pure rfl rfl (pv_lss rfl rfl) ?_; refine wl_nil ?_)
            | ((with_reducible refine w_region (id := 20) ?_); (first | (refine wl_do rfl rfl (opw_loadRow (f := v32) 0 0 Fa.many_87 Fa.sz_87 (by first | exact h8 | rfl) rfl rfl ?_)) | (refine wl_do rfl rfl (opw_loadRow (f := v32) 1 0 Fa.many_87 Fa.sz_87 (by first | exact h8 | rfl) rfl rfl ?_)) | (refine wl_do rfl rfl (opw_loadRow (f := v32) 2 0 Fa.many_87 Fa.sz_87 (by first | exact h8 | rfl) rfl rfl ?_)) | (refine wl_do rfl rfl (opw_loadRow (f := v32) 3 0 Fa.many_87 Fa.sz_87 (by first | exact h8 | rfl) rfl rfl ?_)) | (refine wl_do rfl rfl (opw_loadRow (f := v32) 0 1 Fa.many_87 Fa.sz_87 (by first | exact h8 | rfl) rfl rfl ?_)) | (refine wl_do rfl rfl (opw_loadRow (f := v32) 1 1 Fa.many_87 Fa.sz_87 (by first | exact h8 | rfl) rfl rfl ?_)) | (refine wl_do rfl rfl (opw_loadRow (f := v32) 4 0 Fa.many_87 Fa.sz_87 (by first | exact h8 | rfl) rfl rfl ?_)) | (refine wl_do rfl rfl (opw_loadRow (f := v32) 2 1 Fa.many_87 Fa.sz_87 (by first | exact h8 | rfl) rfl rfl ?_)) | (refine wl_do rfl rfl (opw_loadRow (f := v32) 5 0 Fa.many_87 Fa.sz_87 (by first | exact h8 | rfl) rfl rfl ?_))); refine wl_do rfl rfl (opw_allocRow (f := v32) (List.replicate 8 0) Fa.zero_87 fun b12 => ?_); (first | (refine wl_no rfl (opw_storeRow (f := v32) 0 0 Fa.sz_87 (by first | exact h8 | rfl) (fun _ => rfl) rfl rfl rfl rfl (by first | exact h8 | rfl) ?_)) | (refine wl_no rfl (opw_storeRow (f := v32) 1 0 Fa.sz_87 (by first | exact h8 | rfl) (fun _ => rfl) rfl rfl rfl rfl (by first | exact h8 | rfl) ?_)) | (refine wl_no rfl (opw_storeRow (f := v32) 2 0 Fa.sz_87 (by first | exact h8 | rfl) (fun _ => rfl) rfl rfl rfl rfl (by first | exact h8 | rfl) ?_)) | (refine wl_no rfl (opw_storeRow (f := v32) 3 0 Fa.sz_87 (by first | exact h8 | rfl) (fun _ => rfl) rfl rfl rfl rfl (by first | exact h8 | rfl) ?_)) | (refine wl_no rfl (opw_storeRow (f := v32) 0 1 Fa.sz_87 (by first | exact h8 | rfl) (fun _ => rfl) rfl rfl rfl rfl (by first | exact h8 | rfl) ?_)) | (refine wl_no rfl (opw_storeRow (f := v32) 1 1 Fa.sz_87 (by first | exact h8 | rfl) (fun _ => rfl) rfl rfl rfl rfl (by first | exact h8 | rfl) ?_)) | (refine wl_no rfl (opw_storeRow (f := v32) 4 0 Fa.sz_87 (by first | exact h8 | rfl) (fun _ => rfl) rfl rfl rfl rfl (by first | exact h8 | rfl) ?_)) | (refine wl_no rfl (opw_storeRow (f := v32) 2 1 Fa.sz_87 (by first | exact h8 | rfl) (fun _ => rfl) rfl rfl rfl rfl (by first | exact h8 | rfl) ?_)) | (refine wl_no rfl (opw_storeRow (f := v32) 5 0 Fa.sz_87 (by first | exact h8 | rfl) (fun _ => rfl) rfl rfl rfl rfl (by first | exact h8 | rfl) ?_))); refine wl_nil ?_)
            | ((with_reducible refine w_region (id := 21) ?_); (first | (refine wl_pure rfl rfl (pvm_move_i rfl) ?_) | (refine wl_pure rfl rfl pv_move ?_)); refine wl_nil ?_))
        refine w_loop2 (ι := Nat × List D) (fun x ρ ro4 own => x.1 ≤ 64 ∧ x.2.length = 8 ∧ Kn [(3, .pointer (some ⟨b3, 0, none⟩)), (4, .pointer (some ⟨b4, 0, none⟩)), (6, .slice a6 (filled xs).length c6), (7, .int .i64 (64 * (i : Int))), (8, .pointer (some ⟨b8, 0, none⟩)), (12, .pointer (some ⟨b12, 0, none⟩)), (111, .int .i64 x.1)] ρ ∧ ro4 = ro3 ∧
          own = [g6, [(b3, arr v32 87 st)], [(b4, arr v32 88 K256)], [(b8, arr v32 88 (words blk))], [(b12, arr v32 87 x.2)]] ∧ rnds (words blk) x.1 x.2 (64 - x.1) = rnds (words blk) 0 st 64) (fun x => 64 - x.1) (0, st) ⟨Nat.zero_le _, h8, ⟨rfl, rfl, rfl, rfl, rfl, rfl, rfl, trivial⟩, rfl, rfl, rfl⟩ ?_
        rintro ⟨k, x⟩ ρ ro4 own ⟨hk64, hx, hk, rfl, rfl, hr2⟩
        obtain ⟨ρ', rfl⟩ := hk.ex
        dsimp only at *
        by_cases hlt4 : k < 64
        · obtain ⟨x0, x1, x2, x3, x4, x5, x6, x7, rfl⟩ := len8 hx
          have hK : K256[0 + k]? = some (K256.getD k 0) := by rw [Nat.zero_add]; exact getD_ofD (by rw [K256_len]; exact hlt4)
          have hW : (words blk)[0 + k]? = some ((words blk).getD k 0) := by rw [Nat.zero_add]; exact getD_ofD (by rw [words_len]; exact hlt4)
          repeat' (first
              | with_reducible refine w_seq ?_
              | with_reducible refine thenP_n ?_
              | with_reducible refine thenP_x ?_
              | with_reducible refine thenP_r ?_
              | with_reducible refine blockP_n ?_
              | with_reducible refine blockP_r ?_
              | with_reducible refine blockP_eq ?_
              | with_reducible refine blockP_ne (by rfl) ?_
              | with_reducible refine w_skip ?_
              | with_reducible refine w_ret ?_
              | with_reducible refine w_exit ?_
              | with_reducible refine w_block ?_
              | refine w_cond_true rfl ?_
              | refine w_cond_false rfl ?_
              | (refine w_cond_dec rfl (fun _ => ?_) (fun _ => ?_) <;> try (exfalso; omega))
              | (refine w_cond_ndec rfl (fun _ => ?_) (fun _ => ?_) <;> try (exfalso; omega))
              | refine w_cond_not rfl (fun _ => ?_) (fun _ => ?_)
              | refine w_cond rfl (fun _ => ?_) (fun _ => ?_)
              | ((with_reducible refine w_region (id := 22) ?_); refine wl_pure rfl rfl (pv_lss rfl rfl) ?_; refine wl_nil ?_)
              | ((with_reducible refine w_region (id := 23) ?_); (first | (refine wl_pure rfl rfl (pvm_move_i rfl) ?_) | (refine wl_pure rfl rfl pv_move ?_)); (first | (refine wl_pure rfl rfl (pvm_assign_i rfl) ?_) | (refine wl_pure rfl rfl pv_assign ?_)); refine wl_nil ?_)
              | (refine w_draw (id := 24) [] (hold [(b12, arr v32 87 [x0, x1, x2, x3, x4, x5, x6, x7]), (b4, arr v32 88 K256), (b8, arr v32 88 (words blk))]) Fa.mixed (hold_ok (by simp)) ?_; refine wh_pure 0 rfl (by kernel_rfl) rfl rfl (pv_indexAddr_arr1 Fa.ar_87 rfl rfl (by omega) (by omega)) ?_; (first | (refine wh_load 1 rfl (by kernel_rfl) rfl rfl Fa.one_35 rfl (Has.rowh 1 rfl hK) ?_) | (refine wh_load 1 rfl (by kernel_rfl) rfl rfl Fa.one_35 rfl (Has.rowh 2 rfl hW) ?_) | (refine wh_load 1 rfl (by kernel_rfl) rfl rfl Fa.one_35 rfl (Has.hold 0 rfl rfl) ?_) | (refine wh_load 1 rfl (by kernel_rfl) rfl rfl Fa.one_35 rfl (Has.hold 1 rfl rfl) ?_) | (refine wh_load 1 rfl (by kernel_rfl) rfl rfl Fa.one_35 rfl (Has.hold 2 rfl rfl) ?_) | (refine wh_load 1 rfl (by kernel_rfl) rfl rfl Fa.one_35 rfl (Has.hold 3 rfl rfl) ?_)); refine wh_pure 2 rfl (by kernel_rfl) rfl rfl (pv_indexAddr_arr1 Fa.ar_87 rfl rfl (by omega) (by omega)) ?_; (first | (refine wh_load 3 rfl (by kernel_rfl) rfl rfl Fa.one_35 rfl (Has.rowh 1 rfl hK) ?_) | (refine wh_load 3 rfl (by kernel_rfl) rfl rfl Fa.one_35 rfl (Has.rowh 2 rfl hW) ?_) | (refine wh_load 3 rfl (by kernel_rfl) rfl rfl Fa.one_35 rfl (Has.hold 0 rfl rfl) ?_) | (refine wh_load 3 rfl (by kernel_rfl) rfl rfl Fa.one_35 rfl (Has.hold 1 rfl rfl) ?_) | (refine wh_load 3 rfl (by kernel_rfl) rfl rfl Fa.one_35 rfl (Has.hold 2 rfl rfl) ?_) | (refine wh_load 3 rfl (by kernel_rfl) rfl rfl Fa.one_35 rfl (Has.hold 3 rfl rfl) ?_)); refine wh_pure 5 rfl (by kernel_rfl) rfl rfl (pv_indexAddr_arr1 Fa.ar_87 rfl rfl (by omega) (by omega)) ?_; (first | (refine wh_load 6 rfl (by kernel_rfl) rfl rfl Fa.one_35 rfl (Has.rowh 1 rfl hK) ?_) | (refine wh_load 6 rfl (by kernel_rfl) rfl rfl Fa.one_35 rfl (Has.rowh 2 rfl hW) ?_) | (refine wh_load 6 rfl (by kernel_rfl) rfl rfl Fa.one_35 rfl (Has.hold 0 rfl rfl) ?_) | (refine wh_load 6 rfl (by kernel_rfl) rfl rfl Fa.one_35 rfl (Has.hold 1 rfl rfl) ?_) | (refine wh_load 6 rfl (by kernel_rfl) rfl rfl Fa.one_35 rfl (Has.hold 2 rfl rfl) ?_) | (refine wh_load 6 rfl (by kernel_rfl) rfl rfl Fa.one_35 rfl (Has.hold 3 rfl rfl) ?_)); refine wh_pure 9 rfl (by kernel_rfl) rfl rfl (pv_indexAddr_arr1 Fa.ar_87 rfl rfl (by omega) (by omega)) ?_; (first | (refine wh_load 10 rfl (by kernel_rfl) rfl rfl Fa.one_35 rfl (Has.rowh 1 rfl hK) ?_) | (refine wh_load 10 rfl (by kernel_rfl) rfl rfl Fa.one_35 rfl (Has.rowh 2 rfl hW) ?_) | (refine wh_load 10 rfl (by kernel_rfl) rfl rfl Fa.one_35 rfl (Has.hold 0 rfl rfl) ?_) | (refine wh_load 10 rfl (by kernel_rfl) rfl rfl Fa.one_35 rfl (Has.hold 1 rfl rfl) ?_) | (refine wh_load 10 rfl (by kernel_rfl) rfl rfl Fa.one_35 rfl (Has.hold 2 rfl rfl) ?_) | (refine wh_load 10 rfl (by kernel_rfl) rfl rfl Fa.one_35 rfl (Has.hold 3 rfl rfl) ?_)); refine wh_pure 14 rfl (by kernel_rfl) rfl rfl (pv_indexAddr_arr1 Fa.ar_87 rfl rfl (by omega) (by omega)) ?_; (first | (refine wh_load 15 rfl (by kernel_rfl) rfl rfl Fa.one_35 rfl (Has.rowh 1 rfl hK) ?_) | (refine wh_load 15 rfl (by kernel_rfl) rfl rfl Fa.one_35 rfl (Has.rowh 2 rfl hW) ?_) | (refine wh_load 15 rfl (by kernel_rfl) rfl rfl Fa.one_35 rfl (Has.hold 0 rfl rfl) ?_) | (refine wh_load 15 rfl (by kernel_rfl) rfl rfl Fa.one_35 rfl (Has.hold 1 rfl rfl) ?_) | (refine wh_load 15 rfl (by kernel_rfl) rfl rfl Fa.one_35 rfl (Has.hold 2 rfl rfl) ?_) | (refine wh_load 15 rfl (by kernel_rfl) rfl rfl Fa.one_35 rfl (Has.hold 3 rfl rfl) ?_)); refine wh_pure 16 rfl (by kernel_rfl) rfl rfl (pv_indexAddr_arr1 Fa.ar_87 rfl rfl (by omega) (by omega)) ?_; (first | (refine wh_load 17 rfl (by kernel_rfl) rfl rfl Fa.one_35 rfl (Has.rowh 1 rfl hK) ?_) | (refine wh_load 17 rfl (by kernel_rfl) rfl rfl Fa.one_35 rfl (Has.rowh 2 rfl hW) ?_) | (refine wh_load 17 rfl (by kernel_rfl) rfl rfl Fa.one_35 rfl (Has.hold 0 rfl rfl) ?_) | (refine wh_load 17 rfl (by kernel_rfl) rfl rfl Fa.one_35 rfl (Has.hold 1 rfl rfl) ?_) | (refine wh_load 17 rfl (by kernel_rfl) rfl rfl Fa.one_35 rfl (Has.hold 2 rfl rfl) ?_) | (refine wh_load 17 rfl (by kernel_rfl) rfl rfl Fa.one_35 rfl (Has.hold 3 rfl rfl) ?_)); refine wh_pure 18 rfl (by kernel_rfl) rfl rfl (pv32_and rfl rfl) ?_; refine wh_pure 19 rfl (by kernel_rfl) rfl rfl (pv_indexAddr_arr1 Fa.ar_87 rfl rfl (by omega) (by omega)) ?_; (first | (refine wh_load 20 rfl (by kernel_rfl) rfl rfl Fa.one_35 rfl (Has.rowh 1 rfl hK) ?_) | (refine wh_load 20 rfl (by kernel_rfl) rfl rfl Fa.one_35 rfl (Has.rowh 2 rfl hW) ?_) | (refine wh_load 20 rfl (by kernel_rfl) rfl rfl Fa.one_35 rfl (Has.hold 0 rfl rfl) ?_) | (refine wh_load 20 rfl (by kernel_rfl) rfl rfl Fa.one_35 rfl (Has.hold 1 rfl rfl) ?_) | (refine wh_load 20 rfl (by kernel_rfl) rfl rfl Fa.one_35 rfl (Has.hold 2 rfl rfl) ?_) | (refine wh_load 20 rfl (by kernel_rfl) rfl rfl Fa.one_35 rfl (Has.hold 3 rfl rfl) ?_)); refine wh_pure 21 rfl (by kernel_rfl) rfl rfl (pv32_not rfl) ?_; refine wh_pure 22 rfl (by kernel_rfl) rfl rfl (pv_indexAddr_arr1 Fa.ar_87 rfl rfl (by omega) (by omega)) ?_; (first | (refine wh_load 23 rfl (by kernel_rfl) rfl rfl Fa.one_35 rfl (Has.rowh 1 rfl hK) ?_) | (refine wh_load 23 rfl (by kernel_rfl) rfl rfl Fa.one_35 rfl (Has.rowh 2 rfl hW) ?_) | (refine wh_load 23 rfl (by kernel_rfl) rfl rfl Fa.one_35 rfl (Has.hold 0 rfl rfl) ?_) | (refine wh_load 23 rfl (by kernel_rfl) rfl rfl Fa.one_35 rfl (Has.hold 1 rfl rfl) ?_) | (refine wh_load 23 rfl (by kernel_rfl) rfl rfl Fa.one_35 rfl (Has.hold 2 rfl rfl) ?_) | (refine wh_load 23 rfl (by kernel_rfl) rfl rfl Fa.one_35 rfl (Has.hold 3 rfl rfl) ?_)); refine wh_pure 24 rfl (by kernel_rfl) rfl rfl (pv32_and rfl rfl) ?_; refine wh_pure 25 rfl (by kernel_rfl) rfl rfl (pv32_xor rfl rfl) ?_; (first | (refine wh_pure 27 rfl (by kernel_rfl) rfl rfl (pvm_move_i rfl) ?_) | (refine wh_pure 27 rfl (by kernel_rfl) rfl rfl pv_move ?_)); refine wh_pure 28 rfl (by kernel_rfl) rfl rfl (pv_indexAddr_arr1 Fa.ar_88 rfl rfl (by omega) (by omega)) ?_; (first | (refine wh_load 29 rfl (by kernel_rfl) rfl rfl Fa.one_35 rfl (Has.rowh 1 rfl hK) ?_) | (refine wh_load 29 rfl (by kernel_rfl) rfl rfl Fa.one_35 rfl (Has.rowh 2 rfl hW) ?_) | (refine wh_load 29 rfl (by kernel_rfl) rfl rfl Fa.one_35 rfl (Has.hold 0 rfl rfl) ?_) | (refine wh_load 29 rfl (by kernel_rfl) rfl rfl Fa.one_35 rfl (Has.hold 1 rfl rfl) ?_) | (refine wh_load 29 rfl (by kernel_rfl) rfl rfl Fa.one_35 rfl (Has.hold 2 rfl rfl) ?_) | (refine wh_load 29 rfl (by kernel_rfl) rfl rfl Fa.one_35 rfl (Has.hold 3 rfl rfl) ?_)); (first | (refine wh_pure 31 rfl (by kernel_rfl) rfl rfl (pvm_move_i rfl) ?_) | (refine wh_pure 31 rfl (by kernel_rfl) rfl rfl pv_move ?_)); refine wh_pure 32 rfl (by kernel_rfl) rfl rfl (pv_indexAddr_arr1 Fa.ar_88 rfl rfl (by omega) (by omega)) ?_; (first | (refine wh_load 33 rfl (by kernel_rfl) rfl rfl Fa.one_35 rfl (Has.rowh 1 rfl hK) ?_) | (refine wh_load 33 rfl (by kernel_rfl) rfl rfl Fa.one_35 rfl (Has.rowh 2 rfl hW) ?_) | (refine wh_load 33 rfl (by kernel_rfl) rfl rfl Fa.one_35 rfl (Has.hold 0 rfl rfl) ?_) | (refine wh_load 33 rfl (by kernel_rfl) rfl rfl Fa.one_35 rfl (Has.hold 1 rfl rfl) ?_) | (refine wh_load 33 rfl (by kernel_rfl) rfl rfl Fa.one_35 rfl (Has.hold 2 rfl rfl) ?_) | (refine wh_load 33 rfl (by kernel_rfl) rfl rfl Fa.one_35 rfl (Has.hold 3 rfl rfl) ?_)); refine wh_do 4 (by kernel_rfl) rfl rfl rfl rfl (opw_call Fa.ca_50 rfl [] (turn_c _ 6 (by omega) _) RoOk.self (fun v own h => ?_)); obtain ⟨rfl, rfl⟩ := h; refine ⟨(hold_ok (by simp [dr])), ?_⟩; refine wh_do 7 (by kernel_rfl) rfl rfl rfl rfl (opw_call Fa.ca_50 rfl [] (turn_c _ 11 (by omega) _) RoOk.self (fun v own h => ?_)); obtain ⟨rfl, rfl⟩ := h; refine ⟨(hold_ok (by simp [dr])), ?_⟩; refine wh_pure 8 rfl (by kernel_rfl) rfl rfl (pv32_xor rfl rfl) ?_; refine wh_do 11 (by kernel_rfl) rfl rfl rfl rfl (opw_call Fa.ca_50 rfl [] (turn_c _ 25 (by omega) _) RoOk.self (fun v own h => ?_)); obtain ⟨rfl, rfl⟩ := h; refine ⟨(hold_ok (by simp [dr])), ?_⟩; refine wh_pure 12 rfl (by kernel_rfl) rfl rfl (pv32_xor rfl rfl) ?_; refine wh_pure 13 rfl (by kernel_rfl) rfl rfl (pv32_add rfl rfl) ?_; refine wh_pure 26 rfl (by kernel_rfl) rfl rfl (pv32_add rfl rfl) ?_; refine wh_pure 30 rfl (by kernel_rfl) rfl rfl (pv32_add rfl rfl) ?_; refine wh_pure 34 rfl (by kernel_rfl) rfl rfl (pv32_add rfl rfl) ?_; (first | (refine wh_pure 35 rfl (by kernel_rfl) rfl rfl (pvm_assign_32 rfl) ?_) | (refine wh_pure 35 rfl (by kernel_rfl) rfl rfl pv_assign ?_)); first | (refine wh_done (by kernel_rfl) ?_) | (refine wz_done (by kernel_rfl) ?_))
              | (refine w_draw (id := 25) [] (hold [(b12, arr v32 87 [x0, x1, x2, x3, x4, x5, x6, x7])]) Fa.mixed (hold_ok (by simp [dr])) ?_; refine wh_pure 0 rfl (by kernel_rfl) rfl rfl (pv_indexAddr_arr1 Fa.ar_87 rfl rfl (by omega) (by omega)) ?_; (first | (refine wh_load 1 rfl (by kernel_rfl) rfl rfl Fa.one_35 rfl (Has.hold 0 rfl rfl) ?_) | (refine wh_load 1 rfl (by kernel_rfl) rfl rfl Fa.one_35 rfl (Has.hold 1 rfl rfl) ?_) | (refine wh_load 1 rfl (by kernel_rfl) rfl rfl Fa.one_35 rfl (Has.hold 2 rfl rfl) ?_) | (refine wh_load 1 rfl (by kernel_rfl) rfl rfl Fa.one_35 rfl (Has.hold 3 rfl rfl) ?_)); refine wh_pure 3 rfl (by kernel_rfl) rfl rfl (pv_indexAddr_arr1 Fa.ar_87 rfl rfl (by omega) (by omega)) ?_; (first | (refine wh_load 4 rfl (by kernel_rfl) rfl rfl Fa.one_35 rfl (Has.hold 0 rfl rfl) ?_) | (refine wh_load 4 rfl (by kernel_rfl) rfl rfl Fa.one_35 rfl (Has.hold 1 rfl rfl) ?_) | (refine wh_load 4 rfl (by kernel_rfl) rfl rfl Fa.one_35 rfl (Has.hold 2 rfl rfl) ?_) | (refine wh_load 4 rfl (by kernel_rfl) rfl rfl Fa.one_35 rfl (Has.hold 3 rfl rfl) ?_)); refine wh_pure 7 rfl (by kernel_rfl) rfl rfl (pv_indexAddr_arr1 Fa.ar_87 rfl rfl (by omega) (by omega)) ?_; (first | (refine wh_load 8 rfl (by kernel_rfl) rfl rfl Fa.one_35 rfl (Has.hold 0 rfl rfl) ?_) | (refine wh_load 8 rfl (by kernel_rfl) rfl rfl Fa.one_35 rfl (Has.hold 1 rfl rfl) ?_) | (refine wh_load 8 rfl (by kernel_rfl) rfl rfl Fa.one_35 rfl (Has.hold 2 rfl rfl) ?_) | (refine wh_load 8 rfl (by kernel_rfl) rfl rfl Fa.one_35 rfl (Has.hold 3 rfl rfl) ?_)); refine wh_pure 11 rfl (by kernel_rfl) rfl rfl (pv_indexAddr_arr1 Fa.ar_87 rfl rfl (by omega) (by omega)) ?_; (first | (refine wh_load 12 rfl (by kernel_rfl) rfl rfl Fa.one_35 rfl (Has.hold 0 rfl rfl) ?_) | (refine wh_load 12 rfl (by kernel_rfl) rfl rfl Fa.one_35 rfl (Has.hold 1 rfl rfl) ?_) | (refine wh_load 12 rfl (by kernel_rfl) rfl rfl Fa.one_35 rfl (Has.hold 2 rfl rfl) ?_) | (refine wh_load 12 rfl (by kernel_rfl) rfl rfl Fa.one_35 rfl (Has.hold 3 rfl rfl) ?_)); refine wh_pure 13 rfl (by kernel_rfl) rfl rfl (pv_indexAddr_arr1 Fa.ar_87 rfl rfl (by omega) (by omega)) ?_; (first | (refine wh_load 14 rfl (by kernel_rfl) rfl rfl Fa.one_35 rfl (Has.hold 0 rfl rfl) ?_) | (refine wh_load 14 rfl (by kernel_rfl) rfl rfl Fa.one_35 rfl (Has.hold 1 rfl rfl) ?_) | (refine wh_load 14 rfl (by kernel_rfl) rfl rfl Fa.one_35 rfl (Has.hold 2 rfl rfl) ?_) | (refine wh_load 14 rfl (by kernel_rfl) rfl rfl Fa.one_35 rfl (Has.hold 3 rfl rfl) ?_)); refine wh_pure 15 rfl (by kernel_rfl) rfl rfl (pv32_and rfl rfl) ?_; refine wh_pure 16 rfl (by kernel_rfl) rfl rfl (pv_indexAddr_arr1 Fa.ar_87 rfl rfl (by omega) (by omega)) ?_; (first | (refine wh_load 17 rfl (by kernel_rfl) rfl rfl Fa.one_35 rfl (Has.hold 0 rfl rfl) ?_) | (refine wh_load 17 rfl (by kernel_rfl) rfl rfl Fa.one_35 rfl (Has.hold 1 rfl rfl) ?_) | (refine wh_load 17 rfl (by kernel_rfl) rfl rfl Fa.one_35 rfl (Has.hold 2 rfl rfl) ?_) | (refine wh_load 17 rfl (by kernel_rfl) rfl rfl Fa.one_35 rfl (Has.hold 3 rfl rfl) ?_)); refine wh_pure 18 rfl (by kernel_rfl) rfl rfl (pv_indexAddr_arr1 Fa.ar_87 rfl rfl (by omega) (by omega)) ?_; (first | (refine wh_load 19 rfl (by kernel_rfl) rfl rfl Fa.one_35 rfl (Has.hold 0 rfl rfl) ?_) | (refine wh_load 19 rfl (by kernel_rfl) rfl rfl Fa.one_35 rfl (Has.hold 1 rfl rfl) ?_) | (refine wh_load 19 rfl (by kernel_rfl) rfl rfl Fa.one_35 rfl (Has.hold 2 rfl rfl) ?_) | (refine wh_load 19 rfl (by kernel_rfl) rfl rfl Fa.one_35 rfl (Has.hold 3 rfl rfl) ?_)); refine wh_pure 20 rfl (by kernel_rfl) rfl rfl (pv32_and rfl rfl) ?_; refine wh_pure 21 rfl (by kernel_rfl) rfl rfl (pv32_xor rfl rfl) ?_; refine wh_pure 22 rfl (by kernel_rfl) rfl rfl (pv_indexAddr_arr1 Fa.ar_87 rfl rfl (by omega) (by omega)) ?_; (first | (refine wh_load 23 rfl (by kernel_rfl) rfl rfl Fa.one_35 rfl (Has.hold 0 rfl rfl) ?_) | (refine wh_load 23 rfl (by kernel_rfl) rfl rfl Fa.one_35 rfl (Has.hold 1 rfl rfl) ?_) | (refine wh_load 23 rfl (by kernel_rfl) rfl rfl Fa.one_35 rfl (Has.hold 2 rfl rfl) ?_) | (refine wh_load 23 rfl (by kernel_rfl) rfl rfl Fa.one_35 rfl (Has.hold 3 rfl rfl) ?_)); refine wh_pure 24 rfl (by kernel_rfl) rfl rfl (pv_indexAddr_arr1 Fa.ar_87 rfl rfl (by omega) (by omega)) ?_; (first | (refine wh_load 25 rfl (by kernel_rfl) rfl rfl Fa.one_35 rfl (Has.hold 0 rfl rfl) ?_) | (refine wh_load 25 rfl (by kernel_rfl) rfl rfl Fa.one_35 rfl (Has.hold 1 rfl rfl) ?_) | (refine wh_load 25 rfl (by kernel_rfl) rfl rfl Fa.one_35 rfl (Has.hold 2 rfl rfl) ?_) | (refine wh_load 25 rfl (by kernel_rfl) rfl rfl Fa.one_35 rfl (Has.hold 3 rfl rfl) ?_)); refine wh_pure 26 rfl (by kernel_rfl) rfl rfl (pv32_and rfl rfl) ?_; refine wh_pure 27 rfl (by kernel_rfl) rfl rfl (pv32_xor rfl rfl) ?_; refine wh_do 2 (by kernel_rfl) rfl rfl rfl rfl (opw_call Fa.ca_50 rfl [] (turn_c _ 2 (by omega) _) RoOk.self (fun v own h => ?_)); obtain ⟨rfl, rfl⟩ := h; refine ⟨(hold_ok (by simp [dr])), ?_⟩; refine wh_do 5 (by kernel_rfl) rfl rfl rfl rfl (opw_call Fa.ca_50 rfl [] (turn_c _ 13 (by omega) _) RoOk.self (fun v own h => ?_)); obtain ⟨rfl, rfl⟩ := h; refine ⟨(hold_ok (by simp [dr])), ?_⟩; refine wh_pure 6 rfl (by kernel_rfl) rfl rfl (pv32_xor rfl rfl) ?_; refine wh_do 9 (by kernel_rfl) rfl rfl rfl rfl (opw_call Fa.ca_50 rfl [] (turn_c _ 22 (by omega) _) RoOk.self (fun v own h => ?_)); obtain ⟨rfl, rfl⟩ := h; refine ⟨(hold_ok (by simp [dr])), ?_⟩; refine wh_pure 10 rfl (by kernel_rfl) rfl rfl (pv32_xor rfl rfl) ?_; refine wh_pure 28 rfl (by kernel_rfl) rfl rfl (pv32_add rfl rfl) ?_; (first | (refine wh_pure 29 rfl (by kernel_rfl) rfl rfl (pvm_assign_32 rfl) ?_) | (refine wh_pure 29 rfl (by kernel_rfl) rfl rfl pv_assign ?_)); first | (refine wh_done (by kernel_rfl) ?_) | (refine wz_done (by kernel_rfl) ?_))
              | ((with_reducible refine w_region (id := 26) ?_); (first | (refine wl_pure rfl rfl (pvm_move_32 rfl) ?_) | (refine wl_pure rfl rfl pv_move ?_)); (first | (refine wl_pure rfl rfl (pvm_move_32 rfl) ?_) | (refine wl_pure rfl rfl pv_move ?_)); refine wl_pure rfl rfl (pv32_add rfl rfl) ?_; refine wl_pure rfl rfl (pv_indexAddr_arr1 Fa.ar_87 rfl rfl (by omega) (by omega)) ?_; (first | (refine wl_do rfl rfl (opw_load Fa.one_35 rfl (Has.own 0 0 rfl rfl) ?_)) | (refine wl_do rfl rfl (opw_load Fa.one_35 rfl (Has.own 1 0 rfl rfl) ?_)) | (refine wl_do rfl rfl (opw_load Fa.one_35 rfl (Has.own 2 0 rfl rfl) ?_)) | (refine wl_do rfl rfl (opw_load Fa.one_35 rfl (Has.own 3 0 rfl rfl) ?_)) | (refine wl_do rfl rfl (opw_load Fa.one_35 rfl (Has.own 0 1 rfl rfl) ?_)) | (refine wl_do rfl rfl (opw_load Fa.one_35 rfl (Has.own 1 1 rfl rfl) ?_)) | (refine wl_do rfl rfl (opw_load Fa.one_35 rfl (Has.own 4 0 rfl rfl) ?_)) | (refine wl_do rfl rfl (opw_load Fa.one_35 rfl (Has.own 2 1 rfl rfl) ?_)) | (refine wl_do rfl rfl (opw_load Fa.one_35 rfl (Has.own 5 0 rfl rfl) ?_))); refine wl_pure rfl rfl (pv_indexAddr_arr1 Fa.ar_87 rfl rfl (by omega) (by omega)) ?_; (first | (refine wl_do rfl rfl (opw_load Fa.one_35 rfl (Has.own 0 0 rfl rfl) ?_)) | (refine wl_do rfl rfl (opw_load Fa.one_35 rfl (Has.own 1 0 rfl rfl) ?_)) | (refine wl_do rfl rfl (opw_load Fa.one_35 rfl (Has.own 2 0 rfl rfl) ?_)) | (refine wl_do rfl rfl (opw_load Fa.one_35 rfl (Has.own 3 0 rfl rfl) ?_)) | (refine wl_do rfl rfl (opw_load Fa.one_35 rfl (Has.own 0 1 rfl rfl) ?_)) | (refine wl_do rfl rfl (opw_load Fa.one_35 rfl (Has.own 1 1 rfl rfl) ?_)) | (refine wl_do rfl rfl (opw_load Fa.one_35 rfl (Has.own 4 0 rfl rfl) ?_)) | (refine wl_do rfl rfl (opw_load Fa.one_35 rfl (Has.own 2 1 rfl rfl) ?_)) | (refine wl_do rfl rfl (opw_load Fa.one_35 rfl (Has.own 5 0 rfl rfl) ?_))); refine wl_pure rfl rfl (pv_indexAddr_arr1 Fa.ar_87 rfl rfl (by omega) (by omega)) ?_; (first | (refine wl_do rfl rfl (opw_load Fa.one_35 rfl (Has.own 0 0 rfl rfl) ?_)) | (refine wl_do rfl rfl (opw_load Fa.one_35 rfl (Has.own 1 0 rfl rfl) ?_)) | (refine wl_do rfl rfl (opw_load Fa.one_35 rfl (Has.own 2 0 rfl rfl) ?_)) | (refine wl_do rfl rfl (opw_load Fa.one_35 rfl (Has.own 3 0 rfl rfl) ?_)) | (refine wl_do rfl rfl (opw_load Fa.one_35 rfl (Has.own 0 1 rfl rfl) ?_)) | (refine wl_do rfl rfl (opw_load Fa.one_35 rfl (Has.own 1 1 rfl rfl) ?_)) | (refine wl_do rfl rfl (opw_load Fa.one_35 rfl (Has.own 4 0 rfl rfl) ?_)) | (refine wl_do rfl rfl (opw_load Fa.one_35 rfl (Has.own 2 1 rfl rfl) ?_)) | (refine wl_do rfl rfl (opw_load Fa.one_35 rfl (Has.own 5 0 rfl rfl) ?_))); refine wl_pure rfl rfl (pv_indexAddr_arr1 Fa.ar_87 rfl rfl (by omega) (by omega)) ?_; (first | (refine wl_do rfl rfl (opw_load Fa.one_35 rfl (Has.own 0 0 rfl rfl) ?_)) | (refine wl_do rfl rfl (opw_load Fa.one_35 rfl (Has.own 1 0 rfl rfl) ?_)) | (refine wl_do rfl rfl (opw_load Fa.one_35 rfl (Has.own 2 0 rfl rfl) ?_)) | (refine wl_do rfl rfl (opw_load Fa.one_35 rfl (Has.own 3 0 rfl rfl) ?_)) | (refine wl_do rfl rfl (opw_load Fa.one_35 rfl (Has.own 0 1 rfl rfl) ?_)) | (refine wl_do rfl rfl (opw_load Fa.one_35 rfl (Has.own 1 1 rfl rfl) ?_)) | (refine wl_do rfl rfl (opw_load Fa.one_35 rfl (Has.own 4 0 rfl rfl) ?_)) | (refine wl_do rfl rfl (opw_load Fa.one_35 rfl (Has.own 2 1 rfl rfl) ?_)) | (refine wl_do rfl rfl (opw_load Fa.one_35 rfl (Has.own 5 0 rfl rfl) ?_))); (first | (refine wl_pure rfl rfl (pvm_move_32 rfl) ?_) | (refine wl_pure rfl rfl pv_move ?_)); refine wl_pure rfl rfl (pv32_add rfl rfl) ?_; refine wl_pure rfl rfl (pv_indexAddr_arr1 Fa.ar_87 rfl rfl (by omega) (by omega)) ?_; (first | (refine wl_do rfl rfl (opw_load Fa.one_35 rfl (Has.own 0 0 rfl rfl) ?_)) | (refine wl_do rfl rfl (opw_load Fa.one_35 rfl (Has.own 1 0 rfl rfl) ?_)) | (refine wl_do rfl rfl (opw_load Fa.one_35 rfl (Has.own 2 0 rfl rfl) ?_)) | (refine wl_do rfl rfl (opw_load Fa.one_35 rfl (Has.own 3 0 rfl rfl) ?_)) | (refine wl_do rfl rfl (opw_load Fa.one_35 rfl (Has.own 0 1 rfl rfl) ?_)) | (refine wl_do rfl rfl (opw_load Fa.one_35 rfl (Has.own 1 1 rfl rfl) ?_)) | (refine wl_do rfl rfl (opw_load Fa.one_35 rfl (Has.own 4 0 rfl rfl) ?_)) | (refine wl_do rfl rfl (opw_load Fa.one_35 rfl (Has.own 2 1 rfl rfl) ?_)) | (refine wl_do rfl rfl (opw_load Fa.one_35 rfl (Has.own 5 0 rfl rfl) ?_))); refine wl_pure rfl rfl (pv_indexAddr_arr1 Fa.ar_87 rfl rfl (by omega) (by omega)) ?_; (first | (refine wl_do rfl rfl (opw_load Fa.one_35 rfl (Has.own 0 0 rfl rfl) ?_)) | (refine wl_do rfl rfl (opw_load Fa.one_35 rfl (Has.own 1 0 rfl rfl) ?_)) | (refine wl_do rfl rfl (opw_load Fa.one_35 rfl (Has.own 2 0 rfl rfl) ?_)) | (refine wl_do rfl rfl (opw_load Fa.one_35 rfl (Has.own 3 0 rfl rfl) ?_)) | (refine wl_do rfl rfl (opw_load Fa.one_35 rfl (Has.own 0 1 rfl rfl) ?_)) | (refine wl_do rfl rfl (opw_load Fa.one_35 rfl (Has.own 1 1 rfl rfl) ?_)) | (refine wl_do rfl rfl (opw_load Fa.one_35 rfl (Has.own 4 0 rfl rfl) ?_)) | (refine wl_do rfl rfl (opw_load Fa.one_35 rfl (Has.own 2 1 rfl rfl) ?_)) | (refine wl_do rfl rfl (opw_load Fa.one_35 rfl (Has.own 5 0 rfl rfl) ?_))); refine wl_pure rfl rfl (pv_indexAddr_arr1 Fa.ar_87 rfl rfl (by omega) (by omega)) ?_; (first | (refine wl_do rfl rfl (opw_load Fa.one_35 rfl (Has.own 0 0 rfl rfl) ?_)) | (refine wl_do rfl rfl (opw_load Fa.one_35 rfl (Has.own 1 0 rfl rfl) ?_)) | (refine wl_do rfl rfl (opw_load Fa.one_35 rfl (Has.own 2 0 rfl rfl) ?_)) | (refine wl_do rfl rfl (opw_load Fa.one_35 rfl (Has.own 3 0 rfl rfl) ?_)) | (refine wl_do rfl rfl (opw_load Fa.one_35 rfl (Has.own 0 1 rfl rfl) ?_)) | (refine wl_do rfl rfl (opw_load Fa.one_35 rfl (Has.own 1 1 rfl rfl) ?_)) | (refine wl_do rfl rfl (opw_load Fa.one_35 rfl (Has.own 4 0 rfl rfl) ?_)) | (refine wl_do rfl rfl (opw_load Fa.one_35 rfl (Has.own 2 1 rfl rfl) ?_)) | (refine wl_do rfl rfl (opw_load Fa.one_35 rfl (Has.own 5 0 rfl rfl) ?_))); refine wl_pure rfl rfl (pv_build_row (f := v32) (z := List.replicate 8 0) [_, _, _, _, _, _, _, _] Try.underlying87 Fa.sz_35 Fa.zero_87 rfl rfl (fun _ => rfl)) ?_; (first | (refine wl_no rfl (opw_storeRow (f := v32) 0 0 Fa.sz_87 rfl (fun _ => rfl) rfl rfl rfl rfl rfl ?_)) | (refine wl_no rfl (opw_storeRow (f := v32) 1 0 Fa.sz_87 rfl (fun _ => rfl) rfl rfl rfl rfl rfl ?_)) | (refine wl_no rfl (opw_storeRow (f := v32) 2 0 Fa.sz_87 rfl (fun _ => rfl) rfl rfl rfl rfl rfl ?_)) | (refine wl_no rfl (opw_storeRow (f := v32) 3 0 Fa.sz_87 rfl (fun _ => rfl) rfl rfl rfl rfl rfl ?_)) | (refine wl_no rfl (opw_storeRow (f := v32) 0 1 Fa.sz_87 rfl (fun _ => rfl) rfl rfl rfl rfl rfl ?_)) | (refine wl_no rfl (opw_storeRow (f := v32) 1 1 Fa.sz_87 rfl (fun _ => rfl) rfl rfl rfl rfl rfl ?_)) | (refine wl_no rfl (opw_storeRow (f := v32) 4 0 Fa.sz_87 rfl (fun _ => rfl) rfl rfl rfl rfl rfl ?_)) | (refine wl_no rfl (opw_storeRow (f := v32) 2 1 Fa.sz_87 rfl (fun _ => rfl) rfl rfl rfl rfl rfl ?_)) | (refine wl_no rfl (opw_storeRow (f := v32) 5 0 Fa.sz_87 rfl (fun _ => rfl) rfl rfl rfl rfl rfl ?_))); refine wl_nil ?_)
              | ((with_reducible refine w_region (id := 27) ?_); (first | (refine wl_pure rfl rfl (pv_iadd rfl rfl (by omega)) ?_) | (refine wl_pure rfl rfl (pv_add rfl rfl) ?_)); (first | (refine wl_pure rfl rfl (pvm_move_i rfl) ?_) | (refine wl_pure rfl rfl pv_move ?_)); refine wl_nil ?_))
          rw [show 64 - k = (64 - (k + 1)) + 1 by omega] at hr2
          refine ⟨(k + 1, rnd (K256.getD k 0) ((words blk).getD k 0) [x0, x1, x2, x3, x4, x5, x6, x7]), _, Sub.refl, ⟨by dsimp only; omega, rfl, ⟨rfl, rfl, rfl, rfl, rfl, rfl, rfl, trivial⟩, rfl, ?_, hr2⟩, by dsimp only; omega⟩
          rw [choice_x, most_x]; rfl
        · obtain rfl : k = 64 := by omega
          repeat' (first
              | with_reducible refine w_seq ?_
              | with_reducible refine thenP_n ?_
              | with_reducible refine thenP_x ?_
              | with_reducible refine thenP_r ?_
              | with_reducible refine blockP_n ?_
              | with_reducible refine blockP_r ?_
              | with_reducible refine blockP_eq ?_
              | with_reducible refine blockP_ne (by rfl) ?_
              | with_reducible refine w_skip ?_
              | with_reducible refine w_ret ?_
              | with_reducible refine w_exit ?_
              | with_reducible refine w_block ?_
              | refine w_cond_true rfl ?_
              | refine w_cond_false rfl ?_
              | (refine w_cond_dec rfl (fun _ => ?_) (fun _ => ?_) <;> try (exfalso; omega))
              | (refine w_cond_ndec rfl (fun _ => ?_) (fun _ => ?_) <;> try (exfalso; omega))
              | refine w_cond_not rfl (fun _ => ?_) (fun _ => ?_)
              | refine w_cond rfl (fun _ => ?_) (fun _ => ?_)
              | ((with_reducible refine w_region (id := 22) ?_); refine wl_pure rfl rfl (pv_lss rfl rfl) ?_; refine wl_nil ?_)
              | ((with_reducible refine w_region (id := 28) ?_); (first | (refine wl_pure rfl rfl (pvm_move_i rfl) ?_) | (refine wl_pure rfl rfl pv_move ?_)); refine wl_nil ?_))
          rw [Nat.sub_self] at hr2
          have hrx : x = rnds (words blk) 0 st 64 := hr2
          have hfin : takes st blk = List.zipWith (· + ·) st x := by rw [hrx]; rfl
          refine w_loop2 (ι := Nat × List D) (fun y ρ ro5 own => y.1 ≤ 8 ∧ y.2.length = 8 ∧ Kn [(3, .pointer (some ⟨b3, 0, none⟩)), (4, .pointer (some ⟨b4, 0, none⟩)), (6, .slice a6 (filled xs).length c6), (7, .int .i64 (64 * (i : Int))), (12, .pointer (some ⟨b12, 0, none⟩)), (199, .int .i64 y.1)] ρ ∧ ro5 = ro4 ∧
            own = [g6, [(b3, arr v32 87 y.2)], [(b4, arr v32 88 K256)], [(b8, arr v32 88 (words blk))], [(b12, arr v32 87 x)]] ∧ ∀ k, k < 8 → y.2.getD k 0 = if k < y.1 then st.getD k 0 + x.getD k 0 else st.getD k 0) (fun y => 8 - y.1) (0, st) ⟨Nat.zero_le _, h8, ⟨rfl, rfl, rfl, rfl, rfl, rfl, trivial⟩, rfl, rfl, fun k _ => rfl⟩ ?_
          rintro ⟨m, y⟩ ρ ro5 own ⟨hm8, hy, hk, rfl, rfl, hall⟩
          obtain ⟨ρ', rfl⟩ := hk.ex
          dsimp only at *
          by_cases hlt5 : m < 8
          · have hY : y[0 + m]? = some (y.getD m 0) := by rw [Nat.zero_add]; exact getD_ofD (by omega)
            have hX : x[0 + m]? = some (x.getD m 0) := by rw [Nat.zero_add]; exact getD_ofD (by omega)
            repeat' (first
                | with_reducible refine w_seq ?_
                | with_reducible refine thenP_n ?_
                | with_reducible refine thenP_x ?_
                | with_reducible refine thenP_r ?_
                | with_reducible refine blockP_n ?_
                | with_reducible refine blockP_r ?_
                | with_reducible refine blockP_eq ?_
                | with_reducible refine blockP_ne (by rfl) ?_
                | with_reducible refine w_skip ?_
                | with_reducible refine w_ret ?_
                | with_reducible refine w_exit ?_
                | with_reducible refine w_block ?_
                | refine w_cond_true rfl ?_
                | refine w_cond_false rfl ?_
                | (refine w_cond_dec rfl (fun _ => ?_) (fun _ => ?_) <;> try (exfalso; omega))
                | (refine w_cond_ndec rfl (fun _ => ?_) (fun _ => ?_) <;> try (exfalso; omega))
                | refine w_cond_not rfl (fun _ => ?_) (fun _ => ?_)
                | refine w_cond rfl (fun _ => ?_) (fun _ => ?_)
                | ((with_reducible refine w_region (id := 29) ?_); refine wl_pure rfl rfl (pv_lss rfl rfl) ?_; refine wl_nil ?_)
                | ((with_reducible refine w_region (id := 30) ?_); (first | (refine wl_pure rfl rfl (pvm_move_i rfl) ?_) | (refine wl_pure rfl rfl pv_move ?_)); (first | (refine wl_pure rfl rfl (pvm_assign_i rfl) ?_) | (refine wl_pure rfl rfl pv_assign ?_)); refine wl_nil ?_)
                | (refine w_draw (id := 31) [8] (hold [(b3, arr v32 87 y), (b12, arr v32 87 x)]) Fa.mixed (hold_ok (by simp)) ?_; (first | (refine wh_pure 0 rfl (by kernel_rfl) rfl rfl (pvm_move_i rfl) ?_) | (refine wh_pure 0 rfl (by kernel_rfl) rfl rfl pv_move ?_)); refine wh_pure 1 rfl (by kernel_rfl) rfl rfl (pv_indexAddr_arr1 Fa.ar_87 rfl rfl (by omega) (by omega)) ?_; (first | (refine wh_load 2 rfl (by kernel_rfl) rfl rfl Fa.one_35 rfl (Has.rowh 0 rfl hY) ?_) | (refine wh_load 2 rfl (by kernel_rfl) rfl rfl Fa.one_35 rfl (Has.rowh 1 rfl hX) ?_) | (refine wh_load 2 rfl (by kernel_rfl) rfl rfl Fa.one_35 rfl (Has.hold 0 rfl rfl) ?_) | (refine wh_load 2 rfl (by kernel_rfl) rfl rfl Fa.one_35 rfl (Has.hold 1 rfl rfl) ?_) | (refine wh_load 2 rfl (by kernel_rfl) rfl rfl Fa.one_35 rfl (Has.hold 2 rfl rfl) ?_) | (refine wh_load 2 rfl (by kernel_rfl) rfl rfl Fa.one_35 rfl (Has.hold 3 rfl rfl) ?_)); (first | (refine wh_pure 3 rfl (by kernel_rfl) rfl rfl (pvm_move_i rfl) ?_) | (refine wh_pure 3 rfl (by kernel_rfl) rfl rfl pv_move ?_)); refine wh_pure 4 rfl (by kernel_rfl) rfl rfl (pv_indexAddr_arr1 Fa.ar_87 rfl rfl (by omega) (by omega)) ?_; (first | (refine wh_load 5 rfl (by kernel_rfl) rfl rfl Fa.one_35 rfl (Has.rowh 0 rfl hY) ?_) | (refine wh_load 5 rfl (by kernel_rfl) rfl rfl Fa.one_35 rfl (Has.rowh 1 rfl hX) ?_) | (refine wh_load 5 rfl (by kernel_rfl) rfl rfl Fa.one_35 rfl (Has.hold 0 rfl rfl) ?_) | (refine wh_load 5 rfl (by kernel_rfl) rfl rfl Fa.one_35 rfl (Has.hold 1 rfl rfl) ?_) | (refine wh_load 5 rfl (by kernel_rfl) rfl rfl Fa.one_35 rfl (Has.hold 2 rfl rfl) ?_) | (refine wh_load 5 rfl (by kernel_rfl) rfl rfl Fa.one_35 rfl (Has.hold 3 rfl rfl) ?_)); refine wh_pure 6 rfl (by kernel_rfl) rfl rfl (pv32_add rfl rfl) ?_; refine wh_pure 7 rfl (by kernel_rfl) rfl rfl (pv_indexAddr_arr1 Fa.ar_87 rfl rfl (by omega) (by omega)) ?_; (first | (refine wh_rel 8 (by kernel_rfl) rfl rfl rfl rfl (opw_storeArr (f := v32) m 1 0 Fa.sz_35 rfl rfl rfl rfl rfl (by omega) (by omega) ?_)) | (refine wh_rel 8 (by kernel_rfl) rfl rfl rfl rfl (opw_store 0 0 Fa.sz_35 rfl rfl rfl rfl rfl (Nat.le_of_ble_eq_true rfl) (noFr_zero _ _) ?_)) | (refine wh_rel 8 (by kernel_rfl) rfl rfl rfl rfl (opw_store 1 0 Fa.sz_35 rfl rfl rfl rfl rfl (Nat.le_of_ble_eq_true rfl) (noFr_zero _ _) ?_)) | (refine wh_rel 8 (by kernel_rfl) rfl rfl rfl rfl (opw_store 2 0 Fa.sz_35 rfl rfl rfl rfl rfl (Nat.le_of_ble_eq_true rfl) (noFr_zero _ _) ?_)) | (refine wh_rel 8 (by kernel_rfl) rfl rfl rfl rfl (opw_store 3 0 Fa.sz_35 rfl rfl rfl rfl rfl (Nat.le_of_ble_eq_true rfl) (noFr_zero _ _) ?_)) | (refine wh_rel 8 (by kernel_rfl) rfl rfl rfl rfl (opw_store 0 1 Fa.sz_35 rfl rfl rfl rfl rfl (Nat.le_of_ble_eq_true rfl) (noFr_zero _ _) ?_)) | (refine wh_rel 8 (by kernel_rfl) rfl rfl rfl rfl (opw_store 1 1 Fa.sz_35 rfl rfl rfl rfl rfl (Nat.le_of_ble_eq_true rfl) (noFr_zero _ _) ?_)) | (refine wh_rel 8 (by kernel_rfl) rfl rfl rfl rfl (opw_store 4 0 Fa.sz_35 rfl rfl rfl rfl rfl (Nat.le_of_ble_eq_true rfl) (noFr_zero _ _) ?_)) | (refine wh_rel 8 (by kernel_rfl) rfl rfl rfl rfl (opw_store 2 1 Fa.sz_35 rfl rfl rfl rfl rfl (Nat.le_of_ble_eq_true rfl) (noFr_zero _ _) ?_)) | (refine wh_rel 8 (by kernel_rfl) rfl rfl rfl rfl (opw_store 5 0 Fa.sz_35 rfl rfl rfl rfl rfl (Nat.le_of_ble_eq_true rfl) (noFr_zero _ _) ?_))); first | (refine wh_done (by kernel_rfl) ?_) | (refine wz_done (by kernel_rfl) ?_))
                | ((with_reducible refine w_region (id := 32) ?_); (first | (refine wl_pure rfl rfl (pv_iadd rfl rfl (by omega)) ?_) | (refine wl_pure rfl rfl (pv_add rfl rfl) ?_)); (first | (refine wl_pure rfl rfl (pvm_move_i rfl) ?_) | (refine wl_pure rfl rfl pv_move ?_)); refine wl_nil ?_))
            refine ⟨(m + 1, _), _, Sub.refl, ⟨by dsimp only; omega, ?_, ⟨rfl, rfl, rfl, rfl, rfl, rfl, trivial⟩, rfl, rfl, ?_⟩, by dsimp only; omega⟩
            · dsimp only; rw [List.length_set]; exact hy
            · exact add8_step hy hlt5 hall
          · obtain rfl : m = 8 := by omega
            repeat' (first
                | with_reducible refine w_seq ?_
                | with_reducible refine thenP_n ?_
                | with_reducible refine thenP_x ?_
                | with_reducible refine thenP_r ?_
                | with_reducible refine blockP_n ?_
                | with_reducible refine blockP_r ?_
                | with_reducible refine blockP_eq ?_
                | with_reducible refine blockP_ne (by rfl) ?_
                | with_reducible refine w_skip ?_
                | with_reducible refine w_ret ?_
                | with_reducible refine w_exit ?_
                | with_reducible refine w_block ?_
                | refine w_cond_true rfl ?_
                | refine w_cond_false rfl ?_
                | (refine w_cond_dec rfl (fun _ => ?_) (fun _ => ?_) <;> try (exfalso; omega))
                | (refine w_cond_ndec rfl (fun _ => ?_) (fun _ => ?_) <;> try (exfalso; omega))
                | refine w_cond_not rfl (fun _ => ?_) (fun _ => ?_)
                | refine w_cond rfl (fun _ => ?_) (fun _ => ?_)
                | ((with_reducible refine w_region (id := 29) ?_); refine wl_pure rfl rfl (pv_lss rfl rfl) ?_; refine wl_nil ?_)
                | ((with_reducible refine w_region (id := 10) ?_); (first | (refine wl_pure rfl rfl (pvm_move_i rfl) ?_) | (refine wl_pure rfl rfl pv_move ?_)); (first | (refine wl_pure rfl rfl (pv_iadd rfl rfl (by omega)) ?_) | (refine wl_pure rfl rfl (pv_add rfl rfl) ?_)); (first | (refine wl_pure rfl rfl (pvm_assign_i rfl) ?_) | (refine wl_pure rfl rfl pv_assign ?_)); refine wl_nil ?_))
            have hyf : y = takes st blk := by rw [hfin]; exact zip8 h8 hx hy hall
            refine ⟨(i + 1, takes st blk), [g6, [(b3, arr v32 87 (takes st blk))], [(b4, arr v32 88 K256)]], by rw [← hyf]; exact Sub.pk' [0, 0, 0] rfl, ⟨by dsimp only; omega, takes_len h8, ⟨rfl, rfl, rfl, congrArg (Value.int .i64) (by dsimp only; omega), trivial⟩, rfl, rfl, ?_⟩, by dsimp only; omega⟩
            rw [sumsN_step (by omega), List.drop_drop, show 64 * i + 64 = 64 * (i + 1) by omega, show (filled xs).length / 64 - i - 1 = (filled xs).length / 64 - (i + 1) by omega, ← hblk] at he
            exact he
    · repeat' (first
          | with_reducible refine w_seq ?_
          | with_reducible refine thenP_n ?_
          | with_reducible refine thenP_x ?_
          | with_reducible refine thenP_r ?_
          | with_reducible refine blockP_n ?_
          | with_reducible refine blockP_r ?_
          | with_reducible refine blockP_eq ?_
          | with_reducible refine blockP_ne (by rfl) ?_
          | with_reducible refine w_skip ?_
          | with_reducible refine w_ret ?_
          | with_reducible refine w_exit ?_
          | with_reducible refine w_block ?_
          | refine w_cond_true rfl ?_
          | refine w_cond_false rfl ?_
          | (refine w_cond_dec rfl (fun _ => ?_) (fun _ => ?_) <;> try (exfalso; omega))
          | (refine w_cond_ndec rfl (fun _ => ?_) (fun _ => ?_) <;> try (exfalso; omega))
          | refine w_cond_not rfl (fun _ => ?_) (fun _ => ?_)
          | refine w_cond rfl (fun _ => ?_) (fun _ => ?_)
          | ((with_reducible refine w_region (id := 9) ?_); (first | (refine wl_pure rfl rfl (pvm_move_i rfl) ?_) | (refine wl_pure rfl rfl pv_move ?_)); (first | (refine wl_pure rfl rfl (pvm_move_s rfl) ?_) | (refine wl_pure rfl rfl pv_move ?_)); refine wl_pure rfl rfl (pv_len_slice Fa.sl_22 rfl) ?_; refine wl_pure rfl rfl (pv_lss rfl rfl) ?_; refine wl_nil ?_)
          | ((with_reducible refine w_region (id := 33) ?_); (first | (refine wl_pure rfl rfl (pvm_assign_s rfl) ?_) | (refine wl_pure rfl rfl pv_assign ?_)); refine wl_nil ?_)
          | ((with_reducible refine w_region (id := 34) ?_); (first | (refine wl_do rfl rfl (opw_loadRow (f := v32) 0 0 Fa.many_87 Fa.sz_87 h8 rfl rfl ?_)) | (refine wl_do rfl rfl (opw_loadRow (f := v32) 1 0 Fa.many_87 Fa.sz_87 h8 rfl rfl ?_)) | (refine wl_do rfl rfl (opw_loadRow (f := v32) 2 0 Fa.many_87 Fa.sz_87 h8 rfl rfl ?_)) | (refine wl_do rfl rfl (opw_loadRow (f := v32) 3 0 Fa.many_87 Fa.sz_87 h8 rfl rfl ?_)) | (refine wl_do rfl rfl (opw_loadRow (f := v32) 0 1 Fa.many_87 Fa.sz_87 h8 rfl rfl ?_)) | (refine wl_do rfl rfl (opw_loadRow (f := v32) 1 1 Fa.many_87 Fa.sz_87 h8 rfl rfl ?_)) | (refine wl_do rfl rfl (opw_loadRow (f := v32) 4 0 Fa.many_87 Fa.sz_87 h8 rfl rfl ?_)) | (refine wl_do rfl rfl (opw_loadRow (f := v32) 2 1 Fa.many_87 Fa.sz_87 h8 rfl rfl ?_)) | (refine wl_do rfl rfl (opw_loadRow (f := v32) 5 0 Fa.many_87 Fa.sz_87 h8 rfl rfl ?_))); (first | (refine wl_pure rfl rfl (pvm_move_i rfl) ?_) | (refine wl_pure rfl rfl pv_move ?_)); refine wl_nil ?_))
      rw [sumsN_zero (by omega)] at he
      refine w_sub (own' := [[]]) (Sub.pk' [] rfl) ?_
      refine w_loop2 (ι := Nat × Value × Blks) (fun x ρ ro3 own => x.1 ≤ 8 ∧ Kn [(211, agv v32 st), (17, x.2.1), (212, .int .i64 x.1)] ρ ∧ ro3 = ro'' ∧ own = [x.2.2] ∧ Sl v8 5 x.2.1 ((st.take x.1).flatMap be4) x.2.2) (fun x => 8 - x.1) (0, _, _) ⟨Nat.zero_le _, ⟨rfl, rfl, rfl, trivial⟩, rfl, rfl, Sl.nil⟩ ?_
      rintro ⟨j, v, g'⟩ ρ ro3 own ⟨hj, hk, rfl, rfl, hS⟩
      obtain ⟨ρ', rfl⟩ := hk.ex
      dsimp only at *
      by_cases hlt8 : j < 8
      · have hIx : st[j]? = some (st.getD j 0) := getD_ofD (by omega)
        have hLn := be4_len st j h8
        repeat' (first
            | with_reducible refine w_seq ?_
            | with_reducible refine thenP_n ?_
            | with_reducible refine thenP_x ?_
            | with_reducible refine thenP_r ?_
            | with_reducible refine blockP_n ?_
            | with_reducible refine blockP_r ?_
            | with_reducible refine blockP_eq ?_
            | with_reducible refine blockP_ne (by rfl) ?_
            | with_reducible refine w_skip ?_
            | with_reducible refine w_ret ?_
            | with_reducible refine w_exit ?_
            | with_reducible refine w_block ?_
            | refine w_cond_true rfl ?_
            | refine w_cond_false rfl ?_
            | (refine w_cond_dec rfl (fun _ => ?_) (fun _ => ?_) <;> try (exfalso; omega))
            | (refine w_cond_ndec rfl (fun _ => ?_) (fun _ => ?_) <;> try (exfalso; omega))
            | refine w_cond_not rfl (fun _ => ?_) (fun _ => ?_)
            | refine w_cond rfl (fun _ => ?_) (fun _ => ?_)
            | ((with_reducible refine w_region (id := 35) ?_); refine wl_pure rfl rfl (pv_lss rfl rfl) ?_; refine wl_nil ?_)
            | ((with_reducible refine w_region (id := 36) ?_); refine wl_pure rfl rfl (pv_indexRow (f := v32) Try.underlying87 Fa.sz_35 Fa.one_35 rfl rfl (by omega) (by omega) hIx) ?_; (first | (refine wl_pure rfl rfl (pvm_assign_32 rfl) ?_) | (refine wl_pure rfl rfl pv_assign ?_)); refine wl_nil ?_)
            | ((with_reducible refine w_region (id := 37) ?_); (first | (refine wl_pure rfl rfl (pvm_move_s rfl) ?_) | (refine wl_pure rfl rfl pv_move ?_)); (first | (refine wl_pure rfl rfl (pvm_move_32 rfl) ?_) | (refine wl_pure rfl rfl pv_move ?_)); refine wl_do rfl rfl (opw_call Fa.ca_48 rfl [] (four_c _ _) RoOk.self (fun v own h => ?_)); obtain ⟨gf, rfl, hgf⟩ := h; obtain ⟨af, cf, rfl, hlef⟩ := hgf.slice; refine wl_do rfl rfl (opw_append (f := v8) (xs := (st.take j).flatMap be4) (ys := be4 _) 1 Fa.sl_22 Fa.ei_5 (fun _ => rfl) 0 rfl rfl hS rfl rfl (Sl.rd hgf (i := 0) rfl) (by simp only [be4, List.length_cons, List.length_nil]; omega) (by omega) (fun v g h => ?_)); (first | (refine wl_pure rfl rfl (pvm_assign_s rfl) ?_) | (refine wl_pure rfl rfl pv_assign ?_)); refine wl_nil ?_)
            | ((with_reducible refine w_region (id := 38) ?_); (first | (refine wl_pure rfl rfl (pv_iadd rfl rfl (by omega)) ?_) | (refine wl_pure rfl rfl (pv_add rfl rfl) ?_)); (first | (refine wl_pure rfl rfl (pvm_move_i rfl) ?_) | (refine wl_pure rfl rfl pv_move ?_)); refine wl_nil ?_))
        refine ⟨(j + 1, _, _), [_], Sub.pk' [1] rfl, ⟨hlt8, ⟨rfl, rfl, rfl, trivial⟩, rfl, rfl, ?_⟩, by dsimp only; omega⟩
        dsimp only
        rw [be4_take (by omega)]
        assumption
      · obtain rfl : j = 8 := by omega
        repeat' (first
            | with_reducible refine w_seq ?_
            | with_reducible refine thenP_n ?_
            | with_reducible refine thenP_x ?_
            | with_reducible refine thenP_r ?_
            | with_reducible refine blockP_n ?_
            | with_reducible refine blockP_r ?_
            | with_reducible refine blockP_eq ?_
            | with_reducible refine blockP_ne (by rfl) ?_
            | with_reducible refine w_skip ?_
            | with_reducible refine w_ret ?_
            | with_reducible refine w_exit ?_
            | with_reducible refine w_block ?_
            | refine w_cond_true rfl ?_
            | refine w_cond_false rfl ?_
            | (refine w_cond_dec rfl (fun _ => ?_) (fun _ => ?_) <;> try (exfalso; omega))
            | (refine w_cond_ndec rfl (fun _ => ?_) (fun _ => ?_) <;> try (exfalso; omega))
            | refine w_cond_not rfl (fun _ => ?_) (fun _ => ?_)
            | refine w_cond rfl (fun _ => ?_) (fun _ => ?_)
            | ((with_reducible refine w_region (id := 35) ?_); refine wl_pure rfl rfl (pv_lss rfl rfl) ?_; refine wl_nil ?_)
            | ((with_reducible refine w_region (id := 39) ?_); (first | (refine wl_pure rfl rfl (pvm_move_s rfl) ?_) | (refine wl_pure rfl rfl pv_move ?_)); (first | (refine wl_pure rfl rfl (pvm_assign_s rfl) ?_) | (refine wl_pure rfl rfl pv_assign ?_)); refine wl_nil ?_))
        rw [List.take_of_length_le (by omega), he] at hS
        exact ret_r rfl ⟨_, rfl, hS⟩
end
end Go.Proofs.Ytnohdfhhdppflaa
