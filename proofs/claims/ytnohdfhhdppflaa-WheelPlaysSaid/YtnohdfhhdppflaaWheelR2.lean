/- The reference's wheels, walked: OpenWheel. -/
import Derived.Test.YtnohdfhhdppflaaWheelR
namespace Go.Proofs.Ytnohdfhhdppflaa
open Go Go.Vc Go.Fl Go.Sha
set_option linter.unusedVariables false
set_option linter.unusedSimpArgs false
set_option maxRecDepth 100000
set_option maxHeartbeats 4000000
namespace FaWheelR2
theorem ca_49 : callable Try.prog 49 = true := by kernel_rfl
theorem ca_61 : callable Try.prog 61 = true := by kernel_rfl
theorem ca_62 : callable Try.prog 62 = true := by kernel_rfl
theorem ca_63 : callable Try.prog 63 = true := by kernel_rfl
theorem ca_64 : callable Try.prog 64 = true := by kernel_rfl
theorem ei_104 : elemInfo Try.prog 104 = some (2, 32, (.agg #[(.int .u32 0), (.slice none 0 0)])) := by kernel_rfl
theorem fo_53_0 : fieldOff Try.prog 53 0 = some 0 := by kernel_rfl
theorem fo_53_3 : fieldOff Try.prog 53 3 = some 16 := by kernel_rfl
theorem fo_70_3 : fieldOff Try.prog 70 3 = some 3 := by kernel_rfl
theorem fo_70_4 : fieldOff Try.prog 70 4 = some 4 := by kernel_rfl
theorem fo_70_5 : fieldOff Try.prog 70 5 = some 5 := by kernel_rfl
theorem one_22 : isOne Try.prog 22 = true := by kernel_rfl
theorem one_3 : isOne Try.prog 3 = true := by kernel_rfl
theorem one_4 : isOne Try.prog 4 = true := by kernel_rfl
theorem one_5 : isOne Try.prog 5 = true := by kernel_rfl
theorem one_67 : isOne Try.prog 67 = true := by kernel_rfl
theorem pl_104 : ∀ w, ((structF Try.prog 104).mapM fun f => do pure (f.offset, ← sizeOf f.type) : Sem (Array (Nat × Nat))).run Try.prog w = .ok #[(0, 1), (1, 1)] w := fun w => by kernel_rfl
theorem pl_70 : ∀ w, ((structF Try.prog 70).mapM fun f => do pure (f.offset, ← sizeOf f.type) : Sem (Array (Nat × Nat))).run Try.prog w = .ok #[(0, 1), (1, 1), (2, 1), (3, 1), (4, 1), (5, 1)] w := fun w => by kernel_rfl
theorem sf_104 : Try.prog.underlying 104 = some (.struct (structF Try.prog 104)) := by kernel_rfl
theorem sf_70 : Try.prog.underlying 70 = some (.struct (structF Try.prog 70)) := by kernel_rfl
theorem sl_22 : sliceOf Try.prog 22 = some (5, 1) := by kernel_rfl
theorem sl_67 : sliceOf Try.prog 67 = some (104, 2) := by kernel_rfl
theorem sz_104 : sz Try.prog 104 = some 2 := by kernel_rfl
theorem sz_3 : sz Try.prog 3 = some 1 := by kernel_rfl
theorem sz_67 : sz Try.prog 67 = some 1 := by kernel_rfl
theorem zero_104 : zeroOf Try.prog 104 = some (.agg #[(.int .u32 0), (.slice none 0 0)]) := by kernel_rfl
theorem zero_70 : zeroOf Try.prog 70 = some (.agg #[(.pointer none), (.int .u32 0), (.int .i64 0), (.slice none 0 0), (.int .i64 0), (.int .i64 0)]) := by kernel_rfl
instance : Fb (callable Try.prog 49) := ⟨ca_49⟩
instance : Fb (callable Try.prog 61) := ⟨ca_61⟩
instance : Fb (callable Try.prog 62) := ⟨ca_62⟩
instance : Fb (callable Try.prog 63) := ⟨ca_63⟩
instance : Fb (callable Try.prog 64) := ⟨ca_64⟩
instance : Ft (elemInfo Try.prog 104) (2, 32, (.agg #[(.int .u32 0), (.slice none 0 0)])) := ⟨ei_104⟩
instance : Ft (fieldOff Try.prog 53 0) (0) := ⟨fo_53_0⟩
instance : Ft (fieldOff Try.prog 53 3) (16) := ⟨fo_53_3⟩
instance : Ft (fieldOff Try.prog 70 3) (3) := ⟨fo_70_3⟩
instance : Ft (fieldOff Try.prog 70 4) (4) := ⟨fo_70_4⟩
instance : Ft (fieldOff Try.prog 70 5) (5) := ⟨fo_70_5⟩
instance : Fb (isOne Try.prog 22) := ⟨one_22⟩
instance : Fb (isOne Try.prog 3) := ⟨one_3⟩
instance : Fb (isOne Try.prog 4) := ⟨one_4⟩
instance : Fb (isOne Try.prog 5) := ⟨one_5⟩
instance : Fb (isOne Try.prog 67) := ⟨one_67⟩
instance : Ft (Try.prog.underlying 104) (.struct (structF Try.prog 104)) := ⟨sf_104⟩
instance : Ft (Try.prog.underlying 70) (.struct (structF Try.prog 70)) := ⟨sf_70⟩
instance : Ft (sliceOf Try.prog 22) (5, 1) := ⟨sl_22⟩
instance : Ft (sliceOf Try.prog 67) (104, 2) := ⟨sl_67⟩
instance : Ft (sz Try.prog 104) (2) := ⟨sz_104⟩
instance : Ft (sz Try.prog 3) (1) := ⟨sz_3⟩
instance : Ft (sz Try.prog 67) (1) := ⟨sz_67⟩
instance : Ft (zeroOf Try.prog 104) (.agg #[(.int .u32 0), (.slice none 0 0)]) := ⟨zero_104⟩
instance : Ft (zeroOf Try.prog 70) (.agg #[(.pointer none), (.int .u32 0), (.int .i64 0), (.slice none 0 0), (.int .i64 0), (.int .i64 0)]) := ⟨zero_70⟩
instance : Ft (Try.prog.underlying 67) (.slice 104) := ⟨Try.underlying67⟩
end FaWheelR2
attribute [local irreducible] PV OpW WL WM WH WZ W C Has RoOk

theorem next_ix {s : Fs} {gen : D} {n sec i : Nat} (h1 : 1 ≤ n) (h2 : n ≤ 16) (hs : sec < 8) (hi : i < places n) (counts : Bool) (hc : counts = !(s.recAt gen n (sec * places n)).isNone) :
    ∃ sec' i', sec' * places n + i' = sec * places n + i + 1 ∧ i' < places n ∧ sec' ≤ 8 ∧ (0 < i' → counts = !(s.recAt gen n (sec' * places n)).isNone) ∧ partW s gen n sec' i' = partW s gen n sec (i + 1) ∧ (sec' = 8 → i' = 0) := by
  by_cases h : i + 1 = places n
  · refine ⟨sec + 1, 0, ?_, by omega, by omega, fun h => by omega, ?_, fun _ => rfl⟩
    · rw [Nat.add_mul]; omega
    · rw [partW_zero, h, partW_all s gen n sec h1 h2 (by omega)]
  · exact ⟨sec, i + 1, by omega, by omega, by omega, fun _ => hc, rfl, fun h => by omega⟩
theorem openR_c (fp q : Nat) (s t : Fs) (h : Rel s t) (hd : s.down = false) (gen : D) (n : Nat) (h1 : 1 ≤ n) (h2 : n ≤ 16) (ro : RO) :
    C Try.prog 29 #[.pointer (some ⟨fp, 0, none⟩), v32 gen, .int .i64 n] ro [refG fp q t] fun v own => ∃ pw lv lG rs, v = .tuple #[.pointer (some ⟨pw, 0, none⟩), .int .i64 0] ∧ own = [[(pw, refWObj fp (openW s gen n) lv)], lG, dG rs, refG fp q t] ∧ WhG (openW s gen n) lv lG rs ∧ rs.length ≤ 152 := by
  obtain ⟨hp3, hp4⟩ := places_le h2
  have hbl := Fs.bs_len h.len
  have htl := h.tlen
  have hdt : t.down = false := h.down.trans hd
  obtain ⟨hk0, hk1, hk2, hk3⟩ := partW_ok (s := s) (gen := gen) (sec := 0) (i := 0) h1 h2 (by omega)
  refine c_of_w2 (n := 160) Try.func29 rfl rfl rfl (by rfl) fun E => ?_
  repeat' (first | ((with_reducible refine g_wl ?_); (first | refine kN ?_ | ((with_reducible refine g_gd ?_); (first | refine kg rfl ?_ | refine ks rfl ?_ | refine kc rfl rfl rfl (fun _ => ?_) (fun _ => ?_))) | ((with_reducible refine g_mv ?_); (first | refine kp (pvm_move_b rfl) ?_ | refine kp (pvm_move_p rfl) ?_ | refine kp (pvm_move_32 rfl) ?_ | refine kp (pvm_move_i rfl) ?_)) | ((with_reducible refine g_as ?_); (first | refine kp (pvm_assign_p rfl) ?_ | refine kp (pvm_assign_i rfl) ?_)) | ((with_reducible refine g_pk ?_); (first | refine kp (pvk_t_b rfl rfl) ?_ | refine kp (pvk_f_b rfl rfl) ?_)) | ((with_reducible refine g_bo ?_); (first | refine kp (pv_lss rfl rfl) ?_ | refine kp (pv_gtr rfl rfl) ?_)) | ((with_reducible refine g_ld ?_); (refine kd (opw_load Fb.h rfl (Has.own 0 0 rfl rfl) ?_))) | refine kp (pv_nilCheck rfl) ?_ | refine kp (pv_fieldAddr Ft.h rfl) ?_ | refine kp (pv_build_structL (fs := structF Try.prog 70) FaWheelR2.sf_70 FaWheelR2.zero_70 FaWheelR2.pl_70 rfl) ?_ | refine kd (d := 34) (opw_box fun b34 => ?_))) | with_reducible refine w_seq ?_ | with_reducible refine thenP_n ?_ | with_reducible refine thenP_r ?_ | with_reducible refine w_skip ?_ | with_reducible refine w_ret ?_ | refine w_cond_true rfl ?_ | (refine w_cond_dec rfl (fun _ => ?_) (fun _ => ?_) <;> try (exfalso; omega)) | refine w_cond rfl (fun _ => ?_) (fun _ => ?_) | refine wr (id := 0) rfl ?_ | refine wr (id := 1) rfl ?_ | refine wr (id := 2) rfl ?_ | refine wr (id := 3) rfl ?_ | refine wr (id := 4) rfl ?_ | refine wr (id := 5) rfl ?_)
  all_goals try (exfalso; omega)
  · have hx : t.down = true := ‹_›
    rw [hdt] at hx; cases hx
  refine w_sub (own' := [[(b34, refWObj fp (partW s gen n 0 0) (.slice none 0 0))], [], dG [], refG fp q t]) (by rw [partW_zero]; exact Sub.pk' [1, 0] rfl) ?_
  repeat' (first | ((with_reducible refine g_wl ?_); (first | refine kN ?_ | ((with_reducible refine g_mv ?_); (first | refine kp (pvm_move_p rfl) ?_ | refine kp (pvm_move_i rfl) ?_)) | ((with_reducible refine g_as ?_); (first | refine kp (pvm_assign_b rfl) ?_ | refine kp (pvm_assign_i rfl) ?_)) | ((with_reducible refine g_bo ?_); (refine kp (pv_imul rfl rfl (by omega)) ?_)) | ((with_reducible refine g_cf 61 ?_); (refine kd (opw_call Fb.h rfl [0] (placesR_c b34 fp _ _ hk0 _) RoOk.self (fun v own h => ?_)); obtain ⟨rfl, rfl⟩ := h; rw [hk1])))) | with_reducible refine w_seq ?_ | with_reducible refine thenP_n ?_ | with_reducible refine w_block ?_ | refine wr (id := 6) rfl ?_ | refine wr (id := 7) rfl ?_ | refine wr (id := 8) rfl ?_)
  refine w_loop2 (ι := (Nat × Nat) × Bool × Value × Blks × List RV) (fun x ρ ro' own => x.1.1 ≤ 8 ∧ x.1.2 < places n ∧ (x.1.1 = 8 → x.1.2 = 0) ∧ (0 < x.1.2 → x.2.1 = !(s.recAt gen n (x.1.1 * places n)).isNone) ∧ Kn [(0, .pointer (some ⟨fp, 0, none⟩)), (1, v32 gen), (2, .int .i64 n), (8, .pointer (some ⟨b34, 0, none⟩)), (9, .int .i64 (places n : Int)), (10, .bool x.2.1), (38, .int .i64 ((places n : Int) * 8)), (39, .int .i64 ((x.1.1 * places n + x.1.2 : Nat) : Int))] ρ ∧ ro' = ro ∧ own = [[(b34, refWObj fp (partW s gen n x.1.1 x.1.2) x.2.2.1)], x.2.2.2.1, dG x.2.2.2.2, refG fp q t] ∧ WhG (partW s gen n x.1.1 x.1.2) x.2.2.1 x.2.2.2.1 x.2.2.2.2 ∧ x.2.2.2.2.length ≤ x.1.1 * places n + x.1.2) (fun x => 8 * places n - (x.1.1 * places n + x.1.2)) ((0, 0), false, _, [], [])
    ⟨Nat.zero_le _, by show 0 < places n; omega, fun h => rfl, (by intro h; cases h), ⟨rfl, rfl, rfl, rfl, rfl, rfl, rfl, by simp; rfl, trivial⟩, rfl, rfl, ⟨SlM.nil, by rw [partW_zero]; rfl, (by intro r hr; cases hr), Nat.zero_le _⟩, Nat.zero_le _⟩ ?_
  rintro ⟨⟨sec, i⟩, counts, lv, lG, rs⟩ ρ ro' own ⟨hs8, hipl, h80, hcnt, hk, rfl, rfl, hw, hrl⟩
  obtain ⟨ρ', rfl⟩ := hk.ex
  dsimp only at *
  obtain ⟨p, hp⟩ : ∃ p, p = sec * places n + i := ⟨_, rfl⟩
  rw [← hp] at hrl ⊢
  by_cases hlt : sec < 8
  · have hp8 : p < 8 * places n := by
      have : (sec + 1) * places n ≤ 8 * places n := Nat.mul_le_mul_right _ (by omega)
      rw [Nat.add_mul] at this; omega
    obtain ⟨ho, hsz, hgn, hnx⟩ := partW_ok (s := s) (gen := gen) (sec := sec) (i := i) h1 h2 hlt
    have hat := pAt_le h1 h2 hp8
    obtain ⟨x, hx⟩ : ∃ x, x = pAt n p := ⟨_, rfl⟩
    rw [← hx] at hat
    obtain ⟨bs, hbs⟩ : ∃ bs, bs = (s.bs.drop x).take (n + 13) := ⟨_, rfl⟩
    have hlen : bs.length = n + 13 := by rw [hbs, List.length_take, List.length_drop]; omega
    have hrec : s.recAt gen n p = recOf gen n bs := by rw [hbs, hx]; rfl
    have hpd : p / places n = sec := by rw [hp, Nat.mul_comm, Nat.mul_add_div (by omega), Nat.div_eq_of_lt hipl, Nat.add_zero]
    have hpm : p % places n = i := by rw [hp, Nat.mul_comm, Nat.mul_add_mod, Nat.mod_eq_of_lt hipl]
    have hsl : Value.slice (cutAddr (some ⟨q, 0, none⟩) (x : Int).toNat 1 3584) (((x : Int) + n + 13).toNat - (x : Int).toNat) (3584 - (x : Int).toNat) = .slice (some ⟨q, x, none⟩) (n + 13) (3584 - x) := by
      rw [cutAddr_some, if_neg (by omega)]
      congr 1 <;> first | omega | (congr 2; omega)
    obtain ⟨al, cl, rfl⟩ := hw.slice
    repeat' (first | ((with_reducible refine g_wl ?_); (first | refine kN ?_ | ((with_reducible refine g_mv ?_); (first | refine kp (pvm_move_p rfl) ?_ | refine kp (pvm_move_t rfl) ?_ | refine kp (pvm_move_i rfl) ?_)) | ((with_reducible refine g_as ?_); (refine kp (pvm_assign_i rfl) ?_)) | ((with_reducible refine g_bo ?_); refine kp (pv_lss rfl rfl) ?_) | ((with_reducible refine g_cf 62 ?_); (refine kd (opw_call Fb.h rfl [0] (atR_c b34 fp _ _ ho p (by rw [hsz]; exact hp8) _) RoOk.self (fun v own h => ?_)); obtain ⟨rfl, rfl⟩ := h; rw [hsz, ← hx, hpd])) | refine kp (pv_extract rfl rfl) ?_)) | with_reducible refine w_seq ?_ | with_reducible refine thenP_n ?_ | with_reducible refine w_skip ?_ | with_reducible refine w_block ?_ | (refine w_cond_dec rfl (fun _ => ?_) (fun _ => ?_) <;> try (exfalso; omega)) | refine wr (id := 9) rfl ?_ | refine wr (id := 10) rfl ?_ | refine wr (id := 11) rfl ?_)
    repeat' (first | with_reducible refine thenP_n ?_ | ((with_reducible refine w_region (id := 12) ?_); (refine wl_pure rfl rfl (pvm_move_p rfl) ?_); refine wl_pure rfl rfl (pv_nilCheck rfl) ?_; refine wl_pure rfl rfl (pv_fieldAddr FaWheelR2.fo_53_0 rfl) ?_; (refine wl_do rfl rfl (opw_load FaWheelR2.one_22 rfl (Has.own 3 0 rfl rfl) ?_)); (refine wl_pure rfl rfl (pvm_move_i rfl) ?_); (refine wl_pure rfl rfl (pvm_move_i rfl) ?_); (refine wl_pure rfl rfl (pvm_move_i rfl) ?_); (refine wl_pure rfl rfl (pv_iadd rfl rfl (by omega)) ?_); (refine wl_pure rfl rfl (pv_iadd rfl rfl (by omega)) ?_); (refine wl_pure rfl rfl (pvm_eq hsl (pv_slice_lh FaWheelR2.sl_22 rfl rfl rfl (by omega) (by omega) (by omega))) ?_); (refine wl_pure rfl rfl (pvm_assign_s rfl) ?_); refine wl_nil ?_))
    have htl12 : (bs.take (n + 12)).length = n + 12 := by rw [List.length_take]; omega
    have hdat : ∀ k, k < n + 13 → t.b[x + k]? = bs[k]? := fun k hk => by
      rw [hbs, h.b, List.getElem?_take, if_pos hk, List.getElem?_drop]
    have hmk : t.b[x + (n + 12)]? = some (bs.getD (n + 12) 0) := by rw [hdat _ (by omega)]; exact getD_of (by omega)
    refine w_cut (fun ρ ro'' own => ro'' = ro' ∧ ((Crc.right (bs.take (n + 12)) = none ∧ Kn [(0, .pointer (some ⟨fp, 0, none⟩)), (1, v32 gen), (2, .int .i64 n), (8, .pointer (some ⟨b34, 0, none⟩)), (9, .int .i64 (places n : Int)), (10, .bool counts), (11, .int .i64 p), (12, .int .i64 ((6 + sec : Nat) : Int)), (14, .slice (some ⟨q, x, none⟩) (n + 13) (3584 - x)), (38, .int .i64 ((places n : Int) * 8)), (39, .int .i64 p), (16, .bool false)] ρ ∧ Vc.Sub [[(b34, refWObj fp (partW s gen n sec i) (.slice al rs.length cl))], lG, dG rs, refG fp q t] own) ∨
      ∃ y a3 c3 g3, Crc.right (bs.take (n + 12)) = some y ∧ Sl v8 5 (.slice a3 y.length c3) y g3 ∧ Kn [(0, .pointer (some ⟨fp, 0, none⟩)), (1, v32 gen), (2, .int .i64 n), (8, .pointer (some ⟨b34, 0, none⟩)), (9, .int .i64 (places n : Int)), (10, .bool counts), (11, .int .i64 p), (12, .int .i64 ((6 + sec : Nat) : Int)), (14, .slice (some ⟨q, x, none⟩) (n + 13) (3584 - x)), (38, .int .i64 ((places n : Int) * 8)), (39, .int .i64 p), (15, .slice a3 y.length c3), (16, .bool true)] ρ ∧ Vc.Sub (g3 :: [[(b34, refWObj fp (partW s gen n sec i) (.slice al rs.length cl))], lG, dG rs, refG fp q t]) own)) ?_ ?_
    · cases hr : Crc.right (bs.take (n + 12)) with
      | none =>
        repeat' (first | with_reducible refine thenP_n ?_ | ((with_reducible refine w_region (id := 13) ?_); (refine wl_pure rfl rfl (pvm_move_s rfl) ?_); (refine wl_pure rfl rfl (pvm_move_i rfl) ?_); (refine wl_pure rfl rfl (pvi_e ((n + 12 : Nat) : Int) (by push_cast; rfl) (pv_iadd rfl rfl (by omega))) ?_); refine wl_pure rfl rfl (pv_slice_h FaWheelR2.sl_22 rfl rfl (by omega) (by omega)) ?_; refine wl_do rfl rfl (opw_call FaWheelR2.ca_63 rfl [] (refRight_c (some ⟨q, x, none⟩) (n + 12) (3584 - x) (bs.take (n + 12)) htl12.symm (by omega) [(q, AtO v8 x (bs.take (n + 12)))] (by have := SlR.of_has (f := v8) (b := q) (off := x) (c := 3584 - x) (xs := bs.take (n + 12)) (by omega); rwa [htl12] at this)) (roOk_arr 3 1 rfl (fun k hk => by rw [htl12] at hk; rw [List.getElem?_take, if_pos hk]; exact hdat k (by omega))) (fun v own h => ?_)); obtain ⟨bv, g3, rfl, rfl, hg30⟩ := h; rw [hr]; rw [hr] at hg30; have hg3n : bv = .slice none 0 0 ∨ True := .inr trivial; obtain ⟨a3, c3, rfl, hle3⟩ := hg30.slice; (refine wl_pure rfl rfl (pvm_move_t rfl) ?_); refine wl_pure rfl rfl (pv_extract rfl rfl) ?_; refine wl_pure rfl rfl (pv_extract rfl rfl) ?_; (refine wl_pure rfl rfl (pvm_assign_s rfl) ?_); (refine wl_pure rfl rfl (pvm_assign_b rfl) ?_); refine wl_nil ?_))
        exact ⟨rfl, .inl ⟨rfl, ⟨rfl, rfl, rfl, rfl, rfl, rfl, rfl, rfl, rfl, rfl, rfl, rfl, trivial⟩, Sub.pk' [1, 1, 1, 1] rfl⟩⟩
      | some y =>
        repeat' (first | with_reducible refine thenP_n ?_ | ((with_reducible refine w_region (id := 13) ?_); (refine wl_pure rfl rfl (pvm_move_s rfl) ?_); (refine wl_pure rfl rfl (pvm_move_i rfl) ?_); (refine wl_pure rfl rfl (pvi_e ((n + 12 : Nat) : Int) (by push_cast; rfl) (pv_iadd rfl rfl (by omega))) ?_); refine wl_pure rfl rfl (pv_slice_h FaWheelR2.sl_22 rfl rfl (by omega) (by omega)) ?_; refine wl_do rfl rfl (opw_call FaWheelR2.ca_63 rfl [] (refRight_c (some ⟨q, x, none⟩) (n + 12) (3584 - x) (bs.take (n + 12)) htl12.symm (by omega) [(q, AtO v8 x (bs.take (n + 12)))] (by have := SlR.of_has (f := v8) (b := q) (off := x) (c := 3584 - x) (xs := bs.take (n + 12)) (by omega); rwa [htl12] at this)) (roOk_arr 3 1 rfl (fun k hk => by rw [htl12] at hk; rw [List.getElem?_take, if_pos hk]; exact hdat k (by omega))) (fun v own h => ?_)); obtain ⟨bv, g3, rfl, rfl, hg30⟩ := h; rw [hr]; have hg3 : Sl v8 5 bv y g3 := (by rw [hr] at hg30; exact hg30); obtain ⟨a3, c3, rfl, hle3⟩ := hg3.slice; (refine wl_pure rfl rfl (pvm_move_t rfl) ?_); refine wl_pure rfl rfl (pv_extract rfl rfl) ?_; refine wl_pure rfl rfl (pv_extract rfl rfl) ?_; (refine wl_pure rfl rfl (pvm_assign_s rfl) ?_); (refine wl_pure rfl rfl (pvm_assign_b rfl) ?_); refine wl_nil ?_))
        exact ⟨rfl, .inr ⟨y, a3, c3, g3, rfl, hg3, ⟨rfl, rfl, rfl, rfl, rfl, rfl, rfl, rfl, rfl, rfl, rfl, rfl, rfl, trivial⟩, Sub.refl⟩⟩
    · rintro ρ ro'' own ⟨rfl, hM⟩
      refine w_cut (fun ρ ro3 own => ro3 = ro'' ∧ ((s.recAt gen n p = none ∧ Kn [(0, .pointer (some ⟨fp, 0, none⟩)), (1, v32 gen), (2, .int .i64 n), (8, .pointer (some ⟨b34, 0, none⟩)), (9, .int .i64 (places n : Int)), (10, .bool counts), (11, .int .i64 p), (12, .int .i64 ((6 + sec : Nat) : Int)), (38, .int .i64 ((places n : Int) * 8)), (39, .int .i64 p), (16, .bool false)] ρ ∧ Vc.Sub [[(b34, refWObj fp (partW s gen n sec i) (.slice al rs.length cl))], lG, dG rs, refG fp q t] own) ∨
        ∃ y a3 c3 g3, s.recAt gen n p = some (num4 (y.drop 4), y.drop 8) ∧ y.length = n + 8 ∧ Sl v8 5 (.slice a3 y.length c3) y g3 ∧ Kn [(0, .pointer (some ⟨fp, 0, none⟩)), (1, v32 gen), (2, .int .i64 n), (8, .pointer (some ⟨b34, 0, none⟩)), (9, .int .i64 (places n : Int)), (10, .bool counts), (11, .int .i64 p), (12, .int .i64 ((6 + sec : Nat) : Int)), (38, .int .i64 ((places n : Int) * 8)), (39, .int .i64 p), (15, .slice a3 y.length c3), (16, .bool true)] ρ ∧ Vc.Sub (g3 :: [[(b34, refWObj fp (partW s gen n sec i) (.slice al rs.length cl))], lG, dG rs, refG fp q t]) own)) ?_ ?_
      · rcases hM with ⟨hr, hk, hsub⟩ | ⟨y, a3, c3, g3, hr, hg3, hk, hsub⟩
        · obtain ⟨ρ', rfl⟩ := hk.ex
          refine w_sub hsub ?_
          have e : s.recAt gen n p = none := by rw [hrec]; unfold recOf; rw [hr]; simp
          repeat' (first | with_reducible refine thenP_n ?_ | ((with_reducible refine w_region (id := 14) ?_); all_goals (refine wl_pure rfl rfl (pvm_move_b rfl) ?_); all_goals (refine wl_pure rfl rfl (pvm_move_b rfl) ?_); all_goals (refine wl_skipd rfl rfl ?_); all_goals (refine wl_skipd rfl rfl ?_); all_goals (refine wl_skipd rfl rfl ?_); all_goals (refine wl_skipd rfl rfl ?_); all_goals (refine wl_skipd rfl rfl ?_); all_goals (refine wl_skipd rfl rfl ?_); all_goals (refine wl_pure rfl rfl (pvk_f_b rfl rfl) ?_); all_goals (refine wl_pure rfl rfl (pvm_move_b rfl) ?_); all_goals (refine wl_skipd rfl rfl ?_); all_goals (refine wl_skipd rfl rfl ?_); all_goals (refine wl_skipd rfl rfl ?_); all_goals (refine wl_skipd rfl rfl ?_); all_goals (refine wl_skipd rfl rfl ?_); all_goals (refine wl_pure rfl rfl (pvk_f_b rfl rfl) ?_); all_goals (refine wl_pure rfl rfl (pvm_assign_b rfl) ?_); all_goals (refine wl_nil ?_)))
          exact ⟨rfl, .inl ⟨e, ⟨rfl, rfl, rfl, rfl, rfl, rfl, rfl, rfl, rfl, rfl, rfl, trivial⟩, Sub.refl⟩⟩
        · obtain ⟨ρ', rfl⟩ := hk.ex
          refine w_sub hsub ?_
          have hyl := right_len hr
          have hle3 : y.length ≤ c3 := by obtain ⟨a', c', h', hle⟩ := hg3.slice; simp only [Value.slice.injEq] at h'; omega
          obtain ⟨r3, hr3, ok3⟩ := hg3.ro
          by_cases hm : bs.getD (n + 12) 0 = 0#8
          · by_cases hgen : num4 y = gen
            · have e : s.recAt gen n p = some (num4 (y.drop 4), y.drop 8) := by rw [hrec]; unfold recOf; rw [if_neg (fun h => h hm), hr]; dsimp only; rw [if_neg (fun h => h hgen)]
              repeat' (first | with_reducible refine thenP_n ?_ | ((with_reducible refine w_region (id := 14) ?_); all_goals (refine wl_pure rfl rfl (pvm_move_b rfl) ?_); all_goals (refine wl_pure rfl rfl (pvm_move_b rfl) ?_); all_goals (refine wl_pure rfl rfl (pvm_move_s rfl) ?_); all_goals (refine wl_pure rfl rfl (pvm_move_i rfl) ?_); all_goals (refine wl_pure rfl rfl (pvi_e ((n + 12 : Nat) : Int) (by push_cast; rfl) (pv_iadd rfl rfl (by omega))) ?_); all_goals (refine wl_pure rfl rfl (pv_indexAddr1 FaWheelR2.sl_22 rfl rfl (by omega) (by omega)) ?_); all_goals (refine wl_do rfl rfl (opw_load FaWheelR2.one_5 rfl (Has.own 4 1 rfl (cellAt_arr hmk)) ?_)); all_goals (refine wl_pure rfl rfl (pv_bd_t hm (pv8_eql rfl (v8_lit 0 rfl (by omega)))) ?_); all_goals (refine wl_pure rfl rfl (pvk_t_b rfl rfl) ?_); all_goals (refine wl_pure rfl rfl (pvm_move_b rfl) ?_); all_goals (refine wl_pure rfl rfl (pvm_move_s rfl) ?_); all_goals (refine wl_pure rfl rfl (pv_slice_h FaWheelR2.sl_22 rfl rfl (by omega) (by omega)) ?_); all_goals (refine wl_do rfl rfl (opw_call FaWheelR2.ca_49 rfl [] (number_c a3 4 c3 (y.take 4) (by rw [List.length_take]; omega) (by rw [List.length_take]; omega) r3 (hr3.take' (by omega))) (ok3 _ _ (by simp [dr])) (fun v own h => ?_)); obtain ⟨rfl, rfl⟩ := h); all_goals (refine wl_pure rfl rfl (pvm_move_32 rfl) ?_); all_goals (refine wl_pure rfl rfl (pv_bd_t hgen (pv32_eql rfl rfl)) ?_); all_goals (refine wl_pure rfl rfl (pvk_t_b rfl rfl) ?_); all_goals (refine wl_pure rfl rfl (pvm_assign_b rfl) ?_); all_goals (refine wl_nil ?_)))
              exact ⟨rfl, .inr ⟨y, a3, c3, g3, e, by omega, hg3, ⟨rfl, rfl, rfl, rfl, rfl, rfl, rfl, rfl, rfl, rfl, rfl, rfl, trivial⟩, Sub.refl⟩⟩
            · have e : s.recAt gen n p = none := by rw [hrec]; unfold recOf; rw [if_neg (fun h => h hm), hr]; dsimp only; rw [if_pos hgen]
              repeat' (first | with_reducible refine thenP_n ?_ | ((with_reducible refine w_region (id := 14) ?_); all_goals (refine wl_pure rfl rfl (pvm_move_b rfl) ?_); all_goals (refine wl_pure rfl rfl (pvm_move_b rfl) ?_); all_goals (refine wl_pure rfl rfl (pvm_move_s rfl) ?_); all_goals (refine wl_pure rfl rfl (pvm_move_i rfl) ?_); all_goals (refine wl_pure rfl rfl (pvi_e ((n + 12 : Nat) : Int) (by push_cast; rfl) (pv_iadd rfl rfl (by omega))) ?_); all_goals (refine wl_pure rfl rfl (pv_indexAddr1 FaWheelR2.sl_22 rfl rfl (by omega) (by omega)) ?_); all_goals (refine wl_do rfl rfl (opw_load FaWheelR2.one_5 rfl (Has.own 4 1 rfl (cellAt_arr hmk)) ?_)); all_goals (refine wl_pure rfl rfl (pv_bd_t hm (pv8_eql rfl (v8_lit 0 rfl (by omega)))) ?_); all_goals (refine wl_pure rfl rfl (pvk_t_b rfl rfl) ?_); all_goals (refine wl_pure rfl rfl (pvm_move_b rfl) ?_); all_goals (refine wl_pure rfl rfl (pvm_move_s rfl) ?_); all_goals (refine wl_pure rfl rfl (pv_slice_h FaWheelR2.sl_22 rfl rfl (by omega) (by omega)) ?_); all_goals (refine wl_do rfl rfl (opw_call FaWheelR2.ca_49 rfl [] (number_c a3 4 c3 (y.take 4) (by rw [List.length_take]; omega) (by rw [List.length_take]; omega) r3 (hr3.take' (by omega))) (ok3 _ _ (by simp [dr])) (fun v own h => ?_)); obtain ⟨rfl, rfl⟩ := h); all_goals (refine wl_pure rfl rfl (pvm_move_32 rfl) ?_); all_goals (refine wl_pure rfl rfl (pv_bd_f hgen (pv32_eql rfl rfl)) ?_); all_goals (refine wl_pure rfl rfl (pvk_t_b rfl rfl) ?_); all_goals (refine wl_pure rfl rfl (pvm_assign_b rfl) ?_); all_goals (refine wl_nil ?_)))
              exact ⟨rfl, .inl ⟨e, ⟨rfl, rfl, rfl, rfl, rfl, rfl, rfl, rfl, rfl, rfl, rfl, trivial⟩, Sub.pk' [1, 1, 1, 1] rfl⟩⟩
          · have e : s.recAt gen n p = none := by rw [hrec]; unfold recOf; rw [if_pos hm]
            repeat' (first | with_reducible refine thenP_n ?_ | ((with_reducible refine w_region (id := 14) ?_); all_goals (refine wl_pure rfl rfl (pvm_move_b rfl) ?_); all_goals (refine wl_pure rfl rfl (pvm_move_b rfl) ?_); all_goals (refine wl_pure rfl rfl (pvm_move_s rfl) ?_); all_goals (refine wl_pure rfl rfl (pvm_move_i rfl) ?_); all_goals (refine wl_pure rfl rfl (pvi_e ((n + 12 : Nat) : Int) (by push_cast; rfl) (pv_iadd rfl rfl (by omega))) ?_); all_goals (refine wl_pure rfl rfl (pv_indexAddr1 FaWheelR2.sl_22 rfl rfl (by omega) (by omega)) ?_); all_goals (refine wl_do rfl rfl (opw_load FaWheelR2.one_5 rfl (Has.own 4 1 rfl (cellAt_arr hmk)) ?_)); all_goals (refine wl_pure rfl rfl (pv_bd_f hm (pv8_eql rfl (v8_lit 0 rfl (by omega)))) ?_); all_goals (refine wl_pure rfl rfl (pvk_t_b rfl rfl) ?_); all_goals (refine wl_pure rfl rfl (pvm_move_b rfl) ?_); all_goals (refine wl_skipd rfl rfl ?_); all_goals (refine wl_skipd rfl rfl ?_); all_goals (refine wl_skipd rfl rfl ?_); all_goals (refine wl_skipd rfl rfl ?_); all_goals (refine wl_skipd rfl rfl ?_); all_goals (refine wl_pure rfl rfl (pvk_f_b rfl rfl) ?_); all_goals (refine wl_pure rfl rfl (pvm_assign_b rfl) ?_); all_goals (refine wl_nil ?_)))
            exact ⟨rfl, .inl ⟨e, ⟨rfl, rfl, rfl, rfl, rfl, rfl, rfl, rfl, rfl, rfl, rfl, trivial⟩, Sub.pk' [1, 1, 1, 1] rfl⟩⟩
      · rintro ρ ro3 own ⟨rfl, hM⟩
        obtain ⟨counts', hcd⟩ : ∃ c' : Bool, c' = !(s.recAt gen n (sec * places n)).isNone := ⟨_, rfl⟩
        obtain ⟨sec', i', hix1, hix2, hix3, hix4, hix5, hix6⟩ := next_ix (s := s) (gen := gen) h1 h2 hlt hipl counts' hcd
        have hpi : p = sec * places n + i := hp
        have hmod : (decide ((i : Int) = 0)) = decide (i = 0) := by rw [decide_eq_decide]; omega
        rcases hM with ⟨hr, hk, hsub⟩ | ⟨y, a3, c3, g3, hr, hyl, hg3, hk, hsub⟩
        · obtain ⟨ρ', rfl⟩ := hk.ex
          refine w_sub hsub ?_
          have hW : partW s gen n sec (i + 1) = partW s gen n sec i := partW_skip (.inl (by rw [← hpi]; exact hr))
          rw [hW] at hix5
          have hci : i = 0 → counts' = false := fun h0 => by rw [hcd]; subst h0; rw [Nat.add_zero] at hpi; rw [← hpi, hr]; rfl
          by_cases hi0 : i = 0
          · repeat' (first | ((with_reducible refine g_wl ?_); (first | refine kN ?_ | ((with_reducible refine g_gd ?_); (refine ks rfl ?_)) | ((with_reducible refine g_mv ?_); (refine kp (pvm_move_b rfl) ?_)) | ((with_reducible refine g_as ?_); (refine kp (pvm_assign_b rfl) ?_)) | ((with_reducible refine g_pk ?_); (refine kp (pvk_f_b rfl rfl) ?_)))) | with_reducible refine w_seq ?_ | with_reducible refine thenP_n ?_ | with_reducible refine blockP_n ?_ | with_reducible refine w_skip ?_ | refine w_cond_true rfl ?_ | refine w_cond_false rfl ?_ | ((with_reducible refine w_region (id := 15) ?_); (refine wl_pure rfl rfl (pvm_move_i rfl) ?_); (refine wl_pure rfl rfl (pvm_move_i rfl) ?_); (refine wl_pure rfl rfl (pvi_e (i : Int) (by rw [← hpm]; exact (Int.natCast_emod _ _).symm) (pv_irem rfl rfl (by omega))) ?_); (refine wl_pure rfl rfl (pv_eql_e rfl rfl (by omega)) ?_); refine wl_nil ?_) | ((with_reducible refine w_region (id := 20) ?_); (refine wl_pure rfl rfl (pvi_e ((sec' * places n + i' : Nat) : Int) (by omega) (pv_iadd rfl rfl (by omega))) ?_); (refine wl_pure rfl rfl (pvm_move_i rfl) ?_); refine wl_nil ?_) | refine wr (id := 16) rfl ?_ | refine wr (id := 17) rfl ?_)
            exact ⟨((sec', i'), false, _, lG, rs), [[(b34, refWObj fp (partW s gen n sec i) (.slice al rs.length cl))], lG, dG rs, refG fp q t], Sub.refl, ⟨hix3, hix2, hix6, fun h => (by rw [← hci hi0]; exact hix4 h), ⟨rfl, rfl, rfl, rfl, rfl, rfl, rfl, rfl, trivial⟩, rfl, by dsimp only; rw [hix5], by dsimp only; rw [hix5]; exact hw, by dsimp only; omega⟩, by dsimp only; omega⟩
          · repeat' (first | ((with_reducible refine g_wl ?_); (first | refine kN ?_ | ((with_reducible refine g_gd ?_); (refine ks rfl ?_)) | ((with_reducible refine g_mv ?_); (refine kp (pvm_move_b rfl) ?_)) | ((with_reducible refine g_pk ?_); (refine kp (pvk_f_b rfl rfl) ?_)))) | with_reducible refine w_seq ?_ | with_reducible refine thenP_n ?_ | with_reducible refine blockP_n ?_ | with_reducible refine w_skip ?_ | refine w_cond_false rfl ?_ | ((with_reducible refine w_region (id := 15) ?_); (refine wl_pure rfl rfl (pvm_move_i rfl) ?_); (refine wl_pure rfl rfl (pvm_move_i rfl) ?_); (refine wl_pure rfl rfl (pvi_e (i : Int) (by rw [← hpm]; exact (Int.natCast_emod _ _).symm) (pv_irem rfl rfl (by omega))) ?_); (refine wl_pure rfl rfl (pv_eql_f rfl rfl (by omega)) ?_); refine wl_nil ?_) | ((with_reducible refine w_region (id := 20) ?_); (refine wl_pure rfl rfl (pvi_e ((sec' * places n + i' : Nat) : Int) (by omega) (pv_iadd rfl rfl (by omega))) ?_); (refine wl_pure rfl rfl (pvm_move_i rfl) ?_); refine wl_nil ?_) | refine wr (id := 17) rfl ?_)
            have hcc : counts = counts' := (hcnt (by omega)).trans hcd.symm
            exact ⟨((sec', i'), counts, _, lG, rs), [[(b34, refWObj fp (partW s gen n sec i) (.slice al rs.length cl))], lG, dG rs, refG fp q t], Sub.refl, ⟨hix3, hix2, hix6, fun h => (by rw [hcc]; exact hix4 h), ⟨rfl, rfl, rfl, rfl, rfl, rfl, rfl, rfl, trivial⟩, rfl, by dsimp only; rw [hix5], by dsimp only; rw [hix5]; exact hw, by dsimp only; omega⟩, by dsimp only; omega⟩
        · obtain ⟨ρ', rfl⟩ := hk.ex
          refine w_sub hsub ?_
          have hcc : 0 < i → counts = counts' := fun h0 => (hcnt h0).trans hcd.symm
          have hci : i = 0 → counts' = true := fun h0 => by rw [hcd]; subst h0; rw [Nat.add_zero] at hpi; rw [← hpi, hr]; rfl
          have hle3 : y.length ≤ c3 := by obtain ⟨a', c', h', hle⟩ := hg3.slice; simp only [Value.slice.injEq] at h'; omega
          obtain ⟨b3, data3, rfl, rfl, rfl, ht3⟩ := hg3.addr (by omega)
          obtain ⟨r3, hr3, ok3⟩ := hg3.ro
          have hd4 := hr3.cut (l := 4) (m := 8) (by omega) (by omega)
          have hd4l : 8 - 4 = ((y.drop 4).take (8 - 4)).length := by rw [List.length_take, List.length_drop]; omega
          have hnum : num 0 ((y.drop 4).take (8 - 4)) = num4 (y.drop 4) := rfl
          have hsl8 : Value.slice (cutAddr (some ⟨b3, 0, none⟩) (8 : Int).toNat 1 data3.length) (y.length - (8 : Int).toNat) (data3.length - (8 : Int).toNat) = .slice (some ⟨b3, 8, none⟩) (y.drop 8).length (data3.length - 8) := by
            rw [cutAddr_some, if_neg (by show ¬ data3.length = 8; omega), List.length_drop]; rfl
          have hrr : refReady (sec : Int) = ((6 + sec : Nat) : Int) := by unfold refReady; rw [if_neg (by omega)]; push_cast; rfl
          cases hct : counts' with
          | false =>
            have hi0 : i ≠ 0 := fun h0 => by rw [hci h0] at hct; cases hct
            have hc : counts = false := (hcc (by omega)).trans hct
            subst hc
            have hW : partW s gen n sec (i + 1) = partW s gen n sec i := partW_skip (.inr (by rw [hct] at hcd; simpa using hcd.symm))
            rw [hW] at hix5
            repeat' (first | ((with_reducible refine g_wl ?_); (first | refine kN ?_ | ((with_reducible refine g_gd ?_); (refine kg rfl ?_)) | ((with_reducible refine g_mv ?_); (refine kp (pvm_move_b rfl) ?_)) | ((with_reducible refine g_pk ?_); (refine kp (pvk_t_b rfl rfl) ?_)))) | with_reducible refine w_seq ?_ | with_reducible refine thenP_n ?_ | with_reducible refine blockP_n ?_ | with_reducible refine w_skip ?_ | refine w_cond_false rfl ?_ | ((with_reducible refine w_region (id := 15) ?_); (refine wl_pure rfl rfl (pvm_move_i rfl) ?_); (refine wl_pure rfl rfl (pvm_move_i rfl) ?_); (refine wl_pure rfl rfl (pvi_e (i : Int) (by rw [← hpm]; exact (Int.natCast_emod _ _).symm) (pv_irem rfl rfl (by omega))) ?_); (refine wl_pure rfl rfl (pv_eql_f rfl rfl (by omega)) ?_); refine wl_nil ?_) | ((with_reducible refine w_region (id := 20) ?_); (refine wl_pure rfl rfl (pvi_e ((sec' * places n + i' : Nat) : Int) (by omega) (pv_iadd rfl rfl (by omega))) ?_); (refine wl_pure rfl rfl (pvm_move_i rfl) ?_); refine wl_nil ?_) | refine wr (id := 17) rfl ?_)
            exact ⟨((sec', i'), false, _, lG, rs), [[(b34, refWObj fp (partW s gen n sec i) (.slice al rs.length cl))], lG, dG rs, refG fp q t], Sub.pk' [1, 1, 1, 1] rfl, ⟨hix3, hix2, hix6, fun h => (by rw [← hct]; exact hix4 h), ⟨rfl, rfl, rfl, rfl, rfl, rfl, rfl, rfl, trivial⟩, rfl, by dsimp only; rw [hix5], by dsimp only; rw [hix5]; exact hw, by dsimp only; omega⟩, by dsimp only; omega⟩
          | true =>
            have hW := partW_take (by rw [← hpi]; exact hr) (by rw [hct] at hcd; intro hh; rw [hh] at hcd; cases hcd) (s := s) (gen := gen) (n := n) (sec := sec) (i := i)
            rw [hW] at hix5
            by_cases hi0 : i = 0
            · repeat' (first | ((with_reducible refine g_wl ?_); (first | refine kN ?_ | ((with_reducible refine g_gd ?_); (refine kg rfl ?_)) | ((with_reducible refine g_mv ?_); (first | refine kp (pvm_move_b rfl) ?_ | refine kp (pvm_move_p rfl) ?_ | refine kp (pvm_move_i rfl) ?_)) | ((with_reducible refine g_as ?_); (refine kp (pvm_assign_b rfl) ?_)) | ((with_reducible refine g_pk ?_); (refine kp (pvk_t_b rfl rfl) ?_)) | ((with_reducible refine g_st ?_); (refine kn (opw_store 1 0 Ft.h rfl rfl rfl rfl rfl (Nat.le_of_ble_eq_true rfl) (noFr_zero _ _) ?_))) | refine kp (pv_nilCheck rfl) ?_ | refine kp (pv_fieldAddr Ft.h rfl) ?_)) | with_reducible refine w_seq ?_ | with_reducible refine thenP_n ?_ | with_reducible refine blockP_n ?_ | refine w_cond_true rfl ?_ | ((with_reducible refine w_region (id := 15) ?_); (refine wl_pure rfl rfl (pvm_move_i rfl) ?_); (refine wl_pure rfl rfl (pvm_move_i rfl) ?_); (refine wl_pure rfl rfl (pvi_e (i : Int) (by rw [← hpm]; exact (Int.natCast_emod _ _).symm) (pv_irem rfl rfl (by omega))) ?_); (refine wl_pure rfl rfl (pv_eql_e rfl rfl (by omega)) ?_); refine wl_nil ?_) | (refine w_draw (id := 18) [15] (hold [(b34, refWObj fp (partW s gen n sec i) (.slice al rs.length cl))]) Fa.mixed (hold_ok (by simp [dr])) ?_; (refine wh_pure 0 rfl (by kernel_rfl) rfl rfl (pvm_move_p rfl) ?_); (refine wh_pure 1 rfl (by kernel_rfl) rfl rfl (pvm_move_p rfl) ?_); refine wh_pure 2 rfl (by kernel_rfl) rfl rfl (pv_nilCheck rfl) ?_; refine wh_pure 3 rfl (by kernel_rfl) rfl rfl (pv_fieldAddr FaWheelR2.fo_70_3 rfl) ?_; (refine wh_load 4 rfl (by kernel_rfl) rfl rfl FaWheelR2.one_67 rfl (Has.hold 0 rfl rfl) ?_); (refine wh_pure 5 rfl (by kernel_rfl) rfl rfl (pvm_move_s rfl) ?_); refine wh_pure 6 rfl (by kernel_rfl) rfl rfl (pv_slice_lh FaWheelR2.sl_22 rfl rfl rfl (by omega) (by omega) (by omega)) ?_; (refine wh_pure 8 rfl (by kernel_rfl) rfl rfl (pvm_move_s rfl) ?_); (refine wh_pure 9 rfl (by kernel_rfl) rfl rfl (pvm_eq hsl8 (pv_slice_l FaWheelR2.sl_22 rfl rfl (by omega) (by omega))) ?_); refine wh_do 7 (by kernel_rfl) rfl rfl rfl rfl (opw_call FaWheelR2.ca_49 rfl [] (number_c _ _ _ ((y.drop 4).take (8 - 4)) hd4l (by rw [← hd4l]; omega) r3 hd4) (ok3 _ _ (by simp [dr])) (fun v own h => ?_)); obtain ⟨rfl, rfl⟩ := h; rw [hnum]; refine ⟨(hold_ok (by simp [dr])), ?_⟩; refine wh_pure 10 rfl (by kernel_rfl) rfl rfl (pv_build_structL (fs := structF Try.prog 104) FaWheelR2.sf_104 FaWheelR2.zero_104 FaWheelR2.pl_104 rfl) ?_; (refine wh_do 11 (by kernel_rfl) rfl rfl rfl rfl (opw_buildRec2 (enc := RV.enc) (RV.mk (num4 (y.drop 4)) (some ⟨b3, 8, none⟩) (data3.length - 8) [(b3, arr v8 5 data3)] (y.drop 8)) Try.underlying67 FaWheelR2.sz_104 FaWheelR2.zero_104 rfl rfl fun nb => ⟨(hold_ok (by simp [dr])), ?_⟩)); refine wh_do 12 (by kernel_rfl) rfl rfl rfl rfl (opw_appendM (enc := RV.enc) (xs := rs) (ys := [RV.mk (num4 (y.drop 4)) (some ⟨b3, 8, none⟩) (data3.length - 8) [(b3, arr v8 5 data3)] (y.drop 8)]) 2 FaWheelR2.sl_67 FaWheelR2.ei_104 (by omega) (fun _ => rfl) RV.one RV.zero rfl rfl hw.list rfl rfl (rd_rec2 5 0 rfl) (by show (_ + 1) * 32 ≤ _; omega) (by omega) (fun v g h => ?_)); obtain ⟨a9, c9, rfl⟩ := h.slice; refine ⟨(hold_ok (by simp [dr])), ?_⟩; refine wh_pure 13 rfl (by kernel_rfl) rfl rfl (pv_nilCheck rfl) ?_; refine wh_pure 14 rfl (by kernel_rfl) rfl rfl (pv_fieldAddr FaWheelR2.fo_70_3 rfl) ?_; (refine wh_rel 15 (by kernel_rfl) rfl rfl rfl rfl (opw_store 1 0 FaWheelR2.sz_67 rfl rfl rfl rfl rfl (Nat.le_of_ble_eq_true rfl) (noFr_zero _ _) ?_)); (refine wz_done (by kernel_rfl) ?_)) | ((with_reducible refine w_region (id := 20) ?_); (refine wl_pure rfl rfl (pvi_e ((sec' * places n + i' : Nat) : Int) (by omega) (pv_iadd rfl rfl (by omega))) ?_); (refine wl_pure rfl rfl (pvm_move_i rfl) ?_); refine wl_nil ?_) | refine wr (id := 16) rfl ?_ | refine wr (id := 17) rfl ?_ | refine wr (id := 19) rfl ?_)
              obtain ⟨r9, hr9⟩ : ∃ r9, r9 = RV.mk (num4 (y.drop 4)) (some ⟨b3, 8, none⟩) (data3.length - 8) [(b3, arr v8 5 data3)] (y.drop 8) := ⟨_, rfl⟩
              have hobj : refWObj fp (partW s gen n sec' i') (.slice a9 (rs ++ [r9]).length c9) = .cells #[.pointer (some ⟨fp, 0, none⟩), v32 (partW s gen n sec i).gen, .int .i64 (partW s gen n sec i).size, .slice a9 (rs ++ [r9]).length c9, .int .i64 ((6 + sec : Nat) : Int), .int .i64 (partW s gen n sec i).next] 70 (0, 0) := by
                rw [hix5]; unfold refWObj; dsimp only; rw [hrr]
              refine ⟨((sec', i'), true, .slice a9 (rs ++ [r9]).length c9, g, rs ++ [r9]), [[(b34, refWObj fp (partW s gen n sec' i') (.slice a9 (rs ++ [r9]).length c9))], g, dG (rs ++ [r9]), refG fp q t], ?_, ⟨hix3, hix2, hix6, fun h => (by rw [← hct]; exact hix4 h), ⟨rfl, rfl, rfl, rfl, rfl, rfl, rfl, rfl, trivial⟩, rfl, rfl, ⟨by rw [hr9]; exact h, ?_, ?_, ?_⟩, ?_⟩, by dsimp only; omega⟩
              · rw [hobj]
                refine Sub.pk' [1, 1, 1, 0, 0] ?_
                rw [dG_snoc, hr9]
                show _ = ([[(b34, Obj.cells #[.pointer (some ⟨fp, 0, none⟩), v32 (partW s gen n sec i).gen, .int .i64 (partW s gen n sec i).size, .slice a9 (rs ++ [_]).length c9, .int .i64 ((6 + sec : Nat) : Int), .int .i64 (partW s gen n sec i).next] 70 (0, 0))], g, dG rs, [(b3, arr v8 5 data3)], refG fp q t]).flatten
                simp
              · dsimp only; rw [hix5, List.map_append, hw.recs, hr9]; rfl
              · intro z hz
                rcases List.mem_append.1 hz with hz | hz
                · exact hw.ok z hz
                · rw [List.mem_singleton] at hz; rw [hz, hr9]
                  refine ⟨b3, 8, data3, rfl, rfl, ?_, fun k hk => ?_⟩
                  · dsimp only; rw [List.length_drop]; omega
                  · dsimp only at hk ⊢
                    rw [List.length_drop] at hk
                    rw [List.getElem?_drop]; conv => rhs; rw [← ht3]
                    rw [List.getElem?_take, if_pos (by omega)]
              · dsimp only; rw [List.length_append, List.length_singleton]; have := hw.len; omega
              · dsimp only; rw [List.length_append, List.length_singleton]; omega
            · have hc : counts = true := (hcc (by omega)).trans hct
              subst hc
              repeat' (first | ((with_reducible refine g_wl ?_); (first | refine kN ?_ | ((with_reducible refine g_gd ?_); (refine kg rfl ?_)) | ((with_reducible refine g_mv ?_); (first | refine kp (pvm_move_b rfl) ?_ | refine kp (pvm_move_p rfl) ?_ | refine kp (pvm_move_i rfl) ?_)) | ((with_reducible refine g_pk ?_); (refine kp (pvk_t_b rfl rfl) ?_)) | ((with_reducible refine g_st ?_); (refine kn (opw_store 1 0 Ft.h rfl rfl rfl rfl rfl (Nat.le_of_ble_eq_true rfl) (noFr_zero _ _) ?_))) | refine kp (pv_nilCheck rfl) ?_ | refine kp (pv_fieldAddr Ft.h rfl) ?_)) | with_reducible refine w_seq ?_ | with_reducible refine thenP_n ?_ | with_reducible refine blockP_n ?_ | with_reducible refine w_skip ?_ | refine w_cond_true rfl ?_ | refine w_cond_false rfl ?_ | ((with_reducible refine w_region (id := 15) ?_); (refine wl_pure rfl rfl (pvm_move_i rfl) ?_); (refine wl_pure rfl rfl (pvm_move_i rfl) ?_); (refine wl_pure rfl rfl (pvi_e (i : Int) (by rw [← hpm]; exact (Int.natCast_emod _ _).symm) (pv_irem rfl rfl (by omega))) ?_); (refine wl_pure rfl rfl (pv_eql_f rfl rfl (by omega)) ?_); refine wl_nil ?_) | (refine w_draw (id := 18) [15] (hold [(b34, refWObj fp (partW s gen n sec i) (.slice al rs.length cl))]) Fa.mixed (hold_ok (by simp [dr])) ?_; (refine wh_pure 0 rfl (by kernel_rfl) rfl rfl (pvm_move_p rfl) ?_); (refine wh_pure 1 rfl (by kernel_rfl) rfl rfl (pvm_move_p rfl) ?_); refine wh_pure 2 rfl (by kernel_rfl) rfl rfl (pv_nilCheck rfl) ?_; refine wh_pure 3 rfl (by kernel_rfl) rfl rfl (pv_fieldAddr FaWheelR2.fo_70_3 rfl) ?_; (refine wh_load 4 rfl (by kernel_rfl) rfl rfl FaWheelR2.one_67 rfl (Has.hold 0 rfl rfl) ?_); (refine wh_pure 5 rfl (by kernel_rfl) rfl rfl (pvm_move_s rfl) ?_); refine wh_pure 6 rfl (by kernel_rfl) rfl rfl (pv_slice_lh FaWheelR2.sl_22 rfl rfl rfl (by omega) (by omega) (by omega)) ?_; (refine wh_pure 8 rfl (by kernel_rfl) rfl rfl (pvm_move_s rfl) ?_); (refine wh_pure 9 rfl (by kernel_rfl) rfl rfl (pvm_eq hsl8 (pv_slice_l FaWheelR2.sl_22 rfl rfl (by omega) (by omega))) ?_); refine wh_do 7 (by kernel_rfl) rfl rfl rfl rfl (opw_call FaWheelR2.ca_49 rfl [] (number_c _ _ _ ((y.drop 4).take (8 - 4)) hd4l (by rw [← hd4l]; omega) r3 hd4) (ok3 _ _ (by simp [dr])) (fun v own h => ?_)); obtain ⟨rfl, rfl⟩ := h; rw [hnum]; refine ⟨(hold_ok (by simp [dr])), ?_⟩; refine wh_pure 10 rfl (by kernel_rfl) rfl rfl (pv_build_structL (fs := structF Try.prog 104) FaWheelR2.sf_104 FaWheelR2.zero_104 FaWheelR2.pl_104 rfl) ?_; (refine wh_do 11 (by kernel_rfl) rfl rfl rfl rfl (opw_buildRec2 (enc := RV.enc) (RV.mk (num4 (y.drop 4)) (some ⟨b3, 8, none⟩) (data3.length - 8) [(b3, arr v8 5 data3)] (y.drop 8)) Try.underlying67 FaWheelR2.sz_104 FaWheelR2.zero_104 rfl rfl fun nb => ⟨(hold_ok (by simp [dr])), ?_⟩)); refine wh_do 12 (by kernel_rfl) rfl rfl rfl rfl (opw_appendM (enc := RV.enc) (xs := rs) (ys := [RV.mk (num4 (y.drop 4)) (some ⟨b3, 8, none⟩) (data3.length - 8) [(b3, arr v8 5 data3)] (y.drop 8)]) 2 FaWheelR2.sl_67 FaWheelR2.ei_104 (by omega) (fun _ => rfl) RV.one RV.zero rfl rfl hw.list rfl rfl (rd_rec2 5 0 rfl) (by show (_ + 1) * 32 ≤ _; omega) (by omega) (fun v g h => ?_)); obtain ⟨a9, c9, rfl⟩ := h.slice; refine ⟨(hold_ok (by simp [dr])), ?_⟩; refine wh_pure 13 rfl (by kernel_rfl) rfl rfl (pv_nilCheck rfl) ?_; refine wh_pure 14 rfl (by kernel_rfl) rfl rfl (pv_fieldAddr FaWheelR2.fo_70_3 rfl) ?_; (refine wh_rel 15 (by kernel_rfl) rfl rfl rfl rfl (opw_store 1 0 FaWheelR2.sz_67 rfl rfl rfl rfl rfl (Nat.le_of_ble_eq_true rfl) (noFr_zero _ _) ?_)); (refine wz_done (by kernel_rfl) ?_)) | ((with_reducible refine w_region (id := 20) ?_); (refine wl_pure rfl rfl (pvi_e ((sec' * places n + i' : Nat) : Int) (by omega) (pv_iadd rfl rfl (by omega))) ?_); (refine wl_pure rfl rfl (pvm_move_i rfl) ?_); refine wl_nil ?_) | refine wr (id := 17) rfl ?_ | refine wr (id := 19) rfl ?_)
              obtain ⟨r9, hr9⟩ : ∃ r9, r9 = RV.mk (num4 (y.drop 4)) (some ⟨b3, 8, none⟩) (data3.length - 8) [(b3, arr v8 5 data3)] (y.drop 8) := ⟨_, rfl⟩
              have hobj : refWObj fp (partW s gen n sec' i') (.slice a9 (rs ++ [r9]).length c9) = .cells #[.pointer (some ⟨fp, 0, none⟩), v32 (partW s gen n sec i).gen, .int .i64 (partW s gen n sec i).size, .slice a9 (rs ++ [r9]).length c9, .int .i64 ((6 + sec : Nat) : Int), .int .i64 (partW s gen n sec i).next] 70 (0, 0) := by
                rw [hix5]; unfold refWObj; dsimp only; rw [hrr]
              refine ⟨((sec', i'), true, .slice a9 (rs ++ [r9]).length c9, g, rs ++ [r9]), [[(b34, refWObj fp (partW s gen n sec' i') (.slice a9 (rs ++ [r9]).length c9))], g, dG (rs ++ [r9]), refG fp q t], ?_, ⟨hix3, hix2, hix6, fun h => (by rw [← hct]; exact hix4 h), ⟨rfl, rfl, rfl, rfl, rfl, rfl, rfl, rfl, trivial⟩, rfl, rfl, ⟨by rw [hr9]; exact h, ?_, ?_, ?_⟩, ?_⟩, by dsimp only; omega⟩
              · rw [hobj]
                refine Sub.pk' [1, 1, 1, 0, 0] ?_
                rw [dG_snoc, hr9]
                show _ = ([[(b34, Obj.cells #[.pointer (some ⟨fp, 0, none⟩), v32 (partW s gen n sec i).gen, .int .i64 (partW s gen n sec i).size, .slice a9 (rs ++ [_]).length c9, .int .i64 ((6 + sec : Nat) : Int), .int .i64 (partW s gen n sec i).next] 70 (0, 0))], g, dG rs, [(b3, arr v8 5 data3)], refG fp q t]).flatten
                simp
              · dsimp only; rw [hix5, List.map_append, hw.recs, hr9]; rfl
              · intro z hz
                rcases List.mem_append.1 hz with hz | hz
                · exact hw.ok z hz
                · rw [List.mem_singleton] at hz; rw [hz, hr9]
                  refine ⟨b3, 8, data3, rfl, rfl, ?_, fun k hk => ?_⟩
                  · dsimp only; rw [List.length_drop]; omega
                  · dsimp only at hk ⊢
                    rw [List.length_drop] at hk
                    rw [List.getElem?_drop]; conv => rhs; rw [← ht3]
                    rw [List.getElem?_take, if_pos (by omega)]
              · dsimp only; rw [List.length_append, List.length_singleton]; have := hw.len; omega
              · dsimp only; rw [List.length_append, List.length_singleton]; omega
  · obtain rfl : sec = 8 := by omega
    obtain rfl : i = 0 := h80 rfl
    rw [partW_zero] at hw ⊢
    obtain ⟨ho, hsz, hgn, hnx⟩ := openN_ok (s := s) (gen := gen) h1 h2 8 (Nat.le_refl _)
    obtain ⟨w8, hw8⟩ : ∃ w8, w8 = openN s gen n 8 := ⟨_, rfl⟩
    rw [← hw8] at ho hsz hgn hnx hw ⊢
    obtain ⟨al, cl, rfl⟩ := hw.slice
    by_cases hr0 : 0 ≤ w8.ready
    · obtain ⟨r, hr⟩ := Int.eq_ofNat_of_zero_le hr0
      have hr8 : r < 8 := by have := ho.r1; omega
      have hrr : refReady w8.ready = ((6 + r : Nat) : Int) := by unfold refReady; rw [if_neg (by omega), hr]; push_cast; rfl
      obtain ⟨f, hf⟩ : ∃ f, f = r * places n := ⟨_, rfl⟩
      obtain ⟨f2, hf2⟩ : ∃ f2, f2 = (r + 1) * places n := ⟨_, rfl⟩
      have hff : f2 = f + places n := by rw [hf2, hf, Nat.add_mul]; omega
      have hf8 : f2 ≤ 8 * places n := by rw [hf2]; exact Nat.mul_le_mul_right _ (by omega)
      have hopen : openW s gen n = { w8 with next := f + nextDown s n f (places n) } := by
        unfold openW; rw [← hw8, if_pos hr0, show w8.ready.toNat = r by rw [hr]; rfl, ← hf]
      obtain ⟨nx, hnx'⟩ : ∃ nx : Nat → Wh, nx = fun j => { w8 with next := f + j } := ⟨_, rfl⟩
      have hoj : ∀ j, j ≤ places n → (nx j).Ok := fun j hj => by rw [hnx']; exact ⟨ho.s1, ho.s2, by show f + j ≤ 8 * places w8.size; rw [hsz]; omega, ho.r0, ho.r1⟩
      have hnn : ∀ j, (nx j).next = f + j := fun j => by rw [hnx']
      have hns : ∀ j, (nx j).size = n := fun j => by rw [hnx']; exact hsz
      have hnr : ∀ j, refReady (nx j).ready = ((6 + r : Nat) : Int) := fun j => by rw [hnx']; exact hrr
      have hng : ∀ j, WhG (nx j) (.slice al rs.length cl) lG rs := fun j => by rw [hnx']; exact ⟨hw.list, hw.recs, hw.ok, hw.len⟩
      have hopen' : openW s gen n = nx (nextDown s n f (places n)) := by rw [hopen, hnx']
      have hndl : ∀ j, nextDown s n f j ≤ j := nextDown_le s n f
      repeat' (first | ((with_reducible refine g_wl ?_); (first | refine kN ?_ | ((with_reducible refine g_mv ?_); (refine kp (pvm_move_p rfl) ?_)) | ((with_reducible refine g_as ?_); (refine kp (pvm_assign_i rfl) ?_)) | ((with_reducible refine g_bo ?_); refine kp (pv_lss rfl rfl) ?_) | ((with_reducible refine g_ld ?_); (refine kd (opw_load Fb.h rfl (Has.own 0 0 rfl rfl) ?_))) | refine kp (pv_nilCheck rfl) ?_ | refine kp (pv_fieldAddr Ft.h rfl) ?_)) | with_reducible refine w_seq ?_ | with_reducible refine thenP_n ?_ | with_reducible refine thenP_x ?_ | with_reducible refine blockP_eq ?_ | with_reducible refine w_exit ?_ | with_reducible refine w_block ?_ | refine w_cond_true rfl ?_ | (refine w_cond_dec rfl (fun _ => ?_) (fun _ => ?_) <;> try (exfalso; omega)) | ((with_reducible refine w_region (id := 21) ?_); (refine wl_pure rfl rfl (pvm_move_p rfl) ?_); refine wl_pure rfl rfl (pv_nilCheck rfl) ?_; refine wl_pure rfl rfl (pv_fieldAddr FaWheelR2.fo_70_4 rfl) ?_; (refine wl_do rfl rfl (opw_load FaWheelR2.one_3 rfl (Has.own 0 0 rfl rfl) ?_)); (refine wl_pure rfl rfl (pv_geq_t rfl rfl (by rw [hrr]; omega)) ?_); refine wl_nil ?_) | ((with_reducible refine w_region (id := 22) ?_); (refine wl_pure rfl rfl (pvm_move_p rfl) ?_); (refine wl_pure rfl rfl (pvm_move_p rfl) ?_); refine wl_pure rfl rfl (pv_nilCheck rfl) ?_; refine wl_pure rfl rfl (pv_fieldAddr FaWheelR2.fo_70_4 rfl) ?_; (refine wl_do rfl rfl (opw_load FaWheelR2.one_3 rfl (Has.own 0 0 rfl rfl) ?_)); (refine wl_pure rfl rfl (pvi_e (r : Int) (by rw [hrr]; omega) (pv_isub rfl rfl (by rw [hrr]; omega))) ?_); (refine wl_pure rfl rfl (pvm_move_i rfl) ?_); (refine wl_pure rfl rfl (pvi_e (f : Int) (by rw [hf]; push_cast; rfl) (pv_imul rfl rfl (by rw [← Int.natCast_mul, ← hf]; omega))) ?_); refine wl_pure rfl rfl (pv_nilCheck rfl) ?_; refine wl_pure rfl rfl (pv_fieldAddr FaWheelR2.fo_70_5 rfl) ?_; (refine wl_no rfl (opw_store 0 0 FaWheelR2.sz_3 rfl rfl rfl rfl rfl (Nat.le_of_ble_eq_true rfl) (noFr_zero _ _) ?_)); refine wl_nil ?_) | refine wr (id := 9) rfl ?_ | refine wr (id := 23) rfl ?_)
      refine w_sub (own' := [[(b34, refWObj fp (nx 0) (.slice al rs.length cl))], lG, dG rs, refG fp q t]) (by subst hnx'; exact Sub.flat rfl) ?_
      refine w_loop2 (ι := Nat) (fun j ρ ro'' own => j ≤ places n ∧ Kn [(0, .pointer (some ⟨fp, 0, none⟩)), (2, .int .i64 n), (8, .pointer (some ⟨b34, 0, none⟩)), (9, .int .i64 (places n : Int)), (17, .int .i64 ((f + j : Nat) : Int))] ρ ∧ ro'' = ro' ∧ own = [[(b34, refWObj fp (nx (nextDown s n f j)) (.slice al rs.length cl))], lG, dG rs, refG fp q t]) (fun j => places n - j) 0 ⟨Nat.zero_le _, ⟨rfl, rfl, rfl, rfl, rfl, trivial⟩, rfl, rfl⟩ ?_
      rintro j ρ ro'' own ⟨hj, hk, rfl, rfl⟩
      obtain ⟨ρ', rfl⟩ := hk.ex
      have hnrj := hnr (nextDown s n f j)
      by_cases hjl : j < places n
      · have hoi := hoj (nextDown s n f j) (by have := hndl j; omega)
        repeat' (first | with_reducible refine w_seq ?_ | with_reducible refine thenP_n ?_ | with_reducible refine w_skip ?_ | with_reducible refine w_block ?_ | refine w_cond_true rfl ?_ | ((with_reducible refine w_region (id := 24) ?_); (refine wl_pure rfl rfl (pvm_move_i rfl) ?_); (refine wl_pure rfl rfl (pvm_move_p rfl) ?_); refine wl_pure rfl rfl (pv_nilCheck rfl) ?_; refine wl_pure rfl rfl (pv_fieldAddr FaWheelR2.fo_70_4 rfl) ?_; (refine wl_do rfl rfl (opw_load FaWheelR2.one_3 rfl (Has.own 0 0 rfl rfl) ?_)); (refine wl_pure rfl rfl (pvi_e (r : Int) (by rw [hnrj]; omega) (pv_isub rfl rfl (by rw [hnrj]; omega))) ?_); (refine wl_pure rfl rfl (pv_iadd rfl rfl (by omega)) ?_); (refine wl_pure rfl rfl (pvm_move_i rfl) ?_); (refine wl_pure rfl rfl (pvi_e (f2 : Int) (by rw [hf2]; push_cast; rfl) (pv_imul rfl rfl (by rw [show ((r : Int) + 1) * (places n : Int) = ((r + 1) * places n : Nat) by push_cast; rfl, ← hf2]; omega))) ?_); (refine wl_pure rfl rfl (pv_lss_t rfl rfl (by omega)) ?_); refine wl_nil ?_) | ((with_reducible refine w_region (id := 26) ?_); (refine wl_pure rfl rfl (pvm_move_p rfl) ?_); (refine wl_pure rfl rfl (pvm_move_i rfl) ?_); refine wl_do rfl rfl (opw_call FaWheelR2.ca_62 rfl [0] (atR_c b34 fp _ _ hoi (f + j) (by rw [hns]; omega) _) RoOk.self (fun v own h => ?_)); obtain ⟨rfl, rfl⟩ := h; rw [hns]; (refine wl_pure rfl rfl (pvm_move_t rfl) ?_); refine wl_pure rfl rfl (pv_extract rfl rfl) ?_; refine wl_pure rfl rfl (pv_extract rfl rfl) ?_; (refine wl_pure rfl rfl (pvm_assign_i rfl) ?_); (refine wl_pure rfl rfl (pvm_assign_i rfl) ?_); refine wl_nil ?_))
        cases hbl : s.blank (pAt n (f + j)) (n + 13 : Nat) with
        | true =>
          have hst : nextDown s n f (j + 1) = nextDown s n f j := if_pos hbl
          repeat' (first | with_reducible refine thenP_n ?_ | with_reducible refine blockP_n ?_ | with_reducible refine w_skip ?_ | refine w_cond_false rfl ?_ | ((with_reducible refine w_region (id := 27) ?_); (refine wl_pure rfl rfl (pvm_move_p rfl) ?_); (refine wl_pure rfl rfl (pvm_move_i rfl) ?_); (refine wl_pure rfl rfl (pvm_move_i rfl) ?_); (refine wl_pure rfl rfl (pv_iadd rfl rfl (by omega)) ?_); refine wl_do rfl rfl (opw_call FaWheelR2.ca_64 rfl [3] (blankR_c fp q s t h _ _ _) RoOk.self (fun v own h => ?_)); obtain ⟨rfl, rfl⟩ := h; rw [show s.blank (pAt n (f + j) : Int) ((n : Int) + 13) = true from hbl]; (refine wl_pure rfl rfl (pv_not_t rfl) ?_); refine wl_nil ?_) | ((with_reducible refine w_region (id := 25) ?_); (refine wl_pure rfl rfl (pvm_move_i rfl) ?_); (refine wl_pure rfl rfl (pvi_e ((f + (j + 1) : Nat) : Int) (by omega) (pv_iadd rfl rfl (by omega))) ?_); (refine wl_pure rfl rfl (pvm_assign_i rfl) ?_); refine wl_nil ?_))
          exact ⟨j + 1, [[(b34, refWObj fp (nx (nextDown s n f j)) (.slice al rs.length cl))], lG, dG rs, refG fp q t], Sub.pk' [1, 1, 1, 0] rfl, ⟨by omega, ⟨rfl, rfl, rfl, rfl, rfl, trivial⟩, rfl, by rw [hst]⟩, by omega⟩
        | false =>
          have hst : nextDown s n f (j + 1) = j + 1 := if_neg (by rw [hbl]; simp)
          repeat' (first | with_reducible refine thenP_n ?_ | with_reducible refine blockP_n ?_ | refine w_cond_true rfl ?_ | ((with_reducible refine w_region (id := 27) ?_); (refine wl_pure rfl rfl (pvm_move_p rfl) ?_); (refine wl_pure rfl rfl (pvm_move_i rfl) ?_); (refine wl_pure rfl rfl (pvm_move_i rfl) ?_); (refine wl_pure rfl rfl (pv_iadd rfl rfl (by omega)) ?_); refine wl_do rfl rfl (opw_call FaWheelR2.ca_64 rfl [3] (blankR_c fp q s t h _ _ _) RoOk.self (fun v own h => ?_)); obtain ⟨rfl, rfl⟩ := h; rw [show s.blank (pAt n (f + j) : Int) ((n : Int) + 13) = false from hbl]; (refine wl_pure rfl rfl (pv_not_f rfl) ?_); refine wl_nil ?_) | ((with_reducible refine w_region (id := 28) ?_); (refine wl_pure rfl rfl (pvm_move_p rfl) ?_); (refine wl_pure rfl rfl (pvm_move_i rfl) ?_); (refine wl_pure rfl rfl (pvi_e ((f + (j + 1) : Nat) : Int) (by omega) (pv_iadd rfl rfl (by omega))) ?_); refine wl_pure rfl rfl (pv_nilCheck rfl) ?_; refine wl_pure rfl rfl (pv_fieldAddr FaWheelR2.fo_70_5 rfl) ?_; (refine wl_no rfl (opw_store 1 0 FaWheelR2.sz_3 rfl rfl rfl rfl rfl (Nat.le_of_ble_eq_true rfl) (noFr_zero _ _) ?_)); refine wl_nil ?_) | ((with_reducible refine w_region (id := 25) ?_); (refine wl_pure rfl rfl (pvm_move_i rfl) ?_); (refine wl_pure rfl rfl (pvi_e ((f + (j + 1) : Nat) : Int) (by omega) (pv_iadd rfl rfl (by omega))) ?_); (refine wl_pure rfl rfl (pvm_assign_i rfl) ?_); refine wl_nil ?_))
          refine ⟨j + 1, [[(b34, refWObj fp (nx (j + 1)) (.slice al rs.length cl))], lG, dG rs, refG fp q t], ?_, ⟨by omega, ⟨rfl, rfl, rfl, rfl, rfl, trivial⟩, rfl, by rw [hst]⟩, by omega⟩
          subst hnx'
          exact Sub.pk' [1, 1, 1, 0] rfl
      · obtain rfl : j = places n := by omega
        repeat' (first | ((with_reducible refine g_wl ?_); (first | refine kN ?_ | ((with_reducible refine g_mv ?_); (refine kp (pvm_move_p rfl) ?_)) | ((with_reducible refine g_as ?_); (first | refine kp (pvm_assign_p rfl) ?_ | refine kp (pvm_assign_i rfl) ?_)))) | with_reducible refine w_seq ?_ | with_reducible refine thenP_n ?_ | with_reducible refine thenP_x ?_ | with_reducible refine blockP_eq ?_ | with_reducible refine w_ret ?_ | with_reducible refine w_exit ?_ | refine w_cond_false rfl ?_ | ((with_reducible refine w_region (id := 24) ?_); (refine wl_pure rfl rfl (pvm_move_i rfl) ?_); (refine wl_pure rfl rfl (pvm_move_p rfl) ?_); refine wl_pure rfl rfl (pv_nilCheck rfl) ?_; refine wl_pure rfl rfl (pv_fieldAddr FaWheelR2.fo_70_4 rfl) ?_; (refine wl_do rfl rfl (opw_load FaWheelR2.one_3 rfl (Has.own 0 0 rfl rfl) ?_)); (refine wl_pure rfl rfl (pvi_e (r : Int) (by rw [hnrj]; omega) (pv_isub rfl rfl (by rw [hnrj]; omega))) ?_); (refine wl_pure rfl rfl (pv_iadd rfl rfl (by omega)) ?_); (refine wl_pure rfl rfl (pvm_move_i rfl) ?_); (refine wl_pure rfl rfl (pvi_e (f2 : Int) (by rw [hf2]; push_cast; rfl) (pv_imul rfl rfl (by rw [show ((r : Int) + 1) * (places n : Int) = ((r + 1) * places n : Nat) by push_cast; rfl, ← hf2]; omega))) ?_); (refine wl_pure rfl rfl (pv_lss_f rfl rfl (by omega)) ?_); refine wl_nil ?_) | refine wr (id := 29) rfl ?_)
        rw [hopen']
        exact ret_r (v := .tuple #[.pointer (some ⟨b34, 0, none⟩), .int .i64 0]) rfl ⟨b34, _, lG, rs, rfl, rfl, hng _, by omega⟩
    · have hopen : openW s gen n = w8 := by unfold openW; rw [← hw8, if_neg hr0]
      rw [hopen]
      repeat' (first | ((with_reducible refine g_wl ?_); (first | refine kN ?_ | ((with_reducible refine g_mv ?_); (refine kp (pvm_move_p rfl) ?_)) | ((with_reducible refine g_as ?_); (first | refine kp (pvm_assign_p rfl) ?_ | refine kp (pvm_assign_i rfl) ?_)) | ((with_reducible refine g_bo ?_); refine kp (pv_lss rfl rfl) ?_))) | with_reducible refine w_seq ?_ | with_reducible refine thenP_n ?_ | with_reducible refine thenP_x ?_ | with_reducible refine blockP_eq ?_ | with_reducible refine w_skip ?_ | with_reducible refine w_ret ?_ | with_reducible refine w_exit ?_ | refine w_cond_false rfl ?_ | (refine w_cond_dec rfl (fun _ => ?_) (fun _ => ?_) <;> try (exfalso; omega)) | ((with_reducible refine w_region (id := 21) ?_); (refine wl_pure rfl rfl (pvm_move_p rfl) ?_); refine wl_pure rfl rfl (pv_nilCheck rfl) ?_; refine wl_pure rfl rfl (pv_fieldAddr FaWheelR2.fo_70_4 rfl) ?_; (refine wl_do rfl rfl (opw_load FaWheelR2.one_3 rfl (Has.own 0 0 rfl rfl) ?_)); (refine wl_pure rfl rfl (pv_geq_f rfl rfl (by unfold refReady; rw [if_pos (by omega)]; omega)) ?_); refine wl_nil ?_) | refine wr (id := 9) rfl ?_ | refine wr (id := 29) rfl ?_)
      exact ret_r (v := .tuple #[.pointer (some ⟨b34, 0, none⟩), .int .i64 0]) rfl ⟨b34, _, lG, rs, rfl, rfl, hw, by omega⟩
end Go.Proofs.Ytnohdfhhdppflaa
