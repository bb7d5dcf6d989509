/- Wheels, walked: Open. -/
import Derived.Test.YtnohdfhhdppflaaWheelW3
namespace Go.Proofs.Ytnohdfhhdppflaa
open Go Go.Vc Go.Fl Go.Sha
set_option linter.unusedVariables false
set_option linter.unusedSimpArgs false
set_option maxRecDepth 100000
set_option maxHeartbeats 4000000
namespace FaWheelW4
theorem ca_44 : callable Try.prog 44 = true := by kernel_rfl
theorem ca_56 : callable Try.prog 56 = true := by kernel_rfl
theorem ca_57 : callable Try.prog 57 = true := by kernel_rfl
theorem ca_58 : callable Try.prog 58 = true := by kernel_rfl
theorem ca_59 : callable Try.prog 59 = true := by kernel_rfl
theorem ca_60 : callable Try.prog 60 = true := by kernel_rfl
theorem fo_97_4 : fieldOff Try.prog 97 4 = some 4 := by kernel_rfl
theorem fo_97_5 : fieldOff Try.prog 97 5 = some 5 := by kernel_rfl
theorem one_3 : isOne Try.prog 3 = true := by kernel_rfl
theorem pl_97 : ∀ w, ((structF Try.prog 97).mapM fun f => do pure (f.offset, ← sizeOf f.type) : Sem (Array (Nat × Nat))).run Try.prog w = .ok #[(0, 1), (1, 1), (2, 1), (3, 1), (4, 1), (5, 1)] w := fun w => by kernel_rfl
theorem sf_97 : Try.prog.underlying 97 = some (.struct (structF Try.prog 97)) := by kernel_rfl
theorem sz_3 : sz Try.prog 3 = some 1 := by kernel_rfl
theorem zero_97 : zeroOf Try.prog 97 = some (.agg #[(.pointer none), (.int .u32 0), (.int .i64 0), (.slice none 0 0), (.int .i64 0), (.int .i64 0)]) := by kernel_rfl
instance : Fb (callable Try.prog 44) := ⟨ca_44⟩
instance : Fb (callable Try.prog 56) := ⟨ca_56⟩
instance : Fb (callable Try.prog 57) := ⟨ca_57⟩
instance : Fb (callable Try.prog 58) := ⟨ca_58⟩
instance : Fb (callable Try.prog 59) := ⟨ca_59⟩
instance : Fb (callable Try.prog 60) := ⟨ca_60⟩
instance : Ft (fieldOff Try.prog 97 4) (4) := ⟨fo_97_4⟩
instance : Ft (fieldOff Try.prog 97 5) (5) := ⟨fo_97_5⟩
instance : Fb (isOne Try.prog 3) := ⟨one_3⟩
instance : Ft (Try.prog.underlying 97) (.struct (structF Try.prog 97)) := ⟨sf_97⟩
instance : Ft (sz Try.prog 3) (1) := ⟨sz_3⟩
instance : Ft (zeroOf Try.prog 97) (.agg #[(.pointer none), (.int .u32 0), (.int .i64 0), (.slice none 0 0), (.int .i64 0), (.int .i64 0)]) := ⟨zero_97⟩
instance : Ft (Try.prog.underlying 25) (.pointer 80) := ⟨Try.underlying25⟩
end FaWheelW4
attribute [local irreducible] PV OpW WL WM WH WZ W C Has RoOk

theorem openN_ok {s : Fs} {gen : D} {n : Nat} (h1 : 1 ≤ n) (h2 : n ≤ 16) : ∀ k, k ≤ 8 → (openN s gen n k).Ok ∧ (openN s gen n k).size = n ∧ (openN s gen n k).gen = gen ∧ (openN s gen n k).next = 0
  | 0, _ => ⟨⟨h1, h2, Nat.zero_le _, by show -1 ≤ (-1 : Int); omega, by show (-1 : Int) < 8; omega⟩, rfl, rfl, rfl⟩
  | k + 1, hk => by
    obtain ⟨h3, h4, h5, h6⟩ := openN_ok (s := s) (gen := gen) h1 h2 k (by omega)
    show Wh.Ok ((openN s gen n k).reads s k) ∧ ((openN s gen n k).reads s k).size = n ∧ ((openN s gen n k).reads s k).gen = gen ∧ ((openN s gen n k).reads s k).next = 0
    unfold Wh.reads
    split
    · exact ⟨h3, h4, h5, h6⟩
    · exact ⟨⟨h3.s1, h3.s2, h3.next, by show -1 ≤ (k : Int); omega, by show (k : Int) < 8; omega⟩, h4, h5, h6⟩
theorem nextDown_le (s : Fs) (n first : Nat) : ∀ k, nextDown s n first k ≤ k
  | 0 => Nat.le_refl _
  | k + 1 => by
    unfold nextDown; split
    · exact Nat.le_succ_of_le (nextDown_le s n first k)
    · exact Nat.le_refl _
theorem openW_ok {s : Fs} {gen : D} {n : Nat} (h1 : 1 ≤ n) (h2 : n ≤ 16) : (openW s gen n).Ok ∧ (openW s gen n).size = n ∧ (openW s gen n).gen = gen := by
  obtain ⟨h3, h4, h5, h6⟩ := openN_ok (s := s) (gen := gen) h1 h2 8 (Nat.le_refl _)
  unfold openW
  split
  · rename_i hr
    refine ⟨⟨h3.s1, h3.s2, ?_, h3.r0, h3.r1⟩, h4, h5⟩
    show _ ≤ 8 * places (openN s gen n 8).size
    rw [h4]
    dsimp only
    have hd := nextDown_le s n ((openN s gen n 8).ready.toNat * places n) (places n)
    have h7 := h3.r1
    have : ((openN s gen n 8).ready.toNat + 1) * places n ≤ 8 * places n := Nat.mul_le_mul_right _ (by omega)
    rw [Nat.add_mul] at this
    omega
  · exact ⟨h3, h4, h5⟩
theorem open_c (fp q : Nat) (s : Fs) (hb : 3584 ≤ s.b.length) (hd : s.down = false) (gen : D) (n : Nat) (h1 : 1 ≤ n) (h2 : n ≤ 16) (ro : RO) :
    C Try.prog 28 #[.pointer (some ⟨fp, 0, none⟩), v32 gen, .int .i64 n] ro [flashG fp q s] fun v own => ∃ pw lv lG rs, v = .tuple #[.pointer (some ⟨pw, 0, none⟩), .int .i64 0] ∧ own = [[(pw, wheelObj fp (openW s gen n) lv)], lG, dG rs, flashG fp q s] ∧ WhG (openW s gen n) lv lG rs ∧ rs.length ≤ 152 := by
  obtain ⟨hp3, hp4⟩ := places_le h2
  have hrd : s.read (0 : Nat) (0 : Nat) = ((s.bs.drop 0).take 0, 0) := read_up hd (by omega)
  refine c_of_w2 (n := 89) Try.func28 rfl rfl rfl (by rfl) fun E => ?_
  repeat' (first | ((with_reducible refine g_wl ?_); (first | refine kN ?_ | ((with_reducible refine g_mv ?_); (first | refine kp (pvm_move_p rfl) ?_ | refine kp (pvm_move_t rfl) ?_ | refine kp (pvm_move_32 rfl) ?_ | refine kp (pvm_move_i rfl) ?_)) | ((with_reducible refine g_as ?_); (first | refine kp (pvm_assign_p rfl) ?_ | refine kp (pvm_assign_i rfl) ?_ | refine kp pv_assign ?_)) | ((with_reducible refine g_cf 44 ?_); (refine kd (opw_call Fb.h rfl [0] (read_c fp q s hb 0 0 (by omega) _) RoOk.self (fun v own h => ?_)); obtain ⟨bv, g0, rfl, rfl, hg0⟩ := h; rw [show (s.read 0 0).2 = 0 from congrArg Prod.snd hrd])) | refine kp (pv_extract rfl rfl) ?_ | refine kp (pv_build_structL (fs := structF Try.prog 97) FaWheelW4.sf_97 FaWheelW4.zero_97 FaWheelW4.pl_97 rfl) ?_ | refine kd (d := 35) (opw_box fun b35 => ?_))) | with_reducible refine w_seq ?_ | with_reducible refine thenP_n ?_ | with_reducible refine w_skip ?_ | with_reducible refine w_block ?_ | refine w_cond_false rfl ?_ | ((with_reducible refine w_region (id := 1) ?_); all_goals (refine wl_pure rfl rfl (pvm_move_p rfl) ?_); all_goals (refine wl_pure rfl rfl (pv_ptr_nil Try.underlying25 rfl rfl) ?_); all_goals (refine wl_pure rfl rfl (pvm_move_b rfl) ?_); all_goals (refine wl_pure rfl rfl (pvm_move_i rfl) ?_); all_goals (refine wl_pure rfl rfl (pv_lss_f rfl rfl (by omega)) ?_); all_goals (refine wl_pure rfl rfl (pvk_f_b rfl rfl) ?_); all_goals (refine wl_pure rfl rfl (pvm_move_b rfl) ?_); all_goals (refine wl_pure rfl rfl (pvm_move_i rfl) ?_); all_goals (refine wl_pure rfl rfl (pv_gtr_f rfl rfl (by omega)) ?_); all_goals (refine wl_pure rfl rfl (pvk_f_b rfl rfl) ?_); all_goals (refine wl_nil ?_)) | ((with_reducible refine w_region (id := 4) ?_); (refine wl_pure rfl rfl (pvm_move_i rfl) ?_); (refine wl_pure rfl rfl (pv_neq_e rfl rfl rfl) ?_); refine wl_nil ?_) | refine wr (id := 0) rfl ?_ | refine wr (id := 3) rfl ?_ | refine wr (id := 6) rfl ?_ | refine wr (id := 7) rfl ?_)
  refine w_sub (own' := [[(b35, wheelObj fp (openN s gen n 0) (.slice none 0 0))], [], dG [], flashG fp q s]) (Sub.pk' [2, 1] rfl) ?_
  refine w_loop2 (ι := Nat × Value × Blks × List RV) (fun x ρ ro' own => x.1 ≤ 8 ∧ Kn [(0, .pointer (some ⟨fp, 0, none⟩)), (10, .pointer (some ⟨b35, 0, none⟩)), (36, .int .i64 x.1)] ρ ∧ ro' = ro ∧ own = [[(b35, wheelObj fp (openN s gen n x.1) x.2.1)], x.2.2.1, dG x.2.2.2, flashG fp q s] ∧ WhG (openN s gen n x.1) x.2.1 x.2.2.1 x.2.2.2 ∧ x.2.2.2.length ≤ 19 * x.1) (fun x => 8 - x.1) (0, _, [], []) ⟨Nat.zero_le _, ⟨rfl, rfl, rfl, trivial⟩, rfl, rfl, ⟨SlM.nil, rfl, (by intro r hr; cases hr), Nat.zero_le _⟩, Nat.zero_le _⟩ ?_
  rintro ⟨k, lv, lG, rs⟩ ρ ro' own ⟨hk8, hk, rfl, rfl, hw, hrl⟩
  obtain ⟨ρ', rfl⟩ := hk.ex
  dsimp only at *
  obtain ⟨ho, hsz, hgn, hnx⟩ := openN_ok (s := s) (gen := gen) h1 h2 k hk8
  by_cases hlt : k < 8
  · repeat' (first | ((with_reducible refine g_wl ?_); (first | refine kN ?_ | ((with_reducible refine g_mv ?_); (first | refine kp (pvm_move_p rfl) ?_ | refine kp (pvm_move_i rfl) ?_)) | ((with_reducible refine g_as ?_); (refine kp (pvm_assign_i rfl) ?_)) | ((with_reducible refine g_bo ?_); (first | refine kp (pv_iadd rfl rfl (by omega)) ?_ | refine kp (pv_lss rfl rfl) ?_)) | ((with_reducible refine g_cf 56 ?_); (refine kd (opw_call Fb.h rfl [0, 0, 0, 0] (reads_c b35 fp q s hb hd (openN s gen n k) lv lG rs ho hw (by omega) k hlt _) RoOk.self (fun v own h => ?_)); obtain ⟨lv', lG', rs', rfl, hw', hrl'⟩ := h)))) | with_reducible refine w_seq ?_ | with_reducible refine thenP_n ?_ | with_reducible refine blockP_n ?_ | with_reducible refine w_skip ?_ | with_reducible refine w_block ?_ | (refine w_cond_dec rfl (fun _ => ?_) (fun _ => ?_) <;> try (exfalso; omega)) | refine wr (id := 8) rfl ?_ | refine wr (id := 9) rfl ?_ | refine wr (id := 10) rfl ?_ | refine wr (id := 11) rfl ?_)
    exact ⟨(k + 1, lv', lG', rs'), _, Sub.refl, ⟨by dsimp only; omega, ⟨rfl, rfl, rfl, trivial⟩, rfl, rfl, hw', by dsimp only; omega⟩, by dsimp only; omega⟩
  · obtain rfl : k = 8 := by omega
    obtain ⟨w8, hw8⟩ : ∃ w8, w8 = openN s gen n 8 := ⟨_, rfl⟩
    rw [← hw8] at ho hsz hgn hnx hw ⊢
    obtain ⟨al, cl, rfl⟩ := hw.slice
    by_cases hr0 : 0 ≤ w8.ready
    · obtain ⟨r, hr⟩ := Int.eq_ofNat_of_zero_le hr0
      have hr8 : r < 8 := by have := ho.r1; omega
      obtain ⟨f, hf⟩ : ∃ f, f = r * places n := ⟨_, rfl⟩
      have hf8 : f + places n ≤ 8 * places n := by
        have : (r + 1) * places n ≤ 8 * places n := Nat.mul_le_mul_right _ (by omega)
        rw [Nat.add_mul, ← hf] at this; omega
      have hopen : openW s gen n = { w8 with next := f + nextDown s n f (places n) } := by
        unfold openW; rw [← hw8, if_pos hr0, show w8.ready.toNat = r by rw [hr]; rfl, ← hf]
      obtain ⟨nx, hnx'⟩ : ∃ nx : Nat → Wh, nx = fun j => { w8 with next := f + j } := ⟨_, rfl⟩
      have hoj : ∀ j, j ≤ places n → (nx j).Ok := fun j hj => by rw [hnx']; exact ⟨ho.s1, ho.s2, by show f + j ≤ 8 * places w8.size; rw [hsz]; omega, ho.r0, ho.r1⟩
      have hnn : ∀ j, (nx j).next = f + j := fun j => by rw [hnx']
      have hns : ∀ j, (nx j).size = n := fun j => by rw [hnx']; exact hsz
      have hng : ∀ j, WhG (nx j) (.slice al rs.length cl) lG rs := fun j => by rw [hnx']; exact ⟨hw.list, hw.recs, hw.ok, hw.len⟩
      have hopen' : openW s gen n = nx (nextDown s n f (places n)) := by rw [hopen, hnx']
      repeat' (first | ((with_reducible refine g_wl ?_); (first | refine kN ?_ | ((with_reducible refine g_bo ?_); refine kp (pv_lss rfl rfl) ?_))) | with_reducible refine w_seq ?_ | with_reducible refine thenP_n ?_ | with_reducible refine thenP_x ?_ | with_reducible refine blockP_eq ?_ | with_reducible refine w_exit ?_ | with_reducible refine w_block ?_ | refine w_cond_true rfl ?_ | refine w_cond_false rfl ?_ | ((with_reducible refine w_region (id := 12) ?_); (refine wl_pure rfl rfl (pvm_move_p rfl) ?_); refine wl_pure rfl rfl (pv_nilCheck rfl) ?_; refine wl_pure rfl rfl (pv_fieldAddr FaWheelW4.fo_97_4 rfl) ?_; (refine wl_do rfl rfl (opw_load FaWheelW4.one_3 rfl (Has.own 0 0 rfl rfl) ?_)); (refine wl_pure rfl rfl (pv_geq_t rfl rfl hr0) ?_); refine wl_nil ?_) | (refine w_draw (id := 13) [] (hold [(b35, wheelObj fp w8 (.slice al rs.length cl))]) Fa.mixed (hold_one 0 0 rfl) ?_; (refine wh_pure 0 rfl (by kernel_rfl) rfl rfl (pvm_move_p rfl) ?_); refine wh_pure 1 rfl (by kernel_rfl) rfl rfl (pv_nilCheck rfl) ?_; refine wh_pure 2 rfl (by kernel_rfl) rfl rfl (pv_fieldAddr FaWheelW4.fo_97_4 rfl) ?_; (refine wh_load 3 rfl (by kernel_rfl) rfl rfl FaWheelW4.one_3 rfl (Has.hold 0 rfl rfl) ?_); (refine wh_pure 4 rfl (by kernel_rfl) rfl rfl (pvm_move_p rfl) ?_); refine wh_do 5 (by kernel_rfl) rfl rfl rfl rfl (opw_call FaWheelW4.ca_57 rfl [0] (places_c b35 fp w8 _ ho _) RoOk.self (fun v own h => ?_)); obtain ⟨rfl, rfl⟩ := h; rw [hsz]; refine ⟨(hold_ok (by simp [dr])), ?_⟩; (refine wh_pure 6 rfl (by kernel_rfl) rfl rfl (pvi_e (f : Int) (by rw [hr, hf]; push_cast; rfl) (pv_imul rfl rfl (by rw [hr, ← Int.natCast_mul, ← hf]; omega))) ?_); (refine wh_pure 7 rfl (by kernel_rfl) rfl rfl (pvm_assign_i rfl) ?_); (refine wh_done (by kernel_rfl) ?_)) | ((with_reducible refine w_region (id := 14) ?_); (refine wl_pure rfl rfl (pvm_move_p rfl) ?_); (refine wl_pure rfl rfl (pvm_move_i rfl) ?_); (refine wl_pure rfl rfl (pvm_move_p rfl) ?_); refine wl_do rfl rfl (opw_call FaWheelW4.ca_57 rfl [0] (places_c b35 fp w8 _ ho _) RoOk.self (fun v own h => ?_)); obtain ⟨rfl, rfl⟩ := h; rw [hsz]; (refine wl_pure rfl rfl (pvi_e ((f + places n : Nat) : Int) (by push_cast; rfl) (pv_iadd rfl rfl (by omega))) ?_); refine wl_pure rfl rfl (pv_nilCheck rfl) ?_; refine wl_pure rfl rfl (pv_fieldAddr FaWheelW4.fo_97_5 rfl) ?_; (refine wl_no rfl (opw_store 0 0 FaWheelW4.sz_3 rfl rfl rfl rfl rfl (Nat.le_of_ble_eq_true rfl) (noFr_zero _ _) ?_)); refine wl_nil ?_) | refine wr (id := 8) rfl ?_)
      rw [hopen']
      refine w_loop2 (ι := Nat) (fun j ρ ro'' own => j ≤ places n ∧ Kn [(0, .pointer (some ⟨fp, 0, none⟩)), (10, .pointer (some ⟨b35, 0, none⟩)), (12, .int .i64 f)] ρ ∧ ro'' = ro' ∧ own = [[(b35, wheelObj fp (nx j) (.slice al rs.length cl))], lG, dG rs, flashG fp q s] ∧ nextDown s n f (places n) = nextDown s n f j) (fun j => j) (places n) ⟨Nat.le_refl _, ⟨rfl, rfl, rfl, trivial⟩, rfl, by rw [hnx']; rfl, rfl⟩ ?_
      rintro j ρ ro'' own ⟨hj, hk, rfl, rfl, hnd⟩
      obtain ⟨ρ', rfl⟩ := hk.ex
      rw [hnd]
      have hnj := hnn j
      by_cases hj0 : j = 0
      · subst hj0
        repeat' (first | ((with_reducible refine g_wl ?_); (first | refine kN ?_ | ((with_reducible refine g_mv ?_); (refine kp (pvm_move_p rfl) ?_)) | ((with_reducible refine g_as ?_); (first | refine kp (pvm_assign_p rfl) ?_ | refine kp (pvm_assign_i rfl) ?_)))) | with_reducible refine w_seq ?_ | with_reducible refine thenP_n ?_ | with_reducible refine thenP_x ?_ | with_reducible refine blockP_eq ?_ | with_reducible refine w_ret ?_ | with_reducible refine w_exit ?_ | refine w_cond_false rfl ?_ | ((with_reducible refine w_region (id := 15) ?_); all_goals (refine wl_pure rfl rfl (pvm_move_p rfl) ?_); all_goals (refine wl_pure rfl rfl (pv_nilCheck rfl) ?_); all_goals (refine wl_pure rfl rfl (pv_fieldAddr FaWheelW4.fo_97_5 rfl) ?_); all_goals (refine wl_do rfl rfl (opw_load FaWheelW4.one_3 rfl (Has.own 0 0 rfl rfl) ?_)); all_goals (refine wl_pure rfl rfl (pvm_move_i rfl) ?_); all_goals (refine wl_pure rfl rfl (pv_gtr_f rfl rfl (by omega)) ?_); all_goals (refine wl_pure rfl rfl (pvm_move_b rfl) ?_); all_goals (refine wl_skipd rfl rfl ?_); all_goals (refine wl_skipd rfl rfl ?_); all_goals (refine wl_skipd rfl rfl ?_); all_goals (refine wl_skipd rfl rfl ?_); all_goals (refine wl_skipd rfl rfl ?_); all_goals (refine wl_skipd rfl rfl ?_); all_goals (refine wl_skipd rfl rfl ?_); all_goals (refine wl_skipd rfl rfl ?_); all_goals (refine wl_skipd rfl rfl ?_); all_goals (refine wl_skipd rfl rfl ?_); all_goals (refine wl_skipd rfl rfl ?_); all_goals (refine wl_pure rfl rfl (pvk_f_b rfl rfl) ?_); all_goals (refine wl_nil ?_)) | refine wr (id := 17) rfl ?_)
        exact ret_r rfl ⟨b35, _, lG, rs, rfl, rfl, hng 0, by omega⟩
      · obtain ⟨i, rfl⟩ : ∃ i, j = i + 1 := ⟨j - 1, by omega⟩
        have hoi := hoj (i + 1) hj
        cases hbl : s.blank (pAt n (f + i)) (n + 13 : Nat) with
        | true =>
          have hst : nextDown s n f (i + 1) = nextDown s n f i := if_pos hbl
          rw [hst]
          repeat' (first | with_reducible refine w_seq ?_ | with_reducible refine thenP_n ?_ | with_reducible refine blockP_n ?_ | with_reducible refine w_skip ?_ | with_reducible refine w_block ?_ | refine w_cond_true rfl ?_ | ((with_reducible refine w_region (id := 15) ?_); all_goals (refine wl_pure rfl rfl (pvm_move_p rfl) ?_); all_goals (refine wl_pure rfl rfl (pv_nilCheck rfl) ?_); all_goals (refine wl_pure rfl rfl (pv_fieldAddr FaWheelW4.fo_97_5 rfl) ?_); all_goals (refine wl_do rfl rfl (opw_load FaWheelW4.one_3 rfl (Has.own 0 0 rfl rfl) ?_)); all_goals (refine wl_pure rfl rfl (pvm_move_i rfl) ?_); all_goals (refine wl_pure rfl rfl (pv_gtr_t rfl rfl (by omega)) ?_); all_goals (refine wl_pure rfl rfl (pvm_move_b rfl) ?_); all_goals (refine wl_pure rfl rfl (pvm_move_p rfl) ?_); all_goals (refine wl_pure rfl rfl (pvm_move_p rfl) ?_); all_goals (refine wl_pure rfl rfl (pvm_move_p rfl) ?_); all_goals (refine wl_pure rfl rfl (pv_nilCheck rfl) ?_); all_goals (refine wl_pure rfl rfl (pv_fieldAddr FaWheelW4.fo_97_5 rfl) ?_); all_goals (refine wl_do rfl rfl (opw_load FaWheelW4.one_3 rfl (Has.own 0 0 rfl rfl) ?_)); all_goals (refine wl_pure rfl rfl (pvi_e ((f + i : Nat) : Int) (by omega) (pv_isub rfl rfl (by omega))) ?_); all_goals (refine wl_do rfl rfl (opw_call FaWheelW4.ca_59 rfl [0] (at_c b35 fp (nx (i + 1)) _ hoi (f + i) (by rw [hns]; omega) _) RoOk.self (fun v own h => ?_)); obtain ⟨rfl, rfl⟩ := h); all_goals (refine wl_pure rfl rfl (pvm_move_p rfl) ?_); all_goals (refine wl_do rfl rfl (opw_call FaWheelW4.ca_60 rfl [0] (wide_c b35 fp (nx (i + 1)) _ hoi _) RoOk.self (fun v own h => ?_)); obtain ⟨rfl, rfl⟩ := h); all_goals (refine wl_do rfl rfl (opw_call FaWheelW4.ca_58 rfl [3] (blank_c fp q s hb _ _ (by rw [hns]; omega) _) RoOk.self (fun v own h => ?_)); obtain ⟨rfl, rfl⟩ := h; rw [hns, hbl]); all_goals (refine wl_pure rfl rfl (pvk_t_b rfl rfl) ?_); all_goals (refine wl_nil ?_)) | ((with_reducible refine w_region (id := 16) ?_); (refine wl_pure rfl rfl (pvm_move_p rfl) ?_); refine wl_pure rfl rfl (pv_nilCheck rfl) ?_; refine wl_pure rfl rfl (pv_fieldAddr FaWheelW4.fo_97_5 rfl) ?_; (refine wl_do rfl rfl (opw_load FaWheelW4.one_3 rfl (Has.own 1 0 rfl rfl) ?_)); (refine wl_pure rfl rfl (pvi_e ((f + i : Nat) : Int) (by omega) (pv_isub rfl rfl (by omega))) ?_); refine wl_pure rfl rfl (pv_nilCheck rfl) ?_; refine wl_pure rfl rfl (pv_fieldAddr FaWheelW4.fo_97_5 rfl) ?_; (refine wl_no rfl (opw_store 1 0 FaWheelW4.sz_3 rfl rfl rfl rfl rfl (Nat.le_of_ble_eq_true rfl) (noFr_zero _ _) ?_)); refine wl_nil ?_))
          refine ⟨i, [[(b35, wheelObj fp (nx i) (.slice al rs.length cl))], lG, dG rs, flashG fp q s], ?_, ⟨by omega, ⟨rfl, rfl, rfl, trivial⟩, rfl, rfl, rfl⟩, by omega⟩
          subst hnx'
          exact Sub.pk' [1, 1, 1, 0] rfl
        | false =>
          have hst : nextDown s n f (i + 1) = i + 1 := if_neg (by rw [hbl]; simp)
          rw [hst]
          repeat' (first | ((with_reducible refine g_wl ?_); (first | refine kN ?_ | ((with_reducible refine g_mv ?_); (refine kp (pvm_move_p rfl) ?_)) | ((with_reducible refine g_as ?_); (first | refine kp (pvm_assign_p rfl) ?_ | refine kp (pvm_assign_i rfl) ?_)))) | with_reducible refine w_seq ?_ | with_reducible refine thenP_n ?_ | with_reducible refine thenP_x ?_ | with_reducible refine blockP_eq ?_ | with_reducible refine w_ret ?_ | with_reducible refine w_exit ?_ | refine w_cond_false rfl ?_ | ((with_reducible refine w_region (id := 15) ?_); all_goals (refine wl_pure rfl rfl (pvm_move_p rfl) ?_); all_goals (refine wl_pure rfl rfl (pv_nilCheck rfl) ?_); all_goals (refine wl_pure rfl rfl (pv_fieldAddr FaWheelW4.fo_97_5 rfl) ?_); all_goals (refine wl_do rfl rfl (opw_load FaWheelW4.one_3 rfl (Has.own 0 0 rfl rfl) ?_)); all_goals (refine wl_pure rfl rfl (pvm_move_i rfl) ?_); all_goals (refine wl_pure rfl rfl (pv_gtr_t rfl rfl (by omega)) ?_); all_goals (refine wl_pure rfl rfl (pvm_move_b rfl) ?_); all_goals (refine wl_pure rfl rfl (pvm_move_p rfl) ?_); all_goals (refine wl_pure rfl rfl (pvm_move_p rfl) ?_); all_goals (refine wl_pure rfl rfl (pvm_move_p rfl) ?_); all_goals (refine wl_pure rfl rfl (pv_nilCheck rfl) ?_); all_goals (refine wl_pure rfl rfl (pv_fieldAddr FaWheelW4.fo_97_5 rfl) ?_); all_goals (refine wl_do rfl rfl (opw_load FaWheelW4.one_3 rfl (Has.own 0 0 rfl rfl) ?_)); all_goals (refine wl_pure rfl rfl (pvi_e ((f + i : Nat) : Int) (by omega) (pv_isub rfl rfl (by omega))) ?_); all_goals (refine wl_do rfl rfl (opw_call FaWheelW4.ca_59 rfl [0] (at_c b35 fp (nx (i + 1)) _ hoi (f + i) (by rw [hns]; omega) _) RoOk.self (fun v own h => ?_)); obtain ⟨rfl, rfl⟩ := h); all_goals (refine wl_pure rfl rfl (pvm_move_p rfl) ?_); all_goals (refine wl_do rfl rfl (opw_call FaWheelW4.ca_60 rfl [0] (wide_c b35 fp (nx (i + 1)) _ hoi _) RoOk.self (fun v own h => ?_)); obtain ⟨rfl, rfl⟩ := h); all_goals (refine wl_do rfl rfl (opw_call FaWheelW4.ca_58 rfl [3] (blank_c fp q s hb _ _ (by rw [hns]; omega) _) RoOk.self (fun v own h => ?_)); obtain ⟨rfl, rfl⟩ := h; rw [hns, hbl]); all_goals (refine wl_pure rfl rfl (pvk_t_b rfl rfl) ?_); all_goals (refine wl_nil ?_)) | refine wr (id := 17) rfl ?_)
          exact ret_s (v := .tuple #[.pointer (some ⟨b35, 0, none⟩), .int .i64 0]) [[(b35, wheelObj fp (nx (i + 1)) (.slice al rs.length cl))], lG, dG rs, flashG fp q s] rfl (Sub.pk' [1, 1, 1, 0] rfl) ⟨b35, _, lG, rs, rfl, rfl, hng (i + 1), by omega⟩
    · have hopen : openW s gen n = w8 := by unfold openW; rw [← hw8, if_neg hr0]
      rw [hopen]
      repeat' (first | ((with_reducible refine g_wl ?_); (first | refine kN ?_ | ((with_reducible refine g_mv ?_); (refine kp (pvm_move_p rfl) ?_)) | ((with_reducible refine g_as ?_); (first | refine kp (pvm_assign_p rfl) ?_ | refine kp (pvm_assign_i rfl) ?_)) | ((with_reducible refine g_bo ?_); refine kp (pv_lss rfl rfl) ?_))) | with_reducible refine w_seq ?_ | with_reducible refine thenP_n ?_ | with_reducible refine thenP_x ?_ | with_reducible refine blockP_eq ?_ | with_reducible refine w_skip ?_ | with_reducible refine w_ret ?_ | with_reducible refine w_exit ?_ | refine w_cond_false rfl ?_ | ((with_reducible refine w_region (id := 12) ?_); (refine wl_pure rfl rfl (pvm_move_p rfl) ?_); refine wl_pure rfl rfl (pv_nilCheck rfl) ?_; refine wl_pure rfl rfl (pv_fieldAddr FaWheelW4.fo_97_4 rfl) ?_; (refine wl_do rfl rfl (opw_load FaWheelW4.one_3 rfl (Has.own 0 0 rfl rfl) ?_)); (refine wl_pure rfl rfl (pv_geq_f rfl rfl hr0) ?_); refine wl_nil ?_) | refine wr (id := 8) rfl ?_ | refine wr (id := 17) rfl ?_)
      exact ret_r rfl ⟨b35, _, lG, rs, rfl, rfl, hw, by omega⟩
end Go.Proofs.Ytnohdfhhdppflaa
