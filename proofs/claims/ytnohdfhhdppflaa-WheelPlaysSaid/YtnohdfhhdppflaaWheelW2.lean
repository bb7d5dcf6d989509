/- Wheels, walked: a place's record. -/
import Derived.Test.YtnohdfhhdppflaaWheelW
namespace Go.Proofs.Ytnohdfhhdppflaa
open Go Go.Vc Go.Fl Go.Sha
set_option linter.unusedVariables false
set_option linter.unusedSimpArgs false
set_option maxRecDepth 100000
set_option maxHeartbeats 4000000
namespace FaWheelW2
theorem ca_44 : callable Try.prog 44 = true := by kernel_rfl
theorem ca_59 : callable Try.prog 59 = true := by kernel_rfl
theorem ca_60 : callable Try.prog 60 = true := by kernel_rfl
theorem ca_91 : callable Try.prog 91 = true := by kernel_rfl
theorem ca_92 : callable Try.prog 92 = true := by kernel_rfl
theorem fo_97_0 : fieldOff Try.prog 97 0 = some 0 := by kernel_rfl
theorem fo_97_1 : fieldOff Try.prog 97 1 = some 1 := by kernel_rfl
theorem many_104 : isMany Try.prog 104 = true := by kernel_rfl
theorem one_25 : isOne Try.prog 25 = true := by kernel_rfl
theorem one_35 : isOne Try.prog 35 = true := by kernel_rfl
theorem one_5 : isOne Try.prog 5 = true := by kernel_rfl
theorem pl_104 : ∀ w, ((structF Try.prog 104).mapM fun f => do pure (f.offset, ← sizeOf f.type) : Sem (Array (Nat × Nat))).run Try.prog w = .ok #[(0, 1), (1, 1)] w := fun w => by kernel_rfl
theorem sf_104 : Try.prog.underlying 104 = some (.struct (structF Try.prog 104)) := by kernel_rfl
theorem sl_22 : sliceOf Try.prog 22 = some (5, 1) := by kernel_rfl
theorem sz_104 : sz Try.prog 104 = some 2 := by kernel_rfl
theorem zero_104 : zeroOf Try.prog 104 = some (.agg #[(.int .u32 0), (.slice none 0 0)]) := by kernel_rfl
instance : Fb (callable Try.prog 44) := ⟨ca_44⟩
instance : Fb (callable Try.prog 59) := ⟨ca_59⟩
instance : Fb (callable Try.prog 60) := ⟨ca_60⟩
instance : Fb (callable Try.prog 91) := ⟨ca_91⟩
instance : Fb (callable Try.prog 92) := ⟨ca_92⟩
instance : Ft (fieldOff Try.prog 97 0) (0) := ⟨fo_97_0⟩
instance : Ft (fieldOff Try.prog 97 1) (1) := ⟨fo_97_1⟩
instance : Fb (isMany Try.prog 104) := ⟨many_104⟩
instance : Fb (isOne Try.prog 25) := ⟨one_25⟩
instance : Fb (isOne Try.prog 35) := ⟨one_35⟩
instance : Fb (isOne Try.prog 5) := ⟨one_5⟩
instance : Ft (Try.prog.underlying 104) (.struct (structF Try.prog 104)) := ⟨sf_104⟩
instance : Ft (sliceOf Try.prog 22) (5, 1) := ⟨sl_22⟩
instance : Ft (sz Try.prog 104) (2) := ⟨sz_104⟩
instance : Ft (zeroOf Try.prog 104) (.agg #[(.int .u32 0), (.slice none 0 0)]) := ⟨zero_104⟩
end FaWheelW2
attribute [local irreducible] PV OpW WL WM WH WZ W C Has RoOk

/-- What a place's reading yields. -/
def RecRes (x : Option (D × List B)) (v : Value) (own rest : List Blks) : Prop :=
  (x = none ∧ v = .tuple #[.agg #[.int .u32 0, .slice none 0 0], .bool false] ∧ own = [] :: rest) ∨
  ∃ r : RV, x = some r.P ∧ r.Ok ∧ v = .tuple #[.agg r.enc.toArray, .bool true] ∧ own = r.g :: rest
theorem read_up {s : Fs} {k m : Nat} (h : s.down = false) (hk : k + m ≤ 3584) : s.read k m = ((s.bs.drop k).take m, 0) := by
  have hr : s.ready k m = 0 := by unfold Fs.ready; rw [if_neg (by simp [h]), if_neg (by omega)]
  unfold Fs.read; rw [if_pos hr]; rfl
theorem right_len {b x : List B} (h : Crc.right b = some x) : x.length + 4 = b.length := by
  unfold Crc.right at h
  split at h
  · cases h
  · split at h
    · cases h; rw [List.length_take]; omega
    · cases h
theorem whole_c (pw fp q : Nat) (s : Fs) (hb : 3584 ≤ s.b.length) (hd : s.down = false) (w : Wh) (lv : Value) (ho : w.Ok) (k : Nat) (hk : k < 8 * places w.size) (ro : RO) :
    C Try.prog 79 #[.pointer (some ⟨pw, 0, none⟩), .int .i64 k] ro [[(pw, wheelObj fp w lv)], flashG fp q s] fun v own => RecRes (s.recAt w.gen w.size k) v own [[(pw, wheelObj fp w lv)], flashG fp q s] := by
  have h2 := ho.s2
  have h1 := ho.s1
  have hat := pAt_le ho.s1 ho.s2 hk
  have hrd := read_up hd hat
  have hbl := Fs.bs_len hb
  obtain ⟨bs, hbs⟩ : ∃ bs, bs = (s.bs.drop (pAt w.size k)).take (w.size + 13) := ⟨_, rfl⟩
  have hlen : bs.length = w.size + 13 := by rw [hbs, List.length_take, List.length_drop]; omega
  have hrec : s.recAt w.gen w.size k = recOf w.gen w.size bs := by rw [hbs]; rfl
  rw [hrec]
  rw [← hbs] at hrd
  have hx : bs[w.size + 12]? = some (bs.getD (w.size + 12) 0) := getD_of (by omega)
  refine c_of_w2 (n := 62) Try.func79 rfl rfl rfl (by rfl) fun E => ?_
  repeat' (first | ((with_reducible refine g_wl ?_); (first | refine kN ?_ | ((with_reducible refine g_as ?_); (refine kp (pvm_assign_b rfl) ?_)) | refine kd (d := 4) (opw_alloc FaWheelW2.zero_104 fun b4 => ?_))) | with_reducible refine w_seq ?_ | with_reducible refine thenP_n ?_ | (refine w_draw (id := 1) [] (hold [(pw, wheelObj fp w lv)]) Fa.mixed (hold_one 0 0 rfl) ?_; (refine wh_pure 0 rfl (by kernel_rfl) rfl rfl (pvm_move_p rfl) ?_); refine wh_pure 1 rfl (by kernel_rfl) rfl rfl (pv_nilCheck rfl) ?_; refine wh_pure 2 rfl (by kernel_rfl) rfl rfl (pv_fieldAddr FaWheelW2.fo_97_0 rfl) ?_; (refine wh_load 3 rfl (by kernel_rfl) rfl rfl FaWheelW2.one_25 rfl (Has.hold 0 rfl rfl) ?_); (refine wh_pure 4 rfl (by kernel_rfl) rfl rfl (pvm_move_p rfl) ?_); (refine wh_pure 5 rfl (by kernel_rfl) rfl rfl (pvm_move_i rfl) ?_); (refine wh_pure 7 rfl (by kernel_rfl) rfl rfl (pvm_move_p rfl) ?_); refine wh_do 6 (by kernel_rfl) rfl rfl rfl rfl (opw_call FaWheelW2.ca_59 rfl [0] (at_c pw fp w lv ho k hk _) RoOk.self (fun v own h => ?_)); obtain ⟨rfl, rfl⟩ := h; refine ⟨(hold_ok (by simp [dr])), ?_⟩; refine wh_do 8 (by kernel_rfl) rfl rfl rfl rfl (opw_call FaWheelW2.ca_60 rfl [0] (wide_c pw fp w lv ho _) RoOk.self (fun v own h => ?_)); obtain ⟨rfl, rfl⟩ := h; refine ⟨(hold_ok (by simp [dr])), ?_⟩; refine wh_do 9 (by kernel_rfl) rfl rfl rfl rfl (opw_call FaWheelW2.ca_44 rfl [1] (read_c fp q s hb _ _ (by omega) _) RoOk.self (fun v own h => ?_)); obtain ⟨bv, g, rfl, rfl, hg0⟩ := h; rw [hrd]; have hg : Sl v8 5 bv bs g := (by rw [hrd] at hg0; exact hg0); obtain ⟨a2, c2, rfl, hle2⟩ := hg.slice; obtain ⟨r2, hr2, hok2⟩ := hg.ro; refine ⟨(hold_ok (by simp [dr])), ?_⟩; (refine wh_pure 10 rfl (by kernel_rfl) rfl rfl (pvm_move_t rfl) ?_); refine wh_pure 11 rfl (by kernel_rfl) rfl rfl (pv_extract rfl rfl) ?_; refine wh_pure 12 rfl (by kernel_rfl) rfl rfl (pv_extract rfl rfl) ?_; (refine wh_pure 13 rfl (by kernel_rfl) rfl rfl (pvm_assign_s rfl) ?_); (refine wh_pure 14 rfl (by kernel_rfl) rfl rfl (pvm_assign_i rfl) ?_); (refine wh_done (by kernel_rfl) ?_)) | refine wr (id := 0) rfl ?_)
  obtain ⟨b, data, rfl, rfl, rfl, ht⟩ := hg.addr (by omega)
  have hdx : data[0 + (w.size + 12)]? = some (bs.getD (w.size + 12) 0) := by
    rw [Nat.zero_add, ← hx]; conv => rhs; rw [← ht]
    rw [List.getElem?_take, if_pos (by omega)]
  repeat' (first | ((with_reducible refine g_wl ?_); (first | refine kN ?_ | ((with_reducible refine g_as ?_); (refine kp (pvm_assign_b rfl) ?_)) | ((with_reducible refine g_st ?_); (refine kn (opw_storeS 3 0 FaWheelW2.sz_104 rfl rfl rfl rfl rfl rfl rfl (noFr_zero _ _) ?_))) | refine kp (pv_build_structL (fs := structF Try.prog 104) FaWheelW2.sf_104 FaWheelW2.zero_104 FaWheelW2.pl_104 rfl) ?_)) | with_reducible refine w_seq ?_ | with_reducible refine thenP_n ?_ | with_reducible refine thenP_r ?_ | with_reducible refine w_skip ?_ | with_reducible refine w_ret ?_ | (refine w_cond_dec rfl (fun _ => ?_) (fun _ => ?_) <;> try (exfalso; omega)) | ((with_reducible refine w_region (id := 2) ?_); all_goals (refine wl_pure rfl rfl (pvm_move_i rfl) ?_); all_goals (refine wl_pure rfl rfl (pv_neq_e rfl rfl rfl) ?_); all_goals (refine wl_pure rfl rfl (pvm_move_b rfl) ?_); all_goals (refine wl_pure rfl rfl (pvm_move_s rfl) ?_); all_goals (refine wl_pure rfl rfl (pvm_move_p rfl) ?_); all_goals (refine wl_do rfl rfl (opw_call FaWheelW2.ca_60 rfl [2] (wide_c pw fp w lv ho _) RoOk.self (fun v own h => ?_)); obtain ⟨rfl, rfl⟩ := h); all_goals (refine wl_pure rfl rfl (pvi_e ((w.size + 12 : Nat) : Int) (by omega) (pv_isub rfl rfl (by omega))) ?_); all_goals (refine wl_pure rfl rfl (pv_indexAddr1 FaWheelW2.sl_22 rfl rfl (by omega) (by omega)) ?_); all_goals (refine wl_do rfl rfl (opw_load FaWheelW2.one_5 rfl (Has.own 1 0 rfl (cellAt_arr hdx)) ?_)); all_goals (refine wl_pure rfl rfl (pv8_neq rfl (v8_lit 0 rfl (by omega))) ?_); all_goals (refine wl_pure rfl rfl (pvk_f_b rfl rfl) ?_); all_goals (refine wl_nil ?_)) | refine wr (id := 3) rfl ?_)
  · have h0 : bs.getD (w.size + 12) 0 ≠ 0#8 := ‹_›
    have e : recOf w.gen w.size bs = none := by unfold recOf; rw [if_pos h0]
    rw [e]
    exact ret_s (v := .tuple #[.agg #[.int .u32 0, .slice none 0 0], .bool false]) [[], [(pw, wheelObj fp w lv)], flashG fp q s] (res_cell2 [.int .u32 0, .slice none 0 0] 3 0 rfl FaWheelW2.many_104 FaWheelW2.sz_104 rfl rfl rfl) (Sub.pk' [0, 1] rfl) (.inl ⟨rfl, rfl, rfl⟩)
  · have h0 : ¬ bs.getD (w.size + 12) 0 ≠ 0#8 := ‹_›
    have htl : (bs.take (w.size + 12)).length = w.size + 12 := by rw [List.length_take]; omega
    cases hr : Crc.right (bs.take (w.size + 12)) with
    | none =>
      have e : recOf w.gen w.size bs = none := by unfold recOf; rw [if_neg h0, hr]
      rw [e]
      repeat' (first | ((with_reducible refine g_wl ?_); (first | refine kN ?_ | ((with_reducible refine g_as ?_); (refine kp (pvm_assign_b rfl) ?_)) | ((with_reducible refine g_st ?_); (refine kn (opw_storeS 4 0 FaWheelW2.sz_104 rfl rfl rfl rfl rfl rfl rfl (noFr_zero _ _) ?_))) | refine kp (pv_build_structL (fs := structF Try.prog 104) FaWheelW2.sf_104 FaWheelW2.zero_104 FaWheelW2.pl_104 rfl) ?_)) | with_reducible refine w_seq ?_ | with_reducible refine thenP_n ?_ | with_reducible refine thenP_r ?_ | with_reducible refine w_ret ?_ | refine w_cond_true rfl ?_ | ((with_reducible refine w_region (id := 4) ?_); (refine wl_pure rfl rfl (pvm_move_s rfl) ?_); (refine wl_pure rfl rfl (pvm_move_p rfl) ?_); refine wl_do rfl rfl (opw_call FaWheelW2.ca_60 rfl [0] (wide_c pw fp w lv ho _) RoOk.self (fun v own h => ?_)); obtain ⟨rfl, rfl⟩ := h; (refine wl_pure rfl rfl (pvi_e ((w.size + 12 : Nat) : Int) (by omega) (pv_isub rfl rfl (by omega))) ?_); refine wl_pure rfl rfl (pv_slice_h FaWheelW2.sl_22 rfl rfl (by omega) (by omega)) ?_; refine wl_do rfl rfl (opw_call FaWheelW2.ca_91 rfl [] (crcRight_c (some ⟨b, 0, none⟩) (w.size + 12) data.length (bs.take (w.size + 12)) htl.symm (by omega) r2 (hr2.take' (by omega))) (hok2 _ _ (by simp [dr])) (fun v own h => ?_)); obtain ⟨bv3, g3, rfl, rfl, hg3⟩ := h; rw [hr]; rw [hr] at hg3; obtain ⟨a3, c3, rfl, hle3⟩ := hg3.slice; (refine wl_pure rfl rfl (pvm_move_t rfl) ?_); refine wl_pure rfl rfl (pv_extract rfl rfl) ?_; refine wl_pure rfl rfl (pv_extract rfl rfl) ?_; (refine wl_pure rfl rfl (pvm_assign_s rfl) ?_); (refine wl_pure rfl rfl (pvm_assign_b rfl) ?_); refine wl_nil ?_) | (refine w_draw (id := 5) [] (hold [(pw, wheelObj fp w lv)]) Fa.mixed (hold_ok (by simp [dr])) ?_; all_goals (refine wh_pure 0 rfl (by kernel_rfl) rfl rfl (pvm_move_b rfl) ?_); all_goals (refine wh_pure 1 rfl (by kernel_rfl) rfl rfl (pv_not_f rfl) ?_); all_goals (refine wh_pure 2 rfl (by kernel_rfl) rfl rfl (pvm_move_b rfl) ?_); all_goals (refine wh_skip 3 rfl (by kernel_rfl) rfl rfl ?_); all_goals (refine wh_skip 5 rfl (by kernel_rfl) rfl rfl ?_); all_goals (refine wh_skip 6 rfl (by kernel_rfl) rfl rfl ?_); all_goals (refine wh_skip 7 rfl (by kernel_rfl) rfl rfl ?_); all_goals (refine wh_skip 8 rfl (by kernel_rfl) rfl rfl ?_); all_goals (refine wh_skip 4 rfl (by kernel_rfl) rfl rfl ?_); all_goals (refine wh_skip 9 rfl (by kernel_rfl) rfl rfl ?_); all_goals (refine wh_pure 10 rfl (by kernel_rfl) rfl rfl (pvk_t_b rfl rfl) ?_); all_goals (refine wh_done (by kernel_rfl) ?_)) | refine wr (id := 6) rfl ?_)
      exact ret_s (v := .tuple #[.agg #[.int .u32 0, .slice none 0 0], .bool false]) [[], [(pw, wheelObj fp w lv)], flashG fp q s] (res_cell2 [.int .u32 0, .slice none 0 0] 4 0 rfl FaWheelW2.many_104 FaWheelW2.sz_104 rfl rfl rfl) (Sub.pk' [1, 2] rfl) (.inl ⟨rfl, rfl, rfl⟩)
    | some x =>
      have hxl := right_len hr
      have hx8 : x.length = w.size + 8 := by omega
      repeat' (first | with_reducible refine w_seq ?_ | with_reducible refine thenP_n ?_ | ((with_reducible refine w_region (id := 4) ?_); (refine wl_pure rfl rfl (pvm_move_s rfl) ?_); (refine wl_pure rfl rfl (pvm_move_p rfl) ?_); refine wl_do rfl rfl (opw_call FaWheelW2.ca_60 rfl [0] (wide_c pw fp w lv ho _) RoOk.self (fun v own h => ?_)); obtain ⟨rfl, rfl⟩ := h; (refine wl_pure rfl rfl (pvi_e ((w.size + 12 : Nat) : Int) (by omega) (pv_isub rfl rfl (by omega))) ?_); refine wl_pure rfl rfl (pv_slice_h FaWheelW2.sl_22 rfl rfl (by omega) (by omega)) ?_; refine wl_do rfl rfl (opw_call FaWheelW2.ca_91 rfl [] (crcRight_c (some ⟨b, 0, none⟩) (w.size + 12) data.length (bs.take (w.size + 12)) htl.symm (by omega) r2 (hr2.take' (by omega))) (hok2 _ _ (by simp [dr])) (fun v own h => ?_)); obtain ⟨bv3, g3, rfl, rfl, hg30⟩ := h; rw [hr]; have hg3 : Sl v8 5 bv3 x g3 := (by rw [hr] at hg30; exact hg30); obtain ⟨a3, c3, rfl, hle3⟩ := hg3.slice; obtain ⟨r3, hr3, hok3⟩ := hg3.ro; (refine wl_pure rfl rfl (pvm_move_t rfl) ?_); refine wl_pure rfl rfl (pv_extract rfl rfl) ?_; refine wl_pure rfl rfl (pv_extract rfl rfl) ?_; (refine wl_pure rfl rfl (pvm_assign_s rfl) ?_); (refine wl_pure rfl rfl (pvm_assign_b rfl) ?_); refine wl_nil ?_))
      repeat' (first | ((with_reducible refine g_wl ?_); (first | refine kN ?_ | ((with_reducible refine g_as ?_); (refine kp (pvm_assign_b rfl) ?_)) | ((with_reducible refine g_st ?_); (refine kn (opw_storeS 4 0 FaWheelW2.sz_104 rfl rfl rfl rfl rfl rfl rfl (noFr_zero _ _) ?_))) | refine kp (pv_build_structL (fs := structF Try.prog 104) FaWheelW2.sf_104 FaWheelW2.zero_104 FaWheelW2.pl_104 rfl) ?_)) | with_reducible refine w_seq ?_ | with_reducible refine thenP_n ?_ | with_reducible refine thenP_r ?_ | with_reducible refine w_skip ?_ | with_reducible refine w_ret ?_ | (refine w_cond_dec rfl (fun _ => ?_) (fun _ => ?_) <;> try (exfalso; omega)) | (refine w_draw (id := 5) [] (hold [(pw, wheelObj fp w lv)]) Fa.mixed (hold_ok (by simp [dr])) ?_; all_goals (refine wh_pure 0 rfl (by kernel_rfl) rfl rfl (pvm_move_b rfl) ?_); all_goals (refine wh_pure 1 rfl (by kernel_rfl) rfl rfl (pv_not_t rfl) ?_); all_goals (refine wh_pure 2 rfl (by kernel_rfl) rfl rfl (pvm_move_b rfl) ?_); all_goals (refine wh_pure 3 rfl (by kernel_rfl) rfl rfl (pvm_move_s rfl) ?_); all_goals (refine wh_pure 5 rfl (by kernel_rfl) rfl rfl (pvm_move_p rfl) ?_); all_goals (refine wh_pure 6 rfl (by kernel_rfl) rfl rfl (pv_nilCheck rfl) ?_); all_goals (refine wh_pure 7 rfl (by kernel_rfl) rfl rfl (pv_fieldAddr FaWheelW2.fo_97_1 rfl) ?_); all_goals (refine wh_load 8 rfl (by kernel_rfl) rfl rfl FaWheelW2.one_35 rfl (Has.hold 0 rfl rfl) ?_); all_goals (refine wh_do 4 (by kernel_rfl) rfl rfl rfl rfl (opw_call FaWheelW2.ca_92 rfl [] (number_w a3 _ c3 x rfl (by omega) r3 hr3) (hok3 _ _ (by simp [dr])) (fun v own h => ?_)); obtain ⟨rfl, rfl⟩ := h; refine ⟨(hold_ok (by simp [dr])), ?_⟩); all_goals (refine wh_pure 9 rfl (by kernel_rfl) rfl rfl (pv32_neq rfl rfl) ?_); all_goals (refine wh_pure 10 rfl (by kernel_rfl) rfl rfl (pvk_f_b rfl rfl) ?_); all_goals (refine wh_done (by kernel_rfl) ?_)) | refine wr (id := 6) rfl ?_)
      · have h1 : num4 x ≠ w.gen := ‹_›
        have e : recOf w.gen w.size bs = none := by unfold recOf; rw [if_neg h0, hr]; dsimp only; rw [if_pos h1]
        rw [e]
        exact ret_s (v := .tuple #[.agg #[.int .u32 0, .slice none 0 0], .bool false]) [[], [(pw, wheelObj fp w lv)], flashG fp q s] (res_cell2 [.int .u32 0, .slice none 0 0] 4 0 rfl FaWheelW2.many_104 FaWheelW2.sz_104 rfl rfl rfl) (Sub.pk' [1, 2] rfl) (.inl ⟨rfl, rfl, rfl⟩)
      · have h1 : ¬ num4 x ≠ w.gen := ‹_›
        have e : recOf w.gen w.size bs = some (num4 (x.drop 4), x.drop 8) := by unfold recOf; rw [if_neg h0, hr]; dsimp only; rw [if_neg h1]
        rw [e]
        obtain ⟨b3, data3, rfl, rfl, rfl, ht3⟩ := hg3.addr (by omega)
        have hd4 := hr3.drop' (l := 4) (by omega)
        have hd4l : x.length - 4 = (x.drop 4).length := by rw [List.length_drop]
        have hcut : cutAddr (some ⟨b3, 0, none⟩) 8 1 data3.length = some ⟨b3, 8, none⟩ := by rw [cutAddr_some, if_neg (by omega)]
        have hl8 : x.length - 8 = (x.drop 8).length := by rw [List.length_drop]
        repeat' (first | with_reducible refine thenP_n ?_ | with_reducible refine w_ret ?_ | (refine w_draw (id := 7) [] (hold []) Fa.mixed (hold_ok (by simp)) ?_; (refine wh_pure 0 rfl (by kernel_rfl) rfl rfl (pvm_move_s rfl) ?_); refine wh_pure 1 rfl (by kernel_rfl) rfl rfl (pv_slice_l FaWheelW2.sl_22 rfl rfl (by omega) (by omega)) ?_; (refine wh_pure 3 rfl (by kernel_rfl) rfl rfl (pvm_move_s rfl) ?_); refine wh_pure 4 rfl (by kernel_rfl) rfl rfl (pv_slice_l FaWheelW2.sl_22 rfl rfl (by omega) (by omega)) ?_; refine wh_do 2 (by kernel_rfl) rfl rfl rfl rfl (opw_call FaWheelW2.ca_92 rfl [] (number_w _ _ _ (x.drop 4) hd4l (by omega) r3 hd4) (hok3 _ _ (by simp [dr])) (fun v own h => ?_)); obtain ⟨rfl, rfl⟩ := h; refine ⟨RoOk.nil, ?_⟩; refine wh_pure 5 rfl (by kernel_rfl) rfl rfl (pv_build_structL (fs := structF Try.prog 104) FaWheelW2.sf_104 FaWheelW2.zero_104 FaWheelW2.pl_104 rfl) ?_; (refine wh_do 6 (by kernel_rfl) rfl rfl rfl rfl (opw_storeS 4 0 FaWheelW2.sz_104 rfl rfl rfl rfl rfl rfl rfl (noFr_zero _ _) ⟨RoOk.nil, ?_⟩)); (refine wh_pure 7 rfl (by kernel_rfl) rfl rfl (pvm_assign_b rfl) ?_); (refine wh_done (by kernel_rfl) ?_)))
        refine ret_s (v := .tuple #[.agg #[v32 (num4 (x.drop 4)), .slice (cutAddr (some ⟨b3, 0, none⟩) 8 1 data3.length) (x.length - 8) (data3.length - 8)], .bool true]) [[(b3, arr v8 5 data3)], [(pw, wheelObj fp w lv)], flashG fp q s] (res_cell2 [v32 (num4 (x.drop 4)), .slice (cutAddr (some ⟨b3, 0, none⟩) 8 1 data3.length) (x.length - 8) (data3.length - 8)] 4 0 rfl FaWheelW2.many_104 FaWheelW2.sz_104 rfl rfl rfl) (Sub.pk' [0, 0, 1] rfl) ?_
        rw [hcut, hl8]
        refine .inr ⟨⟨num4 (x.drop 4), some ⟨b3, 8, none⟩, data3.length - 8, _, x.drop 8⟩, rfl, ⟨b3, 8, data3, rfl, rfl, ?_, fun i hi => ?_⟩, rfl, rfl⟩
        · dsimp only; rw [List.length_drop]; omega
        · dsimp only at hi ⊢
          rw [List.length_drop] at hi
          rw [List.getElem?_drop]; conv => rhs; rw [← ht3]
          rw [List.getElem?_take, if_pos (by omega)]
end Go.Proofs.Ytnohdfhhdppflaa
