/- Wheels, walked: a sector's records. -/
import Derived.Test.YtnohdfhhdppflaaWheelW2
namespace Go.Proofs.Ytnohdfhhdppflaa
open Go Go.Vc Go.Fl Go.Sha
set_option linter.unusedVariables false
set_option linter.unusedSimpArgs false
set_option maxRecDepth 100000
set_option maxHeartbeats 4000000
namespace FaWheelW3
theorem ca_57 : callable Try.prog 57 = true := by kernel_rfl
theorem ca_79 : callable Try.prog 79 = true := by kernel_rfl
theorem ei_104 : elemInfo Try.prog 104 = some (2, 32, (.agg #[(.int .u32 0), (.slice none 0 0)])) := by kernel_rfl
theorem fo_97_3 : fieldOff Try.prog 97 3 = some 3 := by kernel_rfl
theorem fo_97_4 : fieldOff Try.prog 97 4 = some 4 := by kernel_rfl
theorem many_104 : isMany Try.prog 104 = true := by kernel_rfl
theorem one_67 : isOne Try.prog 67 = true := by kernel_rfl
theorem sl_67 : sliceOf Try.prog 67 = some (104, 2) := by kernel_rfl
theorem sz_104 : sz Try.prog 104 = some 2 := by kernel_rfl
theorem sz_3 : sz Try.prog 3 = some 1 := by kernel_rfl
theorem sz_67 : sz Try.prog 67 = some 1 := by kernel_rfl
theorem zero_104 : zeroOf Try.prog 104 = some (.agg #[(.int .u32 0), (.slice none 0 0)]) := by kernel_rfl
instance : Fb (callable Try.prog 57) := ⟨ca_57⟩
instance : Fb (callable Try.prog 79) := ⟨ca_79⟩
instance : Ft (elemInfo Try.prog 104) (2, 32, (.agg #[(.int .u32 0), (.slice none 0 0)])) := ⟨ei_104⟩
instance : Ft (fieldOff Try.prog 97 3) (3) := ⟨fo_97_3⟩
instance : Ft (fieldOff Try.prog 97 4) (4) := ⟨fo_97_4⟩
instance : Fb (isMany Try.prog 104) := ⟨many_104⟩
instance : Fb (isOne Try.prog 67) := ⟨one_67⟩
instance : Ft (sliceOf Try.prog 67) (104, 2) := ⟨sl_67⟩
instance : Ft (sz Try.prog 104) (2) := ⟨sz_104⟩
instance : Ft (sz Try.prog 3) (1) := ⟨sz_3⟩
instance : Ft (sz Try.prog 67) (1) := ⟨sz_67⟩
instance : Ft (zeroOf Try.prog 104) (.agg #[(.int .u32 0), (.slice none 0 0)]) := ⟨zero_104⟩
instance : Ft (Try.prog.underlying 67) (.slice 104) := ⟨Try.underlying67⟩
end FaWheelW3
attribute [local irreducible] PV OpW WL WM WH WZ W C Has RoOk

def dG (rs : List RV) : Blks := rs.flatMap RV.g
theorem dG_snoc (rs : List RV) (r : RV) : dG (rs ++ [r]) = dG rs ++ r.g := by unfold dG; rw [List.flatMap_append]; simp
/-- The records of a wheel, as they lie. -/
structure WhG (w : Wh) (lv : Value) (lG : Blks) (rs : List RV) : Prop where
  list : SlM RV.enc 104 lv rs lG
  recs : rs.map RV.P = w.recs
  ok : ∀ r ∈ rs, r.Ok
  len : rs.length ≤ 10000
theorem WhG.slice {w : Wh} {lv : Value} {lG : Blks} {rs : List RV} (h : WhG w lv lG rs) : ∃ a c, lv = .slice a rs.length c := by
  rcases h.list with ⟨rfl, rfl, _⟩ | ⟨b, data, rfl, _, _⟩
  · exact ⟨_, _, rfl⟩
  · exact ⟨_, _, rfl⟩
theorem reads_c (pw fp q : Nat) (s : Fs) (hb : 3584 ≤ s.b.length) (hd : s.down = false) (w : Wh) (lv : Value) (lG : Blks) (rs : List RV) (ho : w.Ok) (hw : WhG w lv lG rs) (hrl : rs.length ≤ 5000) (sec : Nat) (hs : sec < 8) (ro : RO) :
    C Try.prog 56 #[.pointer (some ⟨pw, 0, none⟩), .int .i64 sec] ro [[(pw, wheelObj fp w lv)], lG, dG rs, flashG fp q s] fun v own => ∃ lv' lG' rs', own = [[(pw, wheelObj fp (w.reads s sec) lv')], lG', dG rs', flashG fp q s] ∧ WhG (w.reads s sec) lv' lG' rs' ∧ rs'.length ≤ rs.length + 19 := by
  obtain ⟨h3, h4⟩ := places_le ho.s2
  have h2 := ho.s2
  obtain ⟨f, hf⟩ : ∃ f, f = sec * places w.size := ⟨_, rfl⟩
  have hf8 : f + places w.size ≤ 8 * places w.size := by
    have : (sec + 1) * places w.size ≤ 8 * places w.size := Nat.mul_le_mul_right _ (by omega)
    rw [Nat.add_mul, ← hf] at this; omega
  have hre : w.reads s sec = if (s.recAt w.gen w.size f).isNone then w else { w with ready := sec, recs := w.recs ++ (List.range (places w.size)).filterMap fun i => s.recAt w.gen w.size (f + i) } := by rw [hf]; rfl
  rw [hre]
  obtain ⟨al, cl, rfl⟩ := hw.slice
  refine c_of_w2 (n := 51) Try.func56 rfl rfl rfl (by rfl) fun E => ?_
  repeat' (first | ((with_reducible refine g_wl ?_); (first | refine kN ?_ | ((with_reducible refine g_mv ?_); (first | refine kp (pvm_move_p rfl) ?_ | refine kp (pvm_move_t rfl) ?_ | refine kp (pvm_move_i rfl) ?_)) | ((with_reducible refine g_as ?_); (refine kp (pvm_assign_b rfl) ?_)) | ((with_reducible refine g_st ?_); (refine kn (opw_storeS 5 0 FaWheelW3.sz_104 rfl rfl rfl rfl rfl rfl rfl (noFr_zero _ _) ?_))) | ((with_reducible refine g_cf 79 ?_); (refine kd (opw_call Fb.h rfl [0, 2] (whole_c pw fp q s hb hd w _ ho f (by omega) _) RoOk.self (fun v own h => ?_)); rcases h with ⟨hn, rfl, rfl⟩ | ⟨r, hn, hr, rfl, rfl⟩)) | refine kp (pv_extract rfl rfl) ?_ | refine kd (d := 5) (opw_alloc FaWheelW3.zero_104 fun b5 => ?_))) | with_reducible refine w_seq ?_ | with_reducible refine thenP_n ?_ | ((with_reducible refine w_region (id := 0) ?_); (refine wl_pure rfl rfl (pvm_move_i rfl) ?_); (refine wl_pure rfl rfl (pvm_move_p rfl) ?_); refine wl_do rfl rfl (opw_call FaWheelW3.ca_57 rfl [0] (places_c pw fp w _ ho _) RoOk.self (fun v own h => ?_)); obtain ⟨rfl, rfl⟩ := h; (refine wl_pure rfl rfl (pvi_e (f : Int) (by rw [hf]; push_cast; rfl) (pv_imul rfl rfl (by rw [← Int.natCast_mul, ← hf]; omega))) ?_); (refine wl_pure rfl rfl (pvm_assign_i rfl) ?_); refine wl_nil ?_) | refine wr (id := 1) rfl ?_)
  · rw [if_pos (by rw [hn]; rfl)]
    repeat' (first | ((with_reducible refine g_wl ?_); (first | refine kN ?_ | ((with_reducible refine g_mv ?_); (refine kp (pvm_move_b rfl) ?_)) | refine kp (pv_not_f rfl) ?_)) | with_reducible refine thenP_n ?_ | with_reducible refine thenP_r ?_ | with_reducible refine w_ret ?_ | refine w_cond_true rfl ?_ | refine wr (id := 2) rfl ?_)
    exact ⟨_, _, rfl, Sub.pk' [1, 2, 2, 1] rfl, _, _, rs, rfl, hw, by omega⟩
  · rw [if_neg (by rw [hn]; simp)]
    repeat' (first | ((with_reducible refine g_wl ?_); (first | refine kN ?_ | ((with_reducible refine g_mv ?_); (first | refine kp (pvm_move_b rfl) ?_ | refine kp (pvm_move_p rfl) ?_ | refine kp (pvm_move_i rfl) ?_)) | ((with_reducible refine g_st ?_); (refine kn (opw_store 1 0 Ft.h rfl rfl rfl rfl rfl (Nat.le_of_ble_eq_true rfl) (noFr_zero _ _) ?_))) | ((with_reducible refine g_cf 57 ?_); (refine kd (opw_call Fb.h rfl [1] (places_c pw fp { w with ready := sec } _ ⟨ho.s1, ho.s2, ho.next, by show -1 ≤ (sec : Int); omega, by show (sec : Int) < 8; omega⟩ _) RoOk.self (fun v own h => ?_)); obtain ⟨rfl, rfl⟩ := h)) | refine kp (pv_not_t rfl) ?_ | refine kp (pv_nilCheck rfl) ?_ | refine kp (pv_fieldAddr Ft.h rfl) ?_)) | with_reducible refine w_seq ?_ | with_reducible refine thenP_n ?_ | with_reducible refine w_skip ?_ | with_reducible refine w_block ?_ | refine w_cond_false rfl ?_ | refine wr (id := 2) rfl ?_ | refine wr (id := 3) rfl ?_ | refine wr (id := 4) rfl ?_)
    refine w_sub (own' := [[(pw, wheelObj fp { w with ready := sec } (.slice al rs.length cl))], lG, dG rs, flashG fp q s]) (Sub.pk' [0, 2, 2, 1] rfl) ?_
    obtain ⟨wi, hwi⟩ : ∃ wi : Nat → Wh, wi = fun i => { w with ready := sec, recs := w.recs ++ (List.range i).filterMap fun i => s.recAt w.gen w.size (f + i) } := ⟨_, rfl⟩
    have hwo : ∀ i, (wi i).Ok := fun i => by rw [hwi]; exact ⟨ho.s1, ho.s2, ho.next, by show -1 ≤ (sec : Int); omega, by show (sec : Int) < 8; omega⟩
    have hwg : ∀ i, (wi i).gen = w.gen := fun i => by rw [hwi]
    have hws : ∀ i, (wi i).size = w.size := fun i => by rw [hwi]
    have hobj : ∀ i j lv, wheelObj fp (wi i) lv = wheelObj fp (wi j) lv := fun i j lv => by rw [hwi]; rfl
    have hrs : ∀ i, (wi (i + 1)).recs = (wi i).recs ++ (s.recAt w.gen w.size (f + i)).toList := fun i => by
      rw [hwi]; simp only [List.range_succ, List.filterMap_append, List.append_assoc]
      congr 2
    have hw0 : WhG (wi 0) (.slice al rs.length cl) lG rs := ⟨hw.list, by rw [hwi]; simpa using hw.recs, hw.ok, hw.len⟩
    have ho0 : wheelObj fp { w with ready := sec } (.slice al rs.length cl) = wheelObj fp (wi 0) (.slice al rs.length cl) := by rw [hwi]; rfl
    have hfin : { w with ready := sec, recs := w.recs ++ (List.range (places w.size)).filterMap fun i => s.recAt w.gen w.size (f + i) } = wi (places w.size) := by rw [hwi]
    rw [hfin, ho0]
    refine w_loop2 (ι := Nat × Value × Blks × List RV) (fun x ρ ro' own => x.1 ≤ places w.size ∧ Kn [(0, .pointer (some ⟨pw, 0, none⟩)), (4, .int .i64 f), (27, .int .i64 (places w.size : Int)), (28, .int .i64 x.1)] ρ ∧ ro' = ro ∧ own = [[(pw, wheelObj fp (wi x.1) x.2.1)], x.2.2.1, dG x.2.2.2, flashG fp q s] ∧ WhG (wi x.1) x.2.1 x.2.2.1 x.2.2.2 ∧ x.2.2.2.length ≤ rs.length + x.1) (fun x => places w.size - x.1) (0, _, lG, rs) ⟨Nat.zero_le _, ⟨rfl, rfl, rfl, rfl, trivial⟩, rfl, rfl, hw0, Nat.le_refl _⟩ ?_
    rintro ⟨i, lv', lG', rs'⟩ ρ ro' own ⟨hi, hk, rfl, rfl, hg', hlr⟩
    obtain ⟨ρ', rfl⟩ := hk.ex
    dsimp only at *
    by_cases hlt : i < places w.size
    · obtain ⟨al', cl', rfl⟩ := hg'.slice
      repeat' (first | ((with_reducible refine g_wl ?_); (first | refine kN ?_ | ((with_reducible refine g_mv ?_); (first | refine kp (pvm_move_b rfl) ?_ | refine kp (pvm_move_i rfl) ?_)) | ((with_reducible refine g_as ?_); (refine kp (pvm_assign_i rfl) ?_)) | ((with_reducible refine g_bo ?_); (first | refine kp (pv_iadd rfl rfl (by omega)) ?_ | refine kp (pv_lss rfl rfl) ?_)))) | with_reducible refine w_seq ?_ | with_reducible refine thenP_n ?_ | with_reducible refine blockP_n ?_ | with_reducible refine w_skip ?_ | with_reducible refine w_block ?_ | refine w_cond_true rfl ?_ | refine w_cond_false rfl ?_ | (refine w_cond_dec rfl (fun _ => ?_) (fun _ => ?_) <;> try (exfalso; omega)) | ((with_reducible refine w_region (id := 7) ?_); all_goals (refine wl_pure rfl rfl (pvm_move_p rfl) ?_); all_goals (refine wl_pure rfl rfl (pvm_move_i rfl) ?_); all_goals (refine wl_pure rfl rfl (pvm_move_i rfl) ?_); all_goals (refine wl_pure rfl rfl (pvi_e ((f + i : Nat) : Int) (by push_cast; rfl) (pv_iadd rfl rfl (by omega))) ?_); all_goals (refine wl_do rfl rfl (opw_call FaWheelW3.ca_79 rfl [0, 2] (whole_c pw fp q s hb hd (wi i) _ (hwo i) (f + i) (by rw [hws]; omega) _) RoOk.self (fun v own h => ?_)); rcases h with ⟨hn', rfl, rfl⟩ | ⟨r', hn', hr', rfl, rfl⟩); all_goals (refine wl_pure rfl rfl (pvm_move_t rfl) ?_); all_goals (refine wl_pure rfl rfl (pv_extract rfl rfl) ?_); all_goals (refine wl_pure rfl rfl (pv_extract rfl rfl) ?_); all_goals (refine wl_do rfl rfl (opw_alloc FaWheelW3.zero_104 fun b8 => ?_)); all_goals (refine wl_no rfl (opw_storeS 5 0 FaWheelW3.sz_104 rfl rfl rfl rfl rfl rfl rfl (noFr_zero _ _) ?_)); all_goals (refine wl_pure rfl rfl (pvm_assign_b rfl) ?_); all_goals (refine wl_nil ?_)) | (refine w_draw (id := 9) [10] (hold [(pw, wheelObj fp (wi i) (.slice al' rs'.length cl')), (b8, .cells r'.enc.toArray 104 (0, 0))]) Fa.mixed (hold_ok (by simp [dr])) ?_; (refine wh_pure 0 rfl (by kernel_rfl) rfl rfl (pvm_move_p rfl) ?_); (refine wh_pure 1 rfl (by kernel_rfl) rfl rfl (pvm_move_p rfl) ?_); refine wh_pure 2 rfl (by kernel_rfl) rfl rfl (pv_nilCheck rfl) ?_; refine wh_pure 3 rfl (by kernel_rfl) rfl rfl (pv_fieldAddr FaWheelW3.fo_97_3 rfl) ?_; (refine wh_load 4 rfl (by kernel_rfl) rfl rfl FaWheelW3.one_67 rfl (Has.hold 0 rfl rfl) ?_); refine wh_loadA (cs := r'.enc) 5 rfl (by kernel_rfl) rfl rfl FaWheelW3.many_104 FaWheelW3.sz_104 rfl rfl (fun k u hu => holdCells 1 rfl k u hu) ?_; (refine wh_do 6 (by kernel_rfl) rfl rfl rfl rfl (opw_buildRec2 (enc := RV.enc) r' Try.underlying67 FaWheelW3.sz_104 FaWheelW3.zero_104 rfl rfl fun nb => ⟨(hold_ok (by simp [dr])), ?_⟩)); refine wh_do 7 (by kernel_rfl) rfl rfl rfl rfl (opw_appendM (enc := RV.enc) (xs := rs') (ys := [r']) 3 FaWheelW3.sl_67 FaWheelW3.ei_104 (by omega) (fun _ => rfl) RV.one RV.zero rfl rfl hg'.list rfl rfl (rd_rec2 6 0 rfl) (by show (_ + 1) * 32 ≤ _; omega) (by omega) (fun v g h => ?_)); obtain ⟨a9, c9, rfl⟩ := h.slice; refine ⟨(hold_ok (by simp [dr])), ?_⟩; refine wh_pure 8 rfl (by kernel_rfl) rfl rfl (pv_nilCheck rfl) ?_; refine wh_pure 9 rfl (by kernel_rfl) rfl rfl (pv_fieldAddr FaWheelW3.fo_97_3 rfl) ?_; (refine wh_rel 10 (by kernel_rfl) rfl rfl rfl rfl (opw_store 1 0 FaWheelW3.sz_67 rfl rfl rfl rfl rfl (Nat.le_of_ble_eq_true rfl) (noFr_zero _ _) ?_)); (refine wz_done (by kernel_rfl) ?_)) | refine wr (id := 5) rfl ?_ | refine wr (id := 6) rfl ?_ | refine wr (id := 8) rfl ?_ | refine wr (id := 10) rfl ?_)
      · have hrs' := hrs i
        rw [← hwg i, ← hws i, hn', Option.toList_none, List.append_nil] at hrs'
        refine ⟨(i + 1, _, lG', rs'), [[(pw, wheelObj fp (wi i) (.slice al' rs'.length cl'))], lG', dG rs', flashG fp q s], Sub.pk' [1, 2, 2, 1] rfl, ⟨by dsimp only; omega, ⟨rfl, rfl, rfl, rfl, trivial⟩, rfl, ?_, ⟨hg'.list, by rw [hrs']; exact hg'.recs, hg'.ok, hg'.len⟩, by dsimp only; omega⟩, by dsimp only; omega⟩
        dsimp only; rw [hobj i (i + 1)]
      · have hrs' := hrs i
        rw [← hwg i, ← hws i, hn', Option.toList_some] at hrs'
        refine ⟨(i + 1, _, _, rs' ++ [r']), [[(pw, wheelObj fp (wi i) (.slice a9 (rs' ++ [r']).length c9))], g, dG (rs' ++ [r']), flashG fp q s], Sub.pk' [1, 2, 2, 0, 0] ?_, ⟨by dsimp only; omega, ⟨rfl, rfl, rfl, rfl, trivial⟩, rfl, ?_, ⟨h, ?_, ?_, ?_⟩, ?_⟩, by dsimp only; omega⟩
        · show _ = [[(pw, wheelObj fp (wi i) (.slice a9 (rs' ++ [r']).length c9))], g, dG rs', r'.g, flashG fp q s].flatten
          rw [dG_snoc]; simp
        · dsimp only; rw [hobj i (i + 1)]
        · dsimp only; rw [hrs', List.map_append, hg'.recs]; rfl
        · intro y hy
          rcases List.mem_append.1 hy with hy | hy
          · exact hg'.ok y hy
          · rw [List.mem_singleton] at hy; rw [hy]; exact hr'
        · dsimp only; rw [List.length_append, List.length_singleton]; omega
        · dsimp only; rw [List.length_append, List.length_singleton]; omega
    · obtain rfl : i = places w.size := by omega
      repeat' (first | ((with_reducible refine g_wl ?_); (first | refine kN ?_ | ((with_reducible refine g_bo ?_); refine kp (pv_lss rfl rfl) ?_))) | with_reducible refine w_seq ?_ | with_reducible refine thenP_n ?_ | with_reducible refine thenP_x ?_ | with_reducible refine blockP_eq ?_ | with_reducible refine w_exit ?_ | (refine w_cond_dec rfl (fun _ => ?_) (fun _ => ?_) <;> try (exfalso; omega)) | refine wr (id := 5) rfl ?_)
      exact ⟨_, _, rfl, Sub.refl, _, _, rs', rfl, hg', by omega⟩
end Go.Proofs.Ytnohdfhhdppflaa
