/- The reference's flash, walked: Join, Read, Blank, Program, Erase. -/
import Derived.Test.YtnohdfhhdppflaaReFlash
namespace Go.Proofs.Ytnohdfhhdppflaa
open Go Go.Vc Go.Fl
set_option linter.unusedVariables false
set_option linter.unusedSimpArgs false
set_option maxRecDepth 100000
set_option maxHeartbeats 4000000
namespace FaReFlash2
theorem ca_54 : callable Try.prog 54 = true := by kernel_rfl
theorem ca_70 : callable Try.prog 70 = true := by kernel_rfl
theorem ei_5 : elemInfo Try.prog 5 = some (1, 1, (.int .u8 0)) := by kernel_rfl
theorem fo_53_0 : fieldOff Try.prog 53 0 = some 0 := by kernel_rfl
theorem fo_53_3 : fieldOff Try.prog 53 3 = some 16 := by kernel_rfl
theorem one_22 : isOne Try.prog 22 = true := by kernel_rfl
theorem one_4 : isOne Try.prog 4 = true := by kernel_rfl
theorem sl_117 : sliceOf Try.prog 117 = some (22, 1) := by kernel_rfl
theorem sl_22 : sliceOf Try.prog 22 = some (5, 1) := by kernel_rfl
theorem sz_22 : sz Try.prog 22 = some 1 := by kernel_rfl
theorem zero_22 : zeroOf Try.prog 22 = some (.slice none 0 0) := by kernel_rfl
instance : Fb (callable Try.prog 54) := ⟨ca_54⟩
instance : Fb (callable Try.prog 70) := ⟨ca_70⟩
instance : Ft (elemInfo Try.prog 5) (1, 1, (.int .u8 0)) := ⟨ei_5⟩
instance : Ft (fieldOff Try.prog 53 0) (0) := ⟨fo_53_0⟩
instance : Ft (fieldOff Try.prog 53 3) (16) := ⟨fo_53_3⟩
instance : Fb (isOne Try.prog 22) := ⟨one_22⟩
instance : Fb (isOne Try.prog 4) := ⟨one_4⟩
instance : Ft (sliceOf Try.prog 117) (22, 1) := ⟨sl_117⟩
instance : Ft (sliceOf Try.prog 22) (5, 1) := ⟨sl_22⟩
instance : Ft (sz Try.prog 22) (1) := ⟨sz_22⟩
instance : Ft (zeroOf Try.prog 22) (.slice none 0 0) := ⟨zero_22⟩
instance : Ft (Try.prog.underlying 117) (.slice 22) := ⟨Try.underlying117⟩
end FaReFlash2
attribute [local irreducible] PV OpW WL WM WH WZ W C Has RoOk

/-- A slice of bytes as an element: its address, its capacity, its bytes. -/
abbrev BSl := Option Addr × Nat × List (BitVec 8)
def encS (e : BSl) : Value := .slice e.1 e.2.2.length e.2.1
def allB (es : List BSl) : List (BitVec 8) := es.flatMap fun e => e.2.2
theorem join_c (a : Option Addr) (c : Nat) (es : List BSl) (hl : es.length ≤ 1000) (hle : ∀ e ∈ es, e.2.2.length ≤ 100000) (ro : RO) (hs : SlR encS (.slice a es.length c) es ro) (he : ∀ e ∈ es, SlR v8 (encS e) e.2.2 ro) :
    C Try.prog 70 #[.slice a es.length c] ro [] fun v own => ∃ g, own = [g] ∧ Sl v8 5 v (allB es) g := by
  refine c_of_w2 (n := 17) Try.func70 rfl rfl rfl (by rfl) fun E => ?_
  repeat' (first | ((with_reducible refine g_wl ?_); (first | refine kN ?_ | ((with_reducible refine g_mv ?_); (first | refine kp (pvm_move_s rfl) ?_ | refine kp (pvm_move_i rfl) ?_)) | ((with_reducible refine g_as ?_); (refine kp (pvm_assign_s rfl) ?_)) | ((with_reducible refine g_cb .len ?_); refine kp (pv_len_slice Ft.h rfl) ?_))) | with_reducible refine w_seq ?_ | with_reducible refine thenP_n ?_ | with_reducible refine w_block ?_ | refine wr rfl ?_)
  refine w_sub (own' := [[]]) (Sub.flat rfl) ?_
  refine w_loop2 (ι := Nat × Value × Blks) (fun x ρ ro' own => x.1 ≤ es.length ∧ Kn [(3, x.2.1), (6, .slice a es.length c), (7, .int .i64 es.length), (8, .int .i64 x.1)] ρ ∧ ro' = ro ∧ own = [x.2.2] ∧ Sl v8 5 x.2.1 (allB (es.take x.1)) x.2.2 ∧ (allB (es.take x.1)).length ≤ 100000 * x.1) (fun x => es.length - x.1) (0, _, _) ⟨Nat.zero_le _, ⟨rfl, rfl, rfl, rfl, trivial⟩, rfl, rfl, Sl.nil, Nat.zero_le _⟩ ?_
  rintro ⟨i, v, g⟩ ρ ro' own ⟨hi, hk, rfl, rfl, hS, hLn⟩
  obtain ⟨ρ', rfl⟩ := hk.ex
  dsimp only at *
  by_cases hlt : i < es.length
  · obtain ⟨b, off, rfl, hhas⟩ := hs.addr (by omega)
    have hx : es[i]? = some (es[i]'hlt) := List.getElem?_eq_getElem hlt
    have hmem : es[i]'hlt ∈ es := List.getElem_mem hlt
    have hei := he _ hmem
    have hli := hle _ hmem
    have htk : allB (es.take (i + 1)) = allB (es.take i) ++ (es[i]'hlt).2.2 := by
      unfold allB; rw [List.take_succ_eq_append_getElem hlt, List.flatMap_append]; simp
    repeat' (first | ((with_reducible refine g_wl ?_); (first | refine kN ?_ | ((with_reducible refine g_mv ?_); (first | refine kp (pvm_move_s rfl) ?_ | refine kp (pvm_move_i rfl) ?_ | refine kp pv_move ?_)) | ((with_reducible refine g_as ?_); (first | refine kp (pvm_assign_s rfl) ?_ | refine kp pv_assign ?_)) | ((with_reducible refine g_bo ?_); (first | refine kp (pv_iadd rfl rfl (by omega)) ?_ | refine kp (pv_lss rfl rfl) ?_)) | ((with_reducible refine g_ld ?_); (refine kd (opw_load Fb.h rfl (hhas _ _ _ hx) ?_))) | ((with_reducible refine g_cb .append ?_); (refine kd (opw_append (f := v8) (xs := allB (es.take i)) (ys := (es[i]'hlt).2.2) 0 FaReFlash2.sl_22 FaReFlash2.ei_5 (fun _ => rfl) 0 rfl rfl hS rfl rfl (SlR.rd hei _) (by show (_ + _) * 1 ≤ _; omega) (by omega) (fun v g h => ?_)))) | refine kp (pv_indexAddr1 FaReFlash2.sl_117 rfl rfl (by omega) (by omega)) ?_)) | with_reducible refine w_seq ?_ | with_reducible refine thenP_n ?_ | with_reducible refine blockP_n ?_ | with_reducible refine w_skip ?_ | with_reducible refine w_block ?_ | (refine w_cond_dec rfl (fun _ => ?_) (fun _ => ?_) <;> try (exfalso; omega)) | refine wr rfl ?_)
    refine ⟨(i + 1, _, _), [_], Sub.pk' [0] rfl, ⟨by dsimp only; omega, ⟨rfl, rfl, rfl, rfl, trivial⟩, rfl, rfl, ?_, ?_⟩, by dsimp only; omega⟩
    · dsimp only; rw [htk]; assumption
    · dsimp only; rw [htk, List.length_append]; omega
  · repeat' (first | ((with_reducible refine g_wl ?_); (first | refine kN ?_ | ((with_reducible refine g_mv ?_); (refine kp pv_move ?_)) | ((with_reducible refine g_as ?_); (refine kp pv_assign ?_)) | ((with_reducible refine g_bo ?_); (refine kp (pv_lss rfl rfl) ?_)))) | with_reducible refine w_seq ?_ | with_reducible refine thenP_n ?_ | with_reducible refine thenP_x ?_ | with_reducible refine blockP_eq ?_ | with_reducible refine w_ret ?_ | with_reducible refine w_exit ?_ | (refine w_cond_dec rfl (fun _ => ?_) (fun _ => ?_) <;> try (exfalso; omega)) | refine wr rfl ?_)
    rw [List.take_of_length_le (by omega)] at hS
    exact ret_r rfl ⟨_, rfl, hS⟩
theorem pvm_eq {P : Program} {ρ : Fr} {op : Op} {v v' : Value} (h : v = v') (hp : PV P op ρ v) : PV P op ρ v' := h ▸ hp
theorem readR_c (p q : Nat) (s t : Fs) (h : Rel s t) (at_ n : Int) (hn : -1000000 ≤ at_ ∧ at_ ≤ 1000000 ∨ True) (ro : RO) : C Try.prog 53 #[.pointer (some ⟨p, 0, none⟩), .int .i64 at_, .int .i64 n] ro [refG p q t] fun v own => ∃ bv g, v = .tuple #[bv, .int .i64 (s.read at_ n).2] ∧ own = [g, refG p q t] ∧ Sl v8 5 bv (s.read at_ n).1 g := by
  have hbl := Fs.bs_len h.len
  have hd := h.down
  by_cases hr : s.ready at_ n = 0
  · obtain ⟨hd0, h0, h1, h2, h3⟩ := Fs.ready_0 hr
    rw [hd0] at hd
    obtain ⟨at', rfl⟩ := Int.eq_ofNat_of_zero_le h2
    obtain ⟨n', rfl⟩ := Int.eq_ofNat_of_zero_le h0
    have hp : s.read (at' : Int) (n' : Int) = ((s.bs.drop at').take n', 0) := if_pos hr
    have hlen : ((s.bs.drop at').take n').length = n' := by simp; omega
    have hdec : (decide (0 ≤ (n' : Int) ∧ (n' : Int) ≤ 3584 ∧ 0 ≤ (at' : Int) ∧ (at' : Int) ≤ 3584 - n')) = true := decide_eq_true (by omega)
    rw [hp]
    refine c_of_w2 (n := 27) Try.func53 rfl rfl rfl (by rfl) fun E => ?_
    obtain ⟨e, hee⟩ : ∃ e : BSl, e = (cutAddr (some ⟨q, 0, none⟩) at' 1 3584, 3584 - at', (s.bs.drop at').take n') := ⟨_, rfl⟩
    have hsl : Value.slice (cutAddr (some ⟨q, 0, none⟩) (at' : Int).toNat 1 3584) (((at' : Int) + (n' : Int)).toNat - (at' : Int).toNat) (3584 - (at' : Int).toNat) = encS e := by
      rw [hee]; unfold encS; dsimp only; rw [hlen]
      rw [show ((at' : Int) + (n' : Int)).toNat - (at' : Int).toNat = n' by omega]; rfl
    have hcut : SlR v8 (encS e) e.2.2 [(q, AtO v8 0 s.bs)] := by
      rw [hee]; unfold encS; dsimp only; rw [hlen]
      have := (SlR.of_has (f := v8) (b := q) (off := 0) (xs := s.bs) (c := 3584) (by omega)).cut (l := at') (m := at' + n') (by omega) (by omega)
      rwa [Nat.add_sub_cancel_left] at this
    repeat' (first | ((with_reducible refine g_wl ?_); (first | refine kN ?_ | ((with_reducible refine g_mv ?_); (first | refine kp (pvm_move_p rfl) ?_ | refine kp (pvm_move_i rfl) ?_)) | ((with_reducible refine g_as ?_); (first | refine kp (pvm_assign_s rfl) ?_ | refine kp (pvm_assign_i rfl) ?_)) | ((with_reducible refine g_ld ?_); (refine kd (opw_load Fb.h rfl (Has.own 0 0 rfl rfl) ?_))) | ((with_reducible refine g_cf 54 ?_); (refine kd (opw_call Fb.h rfl [] (there_c _ _ _) RoOk.self (fun v own h => ?_)); obtain ⟨rfl, rfl⟩ := h; rw [hdec])) | refine kp (pv_nilCheck rfl) ?_ | refine kp (pv_fieldAddr Ft.h rfl) ?_ | refine kp (pv_not_t rfl) ?_)) | with_reducible refine w_seq ?_ | with_reducible refine thenP_n ?_ | with_reducible refine thenP_r ?_ | with_reducible refine w_skip ?_ | with_reducible refine w_ret ?_ | refine w_cond_false rfl ?_ | refine w_cond rfl (fun _ => ?_) (fun _ => ?_) | ((with_reducible refine w_region (id := 5) ?_); (refine wl_pure rfl rfl (pvm_move_p rfl) ?_); refine wl_pure rfl rfl (pv_nilCheck rfl) ?_; refine wl_pure rfl rfl (pv_fieldAddr FaReFlash2.fo_53_0 rfl) ?_; (refine wl_do rfl rfl (opw_load FaReFlash2.one_22 rfl (Has.own 0 0 rfl rfl) ?_)); (refine wl_pure rfl rfl (pvm_move_i rfl) ?_); (refine wl_pure rfl rfl (pvm_move_i rfl) ?_); (refine wl_pure rfl rfl (pvm_move_i rfl) ?_); (refine wl_pure rfl rfl (pv_iadd rfl rfl (by omega)) ?_); (refine wl_pure rfl rfl (pvm_eq hsl (pv_slice_lh FaReFlash2.sl_22 rfl rfl rfl (by omega) (by omega) (by omega))) ?_); (refine wl_do rfl rfl (opw_buildRow (f := encS) [e] Try.underlying117 FaReFlash2.sz_22 FaReFlash2.zero_22 rfl rfl (by omega) rfl (fun _ => rfl) fun nb => ?_)); refine wl_do rfl rfl (opw_call FaReFlash2.ca_70 rfl [] (join_c (some ⟨nb, 0, none⟩) 1 [e] (by simp) (by intro x hx; rw [List.mem_singleton] at hx; subst hx; rw [hee]; dsimp only; omega) [(nb, AtO encS 0 [e]), (q, AtO v8 0 s.bs)] ((SlR.of_has (by simp)).mono (by intro x hx; rw [List.mem_singleton] at hx; rw [hx]; exact List.mem_cons_self ..)) (by intro x hx; rw [List.mem_singleton] at hx; subst hx; exact hcut.mono (by intro y hy; exact List.mem_cons_of_mem _ hy))) (RoOk.append (a := [(nb, AtO encS 0 [e])]) (roOk_arr 1 0 rfl (fun k hk => by rw [Nat.zero_add])) (roOk_arr 0 1 rfl (fun k hk => by rw [Nat.zero_add, h.b]))) (fun v own h => ?_)); obtain ⟨g, rfl, hg⟩ := h; (refine wl_pure rfl rfl pv_assign ?_); (refine wl_pure rfl rfl (pvm_assign_i rfl) ?_); refine wl_nil ?_) | refine wr (id := 0) rfl ?_ | refine wr (id := 1) rfl ?_ | refine wr (id := 2) rfl ?_ | refine wr (id := 3) rfl ?_)
    · have hx : t.down = true := ‹_›
      rw [hd] at hx; cases hx
    · refine ret_s [g, refG p q t] rfl (Sub.pk' [0, 0] rfl) ⟨_, _, rfl, rfl, ?_⟩
      have : allB [e] = (s.bs.drop at').take n' := by rw [hee]; unfold allB; simp
      rw [← this]; assumption
  · have hp : s.read at_ n = ([], s.ready at_ n) := if_neg hr
    rw [hp]
    refine c_of_w2 (n := 27) Try.func53 rfl rfl rfl (by rfl) fun E => ?_
    repeat' (first | ((with_reducible refine g_wl ?_); (first | refine kN ?_ | ((with_reducible refine g_mv ?_); (first | refine kp (pvm_move_p rfl) ?_ | refine kp (pvm_move_i rfl) ?_)) | ((with_reducible refine g_as ?_); (first | refine kp (pvm_assign_s rfl) ?_ | refine kp (pvm_assign_i rfl) ?_)) | ((with_reducible refine g_ld ?_); (refine kd (opw_load Fb.h rfl (Has.own 0 0 rfl rfl) ?_))) | ((with_reducible refine g_cf 54 ?_); (refine kd (opw_call Fb.h rfl [] (there_c _ _ _) RoOk.self (fun v own h => ?_)); obtain ⟨rfl, rfl⟩ := h)) | refine kp (pv_nilCheck rfl) ?_ | refine kp (pv_fieldAddr Ft.h rfl) ?_ | refine kp (pv_not rfl) ?_)) | with_reducible refine w_seq ?_ | with_reducible refine thenP_n ?_ | with_reducible refine thenP_r ?_ | with_reducible refine w_skip ?_ | with_reducible refine w_ret ?_ | (refine w_cond_ndec rfl (fun _ => ?_) (fun _ => ?_) <;> try (exfalso; omega)) | refine w_cond rfl (fun _ => ?_) (fun _ => ?_) | refine wr (id := 0) rfl ?_ | refine wr (id := 1) rfl ?_ | refine wr (id := 2) rfl ?_ | refine wr (id := 3) rfl ?_ | refine wr (id := 4) rfl ?_)
    · have hx : t.down = true := ‹_›
      rw [hd] at hx
      refine ret_s [[], refG p q t] rfl (Sub.flat rfl) ⟨_, [], ?_, rfl, Sl.nil⟩
      unfold Fs.ready; rw [if_pos hx]; rfl
    · have hx : t.down = false := ‹_›
      rw [hd] at hx
      refine ret_s [[], refG p q t] rfl (Sub.flat rfl) ⟨_, [], ?_, rfl, Sl.nil⟩
      unfold Fs.ready at hr ⊢
      rw [if_neg (by simp [hx])] at hr ⊢
      split at hr
      · rename_i hc; rw [if_pos hc]; rfl
      · omega
    · exfalso
      have hx : t.down = false := ‹_›
      rw [hd] at hx
      apply hr
      unfold Fs.ready
      rw [if_neg (by simp [hx]), if_neg (by omega)]
end Go.Proofs.Ytnohdfhhdppflaa
