/- Laws of wheels: WheelPlays. -/
import Derived.Test.YtnohdfhhdppflaaWheelT
namespace Go.Proofs.Ytnohdfhhdppflaa
open Go Go.Vc Go.Fl Go.Sha
set_option linter.unusedVariables false
set_option linter.unusedSimpArgs false
set_option maxRecDepth 100000
set_option maxHeartbeats 4000000
namespace FaWheelC
theorem ca_12 : callable Try.prog 12 = true := by kernel_rfl
theorem ca_13 : callable Try.prog 13 = true := by kernel_rfl
theorem ca_14 : callable Try.prog 14 = true := by kernel_rfl
theorem ca_18 : callable Try.prog 18 = true := by kernel_rfl
theorem ca_23 : callable Try.prog 23 = true := by kernel_rfl
theorem ca_25 : callable Try.prog 25 = true := by kernel_rfl
theorem ca_26 : callable Try.prog 26 = true := by kernel_rfl
theorem ca_27 : callable Try.prog 27 = true := by kernel_rfl
theorem ca_28 : callable Try.prog 28 = true := by kernel_rfl
theorem ca_29 : callable Try.prog 29 = true := by kernel_rfl
theorem ca_30 : callable Try.prog 30 = true := by kernel_rfl
theorem ca_31 : callable Try.prog 31 = true := by kernel_rfl
theorem ca_32 : callable Try.prog 32 = true := by kernel_rfl
theorem ca_33 : callable Try.prog 33 = true := by kernel_rfl
theorem ca_34 : callable Try.prog 34 = true := by kernel_rfl
theorem ca_35 : callable Try.prog 35 = true := by kernel_rfl
theorem ca_8 : callable Try.prog 8 = true := by kernel_rfl
theorem fo_53_0 : fieldOff Try.prog 53 0 = some 0 := by kernel_rfl
theorem fo_64_0 : fieldOff Try.prog 64 0 = some 0 := by kernel_rfl
theorem fo_64_1 : fieldOff Try.prog 64 1 = some 1 := by kernel_rfl
theorem fo_64_2 : fieldOff Try.prog 64 2 = some 2 := by kernel_rfl
theorem fo_64_3 : fieldOff Try.prog 64 3 = some 3 := by kernel_rfl
theorem fo_64_4 : fieldOff Try.prog 64 4 = some 4 := by kernel_rfl
theorem fo_70_3 : fieldOff Try.prog 70 3 = some 3 := by kernel_rfl
theorem many_64 : isMany Try.prog 64 = true := by kernel_rfl
theorem one_22 : isOne Try.prog 22 = true := by kernel_rfl
theorem one_3 : isOne Try.prog 3 = true := by kernel_rfl
theorem one_35 : isOne Try.prog 35 = true := by kernel_rfl
theorem one_67 : isOne Try.prog 67 = true := by kernel_rfl
theorem sl_55 : sliceOf Try.prog 55 = some (64, 5) := by kernel_rfl
theorem sz_64 : sz Try.prog 64 = some 5 := by kernel_rfl
theorem zero_64 : zeroOf Try.prog 64 = some (.agg #[(.int .i64 0), (.int .i64 0), (.int .i64 0), (.int .u32 0), (.slice none 0 0)]) := by kernel_rfl
instance : Fb (callable Try.prog 12) := ⟨ca_12⟩
instance : Fb (callable Try.prog 13) := ⟨ca_13⟩
instance : Fb (callable Try.prog 14) := ⟨ca_14⟩
instance : Fb (callable Try.prog 18) := ⟨ca_18⟩
instance : Fb (callable Try.prog 23) := ⟨ca_23⟩
instance : Fb (callable Try.prog 25) := ⟨ca_25⟩
instance : Fb (callable Try.prog 26) := ⟨ca_26⟩
instance : Fb (callable Try.prog 27) := ⟨ca_27⟩
instance : Fb (callable Try.prog 28) := ⟨ca_28⟩
instance : Fb (callable Try.prog 29) := ⟨ca_29⟩
instance : Fb (callable Try.prog 30) := ⟨ca_30⟩
instance : Fb (callable Try.prog 31) := ⟨ca_31⟩
instance : Fb (callable Try.prog 32) := ⟨ca_32⟩
instance : Fb (callable Try.prog 33) := ⟨ca_33⟩
instance : Fb (callable Try.prog 34) := ⟨ca_34⟩
instance : Fb (callable Try.prog 35) := ⟨ca_35⟩
instance : Fb (callable Try.prog 8) := ⟨ca_8⟩
instance : Ft (fieldOff Try.prog 53 0) (0) := ⟨fo_53_0⟩
instance : Ft (fieldOff Try.prog 64 0) (0) := ⟨fo_64_0⟩
instance : Ft (fieldOff Try.prog 64 1) (1) := ⟨fo_64_1⟩
instance : Ft (fieldOff Try.prog 64 2) (2) := ⟨fo_64_2⟩
instance : Ft (fieldOff Try.prog 64 3) (3) := ⟨fo_64_3⟩
instance : Ft (fieldOff Try.prog 64 4) (4) := ⟨fo_64_4⟩
instance : Ft (fieldOff Try.prog 70 3) (3) := ⟨fo_70_3⟩
instance : Fb (isMany Try.prog 64) := ⟨many_64⟩
instance : Fb (isOne Try.prog 22) := ⟨one_22⟩
instance : Fb (isOne Try.prog 3) := ⟨one_3⟩
instance : Fb (isOne Try.prog 35) := ⟨one_35⟩
instance : Fb (isOne Try.prog 67) := ⟨one_67⟩
instance : Ft (sliceOf Try.prog 55) (64, 5) := ⟨sl_55⟩
instance : Ft (sz Try.prog 64) (5) := ⟨sz_64⟩
instance : Ft (zeroOf Try.prog 64) (.agg #[(.int .i64 0), (.int .i64 0), (.int .i64 0), (.int .u32 0), (.slice none 0 0)]) := ⟨zero_64⟩
instance : Ft (Try.prog.underlying 3) (.int .i64) := ⟨Try.underlying3⟩
instance : Ft (Try.prog.underlying 4) (.bool) := ⟨Try.underlying4⟩
instance : Ft (Try.prog.underlying 5) (.int .u8) := ⟨Try.underlying5⟩
instance : Ft (Try.prog.underlying 9) (.string) := ⟨Try.underlying9⟩
instance : Ft (Try.prog.underlying 22) (.slice 5) := ⟨Try.underlying22⟩
instance : Ft (Try.prog.underlying 24) (.int .u64) := ⟨Try.underlying24⟩
instance : Ft (Try.prog.underlying 57) (.pointer 97) := ⟨Try.underlying57⟩
instance : Ft (Try.prog.underlying 60) (.pointer 70) := ⟨Try.underlying60⟩
end FaWheelC
attribute [local irreducible] PV OpW WL WM WH WZ W C Has RoOk

theorem pvm_remk {P : Program} {ρ : Fr} {op : Op} {a w : Nat} (h : a = w) (hp : PV P op ρ (.int .u64 (a : Int))) : PV P op ρ (.int .u64 (w : Int)) := h ▸ hp
theorem relNew (wear : Int) {b0 : List (BitVec 8)} (hl : 3584 ≤ b0.length) (ht : b0.take 3584 = List.replicate 3584 255#8) : Rel (Fs.new wear b0) (Fs.new wear (List.replicate 3584 255#8)) :=
  ⟨hl, ht.symm, rfl, rfl, rfl, rfl, rfl, fun _ => rfl⟩
/-- Both wheels, as they stand between two calls of a script. -/
structure Two (s t : Fs) (gen : D) (n m : Nat) (w : Wh) (lv : Value) (lG : Blks) (rs : List RV) (lv2 : Value) (lG2 : Blks) (rs2 : List RV) : Prop where
  rel : Rel s t
  n1 : 1 ≤ n
  n2 : n ≤ 16
  ok : w.Ok
  d : w.D
  h1 : WhG w lv lG rs
  h2 : WhG w lv2 lG2 rs2
  l1 : rs.length ≤ 152 + m
  l2 : rs2.length ≤ 152 + m
theorem Two.of_open {s t : Fs} {gen : D} {n m : Nat} {lv : Value} {lG : Blks} {rs : List RV} {lv2 : Value} {lG2 : Blks} {rs2 : List RV} (hr : Rel s t) (h1 : 1 ≤ n) (h2 : n ≤ 16)
    (hw : WhG (openW s gen n) lv lG rs) (hw2 : WhG (openW s gen n) lv2 lG2 rs2) (hl : rs.length ≤ 152) (hl2 : rs2.length ≤ 152) : Two s t gen n m (openW s gen n) lv lG rs lv2 lG2 rs2 :=
  ⟨hr, h1, h2, (openW_ok h1 h2).1, openW_d s gen n h2, hw, hw2, by omega, by omega⟩
theorem wplays_bad (wear n : Int) (hn : n < 1 ∨ 16 < n) (gen : D) (al : Option Addr) (cl : Nat) (es : List WCall) (ro : RO) (hE : SlRM WCall.cells 5 (.slice al es.length cl) es ro) :
    C Try.prog 6 #[.int .i64 wear, .int .i64 n, v32 gen, .slice al es.length cl] ro [] fun v own => v = .bool true ∧ own = [] := by
  refine c_of_w2 (n := 163) Try.func6 rfl rfl rfl (by rfl) fun E => ?_
  repeat' (first | ((with_reducible refine g_wl ?_); (first | refine kN ?_ | ((with_reducible refine g_mv ?_); (first | refine kp (pvm_move_s rfl) ?_ | refine kp (pvm_move_p rfl) ?_ | refine kp (pvm_move_32 rfl) ?_ | refine kp (pvm_move_t rfl) ?_ | refine kp (pvm_move_i rfl) ?_)) | ((with_reducible refine g_as ?_); (first | refine kp (pvm_assign_b rfl) ?_ | refine kp (pvm_assign_p rfl) ?_ | refine kp (pvm_assign_i rfl) ?_)) | ((with_reducible refine g_bo ?_); refine kp (pv_ptr_nil Ft.h rfl rfl) ?_) | ((with_reducible refine g_cf 18 ?_); (refine kd (opw_call Fb.h rfl [] (newR_c wear _) RoOk.self (fun v own h => ?_)); obtain ⟨p', q', rfl, rfl⟩ := h)) | ((with_reducible refine g_cf 26 ?_); (refine kd (opw_call Fb.h rfl [] (few_c al cl es _ hE) RoOk.self (fun v own h => ?_)); obtain ⟨⟨f, rfl, hf⟩, rfl⟩ := h)) | ((with_reducible refine g_cf 27 ?_); (refine kd (opw_call Fb.h rfl [] (wawake_c _) RoOk.self (fun v own h => ?_)); obtain ⟨rfl, rfl⟩ := h)) | ((with_reducible refine g_cf 28 ?_); (refine kd (opw_call Fb.h rfl [1] (openBad_c p q _ gen n hn _) RoOk.self (fun v own h => ?_)); obtain ⟨rfl, rfl⟩ := h)) | ((with_reducible refine g_cf 29 ?_); (refine kd (opw_call Fb.h rfl [1] (openBadR_c p' q' _ gen n hn _) RoOk.self (fun v own h => ?_)); obtain ⟨rfl, rfl⟩ := h)) | ((with_reducible refine g_cf 8 ?_); (refine kd (opw_call Fb.h rfl [] (new_c wear _) RoOk.self (fun v own h => ?_)); obtain ⟨p, q, b0, rfl, rfl, hl, ht⟩ := h)) | refine kp (pv_extract rfl rfl) ?_ | refine kp (pv_not rfl) ?_)) | with_reducible refine w_seq ?_ | with_reducible refine thenP_n ?_ | with_reducible refine thenP_r ?_ | with_reducible refine w_skip ?_ | with_reducible refine w_ret ?_ | refine w_cond_true rfl ?_ | refine w_cond_false rfl ?_ | refine w_cond_not rfl (fun _ => ?_) (fun _ => ?_) | ((with_reducible refine w_region (id := 6) ?_); all_goals (refine wl_pure rfl rfl (pvm_move_i rfl) ?_); all_goals (refine wl_pure rfl rfl (pvm_move_i rfl) ?_); all_goals (refine wl_pure rfl rfl (pv_neq_e rfl rfl rfl) ?_); all_goals (refine wl_pure rfl rfl (pvm_move_b rfl) ?_); all_goals (refine wl_pure rfl rfl (pvm_move_p rfl) ?_); all_goals (refine wl_pure rfl rfl (pv_ptr_nnil Try.underlying57 rfl rfl) ?_); all_goals (refine wl_pure rfl rfl (pvm_move_p rfl) ?_); all_goals (refine wl_pure rfl rfl (pv_ptr_nnil Try.underlying60 rfl rfl) ?_); all_goals (refine wl_pure rfl rfl (pv_bool_neq Try.underlying4 rfl rfl) ?_); all_goals (refine wl_pure rfl rfl (pvk_f_b rfl rfl) ?_); all_goals (refine wl_nil ?_)) | refine wr (id := 0) rfl ?_ | refine wr (id := 1) rfl ?_ | refine wr (id := 2) rfl ?_ | refine wr (id := 3) rfl ?_ | refine wr (id := 4) rfl ?_ | refine wr (id := 5) rfl ?_ | refine wr (id := 8) rfl ?_ | refine wr (id := 9) rfl ?_)
  all_goals exact ret_s (v := .bool true) [] rfl (Sub.pk' [] rfl) ⟨rfl, rfl⟩
theorem wplays_c (wear : Int) (n : Nat) (h1 : 1 ≤ n) (h2 : n ≤ 16) (gen : D) (al : Option Addr) (cl : Nat) (es : List WCall) (ro : RO) (hE : SlRM WCall.cells 5 (.slice al es.length cl) es ro) (hB : ∀ e ∈ es, SlR v8 (.slice e.a e.b.length e.c) e.b ro) :
    C Try.prog 6 #[.int .i64 wear, .int .i64 n, v32 gen, .slice al es.length cl] ro [] fun v own => v = .bool true ∧ own = [] := by
  refine c_of_w2 (n := 163) Try.func6 rfl rfl rfl (by rfl) fun E => ?_
  repeat' (first | ((with_reducible refine g_wl ?_); (first | refine kN ?_ | ((with_reducible refine g_mv ?_); (first | refine kp (pvm_move_s rfl) ?_ | refine kp (pvm_move_p rfl) ?_ | refine kp (pvm_move_32 rfl) ?_ | refine kp (pvm_move_t rfl) ?_ | refine kp (pvm_move_i rfl) ?_)) | ((with_reducible refine g_as ?_); (first | refine kp (pvm_assign_b rfl) ?_ | refine kp (pvm_assign_p rfl) ?_ | refine kp (pvm_assign_i rfl) ?_)) | ((with_reducible refine g_bo ?_); refine kp (pv_ptr_nil Ft.h rfl rfl) ?_) | ((with_reducible refine g_cb .len ?_); refine kp (pv_len_slice Ft.h rfl) ?_) | ((with_reducible refine g_cf 18 ?_); (refine kd (opw_call Fb.h rfl [] (newR_c wear _) RoOk.self (fun v own h => ?_)); obtain ⟨p', q', rfl, rfl⟩ := h)) | ((with_reducible refine g_cf 26 ?_); (refine kd (opw_call Fb.h rfl [] (few_c al cl es _ hE) RoOk.self (fun v own h => ?_)); obtain ⟨⟨f, rfl, hf⟩, rfl⟩ := h)) | ((with_reducible refine g_cf 27 ?_); (refine kd (opw_call Fb.h rfl [] (wawake_c _) RoOk.self (fun v own h => ?_)); obtain ⟨rfl, rfl⟩ := h)) | ((with_reducible refine g_cf 28 ?_); (refine kd (opw_call Fb.h rfl [1] (open_c p q _ hl rfl gen n h1 h2 _) RoOk.self (fun v own h => ?_)); obtain ⟨pw, lv, lG, rs, rfl, rfl, hW, hrl⟩ := h)) | ((with_reducible refine g_cf 29 ?_); (refine kd (opw_call Fb.h rfl [4] (openR_c p' q' _ _ (relNew wear hl ht) rfl gen n h1 h2 _) RoOk.self (fun v own h => ?_)); obtain ⟨pw2, lv2, lG2, rs2, rfl, rfl, hW2, hrl2⟩ := h)) | ((with_reducible refine g_cf 8 ?_); (refine kd (opw_call Fb.h rfl [] (new_c wear _) RoOk.self (fun v own h => ?_)); obtain ⟨p, q, b0, rfl, rfl, hl, ht⟩ := h)) | refine kp (pv_extract rfl rfl) ?_ | refine kp (pv_not rfl) ?_)) | with_reducible refine w_seq ?_ | with_reducible refine thenP_n ?_ | with_reducible refine thenP_r ?_ | with_reducible refine w_skip ?_ | with_reducible refine w_ret ?_ | with_reducible refine w_block ?_ | refine w_cond_false rfl ?_ | refine w_cond_not rfl (fun _ => ?_) (fun _ => ?_) | ((with_reducible refine w_region (id := 6) ?_); all_goals (refine wl_pure rfl rfl (pvm_move_i rfl) ?_); all_goals (refine wl_pure rfl rfl (pvm_move_i rfl) ?_); all_goals (refine wl_pure rfl rfl (pv_neq_e rfl rfl rfl) ?_); all_goals (refine wl_pure rfl rfl (pvm_move_b rfl) ?_); all_goals (refine wl_pure rfl rfl (pvm_move_p rfl) ?_); all_goals (refine wl_pure rfl rfl (pv_ptr_nnil Try.underlying57 rfl rfl) ?_); all_goals (refine wl_pure rfl rfl (pvm_move_p rfl) ?_); all_goals (refine wl_pure rfl rfl (pv_ptr_nnil Try.underlying60 rfl rfl) ?_); all_goals (refine wl_pure rfl rfl (pv_bool_neq Try.underlying4 rfl rfl) ?_); all_goals (refine wl_pure rfl rfl (pvk_f_b rfl rfl) ?_); all_goals (refine wl_nil ?_)) | refine wr (id := 0) rfl ?_ | refine wr (id := 1) rfl ?_ | refine wr (id := 2) rfl ?_ | refine wr (id := 3) rfl ?_ | refine wr (id := 4) rfl ?_ | refine wr (id := 5) rfl ?_ | refine wr (id := 8) rfl ?_ | refine wr (id := 10) rfl ?_)
  · exact ret_s (v := .bool true) [] rfl (Sub.pk' [] rfl) ⟨rfl, rfl⟩
  have hft : f = true := ‹_›
  obtain ⟨h80, h40⟩ := hf hft
  refine w_sub (own' := [[(pw, wheelObj p (openW (Fs.new wear b0) gen n) lv)], lG, dG rs, flashG p q (Fs.new wear b0), [(pw2, refWObj p' (openW (Fs.new wear b0) gen n) lv2)], lG2, dG rs2, refG p' q' (Fs.new wear (List.replicate 3584 255#8))]) (Sub.pk' [4, 4, 4, 4, 0, 0, 0, 0] rfl) ?_
  refine w_loop2 (ι := Nat) (fun i ρ ro' own => i ≤ es.length ∧ ro' = ro ∧ ∃ s t gen n w pw lv lG rs pw2 lv2 lG2 rs2, Two s t gen n i w lv lG rs lv2 lG2 rs2 ∧ Kn [(1, .int .i64 (n : Nat)), (2, v32 gen), (9, .pointer (some ⟨p, 0, none⟩)), (10, .pointer (some ⟨p', 0, none⟩)), (11, .pointer (some ⟨pw, 0, none⟩)), (13, .pointer (some ⟨pw2, 0, none⟩)), (55, .slice al es.length cl), (56, .int .i64 es.length), (57, .int .i64 i)] ρ ∧
    own = [[(pw, wheelObj p w lv)], lG, dG rs, flashG p q s, [(pw2, refWObj p' w lv2)], lG2, dG rs2, refG p' q' t]) (fun i => es.length - i) 0
    ⟨Nat.zero_le _, rfl, _, _, gen, n, _, pw, lv, lG, rs, pw2, lv2, lG2, rs2, Two.of_open (relNew wear hl ht) h1 h2 hW hW2 hrl hrl2, ⟨rfl, rfl, rfl, rfl, rfl, rfl, rfl, rfl, rfl, trivial⟩, rfl⟩ ?_
  clear hW hW2 hrl hrl2 h1 h2
  rintro i ρ ro' own ⟨hi, rfl, s, t, gen, n, w, pw, lv, lG, rs, pw2, lv2, lG2, rs2, hT, hk, rfl⟩
  obtain ⟨ρ', rfl⟩ := hk.ex
  by_cases hlt : i < es.length
  · obtain ⟨bE, oE, rfl, hhas⟩ := hE.addr (by omega)
    have hx : es[i]? = some (es[i]'hlt) := List.getElem?_eq_getElem hlt
    have hsb := hB _ (List.getElem_mem hlt)
    have hb40 := h40 _ (List.getElem_mem hlt)
    obtain ⟨⟨cd, cn, ct, ci, ca, cc, cb⟩, hce⟩ : ∃ e, e = es[i]'hlt := ⟨_, rfl⟩
    rw [← hce] at hx hsb hb40
    dsimp only at hsb hb40
    repeat' (first | ((with_reducible refine g_wl ?_); (first | refine kN ?_ | ((with_reducible refine g_bo ?_); refine kp (pv_lss rfl rfl) ?_) | ((with_reducible refine g_ld ?_); (refine kd (opw_loadA (cs := [.int .i64 cd, .int .i64 cn, .int .i64 ct, v32 ci, .slice ca cb.length cc]) Fb.h Ft.h rfl rfl (hhas i _ _ hx) ?_))) | ((with_reducible refine g_st ?_); (refine kn (opw_storeS 8 0 FaWheelC.sz_64 rfl rfl rfl rfl rfl rfl rfl (noFr_zero _ _) ?_))) | refine kp (pv_indexAddr FaWheelC.sl_55 rfl rfl (by omega) (by omega)) ?_ | refine kd (d := 16) (opw_alloc FaWheelC.zero_64 fun b16 => ?_))) | with_reducible refine w_seq ?_ | with_reducible refine thenP_n ?_ | with_reducible refine w_skip ?_ | with_reducible refine w_block ?_ | (refine w_cond_dec rfl (fun _ => ?_) (fun _ => ?_) <;> try (exfalso; omega)) | refine wr (id := 11) rfl ?_ | refine wr (id := 12) rfl ?_)
    repeat' (first | ((with_reducible refine g_wl ?_); (first | refine kN ?_ | ((with_reducible refine g_as ?_); (refine kp (pvm_assign_b rfl) ?_)))) | with_reducible refine thenP_n ?_ | refine wr (id := 13) rfl ?_)
    refine w_cut (fun ρ ro'' own => ro'' = ro' ∧ ∃ anew gen' n' s' t', 1 ≤ n' ∧ n' ≤ 16 ∧ Rel s' t' ∧ Kn [(1, .int .i64 (n' : Nat)), (2, v32 gen'), (9, .pointer (some ⟨p, 0, none⟩)), (10, .pointer (some ⟨p', 0, none⟩)), (11, .pointer (some ⟨pw, 0, none⟩)), (13, .pointer (some ⟨pw2, 0, none⟩)), (17, .bool anew), (55, .slice (some ⟨bE, oE, none⟩) es.length cl), (56, .int .i64 es.length), (57, .int .i64 i)] ρ ∧
      Vc.Sub [flashG p q s', refG p' q' t'] own ∧ (anew = false → ∃ w lv lG rs lv2 lG2 rs2, Two s' t' gen' n' (i + 1) w lv lG rs lv2 lG2 rs2 ∧ Vc.Sub [[(pw, wheelObj p w lv)], lG, dG rs, flashG p q s', [(pw2, refWObj p' w lv2)], lG2, dG rs2, refG p' q' t'] own)) ?_ ?_
    · obtain ⟨wk, hwk, hwe⟩ : ∃ wk, wk < 16 ∧ (BitVec.ofInt 64 cn).toNat % 16 = wk := ⟨_, Nat.mod_lt _ (by decide), rfl⟩
      have hhb := hT.rel.len
      repeat' (first | ((with_reducible refine g_wl ?_); (first | refine kN ?_ | ((with_reducible refine g_mv ?_); (first | refine kp (pvm_move_32 rfl) ?_ | refine kp (pvm_move_i rfl) ?_)) | ((with_reducible refine g_as ?_); (first | refine kp (pvm_assign_b rfl) ?_ | refine kp (pvm_assign_32 rfl) ?_)) | ((with_reducible refine g_bo ?_); (first | refine kp (pv32_add rfl (v32_lit 1 rfl (by omega))) ?_ | refine kp (pv_eql rfl rfl) ?_)) | ((with_reducible refine g_ld ?_); (refine kd (opw_load Fb.h rfl (Has.own 8 0 rfl rfl) ?_))) | refine kp (pv_fieldAddr Ft.h rfl) ?_)) | with_reducible refine w_seq ?_ | with_reducible refine thenP_n ?_ | with_reducible refine blockP_n ?_ | with_reducible refine w_skip ?_ | with_reducible refine w_block ?_ | refine w_cond_false rfl ?_ | (refine w_cond_dec rfl (fun _ => ?_) (fun _ => ?_) <;> try (exfalso; omega)) | ((with_reducible refine w_region (id := 20) ?_); (refine wl_pure rfl rfl (pvm_move_p rfl) ?_); refine wl_pure rfl rfl (pv_fieldAddr FaWheelC.fo_64_1 rfl) ?_; (refine wl_do rfl rfl (opw_load FaWheelC.one_3 rfl (Has.own 8 0 rfl rfl) ?_)); refine wl_pure rfl rfl (pv_fieldAddr FaWheelC.fo_64_2 rfl) ?_; (refine wl_do rfl rfl (opw_load FaWheelC.one_3 rfl (Has.own 8 0 rfl rfl) ?_)); refine wl_do rfl rfl (opw_call FaWheelC.ca_13 rfl [3] (fuse_c p q s cn ct _) RoOk.self (fun v own h => ?_)); obtain rfl := h; refine wl_nil ?_) | ((with_reducible refine w_region (id := 21) ?_); (refine wl_pure rfl rfl (pvm_move_p rfl) ?_); refine wl_pure rfl rfl (pv_fieldAddr FaWheelC.fo_64_1 rfl) ?_; (refine wl_do rfl rfl (opw_load FaWheelC.one_3 rfl (Has.own 8 0 rfl rfl) ?_)); refine wl_pure rfl rfl (pv_fieldAddr FaWheelC.fo_64_2 rfl) ?_; (refine wl_do rfl rfl (opw_load FaWheelC.one_3 rfl (Has.own 8 0 rfl rfl) ?_)); refine wl_do rfl rfl (opw_call FaWheelC.ca_23 rfl [7] (fuseR_c p' q' s t hT.rel cn ct _) RoOk.self (fun v own h => ?_)); obtain ⟨t2, rfl, hrel2⟩ := h; refine wl_nil ?_) | (refine w_draw (id := 27) [] (hold [(b16, .cells [.int .i64 cd, .int .i64 cn, .int .i64 ct, v32 ci, .slice ca cb.length cc].toArray 64 (0, 0))]) Fa.mixed (hold_one 8 0 rfl) ?_; (refine wh_pure 0 rfl (by kernel_rfl) rfl rfl (pvm_move_32 rfl) ?_); refine wh_pure 1 rfl (by kernel_rfl) rfl rfl (pv32_add rfl (v32_lit 1 rfl (by omega))) ?_; refine wh_pure 2 rfl (by kernel_rfl) rfl rfl (pv_fieldAddr FaWheelC.fo_64_1 rfl) ?_; (refine wh_load 3 rfl (by kernel_rfl) rfl rfl FaWheelC.one_3 rfl (Has.hold 0 rfl rfl) ?_); refine wh_pure 4 rfl (by kernel_rfl) rfl rfl (pvc_i_64 Try.underlying3 Try.underlying24 rfl) ?_; (refine wh_pure 5 rfl (by kernel_rfl) rfl rfl (pvm_remk (w := wk) hwe (pv_urem (b := 16) rfl rfl (by omega))) ?_); refine wh_pure 6 rfl (by kernel_rfl) rfl rfl (pvc_u_i Try.underlying24 Try.underlying3 rfl (by omega)) ?_; (refine wh_pure 7 rfl (by kernel_rfl) rfl rfl (pvi_e ((wk + 1 : Nat) : Int) (by omega) (pv_iadd rfl rfl (by omega))) ?_); (refine wh_pure 8 rfl (by kernel_rfl) rfl rfl (pvm_assign_32 rfl) ?_); (refine wh_pure 9 rfl (by kernel_rfl) rfl rfl (pvm_assign_i rfl) ?_); (refine wh_pure 10 rfl (by kernel_rfl) rfl rfl (pvm_assign_b rfl) ?_); (refine wh_done (by kernel_rfl) ?_)) | (refine w_draw (id := 15) [] (hold [(b16, .cells [.int .i64 cd, .int .i64 cn, .int .i64 ct, v32 ci, .slice ca cb.length cc].toArray 64 (0, 0))]) Fa.mixed (hold_one 8 0 rfl) ?_; (refine wh_pure 0 rfl (by kernel_rfl) rfl rfl (pvm_move_p rfl) ?_); refine wh_pure 1 rfl (by kernel_rfl) rfl rfl (pv_fieldAddr FaWheelC.fo_64_3 rfl) ?_; (refine wh_load 2 rfl (by kernel_rfl) rfl rfl FaWheelC.one_35 rfl (Has.hold 0 rfl rfl) ?_); refine wh_pure 3 rfl (by kernel_rfl) rfl rfl (pv_fieldAddr FaWheelC.fo_64_4 rfl) ?_; (refine wh_load 4 rfl (by kernel_rfl) rfl rfl FaWheelC.one_22 rfl (Has.hold 0 rfl rfl) ?_); (refine wh_pure 6 rfl (by kernel_rfl) rfl rfl (pvm_move_p rfl) ?_); refine wh_pure 7 rfl (by kernel_rfl) rfl rfl (pv_fieldAddr FaWheelC.fo_64_3 rfl) ?_; (refine wh_load 8 rfl (by kernel_rfl) rfl rfl FaWheelC.one_35 rfl (Has.hold 0 rfl rfl) ?_); refine wh_pure 9 rfl (by kernel_rfl) rfl rfl (pv_fieldAddr FaWheelC.fo_64_4 rfl) ?_; (refine wh_load 10 rfl (by kernel_rfl) rfl rfl FaWheelC.one_22 rfl (Has.hold 0 rfl rfl) ?_); refine wh_do 5 (by kernel_rfl) rfl rfl rfl rfl (opw_call FaWheelC.ca_30 rfl [0, 0, 0, 0] (add_c pw p q s hhb w lv lG rs hT.ok hT.h1 (by have := hT.l1; omega) ci ca cc cb (by omega) _ hsb) RoOk.self (fun v own h => ?_)); obtain ⟨lv', lG', rs', rfl, rfl, hW', hl'⟩ := h; refine ⟨(hold_one 8 0 rfl), ?_⟩; refine wh_do 11 (by kernel_rfl) rfl rfl rfl rfl (opw_call FaWheelC.ca_31 rfl [4, 4, 4, 4] (addR_c pw2 p' q' s t hT.rel w lv2 lG2 rs2 hT.ok hT.h2 (by have := hT.l2; omega) ci ca cc cb (by omega) _ hsb) RoOk.self (fun v own h => ?_)); obtain ⟨g1, g2, g3, t2, rfl, rfl, hrel2, hres⟩ := h; refine ⟨(hold_one 8 0 rfl), ?_⟩; (refine wh_pure 12 rfl (by kernel_rfl) rfl rfl (pvm_assign_i rfl) ?_); (refine wh_pure 13 rfl (by kernel_rfl) rfl rfl (pvm_assign_i rfl) ?_); (refine wh_done (by kernel_rfl) ?_)) | ((with_reducible refine w_region (id := 16) ?_); (refine wl_pure rfl rfl (pvm_move_i rfl) ?_); (refine wl_pure rfl rfl (pvm_move_i rfl) ?_); (refine wl_pure rfl rfl (pv_neq_e rfl rfl rfl) ?_); refine wl_nil ?_) | refine wr (id := 14) rfl ?_ | refine wr (id := 18) rfl ?_ | refine wr (id := 19) rfl ?_ | refine wr (id := 22) rfl ?_ | refine wr (id := 23) rfl ?_ | refine wr (id := 24) rfl ?_ | refine wr (id := 25) rfl ?_ | refine wr (id := 26) rfl ?_)
      · exact ⟨rfl, false, gen, n, _, t2, hT.n1, hT.n2, hrel2, ⟨rfl, rfl, rfl, rfl, rfl, rfl, rfl, rfl, rfl, rfl, trivial⟩, Sub.pk' [1, 0] rfl, fun _ => ⟨w, lv, lG, rs, lv2, lG2, rs2, ⟨hrel2, hT.n1, hT.n2, hT.ok, hT.d, hT.h1, hT.h2, (by have := hT.l1; omega), (by have := hT.l2; omega)⟩, Sub.pk' [2, 2, 2, 1, 1, 1, 1, 0] rfl⟩⟩
      · exact ⟨rfl, true, gen + 1#32, n, s, t, hT.n1, hT.n2, hT.rel, ⟨rfl, rfl, rfl, rfl, rfl, rfl, rfl, rfl, rfl, rfl, trivial⟩, Sub.pk' [3, 6] rfl, fun h => by cases h⟩
      · exact ⟨rfl, true, gen, n, s, t, hT.n1, hT.n2, hT.rel, ⟨rfl, rfl, rfl, rfl, rfl, rfl, rfl, rfl, rfl, rfl, trivial⟩, Sub.pk' [3, 6] rfl, fun h => by cases h⟩
      · exact ⟨rfl, true, gen + 1#32, wk + 1, s, t, (by omega), (by omega), hT.rel, ⟨rfl, rfl, rfl, rfl, rfl, rfl, rfl, rfl, rfl, rfl, trivial⟩, Sub.pk' [3, 6] rfl, fun h => by cases h⟩
      · refine ⟨rfl, decide ((w.add s ci cb).2.2 = 11), gen, n, (w.add s ci cb).1, t2, hT.n1, hT.n2, hrel2, ⟨rfl, rfl, rfl, rfl, rfl, rfl, rfl, rfl, rfl, rfl, trivial⟩, Sub.pk' [7, 3] rfl, fun hf => ?_⟩
        obtain ⟨lv3, rs3, rfl, rfl, hW3, hl3⟩ := hres (of_decide_eq_false hf)
        exact ⟨_, lv', lG', rs', lv3, g2, rs3, ⟨hrel2, hT.n1, hT.n2, add_ok s ci cb hT.ok, add_d s ci cb hT.d hT.ok.s2, hW', hW3, (by have := hT.l1; omega), (by have := hT.l2; omega)⟩, Sub.pk' [4, 4, 4, 4, 0, 0, 0, 0] rfl⟩
    · rintro ρ r1 own ⟨rfl, anew, gen', n', s', t', hn1, hn2, hrel', hk, hsub, hkeep⟩
      obtain ⟨ρ', rfl⟩ := hk.ex
      refine w_cut (fun ρ ro'' own => ro'' = r1 ∧ ∃ s t gen n w pw lv lG rs pw2 lv2 lG2 rs2, Two s t gen n (i + 1) w lv lG rs lv2 lG2 rs2 ∧ Kn [(1, .int .i64 (n : Nat)), (2, v32 gen), (9, .pointer (some ⟨p, 0, none⟩)), (10, .pointer (some ⟨p', 0, none⟩)), (11, .pointer (some ⟨pw, 0, none⟩)), (13, .pointer (some ⟨pw2, 0, none⟩)), (55, .slice (some ⟨bE, oE, none⟩) es.length cl), (56, .int .i64 es.length), (57, .int .i64 i)] ρ ∧
        Vc.Sub [[(pw, wheelObj p w lv)], lG, dG rs, flashG p q s, [(pw2, refWObj p' w lv2)], lG2, dG rs2, refG p' q' t] own) ?_ ?_
      · cases anew with
        | false =>
          obtain ⟨w', lv', lG', rs', lv2', lG2', rs2', hT', hsub'⟩ := hkeep rfl
          repeat' (first | ((with_reducible refine g_wl ?_); (first | refine kN ?_ | ((with_reducible refine g_mv ?_); (refine kp (pvm_move_b rfl) ?_)))) | with_reducible refine w_seq ?_ | with_reducible refine thenP_n ?_ | with_reducible refine w_skip ?_ | refine w_cond_false rfl ?_ | refine wr (id := 28) rfl ?_)
          exact ⟨rfl, s', t', gen', n', w', pw, lv', lG', rs', pw2, lv2', lG2', rs2', hT', ⟨rfl, rfl, rfl, rfl, rfl, rfl, rfl, rfl, rfl, trivial⟩, hsub'⟩
        | true =>
          refine w_sub hsub ?_
          repeat' (first | ((with_reducible refine g_wl ?_); (first | refine kN ?_ | ((with_reducible refine g_mv ?_); (first | refine kp (pvm_move_b rfl) ?_ | refine kp (pvm_move_p rfl) ?_)) | ((with_reducible refine g_cf 14 ?_); (refine kd (opw_call Fb.h rfl [0] (start_c p q s' _) RoOk.self (fun v own h => ?_)); obtain rfl := h)) | ((with_reducible refine g_cf 25 ?_); (refine kd (opw_call Fb.h rfl [1] (startR_c p' q' s' t' hrel' _) RoOk.self (fun v own h => ?_)); obtain ⟨t2, rfl, hrel2⟩ := h)))) | with_reducible refine w_seq ?_ | with_reducible refine thenP_n ?_ | refine w_cond_true rfl ?_ | refine wr (id := 28) rfl ?_ | refine wr (id := 29) rfl ?_ | refine wr (id := 30) rfl ?_)
          have hl2 := hrel2.len
          repeat' (first | ((with_reducible refine g_wl ?_); (first | refine kN ?_ | ((with_reducible refine g_mv ?_); (first | refine kp (pvm_move_p rfl) ?_ | refine kp (pvm_move_32 rfl) ?_ | refine kp (pvm_move_t rfl) ?_ | refine kp (pvm_move_i rfl) ?_)) | ((with_reducible refine g_as ?_); (first | refine kp (pvm_assign_p rfl) ?_ | refine kp (pvm_assign_i rfl) ?_)) | ((with_reducible refine g_cf 28 ?_); (refine kd (opw_call Fb.h rfl [1] (open_c p q _ hl2 rfl gen' n' hn1 hn2 _) RoOk.self (fun v own h => ?_)); obtain ⟨pw3, lv3, lG3, rs3, rfl, rfl, hW3, hrl3⟩ := h)) | ((with_reducible refine g_cf 29 ?_); (refine kd (opw_call Fb.h rfl [4] (openR_c p' q' _ _ hrel2 rfl gen' n' hn1 hn2 _) RoOk.self (fun v own h => ?_)); obtain ⟨pw4, lv4, lG4, rs4, rfl, rfl, hW4, hrl4⟩ := h)) | refine kp (pv_extract rfl rfl) ?_)) | with_reducible refine w_seq ?_ | with_reducible refine thenP_n ?_ | with_reducible refine w_skip ?_ | refine w_cond_false rfl ?_ | ((with_reducible refine w_region (id := 33) ?_); all_goals (refine wl_pure rfl rfl (pvm_move_i rfl) ?_); all_goals (refine wl_pure rfl rfl (pv_neq_e rfl rfl rfl) ?_); all_goals (refine wl_pure rfl rfl (pvm_move_b rfl) ?_); all_goals (refine wl_pure rfl rfl (pvm_move_i rfl) ?_); all_goals (refine wl_pure rfl rfl (pv_neq_e rfl rfl rfl) ?_); all_goals (refine wl_pure rfl rfl (pvk_f_b rfl rfl) ?_); all_goals (refine wl_nil ?_)) | refine wr (id := 31) rfl ?_ | refine wr (id := 32) rfl ?_)
          exact ⟨rfl, _, _, gen', n', _, pw3, lv3, lG3, rs3, pw4, lv4, lG4, rs4, Two.of_open hrel2 hn1 hn2 hW3 hW4 hrl3 hrl4, ⟨rfl, rfl, rfl, rfl, rfl, rfl, rfl, rfl, rfl, trivial⟩, Sub.pk' [4, 4, 4, 4, 0, 0, 0, 0] rfl⟩
      · clear hk hsub hkeep hrel' hT
        rintro ρ ro'' own ⟨rfl, s, t, gen, n, w, pw, lv, lG, rs, pw2, lv2, lG2, rs2, hT, hk, hsub⟩
        obtain ⟨ρ', rfl⟩ := hk.ex
        refine w_sub hsub ?_
        have htl := hT.rel.tlen
        have hhb := hT.rel.len
        obtain ⟨al2, cl2, rfl⟩ := hT.h2.slice
        repeat' (first | ((with_reducible refine g_wl ?_); (first | refine kN ?_ | ((with_reducible refine g_mv ?_); (refine kp (pvm_move_i rfl) ?_)) | ((with_reducible refine g_bo ?_); (refine kp (pv_iadd rfl rfl (by omega)) ?_)))) | with_reducible refine w_seq ?_ | with_reducible refine thenP_n ?_ | with_reducible refine blockP_n ?_ | with_reducible refine w_skip ?_ | refine w_cond_false rfl ?_ | (refine w_draw (id := 35) [] (hold ((pw2, refWObj p' w (.slice al2 rs2.length cl2)) :: refG p' q' t)) Fa.mixed (hold_ok (by intro y hy; rcases List.mem_cons.1 hy with rfl | hy <;> simp [*])) ?_; all_goals (refine wh_pure 0 rfl (by kernel_rfl) rfl rfl (pvm_move_p rfl) ?_); all_goals (refine wh_pure 2 rfl (by kernel_rfl) rfl rfl (pvm_move_p rfl) ?_); all_goals (refine wh_pure 3 rfl (by kernel_rfl) rfl rfl (pv_nilCheck rfl) ?_); all_goals (refine wh_pure 4 rfl (by kernel_rfl) rfl rfl (pv_fieldAddr FaWheelC.fo_70_3 rfl) ?_); all_goals (refine wh_load 5 rfl (by kernel_rfl) rfl rfl FaWheelC.one_67 rfl (Has.hold 0 rfl rfl) ?_); all_goals (refine wh_do 1 (by kernel_rfl) rfl rfl rfl rfl (opw_call FaWheelC.ca_33 rfl [0, 0, 0] (records_c pw p w lv lG rs hT.h1 (fun r hr => by have := rv_len hT.h1.recs hT.d r hr; omega) _) RoOk.self (fun v own h => ?_)); obtain ⟨lG3, rs3, rfl, hS3, hm3, hok3⟩ := h; obtain ⟨a3, c3, rfl⟩ := hS3.slice; have hlen3 : rs3.length = rs.length := (by simpa using congrArg List.length hm3); refine ⟨(hold_ok (by intro y hy; rcases List.mem_cons.1 hy with rfl | hy <;> simp [dr, *])), ?_⟩); all_goals (refine wh_do 6 (by kernel_rfl) rfl rfl rfl rfl (opw_call FaWheelC.ca_32 rfl [] (same_c a3 al2 c3 cl2 rs3 rs2 (by have := hT.l1; omega) (hm3.trans (hT.h1.recs.trans hT.h2.recs.symm)) (hold (lG3 ++ dG rs3 ++ (lG2 ++ dG rs2))) (slm_hold hS3 (fun x hx => by simp [hx])) (slm_hold hT.h2.list (fun x hx => by simp [hx])) (fun r hr => rv_hold (hok3 r hr) (fun x hx => List.mem_append_left _ (List.mem_append_right _ (List.mem_flatMap.2 ⟨r, hr, hx⟩)))) (fun r hr => rv_hold (.inr (hT.h2.ok r hr)) (fun x hx => List.mem_append_right _ (List.mem_append_right _ (List.mem_flatMap.2 ⟨r, hr, hx⟩))))) (hold_ok (by intro y hy; simp only [List.mem_append] at hy; rcases hy with (hy | hy) | (hy | hy) <;> simp [dr, hy])) (fun v own h => ?_)); obtain ⟨rfl, rfl⟩ := h; refine ⟨(hold_ok (by intro y hy; rcases List.mem_cons.1 hy with rfl | hy <;> simp [dr, *])), ?_⟩); all_goals (refine wh_pure 7 rfl (by kernel_rfl) rfl rfl (pv_not_t rfl) ?_); all_goals (refine wh_pure 8 rfl (by kernel_rfl) rfl rfl (pvm_move_b rfl) ?_); all_goals (refine wh_pure 9 rfl (by kernel_rfl) rfl rfl (pvm_move_p rfl) ?_); all_goals (refine wh_pure 11 rfl (by kernel_rfl) rfl rfl (pvm_move_p rfl) ?_); all_goals (refine wh_do 10 (by kernel_rfl) rfl rfl rfl rfl (opw_call FaWheelC.ca_34 rfl [2] (room_c pw p w lv hT.ok _) RoOk.self (fun v own h => ?_)); obtain ⟨rfl, rfl⟩ := h; refine ⟨(hold_ok (by intro y hy; rcases List.mem_cons.1 hy with rfl | hy <;> simp [dr, *])), ?_⟩); all_goals (refine wh_do 12 (by kernel_rfl) rfl rfl rfl rfl (opw_call FaWheelC.ca_35 rfl [6] (roomR_c pw2 p' w (.slice al2 rs2.length cl2) hT.ok _) RoOk.self (fun v own h => ?_)); obtain ⟨rfl, rfl⟩ := h; refine ⟨(hold_ok (by intro y hy; rcases List.mem_cons.1 hy with rfl | hy <;> simp [dr, *])), ?_⟩); all_goals (refine wh_pure 13 rfl (by kernel_rfl) rfl rfl (pv_neq_e rfl rfl rfl) ?_); all_goals (refine wh_pure 14 rfl (by kernel_rfl) rfl rfl (pvk_f_b rfl rfl) ?_); all_goals (refine wh_pure 15 rfl (by kernel_rfl) rfl rfl (pvm_move_b rfl) ?_); all_goals (refine wh_pure 16 rfl (by kernel_rfl) rfl rfl (pvm_move_p rfl) ?_); all_goals (refine wh_pure 19 rfl (by kernel_rfl) rfl rfl (pvm_move_p rfl) ?_); all_goals (refine wh_pure 20 rfl (by kernel_rfl) rfl rfl (pv_nilCheck rfl) ?_); all_goals (refine wh_pure 21 rfl (by kernel_rfl) rfl rfl (pv_fieldAddr FaWheelC.fo_53_0 rfl) ?_); all_goals (refine wh_load 22 rfl (by kernel_rfl) rfl rfl FaWheelC.one_22 rfl (Has.hold 1 rfl rfl) ?_); all_goals (refine wh_str 23 rfl (by kernel_rfl) rfl rfl Try.underlying22 Try.underlying5 Try.underlying9 rfl htl.symm (Rd.of fun k x hx => Has.rowh 2 rfl (by rw [Nat.zero_add]; exact hx)) ?_); all_goals (refine wh_do 17 (by kernel_rfl) rfl rfl rfl rfl (opw_call FaWheelC.ca_12 rfl [6] (bytes_c p q s hhb _) RoOk.self (fun v own h => ?_)); obtain ⟨g5, rfl, hg5⟩ := h; obtain ⟨a5, c5, rfl, hle5⟩ := hg5.slice; refine ⟨(hold_ok (by intro y hy; rcases List.mem_cons.1 hy with rfl | hy <;> simp [dr, *])), ?_⟩); all_goals (refine wh_do 18 (by kernel_rfl) rfl rfl rfl rfl (opw_str Try.underlying22 Try.underlying5 Try.underlying9 rfl rfl (Sl.rd hg5 (i := 0) rfl) ⟨(hold_ok (by intro y hy; rcases List.mem_cons.1 hy with rfl | hy <;> simp [dr, *])), ?_⟩)); all_goals (refine wh_pure 24 rfl (by kernel_rfl) rfl rfl (pv_vstr_neq_e rfl rfl hT.rel.b.symm) ?_); all_goals (refine wh_pure 25 rfl (by kernel_rfl) rfl rfl (pvk_f_b rfl rfl) ?_); all_goals (refine wh_done (by kernel_rfl) ?_)) | refine wr (id := 37) rfl ?_)
        exact ⟨i + 1, [[(pw, wheelObj p w lv)], lG, dG rs, flashG p q s, [(pw2, refWObj p' w (.slice al2 rs2.length cl2))], lG2, dG rs2, refG p' q' t], Sub.pk' [3, 5, 5, 1, 1, 3, 3, 3] rfl, ⟨hlt, rfl, s, t, gen, n, w, pw, lv, lG, rs, pw2, _, lG2, rs2, hT, ⟨rfl, rfl, rfl, rfl, rfl, rfl, rfl, rfl, rfl, trivial⟩, rfl⟩, by omega⟩
  · repeat' (first | ((with_reducible refine g_wl ?_); (first | refine kN ?_ | ((with_reducible refine g_as ?_); (refine kp (pvm_assign_b rfl) ?_)) | ((with_reducible refine g_bo ?_); refine kp (pv_lss rfl rfl) ?_) | ((with_reducible refine g_cf 27 ?_); (refine kd (opw_call Fb.h rfl [] (wawake_c _) RoOk.self (fun v own h => ?_)); obtain ⟨rfl, rfl⟩ := h)))) | with_reducible refine w_seq ?_ | with_reducible refine thenP_n ?_ | with_reducible refine thenP_x ?_ | with_reducible refine blockP_eq ?_ | with_reducible refine w_ret ?_ | with_reducible refine w_exit ?_ | (refine w_cond_dec rfl (fun _ => ?_) (fun _ => ?_) <;> try (exfalso; omega)) | refine wr (id := 11) rfl ?_ | refine wr (id := 38) rfl ?_)
    exact ret_s (v := .bool true) [] rfl (Sub.pk' [] rfl) ⟨rfl, rfl⟩
end Go.Proofs.Ytnohdfhhdppflaa
