/- Records compared; a script's bounds. -/
import Derived.Test.YtnohdfhhdppflaaWheelR3
namespace Go.Proofs.Ytnohdfhhdppflaa
open Go Go.Vc Go.Fl Go.Sha
set_option linter.unusedVariables false
set_option linter.unusedSimpArgs false
set_option maxRecDepth 100000
set_option maxHeartbeats 4000000
namespace FaWheelS
theorem fo_104_0 : fieldOff Try.prog 104 0 = some 0 := by kernel_rfl
theorem fo_104_1 : fieldOff Try.prog 104 1 = some 1 := by kernel_rfl
theorem fo_64_4 : fieldOff Try.prog 64 4 = some 4 := by kernel_rfl
theorem many_64 : isMany Try.prog 64 = true := by kernel_rfl
theorem one_22 : isOne Try.prog 22 = true := by kernel_rfl
theorem one_35 : isOne Try.prog 35 = true := by kernel_rfl
theorem sl_22 : sliceOf Try.prog 22 = some (5, 1) := by kernel_rfl
theorem sl_55 : sliceOf Try.prog 55 = some (64, 5) := by kernel_rfl
theorem sl_67 : sliceOf Try.prog 67 = some (104, 2) := by kernel_rfl
theorem sz_64 : sz Try.prog 64 = some 5 := by kernel_rfl
theorem zero_64 : zeroOf Try.prog 64 = some (.agg #[(.int .i64 0), (.int .i64 0), (.int .i64 0), (.int .u32 0), (.slice none 0 0)]) := by kernel_rfl
instance : Ft (fieldOff Try.prog 104 0) (0) := ⟨fo_104_0⟩
instance : Ft (fieldOff Try.prog 104 1) (1) := ⟨fo_104_1⟩
instance : Ft (fieldOff Try.prog 64 4) (4) := ⟨fo_64_4⟩
instance : Fb (isMany Try.prog 64) := ⟨many_64⟩
instance : Fb (isOne Try.prog 22) := ⟨one_22⟩
instance : Fb (isOne Try.prog 35) := ⟨one_35⟩
instance : Ft (sliceOf Try.prog 22) (5, 1) := ⟨sl_22⟩
instance : Ft (sliceOf Try.prog 55) (64, 5) := ⟨sl_55⟩
instance : Ft (sliceOf Try.prog 67) (104, 2) := ⟨sl_67⟩
instance : Ft (sz Try.prog 64) (5) := ⟨sz_64⟩
instance : Ft (zeroOf Try.prog 64) (.agg #[(.int .i64 0), (.int .i64 0), (.int .i64 0), (.int .u32 0), (.slice none 0 0)]) := ⟨zero_64⟩
instance : Ft (Try.prog.underlying 5) (.int .u8) := ⟨Try.underlying5⟩
instance : Ft (Try.prog.underlying 9) (.string) := ⟨Try.underlying9⟩
instance : Ft (Try.prog.underlying 22) (.slice 5) := ⟨Try.underlying22⟩
end FaWheelS
attribute [local irreducible] PV OpW WL WM WH WZ W C Has RoOk

theorem slm_hold {l : Blks} {v : Value} {xs : List RV} {g : Blks} {T : Nat} (h : SlM RV.enc T v xs g) (hg : ∀ x ∈ g, x ∈ l) : SlRM RV.enc 2 v xs (hold l) := by
  rcases h with ⟨rfl, rfl, _⟩ | ⟨b, data, rfl, rfl, ht⟩
  · exact .inl ⟨rfl, _, _, rfl⟩
  · have hS : SlM RV.enc T (.slice (some ⟨b, 0, none⟩) xs.length data.length) xs [(b, arrM RV.enc T data)] := .inr ⟨b, data, rfl, rfl, ht⟩
    by_cases h0 : xs.length = 0
    · have : xs = [] := List.eq_nil_of_length_eq_zero h0
      subst this; exact .inl ⟨rfl, _, _, rfl⟩
    · obtain ⟨b', hb', o, ho, hc⟩ := hS.has (m := 2) (fun _ => rfl) (by omega)
      simp only [Option.some.injEq, Addr.mk.injEq, and_true] at hb'
      simp only [List.cons.injEq, Prod.mk.injEq, and_true] at ho
      obtain ⟨_, rfl⟩ := ho
      refine .inr ⟨b, 0, data.length, fun o => o = arrM RV.enc T data, rfl, List.mem_map.2 ⟨(b, arrM RV.enc T data), hg _ (List.mem_singleton.2 rfl), rfl⟩, fun o ho i x hi j u hu => ?_⟩
      rw [ho, Nat.zero_add]; exact hc i x hi j u hu
theorem rv_hold {l : Blks} {r : RV} (h : r.d = [] ∨ r.Ok) (hg : ∀ x ∈ r.g, x ∈ l) : SlR v8 (.slice r.a r.d.length r.c) r.d (hold l) := by
  rcases h with h | ⟨b, off, blk, h1, h2, h3, h4⟩
  · rw [h]; exact SlR.nil _ _
  · rw [h1]
    refine .inr ⟨b, off, r.c, fun o => o = arr v8 5 blk, rfl, h3, List.mem_map.2 ⟨(b, arr v8 5 blk), hg _ (by rw [h2]; exact List.mem_singleton.2 rfl), rfl⟩, fun o ho => ?_⟩
    rw [ho]; exact AtO_arr h4
theorem same_c (a1 a2 : Option Addr) (c1 c2 : Nat) (xs ys : List RV) (hb : xs.length ≤ 100000) (hxy : xs.map RV.P = ys.map RV.P) (ro : RO) (hx : SlRM RV.enc 2 (.slice a1 xs.length c1) xs ro) (hy : SlRM RV.enc 2 (.slice a2 ys.length c2) ys ro)
    (hxd : ∀ r ∈ xs, SlR v8 (.slice r.a r.d.length r.c) r.d ro) (hyd : ∀ r ∈ ys, SlR v8 (.slice r.a r.d.length r.c) r.d ro) : C Try.prog 32 #[.slice a1 xs.length c1, .slice a2 ys.length c2] ro [] fun v own => v = .bool true ∧ own = [] := by
  have hlen : xs.length = ys.length := by have := congrArg List.length hxy; simpa using this
  refine c_of_w2 (n := 43) Try.func32 rfl rfl rfl (by rfl) fun E => ?_
  repeat' (first | ((with_reducible refine g_wl ?_); (first | refine kN ?_ | ((with_reducible refine g_mv ?_); (first | refine kp (pvm_move_s rfl) ?_ | refine kp (pvm_move_i rfl) ?_)) | ((with_reducible refine g_as ?_); (refine kp (pvm_assign_b rfl) ?_)) | ((with_reducible refine g_cb .len ?_); refine kp (pv_len_slice Ft.h rfl) ?_))) | with_reducible refine w_seq ?_ | with_reducible refine thenP_n ?_ | with_reducible refine w_skip ?_ | with_reducible refine w_block ?_ | refine w_cond_false rfl ?_ | ((with_reducible refine w_region (id := 1) ?_); (refine wl_pure rfl rfl (pvm_move_s rfl) ?_); refine wl_pure rfl rfl (pv_len_slice FaWheelS.sl_67 rfl) ?_; (refine wl_pure rfl rfl (pvm_move_s rfl) ?_); refine wl_pure rfl rfl (pv_len_slice FaWheelS.sl_67 rfl) ?_; (refine wl_pure rfl rfl (pv_neq_e rfl rfl (by omega)) ?_); refine wl_nil ?_) | refine wr (id := 0) rfl ?_ | refine wr (id := 3) rfl ?_)
  refine w_loop2 (ι := Nat) (fun i ρ ro' own => i ≤ xs.length ∧ Kn [(0, .slice a1 xs.length c1), (1, .slice a2 ys.length c2), (12, .int .i64 xs.length), (13, .int .i64 i)] ρ ∧ ro' = ro ∧ own = []) (fun i => xs.length - i) 0 ⟨Nat.zero_le _, ⟨rfl, rfl, rfl, rfl, trivial⟩, rfl, rfl⟩ ?_
  rintro i ρ ro' own ⟨hi, hk, rfl, rfl⟩
  obtain ⟨ρ', rfl⟩ := hk.ex
  by_cases hlt : i < xs.length
  · obtain ⟨b1, o1, rfl, h1⟩ := hx.addr (by omega)
    obtain ⟨b2, o2, rfl, h2⟩ := hy.addr (by omega)
    have hxi : xs[i]? = some (xs[i]'hlt) := List.getElem?_eq_getElem hlt
    have hyi : ys[i]? = some (ys[i]'(by omega)) := List.getElem?_eq_getElem (by omega)
    obtain ⟨x, hxx⟩ : ∃ x, x = xs[i]'hlt := ⟨_, rfl⟩
    obtain ⟨y, hyy⟩ : ∃ y, y = ys[i]'(by omega) := ⟨_, rfl⟩
    have hdx := hxd x (by rw [hxx]; exact List.getElem_mem _)
    have hdy := hyd y (by rw [hyy]; exact List.getElem_mem _)
    rw [← hxx] at hxi
    rw [← hyy] at hyi
    have hP : x.P = y.P := by
      have h3 := congrArg (fun l => l[i]?) hxy
      simp only [List.getElem?_map, hxi, hyi, Option.map_some, Option.some.injEq] at h3
      exact h3
    have hid : x.id = y.id := congrArg Prod.fst hP
    have hdd : x.d = y.d := congrArg Prod.snd hP
    repeat' (first | ((with_reducible refine g_wl ?_); (first | refine kN ?_ | ((with_reducible refine g_mv ?_); (refine kp (pvm_move_i rfl) ?_)) | ((with_reducible refine g_as ?_); (refine kp (pvm_assign_i rfl) ?_)) | ((with_reducible refine g_bo ?_); (first | refine kp (pv_iadd rfl rfl (by omega)) ?_ | refine kp (pv_lss rfl rfl) ?_)))) | with_reducible refine w_seq ?_ | with_reducible refine thenP_n ?_ | with_reducible refine blockP_n ?_ | with_reducible refine w_skip ?_ | with_reducible refine w_block ?_ | refine w_cond_false rfl ?_ | (refine w_cond_dec rfl (fun _ => ?_) (fun _ => ?_) <;> try (exfalso; omega)) | (refine w_draw (id := 6) [] (ro') Fa.mixed RoOk.self ?_; all_goals (refine wh_pure 0 rfl (by kernel_rfl) rfl rfl (pvm_move_s rfl) ?_); all_goals (refine wh_pure 1 rfl (by kernel_rfl) rfl rfl (pvm_move_i rfl) ?_); all_goals (refine wh_pure 2 rfl (by kernel_rfl) rfl rfl (pv_indexAddr FaWheelS.sl_67 rfl rfl (by omega) (by omega)) ?_); all_goals (refine wh_pure 3 rfl (by kernel_rfl) rfl rfl (pv_fieldAddr FaWheelS.fo_104_0 rfl) ?_); all_goals (refine wh_load 4 rfl (by kernel_rfl) rfl rfl FaWheelS.one_35 rfl (h1 i x _ hxi 0 _ rfl) ?_); all_goals (refine wh_pure 5 rfl (by kernel_rfl) rfl rfl (pvm_move_s rfl) ?_); all_goals (refine wh_pure 6 rfl (by kernel_rfl) rfl rfl (pvm_move_i rfl) ?_); all_goals (refine wh_pure 7 rfl (by kernel_rfl) rfl rfl (pv_indexAddr FaWheelS.sl_67 rfl rfl (by omega) (by omega)) ?_); all_goals (refine wh_pure 8 rfl (by kernel_rfl) rfl rfl (pv_fieldAddr FaWheelS.fo_104_0 rfl) ?_); all_goals (refine wh_load 9 rfl (by kernel_rfl) rfl rfl FaWheelS.one_35 rfl (h2 i y _ hyi 0 _ rfl) ?_); all_goals (refine wh_pure 10 rfl (by kernel_rfl) rfl rfl (pv_bd_f (fun hh => hh hid) (pv32_neq rfl rfl)) ?_); all_goals (refine wh_pure 11 rfl (by kernel_rfl) rfl rfl (pvm_move_b rfl) ?_); all_goals (refine wh_pure 12 rfl (by kernel_rfl) rfl rfl (pvm_move_s rfl) ?_); all_goals (refine wh_pure 13 rfl (by kernel_rfl) rfl rfl (pvm_move_i rfl) ?_); all_goals (refine wh_pure 14 rfl (by kernel_rfl) rfl rfl (pv_indexAddr FaWheelS.sl_67 rfl rfl (by omega) (by omega)) ?_); all_goals (refine wh_pure 15 rfl (by kernel_rfl) rfl rfl (pv_fieldAddr FaWheelS.fo_104_1 rfl) ?_); all_goals (refine wh_load 16 rfl (by kernel_rfl) rfl rfl FaWheelS.one_22 rfl (h1 i x _ hxi 1 _ rfl) ?_); all_goals (refine wh_str 17 rfl (by kernel_rfl) rfl rfl Try.underlying22 Try.underlying5 Try.underlying9 rfl rfl (hdx.rd _) ?_); all_goals (refine wh_pure 18 rfl (by kernel_rfl) rfl rfl (pvm_move_s rfl) ?_); all_goals (refine wh_pure 19 rfl (by kernel_rfl) rfl rfl (pvm_move_i rfl) ?_); all_goals (refine wh_pure 20 rfl (by kernel_rfl) rfl rfl (pv_indexAddr FaWheelS.sl_67 rfl rfl (by omega) (by omega)) ?_); all_goals (refine wh_pure 21 rfl (by kernel_rfl) rfl rfl (pv_fieldAddr FaWheelS.fo_104_1 rfl) ?_); all_goals (refine wh_load 22 rfl (by kernel_rfl) rfl rfl FaWheelS.one_22 rfl (h2 i y _ hyi 1 _ rfl) ?_); all_goals (refine wh_str 23 rfl (by kernel_rfl) rfl rfl Try.underlying22 Try.underlying5 Try.underlying9 rfl rfl (hdy.rd _) ?_); all_goals (refine wh_pure 24 rfl (by kernel_rfl) rfl rfl (pv_vstr_neq_e rfl rfl hdd) ?_); all_goals (refine wh_pure 25 rfl (by kernel_rfl) rfl rfl (pvk_f_b rfl rfl) ?_); all_goals (refine wh_done (by kernel_rfl) ?_)) | refine wr (id := 4) rfl ?_ | refine wr (id := 5) rfl ?_ | refine wr (id := 8) rfl ?_)
    exact ⟨i + 1, _, Sub.refl, ⟨hlt, ⟨rfl, rfl, rfl, rfl, trivial⟩, rfl, rfl⟩, by omega⟩
  · repeat' (first | ((with_reducible refine g_wl ?_); (first | refine kN ?_ | ((with_reducible refine g_as ?_); (refine kp (pvm_assign_b rfl) ?_)) | ((with_reducible refine g_bo ?_); refine kp (pv_lss rfl rfl) ?_))) | with_reducible refine w_seq ?_ | with_reducible refine thenP_n ?_ | with_reducible refine thenP_x ?_ | with_reducible refine blockP_eq ?_ | with_reducible refine w_ret ?_ | with_reducible refine w_exit ?_ | (refine w_cond_dec rfl (fun _ => ?_) (fun _ => ?_) <;> try (exfalso; omega)) | refine wr (id := 4) rfl ?_ | refine wr (id := 9) rfl ?_)
    exact ret_r (v := .bool true) rfl ⟨rfl, rfl⟩
/-- A call of the script, as it lies. -/
structure WCall where
  d : Int
  n : Int
  torn : Int
  id : D
  a : Option Addr
  c : Nat
  b : List B
def WCall.cells (e : WCall) : List Value := [.int .i64 e.d, .int .i64 e.n, .int .i64 e.torn, v32 e.id, .slice e.a e.b.length e.c]
theorem few_c (al : Option Addr) (cl : Nat) (es : List WCall) (ro : RO) (hE : SlRM WCall.cells 5 (.slice al es.length cl) es ro) :
    C Try.prog 26 #[.slice al es.length cl] ro [] fun v own => (∃ f, v = .bool f ∧ (f = true → es.length ≤ 80 ∧ ∀ e ∈ es, e.b.length ≤ 40)) ∧ own = [] := by
  refine c_of_w2 (n := 21) Try.func26 rfl rfl rfl (by rfl) fun E => ?_
  repeat' (first | ((with_reducible refine g_wl ?_); (first | refine kN ?_ | ((with_reducible refine g_mv ?_); (first | refine kp (pvm_move_s rfl) ?_ | refine kp (pvm_move_i rfl) ?_)) | ((with_reducible refine g_as ?_); (refine kp (pvm_assign_b rfl) ?_)) | ((with_reducible refine g_cb .len ?_); refine kp (pv_len_slice Ft.h rfl) ?_))) | with_reducible refine w_seq ?_ | with_reducible refine thenP_n ?_ | with_reducible refine w_block ?_ | refine wr (id := 0) rfl ?_ | refine wr (id := 1) rfl ?_)
  refine w_loop2 (ι := Nat) (fun i ρ ro' own => i ≤ es.length ∧ Kn [(5, .slice al es.length cl), (6, .int .i64 es.length), (7, .int .i64 i)] ρ ∧ ro' = ro ∧ own = [] ∧ i ≤ 80 ∧ ∀ e ∈ es.take i, e.b.length ≤ 40) (fun i => es.length - i) 0 ⟨Nat.zero_le _, ⟨rfl, rfl, rfl, trivial⟩, rfl, rfl, by omega, (by intro e he; cases he)⟩ ?_
  rintro i ρ ro' own ⟨hi, hk, rfl, rfl, hi80, hall⟩
  obtain ⟨ρ', rfl⟩ := hk.ex
  by_cases hlt : i < es.length
  · obtain ⟨bE, oE, rfl, hhas⟩ := hE.addr (by omega)
    have hx : es[i]? = some (es[i]'hlt) := List.getElem?_eq_getElem hlt
    have htk : es.take (i + 1) = es.take i ++ [es[i]'hlt] := List.take_succ_eq_append_getElem hlt
    obtain ⟨⟨cd, cn, ct, ci, ca, cc, cb⟩, hce⟩ : ∃ e, e = es[i]'hlt := ⟨_, rfl⟩
    rw [← hce] at hx htk
    repeat' (first | ((with_reducible refine g_wl ?_); (first | refine kN ?_ | ((with_reducible refine g_gd ?_); (first | refine kg rfl ?_ | refine ks rfl ?_ | refine kc rfl rfl rfl (fun _ => ?_) (fun _ => ?_))) | ((with_reducible refine g_mv ?_); (first | refine kp (pvm_move_b rfl) ?_ | refine kp (pvm_move_i rfl) ?_)) | ((with_reducible refine g_as ?_); (first | refine kp (pvm_assign_b rfl) ?_ | refine kp (pvm_assign_i rfl) ?_)) | ((with_reducible refine g_pk ?_); (first | refine kp (pvk_t_b rfl rfl) ?_ | refine kp (pvk_f_b rfl rfl) ?_)) | ((with_reducible refine g_bo ?_); (first | refine kp (pv_iadd rfl rfl (by omega)) ?_ | refine kp (pv_lss rfl rfl) ?_ | refine kp (pv_geq rfl rfl) ?_ | refine kp (pv_gtr rfl rfl) ?_)) | ((with_reducible refine g_ld ?_); (first | refine kd (opw_loadA (cs := [.int .i64 cd, .int .i64 cn, .int .i64 ct, v32 ci, .slice ca cb.length cc]) Fb.h Ft.h rfl rfl (hhas i _ _ hx) ?_) | refine kd (opw_load Fb.h rfl (Has.own 0 0 rfl rfl) ?_))) | ((with_reducible refine g_st ?_); (refine kn (opw_storeS 0 0 FaWheelS.sz_64 rfl rfl rfl rfl rfl rfl rfl (noFr_zero _ _) ?_))) | ((with_reducible refine g_cb .len ?_); refine kp (pv_len_slice Ft.h rfl) ?_) | refine kp (pv_indexAddr FaWheelS.sl_55 rfl rfl (by omega) (by omega)) ?_ | refine kp (pv_fieldAddr Ft.h rfl) ?_ | refine kd (d := 4) (opw_alloc FaWheelS.zero_64 fun b4 => ?_))) | with_reducible refine w_seq ?_ | with_reducible refine thenP_n ?_ | with_reducible refine thenP_r ?_ | with_reducible refine blockP_n ?_ | with_reducible refine blockP_r ?_ | with_reducible refine w_skip ?_ | with_reducible refine w_ret ?_ | with_reducible refine w_block ?_ | refine w_cond_true rfl ?_ | (refine w_cond_dec rfl (fun _ => ?_) (fun _ => ?_) <;> try (exfalso; omega)) | refine wr rfl ?_)
    · exact ret_s (v := .bool false) [] rfl (Sub.pk' [] rfl) ⟨⟨false, rfl, fun h => by cases h⟩, rfl⟩
    · exact ret_s (v := .bool false) [] rfl (Sub.pk' [] rfl) ⟨⟨false, rfl, fun h => by cases h⟩, rfl⟩
    · refine ⟨i + 1, [], Sub.pk' [] rfl, ⟨hlt, ⟨rfl, rfl, rfl, trivial⟩, rfl, rfl, by omega, ?_⟩, by omega⟩
      rw [htk]
      intro e he
      rcases List.mem_append.1 he with he | he
      · exact hall e he
      · rw [List.mem_singleton.1 he]; show cb.length ≤ 40; omega
  · repeat' (first | ((with_reducible refine g_wl ?_); (first | refine kN ?_ | ((with_reducible refine g_as ?_); (refine kp (pvm_assign_b rfl) ?_)) | ((with_reducible refine g_bo ?_); refine kp (pv_lss rfl rfl) ?_))) | with_reducible refine w_seq ?_ | with_reducible refine thenP_n ?_ | with_reducible refine thenP_x ?_ | with_reducible refine blockP_eq ?_ | with_reducible refine w_ret ?_ | with_reducible refine w_exit ?_ | (refine w_cond_dec rfl (fun _ => ?_) (fun _ => ?_) <;> try (exfalso; omega)) | refine wr (id := 2) rfl ?_ | refine wr (id := 7) rfl ?_)
    rw [show i = es.length from by omega, List.take_length] at hall
    exact ret_r (v := .bool true) rfl ⟨⟨true, rfl, fun _ => ⟨by omega, hall⟩⟩, rfl⟩
end Go.Proofs.Ytnohdfhhdppflaa
