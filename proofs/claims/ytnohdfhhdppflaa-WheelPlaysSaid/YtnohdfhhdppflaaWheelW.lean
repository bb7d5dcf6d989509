/- Wheels, walked: places, one record. -/
import Derived.Test.YtnohdfhhdppflaaPlain
import Derived.Test.YtnohdfhhdppflaaCrcW3
import Derived.Test.YtnohdfhhdppflaaFlashW4
namespace Go.Proofs.Ytnohdfhhdppflaa
open Go Go.Vc Go.Fl Go.Sha
set_option linter.unusedVariables false
set_option linter.unusedSimpArgs false
set_option maxRecDepth 100000
set_option maxHeartbeats 4000000
namespace FaWheelW
theorem ca_57 : callable Try.prog 57 = true := by kernel_rfl
theorem ca_60 : callable Try.prog 60 = true := by kernel_rfl
theorem fo_97_2 : fieldOff Try.prog 97 2 = some 2 := by kernel_rfl
theorem one_3 : isOne Try.prog 3 = true := by kernel_rfl
theorem one_5 : isOne Try.prog 5 = true := by kernel_rfl
theorem sl_22 : sliceOf Try.prog 22 = some (5, 1) := by kernel_rfl
instance : Fb (callable Try.prog 57) := ⟨ca_57⟩
instance : Fb (callable Try.prog 60) := ⟨ca_60⟩
instance : Ft (fieldOff Try.prog 97 2) (2) := ⟨fo_97_2⟩
instance : Fb (isOne Try.prog 3) := ⟨one_3⟩
instance : Fb (isOne Try.prog 5) := ⟨one_5⟩
instance : Ft (sliceOf Try.prog 22) (5, 1) := ⟨sl_22⟩
instance : Ft (Try.prog.underlying 5) (.int .u8) := ⟨Try.underlying5⟩
instance : Ft (Try.prog.underlying 35) (.int .u32) := ⟨Try.underlying35⟩
end FaWheelW
attribute [local irreducible] PV OpW WL WM WH WZ W C Has RoOk

def wheelObj (fp : Nat) (w : Wh) (lv : Value) : Obj := .cells #[.pointer (some ⟨fp, 0, none⟩), v32 w.gen, .int .i64 w.size, lv, .int .i64 w.ready, .int .i64 w.next] 97 (0, 0)
/-- A record, as it lies: where its data are. -/
structure RV where
  id : D
  a : Option Addr
  c : Nat
  g : Blks
  d : List B
def RV.enc (r : RV) : List Value := [v32 r.id, .slice r.a r.d.length r.c]
def RV.P (r : RV) : D × List B := (r.id, r.d)
def RV.Ok (r : RV) : Prop := ∃ b off blk, r.a = some ⟨b, off, none⟩ ∧ r.g = [(b, arr v8 5 blk)] ∧ r.d.length ≤ r.c ∧ ∀ i, i < r.d.length → blk[off + i]? = r.d[i]?
def RV.zero : RV := ⟨0#32, none, 0, [], []⟩
theorem RV.one (r : RV) : ∀ u ∈ r.enc, u.oneCell' = true := by
  intro u hu
  simp only [RV.enc, List.mem_cons, List.not_mem_nil, or_false] at hu
  rcases hu with rfl | rfl <;> rfl
theorem RV.Ok.slr {r : RV} (h : r.Ok) : ∃ ro, SlR v8 (.slice r.a r.d.length r.c) r.d ro ∧ ∀ (ro' : RO) (rest : List Blks), (∀ x ∈ r.g, x ∈ rest.flatten) → RoOk ro ro' rest := by
  obtain ⟨b, off, blk, h1, h2, h3, h4⟩ := h
  refine ⟨[(b, AtO v8 off r.d)], ?_, fun ro' rest hx => ?_⟩
  · rw [h1]; exact SlR.of_has h3
  · rw [h2] at hx
    exact roOk_one (hx _ (List.mem_singleton.2 rfl)) (AtO_arr h4)
theorem wide_c (pw fp : Nat) (w : Wh) (lv : Value) (ho : w.Ok) (ro : RO) : C Try.prog 60 #[.pointer (some ⟨pw, 0, none⟩)] ro [[(pw, wheelObj fp w lv)]] fun v own => v = .int .i64 ((w.size + 13 : Nat) : Int) ∧ own = [[(pw, wheelObj fp w lv)]] := by
  have h1 := ho.s2
  refine c_of_w2 (n := 8) Try.func60 rfl rfl rfl (by rfl) fun E => ?_
  repeat' (first | ((with_reducible refine g_wl ?_); (first | refine kN ?_ | ((with_reducible refine g_mv ?_); (refine kp (pvm_move_p rfl) ?_)) | ((with_reducible refine g_as ?_); (refine kp (pvm_assign_i rfl) ?_)) | ((with_reducible refine g_bo ?_); (refine kp (pv_iadd rfl rfl (by omega)) ?_)) | ((with_reducible refine g_ld ?_); (refine kd (opw_load Fb.h rfl (Has.own 0 0 rfl rfl) ?_))) | refine kp (pv_nilCheck rfl) ?_ | refine kp (pv_fieldAddr Ft.h rfl) ?_)) | with_reducible refine w_seq ?_ | with_reducible refine thenP_n ?_ | with_reducible refine w_ret ?_ | refine wr rfl ?_)
  exact ret_r (v := .int .i64 _) rfl ⟨rfl, rfl⟩
theorem places_c (pw fp : Nat) (w : Wh) (lv : Value) (ho : w.Ok) (ro : RO) : C Try.prog 57 #[.pointer (some ⟨pw, 0, none⟩)] ro [[(pw, wheelObj fp w lv)]] fun v own => v = .int .i64 (places w.size : Int) ∧ own = [[(pw, wheelObj fp w lv)]] := by
  have h1 := ho.s2
  refine c_of_w2 (n := 6) Try.func57 rfl rfl rfl (by rfl) fun E => ?_
  repeat' (first | ((with_reducible refine g_wl ?_); (first | refine kN ?_ | ((with_reducible refine g_mv ?_); (refine kp (pvm_move_p rfl) ?_)) | ((with_reducible refine g_as ?_); (refine kp (pvm_assign_i rfl) ?_)) | ((with_reducible refine g_bo ?_); (refine kp (pv_iquo rfl rfl (by omega)) ?_)) | ((with_reducible refine g_cf 60 ?_); (refine kd (opw_call Fb.h rfl [0] (wide_c pw fp w lv ho _) RoOk.self (fun v own h => ?_)); obtain ⟨rfl, rfl⟩ := h)))) | with_reducible refine w_seq ?_ | with_reducible refine thenP_n ?_ | with_reducible refine w_ret ?_ | refine wr rfl ?_)
  exact ret_r (v := .int .i64 _) rfl ⟨rfl, rfl⟩
theorem at_c (pw fp : Nat) (w : Wh) (lv : Value) (ho : w.Ok) (k : Nat) (hk : k < 8 * places w.size) (ro : RO) : C Try.prog 59 #[.pointer (some ⟨pw, 0, none⟩), .int .i64 k] ro [[(pw, wheelObj fp w lv)]] fun v own => v = .int .i64 (pAt w.size k : Int) ∧ own = [[(pw, wheelObj fp w lv)]] := by
  obtain ⟨h3, h4⟩ := places_le ho.s2
  have h2 := ho.s2
  have h5 := places_mul w.size
  obtain ⟨q, hq⟩ : ∃ q, q = k / places w.size := ⟨_, rfl⟩
  obtain ⟨r, hr⟩ : ∃ r, r = k % places w.size := ⟨_, rfl⟩
  obtain ⟨x, hx⟩ : ∃ x, x = r * (w.size + 13) := ⟨_, rfl⟩
  have h6 : r < places w.size := by rw [hr]; exact Nat.mod_lt _ (by omega)
  have h7 : q < 8 := by rw [hq]; exact (Nat.div_lt_iff_lt_mul (by omega)).2 hk
  have h8 : (r + 1) * (w.size + 13) ≤ places w.size * (w.size + 13) := Nat.mul_le_mul_right _ (by omega)
  rw [Nat.add_mul, ← hx] at h8
  have hres : pAt w.size k = (6 + q) * 256 + x := by rw [hx, hq, hr]; rfl
  rw [hres]
  refine c_of_w2 (n := 19) Try.func59 rfl rfl rfl (by rfl) fun E => ?_
  repeat' (first | ((with_reducible refine g_wl ?_); (first | refine kN ?_ | ((with_reducible refine g_as ?_); (refine kp (pvm_assign_i rfl) ?_)))) | with_reducible refine w_seq ?_ | with_reducible refine thenP_n ?_ | with_reducible refine w_ret ?_ | (refine w_draw (id := 1) [] (hold []) Fa.mixed (hold_ok (by simp)) ?_; (refine wh_pure 0 rfl (by kernel_rfl) rfl rfl (pvm_move_i rfl) ?_); (refine wh_pure 1 rfl (by kernel_rfl) rfl rfl (pvm_move_p rfl) ?_); (refine wh_pure 6 rfl (by kernel_rfl) rfl rfl (pvm_move_i rfl) ?_); (refine wh_pure 7 rfl (by kernel_rfl) rfl rfl (pvm_move_p rfl) ?_); (refine wh_pure 10 rfl (by kernel_rfl) rfl rfl (pvm_move_p rfl) ?_); refine wh_do 2 (by kernel_rfl) rfl rfl rfl rfl (opw_call FaWheelW.ca_57 rfl [0] (places_c pw fp w lv ho _) RoOk.self (fun v own h => ?_)); obtain ⟨rfl, rfl⟩ := h; refine ⟨RoOk.nil, ?_⟩; (refine wh_pure 3 rfl (by kernel_rfl) rfl rfl (pvi_e (q : Int) (by rw [hq]; exact (Int.natCast_ediv _ _).symm) (pv_iquo rfl rfl (by omega))) ?_); (refine wh_pure 4 rfl (by kernel_rfl) rfl rfl (pv_iadd rfl rfl (by omega)) ?_); (refine wh_pure 5 rfl (by kernel_rfl) rfl rfl (pv_imul rfl rfl (by omega)) ?_); refine wh_do 8 (by kernel_rfl) rfl rfl rfl rfl (opw_call FaWheelW.ca_57 rfl [0] (places_c pw fp w lv ho _) RoOk.self (fun v own h => ?_)); obtain ⟨rfl, rfl⟩ := h; refine ⟨RoOk.nil, ?_⟩; (refine wh_pure 9 rfl (by kernel_rfl) rfl rfl (pvi_e (r : Int) (by rw [hr]; exact (Int.natCast_emod _ _).symm) (pv_irem rfl rfl (by omega))) ?_); refine wh_do 11 (by kernel_rfl) rfl rfl rfl rfl (opw_call FaWheelW.ca_60 rfl [0] (wide_c pw fp w lv ho _) RoOk.self (fun v own h => ?_)); obtain ⟨rfl, rfl⟩ := h; refine ⟨RoOk.nil, ?_⟩; (refine wh_pure 12 rfl (by kernel_rfl) rfl rfl (pvi_e (x : Int) (by rw [hx]; push_cast; rfl) (pv_imul rfl rfl (by rw [← Int.natCast_mul, ← hx]; omega))) ?_); (refine wh_pure 13 rfl (by kernel_rfl) rfl rfl (pv_iadd rfl rfl (by omega)) ?_); (refine wh_pure 14 rfl (by kernel_rfl) rfl rfl (pvm_assign_i rfl) ?_); (refine wh_done (by kernel_rfl) ?_)) | refine wr rfl ?_)
  exact ret_r (v := .int .i64 _) rfl ⟨by push_cast; rfl, rfl⟩
theorem num4_eq (x0 x1 x2 x3 : B) (ys : List B) : num4 (x0 :: x1 :: x2 :: x3 :: ys) = BitVec.ofNat 32 x0.toNat <<< 24 ||| BitVec.ofNat 32 x1.toNat <<< 16 ||| BitVec.ofNat 32 x2.toNat <<< 8 ||| BitVec.ofNat 32 x3.toNat := by
  show (((0#32 <<< 8 ||| BitVec.ofNat 32 x0.toNat) <<< 8 ||| BitVec.ofNat 32 x1.toNat) <<< 8 ||| BitVec.ofNat 32 x2.toNat) <<< 8 ||| BitVec.ofNat 32 x3.toNat = _
  simp only [BitVec.shiftLeft_or_distrib, ← BitVec.shiftLeft_add, BitVec.zero_shiftLeft, BitVec.zero_or]
theorem number_w (a : Option Addr) (n c : Nat) (xs : List B) (hn : n = xs.length) (hl : 4 ≤ xs.length) (ro : RO) (hs : SlR v8 (.slice a n c) xs ro) : C Try.prog 92 #[.slice a n c] ro [] fun v own => v = v32 (num4 xs) ∧ own = [] := by
  subst hn
  obtain ⟨b, off, rfl, hhas⟩ := hs.addr (by omega)
  obtain ⟨x0, x1, x2, x3, ys, rfl⟩ : ∃ x0 x1 x2 x3 ys, xs = x0 :: x1 :: x2 :: x3 :: ys := by
    match xs, hl with
    | x0 :: x1 :: x2 :: x3 :: ys, _ => exact ⟨x0, x1, x2, x3, ys, rfl⟩
  have e0 := hhas 0 x0 [] rfl
  have e1 := hhas 1 x1 [] rfl
  have e2 := hhas 2 x2 [] rfl
  have e3 := hhas 3 x3 [] rfl
  refine c_of_w2 (n := 25) Try.func92 rfl rfl rfl (by rfl) fun E => ?_
  repeat' (first | ((with_reducible refine g_wl ?_); (first | refine kN ?_ | ((with_reducible refine g_as ?_); (refine kp pv_assign ?_)))) | with_reducible refine w_seq ?_ | with_reducible refine thenP_n ?_ | with_reducible refine w_ret ?_ | (refine w_draw (id := 1) [] (ro) Fa.mixed RoOk.self ?_; (refine wh_pure 0 rfl (by kernel_rfl) rfl rfl (pvm_move_s rfl) ?_); refine wh_pure 1 rfl (by kernel_rfl) rfl rfl (pv_indexAddr1 FaWheelW.sl_22 rfl rfl (by omega) (by omega)) ?_; (refine wh_load 2 rfl (by kernel_rfl) rfl rfl FaWheelW.one_5 rfl e0 ?_); refine wh_pure 3 rfl (by kernel_rfl) rfl rfl (pvc_8_32 Try.underlying5 Try.underlying35 rfl) ?_; refine wh_pure 4 rfl (by kernel_rfl) rfl rfl (pv32_shl rfl rfl (by omega)) ?_; (refine wh_pure 5 rfl (by kernel_rfl) rfl rfl (pvm_move_s rfl) ?_); refine wh_pure 6 rfl (by kernel_rfl) rfl rfl (pv_indexAddr1 FaWheelW.sl_22 rfl rfl (by omega) (by omega)) ?_; (refine wh_load 7 rfl (by kernel_rfl) rfl rfl FaWheelW.one_5 rfl e1 ?_); refine wh_pure 8 rfl (by kernel_rfl) rfl rfl (pvc_8_32 Try.underlying5 Try.underlying35 rfl) ?_; refine wh_pure 9 rfl (by kernel_rfl) rfl rfl (pv32_shl rfl rfl (by omega)) ?_; refine wh_pure 10 rfl (by kernel_rfl) rfl rfl (pv32_or rfl rfl) ?_; (refine wh_pure 11 rfl (by kernel_rfl) rfl rfl (pvm_move_s rfl) ?_); refine wh_pure 12 rfl (by kernel_rfl) rfl rfl (pv_indexAddr1 FaWheelW.sl_22 rfl rfl (by omega) (by omega)) ?_; (refine wh_load 13 rfl (by kernel_rfl) rfl rfl FaWheelW.one_5 rfl e2 ?_); refine wh_pure 14 rfl (by kernel_rfl) rfl rfl (pvc_8_32 Try.underlying5 Try.underlying35 rfl) ?_; refine wh_pure 15 rfl (by kernel_rfl) rfl rfl (pv32_shl rfl rfl (by omega)) ?_; refine wh_pure 16 rfl (by kernel_rfl) rfl rfl (pv32_or rfl rfl) ?_; (refine wh_pure 17 rfl (by kernel_rfl) rfl rfl (pvm_move_s rfl) ?_); refine wh_pure 18 rfl (by kernel_rfl) rfl rfl (pv_indexAddr1 FaWheelW.sl_22 rfl rfl (by omega) (by omega)) ?_; (refine wh_load 19 rfl (by kernel_rfl) rfl rfl FaWheelW.one_5 rfl e3 ?_); refine wh_pure 20 rfl (by kernel_rfl) rfl rfl (pvc_8_32 Try.underlying5 Try.underlying35 rfl) ?_; refine wh_pure 21 rfl (by kernel_rfl) rfl rfl (pv32_or rfl rfl) ?_; (refine wh_pure 22 rfl (by kernel_rfl) rfl rfl (pvm_assign_32 rfl) ?_); (refine wh_done (by kernel_rfl) ?_)) | refine wr rfl ?_)
  refine ret_r (v := v32 _) rfl ⟨?_, rfl⟩
  rw [num4_eq]; rfl
end Go.Proofs.Ytnohdfhhdppflaa
