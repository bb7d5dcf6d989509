/- The row of WheelPlays, out of the contract. -/
import Derived.Test.YtnohdfhhdppflaaRows
import Derived.Test.YtnohdfhhdppflaaWheelC
import Derived.Test.YtnohdfhhdppflaaVcRec2
import Derived.WalkKit
import Derived.ProofKit
import Derived.OpenShut
import Derived.ShutString
import Derived.ChangeOld
import Derived.Below
import Derived.SizedLaws
namespace Go.Proofs.Ytnohdfhhdppflaa.wheelPlays
open Go Go.ChangeShapes Go.WideShapes Go.ChangeAt Go.RowKit Go.Vc
set_option linter.unusedVariables false
set_option maxHeartbeats 4000000
namespace FaLawD
theorem sf_64 : Try.prog.underlying 64 = some (.struct (structF Try.prog 64)) := by kernel_rfl
instance : Ft (Try.prog.underlying 64) (.struct (structF Try.prog 64)) := ⟨sf_64⟩
instance : Ft (Try.prog.underlying 3) (.int .i64) := ⟨Try.underlying3⟩
instance : Ft (Try.prog.underlying 4) (.bool) := ⟨Try.underlying4⟩
instance : Ft (Try.prog.underlying 5) (.int .u8) := ⟨Try.underlying5⟩
instance : Ft (Try.prog.underlying 22) (.slice 5) := ⟨Try.underlying22⟩
instance : Ft (Try.prog.underlying 35) (.int .u32) := ⟨Try.underlying35⟩
instance : Ft (Try.prog.underlying 55) (.slice 64) := ⟨Try.underlying55⟩
end FaLawD
theorem own : ownKnob Try.prog.godebug = none := by kernel_rfl
theorem laidOut : laidOutB Try.prog = true := by kernel_rfl
instance : Inhabited WCall := ⟨⟨0, 0, 0, 0#32, none, 0, []⟩⟩
theorem v32_of {z : Int} (h : (Lit.int .u32 z).wf = true) : Value.int .u32 z = v32 (BitVec.ofInt 32 z) := by
  simp only [Lit.wf, Bool.and_eq_true, decide_eq_true_eq] at h
  have h1 : (0 : Int) ≤ z := h.1
  have h2 : z ≤ (4294967295 : Int) := h.2
  unfold v32
  rw [BitVec.toNat_ofInt]
  congr 1
  omega
section
variable {H : Type} {enc : TypeId × Value → H} {P : Program} {w : World} {held : Bool} {n o : Nat} {cs' : List Value} {fs : Array Field} {t : TypeId} {k : IntKind}
theorem int_fldw (hall : ∀ (j : Nat) f, fs[j]? = some f → ∃ y, DataW.trod enc P w 0 (fun _ => true) held n f.type ((cs'.drop f.offset).take (P.cellsOf f.type)) = some y) (j : Nat)
    (h : (fs[j]?).map (fun f => (f.offset, f.type)) = some (o, t)) (ht : P.underlying t = some (.int k)) (hc : P.cellsOf t = 1) : ∃ z, cs'[o]? = some (.int k z) ∧ (Lit.int k z).wf = true := by
  rw [Option.map_eq_some_iff] at h
  obtain ⟨f, hf, he⟩ := h
  cases he
  obtain ⟨y, hy⟩ := hall j f hf
  have hy' := DataW.trod_int ht hy
  obtain ⟨z, hz, _, hw⟩ := hy'
  rw [hc] at hz
  exact ⟨z, one_at hz, hw⟩
end
theorem calls_of {H : Type} {enc : TypeId × Value → H} {w : World} {fuel : Nat} {a : Option Addr} {len cap : Nat} {x : DataW H × List MemPlace} (h : DataW.trod enc Try.prog w 0 (fun _ => true) true fuel 55 [.slice a len cap] = some x) :
    ∃ (es : List WCall) (ro : RO), es.length = len ∧ SlRM WCall.cells 5 (.slice a len cap) es ro ∧ (∀ e ∈ es, SlR v8 (.slice e.a e.b.length e.c) e.b ro) ∧ ∀ x ∈ ro, ∃ o, w.heap[x.1]? = some o ∧ x.2 o := by
  rcases open_recs (m := 5) Try.underlying55 (fs := structF Try.prog 64) FaLawD.sf_64 (by kernel_rfl) h with h0 | ⟨a', len', cap', n, h0, hl, hm, hx⟩
  · simp only [List.cons.injEq, Value.slice.injEq, and_true] at h0
    obtain ⟨rfl, rfl, rfl⟩ := h0
    exact ⟨[], [], rfl, .inl ⟨rfl, _, _, rfl⟩, (by intro x hx; cases hx), (by intro x hx; cases hx)⟩
  · simp only [List.cons.injEq, Value.slice.injEq, and_true] at h0
    obtain ⟨rfl, rfl, rfl⟩ := h0
    refine rec_slr WCall.cells 5 (by omega) (fun _ => rfl) (fun e ro => SlR v8 (.slice e.a e.b.length e.c) e.b ro) (fun e ro ro' hh hs => hh.mono hs) (fun i hi => ?_)
    obtain ⟨cs', hcl, hc, hall⟩ := hx i hi
    obtain ⟨z0, h0⟩ := int_fld hall 0 (o := 0) (t := 3) (by kernel_rfl) Try.underlying3 (by kernel_rfl)
    obtain ⟨z1, h1⟩ := int_fld hall 1 (o := 1) (t := 3) (by kernel_rfl) Try.underlying3 (by kernel_rfl)
    obtain ⟨z2, h2⟩ := int_fld hall 2 (o := 2) (t := 3) (by kernel_rfl) Try.underlying3 (by kernel_rfl)
    obtain ⟨z3, h3, hz3⟩ := int_fldw hall 3 (o := 3) (t := 35) (by kernel_rfl) Try.underlying35 (by kernel_rfl)
    rw [v32_of hz3] at h3
    obtain ⟨ab, lb, cb, zs, h4, hrow, _⟩ := bytes_fld hall 4 (o := 4) (t := 22) (by kernel_rfl) Try.underlying22 Try.underlying5 (by kernel_rfl) (by kernel_rfl)
    obtain ⟨xs, ro, rfl, hs, hr⟩ := row_slr hrow
    refine ⟨⟨z0, z1, z2, BitVec.ofInt 32 z3, ab, cb, xs⟩, fun j u hu => hc j u ?_, ro, hs, hr⟩
    have hj : j < 5 := (List.getElem?_eq_some_iff.1 hu).1
    have : j = 0 ∨ j = 1 ∨ j = 2 ∨ j = 3 ∨ j = 4 := by omega
    rcases this with rfl | rfl | rfl | rfl | rfl
    · exact h0.trans hu
    · exact h1.trans hu
    · exact h2.trans hu
    · exact h3.trans hu
    · exact h4.trans hu
set_option maxRecDepth 100000 in
theorem lifted (os : Os) (started : os.Started) (H : Type) (enc : TypeId × Value → H) :
    ReturnsInHanded {} Try.checked os 6 .any (Rows.wheelPlaysSpec.pre6 enc Try.prog Try.f6 Rows.wheelPlaysRow.domain false) (Rows.wheelPlaysSpec.post enc Try.prog Try.f6 false true false false) := by
  refine returnsInHanded_of_change_sized (C := Try.checked) own started (by kernel_rfl) Try.func6
    (ChangeSpec.witness6 (enc := enc) (C := Try.checked) false ⟨#[], #[.int .i64 0, .int .i64 0, .int .u32 0, .slice none 0 0], []⟩ 8 (by kernel_rfl) (by kernel_rfl) (by kernel_rfl) (by kernel_rfl)) ?_
  intro W base args ds gs before hval0 hW hcnd hsz0 _
  have hval : ∀ (j : Nat) t v, Try.f6.params[j]? = some t → args[j]? = some v → Value.okWide Try.prog W .any base t v := hval0
  have hW' := hW
  obtain ⟨p, q, hA0, hV, rfl, hfz, hnd⟩ := hW
  have hA : DataW.TrodAll enc Try.prog W 0 (fun _ => true) true Try.f6.params.toList args.toList ds p := hA0
  rw [show Try.f6.params = #[3, 3, 35, 55] from by kernel_rfl] at hA hval
  obtain ⟨v0, vs0, d0, ds0, p0, q0, hargs, rfl, rfl, h0, r0⟩ := trodAll_cons hA
  obtain ⟨v1, vs1, d1, ds1, p1, q1, rfl, rfl, rfl, h1, r1⟩ := trodAll_cons r0
  obtain ⟨v2, vs2, d2, ds2, p2, q2, rfl, rfl, rfl, h2, r2⟩ := trodAll_cons r1
  obtain ⟨v3, vs3, d3, ds3, p3, q3, rfl, rfl, rfl, h3, r3⟩ := trodAll_cons r2
  obtain ⟨rfl, rfl, rfl⟩ := trodAll_nil r3
  obtain rfl : args = #[v0, v1, v2, v3] := by cases args; simp_all
  obtain ⟨rfl, rfl⟩ := trodVars_none hV
  obtain ⟨a0, rfl, rfl, rfl, w0⟩ := open_int Try.underlying3 (hval 0 3 v0 rfl rfl) h0
  obtain ⟨a1, rfl, rfl, rfl, w1⟩ := open_int Try.underlying3 (hval 1 3 v1 rfl rfl) h1
  obtain ⟨a2, rfl, rfl, rfl, w2⟩ := open_int Try.underlying35 (hval 2 35 v2 rfl rfl) h2
  obtain ⟨a3, len3, cap3, rfl⟩ := okWide_slice Try.underlying55 (hval 3 55 v3 rfl rfl)
  have k3 := h3
  have lt3 : ∀ x ∈ p3, x.block < W.heap.size := by obtain ⟨m, hm⟩ := k3; exact DataW.trod_lt m _ _ _ hm
  obtain ⟨fuel, hf⟩ := h3
  obtain ⟨es, ro, rfl, hE, hB, hr⟩ := calls_of hf
  clear hA0 hval0 hsz0
  have hC : C Try.prog 6 #[.int .i64 a0, .int .i64 a1, .int .u32 a2, .slice a3 es.length cap3] ro [] fun v own => v = .bool true ∧ own = [] := by
    rw [v32_of w2]
    by_cases hn : a1 < 1 ∨ 16 < a1
    · exact wplays_bad a0 a1 hn _ a3 cap3 es ro hE
    · have := wplays_c a0 a1.toNat (by omega) (by omega) (BitVec.ofInt 32 a2) a3 cap3 es ro hE hB
      rwa [show ((a1.toNat : Nat) : Int) = a1 from by omega] at this
  refine (C.below hC W hr).mono fun e W' ⟨⟨v, own', he, hv, _⟩, bel⟩ => ?_
  subst he
  subst hv
  exact ⟨_, rfl, _, _, _, [], _, [], hW', trodAll_mk1 (shut_bool Try.underlying4 _), (trodAll_cons_mk (shut_int Try.underlying3 w0) (trodAll_cons_mk (shut_int Try.underlying3 w1) (trodAll_cons_mk (shut_int Try.underlying35 w2) (trodAll_cons_mk (Below.trod laidOut (by kernel_rfl) (of_decide_eq_true (by kernel_rfl)) k3 bel lt3) trodAll_mk0)))), rfl, bel.frame _, fun h => by cases h⟩
theorem over : Rows.wheelPlaysRow.holds Try.pinned (OpenSpec.ofChange Rows.wheelPlaysSpec) :=
  OpenClaim.holds_of_wide 6 Try.f6 rfl rfl rfl rfl rfl rfl rfl ⟨rfl, rfl, rfl, rfl, rfl⟩ rfl rfl rfl rfl rfl (by kernel_rfl) Try.func6 (by kernel_rfl)
    (of_decide_eq_true (by kernel_rfl)) (by unfold Func.isWrapper; first | (rw [if_pos (by decide +kernel)]; kernel_rfl) | (rw [if_neg (by decide +kernel)]; exact ⟨rfl, rfl⟩))
    (fun os started H enc _ => lifted os started H enc)
theorem proved : Rows.WheelPlaysSaid := over
end Go.Proofs.Ytnohdfhhdppflaa.wheelPlays
namespace Go.Proofs.Ytnohdfhhdppflaa
/-- The row, under a short name, for the claim. -/
theorem wheelPlays_holds : Rows.WheelPlaysSaid := wheelPlays.proved
end Go.Proofs.Ytnohdfhhdppflaa
