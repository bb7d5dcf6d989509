/- From a contract to a row: what the arguments hold, as facts. -/
import Derived.Test.YtnohdfhhdppflaaVcArr
import Derived.Below
import GoSem.Claim
namespace Go.Vc
open Go Go.RowKit
set_option linter.unusedVariables false
theorem C.below {P : Program} {f : FuncId} {args : Array Value} {ro : RO} {R : Value → List Blks → Prop} (h : C P f args ro [] R) (w : World) (hro : ∀ x ∈ ro, ∃ o, w.heap[x.1]? = some o ∧ x.2 o) :
    Calls P f args w fun e w' => (∃ v own', e = .returned v ∧ R v own') ∧ Below w.heap.size w w' := by
  have hw : Wd ⟨w, keysOf []⟩ ro [] w := ⟨rfl, rfl, rfl, List.nodup_nil, (by intro x hx; cases hx), hro, (by intro x _ hx; cases hx), Nat.le_refl _, (fun _ _ _ => rfl), (by intro b hb; cases hb)⟩
  refine (h w hw).mono fun e w' ⟨v, ro', own', h1, h2, h3⟩ => ⟨⟨v, own', h1, h3⟩, ⟨h2.os, h2.tape, h2.output, h2.size, fun k hk => h2.frame k hk (by intro hh; cases hh)⟩⟩
/-- A row of an argument, as it lies. -/
def RowAt (k : IntKind) (w : World) (a : Option Addr) (len cap : Nat) (zs : List Int) : Prop :=
  (a = none ∧ len = 0 ∧ cap = 0 ∧ zs = []) ∨
  ∃ x, a = some x ∧ len ≤ cap ∧ zs.length = cap ∧ (∀ i, i < zs.length → w.cell? (x.add i) = some (.int k (zs.getD i 0))) ∧ ∀ n ∈ zs, (Lit.int k n).wf = true
theorem row_slr {w : World} {a : Option Addr} {len cap : Nat} {zs : List Int} (h : RowAt .u8 w a len cap zs) :
    ∃ (xs : List (BitVec 8)) (ro : RO), xs.length = len ∧ SlR v8 (.slice a len cap) xs ro ∧ ∀ x ∈ ro, ∃ o, w.heap[x.1]? = some o ∧ x.2 o := by
  rcases h with ⟨rfl, rfl, rfl, rfl⟩ | ⟨x, rfl, hl, hz, hc, hwf⟩
  · exact ⟨[], [], rfl, SlR.nil _ _, by intro x hx; cases hx⟩
  · by_cases h0 : len = 0
    · subst h0; exact ⟨[], [], rfl, SlR.nil _ _, by intro x hx; cases hx⟩
    · obtain ⟨b, off, sp⟩ := x
      have hc0 := hc 0 (by omega)
      have hsp : sp = none ∧ ∃ c T fr, w.heap[b]? = some (.cells c T fr) := by
        simp only [Addr.add, if_true] at hc0
        unfold World.cell? at hc0
        dsimp only at hc0
        split at hc0
        · rename_i c T fr hh
          cases sp with
          | none => exact ⟨rfl, c, T, fr, hh⟩
          | some s => simp at hc0
        · cases hc0
      obtain ⟨rfl, c, T, fr, hh⟩ := hsp
      refine ⟨(zs.take len).map (BitVec.ofInt 8), [(b, AtO v8 off ((zs.take len).map (BitVec.ofInt 8)))], by simp; omega, ?_, ?_⟩
      · have := SlR.of_has (f := v8) (b := b) (off := off) (c := cap) (xs := (zs.take len).map (BitVec.ofInt 8)) (by simp; omega)
        rwa [show ((zs.take len).map (BitVec.ofInt 8)).length = len by simp; omega] at this
      · intro y hy
        rw [List.mem_singleton] at hy
        subst hy
        refine ⟨_, hh, fun i q hq => ?_⟩
        rw [List.getElem?_map, List.getElem?_take] at hq
        split at hq
        · rename_i hi
          have hci := hc i (by omega)
          have hzi : zs[i]? = some (zs.getD i 0) := by rw [List.getD_eq_getElem?_getD, List.getElem?_eq_getElem (by omega)]; rfl
          rw [hzi] at hq
          simp only [Option.map_some, Option.some.injEq] at hq
          subst hq
          have ha : Addr.add ⟨b, off, none⟩ i = ⟨b, off + i, none⟩ := Addr.add_lit _ _ _
          rw [ha] at hci
          unfold World.cell? at hci
          dsimp only at hci
          rw [hh] at hci
          simp only [Option.isSome_none, if_false] at hci
          have hw := hwf _ (List.mem_of_getElem? hzi)
          simp only [Lit.wf, Bool.and_eq_true, decide_eq_true_eq] at hw
          have h1 : (0 : Int) ≤ zs.getD i 0 := hw.1
          have h2 : zs.getD i 0 ≤ (255 : Int) := hw.2
          show c[off + i]? = some (v8 _)
          have hv : v8 (BitVec.ofInt 8 (zs.getD i 0)) = .int .u8 (zs.getD i 0) := by
            unfold v8
            rw [BitVec.toNat_ofInt]
            congr 1
            omega
          rw [hv]
          simpa using hci
        · simp at hq
end Go.Vc
