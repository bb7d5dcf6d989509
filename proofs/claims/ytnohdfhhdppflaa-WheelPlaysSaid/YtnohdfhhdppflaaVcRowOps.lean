/- append, make, copy on rows. Over any program. -/
import Derived.Test.YtnohdfhhdppflaaVcRow
namespace Go.Vc
open Go
set_option linter.unusedVariables false
set_option linter.unusedSimpArgs false

def elemInfo (P : Program) (e : TypeId) : Option (Nat × Nat × Value) := (P.info? e).bind fun i => i.zero.map fun z => (i.size, i.bytes, z)
theorem elemInfo_spec {P : Program} {e : TypeId} {m by_ : Nat} {z : Value} (h : elemInfo P e = some (m, by_, z)) : ∃ i, P.info? e = some i ∧ i.size = m ∧ i.bytes = by_ ∧ i.zero = some z := by
  unfold elemInfo at h
  cases hi : P.info? e with
  | none => rw [hi] at h; cases h
  | some i =>
    rw [hi] at h
    simp only [Option.bind_some, Option.map_eq_some_iff, Prod.mk.injEq] at h
    obtain ⟨z', h1, h2, h3, h4⟩ := h
    exact ⟨i, rfl, h2, h3, by rw [h1, h4]⟩
theorem flatMap_length {α : Type} {enc : α → List Value} {m : Nat} (h : ∀ x, (enc x).length = m) (l : List α) : (l.flatMap enc).length = l.length * m := by
  induction l with
  | nil => simp
  | cons x l ih => simp [List.flatMap_cons, ih, h, Nat.succ_mul, Nat.add_comm]
theorem flatMap_take {α : Type} {enc : α → List Value} {m : Nat} (h : ∀ x, (enc x).length = m) (l : List α) (k : Nat) : (l.flatMap enc).take (k * m) = (l.take k).flatMap enc := by
  induction l generalizing k with
  | nil => simp
  | cons x l ih =>
    cases k with
    | zero => simp
    | succ k =>
      rw [List.flatMap_cons, List.take_succ_cons, List.flatMap_cons, ← ih k, List.take_append, h x]
      have e : (k + 1) * m - m = k * m := by rw [Nat.succ_mul]; omega
      rw [e, List.take_of_length_le (by rw [h x, Nat.succ_mul]; omega)]
theorem flatMap_drop {α : Type} {enc : α → List Value} {m : Nat} (h : ∀ x, (enc x).length = m) (l : List α) (k : Nat) : (l.flatMap enc).drop (k * m) = (l.drop k).flatMap enc := by
  induction l generalizing k with
  | nil => simp
  | cons x l ih =>
    cases k with
    | zero => simp
    | succ k =>
      rw [List.flatMap_cons, List.drop_succ_cons, ← ih k, List.drop_append, h x]
      have e : (k + 1) * m - m = k * m := by rw [Nat.succ_mul]; omega
      rw [e, List.drop_of_length_le (by rw [h x, Nat.succ_mul]; omega), List.nil_append]
theorem set_perm {own : List Blks} {i : Nat} {g g' : Blks} (h : own[i]? = some g) : ((own.set i g').flatten ++ g).Perm (own.flatten ++ g') := by
  induction own generalizing i with
  | nil => cases h
  | cons a own ih =>
    cases i with
    | zero =>
      simp at h; subst h
      simp only [List.set_cons_zero, List.flatten_cons]
      refine List.perm_append_comm.trans ?_
      rw [List.append_assoc a]
      exact List.perm_append_comm.append_left a
    | succ i =>
      simp only [List.set_cons_succ, List.flatten_cons, List.append_assoc]
      exact (ih h).append_left a
theorem Wd.replace {E : Env} {ro : RO} {own : List Blks} {w : World} {i : Nat} {g g' : Blks} (hi : own[i]? = some g) (h : Wd E ro (own ++ [g']) w) : Wd E ro (own.set i g') w := by
  have hp : (own.set i g' ++ [g]).flatten.Perm (own ++ [g']).flatten := by
    simpa using set_perm (g' := g') hi
  exact (h.perm hp).drop (by simp)
theorem setRow_eq {w : World} {b : Nat} {c c' : Array Value} {T : TypeId} {fr : Nat × Nat} (h : w.heap[b]? = some (.cells c T fr)) : w.setRow b c' = World.setB w b (.cells c' T fr) := by
  unfold World.setRow World.setB
  congr 1
  apply Array.ext_getElem?
  intro k
  rw [Array.getElem?_modify, Array.getElem?_setIfInBounds]
  by_cases e : b = k
  · subst e
    have := (Array.getElem?_eq_some_iff.1 h).1
    rw [if_pos rfl, if_pos rfl, if_pos this, h]; rfl
  · simp [e]
theorem zeroCells_eq {α : Type} {enc : α → List Value} {m : Nat} (henc : ∀ x, (enc x).length = m) (hm : 0 < m) (z : Value) (z0 : α) (hz : enc z0 = z.cells.toList) (k : Nat) :
    (Builtin.zeroCells z.cells k).toList = (List.replicate k z0).flatMap enc := by
  have hzs : z.cells.size = m := by have := henc z0; rw [hz] at this; simpa using this
  apply List.ext_getElem?
  intro j
  have hl : ((List.replicate k z0).flatMap enc).length = k * m := by rw [flatMap_length henc]; simp
  by_cases hj : j < k * m
  · have h1 : (Builtin.zeroCells z.cells k).toList[j]? = some (z.cells[j % m]!) := by
      simp [Builtin.zeroCells, hzs, hj]
    have hj2 : j % m < m := Nat.mod_lt _ hm
    have hq : j / m < k := (Nat.div_lt_iff_lt_mul hm).2 hj
    have h2 : ((List.replicate k z0).flatMap enc)[j]? = (enc z0)[j % m]? := by
      have hd := flatMap_drop henc (List.replicate k z0) (j / m)
      have : ((List.replicate k z0).flatMap enc)[j]? = (((List.replicate k z0).flatMap enc).drop (j / m * m))[j % m]? := by
        rw [List.getElem?_drop]; congr 1; rw [Nat.mul_comm]; exact (Nat.div_add_mod j m).symm
      rw [this, hd, List.drop_replicate]
      obtain ⟨q, hq'⟩ : ∃ q, k - j / m = q + 1 := ⟨k - j / m - 1, by omega⟩
      rw [hq', List.replicate_succ, List.flatMap_cons, List.getElem?_append_left (by rw [henc]; exact hj2)]
    rw [h1, h2, hz]
    have : j % m < z.cells.size := by rw [hzs]; exact hj2
    simp [this]
  · rw [List.getElem?_eq_none (by simp [Builtin.zeroCells, hzs]; omega), List.getElem?_eq_none (by rw [hl]; omega)]

section
variable {P : Program} {n : Nat} {E : Env} {ρ : Fr} {ro : RO} {own : List Blks} {d : Option Tmp} {t : TypeId} {p : String} {af : Array Edge} {g : Option (Nat × Bool)}
variable {K : Value → RO → List Blks → Prop} {T e : TypeId} {m by_ : Nat} {z : Value} {α : Type} {enc : α → List Value} {xs ys : List α} {v : Value} {gr : Blks} {a2 : Option Addr} {c2 : Nat} {x y : Operand}
theorem run_appendM {w : World} (hw : Wd E ro own w) (hT : sliceOf P T = some (e, m)) (hE : elemInfo P e = some (m, by_, z)) (hm : 0 < m) (henc : ∀ x, (enc x).length = m) (hone : ∀ x, ∀ u ∈ enc x, u.oneCell' = true)
    (z0 : α) (hz : enc z0 = z.cells.toList) (hS : SlM enc e v xs gr) {ix : Nat} (hix : own[ix]? = some gr)
    (hr : ∀ (j : Nat) u, (ys.flatMap enc)[j]? = some u → ∃ b2 o2, a2 = some ⟨b2, o2, none⟩ ∧ Has ro own b2 (o2 + j) u) (hb : (xs.length + ys.length) * by_ ≤ 140737488355328) (hby : 0 < by_) (ty : TypeId) :
    ∃ v' g' w', (Builtin.append_ #[T, T] ty #[v, .slice a2 ys.length c2]).run P w = .ok v' w' ∧ SlM enc e v' (xs ++ ys) g' ∧ Wd E ro (own.set ix g') w' := by
  obtain ⟨hu, hs⟩ := sliceOf_spec hT
  obtain ⟨i, hi, hsz, hbz, hiz⟩ := elemInfo_spec hE
  have hlenm : xs.length + ys.length ≤ 140737488355328 := Nat.le_trans (Nat.le_mul_of_pos_right _ hby) hb
  have hself : own.set ix gr = own := by
    apply List.ext_getElem?; intro k; rw [List.getElem?_set]; split
    · rename_i hk; subst hk; rw [if_pos (List.getElem?_eq_some_iff.1 hix).1, hix]
    · rfl
  by_cases hy0 : ys = []
  · subst hy0
    refine ⟨v, gr, w, ?_, by simpa using hS, by rw [hself]; exact hw⟩
    have hl0 : ∀ (x : Addr), (loadCells x 0).run P w = .ok #[] w := fun x => by simpa using run_loadCells_list (P := P) w x [] (by simp)
    rcases hS with ⟨rfl, rfl, _⟩ | ⟨b, data, rfl, _, ht⟩
    · cases a2 <;> simp [Builtin.append_, run_underlying hu, sizeOf, typeInfo, hi, Builtin.lenOf, Builtin.firstCells, hl0]
    · have hle : xs.length ≤ data.length := by have := congrArg List.length ht; simp at this; omega
      cases a2 <;> simp [Builtin.append_, run_underlying hu, sizeOf, typeInfo, hi, Builtin.lenOf, Builtin.firstCells, hl0, hle, storeCells]
  · have hypos : 0 < ys.length := List.length_pos_iff.2 hy0
    have hnl : (ys.flatMap enc).length = ys.length * i.size := by rw [flatMap_length henc, hsz]
    have hnpos : 0 < (ys.flatMap enc).length := by rw [flatMap_length henc]; exact Nat.mul_pos hypos hm
    obtain ⟨b2, o2, rfl, _⟩ := hr 0 _ (List.getElem?_eq_getElem hnpos)
    have hnews : ∀ j u, (ys.flatMap enc)[j]? = some u → w.cell? ((⟨b2, o2, none⟩ : Addr).add j) = some u := fun j u hj => by
      obtain ⟨b, o, he, hh⟩ := hr j u hj
      simp at he; obtain ⟨rfl, rfl⟩ := he
      rw [Addr.add_lit]; exact hw.cell hh
    have hmk : ∀ (need old : Nat), (need : Nat) ≤ grownCap w need old e := fun need old => grownCap_ge w need old e
    have hpush : ∀ o : Obj, Wd E ro (own ++ [[(w.heap.size, o)]]) (w.drew.alloc o) := fun o => (hw.push o).heap rfl rfl rfl rfl
    rcases hS with ⟨rfl, rfl, rfl⟩ | ⟨b, data, rfl, rfl, ht⟩
    · have hrun := run_append_nil (P := P) w T ty e i z hu hi hiz ⟨b2, o2, none⟩ ys.length c2 _ hnl hnews hypos (by simp at hlenm; omega) (by simp at hb; rw [hbz]; omega)
      refine ⟨_, _, _, hrun, ?_, (hpush _).replace hix⟩
      have hge := hmk ys.length 0
      refine .inr ⟨w.heap.size, ys ++ List.replicate (grownCap w ys.length 0 e - ys.length) z0, ?_, ?_, ?_⟩
      · simp only [List.nil_append, List.length_append, List.length_replicate]; rw [Nat.add_sub_cancel' hge]
      · have : (ys.flatMap enc).toArray ++ Builtin.zeroCells z.cells (grownCap w ys.length 0 e - ys.length) = ((ys ++ List.replicate (grownCap w ys.length 0 e - ys.length) z0).flatMap enc).toArray := by
          apply Array.ext'; simp only [Array.toList_append, zeroCells_eq henc hm z z0 hz, List.flatMap_append]
        rw [this]; rfl
      · simp
    · have hle : xs.length ≤ data.length := by have := congrArg List.length ht; simp at this; omega
      have hblk : w.heap[b]? = some (arrM enc e data) := hw.has _ (mem_of_ij (j := 0) hix rfl)
      by_cases hroom : xs.length + ys.length ≤ data.length
      · have hfit : xs.length * i.size + (ys.flatMap enc).length ≤ (data.flatMap enc).toArray.size := by
          simp only [List.size_toArray, flatMap_length henc, hsz, ← Nat.add_mul]; exact Nat.mul_le_mul_right _ hroom
        have hrun := run_append_room (P := P) w T ty e i hu hi b xs.length data.length _ hblk ⟨b2, o2, none⟩ ys.length c2 _ hnl hnews (fun u hu' => by
          obtain ⟨q, _, hq⟩ := List.mem_flatMap.1 hu'; exact hone q u hq) hroom hfit
        rw [setRow_eq hblk] at hrun
        have hcells : ((data.flatMap enc).toArray.toList.take (xs.length * i.size) ++ ys.flatMap enc ++ (data.flatMap enc).toArray.toList.drop (xs.length * i.size + (ys.flatMap enc).length)) = (xs ++ ys ++ data.drop (xs.length + ys.length)).flatMap enc := by
          rw [hnl, ← Nat.add_mul, hsz]
          simp only [List.toList_toArray, flatMap_take henc, flatMap_drop henc, List.flatMap_append, ht]
        rw [hcells] at hrun
        refine ⟨_, [(b, arrM enc e (xs ++ ys ++ data.drop (xs.length + ys.length)))], _, hrun, .inr ⟨b, _, ?_, rfl, ?_⟩, ?_⟩
        · simp only [List.length_append, List.length_drop]; rw [Nat.add_sub_cancel' hroom]
        · rw [List.length_append, ← List.length_append, List.take_left]
        · have := hw.setB (o' := arrM enc e (xs ++ ys ++ data.drop (xs.length + ys.length))) hix (j := 0) rfl
          exact this
      · have holds : ∀ j u, (xs.flatMap enc)[j]? = some u → w.cell? ((⟨b, 0, none⟩ : Addr).add j) = some u := fun j u hj => by
          rw [Addr.add_lit, Nat.zero_add]
          refine cell_of hblk (cellAt_arrM ?_)
          rw [← ht, ← flatMap_take henc, List.getElem?_take] at hj
          split at hj
          · exact hj
          · cases hj
        have hrun := run_append_grow (P := P) w T ty e i z hu hi hiz ⟨b, 0, none⟩ xs.length data.length _ (by rw [flatMap_length henc, hsz]) holds ⟨b2, o2, none⟩ ys.length c2 _ hnl hnews (by omega) (by omega)
          (growslice_fits (by omega) (by rw [hbz]; exact hb))
        refine ⟨_, _, _, hrun, ?_, (hpush _).replace hix⟩
        have hge := hmk (xs.length + ys.length) data.length
        refine .inr ⟨w.heap.size, xs ++ ys ++ List.replicate (grownCap w (xs.length + ys.length) data.length e - (xs.length + ys.length)) z0, ?_, ?_, ?_⟩
        · simp only [List.length_append, List.length_replicate]; rw [Nat.add_sub_cancel' hge]
        · have : (xs.flatMap enc).toArray ++ (ys.flatMap enc).toArray ++ Builtin.zeroCells z.cells (grownCap w (xs.length + ys.length) data.length e - (xs.length + ys.length)) = ((xs ++ ys ++ List.replicate (grownCap w (xs.length + ys.length) data.length e - (xs.length + ys.length)) z0).flatMap enc).toArray := by
            apply Array.ext'; simp only [Array.toList_append, zeroCells_eq henc hm z z0 hz, List.flatMap_append, List.toList_toArray]
          rw [this]; rfl
        · rw [List.take_left]
theorem opw_appendM (ix : Nat) (hT : sliceOf P T = some (e, m)) (hE : elemInfo P e = some (m, by_, z)) (hm : 0 < m) (henc : ∀ x, (enc x).length = m) (hone : ∀ x, ∀ u ∈ enc x, u.oneCell' = true)
    (z0 : α) (hz : enc z0 = z.cells.toList) (hx : ev ρ x = v) (hS : SlM enc e v xs gr) (hix : own[ix]? = some gr) (hy : ev ρ y = .slice a2 ys.length c2)
    (hr : ∀ (j : Nat) u, (ys.flatMap enc)[j]? = some u → ∃ b2 o2, a2 = some ⟨b2, o2, none⟩ ∧ Has ro own b2 (o2 + j) u) (hb : (xs.length + ys.length) * by_ ≤ 140737488355328) (hby : 0 < by_)
    (k : ∀ v' g', SlM enc e v' (xs ++ ys) g' → K v' ro (own.set ix g')) : OpW P n E ⟨d, .call { callee := .builtin .append, args := #[x, y], argTypes := #[T, T] }, t, p, af, g⟩ K ρ ro own := OpW.of_run fun w hw => by
  obtain ⟨v', g', w', h1, h2, h3⟩ := run_appendM (c2 := c2) hw hT hE hm henc hone z0 hz hS hix hr hb hby t
  exact ⟨v', ro, _, w', by simp [execOp, resolve, invoke, builtin, hx, hy, h1], h3, k v' g' h2⟩
theorem opw_append {f : α → Value} (ix : Nat) (hT : sliceOf P T = some (e, 1)) (hE : elemInfo P e = some (1, by_, z)) (hone : ∀ x, (f x).oneCell' = true)
    (z0 : α) (hz : f z0 = z) (hx : ev ρ x = v) (hS : Sl f e v xs gr) (hix : own[ix]? = some gr) (hy : ev ρ y = .slice a2 ys.length c2)
    (hr : ∀ (j : Nat) u, ys[j]? = some u → ∃ b2 o2, a2 = some ⟨b2, o2, none⟩ ∧ Has ro own b2 (o2 + j) (f u)) (hb : (xs.length + ys.length) * by_ ≤ 140737488355328) (hby : 0 < by_)
    (k : ∀ v' g', Sl f e v' (xs ++ ys) g' → K v' ro (own.set ix g')) : OpW P n E ⟨d, .call { callee := .builtin .append, args := #[x, y], argTypes := #[T, T] }, t, p, af, g⟩ K ρ ro own := by
  have hzc : z.cells = #[f z0] := by subst hz; have := hone z0; generalize f z0 = u at *; cases u <;> first | rfl | (simp [Value.oneCell'] at this)
  refine opw_appendM (enc := fun x => [f x]) ix hT hE (by omega) (fun _ => rfl) (fun q u hu => by simp at hu; subst hu; exact hone q) z0 (by rw [hzc]) hx (Sl_iff.1 hS) hix hy (fun j u hj => ?_) hb hby (fun v' g' h => k v' g' (Sl_iff.2 h))
  rw [flatMap_one, List.getElem?_map, Option.map_eq_some_iff] at hj
  obtain ⟨q, hq, rfl⟩ := hj
  exact hr j q hq
end
end Go.Vc
