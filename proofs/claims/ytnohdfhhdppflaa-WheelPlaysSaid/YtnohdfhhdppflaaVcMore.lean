/- make, copy, bytes as a string, what is no more spoken of. Over any program. -/
import Derived.Test.YtnohdfhhdppflaaVcRowOps
namespace Go.Vc
open Go
set_option linter.unusedVariables false
set_option linter.unusedSimpArgs false

section
variable {P : Program} {n : Nat} {E : Env} {Q : Post} {ρ : Fr} {ro : RO} {own : List Blks} {all : Array Oper} {l : List Oper} {c : Code}
theorem Wd.erase {w : World} (h : Wd E ro own w) (i : Nat) : Wd E ro (own.eraseIdx i) w := by
  have hp : ([own.getD i []] ++ own.eraseIdx i).flatten.Perm own.flatten := by simpa using erase_perm own i
  exact (h.perm hp).drop (by simp)
/-- A group that is no more spoken of. -/
theorem wl_erase (i : Nat) (h : WL P n E all l Q ρ ro (own.eraseIdx i)) : WL P n E all l Q ρ ro own := fun a w ha hw =>
  h a w ha (hw.erase i)
theorem w_erase (i : Nat) (h : W P n E c Q ρ ro (own.eraseIdx i)) : W P n E c Q ρ ro own := fun a w ha hw =>
  h a w ha (hw.erase i)
theorem wl_perm {own' : List Blks} (hp : own'.flatten.Perm own.flatten) (h : WL P n E all l Q ρ ro own') : WL P n E all l Q ρ ro own := fun a w ha hw => h a w ha (hw.perm hp)
theorem w_perm {own' : List Blks} (hp : own'.flatten.Perm own.flatten) (h : W P n E c Q ρ ro own') : W P n E c Q ρ ro own := fun a w ha hw => h a w ha (hw.perm hp)
/-- A group of one's own that is from now on only read. -/
theorem Wd.toRo {w : World} (h : Wd E ro own w) {i : Nat} {g : Blks} (hi : own[i]? = some g) : Wd E (g.map (fun x => (x.1, fun o => o = x.2)) ++ ro) (own.eraseIdx i) w := by
  have hd := h.erase i
  have hp := erase_perm own i
  rw [List.getD_eq_getElem?_getD, hi, Option.getD_some] at hp
  have hn : (g.map (·.1) ++ keysOf (own.eraseIdx i)).Nodup := by
    have hp' := hp.map (·.1)
    rw [List.map_append] at hp'
    exact hp'.nodup_iff.2 h.nodup
  refine { hd with hasRo := fun x hx => ?_, apart := fun x hx hm => ?_ }
  · rcases List.mem_append.1 hx with hx | hx
    · obtain ⟨y, hy, rfl⟩ := List.mem_map.1 hx
      exact ⟨y.2, h.has y (hp.subset (List.mem_append_left _ hy)), rfl⟩
    · exact h.hasRo x hx
  · rcases List.mem_append.1 hx with hx | hx
    · obtain ⟨y, hy, rfl⟩ := List.mem_map.1 hx
      exact (List.nodup_append.1 hn).2.2 y.1 (List.mem_map.2 ⟨y, hy, rfl⟩) y.1 hm rfl
    · exact hd.apart x hx hm
end

/-- Readable: the cells of a slice at this address. -/
def Rd {α : Type} (f : α → Value) (a : Option Addr) (xs : List α) (ro : RO) (own : List Blks) : Prop :=
  ∀ (i : Nat) x, xs[i]? = some x → ∃ b off, a = some ⟨b, off, none⟩ ∧ Has ro own b (off + i) (f x)
theorem SlR.rd {α : Type} {f : α → Value} {a : Option Addr} {n c : Nat} {xs : List α} {ro : RO} (h : SlR f (.slice a n c) xs ro) (own : List Blks) : Rd f a xs ro own := fun i x hi => by
  obtain ⟨b, off, rfl, hh⟩ := h.addr (by have := (List.getElem?_eq_some_iff.1 hi).1; omega)
  exact ⟨b, off, rfl, hh i x own hi⟩
theorem Rd.of {α : Type} {f : α → Value} {b off : Nat} {xs : List α} {ro : RO} {own : List Blks} (h : ∀ (i : Nat) x, xs[i]? = some x → Has ro own b (off + i) (f x)) : Rd f (some ⟨b, off, none⟩) xs ro own :=
  fun i x hi => ⟨b, off, rfl, h i x hi⟩
/-- A part of a block of one's own. -/
theorem Rd.arr {α : Type} {f : α → Value} {T : TypeId} {b off : Nat} {xs data : List α} {ro : RO} {own : List Blks} (i j : Nat) (h : (own[i]?).bind (·[j]?) = some (b, arr f T data)) (hx : ∀ k, k < xs.length → data[off + k]? = xs[k]?) :
    Rd f (some ⟨b, off, none⟩) xs ro own := Rd.of fun k x hk => Has.own i j h (cellAt_arr ((hx k (List.getElem?_eq_some_iff.1 hk).1).trans hk))
theorem Sl.rd {α : Type} {f : α → Value} {T : TypeId} {a : Option Addr} {n c : Nat} {xs : List α} {g : Blks} {ro : RO} {own : List Blks} (h : Sl f T (.slice a n c) xs g) {i : Nat} (hi : own[i]? = some g) : Rd f a xs ro own := fun k x hk => by
  have hl := (List.getElem?_eq_some_iff.1 hk).1
  obtain ⟨b, data, rfl, _, rfl, ht⟩ := h.addr (by omega)
  refine ⟨b, 0, rfl, Has.own i 0 (by rw [hi]; rfl) (cellAt_arr ?_)⟩
  have e : (data.take xs.length)[k]? = data[k]? := by rw [List.getElem?_take, if_pos hl]
  rw [ht] at e
  rw [Nat.zero_add, ← e]; exact hk
def vstr (xs : List (BitVec 8)) : Value := .string (strOfNums (xs.map fun x => (x.toNat : Int)))

section
variable {P : Program} {n : Nat} {E : Env} {ρ : Fr} {ro : RO} {own : List Blks} {d : Option Tmp} {t : TypeId} {p : String} {af : Array Edge} {g : Option (Nat × Bool)}
variable {K : Value → RO → List Blks → Prop} {T T' e : TypeId} {m by_ : Nat} {z : Value} {x y : Operand} {a : Option Addr} {c : Nat}
theorem opw_make {α : Type} {f : α → Value} {kl kc : IntKind} {l : Int} (hT : sliceOf P T = some (e, 1)) (hE : elemInfo P e = some (1, by_, z)) (z0 : α) (hz : f z0 = z) (hone : z.oneCell' = true)
    (hx : ev ρ x = .int kl l) (hy : ev ρ y = .int kc l) (h0 : 0 ≤ l) (hb : (by_ : Int) * l ≤ 281474976710656) (h63 : l ≤ 9223372036854775807)
    (k : ∀ nb, K (.slice (some ⟨nb, 0, none⟩) l.toNat l.toNat) ro (own ++ [[(nb, arr f e (List.replicate l.toNat z0))]])) :
    OpW P n E ⟨d, .makeSlice T x y, t, p, af, g⟩ K ρ ro own := opw_row (fun w => by
  obtain ⟨hu, hs⟩ := sliceOf_spec hT
  obtain ⟨i, hi, hsz, hbz, hiz⟩ := elemInfo_spec hE
  have hzc : z.cells = #[z] := by cases z <;> first | rfl | (simp [Value.oneCell'] at hone)
  have := run_make (P := P) w T e i z hu hi hiz kl kc l l h0 (Int.le_refl _) (by rw [hbz]; exact hb) h63
  have hc : madeCells z.cells (l.toNat * i.size) = ((List.replicate l.toNat z0).map f).toArray := by
    rw [hsz, Nat.mul_one, hzc]
    apply Array.ext'
    simp only [madeCells, Array.toList_map, Array.toList_range, List.map_replicate, hz]
    apply List.ext_getElem?
    intro j
    by_cases hj : j < l.toNat
    · simp [hj, Nat.mod_one]
    · simp [hj]
  rw [hc] at this
  simp only [execOp, hx, hy, Sem.run_bind, this]
  rfl) k
theorem run_bytes_rd {w : World} (hw : Wd E ro own w) {xs : List (BitVec 8)} (hs : P.underlying T = some (.slice e)) (he : P.underlying e = some (.int .u8)) (hd : P.underlying T' = some .string) (hr : Rd v8 a xs ro own) :
    (convert T T' (.slice a xs.length c)).run P w = .ok (vstr xs) w := by
  rcases Nat.eq_zero_or_pos xs.length with h0 | h0
  · have : xs = [] := List.eq_nil_of_length_eq_zero h0
    subst this
    rw [run_convert_bytes_string w T T' e _ _ c hs he hd]
    cases a with
    | none => simp [Conv.bytesToString]; rfl
    | some ad =>
      have hl0 : (loadCells ad 0).run P w = .ok #[] w := by simpa using run_loadCells_list (P := P) w ad [] (by simp)
      simp [Conv.bytesToString, hl0]; rfl
  · obtain ⟨b, off, rfl, _⟩ := hr 0 _ (List.getElem?_eq_getElem h0)
    refine run_convert_bytes_arg (P := P) w T e hs he b off xs.length c (xs.map fun x => (x.toNat : Int)) (by simp) (fun i hi => ?_) T' hd
    obtain ⟨b', off', he', hh⟩ := hr i _ (List.getElem?_eq_getElem hi)
    simp at he'; obtain ⟨rfl, rfl⟩ := he'
    rw [hw.cell hh]
    simp [List.getD, List.getElem?_eq_getElem hi, v8]
theorem opw_str {xs : List (BitVec 8)} {len : Nat} (hs : P.underlying T = some (.slice e)) (he : P.underlying e = some (.int .u8)) (hd : P.underlying T' = some .string) (hx : ev ρ x = .slice a len c) (hl : len = xs.length) (hr : Rd v8 a xs ro own)
    (k : K (vstr xs) ro own) : OpW P n E ⟨d, .convert T T' x, t, p, af, g⟩ K ρ ro own := OpW.of_run fun w hw => by
  subst hl
  exact ⟨_, ro, own, w, by simp [execOp, hx, run_bytes_rd hw hs he hd hr], hw, k⟩
/-- copy into an owned row. -/
theorem opw_copy {α : Type} {f : α → Value} {data ys : List α} {b o dl dc : Nat} {T2 : TypeId} (i : Nat) (hT : sliceOf P T = some (e, 1)) (hone : ∀ x, (f x).oneCell' = true) (hx : ev ρ x = .slice (some ⟨b, o, none⟩) dl dc) (hi : own[i]? = some [(b, arr f e data)])
    (hy : ev ρ y = .slice a ys.length c) (hr : Rd f a ys ro own) (hfit : o + min ys.length dl ≤ data.length)
    (k : K (.int .i64 (min ys.length dl : Nat)) ro (own.set i [(b, arr f e (data.take o ++ ys.take (min ys.length dl) ++ data.drop (o + min ys.length dl)))])) :
    OpW P n E ⟨d, .call { callee := .builtin .copy, args := #[x, y], argTypes := #[T, T2] }, t, p, af, g⟩ K ρ ro own := OpW.of_run fun w hw => by
  obtain ⟨hu, hs⟩ := sliceOf_spec hT
  have hblk : w.heap[b]? = some (arr f e data) := hw.has _ (mem_of_ij (j := 0) hi rfl)
  have hs1 : (P.info? e).map (·.size) = some 1 := hs
  have hself : own.set i [(b, arr f e data)] = own := by
    apply List.ext_getElem?; intro k; rw [List.getElem?_set]; split
    · rename_i hk; subst hk; rw [if_pos (List.getElem?_eq_some_iff.1 hi).1, hi]
    · rfl
  rcases Nat.eq_zero_or_pos (min ys.length dl) with h0 | h0
  · refine ⟨_, ro, _, w, ?_, ?_, k⟩
    · have := run_copy_none (P := P) w T T2 t e (some ⟨b, o, none⟩) a dl dc ys.length c hu hs1 h0
      simp [execOp, resolve, invoke, builtin, hx, hy, this, h0, goInt]
    · rw [h0]; simp [hself]; exact hw
  · obtain ⟨b2, o2, rfl, _⟩ := hr 0 _ (List.getElem?_eq_getElem (by omega))
    have hn : ((ys.take (min ys.length dl)).map f).length = Nat.min ys.length dl := by
      rw [List.length_map, List.length_take]; exact Nat.min_eq_left (Nat.min_le_left _ _)
    have := run_copy_row (P := P) w T T2 t e b o dl dc ⟨b2, o2, none⟩ ys.length c _ e ((ys.take (min ys.length dl)).map f) hu hs1 hblk hn (fun j u hj => by
      rw [Addr.add_lit]
      rw [List.getElem?_map, Option.map_eq_some_iff] at hj
      obtain ⟨q, hq, rfl⟩ := hj
      rw [List.getElem?_take] at hq
      split at hq
      · obtain ⟨b', o', he', hh⟩ := hr j q hq
        simp at he'; obtain ⟨rfl, rfl⟩ := he'
        exact hw.cell hh
      · cases hq) (by rw [hn]; simpa using hfit) (fun u hu => by obtain ⟨q, _, rfl⟩ := List.mem_map.1 hu; exact hone q)
    rw [setRow_eq hblk, hn] at this
    have hcells : (data.map f).toArray.toList.take o ++ (ys.take (min ys.length dl)).map f ++ (data.map f).toArray.toList.drop (o + Nat.min ys.length dl) = (data.take o ++ ys.take (min ys.length dl) ++ data.drop (o + min ys.length dl)).map f := by
      simp only [List.toList_toArray, List.map_append, List.map_take, List.map_drop]
      try rfl
    rw [hcells] at this
    have hset := hw.setB (o' := arr f e (data.take o ++ ys.take (min ys.length dl) ++ data.drop (o + min ys.length dl))) hi (j := 0) rfl
    exact ⟨_, ro, _, _, by simp only [execOp, resolve, invoke, builtin, Sem.run_bind, Sem.run_pure, Result.andThen_ok, List.map_toArray, List.map_cons, List.map_nil, hx, hy, this]; rfl, hset, k⟩
/-- A store, what the block is behind it said. -/
theorem opw_storeO {b off : Nat} {v : Value} {gr : Blks} {cs : Array Value} {T0 : TypeId} {fr : Nat × Nat} (o' : Obj) (i j : Nat) (hm : sz P T = some 1) (hx : ev ρ x = .pointer (some ⟨b, off, none⟩)) (hy : ev ρ y = v) (hv : v.oneCell' = true) (hi : own[i]? = some gr) (hj : gr[j]? = some (b, .cells cs T0 fr))
    (ho : off < cs.size) (hf : noFr fr off 1) (he : .cells (cs.setIfInBounds off v) T0 fr = o') (k : K undef ro (own.set i (gr.set j (b, o')))) :
    OpW P n E ⟨d, .store T x y, t, p, af, g⟩ K ρ ro own := opw_store i j hm hx hy hv hi hj ho hf (by rw [he]; exact k)
/-- A store into a row of one cell an element. -/
theorem opw_storeArr {α : Type} {f : α → Value} {l : List α} {b k : Nat} {q : α} {gr : Blks} (k' : Nat) (i j : Nat) (hm : sz P T = some 1) (hx : ev ρ x = .pointer (some ⟨b, k, none⟩)) (hy : ev ρ y = f q) (hone : (f q).oneCell' = true) (hi : own[i]? = some gr) (hj : gr[j]? = some (b, arr f e l))
    (hkk : k = k') (hk : k' < l.length) (kk : K undef ro (own.set i (gr.set j (b, arr f e (l.set k' q))))) : OpW P n E ⟨d, .store T x y, t, p, af, g⟩ K ρ ro own := by
  subst hkk
  have he : Obj.cells ((l.map f).toArray.setIfInBounds k (f q)) e (0, 0) = arr f e (l.set k q) := by
    unfold arr; rw [List.setIfInBounds_toArray, List.map_set]
  exact opw_store i j hm hx hy hone hi hj (by simpa using hk) (noFr_zero _ _) (by rw [he]; exact kk)
theorem opw_buildSlice0 {m : Nat} (hT : P.underlying T = some (.slice e)) (hs : sz P e = some m) (k : ∀ nb, K (.slice (some ⟨nb, 0, none⟩) 0 0) ro (own ++ [[(nb, .cells #[] e (0, 0))]])) :
    OpW P n E ⟨d, .buildSlice T 0 #[], t, p, af, g⟩ K ρ ro own := opw_row (fun w => by
  simp only [execOp, Instr.buildSlice, Sem.run_bind, run_underlying hT, run_sizeOf_sz hs, Result.andThen_ok]
  simp [Instr.fill, newRow]
  congr 3
  simp [Array.range]) k
def enumV : Nat → List Value → List (Nat × Value)
  | _, [] => []
  | i, v :: r => (i, v) :: enumV (i + 1) r
theorem fill_row (r : List Value) (h1 : ∀ v ∈ r, v.oneCell' = true) : ∀ (pre : List Value) (tl : List Value), tl.length = r.length →
    Instr.fill (fun i => some (i * 1, 1)) (pre ++ tl).toArray (enumV pre.length r) = some (pre ++ r).toArray := by
  induction r with
  | nil => intro pre tl h; have : tl = [] := List.eq_nil_of_length_eq_zero (by simpa using h); subst this; simp [enumV, Instr.fill]
  | cons v r ih =>
    intro pre tl h
    cases tl with
    | nil => simp at h
    | cons t tl =>
      have hv := h1 v (List.mem_cons_self ..)
      have hc : v.cells = #[v] := by cases v <;> first | rfl | (simp [Value.oneCell'] at hv)
      have ih' := ih (fun u hu => h1 u (List.mem_cons_of_mem _ hu)) (pre ++ [v]) tl (by simpa using h)
      simp only [List.length_append, List.length_cons, List.length_nil, Nat.zero_add, List.append_assoc, List.cons_append, List.nil_append] at ih'
      simp only [Nat.mul_one] at ih'
      simp only [enumV, Instr.fill, hc, Nat.mul_one]
      rw [if_neg (by simp)]
      simp [List.set_append, ih']
theorem opw_buildRow {α : Type} {f : α → Value} {len : Nat} {parts : Array (Nat × Operand)} {zv : Value} (xs : List α) (hT : P.underlying T = some (.slice e)) (hs : sz P e = some 1) (hz : zeroOf P e = some zv) (hzo : zv.oneCell' = true) (hlen : len = xs.length) (hl : len ≤ 1000)
    (hparts : (parts.toList.map fun x => (x.1, ev ρ x.2)) = enumV 0 (xs.map f)) (hone : ∀ x, (f x).oneCell' = true) (k : ∀ nb, K (.slice (some ⟨nb, 0, none⟩) xs.length xs.length) ro (own ++ [[(nb, arr f e xs)]])) :
    OpW P n E ⟨d, .buildSlice T len parts, t, p, af, g⟩ K ρ ro own := by
  subst hlen
  have hzc : zv.cells = #[zv] := by cases zv <;> first | rfl | (simp [Value.oneCell'] at hzo)
  refine opw_buildSlice hT hs hz (by omega) (cells := (xs.map f).toArray) ?_ k
  have hp : (parts.map fun x => (x.1, ev ρ x.2)).toList = enumV 0 (xs.map f) := by simpa using hparts
  rw [hp, Nat.mul_one]
  have := fill_row (xs.map f) (fun v hv => by obtain ⟨q, _, rfl⟩ := List.mem_map.1 hv; exact hone q) [] ((Array.range xs.length).map (zv.cells[· % zv.cells.size]!)).toList (by simp)
  rw [List.nil_append, List.nil_append, Array.toArray_toList] at this
  exact this
end
end Go.Vc
