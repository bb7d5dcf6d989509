/- Arrays of words: their values, their blocks. -/
import Derived.Test.YtnohdfhhdppflaaVcExt
namespace Go.Vc
open Go
set_option linter.unusedVariables false
set_option linter.unusedSimpArgs false
theorem baToList_loop (bs : ByteArray) : ∀ (m i : Nat) (r : List UInt8), bs.size - i = m → ByteArray.toList.loop bs i r = r.reverse ++ bs.data.toList.drop i := by
  intro m
  induction m with
  | zero =>
    intro i r h
    unfold ByteArray.toList.loop
    rw [if_neg (by omega), List.drop_of_length_le (by show bs.data.toList.length ≤ i; rw [Array.length_toList]; show bs.size ≤ i; omega)]; simp
  | succ m ih =>
    intro i r h
    unfold ByteArray.toList.loop
    have hi : i < bs.data.toList.length := by rw [Array.length_toList]; show i < bs.size; omega
    rw [if_pos (by omega), ih (i + 1) _ (by omega), List.reverse_cons, List.append_assoc, List.drop_eq_getElem_cons hi]
    congr 2
    have hi' : i < bs.data.size := by rwa [Array.length_toList] at hi
    simp only [ByteArray.get!, Array.getElem_toList]
    rw [getElem!_pos bs.data i hi']; rfl
theorem baToList (bs : ByteArray) : bs.toList = bs.data.toList := by
  unfold ByteArray.toList; rw [baToList_loop bs _ 0 [] rfl]; simp
theorem strNums_eq (xs ys : List (BitVec 8)) : ((strOfNums (xs.map fun x => (x.toNat : Int))).toList == (strOfNums (ys.map fun x => (x.toNat : Int))).toList) = decide (xs = ys) := by
  rw [baToList, baToList, strOfNums_data, strOfNums_data, List.map_map, List.map_map]
  rw [Bool.eq_iff_iff, beq_iff_eq, decide_eq_true_iff]
  constructor
  · intro h
    refine List.map_inj_right (f := (fun n : Int => UInt8.ofNat n.toNat) ∘ fun x : BitVec 8 => (x.toNat : Int)) (fun x y hxy => ?_) |>.1 h
    have := congrArg UInt8.toNat hxy
    simp only [Function.comp, Int.toNat_natCast, UInt8.toNat_ofNat'] at this
    apply BitVec.eq_of_toNat_eq
    have h1 := x.isLt; have h2 := y.isLt
    omega
  · intro h; rw [h]
section
variable {P : Program} {ρ : Fr} {T T' : TypeId} {x y : Operand}
theorem pv_vstr_eql {xs ys : List (BitVec 8)} (hx : ev ρ x = vstr xs) (hy : ev ρ y = vstr ys) : PV P (.binOp .eql T x y T') ρ (.bool (decide (xs = ys))) := by
  have := pv_str_eql (P := P) (T := T) (T' := T') hx hy
  rwa [strNums_eq] at this
theorem pv_vstr_neq {xs ys : List (BitVec 8)} (hx : ev ρ x = vstr xs) (hy : ev ρ y = vstr ys) : PV P (.binOp .neq T x y T') ρ (.bool (decide (xs ≠ ys))) := by
  have := pv_str_neq (P := P) (T := T) (T' := T') hx hy
  rw [strNums_eq] at this
  rwa [show (decide (xs ≠ ys)) = !(decide (xs = ys)) by simp]
theorem pv_vstr_neq_e {xs ys : List (BitVec 8)} (hx : ev ρ x = vstr xs) (hy : ev ρ y = vstr ys) (h : xs = ys) : PV P (.binOp .neq T x y T') ρ (.bool false) := by
  have := pv_vstr_neq (P := P) (T := T) (T' := T') hx hy
  rwa [decide_eq_false (fun hh => hh h)] at this
theorem pv_vstr_eql_e {xs ys : List (BitVec 8)} (hx : ev ρ x = vstr xs) (hy : ev ρ y = vstr ys) (h : xs = ys) : PV P (.binOp .eql T x y T') ρ (.bool true) := by
  have := pv_vstr_eql (P := P) (T := T) (T' := T') hx hy
  rwa [decide_eq_true h] at this
theorem pv_neq_e {k : IntKind} {a b : Int} (hx : ev ρ x = .int k a) (hy : ev ρ y = .int k b) (h : a = b) : PV P (.binOp .neq T x y T') ρ (.bool false) := by
  have := pv_neq (P := P) (T := T) (T' := T') hx hy
  rwa [decide_eq_false (fun hh => hh h)] at this
theorem pv_eql_e {k : IntKind} {a b : Int} (hx : ev ρ x = .int k a) (hy : ev ρ y = .int k b) (h : a = b) : PV P (.binOp .eql T x y T') ρ (.bool true) := by
  have := pv_eql (P := P) (T := T) (T' := T') hx hy
  rwa [decide_eq_true h] at this
theorem pv_neq_t {k : IntKind} {a b : Int} (hx : ev ρ x = .int k a) (hy : ev ρ y = .int k b) (h : a ≠ b) : PV P (.binOp .neq T x y T') ρ (.bool true) := by
  have := pv_neq (P := P) (T := T) (T' := T') hx hy
  rwa [decide_eq_true h] at this
theorem pv_urem {a b : Nat} (hx : ev ρ x = .int .u64 (a : Int)) (hy : ev ρ y = .int .u64 (b : Int)) (h : 0 < b) : PV P (.binOp .rem T x y T') ρ (.int .u64 ((a % b : Nat) : Int)) := by
  have := pv_rem (P := P) (T := T) (T' := T') hx hy (by omega)
  rwa [show ((a : Int).tmod (b : Int)) = ((a % b : Nat) : Int) by rw [Int.tmod_eq_emod_of_nonneg (by omega)]; rfl] at this
theorem pvc_u_i {a : Nat} {d : TypeDesc} (hs : P.underlying T = some d) (hd : P.underlying T' = some (.int .i64)) (hx : ev ρ x = .int .u64 (a : Int)) (h : a ≤ 9223372036854775807) : PV P (.convert T T' x) ρ (.int .i64 a) := by
  have := pv_conv (P := P) (T := T) (T' := T') hs hd hx
  rwa [wrap_i64 (by omega) (by omega)] at this
theorem Rd.cut {α : Type} {f : α → Value} {a : Option Addr} {c : Nat} {xs : List α} {ro : RO} {own : List Blks} (h : Rd f a xs ro own) {l m : Nat} (hl : l ≤ m) (hm : m ≤ xs.length) (hc : xs.length ≤ c) : Rd f (cutAddr a l 1 c) ((xs.drop l).take (m - l)) ro own := fun i x hi => by
  rw [List.getElem?_take] at hi
  split at hi
  · rw [List.getElem?_drop] at hi
    obtain ⟨b, off, rfl, hh⟩ := h (l + i) x hi
    refine ⟨b, off + l, ?_, by rw [Nat.add_assoc]; exact hh⟩
    rw [cutAddr_some, if_neg (by omega), Nat.mul_one]
  · cases hi
end
def agv {α : Type} (f : α → Value) (l : List α) : Value := .agg (l.map f).toArray
theorem SlR.len {α : Type} {f : α → Value} {a : Option Addr} {n c : Nat} {xs : List α} {ro : RO} (h : SlR f (.slice a n c) xs ro) : n = xs.length ∧ n ≤ c ∨ n = xs.length ∧ xs = [] := by
  rcases h with ⟨rfl, a', c', h⟩ | ⟨b, off, c', p, h, hc, hmem, hp⟩
  · simp only [Value.slice.injEq] at h; exact .inr ⟨h.2.1, rfl⟩
  · simp only [Value.slice.injEq] at h; exact .inl ⟨h.2.1, by omega⟩
theorem SlR.take' {α : Type} {f : α → Value} {a : Option Addr} {n c : Nat} {xs : List α} {ro : RO} (h : SlR f (.slice a n c) xs ro) {m : Nat} (hm : m ≤ xs.length) : SlR f (.slice a m c) (xs.take m) ro := by
  rcases h with ⟨rfl, a', c', h⟩ | ⟨b, off, c', p, h, hc, hmem, hp⟩
  · simp at hm; subst hm; exact SlR.nil _ _
  · simp only [Value.slice.injEq] at h
    obtain ⟨rfl, rfl, rfl⟩ := h
    have hlen : (xs.take m).length = m := by simp; omega
    refine .inr ⟨b, off, c, p, by rw [hlen], by rw [hlen]; omega, hmem, fun o ho i x hi => ?_⟩
    rw [List.getElem?_take] at hi
    split at hi
    · exact hp o ho i x hi
    · cases hi
theorem SlR.drop' {α : Type} {f : α → Value} {a : Option Addr} {n c : Nat} {xs : List α} {ro : RO} (h : SlR f (.slice a n c) xs ro) {l : Nat} (hl : l ≤ xs.length) : SlR f (.slice (cutAddr a l 1 c) (n - l) (c - l)) (xs.drop l) ro := by
  have := h.cut hl (Nat.le_refl _)
  rw [List.take_of_length_le (by simp)] at this
  have hn : n = xs.length := by rcases h.len with h | h <;> exact h.1
  rwa [hn]
section
variable {P : Program} {n : Nat} {E : Env} {ρ : Fr} {ro : RO} {own : List Blks} {d : Option Tmp} {t : TypeId} {p : String} {af : Array Edge} {g : Option (Nat × Bool)}
variable {K : Value → RO → List Blks → Prop} {T T' : TypeId} {x y : Operand} {b off : Nat} {gr : Blks} {α : Type} {f : α → Value}
theorem pv_ineg {a : Int} (hx : ev ρ x = .int .i64 a) (h : -9223372036854775807 ≤ a ∧ a ≤ 9223372036854775807) : PV P (.unOp .neg T x) ρ (.int .i64 (-a)) := by
  have := pv_neg (P := P) (T := T) hx
  rwa [show IntKind.i64.wrap (0 - a) = -a by rw [Int.zero_sub]; simp [IntKind.wrap, IntKind.bits, IntKind.signed]; omega] at this
theorem hasRow {T' : TypeId} {l : List α} (i j : Nat) (h : (own[i]?).bind (·[j]?) = some (b, arr f T' l)) : ∀ (k : Nat) u, (l.map f)[k]? = some u → Has ro own b (0 + k) u := fun k u hu => by
  rw [List.getElem?_map] at hu
  cases hl : l[k]? with
  | none => rw [hl] at hu; cases hu
  | some q => rw [hl] at hu; cases hu; exact Has.own i j h (by rw [Nat.zero_add]; exact cellAt_arr hl)
theorem holdRow {T' : TypeId} {l : List α} {bl : Blks} {own : List Blks} (j : Nat) (h : bl[j]? = some (b, arr f T' l)) : ∀ (k : Nat) u, (l.map f)[k]? = some u → Has (hold bl) own b (0 + k) u := fun k u hu => by
  rw [List.getElem?_map] at hu
  cases hl : l[k]? with
  | none => rw [hl] at hu; cases hu
  | some q => rw [hl] at hu; cases hu; exact Has.hold j h (by rw [Nat.zero_add]; exact cellAt_arr hl)
theorem opw_loadRow {m : Nat} {l : List α} (i j : Nat) (hT : isMany P T = true) (hm : sz P T = some m) (hl : l.length = m) (hx : ev ρ x = .pointer (some ⟨b, 0, none⟩)) (h : (own[i]?).bind (·[j]?) = some (b, arr f T' l)) (k : K (agv f l) ro own) :
    OpW P n E ⟨d, .load T x, t, p, af, g⟩ K ρ ro own := opw_loadA hT hm (by simpa using hl) hx (hasRow i j h) k
theorem splice_row (r : List Value) : ∀ (pre tl : List Value), tl.length = r.length → splice (pre ++ tl).toArray pre.length r = (pre ++ r).toArray := by
  induction r with
  | nil => intro pre tl h; have : tl = [] := List.eq_nil_of_length_eq_zero (by simpa using h); subst this; rfl
  | cons v r ih =>
    intro pre tl h
    cases tl with
    | nil => simp at h
    | cons t tl =>
      have := ih (pre ++ [v]) tl (by simpa using h)
      simp only [List.length_append, List.length_cons, List.length_nil, Nat.zero_add, List.append_assoc, List.cons_append, List.nil_append] at this
      simp only [splice]
      rw [← this]
      congr 1
      simp [List.set_append]
theorem opw_storeRow {m : Nat} {l l' : List α} (i j : Nat) (hm : sz P T = some m) (hlm : l'.length = m) (hone : ∀ q, (f q).oneCell' = true) (hx : ev ρ x = .pointer (some ⟨b, 0, none⟩)) (hy : ev ρ y = agv f l') (hi : own[i]? = some gr) (hj : gr[j]? = some (b, arr f T' l)) (hl : l.length = m)
    (k : K undef ro (own.set i (gr.set j (b, arr f T' l')))) : OpW P n E ⟨d, .store T x y, t, p, af, g⟩ K ρ ro own := by
  subst hlm
  refine opw_storeA i j (cs := (l'.map f).toArray) (c := (l.map f).toArray) (T' := T') (fr := (0, 0)) (by simpa using hm) hx hy (by intro u hu; obtain ⟨q, _, rfl⟩ := List.mem_map.1 hu; exact hone q) hi hj (by simp; omega) (noFr_zero _ _) ?_
  have := splice_row (l'.map f) [] (l.map f) (by simp [hl])
  simp only [List.nil_append, List.length_nil] at this
  rw [this]; exact k
theorem opw_allocRow (l : List α) (hz : zeroOf P T = some (agv f l)) (k : ∀ nb, K (.pointer (some ⟨nb, 0, none⟩)) ro (own ++ [[(nb, arr f T l)]])) :
    OpW P n E ⟨d, .alloc T, t, p, af, g⟩ K ρ ro own := opw_alloc hz k
theorem opw_boxRow {l : List α} (hx : ev ρ x = agv f l) (k : ∀ nb, K (.pointer (some ⟨nb, 0, none⟩)) ro (own ++ [[(nb, arr f T l)]])) :
    OpW P n E ⟨d, .box T x, t, p, af, g⟩ K ρ ro own := opw_box (fun nb => by rw [hx]; exact k nb)
theorem pv_indexRow {e : TypeId} {len : Nat} {kk : IntKind} {i : Int} {l : List α} {q : α} (hT : P.underlying T = some (.array len e)) (hs : sz P e = some 1) (ho : isOne P e = true) (hx : ev ρ x = agv f l) (hi : ev ρ y = .int kk i) (h0 : 0 ≤ i) (h1 : i < len) (hv : l[i.toNat]? = some q) :
    PV P (.index T x y) ρ (f q) := pv_index hT hs ho hx hi h0 h1 (by simp [hv])
theorem pv_build_row {e : TypeId} {len : Nat} {parts : Array (Nat × Operand)} {z : List α} (l : List α) (hT : P.underlying T = some (.array len e)) (hs : sz P e = some 1) (hz : zeroOf P T = some (agv f z))
    (hparts : (parts.toList.map fun x => (x.1, ev ρ x.2)) = enumV 0 (l.map f)) (hzl : z.length = l.length) (hone : ∀ q, (f q).oneCell' = true) : PV P (.build T parts) ρ (agv f l) := by
  refine pv_build_arr hT hs hz ?_
  rw [Array.toList_map, hparts]
  have := fill_row (l.map f) (fun v hv => by obtain ⟨q, _, rfl⟩ := List.mem_map.1 hv; exact hone q) [] (z.map f) (by simp [hzl])
  simpa [agv, Value.cells] using this
theorem res_row {m : Nat} {a : Tmp} {l : List α} (i j : Nat) (ha : ρ a = .pointer (some ⟨b, 0, none⟩)) (hT : isMany P T = true) (hm : sz P T = some m) (hl : l.length = m) (h : (own[i]?).bind (·[j]?) = some (b, arr f T' l)) :
    Res P [.cell a T] ρ ro own (agv f l) := ⟨b, 0, l.map f, m, ha, hT, hm, by simpa using hl, rfl, hasRow i j h⟩
theorem hasCells {cs : List Value} {T' : TypeId} {fr : Nat × Nat} (i j : Nat) (h : (own[i]?).bind (·[j]?) = some (b, .cells cs.toArray T' fr)) : ∀ (k : Nat) u, cs[k]? = some u → Has ro own b (0 + k) u := fun k u hu =>
  Has.own i j h (by rw [Nat.zero_add]; simp [cellAt, hu])
theorem res_cell {m : Nat} {a : Tmp} {T' : TypeId} {fr : Nat × Nat} (cs : List Value) (i j : Nat) (ha : ρ a = .pointer (some ⟨b, 0, none⟩)) (hT : isMany P T = true) (hm : sz P T = some m) (hl : cs.length = m) (h : (own[i]?).bind (·[j]?) = some (b, .cells cs.toArray T' fr)) :
    Res P [.cell a T] ρ ro own (.agg cs.toArray) := ⟨b, 0, cs, m, ha, hT, hm, hl, rfl, hasCells i j h⟩
theorem res_cell2 {m : Nat} {a t : Tmp} {T' : TypeId} {fr : Nat × Nat} {v : Value} (cs : List Value) (i j : Nat) (ha : ρ a = .pointer (some ⟨b, 0, none⟩)) (hT : isMany P T = true) (hm : sz P T = some m) (hl : cs.length = m) (h : (own[i]?).bind (·[j]?) = some (b, .cells cs.toArray T' fr)) (hv : ρ t = v) :
    Res P [.cell a T, .tmp t] ρ ro own (.tuple #[.agg cs.toArray, v]) := ⟨b, 0, cs, m, ha, hT, hm, hl, by rw [hv], hasCells i j h⟩
theorem holdCells {cs : List Value} {T' : TypeId} {fr : Nat × Nat} {bl : Blks} {own : List Blks} (j : Nat) (h : bl[j]? = some (b, .cells cs.toArray T' fr)) : ∀ (k : Nat) u, cs[k]? = some u → Has (hold bl) own b (0 + k) u := fun k u hu =>
  Has.hold j h (by rw [Nat.zero_add]; simp [cellAt, hu])
theorem opw_loadS {m : Nat} {cs : List Value} {T' : TypeId} {fr : Nat × Nat} (i j : Nat) (hT : isMany P T = true) (hm : sz P T = some m) (hx : ev ρ x = .pointer (some ⟨b, 0, none⟩)) (h : (own[i]?).bind (·[j]?) = some (b, .cells cs.toArray T' fr)) (hl : cs.length = m) (k : K (.agg cs.toArray) ro own) :
    OpW P n E ⟨d, .load T x, t, p, af, g⟩ K ρ ro own := opw_loadA hT hm hl hx (hasCells i j h) k
theorem splice_list (r : List Value) : ∀ (pre tl : List Value), tl.length = r.length → splice (pre ++ tl).toArray pre.length r = (pre ++ r).toArray := splice_row r
theorem opw_storeS {m : Nat} {cs : List Value} {c : Array Value} {T' : TypeId} {fr : Nat × Nat} (i j : Nat) (hm : sz P T = some m) (hx : ev ρ x = .pointer (some ⟨b, 0, none⟩)) (hy : ev ρ y = .agg cs.toArray) (hl : cs.length = m) (hone : cs.all (·.oneCell') = true) (hi : own[i]? = some gr) (hj : gr[j]? = some (b, .cells c T' fr)) (hc : c.size = m) (hf : noFr fr 0 m)
    (k : K undef ro (own.set i (gr.set j (b, .cells cs.toArray T' fr)))) : OpW P n E ⟨d, .store T x y, t, p, af, g⟩ K ρ ro own := by
  subst hl
  refine opw_storeA i j (cs := cs.toArray) (c := c) (T' := T') (fr := fr) (by simpa using hm) hx hy (by intro u hu; exact List.all_eq_true.1 hone u (by simpa using hu)) hi hj (by simp; omega) (by simpa using hf) ?_
  have := splice_row cs [] c.toList (by simpa using hc)
  simp only [List.nil_append, List.length_nil] at this
  rw [show c = c.toList.toArray by simp, this]; exact k
theorem hold_one {o : Obj} (i j : Nat) (h : (own[i]?).bind (·[j]?) = some (b, o)) : RoOk (Go.Vc.hold [(b, o)]) ro own := hold_ok (by
  intro y hy
  simp only [List.mem_singleton] at hy
  subst hy
  cases hg : own[i]? with
  | none => rw [hg] at h; cases h
  | some g => rw [hg] at h; exact mem_of_ij hg h)
theorem run_mark {w : World} {c : Array Value} {T' : TypeId} {P : Program} (h : w.heap[b]? = some (.cells c T' (0, 0))) : (markStringish ⟨b, off, none⟩).run P w = .ok () (World.setB w b (.cells c T' (c.size, c.size + 1))) := by
  have hs : w.shape? b = some (T', c.size) := by unfold World.shape?; rw [h]
  simp only [markStringish, Sem.run_bind, run_shape, Result.andThen_ok, hs, run_freeze]
  congr 1
  unfold World.freeze World.setB
  rw [if_neg (by decide)]
  congr 1
  apply Array.ext_getElem?
  intro k
  rw [Array.getElem?_modify, Array.getElem?_setIfInBounds]
  by_cases hk : b = k
  · subst hk
    have := (Array.getElem?_eq_some_iff.1 h).1
    rw [if_pos rfl, if_pos rfl, if_pos this, h]; rfl
  · rw [if_neg hk, if_neg hk]
theorem opw_convSame {e : TypeId} {l cp : Nat} {c : Array Value} {T' : TypeId} (i j : Nat) (hs : P.underlying T = some (.slice e)) (he : P.underlying e = some (.int .u8)) (hx : ev ρ x = .slice (some ⟨b, off, none⟩) l cp) (hi : own[i]? = some gr) (hj : gr[j]? = some (b, .cells c T' (0, 0)))
    (k : K (.slice (some ⟨b, off, none⟩) l cp) ro (own.set i (gr.set j (b, .cells c T' (c.size, c.size + 1))))) : OpW P n E ⟨d, .convert T T x, t, p, af, g⟩ K ρ ro own := OpW.of_run fun w hw => by
  have hb := hw.has _ (mem_of_ij hi hj)
  refine ⟨_, ro, _, World.setB w b (.cells c T' (c.size, c.size + 1)), ?_, hw.setB hi hj, k⟩
  simp [execOp, hx, convert, run_underlying hs, run_underlying he, run_mark hb]
theorem roOk_fr {T' : TypeId} {fr : Nat × Nat} {xs data : List α} (i j : Nat) (h : (own[i]?).bind (·[j]?) = some (b, .cells (data.map f).toArray T' fr)) (hx : ∀ k, k < xs.length → data[off + k]? = xs[k]?) : RoOk [(b, AtO f off xs)] ro own := by
  cases hg : own[i]? with
  | none => rw [hg] at h; cases h
  | some g =>
    rw [hg] at h
    refine roOk_one (mem_of_ij hg h) (fun k q hq => ?_)
    have hl := (List.getElem?_eq_some_iff.1 hq).1
    simp [cellAt, (hx k hl).trans hq]
theorem run_bytes_cells {e : TypeId} {w : World} {a : Option Addr} {c : Nat} {xs : List (BitVec 8)} (hs : P.underlying T = some (.slice e)) (he : P.underlying e = some (.int .u8)) (hd : P.underlying T' = some .string) (hr : ∀ (i : Nat) x, xs[i]? = some x → ∃ b off, a = some ⟨b, off, none⟩ ∧ w.cell? ⟨b, off + i, none⟩ = some (v8 x)) :
    (convert T T' (.slice a xs.length c)).run P w = .ok (vstr xs) w := by
  rcases Nat.eq_zero_or_pos xs.length with h0 | h0
  · have : xs = [] := List.eq_nil_of_length_eq_zero h0
    subst this
    rw [run_convert_bytes_string w T T' e _ _ c hs he hd]
    cases a with
    | none => simp [Conv.bytesToString]; rfl
    | some ad =>
      have hl0 : (loadCells ad 0).run P w = .ok #[] w := by simpa using run_loadCells_list (P := P) w ad [] (by simp)
      simp [Conv.bytesToString, hl0]; rfl
  · obtain ⟨b, off, rfl, _⟩ := hr 0 _ (List.getElem?_eq_getElem h0)
    refine run_convert_bytes_arg (P := P) w T e hs he b off xs.length c (xs.map fun x => (x.toNat : Int)) (by simp) (fun i hi => ?_) T' hd
    obtain ⟨b', off', he', hh⟩ := hr i _ (List.getElem?_eq_getElem hi)
    simp at he'; obtain ⟨rfl, rfl⟩ := he'
    rw [hh]
    simp [List.getD, List.getElem?_eq_getElem hi, v8]

theorem wh_str {Q : Post} {held : RO} {ops : Array Oper} {rel : List Nat} {fuel : Nat} {listed : Array Bool} {d e : Nat} {a : Option Addr} {len c : Nat} {xs : List (BitVec 8)} {x : Operand} {t : TypeId} {p : String} {af : Array Edge} {g : Option (Nat × Bool)} (i : Nat) (ho : ops[i]? = some ⟨some d, .convert T T' x, t, p, af, g⟩) (hk : okTake ops rel listed i = true) (hd : Nat.blt d n = true)
    (hg : wantedF ops ρ ⟨some d, .convert T T' x, t, p, af, g⟩ = true) (hs : P.underlying T = some (.slice e)) (he : P.underlying e = some (.int .u8)) (hd' : P.underlying T' = some .string) (hx : ev ρ x = .slice a len c) (hl : len = xs.length) (hr : Rd v8 a xs held [])
    (k : WH P n E ops rel held Q fuel (listed.setIfInBounds i true) (upd ρ d (vstr xs)) ro own) : WH P n E ops rel held Q (fuel + 1) listed ρ ro own :=
  take_aux ho hk hd (fun a' ha => .inl ⟨by rw [wanted_eq ha]; exact hg, fun w hF => by
    subst hl
    have := run_bytes_cells (P := P) (w := w) (c := c) hs he hd' (fun i x hi => by obtain ⟨b, off, h1, h2⟩ := hr i x hi; exact ⟨b, off, h1, hF.cell h2⟩)
    rw [ha.eval]; simp [execOp, hx, this]⟩) k
theorem Sl.rdh {T' : TypeId} {a : Option Addr} {n c : Nat} {xs : List α} {g bl : Blks} {own : List Blks} (h : Sl f T' (.slice a n c) xs g) (hsub : ∀ x ∈ g, x ∈ bl) : Rd f a xs (Go.Vc.hold bl) own := fun k x hk => by
  have hl := (List.getElem?_eq_some_iff.1 hk).1
  obtain ⟨b, data, rfl, _, rfl, ht⟩ := h.addr (by omega)
  refine ⟨b, 0, rfl, .inr ⟨fun o' => o' = arr f T' data, List.mem_map.2 ⟨(b, arr f T' data), hsub _ (List.mem_singleton.2 rfl), rfl⟩, fun o' ho => ?_⟩⟩
  rw [ho, Nat.zero_add]
  refine cellAt_arr ?_
  rw [← ht, List.getElem?_take, if_pos hl] at hk
  exact hk
theorem Has.appR {ro ro' : RO} {own : List Blks} {off : Nat} {v : Value} (h : Has ro' own b off v) : Has (ro ++ ro') own b off v := by
  rcases h with h | ⟨p, hp, hv⟩
  · exact .inl h
  · exact .inr ⟨p, List.mem_append_right _ hp, hv⟩
theorem Rd.appR {a : Option Addr} {ro ro' : RO} {xs : List α} {own : List Blks} (h : Rd f a xs ro' own) : Rd f a xs (ro ++ ro') own := fun i x hx => by
  obtain ⟨b, off, h1, h2⟩ := h i x hx; exact ⟨b, off, h1, h2.appR⟩
theorem Rd.appL {a : Option Addr} {n c : Nat} {ro ro' : RO} {xs : List α} {own : List Blks} (h : SlR f (.slice a n c) xs ro) : Rd f a xs (ro ++ ro') own :=
  (h.mono (fun _ hx => List.mem_append_left _ hx)).rd own
theorem Has.row {T' : TypeId} {l : List α} {k : Nat} {q : α} (i j : Nat) (h : (own[i]?).bind (·[j]?) = some (b, arr f T' l)) (hk : l[k]? = some q) : Has ro own b k (f q) := Has.own i j h (cellAt_arr hk)
theorem Has.rowh {T' : TypeId} {l : List α} {bl : Blks} {k : Nat} {q : α} (j : Nat) (h : bl[j]? = some (b, arr f T' l)) (hk : l[k]? = some q) : Has (Go.Vc.hold bl) own b k (f q) := Has.hold j h (cellAt_arr hk)
end
end Go.Vc
