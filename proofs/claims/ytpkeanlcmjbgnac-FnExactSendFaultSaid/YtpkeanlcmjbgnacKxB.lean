/- A certified evaluator of the program's code, part B: words and lemmas; nothing here is about one program. -/
import Derived.Test.YtpkeanlcmjbgnacKxA
/- Operations: struct and slice literals, make. -/
namespace Go.KX
open Go.RowKit

section
variable {P : Program} {ti : TypeId → TyI}

theorem run_list_mapM {α β : Type} {w : World} (f : α → Sem β) (g : α → β) : ∀ (l : List α), (∀ a ∈ l, (f a).run P w = .ok (g a) w) → (l.mapM f).run P w = .ok (l.map g) w
  | [], _ => by simp
  | a :: l, h => by
    simp only [List.mapM_cons, Sem.run_bind, h a (by simp), Result.andThen_ok, run_list_mapM f g l (fun b hb => h b (by simp [hb])), Sem.run_pure, List.map_cons]

theorem run_arr_mapM {α β : Type} {w : World} (f : α → Sem β) (g : α → β) (xs : Array α) (h : ∀ a ∈ xs.toList, (f a).run P w = .ok (g a) w) : (xs.mapM f).run P w = .ok (xs.map g) w := by
  obtain ⟨l⟩ := xs
  rw [List.mapM_toArray]
  simp only [Sem.run_map, run_list_mapM f g l h, Result.andThen_ok, List.map_toArray]

theorem fold_size (l : List Value) : ∀ (k o : Nat) (cs : Array Value), ((l.zipIdx k).foldl (fun cs (p : Value × Nat) => cs.setIfInBounds (o + p.2) p.1) cs).size = cs.size := by
  induction l with
  | nil => intro k o cs; rfl
  | cons v l ih => intro k o cs; rw [List.zipIdx_cons, List.foldl_cons, ih]; simp

theorem fold_get (l : List Value) : ∀ (k o : Nat) (cs : Array Value) (p : Nat), o + k + l.length ≤ cs.size →
    ((l.zipIdx k).foldl (fun cs (p : Value × Nat) => cs.setIfInBounds (o + p.2) p.1) cs).getD p undef = if o + k ≤ p ∧ p < o + k + l.length then l.getD (p - (o + k)) undef else cs.getD p undef := by
  induction l with
  | nil => intro k o cs p h; rw [if_neg (by simp)]; rfl
  | cons v l ih =>
    intro k o cs p h
    simp only [List.length_cons] at h
    rw [List.zipIdx_cons, List.foldl_cons, ih (k + 1) o _ p (by simp; omega)]
    by_cases h1 : o + (k + 1) ≤ p ∧ p < o + (k + 1) + l.length
    · rw [if_pos h1, if_pos (by simp; omega)]
      have e1 : p - (o + k) = (p - (o + (k + 1))) + 1 := by omega
      rw [e1, List.getD_cons_succ]
    · rw [if_neg h1]
      by_cases h2 : p = o + k
      · subst h2
        rw [if_pos (by simp)]
        simp [show o + k < cs.size by omega]
      · rw [if_neg (by simp; omega)]
        simp [Ne.symm h2]

theorem known_ne {x : X} (h : x.known = true) : x ≠ .un := fun e => by subst e; simp [X.known] at h

/-- The cells of a struct literal. -/
theorem layParts_ok {g : Gh} {w : World} (fs : List (TypeId × Nat)) (pl : Nat → Option (Nat × Nat)) (hpl : ∀ i, pl i = (fs[i]?).map fun p => (p.2, (ti p.1).size)) :
    ∀ (ps : List (Nat × X)) (vs : List (Nat × Value)) (xs ys : List X) (cs : Array Value), layParts ti fs ps xs = some ys → vs.length = ps.length →
      (∀ i, i < ps.length → (vs.getD i (0, undef)).1 = (ps.getD i (0, .un)).1 ∧ RX ti g w (ps.getD i (0, .un)).2 (vs.getD i (0, undef)).2) → cs.size = xs.length →
      (∀ j, j < xs.length → RX ti g w (xs.getD j .un) (cs.getD j undef)) →
      ∃ cs', Instr.fill pl cs vs = some cs' ∧ cs'.size = ys.length ∧ ∀ j, j < ys.length → RX ti g w (ys.getD j .un) (cs'.getD j undef)
  | [], [], xs, ys, cs, h, _, _, hc, hx => by
    simp only [layParts, Option.some.injEq] at h
    subst h
    exact ⟨cs, rfl, hc, hx⟩
  | [], _ :: _, _, _, _, _, hl, _, _, _ => by simp at hl
  | _ :: _, [], _, _, _, _, hl, _, _, _ => by simp at hl
  | (i, x) :: ps, (i', v) :: vs, xs, ys, cs, h, hl, hp, hc, hx => by
    have h0 := hp 0 (by simp)
    simp only [List.getD_cons_zero] at h0
    obtain ⟨rfl, hxv⟩ := h0
    unfold layParts at h
    split at h
    · rename_i ft off hf
      split at h
      · rename_i hfit
        obtain ⟨f0, f1, f2⟩ := hfit
        obtain ⟨c1, c2⟩ := cells_ok hxv (known_ne f0)
        have hpi : pl i' = some (off, (ti ft).size) := by rw [hpl, hf]; rfl
        have hcond : ¬ (v.cells.size ≠ (ti ft).size ∨ off + v.cells.size > cs.size) := by omega
        have hfold : v.cells.zipIdx.foldl (fun cs (p : Value × Nat) => cs.setIfInBounds (off + p.2) p.1) cs = (v.cells.toList.zipIdx 0).foldl (fun cs (p : Value × Nat) => cs.setIfInBounds (off + p.2) p.1) cs := by
          rw [← Array.foldl_toList, Array.toList_zipIdx]
        have hlen : off + 0 + v.cells.toList.length ≤ cs.size := by simp; omega
        have ih := layParts_ok fs pl hpl ps vs _ ys ((v.cells.toList.zipIdx 0).foldl (fun cs (p : Value × Nat) => cs.setIfInBounds (off + p.2) p.1) cs) h (by simpa using hl)
          (fun k hk => by simpa using hp (k + 1) (by simpa using hk)) (by rw [fold_size]; simp; omega) (fun j hj => by
            have hj' : j < xs.length := by simp at hj; omega
            rw [getD_splice _ _ _ _ _ f2, fold_get _ _ _ _ _ hlen]
            by_cases hin : off ≤ j ∧ j < off + x.cells.length
            · rw [if_pos hin, if_pos (by simp; omega)]
              have := c2 (j - off) (by omega)
              simpa using this
            · rw [if_neg hin, if_neg (by simp; omega)]
              exact hx j hj')
        obtain ⟨cs', i1, i2, i3⟩ := ih
        refine ⟨cs', ?_, i2, i3⟩
        unfold Instr.fill
        rw [hpi]
        have e0 : (decide (v.cells.size ≠ (ti ft).size) || decide (off + v.cells.size > cs.size)) = false := by
          simp; omega
        simp only [e0]
        simp only [Bool.false_eq_true, if_false]
        rw [← hfold] at i1
        exact i1
      · cases h
    · cases h

variable (H : TabOk P ti)
include H

theorem build_ok {g : Gh} {w : World} {t : TypeId} {fs : List (TypeId × Nat)} (hok : (ti t).ok = true) (hd : (ti t).d = .struct fs) {ps : List (Nat × X)} {vs : Array (Nat × Value)} {ys : List X}
    (h : layParts ti fs ps ((ti t).lv.map Lt.zx) = some ys) (hl : vs.toList.length = ps.length)
    (hp : ∀ i, i < ps.length → (vs.toList.getD i (0, undef)).1 = (ps.getD i (0, .un)).1 ∧ RX ti g w (ps.getD i (0, .un)).2 (vs.toList.getD i (0, undef)).2) :
    ∃ v, (Instr.build t vs).run P w = .ok v w ∧ RX ti g w (.agg ys) v := by
  obtain ⟨z, hz, hzc⟩ := run_zeroValue H hok w
  obtain ⟨d, h1, h2⟩ := (H t hok).und
  unfold dOk at h2
  rw [hd] at h2
  obtain ⟨_, fields, rfl, h4, h5⟩ := h2
  have hlen : z.cells.size = ((ti t).lv.map Lt.zx).length := by rw [← Array.length_toList, hzc]; simp
  have hmap : (fields.mapM fun f => do pure (f.offset, ← sizeOf f.type) : Sem (Array (Nat × Nat))).run P w = .ok (fields.map fun f => (f.offset, (ti f.type).size)) w :=
    run_arr_mapM (P := P) _ (fun f => (f.offset, (ti f.type).size)) fields (fun f hf => by
      have := h5 (f.type, f.offset) (by rw [← h4]; exact List.mem_map.2 ⟨f, hf, rfl⟩)
      simp [run_sizeOf H this])
  obtain ⟨cs', i1, i2, i3⟩ := layParts_ok (g := g) (w := w) fs (fun i => (fields.map fun f => (f.offset, (ti f.type).size))[i]?) (fun i => by
    rw [← h4]
    simp only [Array.getElem?_map, List.getElem?_map, Option.map_map]
    simp only [Array.getElem?_toList]
    rfl) ps vs.toList _ ys z.cells h hl hp hlen (fun j hj => by
      have hj' : j < (ti t).lv.length := by simpa using hj
      have e1 : z.cells.getD j undef = ((ti t).lv.getD j .fn).zv := by
        have : z.cells.toList.getD j undef = ((ti t).lv.map Lt.zv).getD j undef := by rw [hzc]
        simpa [hj'] using this
      have e2 : ((ti t).lv.map Lt.zx).getD j .un = ((ti t).lv.getD j .fn).zx := by simp [hj']
      rw [e1, e2]
      exact zx_ok g w _)
  refine ⟨.agg cs', ?_, .agg i2 i3⟩
  simp only [Instr.build, Sem.run_bind, hz, Result.andThen_ok, run_und h1, hmap, i1, Sem.run_pure]

/-- The zero tree's cells. -/
theorem zt_leaf {e : TypeId} (hok : (ti e).ok = true) {j : Nat} (hj : j < (ti e).size) : (ti e).leaf (ti e).zt j = ((ti e).lv.getD j .fn).zt := by
  have hj' : j < (ti e).lv.length := hj
  unfold TyI.leaf TyI.zt
  cases ha : (ti e).agg with
  | true => simp [T.F, hj']
  | false =>
    have h1 := size_one H hok ha
    have : j = 0 := by omega
    subst this
    cases hl : (ti e).lv with
    | nil => rw [hl] at hj'; simp at hj'
    | cons l ls => simp

theorem zt_RL {e : TypeId} (hok : (ti e).ok = true) (hpl : (ti e).lv.all Lt.plain = true) (im : Nat → Prop) (w : World) {j : Nat} (hj : j < (ti e).size) :
    RL ti im w ((ti e).lv.getD j .fn) ((ti e).leaf (ti e).zt j) ((ti e).lv.getD j .fn).zv := by
  rw [zt_leaf H hok hj]
  have hj' : j < (ti e).lv.length := hj
  exact zt_ok im w (List.all_eq_true.1 hpl _ (by simp [hj']))

omit H in
/-- The zero cells of n elements. -/
theorem zeros_get {e : TypeId} {z : Value} (hzc : z.cells.toList = (ti e).lv.map Lt.zv) {n m i j : Nat} (hm : m = n * (ti e).size) (hi : i < n) (hj : j < (ti e).size) :
    ((Array.range m).map (fun k => z.cells[k % z.cells.size]!)).getD (i * (ti e).size + j) undef = ((ti e).lv.getD j .fn).zv := by
  have hsz : z.cells.size = (ti e).size := by rw [← Array.length_toList, hzc]; simp [TyI.size]
  have hlt := le_mul_row (sz := (ti e).size) hi (Nat.le_refl n) hj
  have hmod : (i * (ti e).size + j) % z.cells.size = j := by rw [hsz, Nat.mul_comm, Nat.mul_add_mod]; exact Nat.mod_eq_of_lt hj
  have hj' : j < (ti e).lv.length := hj
  have e1 : z.cells.getD j undef = ((ti e).lv.getD j .fn).zv := by
    have : z.cells.toList.getD j undef = ((ti e).lv.map Lt.zv).getD j undef := by rw [hzc]
    simpa [hj'] using this
  rw [← e1, hm]
  simp [hlt, hmod, show j < z.cells.size by omega]

theorem makeSlice_ok {c : Ctx} {s : St} {ts : List (Array Value)} {g : Gh} {w : World} (hs : Sim ti c s ts g w) {t e : TypeId} (hok : (ti t).ok = true) (hd : (ti t).d = .slice e) (hpl : (ti e).lv.all Lt.plain = true) {k : IntKind} {n : Int}
    (hn : 0 ≤ n) (hb : n * (ti e).bytes ≤ limB) (hlim : n < maxN) :
    ∃ v w' g', (Instr.makeSlice t (.int k n) (.int k n)).run P w = .ok v w' ∧ Sim ti c (s.new (.arr e (List.replicate n.toNat (ti e).zt))) ts g' w' ∧ RX ti g' w' (.own e s.m.length) v := by
  obtain ⟨hu, heok, _, _⟩ := und_slice H hok hd
  obtain ⟨i, hti, hib, his, z, hz, hzc⟩ := run_typeInfo H heok w
  have hw : IntKind.i64.wrap n = n := by
    have : n < 281474976710656 := hlim
    unfold IntKind.wrap
    simp [IntKind.bits, IntKind.signed]
    omega
  have hzv : (zeroValue e).run P w = .ok z w := by
    obtain ⟨z', hz', hzc'⟩ := run_zeroValue H heok w
    have : z' = z := by
      simp only [zeroValue, Sem.run_bind, hti, Result.andThen_ok, hz, Sem.run_pure] at hz'
      injection hz' with e1 _
      exact e1.symm
    rw [← this]; exact hz'
  have hsz : z.cells.size = (ti e).size := by rw [← Array.length_toList, hzc]; simp [TyI.size]
  -- the cells
  let cells : Array Value := (Array.range (n.toNat * (ti e).size)).map (fun j => z.cells[j % z.cells.size]!)
  obtain ⟨g', h1, h2, _⟩ := hs.newArr (e := e) (xs := List.replicate n.toNat (ti e).zt) (vs := cells) e (cap := n.toNat) (by simp) (by simp; omega) (by simp [cells]) (fun a j ha hj => by
    have ha' : a < n.toNat := by simpa using ha
    have e1 : (List.replicate n.toNat (ti e).zt).getD a (.i 0) = (ti e).zt := by simp [ha']
    rw [e1, zeros_get hzc rfl ha' hj]
    exact zt_RL H heok hpl _ _ hj)
  refine ⟨.slice (some ⟨w.heap.size, 0, none⟩) n.toNat n.toNat, w.alloc (.cells cells e (0, 0)), g', ?_, h1, by simpa using h2⟩
  have hbig : ¬ (i.bytes * n > 2 ^ 48) := by
    rw [hib, Int.mul_comm]
    unfold limB at hb
    omega
  have c1 : (decide (n < 0) || decide ((i.bytes : Int) * n > 2 ^ 48)) = false := by simp; omega
  simp only [Instr.makeSlice, Sem.run_bind, run_und hu, Result.andThen_ok, asInt, asIntOf, Sem.run_pure, hti, hw]
  have c2 : ((decide (n < 0) || decide ((i.bytes : Int) * n > 2 ^ 48)) || decide (n < 0) || decide (n > n)) = false := by rw [c1]; simp; omega
  simp only [c2]
  simp only [Bool.false_eq_true, if_false, Sem.run_bind, run_askRoom, Result.andThen_ok, run_sizeOf H heok]
  by_cases hz0 : n.toNat * (ti e).size = 0
  · simp only [hz0, if_true, Sem.run_pure, Result.andThen_ok, newRow, run_newObj, Sem.run_bind]
    have er : Array.range 0 = #[] := rfl
    have : cells = #[] := by simp [cells, hz0, er]
    rw [this]
    simp [er]
  · simp only [hz0, if_false, Sem.run_bind, hzv, Result.andThen_ok, Sem.run_pure, newRow, run_newObj]
    rfl

end
end Go.KX
/- Operations: slice literals, append, copy, clear. -/
namespace Go.KX
open Go.RowKit

section
variable {P : Program} {ti : TypeId → TyI}

/-- The elements of a slice, as cells. -/
def Elems (ti : TypeId → TyI) (im : Nat → Prop) (w : World) (e : TypeId) (xs : List T) (v : Value) : Prop :=
  ∃ A cp, v = .slice A xs.length cp ∧ xs.length ≤ cp ∧ xs.length < maxN ∧
    (0 < xs.length → ∃ b o, ∃ cs : Nat → Nat → Value, A = some ⟨b, o, none⟩ ∧ (∀ i j, i < xs.length → j < (ti e).size → w.cell? ⟨b, o + i * (ti e).size + j, none⟩ = some (cs i j)) ∧
      ∀ i j, i < xs.length → j < (ti e).size → RL ti im w ((ti e).lv.getD j .fn) ((ti e).leaf (xs.getD i (.i 0)) j) (cs i j))

theorem RegOk.elems {g : Gh} {w : World} {r : Nat} {e : TypeId} {xs : List T} (h : RegOk ti g w r (.arr e xs)) {off len : Nat} {A : Option Addr} (ha : g.addr r off (ti e).size A) (hl : off + len ≤ g.len r) :
    Elems ti g.im w e ((xs.drop off).take len) (.slice A len (g.cap r - off)) := by
  cases h with
  | arr h1 h2 h3 hm =>
    have hlen : ((xs.drop off).take len).length = len := by simp; omega
    refine ⟨A, g.cap r - off, by rw [hlen], by omega, by omega, fun hp => ?_⟩
    obtain ⟨c, te, a1, a2, a3, a4⟩ := hm (by omega)
    refine ⟨(g.loc r).1, (g.loc r).2 + off * (ti e).size, fun i j => c.getD ((g.loc r).2 + (off + i) * (ti e).size + j) undef, ha (by omega), fun i j hi hj => ?_, fun i j hi hj => ?_⟩
    · rw [hlen] at hi
      have hsz := le_mul_row (sz := (ti e).size) (i := off + i) (n := xs.length) (by omega) h2 hj
      have hc : (g.loc r).2 + off * (ti e).size + i * (ti e).size + j = (g.loc r).2 + (off + i) * (ti e).size + j := by rw [Nat.add_mul]; omega
      rw [hc]
      exact cell_of a2 (by omega)
    · rw [hlen] at hi
      have hi' : off + i < xs.length := by omega
      have hg : ((xs.drop off).take len).getD i (.i 0) = xs.getD (off + i) (.i 0) := by simp [hi, hi']
      rw [hg]
      exact a4 (off + i) j hi' hj

theorem elems_ok {c : Ctx} {s : St} {ts : List (Array Value)} {g : Gh} {w : World} (hs : Sim ti c s ts g w) {e : TypeId} {x : X} {v : Value} {xs : List T} (hx : RX ti g w x v) (h : x.elems s e = some xs) : Elems ti g.im w e xs v := by
  simp only [X.elems, Option.map_eq_some_iff] at h
  obtain ⟨τ, h, rfl⟩ := h
  cases hx with
  | un => simp [X.snap] at h
  | t h1 =>
    simp only [X.snap] at h
    split at h
    · rename_i e1
      subst e1; cases h
      cases h1 with
      | empty he => exact ⟨_, _, by rw [he]; rfl, by simp [he], by rw [he]; decide, fun hp => by simp [he] at hp⟩
      | slice cs hb hc hn hcell hr => exact ⟨_, _, rfl, hc, hn, fun _ => ⟨_, _, cs, rfl, hcell, hr⟩⟩
    · cases h
  | agg _ _ => simp [X.snap] at h
  | tup _ _ => simp [X.snap] at h
  | nil =>
    simp only [X.snap] at h
    cases h
    exact ⟨_, _, rfl, by simp, by decide, fun hp => by simp at hp⟩
  | @own e' r A hn ha =>
    simp only [X.snap] at h
    split at h
    · rename_i e1
      cases e1
      split at h
      · rename_i e2 ys heq
        split at h
        · rename_i he
          subst he
          cases h
          have h0 : RegOk ti g w r (.arr e2 ys) := heq ▸ hs.reg r hn
          have hl : g.len r = ys.length := by cases h0; assumption
          have := h0.elems (off := 0) (len := g.len r) ha (by omega)
          simp only [List.drop_zero, hl, List.take_length, Nat.sub_zero] at this
          rw [hl]
          exact this
        · cases h
      · cases h
    · cases h
  | @ref e' r off len A hn ha hl =>
    simp only [X.snap] at h
    split at h
    · rename_i e1
      cases e1
      split at h
      · rename_i e2 ys heq
        split at h
        · rename_i he
          subst he
          cases h
          have h0 : RegOk ti g w r (.arr e2 ys) := heq ▸ hs.reg r hn
          exact h0.elems ha hl
        · cases h
      · cases h
    · cases h
  | pb _ => simp [X.snap] at h
  | pa _ _ => simp [X.snap] at h
  | pt _ _ _ _ => simp [X.snap] at h
  | @fn _ caps _ _ _ => cases caps <;> simp [X.snap] at h

/-- Cells that hold the elements of a list. -/
def Holds (ti : TypeId → TyI) (im : Nat → Prop) (w : World) (e : TypeId) (xs : List T) (new : Array Value) : Prop :=
  new.size = xs.length * (ti e).size ∧ ∀ i j, i < xs.length → j < (ti e).size → RL ti im w ((ti e).lv.getD j .fn) ((ti e).leaf (xs.getD i (.i 0)) j) (new.getD (i * (ti e).size + j) undef)

theorem divmod_row {k sz : Nat} (h : 0 < sz) : k = (k / sz) * sz + k % sz ∧ k % sz < sz := by
  refine ⟨?_, Nat.mod_lt _ h⟩
  have := Nat.div_add_mod k sz
  rw [Nat.mul_comm] at this
  omega

/-- The first n elements, loaded. -/
theorem firstCells_ok {im : Nat → Prop} {w : World} {e : TypeId} {xs : List T} {v : Value} (h : Elems ti im w e xs v) {n : Nat} (hn : n ≤ xs.length) :
    ∃ new, (∀ w' : World, w'.heap = w.heap → (Builtin.firstCells (ti e).size n v).run P w' = .ok new w') ∧ Holds ti im w e (xs.take n) new := by
  obtain ⟨A, cp, rfl, _, _, hm⟩ := h
  by_cases h0 : n = 0
  · subst h0
    refine ⟨#[], fun w' hw => ?_, by simp, fun i j hi => by simp at hi⟩
    cases A with
    | none => simp [Builtin.firstCells]
    | some a => simp [Builtin.firstCells, loadCells, loadCellsFrom]
  · obtain ⟨b, o, cs, rfl, hc, hr⟩ := hm (by omega)
    have hlen : (xs.take n).length = n := by simp; omega
    by_cases hz : (ti e).size = 0
    · refine ⟨#[], fun w' hw => by simp [Builtin.firstCells, hz, loadCells, loadCellsFrom], by simp [hz], fun i j hi hj => by omega⟩
    · refine ⟨((List.range (n * (ti e).size)).map fun k => cs (k / (ti e).size) (k % (ti e).size)).toArray, fun w' hw => ?_, by rw [hlen]; simp, fun i j hi hj => ?_⟩
      · have hcell : ∀ a, w'.cell? a = w.cell? a := fun a => by simp only [World.cell?, hw]
        exact run_loadCells_at w' b o _ _ (fun k hk => by
          obtain ⟨h1, h2⟩ := divmod_row (k := k) (sz := (ti e).size) (by omega)
          have h3 : k / (ti e).size < n := by
            rw [Nat.div_lt_iff_lt_mul (by omega)]; exact hk
          rw [hcell]
          have := hc (k / (ti e).size) (k % (ti e).size) (by omega) h2
          rw [Nat.add_assoc, ← h1] at this
          exact this)
      · rw [hlen] at hi
        have hk := le_mul_row (sz := (ti e).size) hi (Nat.le_refl n) hj
        have e1 : (i * (ti e).size + j) / (ti e).size = i := by
          rw [Nat.mul_comm, Nat.mul_add_div (by omega), Nat.div_eq_of_lt hj]; omega
        have e2 : (i * (ti e).size + j) % (ti e).size = j := by
          rw [Nat.mul_comm, Nat.mul_add_mod]; exact Nat.mod_eq_of_lt hj
        have e3 : (((List.range (n * (ti e).size)).map fun k => cs (k / (ti e).size) (k % (ti e).size)).toArray).getD (i * (ti e).size + j) undef = cs i j := by
          simp [hk, e1, e2]
        have e4 : (xs.take n).getD i (.i 0) = xs.getD i (.i 0) := by simp [hi]
        rw [e3, e4]
        exact hr i j (by omega) hj

theorem Holds.oneCell {im : Nat → Prop} {w : World} {e : TypeId} {xs : List T} {new : Array Value} (h : Holds ti im w e xs new) : ∀ v ∈ new.toList, v.oneCell' = true := by
  intro v hv
  obtain ⟨k, hk, rfl⟩ := List.getElem_of_mem hv
  have hk' : k < new.size := by simpa using hk
  have hsz : 0 < (ti e).size := by
    rcases Nat.eq_zero_or_pos (ti e).size with h0 | h0
    · have := h.1; rw [h0] at this; omega
    · exact h0
  obtain ⟨h1, h2⟩ := divmod_row (k := k) hsz
  have h3 : k / (ti e).size < xs.length := by rw [Nat.div_lt_iff_lt_mul hsz, ← h.1]; exact hk'
  have := (h.2 _ _ h3 h2).oneCell
  rw [← h1] at this
  simpa [hk'] using this

theorem Holds.mono {im im' : Nat → Prop} {w w' : World} {e : TypeId} {xs : List T} {new : Array Value} (h : Holds ti im w e xs new) (hm : ∀ b, im b → im' b ∧ w'.heap[b]? = w.heap[b]?) : Holds ti im' w' e xs new :=
  ⟨h.1, fun i j hi hj => (h.2 i j hi hj).mono hm⟩

/-- Two rows of elements, one behind the other. -/
theorem Holds.append {im : Nat → Prop} {w : World} {e : TypeId} {xs ys : List T} {a b : Array Value} (h : Holds ti im w e xs a) (k : Holds ti im w e ys b) : Holds ti im w e (xs ++ ys) (a ++ b) := by
  refine ⟨by simp [h.1, k.1, Nat.add_mul], fun i j hi hj => ?_⟩
  by_cases hlt : i < xs.length
  · have h1 := le_mul_row (sz := (ti e).size) hlt (Nat.le_refl _) hj
    have e1 : (a ++ b).getD (i * (ti e).size + j) undef = a.getD (i * (ti e).size + j) undef := by
      simp [Array.getElem?_append_left (show i * (ti e).size + j < a.size by rw [h.1]; exact h1)]
    have e2 : (xs ++ ys).getD i (.i 0) = xs.getD i (.i 0) := by simp [List.getElem?_append_left hlt]
    rw [e1, e2]
    exact h.2 i j hlt hj
  · have h2 : i - xs.length < ys.length := by simp at hi; omega
    have e1 : (a ++ b).getD (i * (ti e).size + j) undef = b.getD ((i - xs.length) * (ti e).size + j) undef := by
      have hge : a.size ≤ i * (ti e).size + j := by
        rw [h.1]
        have := Nat.mul_le_mul_right (ti e).size (show xs.length ≤ i by omega)
        omega
      have : i * (ti e).size + j - a.size = (i - xs.length) * (ti e).size + j := by
        rw [h.1, Nat.sub_mul]
        have := Nat.mul_le_mul_right (ti e).size (show xs.length ≤ i by omega)
        omega
      simp [Array.getElem?_append_right hge, this]
    have e2 : (xs ++ ys).getD i (.i 0) = ys.getD (i - xs.length) (.i 0) := by simp [List.getElem?_append_right (show xs.length ≤ i by omega)]
    rw [e1, e2]
    exact k.2 _ j h2 hj

end
end Go.KX
/- Operations: append. -/
namespace Go.KX
open Go.RowKit

section
variable {P : Program} {ti : TypeId → TyI}

theorem Sim.drew {c : Ctx} {s : St} {ts : List (Array Value)} {g : Gh} {w w' : World} (hs : Sim ti c s ts g w) (hh : w'.heap = w.heap) (ho : w'.os = w.os) (ht : w'.tape = w.tape) (hu : w'.output = w.output) :
    Sim ti c s ts g w' ∧ Mor some g w g w' := by
  have m : Mor some g w g w' := ⟨fun b h => ⟨h, by rw [hh]⟩, fun r r' hn h => by cases h; exact ⟨hn, rfl, rfl, rfl⟩⟩
  refine ⟨⟨hs.nr, fun b hb => by rw [hh]; exact hs.im b hb, fun b r hb => by rw [hh]; exact hs.own b r hb, fun r hr => (hs.reg r hr).mor1 m hr (fun b hb => ⟨hb, by rw [hh]⟩), hs.nf, fun k hk => ?_, ?_⟩, m⟩
  · have := (hs.fr k hk).mor m
    rwa [X.renL_some] at this
  · exact ⟨ho.trans hs.fm.os, ht.trans hs.fm.tape, hu.trans hs.fm.output, by rw [hh]; exact hs.fm.size, fun b hb hn => by rw [hh]; exact hs.fm.old b hb hn⟩

theorem growBy_le (need : Nat) : ∀ (r c : Nat), c < need → Builtin.growBy need r c ≤ 2 * need + 192
  | 0, c, h => by simp only [Builtin.growBy]; omega
  | r + 1, c, h => by
    simp only [Builtin.growBy]
    split
    · omega
    · by_cases h2 : c + (c + 768) / 4 < need
      · exact growBy_le need r _ h2
      · cases r with
        | zero => simp only [Builtin.growBy]; omega
        | succ r =>
          simp only [Builtin.growBy]
          rw [if_pos (by omega)]
          omega

theorem nextcap_le {need cap : Nat} (h : cap < need) : Builtin.nextslicecap need cap ≤ 2 * need + 192 ∧ (cap < 256 → Builtin.nextslicecap need cap ≤ 2 * need) := by
  unfold Builtin.nextslicecap
  split
  · omega
  · split
    · omega
    · exact ⟨growBy_le need 4 cap h, fun h' => by omega⟩

theorem nextcap_bytes {need cap bytes : Nat} (h : cap < need) (hb : need * bytes ≤ 70368744177664) : ¬ Builtin.nextslicecap need cap * bytes > 2 ^ 48 := by
  have h1 := nextcap_le h
  by_cases hc : cap < 256
  · have h2 := Nat.mul_le_mul_right bytes (h1.2 hc)
    rw [Nat.mul_assoc] at h2
    omega
  · have h2 := Nat.mul_le_mul_right bytes (show Builtin.nextslicecap need cap ≤ 3 * need by have := h1.1; omega)
    rw [Nat.mul_assoc] at h2
    omega

variable (H : TabOk P ti)
include H

theorem zeroCells_get {e : TypeId} {w : World} {z : Value} (hz : (zeroValue e).run P w = .ok z w) (hok : (ti e).ok = true) : z.cells.size = (ti e).size ∧ z.cells.toList = (ti e).lv.map Lt.zv := by
  obtain ⟨z', hz', hzc'⟩ := run_zeroValue H hok w
  have : z' = z := by rw [hz'] at hz; injection hz
  subst this
  exact ⟨by rw [← Array.length_toList, hzc']; simp [TyI.size], hzc'⟩

omit H in
theorem zeroCells_size (z : Array Value) (n : Nat) : (Builtin.zeroCells z n).size = n * z.size := by simp [Builtin.zeroCells]

section
variable {w : World} {argTypes : Array TypeId} {sT xT ty e : TypeId} {A : Option Addr} {sLen sCap n : Nat} {x : Value} {new : Array Value}

/-- The appended cells, from a slice or as zeros. -/
structure Src (P : Program) (ti : TypeId → TyI) (w : World) (xT e : TypeId) (x : Value) (n : Nat) (new : Array Value) : Prop where
  kind : (∃ e', P.underlying xT = some (.slice e') ∧ (∀ w', (Builtin.lenOf x).run P w' = .ok n w') ∧ ∀ w', w'.heap = w.heap → (Builtin.firstCells (ti e).size n x).run P w' = .ok new w') ∨
    (∃ k, P.underlying xT = some (.int k) ∧ x = .int .i64 n ∧ n < maxN ∧ (n : Int) * (ti e).bytes ≤ limB ∧ ∃ z, (∀ w', (zeroValue e).run P w' = .ok z w') ∧ (if n * (ti e).size = 0 then new = #[] else new = Builtin.zeroCells z.cells n))

omit H in
theorem wrap_nat {n : Nat} (h : n < maxN) : IntKind.i64.wrap (n : Int) = n := by
  unfold maxN at h
  unfold IntKind.wrap
  simp [IntKind.bits, IntKind.signed]
  omega

theorem run_append_in (h0 : argTypes[0]? = some sT) (h1 : argTypes[1]? = some xT) (hu : P.underlying sT = some (.slice e)) (heok : (ti e).ok = true) (hs : Src P ti w xT e x n new) (hfit : sLen + n ≤ sCap) {w2 : World}
    (hst : (match A with | some a => storeCells (a.add (sLen * (ti e).size)) new.toList | none => pure () : Sem Unit).run P w = .ok () w2) :
    (Builtin.append_ argTypes ty #[.slice A sLen sCap, x]).run P w = .ok (.slice A (sLen + n) sCap) w2 := by
  rcases hs.kind with ⟨e', hx, hl, hf⟩ | ⟨k, hx, rfl, hlt, hby, z, hz, hnew⟩
  · cases A with
    | none =>
      simp only [Sem.run_pure, Result.ok.injEq, true_and] at hst
      subst hst
      simp [Builtin.append_, h0, h1, run_und hu, run_und hx, run_sizeOf H heok, hl, hfit, hf w rfl]
    | some a => simp [Builtin.append_, h0, h1, run_und hu, run_und hx, run_sizeOf H heok, hl, hfit, hf w rfl, hst]
  · obtain ⟨i, hti, hib, his, _⟩ := run_typeInfo H heok w
    have hw := wrap_nat hlt
    have hbig' : ¬ ((281474976710656 : Int) < (n : Int) * (i.bytes : Int)) := by
      rw [hib]
      unfold limB at hby
      omega
    have hneg : ¬ ((n : Int) < 0) := by omega
    by_cases hz0 : n * (ti e).size = 0
    · rw [if_pos hz0] at hnew
      subst hnew
      cases A with
      | none =>
        simp only [Sem.run_pure, Result.ok.injEq, true_and] at hst
        subst hst
        simp [Builtin.append_, h0, h1, run_und hu, run_und hx, run_sizeOf H heok, asInt, asIntOf, hw, hti, hfit, hz0, hbig', hneg]
      | some a => simp [Builtin.append_, h0, h1, run_und hu, run_und hx, run_sizeOf H heok, asInt, asIntOf, hw, hti, hfit, hz0, hst, hbig', hneg]
    · rw [if_neg hz0] at hnew
      subst hnew
      cases A with
      | none =>
        simp only [Sem.run_pure, Result.ok.injEq, true_and] at hst
        subst hst
        simp [Builtin.append_, h0, h1, run_und hu, run_und hx, run_sizeOf H heok, asInt, asIntOf, hw, hti, hfit, hz, hbig', hneg]
      | some a => simp [Builtin.append_, h0, h1, run_und hu, run_und hx, run_sizeOf H heok, asInt, asIntOf, hw, hti, hfit, hz0, hz, hst, hbig', hneg]

theorem run_append_out (h0 : argTypes[0]? = some sT) (h1 : argTypes[1]? = some xT) (hu : P.underlying sT = some (.slice e)) (heok : (ti e).ok = true) (hs : Src P ti w xT e x n new) (hfit : ¬ sLen + n ≤ sCap)
    (hby : ((sLen + n : Nat) : Int) * (ti e).bytes ≤ limB) (hpos : 0 < (ti e).bytes) (hmax : sLen + n < 562949953421312) {old : Array Value} (hold : ∀ w', w'.heap = w.heap → (Builtin.firstCells (ti e).size sLen (.slice A sLen sCap)).run P w' = .ok old w') {z : Value} (hz : ∀ w', (zeroValue e).run P w' = .ok z w') :
    ∃ newCap, sLen + n ≤ newCap ∧ (Builtin.append_ argTypes ty #[.slice A sLen sCap, x]).run P w =
      .ok (.slice (some ⟨w.heap.size, 0, none⟩) (sLen + n) newCap) ((w.drew).alloc (.cells (old ++ new ++ Builtin.zeroCells z.cells (newCap - (sLen + n))) e (0, 0))) := by
  obtain ⟨i, hti, hib, his, _⟩ := run_typeInfo H heok w
  have hi64 : ¬ (((sLen + n : Nat) : Int) > IntKind.i64.max ∧ ((False ∨ True) ∨ i.bytes = 0)) := by
    have : IntKind.i64.max = 9223372036854775807 := by decide
    omega
  have hi64' : ¬ ((9223372036854775807 : Int) < ((sLen : Int) + (n : Int))) := by omega
  have hnc := nextcap_bytes (need := sLen + n) (cap := sCap) (bytes := i.bytes) (by omega) (by rw [hib]; unfold limB at hby; rw [← Int.natCast_mul] at hby; omega)
  have hnc' : ¬ (281474976710656 < Builtin.nextslicecap (sLen + n) sCap * i.bytes) := by omega
  have hforced : (Question.appendCap (sLen + n) sCap e).forced = false := rfl
  refine ⟨(Question.appendCap (sLen + n) sCap e).cut (w.tape w.drawn (Question.appendCap (sLen + n) sCap e)), by show sLen + n ≤ sLen + n + _; omega, ?_⟩
  have hdh : (w.drew).heap = w.heap := rfl
  have hold' := hold w.drew hdh
  have hti' : (typeInfo e).run P w.drew = .ok i w.drew := by
    obtain ⟨i', hti2, _⟩ := run_typeInfo H heok w.drew
    have : i' = i := by
      simp only [typeInfo, Sem.run_bind, run_program, Result.andThen_ok] at hti2 hti
      cases hP : P.info? e with
      | none => rw [hP] at hti; simp at hti
      | some i2 =>
        rw [hP] at hti hti2
        simp only [Sem.run_pure] at hti hti2
        injection hti with e1 _
        injection hti2 with e2 _
        rw [← e1, ← e2]
    rw [← this]; exact hti2
  rcases hs.kind with ⟨e', hx, hl, hf⟩ | ⟨k, hx, rfl, hlt, hby2, z2, hz2, hnew⟩
  · have hf' := hf w.drew hdh
    have hb0 : ¬ i.bytes = 0 := by omega
    simp [Builtin.append_, h0, h1, run_und hu, run_und hx, run_sizeOf H heok, hl, hfit, hti, hb0, hnc', Question.forced, hti', hold', hf', hz, newRow]
  · have hw := wrap_nat hlt
    have hneg : ¬ ((n : Int) < 0) := by omega
    have hbig' : ¬ ((281474976710656 : Int) < (n : Int) * (i.bytes : Int)) := by
      rw [hib]
      unfold limB at hby2
      omega
    have hzz : z2 = z := by
      have := hz2 w
      rw [hz w] at this
      injection this with e1 _
      exact e1.symm
    subst hzz
    by_cases hz0 : n * (ti e).size = 0
    · rw [if_pos hz0] at hnew
      subst hnew
      simp [Builtin.append_, h0, h1, run_und hu, run_und hx, run_sizeOf H heok, asInt, asIntOf, hw, hneg, hbig', hfit, hti, hi64', hnc', Question.forced, hti', hold', hz, newRow, hz0]
    · rw [if_neg hz0] at hnew
      subst hnew
      simp [Builtin.append_, h0, h1, run_und hu, run_und hx, run_sizeOf H heok, asInt, asIntOf, hw, hneg, hbig', hfit, hti, hi64', hnc', Question.forced, hti', hold', hz, newRow, hz0]

end

end
end Go.KX
/- Operations: append, on abstract states. -/
namespace Go.KX
open Go.RowKit

section
variable {P : Program} {ti : TypeId → TyI}

theorem Holds.pad {im : Nat → Prop} {w : World} {e : TypeId} {xs : List T} {a : Array Value} (h : Holds ti im w e xs a) (b : Array Value) {i j : Nat} (hi : i < xs.length) (hj : j < (ti e).size) :
    RL ti im w ((ti e).lv.getD j .fn) ((ti e).leaf (xs.getD i (.i 0)) j) ((a ++ b).getD (i * (ti e).size + j) undef) := by
  have h1 := le_mul_row (sz := (ti e).size) hi (Nat.le_refl _) hj
  have e1 : (a ++ b).getD (i * (ti e).size + j) undef = a.getD (i * (ti e).size + j) undef := by
    simp [Array.getElem?_append_left (show i * (ti e).size + j < a.size by rw [h.1]; exact h1)]
  rw [e1]
  exact h.2 i j hi hj

theorem RX.own_mk {g : Gh} {w : World} {e : TypeId} {r n cp : Nat} {A : Option Addr} (hn : r < g.nr) (hl : g.len r = n) (hc : g.cap r = cp) (h : g.addr r 0 (ti e).size A) : RX ti g w (.own e r) (.slice A n cp) := by
  subst hl hc
  exact .own hn h

/-- The region's record is written down anew. -/
theorem Sim.same {c : Ctx} {s : St} {ts : List (Array Value)} {g : Gh} {w : World} (hs : Sim ti c s ts g w) {r : Nat} {R : Reg} (hr : r < g.nr) (hR : RegOk ti g w r R) : Sim ti c (s.setR r R) ts g w := by
  have := hs.upd hr (Mor.refl g w) (fun _ _ => rfl) rfl hs.im hs.own (fun q b _ h => ⟨h, rfl⟩) hR hs.fm
  rwa [St.ren_some] at this

theorem Holds.nil {im : Nat → Prop} {w : World} {e : TypeId} : Holds ti im w e [] #[] := ⟨by simp, fun i j hi => by simp at hi⟩

theorem Holds.empty {im : Nat → Prop} {w : World} {e : TypeId} {xs : List T} {a : Array Value} (h : Holds ti im w e xs a) (h0 : xs.length = 0) : a = #[] := by
  have := h.1
  rw [h0] at this
  exact Array.eq_empty_of_size_eq_zero (by simpa using this)

/-- The cells of a region with a segment of elements written over. -/
theorem RegOk.splice {g g' : Gh} {w w' : World} {r : Nat} {e : TypeId} {xs ys : List T} {new cs : Array Value} {te : TypeId} {at' : Nat} (hloc : g'.loc r = g.loc r) (hcap : g'.cap r = g.cap r) (hown : g'.own (g.loc r).1 = some r)
    (hh : w.heap[(g.loc r).1]? = some (.cells cs te (0, 0))) (hsz : (g.loc r).2 + g.cap r * (ti e).size ≤ cs.size) (hxs : ∀ i j, i < xs.length → j < (ti e).size → RL ti g.im w ((ti e).lv.getD j .fn) ((ti e).leaf (xs.getD i (.i 0)) j) (cs.getD ((g.loc r).2 + i * (ti e).size + j) undef))
    (hnew : Holds ti g.im w e ys new) (hat : at' ≤ xs.length) (hfit : at' + ys.length ≤ g.cap r) (hm : ∀ b, g.im b → g'.im b ∧ w'.heap[b]? = w.heap[b]?)
    {zs : List T} (hz : zs = xs.take at' ++ ys ++ xs.drop (at' + ys.length)) (hlen : g'.len r = zs.length) (hc : zs.length ≤ g.cap r) (hmax : zs.length < maxN)
    (hw : w' = w.setRow (g.loc r).1 ((cs.toList.take ((g.loc r).2 + at' * (ti e).size + 0) ++ new.toList ++ cs.toList.drop ((g.loc r).2 + at' * (ti e).size + 0 + new.toList.length)).toArray)) :
    RegOk ti g' w' r (.arr e zs) := by
  have hnl : new.toList.length = ys.length * (ti e).size := by simpa using hnew.1
  have hfit2 : (g.loc r).2 + at' * (ti e).size + 0 + new.toList.length ≤ cs.size := by
    have := Nat.mul_le_mul_right (ti e).size hfit
    rw [Nat.add_mul] at this
    rw [hnl]; omega
  refine .arr hlen (by rw [hcap]; exact hc) hmax (fun _ => ⟨_, te, by rw [hloc]; exact hown, by rw [hloc, hw]; exact setRow_heap w _ cs _ te _ hh, ?_, fun i j hi hj => ?_⟩)
  · rw [size_splice_arr _ _ _ hfit2, hloc, hcap]; exact hsz
  · rw [hloc, getD_splice_arr _ _ _ _ hfit2, hnl]
    have htl : (xs.take at').length = at' := by simp; omega
    by_cases h1 : i < at'
    · have hlt : (i + 1) * (ti e).size ≤ at' * (ti e).size := Nat.mul_le_mul_right _ (by omega)
      rw [Nat.add_mul, Nat.one_mul] at hlt
      rw [if_neg (by omega)]
      have e1 : zs.getD i (.i 0) = xs.getD i (.i 0) := by
        rw [hz]
        simp [List.getElem?_append_left (show i < (xs.take at').length by omega), h1]
      rw [e1]
      exact (hxs i j (by omega) hj).mono hm
    · by_cases h2 : i < at' + ys.length
      · have hlo : at' * (ti e).size ≤ i * (ti e).size := Nat.mul_le_mul_right _ (by omega)
        have hhi := le_mul_row (sz := (ti e).size) (i := i - at') (n := ys.length) (by omega) (Nat.le_refl _) hj
        have hsub : (i - at') * (ti e).size = i * (ti e).size - at' * (ti e).size := Nat.sub_mul _ _ _
        rw [if_pos (by omega)]
        have e1 : zs.getD i (.i 0) = ys.getD (i - at') (.i 0) := by
          rw [hz]
          rw [List.getD_eq_getElem?_getD, List.getElem?_append_left (by simp; omega), List.getElem?_append_right (by omega), htl]
          simp
        have e2 : (g.loc r).2 + i * (ti e).size + j - ((g.loc r).2 + at' * (ti e).size + 0) = (i - at') * (ti e).size + j := by omega
        rw [e1, e2]
        have := hnew.2 (i - at') j (by omega) hj
        have e3 : new.toList.getD ((i - at') * (ti e).size + j) undef = new.getD ((i - at') * (ti e).size + j) undef := by simp
        rw [e3]
        exact this.mono hm
      · have hlo : (at' + ys.length) * (ti e).size ≤ i * (ti e).size := Nat.mul_le_mul_right _ (by omega)
        rw [Nat.add_mul] at hlo
        rw [if_neg (by omega)]
        have hlz : zs.length = max xs.length (at' + ys.length) := by rw [hz]; simp; omega
        have hix : i < xs.length := by omega
        have e1 : zs.getD i (.i 0) = xs.getD i (.i 0) := by
          rw [hz]
          rw [List.getD_eq_getElem?_getD, List.getElem?_append_right (by simp; omega)]
          simp only [List.length_append, htl, List.getElem?_drop]
          have : at' + ys.length + (i - (at' + ys.length)) = i := by omega
          rw [this]
          simp
        rw [e1]
        exact (hxs i j hix hj).mono hm

variable (H : TabOk P ti)
include H

set_option maxHeartbeats 2000000 in
theorem appendK_ok {R : Type} {res : R} {c : Ctx} {s : St} {ts : List (Array Value)} {g : Gh} {w : World} (hs : Sim ti c s ts g w) {e : TypeId} {x : X} {vx vy : Value} {ys : List T} {new : Array Value} {K : X → St → Option R}
    {argTypes : Array TypeId} {sT xT ty : TypeId} (h0 : argTypes[0]? = some sT) (h1 : argTypes[1]? = some xT) (hu : P.underlying sT = some (.slice e)) (heok : (ti e).ok = true)
    (h : appendK ti e x ys s K = some res) (hx : RX ti g w x vx) (hsrc : Src P ti w xT e vy ys.length new) (hnew : Holds ti g.im w e ys new) (hyl : ys.length < maxN) :
    ∃ y s' v w' g', K y s' = some res ∧ (Builtin.append_ argTypes ty #[vx, vy]).run P w = .ok v w' ∧ Sim ti c s' ts g' w' ∧ RX ti g' w' y v := by
  unfold appendK at h
  have hzv : ∃ z, (∀ w', (zeroValue e).run P w' = .ok z w') ∧ z.cells.size = (ti e).size := by
    obtain ⟨z, hz, hzc⟩ := run_zeroValue H heok w
    refine ⟨z, fun w' => ?_, by rw [← Array.length_toList, hzc]; simp [TyI.size]⟩
    obtain ⟨i, hi, _⟩ := (H e heok).info
    simp only [zeroValue, typeInfo, Sem.run_bind, run_program, Result.andThen_ok, hi, Sem.run_pure] at hz ⊢
    cases hiz : i.zero with
    | none => rw [hiz] at hz; simp at hz
    | some z' =>
      rw [hiz] at hz
      simp only [Sem.run_pure] at hz ⊢
      injection hz with e1 _
      rw [e1]
  obtain ⟨z, hz, hzs⟩ := hzv
  cases hx with
  | @nil A =>
    simp only at h
    split at h
    · rename_i hbp
      split at h
      · rename_i hlim
        have hd : (w.drew).heap = w.heap := rfl
        by_cases hn0 : ys.length = 0
        · have hne := hnew.empty hn0
          subst hne
          have hys : ys = [] := List.eq_nil_of_length_eq_zero hn0
          subst hys
          obtain ⟨g', k1, k2, _⟩ := hs.newArr0 e A
          refine ⟨_, _, _, w, g', h, run_append_in H h0 h1 hu heok hsrc (by simp) (by cases A <;> simp [storeCells]), k1, by simpa using k2⟩
        · have hold : ∀ w', w'.heap = w.heap → (Builtin.firstCells (ti e).size 0 (.slice A 0 0)).run P w' = .ok #[] w' := fun w' _ => by
            cases A <;> simp [Builtin.firstCells, loadCells, loadCellsFrom]
          obtain ⟨nc, hnc, hrun⟩ := run_append_out H (ty := ty) h0 h1 hu heok hsrc (sLen := 0) (sCap := 0) (A := A) (by omega) (by simpa using hlim) hbp.1 (by unfold maxN at hyl; omega) hold hz
          obtain ⟨hs', m'⟩ := hs.drew (w' := w.drew) rfl rfl rfl rfl
          have hn' := hnew.mono (im' := g.im) (w' := w.drew) m'.im
          obtain ⟨g', k1, k2, _⟩ := hs'.newArr (e := e) (xs := ys) (vs := #[] ++ new ++ Builtin.zeroCells z.cells (nc - (0 + ys.length))) e (cap := nc) (by omega) hyl (by
              rw [Array.size_append, Array.size_append, zeroCells_size, hnew.1, hzs]
              simp
              rw [← Nat.add_mul]
              exact Nat.mul_le_mul_right _ (by omega)) (fun i j hi hj => by
              have := hn'.pad (Builtin.zeroCells z.cells (nc - (0 + ys.length))) hi hj
              simpa using this)
          exact ⟨_, _, _, _, g', h, hrun, k1, by simpa using k2⟩
      · cases h
    · cases h
  | @own e1 r A hn ha =>
    simp only at h
    split at h
    · rename_i e2 xs heq
      split at h
      · rename_i he
        obtain ⟨rfl, rfl, hbp, _⟩ := he
        split at h
        · rename_i hlim
          have hR : RegOk ti g w r (.arr e2 xs) := heq ▸ hs.reg r hn
          have hel := hR.elems (off := 0) (len := g.len r) ha (by omega)
          cases hR with
          | arr hl hc hmx hm =>
            simp only [List.drop_zero, hl, List.take_length, Nat.sub_zero] at hel
            have hmax : (xs ++ ys).length < maxN := by
              simp only [List.length_append]
              unfold limB at hlim
              unfold maxN
              have : ((xs.length + ys.length : Nat) : Int) * 1 ≤ ((xs.length + ys.length : Nat) : Int) * ((ti e2).bytes : Int) := Int.mul_le_mul_of_nonneg_left (by omega) (by omega)
              omega
            by_cases hfit : g.len r + ys.length ≤ g.cap r
            · by_cases hcz : g.cap r = 0
              · have hn0 : ys.length = 0 := by omega
                have hne := hnew.empty hn0
                subst hne
                have hys : ys = [] := List.eq_nil_of_length_eq_zero hn0
                subst hys
                have hxs : xs = [] := List.eq_nil_of_length_eq_zero (by omega)
                subst hxs
                obtain ⟨k1, m⟩ := hs.relen (r := r) (R := .arr e2 ([] ++ [])) 0 hn (fun m => .arr (by simp [Gh.setLen]) (by simp [Gh.setLen]) (by decide) (fun hp => by simp only [Gh.setLen] at hp; omega))
                refine ⟨_, _, _, w, _, h, run_append_in H h0 h1 hu heok hsrc hfit (by cases A <;> simp [storeCells]), k1, ?_⟩
                exact RX.own_mk hn (by simp [Gh.setLen]; omega) rfl ha
              · obtain ⟨cs, te, a1, a2, a3, a4⟩ := hm (by omega)
                have hA := ha (by omega)
                subst hA
                have hfit2 : (g.loc r).2 + g.len r * (ti e2).size + 0 + new.toList.length ≤ cs.size := by
                  have := Nat.mul_le_mul_right (ti e2).size hfit
                  rw [Nat.add_mul] at this
                  have hnl : new.toList.length = ys.length * (ti e2).size := by simpa using hnew.1
                  rw [hnl]; omega
                have hrun := run_storeCells_at P (g.loc r).1 ((g.loc r).2 + g.len r * (ti e2).size) te new.toList 0 cs w a2 hfit2 hnew.oneCell
                obtain ⟨k1, m⟩ := hs.writeLen (r := r) (R := .arr e2 (xs ++ ys)) (xs ++ ys).length hn a1 _ (fun m => RegOk.splice (g := g) (g' := g.setLen r (xs ++ ys).length) (w := w) (at' := xs.length) rfl rfl a1 a2 a3 a4 hnew (Nat.le_refl _) (by omega) m.im
                  (by simp) (by simp [Gh.setLen]) (by simp; omega) hmax rfl)
                rw [hl] at hrun
                refine ⟨_, _, _, _, _, h, run_append_in H h0 h1 hu heok hsrc hfit (w2 := _) (by simpa [addr_add, hl] using hrun), by simpa using k1, ?_⟩
                exact RX.own_mk hn (by simp [Gh.setLen, hl]) rfl ha
            · obtain ⟨old, hold, ho2⟩ : ∃ old, (∀ w' : World, w'.heap = w.heap → (Builtin.firstCells (ti e2).size (g.len r) (.slice A (g.len r) (g.cap r))).run P w' = .ok old w') ∧ Holds ti g.im w e2 xs old := by
                have := firstCells_ok (P := P) hel (n := xs.length) (Nat.le_refl _)
                rw [List.take_length] at this
                rw [hl]; exact this
              obtain ⟨nc, hnc, hrun⟩ := run_append_out H (ty := ty) h0 h1 hu heok hsrc (sLen := g.len r) (sCap := g.cap r) (A := A) hfit (by rw [hl]; exact hlim) hbp (by unfold maxN at hyl hmx; omega) hold hz
              obtain ⟨hs', m'⟩ := hs.drew (w' := w.drew) rfl rfl rfl rfl
              have hn' := (ho2.append hnew).mono (im' := g.im) (w' := w.drew) m'.im
              obtain ⟨k1, m⟩ := hs'.move (r := r) (cap := nc) (n := (xs ++ ys).length) (R := .arr e2 (xs ++ ys)) hn (old ++ new ++ Builtin.zeroCells z.cells (nc - (g.len r + ys.length))) e2 (fun m => by
                refine .arr (by simp [Gh.move]) (by simp [Gh.move]; omega) hmax (fun hp => ⟨_, e2, by simp [Gh.move], by simp only [Gh.move, if_true]; exact alloc_last w.drew _, ?_, fun i j hi hj => ?_⟩)
                · simp only [Gh.move, if_true]
                  rw [Array.size_append, Array.size_append, zeroCells_size, hnew.1, ho2.1, hzs]
                  simp
                  rw [← Nat.add_mul, ← Nat.add_mul]
                  exact Nat.mul_le_mul_right _ (by omega)
                · simp only [Gh.move, if_true, Nat.zero_add]
                  exact (hn'.pad _ hi hj).mono m.im)
              refine ⟨_, _, _, _, _, h, hrun, k1, ?_⟩
              exact RX.own_mk hn (by simp [Gh.move, hl]) (by simp [Gh.move]) (by unfold Gh.addr; simp [Gh.move])
        · cases h
      · cases h
    · cases h
  | @ref e1 r off len A hn ha hlr =>
    simp only at h
    split at h
    · rename_i e2 xs heq
      split at h
      · rename_i he
        obtain ⟨rfl, rfl⟩ := he
        split at h
        · rename_i hfit
          have hR : RegOk ti g w r (.arr e2 xs) := heq ▸ hs.reg r hn
          cases hR with
          | arr hl hc hmx hm =>
            by_cases hcz : g.cap r - off = 0
            · have hn0 : ys.length = 0 := by omega
              have hne := hnew.empty hn0
              subst hne
              have hys : ys = [] := List.eq_nil_of_length_eq_zero hn0
              subst hys
              have hxs : xs.take (off + len) ++ [] ++ xs.drop (off + len + ([] : List T).length) = xs := by simp
              rw [hxs] at h
              refine ⟨_, _, _, w, g, h, run_append_in H h0 h1 hu heok hsrc (by omega) (by cases A <;> simp [storeCells]), hs.same hn (.arr hl hc hmx hm), ?_⟩
              exact .ref hn ha (by omega)
            · obtain ⟨cs, te, a1, a2, a3, a4⟩ := hm (by omega)
              have hA := ha (by omega)
              subst hA
              have hfit2 : (g.loc r).2 + (off + len) * (ti e2).size + 0 + new.toList.length ≤ cs.size := by
                have := Nat.mul_le_mul_right (ti e2).size (show off + len + ys.length ≤ g.cap r by omega)
                rw [Nat.add_mul] at this
                have hnl : new.toList.length = ys.length * (ti e2).size := by simpa using hnew.1
                rw [hnl]; omega
              have hrun := run_storeCells_at P (g.loc r).1 ((g.loc r).2 + (off + len) * (ti e2).size) te new.toList 0 cs w a2 hfit2 hnew.oneCell
              obtain ⟨k1, m⟩ := hs.write (r := r) (R := .arr e2 (xs.take (off + len) ++ ys ++ xs.drop (off + len + ys.length))) hn a1 _ (fun m => RegOk.splice (g := g) (g' := g) (w := w) (at' := off + len) rfl rfl a1 a2 a3 a4 hnew (by omega) (by omega) m.im
                rfl (by simp; omega) (by simp; omega) (by simp; omega) rfl)
              refine ⟨_, _, _, _, g, h, run_append_in H h0 h1 hu heok hsrc (by omega) (w2 := _) (by simpa [addr_add, Nat.add_mul, Nat.add_assoc] using hrun), k1, ?_⟩
              exact .ref hn ha (by omega)
        · cases h
      · cases h
    · cases h
  | _ => simp at h

end
end Go.KX
/- Operations: slice literals. -/
namespace Go.KX
open Go.RowKit

section
variable {P : Program} {ti : TypeId → TyI}

theorem fillS (sz n : Nat) : ∀ (vs : List (Nat × Value)) (cs : Array Value), (∀ p ∈ vs, p.2.cells.size = sz ∧ p.1 < n) → vs.Pairwise (fun a b => a.1 ≠ b.1) → cs.size = n * sz →
    ∃ cs', Instr.fill (fun i => some (i * sz, sz)) cs vs = some cs' ∧ cs'.size = n * sz ∧
      ∀ i j, i < n → j < sz → (∀ v, (i, v) ∈ vs → cs'.getD (i * sz + j) undef = v.cells.getD j undef) ∧ ((∀ v, (i, v) ∉ vs) → cs'.getD (i * sz + j) undef = cs.getD (i * sz + j) undef)
  | [], cs, _, _, hc => ⟨cs, rfl, hc, fun i j _ _ => ⟨fun v hv => by simp at hv, fun _ => rfl⟩⟩
  | (k, v) :: vs, cs, h, hp, hc => by
    obtain ⟨h1, h2⟩ := h (k, v) (by simp)
    simp only at h1 h2
    have hfit : k * sz + 0 + v.cells.toList.length ≤ cs.size := by
      have := le_mul_row (sz := sz + 1) h2 (Nat.le_refl n) (show 0 < sz + 1 by omega)
      have h3 : (k + 1) * sz ≤ n * sz := Nat.mul_le_mul_right _ (by omega)
      rw [Nat.add_mul, Nat.one_mul] at h3
      simp; omega
    have hfold : v.cells.zipIdx.foldl (fun cs (p : Value × Nat) => cs.setIfInBounds (k * sz + p.2) p.1) cs = (v.cells.toList.zipIdx 0).foldl (fun cs (p : Value × Nat) => cs.setIfInBounds (k * sz + p.2) p.1) cs := by
      rw [← Array.foldl_toList, Array.toList_zipIdx]
    obtain ⟨cs', i1, i2, i3⟩ := fillS sz n vs ((v.cells.toList.zipIdx 0).foldl (fun cs (p : Value × Nat) => cs.setIfInBounds (k * sz + p.2) p.1) cs) (fun p hp => h p (by simp [hp])) (List.pairwise_cons.1 hp).2 (by rw [fold_size]; exact hc)
    refine ⟨cs', ?_, i2, fun i j hi hj => ⟨fun u hu => ?_, fun hno => ?_⟩⟩
    · unfold Instr.fill
      have e0 : (decide (v.cells.size ≠ sz) || decide (k * sz + v.cells.size > cs.size)) = false := by
        have : v.cells.toList.length = v.cells.size := by simp
        simp; omega
      simp only [e0]
      simp only [Bool.false_eq_true, if_false]
      rw [← hfold] at i1
      exact i1
    · rcases List.mem_cons.1 hu with heq | hmem
      · cases heq
        have hnot : ∀ u, (k, u) ∉ vs := fun u hu => (List.pairwise_cons.1 hp).1 (k, u) hu rfl
        rw [(i3 k j hi hj).2 hnot, fold_get _ _ _ _ _ hfit]
        have : v.cells.toList.length = sz := by simpa using h1
        rw [if_pos (by omega)]
        have e1 : k * sz + j - (k * sz + 0) = j := by omega
        rw [e1]
        simp
      · exact (i3 i j hi hj).1 u hmem
    · rw [(i3 i j hi hj).2 (fun u hu => hno u (by simp [hu])), fold_get _ _ _ _ _ hfit]
      have hne : i ≠ k := fun e => hno v (by simp [e])
      have : v.cells.toList.length = sz := by simpa using h1
      rw [if_neg]
      rcases Nat.lt_or_gt_of_ne hne with hlt | hgt
      · have h3 := Nat.mul_le_mul_right sz (show i + 1 ≤ k by omega)
        rw [Nat.add_mul, Nat.one_mul] at h3
        omega
      · have h3 := Nat.mul_le_mul_right sz (show k + 1 ≤ i by omega)
        rw [Nat.add_mul, Nat.one_mul] at h3
        omega

theorem sortedP_cons {p : Nat × X} {ps : List (Nat × X)} (h : sortedP (p :: ps) = true) : (∀ q ∈ ps, p.1 < q.1) ∧ sortedP ps = true := by
  simp only [sortedP, Bool.and_eq_true, List.all_eq_true, decide_eq_true_eq] at h
  exact h

theorem sortedP_pred : ∀ {ps : List (Nat × X)}, sortedP ps = true → (∀ q ∈ ps, 0 < q.1) → sortedP (ps.map fun p => (p.1 - 1, p.2)) = true
  | [], _, _ => rfl
  | p :: ps, h, hp => by
    obtain ⟨h1, h2⟩ := sortedP_cons h
    simp only [List.map_cons, sortedP, Bool.and_eq_true, List.all_eq_true, decide_eq_true_eq]
    refine ⟨fun q hq => ?_, sortedP_pred h2 (fun q hq => hp q (by simp [hq]))⟩
    obtain ⟨q', hq', rfl⟩ := List.mem_map.1 hq
    have := h1 q' hq'
    have := hp p (by simp)
    simp only
    omega

/-- Parts of a literal and their values. -/
def Al (ti : TypeId → TyI) (g : Gh) (w : World) : List (Nat × X) → List (Nat × Value) → Prop
  | [], [] => True
  | (i, x) :: ps, (j, v) :: vs => i = j ∧ RX ti g w x v ∧ Al ti g w ps vs
  | _, _ => False

theorem Al.still {g g' : Gh} {w : World} (h : Still g g') : ∀ {ps : List (Nat × X)} {vs : List (Nat × Value)}, Al ti g w ps vs → Al ti g' w ps vs
  | [], [], _ => trivial
  | (_, _) :: _, (_, _) :: _, ⟨h1, h2, h3⟩ => ⟨h1, h2.still h, h3.still h⟩
  | [], _ :: _, h => h.elim
  | _ :: _, [], h => h.elim

theorem Al.pred {g : Gh} {w : World} : ∀ {ps : List (Nat × X)} {vs : List (Nat × Value)}, Al ti g w ps vs → Al ti g w (ps.map fun p => (p.1 - 1, p.2)) (vs.map fun p => (p.1 - 1, p.2))
  | [], [], _ => trivial
  | (_, _) :: _, (_, _) :: _, ⟨h1, h2, h3⟩ => ⟨by rw [h1], h2, h3.pred⟩
  | [], _ :: _, h => h.elim
  | _ :: _, [], h => h.elim

theorem Al.pos {g : Gh} {w : World} {k : Nat} : ∀ {ps : List (Nat × X)} {vs : List (Nat × Value)}, Al ti g w ps vs → (∀ q ∈ ps, k < q.1) → ∀ q ∈ vs, k < q.1
  | [], [], _, _ => fun q hq => by simp at hq
  | (_, _) :: _, (_, _) :: _, ⟨h1, h2, h3⟩, hp => fun q hq => by
    rcases List.mem_cons.1 hq with rfl | hq
    · have := hp _ (List.mem_cons_self ..)
      simp only at this ⊢
      omega
    · exact h3.pos (fun q hq => hp q (by simp [hq])) q hq
  | [], _ :: _, h, _ => h.elim
  | _ :: _, [], h, _ => h.elim

variable (H : TabOk P ti)
include H

theorem partsK_ok {R : Type} {res : R} {c : Ctx} {ts : List (Array Value)} {w : World} {e : TypeId} (heok : (ti e).ok = true) : ∀ (n : Nat) (ps : List (Nat × X)) (s : St) (K : List T → St → Option R) (g : Gh) (vs : List (Nat × Value)),
    partsK ti e n ps s K = some res → Sim ti c s ts g w → Al ti g w ps vs → sortedP ps = true →
    ∃ us s' g', K us s' = some res ∧ Sim ti c s' ts g' w ∧ Still g g' ∧ us.length = n ∧ (∀ p ∈ vs, p.2.cells.size = (ti e).size ∧ p.1 < n) ∧ vs.Pairwise (fun a b => a.1 ≠ b.1) ∧
      ∀ i, i < n → (∀ v, (i, v) ∈ vs → ∀ j, j < (ti e).size → RL ti g'.im w ((ti e).lv.getD j .fn) ((ti e).leaf (us.getD i (.i 0)) j) (v.cells.getD j undef)) ∧ ((∀ v, (i, v) ∉ vs) → us.getD i (.i 0) = (ti e).zt)
  | 0, [], s, K, g, [], h, hs, _, _ => ⟨[], s, g, h, hs, Still.refl g, rfl, by simp, .nil, fun i hi => by omega⟩
  | 0, [], _, _, _, _ :: _, _, _, ha, _ => ha.elim
  | 0, _ :: _, _, _, _, _, h, _, _, _ => by simp [partsK] at h
  | n + 1, [], s, K, g, vs, h, hs, ha, hso => by
    cases vs with
    | cons _ _ => exact ha.elim
    | nil =>
      simp only [partsK] at h
      obtain ⟨us, s', g', k1, k2, k3, k4, k5, k6, k7⟩ := partsK_ok heok n [] s _ g [] h hs trivial rfl
      refine ⟨(ti e).zt :: us, s', g', k1, k2, k3, by simp [k4], by simp, .nil, fun i hi => ⟨fun v hv => by simp at hv, fun _ => ?_⟩⟩
      cases i with
      | zero => rfl
      | succ i => simpa using (k7 i (by omega)).2 (fun v => by simp)
  | n + 1, (i, x) :: ps, s, K, g, vs, h, hs, ha, hso => by
    cases vs with
    | nil => exact ha.elim
    | cons p vs =>
      obtain ⟨i', v⟩ := p
      obtain ⟨rfl, hx, ha'⟩ := ha
      obtain ⟨so1, so2⟩ := sortedP_cons hso
      have hpos := ha'.pos so1
      simp only at so1 hpos
      simp only [partsK] at h
      split at h
      · rename_i hi0
        subst hi0
        split at h
        · rename_i hkn
          obtain ⟨hkn, hlen⟩ := hkn
          obtain ⟨c1, c2⟩ := cells_ok hx (known_ne hkn)
          obtain ⟨τs, s1, g1, a1, a2, a3, a4, a5, a6⟩ := toTs_ok _ _ _ _ g v.cells.toList h hs (by simpa using c1) (fun j hj => by simpa using c2 j hj)
          obtain ⟨us, s', g', k1, k2, k3, k4, k5, k6, k7⟩ := partsK_ok heok n _ s1 _ g1 (vs.map fun p => (p.1 - 1, p.2)) a1 a2 (ha'.still a3).pred (sortedP_pred so2 (fun q hq => by have := so1 q hq; omega))
          refine ⟨(ti e).join τs :: us, s', g', k1, k2, a3.trans k3, by simp [k4], fun p hp => ?_, ?_, fun i hi => ?_⟩
          · rcases List.mem_cons.1 hp with rfl | hp
            · exact ⟨by simp only; omega, by simp⟩
            · have h8 := k5 (p.1 - 1, p.2) (List.mem_map.2 ⟨p, hp, rfl⟩)
              have h9 := hpos p hp
              exact ⟨h8.1, by have := h8.2; simp only at this; omega⟩
          · refine List.pairwise_cons.2 ⟨fun q hq => ?_, ?_⟩
            · have := hpos q hq
              simp only; omega
            · rw [List.pairwise_map] at k6
              refine k6.imp_of_mem (fun {a b} ha hb hab => ?_)
              have := hpos a ha
              have := hpos b hb
              simp only at hab
              omega
          · cases i with
            | zero =>
              refine ⟨fun u hu j hj => ?_, fun hno => absurd (List.mem_cons_self ..) (hno v)⟩
              have hu' : u = v := by
                rcases List.mem_cons.1 hu with h1 | h1
                · cases h1; rfl
                · have := hpos (0, u) h1
                  simp at this
              subst hu'
              have h5 := a6 j (by omega)
              have e1 : (ti e).leaf ((ti e).join τs) j = τs.getD j (.i 0) := by
                have hτ : τs = (List.range (ti e).size).map fun k => τs.getD k (.i 0) := by
                  apply List.ext_getElem
                  · simp; omega
                  · intro k hk1 hk2
                    simp [hk1]
                rw [hτ, leaf_join H heok _ hj]
                simp [hj]
              simp only [List.getD_cons_zero]
              rw [e1]
              have h6 : u.cells.toList.getD j undef = u.cells.getD j undef := by simp
              rw [h6] at h5
              exact h5.mono fun b hb => ⟨k3.im b hb, rfl⟩
            | succ i =>
              obtain ⟨k8, k9⟩ := k7 i (by omega)
              simp only [List.getD_cons_succ]
              refine ⟨fun u hu => ?_, fun hno => k9 (fun u hu => ?_)⟩
              · rcases List.mem_cons.1 hu with h1 | h1
                · cases h1
                · exact k8 u (List.mem_map.2 ⟨(i + 1, u), h1, rfl⟩)
              · obtain ⟨q, hq, he⟩ := List.mem_map.1 hu
                have := hpos q hq
                have e1 : q.1 - 1 = i := congrArg Prod.fst he
                have e2 : q.2 = u := congrArg Prod.snd he
                exact hno u (List.mem_cons_of_mem _ (by
                  have : q = (i + 1, u) := Prod.ext (by simp only; omega) e2
                  rw [← this]; exact hq))
        · cases h
      · rename_i hi0
        obtain ⟨us, s', g', k1, k2, k3, k4, k5, k6, k7⟩ := partsK_ok heok n _ s _ g ((i - 1, v) :: vs.map fun p => (p.1 - 1, p.2)) h hs ⟨rfl, hx, ha'.pred⟩ (by
          have := sortedP_pred (ps := (i, x) :: ps) hso (fun q hq => by
            rcases List.mem_cons.1 hq with rfl | hq
            · simp only; omega
            · have := so1 q hq; omega)
          simpa using this)
        have hmap : ((i - 1, v) :: vs.map fun p => (p.1 - 1, p.2)) = ((i, v) :: vs).map fun p => (p.1 - 1, p.2) := rfl
        rw [hmap] at k5 k6 k7
        have hpos2 : ∀ p ∈ ((i, v) :: vs), 0 < p.1 := fun p hp => by
          rcases List.mem_cons.1 hp with rfl | hp
          · simp only; omega
          · have := hpos p hp; omega
        refine ⟨(ti e).zt :: us, s', g', k1, k2, k3, by simp [k4], fun p hp => ?_, ?_, fun q hq => ?_⟩
        · have h8 := k5 (p.1 - 1, p.2) (List.mem_map.2 ⟨p, hp, rfl⟩)
          have h9 := hpos2 p hp
          exact ⟨h8.1, by have := h8.2; simp only at this; omega⟩
        · rw [List.pairwise_map] at k6
          refine k6.imp_of_mem (fun {a b} ha hb hab => ?_)
          have := hpos2 a ha
          have := hpos2 b hb
          simp only at hab
          omega
        · cases q with
          | zero => exact ⟨fun u hu => by have := hpos2 _ hu; simp at this, fun _ => rfl⟩
          | succ q =>
            obtain ⟨k8, k9⟩ := k7 q (by omega)
            simp only [List.getD_cons_succ]
            refine ⟨fun u hu => k8 u (List.mem_map.2 ⟨(q + 1, u), hu, rfl⟩), fun hno => k9 (fun u hu => ?_)⟩
            obtain ⟨r, hr, he⟩ := List.mem_map.1 hu
            have := hpos2 r hr
            have e1 : r.1 - 1 = q := congrArg Prod.fst he
            have e2 : r.2 = u := congrArg Prod.snd he
            have : r = (q + 1, u) := Prod.ext (by simp only; omega) e2
            rw [this] at hr
            exact hno u hr

theorem buildSlice_ok {R : Type} {res : R} {c : Ctx} {s : St} {ts : List (Array Value)} {g : Gh} {w : World} (hs : Sim ti c s ts g w) {t e : TypeId} (hok : (ti t).ok = true) (hd : (ti t).d = .slice e) (hpl : (ti e).lv.all Lt.plain = true) {len : Nat}
    (hlim : len * (ti e).size ≤ 65536) (hlen : len ≤ 65536) {ps : List (Nat × X)} (hso : sortedP ps = true) {vs : Array (Nat × Value)} {K : X → St → Option R}
    (h : partsK ti e len ps s (fun xs s' => newArr e xs s' K) = some res) (ha : Al ti g w ps vs.toList) :
    ∃ y s' v w' g', K y s' = some res ∧ (Instr.buildSlice t len vs).run P w = .ok v w' ∧ Sim ti c s' ts g' w' ∧ RX ti g' w' y v := by
  obtain ⟨hu, heok, _, _⟩ := und_slice H hok hd
  obtain ⟨us, s', g', k1, k2, k3, k4, k5, k6, k7⟩ := partsK_ok H heok len ps s _ g vs.toList h hs ha hso
  obtain ⟨z, hz, hzc⟩ := run_zeroValue H heok w
  have hzs : z.cells.size = (ti e).size := by rw [← Array.length_toList, hzc]; simp [TyI.size]
  obtain ⟨cs', f1, f2, f3⟩ := fillS (ti e).size len vs.toList ((Array.range (len * (ti e).size)).map (fun j => z.cells[j % z.cells.size]!)) k5 k6 (by simp)
  obtain ⟨g2, n1, n2, _⟩ := k2.newArr (e := e) (xs := us) (vs := cs') e (cap := len) (by omega) (by unfold maxN; omega) (by omega) (fun i j hi hj => by
    have hi' : i < len := by omega
    by_cases hex : ∃ v, (i, v) ∈ vs.toList
    · obtain ⟨v, hv⟩ := hex
      rw [(f3 i j hi' hj).1 v hv]
      exact (k7 i hi').1 v hv j hj
    · have hno : ∀ v, (i, v) ∉ vs.toList := fun v hv => hex ⟨v, hv⟩
      rw [(f3 i j hi' hj).2 hno, (k7 i hi').2 hno, zeros_get hzc rfl hi' hj]
      exact zt_RL H heok hpl _ _ hj)
  refine ⟨_, _, .slice (some ⟨w.heap.size, 0, none⟩) len len, _, g2, k1, ?_, n1, by rw [k4] at n2; exact n2⟩
  have hb : ¬ (len * (ti e).size > 2 ^ 24) := by omega
  simp only [Instr.buildSlice, Sem.run_bind, run_und hu, Result.andThen_ok, run_sizeOf H heok, hb, if_false]
  by_cases hz0 : len * (ti e).size = 0
  · have er : Array.range 0 = #[] := rfl
    have f1' := f1
    rw [hz0, er] at f1'
    simp only [hz0, if_true, er]
    simp only [Array.map_empty] at f1' ⊢
    simp [f1', newRow]
  · simp only [hz0, if_false, Sem.run_bind, hz, Result.andThen_ok, Sem.run_pure, f1, newRow, run_newObj]
    rfl

end
end Go.KX
/- Operations: the built-in functions. -/
namespace Go.KX
open Go.RowKit

section
variable {P : Program} {ti : TypeId → TyI}

theorem lenX_ok {c : Ctx} {s : St} {ts : List (Array Value)} {g : Gh} {w : World} (hs : Sim ti c s ts g w) {x : X} {v : Value} {n : Nat} (hx : RX ti g w x v) (h : lenX s x = some n) : ∃ A cp, v = .slice A n cp ∧ n < maxN := by
  cases hx with
  | nil => simp only [lenX, Option.some.injEq] at h; subst h; exact ⟨_, _, rfl, by decide⟩
  | t h1 =>
    cases h1 with
    | empty he => simp only [lenX, Option.some.injEq] at h; subst h; rw [he]; exact ⟨_, _, rfl, by decide⟩
    | slice cs hb hc hn hcell hr => simp only [lenX, Option.some.injEq] at h; subst h; exact ⟨_, _, rfl, hn⟩
    | _ => simp [lenX] at h
  | @own e r A hn ha =>
    simp only [lenX] at h
    split at h
    · rename_i e2 xs heq
      cases h
      have h0 : RegOk ti g w r (.arr e2 xs) := heq ▸ hs.reg r hn
      cases h0 with
      | arr h1 h2 h3 h4 => rw [h1]; exact ⟨_, _, rfl, h3⟩
    · cases h
  | @ref e r off len A hn ha hl =>
    simp only [lenX] at h
    split at h
    · rename_i e2 xs heq
      cases h
      have h0 : RegOk ti g w r (.arr e2 xs) := heq ▸ hs.reg r hn
      cases h0 with
      | arr h1 h2 h3 h4 => exact ⟨_, _, rfl, by omega⟩
    · cases h
  | _ => simp [lenX] at h

theorem Holds.zeros {im : Nat → Prop} {w : World} {e : TypeId} (H : TabOk P ti) (hok : (ti e).ok = true) (hpl : (ti e).lv.all Lt.plain = true) {z : Value} (hzc : z.cells.toList = (ti e).lv.map Lt.zv) (n : Nat) :
    Holds ti im w e (List.replicate n (ti e).zt) (Builtin.zeroCells z.cells n) := by
  have hzs : z.cells.size = (ti e).size := by rw [← Array.length_toList, hzc]; simp [TyI.size]
  refine ⟨by rw [zeroCells_size, hzs]; simp, fun i j hi hj => ?_⟩
  have hi' : i < n := by simpa using hi
  have e1 : (List.replicate n (ti e).zt).getD i (.i 0) = (ti e).zt := by simp [hi']
  rw [e1]
  unfold Builtin.zeroCells
  rw [zeros_get hzc (by rw [hzs]) hi' hj]
  exact zt_RL H hok hpl _ _ hj

/-- A segment of elements is written over a part of a region. -/
theorem writeSeg {c : Ctx} {s : St} {ts : List (Array Value)} {g : Gh} {w : World} (hs : Sim ti c s ts g w) {e : TypeId} {r off : Nat} {xs ys : List T} {new : Array Value} {A : Option Addr} (hn : r < g.nr) (hR : RegOk ti g w r (.arr e xs))
    (ha : g.addr r off (ti e).size A) (hnew : Holds ti g.im w e ys new) (hfit : off + ys.length ≤ xs.length) :
    ∃ w', (match A with | some a => storeCells a new.toList | none => pure () : Sem Unit).run P w = .ok () w' ∧ Sim ti c (s.setR r (.arr e (xs.take off ++ ys ++ xs.drop (off + ys.length)))) ts g w' := by
  cases hR with
  | arr hl hc hmx hm =>
    by_cases hcz : g.cap r ≤ off
    · have hn0 : ys.length = 0 := by omega
      have hne := hnew.empty hn0
      subst hne
      have hys : ys = [] := List.eq_nil_of_length_eq_zero hn0
      subst hys
      have hxs : xs.take off ++ [] ++ xs.drop (off + ([] : List T).length) = xs := by simp
      rw [hxs]
      exact ⟨w, by cases A <;> simp [storeCells], hs.same hn (.arr hl hc hmx hm)⟩
    · obtain ⟨cs, te, a1, a2, a3, a4⟩ := hm (by omega)
      have hA := ha (by omega)
      subst hA
      have hfit2 : (g.loc r).2 + off * (ti e).size + 0 + new.toList.length ≤ cs.size := by
        have := Nat.mul_le_mul_right (ti e).size (show off + ys.length ≤ g.cap r by omega)
        rw [Nat.add_mul] at this
        have hnl : new.toList.length = ys.length * (ti e).size := by simpa using hnew.1
        rw [hnl]; omega
      have hrun := run_storeCells_at P (g.loc r).1 ((g.loc r).2 + off * (ti e).size) te new.toList 0 cs w a2 hfit2 hnew.oneCell
      obtain ⟨k1, m⟩ := hs.write (r := r) (R := .arr e (xs.take off ++ ys ++ xs.drop (off + ys.length))) hn a1 _ (fun m => RegOk.splice (g := g) (g' := g) (w := w) (at' := off) rfl rfl a1 a2 a3 a4 hnew (by omega) (by omega) m.im
        rfl (by simp; omega) (by simp; omega) (by simp; omega) rfl)
      exact ⟨_, hrun, k1⟩

variable (H : TabOk P ti)
include H

theorem copy_ok {c : Ctx} {s : St} {ts : List (Array Value)} {g : Gh} {w : World} (hs : Sim ti c s ts g w) {e : TypeId} {r off len cp : Nat} {xs ys : List T} {A : Option Addr} {vy : Value} {argTypes : Array TypeId} {sT ty : TypeId}
    (h0 : argTypes[0]? = some sT) (hu : P.underlying sT = some (.slice e)) (heok : (ti e).ok = true) (hn : r < g.nr) (hR : RegOk ti g w r (.arr e xs)) (ha : g.addr r off (ti e).size A) (hfit : off + len ≤ xs.length) (hel : Elems ti g.im w e ys vy) :
    ∃ w', (Builtin.copy_ argTypes ty #[.slice A len cp, vy]).run P w = .ok (.int .i64 (Nat.min ys.length len)) w' ∧
      Sim ti c (s.setR r (.arr e (xs.take off ++ ys.take (Nat.min ys.length len) ++ xs.drop (off + Nat.min ys.length len)))) ts g w' := by
  obtain ⟨new, hrun, hnew⟩ := firstCells_ok (P := P) hel (n := Nat.min ys.length len) (Nat.min_le_left _ _)
  have hl2 : (ys.take (Nat.min ys.length len)).length = Nat.min ys.length len := by simp
  obtain ⟨w', h1, h2⟩ := writeSeg (P := P) hs hn hR ha hnew (by rw [hl2]; have : Nat.min ys.length len ≤ len := Nat.min_le_right _ _; omega)
  rw [hl2] at h2
  refine ⟨w', ?_, h2⟩
  obtain ⟨A', cp', rfl, _⟩ := hel
  have hr := hrun w rfl
  cases A with
  | none =>
    simp only [Sem.run_pure, Result.ok.injEq, true_and] at h1
    subst h1
    simp [Builtin.copy_, h0, run_und hu, Builtin.lenOf, run_sizeOf H heok, hr, goInt]
  | some a => simp [Builtin.copy_, h0, run_und hu, Builtin.lenOf, run_sizeOf H heok, hr, goInt, h1]

theorem clear_ok {c : Ctx} {s : St} {ts : List (Array Value)} {g : Gh} {w : World} (hs : Sim ti c s ts g w) {e : TypeId} {r off len cp : Nat} {xs : List T} {A : Option Addr} {argTypes : Array TypeId} {sT ty : TypeId}
    (h0 : argTypes[0]? = some sT) (hu : P.underlying sT = some (.slice e)) (heok : (ti e).ok = true) (hpl : (ti e).lv.all Lt.plain = true) (hn : r < g.nr) (hR : RegOk ti g w r (.arr e xs)) (ha : g.addr r off (ti e).size A) (hfit : off + len ≤ xs.length) :
    ∃ w', (Builtin.clear_ argTypes ty #[.slice A len cp]).run P w = .ok (.tuple #[]) w' ∧
      Sim ti c (s.setR r (.arr e (xs.take off ++ List.replicate len (ti e).zt ++ xs.drop (off + len)))) ts g w' := by
  obtain ⟨z, hz, hzc⟩ := run_zeroValue H heok w
  have hnew := Holds.zeros (im := g.im) (w := w) H heok hpl hzc len
  obtain ⟨w', h1, h2⟩ := writeSeg (P := P) hs hn hR ha hnew (by simpa using hfit)
  rw [List.length_replicate] at h2
  refine ⟨w', ?_, h2⟩
  cases A with
  | none =>
    simp only [Sem.run_pure, Result.ok.injEq, true_and] at h1
    subst h1
    simp [Builtin.clear_, h0, run_und hu]
  | some a =>
    cases len with
    | zero =>
      have e0 : Builtin.zeroCells z.cells 0 = #[] := by
        have := zeroCells_size z.cells 0
        exact Array.eq_empty_of_size_eq_zero (by simpa using this)
      rw [e0] at h1
      simp only [storeCells, Sem.run_pure, Result.ok.injEq, true_and] at h1
      subst h1
      simp [Builtin.clear_, h0, run_und hu]
    | succ n => simp [Builtin.clear_, h0, run_und hu, hz, h1]

end
end Go.KX
/- Every operation that calls no function. -/
namespace Go.KX
open Go.RowKit

section
variable {P : Program} {ti : TypeId → TyI}

theorem min2_ok {k : IntKind} {a b : Int} {w : World} {at' : Array TypeId} {ty : TypeId} : (Builtin.min_ at' ty #[.int k a, .int k b]).run P w = .ok (.int k (minI a b)) w := by
  simp [Builtin.min_, Builtin.min2, minI]
theorem max2_ok {k : IntKind} {a b : Int} {w : World} {at' : Array TypeId} {ty : TypeId} : (Builtin.max_ at' ty #[.int k a, .int k b]).run P w = .ok (.int k (maxI a b)) w := by
  simp [Builtin.max_, Builtin.max2, maxI]

variable (H : TabOk P ti)
include H

set_option maxHeartbeats 1600000 in
theorem builtinK_ok {R : Type} {res : R} {c : Ctx} {s : St} {ts : List (Array Value)} {g : Gh} {w : World} (hs : Sim ti c s ts g w) {b : Builtin} {argTypes : Array TypeId} {xs : List X} {vs : Array Value} {K : X → St → Option R} {ty : TypeId} {consts : Array Bool}
    (h : builtinK ti b argTypes xs s K = some res) (hl : vs.size = xs.length) (hx : ∀ i, i < xs.length → RX ti g w (xs.getD i .un) (vs.getD i undef)) (hat : argTypes.size = xs.length) :
    ∃ y s' v w' g', K y s' = some res ∧ (builtin b argTypes ty consts vs).run P w = .ok (.value v) w' ∧ Sim ti c s' ts g' w' ∧ RX ti g' w' y v := by
  unfold builtinK at h
  split at h
  case isFalse => cases h
  case isTrue hok0 =>
    obtain ⟨hok, hok1⟩ := hok0
    split at h
    · -- len
      rename_i x
      obtain ⟨v, rfl⟩ : ∃ v, vs = #[v] := by
        obtain ⟨l⟩ := vs
        match l, hl with
        | [v], _ => exact ⟨v, rfl⟩
      obtain ⟨t0, rfl⟩ : ∃ t, argTypes = #[t] := by
        obtain ⟨l⟩ := argTypes
        match l, hat with
        | [t], _ => exact ⟨t, rfl⟩
      have hx0 : RX ti g w x v := by simpa using hx 0 (by simp)
      simp only [Array.getD_eq_getD_getElem?] at h hok
      simp only [List.getElem?_toArray, List.getElem?_cons_zero, Option.getD_some] at h hok
      split at h
      · rename_i e hd
        obtain ⟨hu, heok, _, _⟩ := und_slice H hok hd
        split at h
        · rename_i n hn
          obtain ⟨A, cp, rfl, hlt⟩ := lenX_ok hs hx0 hn
          refine ⟨_, s, .int .i64 n, w, g, h, ?_, hs, RX.int (by have := min_le0 .i64; omega) ?_⟩
          · simp [builtin, Builtin.len_, run_und hu, goInt]
          · have : IntKind.i64.max = 9223372036854775807 := by decide
            unfold maxN at hlt
            omega
        · cases h
      · split at h
        · rename_i _ τ
          split at h
          · rename_i hlv
            split at h
            · rename_i hlt
              obtain ⟨s1, rfl, e1⟩ := hx0.str_inv
              obtain ⟨d, h1, h2⟩ := (H t0 hok).und
              have hu : P.underlying t0 = some .string := by
                unfold dOk at h2
                rw [h1]
                split at h2
                · obtain ⟨_, h2⟩ := h2
                  rcases h2 with ⟨k, h3, rfl⟩ | ⟨h3, rfl⟩ | ⟨h3, rfl⟩ <;> rw [hlv.1] at h3 <;> simp at h3
                · obtain ⟨_, h3, _⟩ := h2; rw [hlv.1] at h3; simp at h3
                · rw [hlv.2] at h2; cases h2.1
                · rw [hlv.2] at h2; cases h2.1
                · rcases h2.2.1 with h3 | h3 <;> (rw [hlv.1] at h3; simp at h3)
              have hsz : s1.size = τ.S.length := by
                rw [← e1, ByteArray.toList_eq]
                exact (Array.length_toList).symm
              refine ⟨_, s, .int .i64 τ.S.length, w, g, h, ?_, hs, RX.int (by have := min_le0 .i64; omega) ?_⟩
              · simp [builtin, Builtin.len_, run_und hu, goInt, hsz]
              · have : IntKind.i64.max = 9223372036854775807 := by decide
                unfold maxN at hlt
                omega
            · cases h
          · cases h
        · cases h
    · -- cap
      rename_i x
      obtain ⟨v, rfl⟩ : ∃ v, vs = #[v] := by
        obtain ⟨l⟩ := vs
        match l, hl with
        | [v], _ => exact ⟨v, rfl⟩
      obtain ⟨t0, rfl⟩ : ∃ t, argTypes = #[t] := by
        obtain ⟨l⟩ := argTypes
        match l, hat with
        | [t], _ => exact ⟨t, rfl⟩
      have hx0 : RX ti g w x v := by simpa using hx 0 (by simp)
      simp only [Array.getD_eq_getD_getElem?] at h hok
      simp only [List.getElem?_toArray, List.getElem?_cons_zero, Option.getD_some] at h hok
      split at h
      · rename_i e _ hd
        obtain ⟨hu, heok, _, _⟩ := und_slice H hok hd
        cases hx0 with
        | nil => exact ⟨_, s, .int .i64 0, w, g, h, by simp [builtin, Builtin.cap_, run_und hu, goInt], hs, RX.int (by decide) (by decide)⟩
      · cases h
    · -- append
      rename_i x y
      obtain ⟨v, u, rfl⟩ : ∃ v u, vs = #[v, u] := by
        obtain ⟨l⟩ := vs
        match l, hl with
        | [v, u], _ => exact ⟨v, u, rfl⟩
      obtain ⟨t0, t1, rfl⟩ : ∃ t u, argTypes = #[t, u] := by
        obtain ⟨l⟩ := argTypes
        match l, hat with
        | [t, u], _ => exact ⟨t, u, rfl⟩
      have hx0 : RX ti g w x v := by simpa using hx 0 (by simp)
      have hy0 : RX ti g w y u := by simpa using hx 1 (by simp)
      have hok1' : (ti t1).ok = true := by
        rcases hok1 with h1 | h1
        · simp at h1
        · simpa using h1
      simp only [Array.getD_eq_getD_getElem?] at h hok
      simp only [List.getElem?_toArray, List.getElem?_cons_zero, List.getElem?_cons_succ, Option.getD_some] at h hok
      split at h
      · rename_i e hd
        obtain ⟨hu, heok, _, _⟩ := und_slice H hok hd
        split at h
        · rename_i e' hd'
          obtain ⟨hu', _, _, _⟩ := und_slice H hok1' hd'
          split at h
          · rename_i he
            subst he
            split at h
            · rename_i ys hel
              have hE := elems_ok hs hy0 hel
              obtain ⟨new, hrun, hnew⟩ := firstCells_ok (P := P) hE (n := ys.length) (Nat.le_refl _)
              rw [List.take_length] at hnew
              obtain ⟨A, cp, rfl, _, hlt, _⟩ := hE
              obtain ⟨z, s', v', w', g', k1, k2, k3, k4⟩ := appendK_ok H (vy := .slice A ys.length cp) (ty := ty) (argTypes := #[t0, t1]) hs rfl rfl hu heok h hx0
                ⟨.inl ⟨_, hu', fun w' => by simp [Builtin.lenOf], fun w' hw => hrun w' hw⟩⟩ hnew hlt
              exact ⟨z, s', v', w', g', k1, by simp [builtin, k2], k3, k4⟩
            · cases h
          · cases h
        · rename_i hd'
          split at h
          · rename_i k k' τ hag hlv
            split at h
            · rename_i hc
              obtain ⟨rfl, rfl, hpl, hpos⟩ := hc
              split at h
              · rename_i hn
                obtain ⟨hn0, hnb⟩ := hn
                obtain ⟨rfl, _, _⟩ := hy0.int_inv
                obtain ⟨z, hz, hzc⟩ := run_zeroValue H heok w
                have hul := und_leaf H hok1' hd'
                have hu' : P.underlying t1 = some (.int .i64) := by
                  rcases hul.2 with ⟨k2, h5, h6⟩ | ⟨h5, _⟩ | ⟨h5, _⟩ <;> rw [hlv] at h5 <;> simp at h5
                  rw [h5]; exact h6
                have hnn : ((τ.I.toNat : Nat) : Int) = τ.I := by omega
                have hlt : τ.I.toNat < maxN := by
                  unfold limB at hnb
                  unfold maxN
                  have : τ.I * 1 ≤ τ.I * ((ti e).bytes : Int) := Int.mul_le_mul_of_nonneg_left (by omega) hn0
                  omega
                have hz' : ∀ w', (zeroValue e).run P w' = .ok z w' := fun w' => by
                  obtain ⟨i, hi, _⟩ := (H e heok).info
                  simp only [zeroValue, typeInfo, Sem.run_bind, run_program, Result.andThen_ok, hi, Sem.run_pure] at hz ⊢
                  cases hiz : i.zero with
                  | none => rw [hiz] at hz; simp at hz
                  | some z' =>
                    rw [hiz] at hz
                    simp only [Sem.run_pure] at hz ⊢
                    injection hz with e1 _
                    rw [e1]
                have hH := Holds.zeros (im := g.im) (w := w) H heok hpl hzc τ.I.toNat
                obtain ⟨y', s', v', w', g', k1, k2, k3, k4⟩ := appendK_ok H (vy := .int .i64 τ.I) (ty := ty) (argTypes := #[t0, t1]) (new := Builtin.zeroCells z.cells τ.I.toNat) hs rfl rfl hu heok h hx0
                  ⟨.inr ⟨.i64, hu', by simp [hnn], by simpa using hlt, by simpa [hnn] using hnb, z, hz', by
                    simp only [List.length_replicate]
                    split
                    · rename_i h0
                      have hzs : z.cells.size = (ti e).size := by rw [← Array.length_toList, hzc]; simp [TyI.size]
                      exact Array.eq_empty_of_size_eq_zero (by rw [zeroCells_size, hzs]; exact h0)
                    · trivial⟩⟩ hH (by simpa using hlt)
                exact ⟨y', s', v', w', g', k1, by simp [builtin, k2], k3, k4⟩
              · cases h
            · cases h
          · cases h
        · cases h
      · cases h
    · -- copy
      rename_i x y
      obtain ⟨v, u, rfl⟩ : ∃ v u, vs = #[v, u] := by
        obtain ⟨l⟩ := vs
        match l, hl with
        | [v, u], _ => exact ⟨v, u, rfl⟩
      obtain ⟨t0, t1, rfl⟩ : ∃ t u, argTypes = #[t, u] := by
        obtain ⟨l⟩ := argTypes
        match l, hat with
        | [t, u], _ => exact ⟨t, u, rfl⟩
      have hx0 : RX ti g w x v := by simpa using hx 0 (by simp)
      have hy0 : RX ti g w y u := by simpa using hx 1 (by simp)
      simp only [Array.getD_eq_getD_getElem?] at h hok
      simp only [List.getElem?_toArray, List.getElem?_cons_zero, Option.getD_some] at h hok
      split at h
      · rename_i e hd
        obtain ⟨hu, heok, _, _⟩ := und_slice H hok hd
        split at h
        · rename_i ys e' r hel
          have hE := elems_ok hs hy0 hel
          split at h
          · rename_i e2 zs heq
            split at h
            · rename_i he
              obtain ⟨rfl, rfl⟩ := he
              cases hx0 with
              | @own _ _ A hn ha =>
                have hR : RegOk ti g w r (.arr e2 zs) := heq ▸ hs.reg r hn
                have hl2 : g.len r = zs.length := by cases hR; assumption
                obtain ⟨w', k1, k2⟩ := copy_ok H (cp := g.cap r) (ty := ty) (argTypes := #[t0, t1]) (len := zs.length) hs rfl hu heok hn hR ha (by omega) hE
                have hmn : Nat.min ys.length zs.length < maxN := by
                  obtain ⟨_, _, _, _, hlt, _⟩ := hE
                  exact Nat.lt_of_le_of_lt (Nat.min_le_left _ _) hlt
                refine ⟨_, _, .int .i64 (Nat.min ys.length zs.length), w', g, h, by rw [hl2]; simp [builtin, k1], ?_, RX.int (by have := min_le0 .i64; omega) ?_⟩
                · have e1 : ys.take zs.length ++ zs.drop ys.length = zs.take 0 ++ ys.take (Nat.min ys.length zs.length) ++ zs.drop (0 + Nat.min ys.length zs.length) := by
                    by_cases hle : ys.length ≤ zs.length
                    · have : Nat.min ys.length zs.length = ys.length := Nat.min_eq_left hle
                      rw [this]
                      simp [List.take_of_length_le hle]
                    · have : Nat.min ys.length zs.length = zs.length := Nat.min_eq_right (by omega)
                      rw [this]
                      simp
                      omega
                  rw [e1]
                  exact k2
                · have : IntKind.i64.max = 9223372036854775807 := by decide
                  unfold maxN at hmn
                  omega
            · cases h
          · cases h
        · rename_i ys e' r off len hel
          have hE := elems_ok hs hy0 hel
          split at h
          · rename_i e2 zs heq
            split at h
            · rename_i he
              obtain ⟨rfl, rfl⟩ := he
              cases hx0 with
              | @ref _ _ _ _ A hn ha hlr =>
                have hR : RegOk ti g w r (.arr e2 zs) := heq ▸ hs.reg r hn
                have hl2 : g.len r = zs.length := by cases hR; assumption
                obtain ⟨w', k1, k2⟩ := copy_ok H (cp := g.cap r - off) (ty := ty) (argTypes := #[t0, t1]) (len := len) hs rfl hu heok hn hR ha (by omega) hE
                have hmn : Nat.min ys.length len < maxN := by
                  obtain ⟨_, _, _, _, hlt, _⟩ := hE
                  exact Nat.lt_of_le_of_lt (Nat.min_le_left _ _) hlt
                refine ⟨_, _, .int .i64 (Nat.min ys.length len), w', g, h, by simp [builtin, k1], ?_, RX.int (by have := min_le0 .i64; omega) ?_⟩
                · have e1 : ys.take len = ys.take (Nat.min ys.length len) := by
                    by_cases hle : ys.length ≤ len
                    · have : Nat.min ys.length len = ys.length := Nat.min_eq_left hle
                      rw [this, List.take_length, List.take_of_length_le hle]
                    · have : Nat.min ys.length len = len := Nat.min_eq_right (by omega)
                      rw [this]
                  rw [e1]
                  exact k2
                · have : IntKind.i64.max = 9223372036854775807 := by decide
                  unfold maxN at hmn
                  omega
            · cases h
          · cases h
        · cases h
      · cases h
    · -- clear
      rename_i x
      obtain ⟨v, rfl⟩ : ∃ v, vs = #[v] := by
        obtain ⟨l⟩ := vs
        match l, hl with
        | [v], _ => exact ⟨v, rfl⟩
      obtain ⟨t0, rfl⟩ : ∃ t, argTypes = #[t] := by
        obtain ⟨l⟩ := argTypes
        match l, hat with
        | [t], _ => exact ⟨t, rfl⟩
      have hx0 : RX ti g w x v := by simpa using hx 0 (by simp)
      simp only [Array.getD_eq_getD_getElem?] at h hok
      simp only [List.getElem?_toArray, List.getElem?_cons_zero, Option.getD_some] at h hok
      split at h
      · rename_i e hd
        obtain ⟨hu, heok, _, _⟩ := und_slice H hok hd
        split at h
        · rename_i hpl
          cases hx0 with
          | @nil A =>
            refine ⟨_, s, .tuple #[], w, g, h, ?_, hs, .tup rfl (fun i hi => by simp at hi)⟩
            cases A <;> simp [builtin, Builtin.clear_, run_und hu]
          | @own e' r A hn ha =>
            simp only at h
            split at h
            · rename_i e2 zs heq
              split at h
              · rename_i he
                obtain ⟨rfl, rfl⟩ := he
                have hR : RegOk ti g w r (.arr e2 zs) := heq ▸ hs.reg r hn
                have hl2 : g.len r = zs.length := by cases hR; assumption
                obtain ⟨w', k1, k2⟩ := clear_ok H (cp := g.cap r) (ty := ty) (argTypes := #[t0]) (len := zs.length) hs rfl hu heok hpl hn hR ha (by omega)
                refine ⟨_, _, .tuple #[], w', g, h, by rw [hl2]; simp [builtin, k1], by simpa using k2, .tup rfl (fun i hi => by simp at hi)⟩
              · cases h
            · cases h
          | @ref e' r off len A hn ha hlr =>
            simp only at h
            split at h
            · rename_i e2 zs heq
              split at h
              · rename_i he
                obtain ⟨rfl, rfl⟩ := he
                have hR : RegOk ti g w r (.arr e2 zs) := heq ▸ hs.reg r hn
                have hl2 : g.len r = zs.length := by cases hR; assumption
                obtain ⟨w', k1, k2⟩ := clear_ok H (cp := g.cap r - off) (ty := ty) (argTypes := #[t0]) (len := len) hs rfl hu heok hpl hn hR ha (by omega)
                exact ⟨_, _, .tuple #[], w', g, h, by simp [builtin, k1], k2, .tup rfl (fun i hi => by simp at hi)⟩
              · cases h
            · cases h
          | _ => simp at h
        · cases h
      · cases h
    · -- min
      rename_i k a k' b
      obtain ⟨v, u, rfl⟩ : ∃ v u, vs = #[v, u] := by
        obtain ⟨l⟩ := vs
        match l, hl with
        | [v, u], _ => exact ⟨v, u, rfl⟩
      obtain ⟨rfl, a1, a2⟩ := (show RX ti g w (.t (.int k) a) v by simpa using hx 0 (by simp)).int_inv
      obtain ⟨rfl, b1, b2⟩ := (show RX ti g w (.t (.int k') b) u by simpa using hx 1 (by simp)).int_inv
      split at h
      · rename_i hk
        subst hk
        refine ⟨_, s, .int k' (minI a.I b.I), w, g, h, by simp [builtin, min2_ok], hs, RX.int ?_ ?_⟩ <;> (unfold minI; split <;> assumption)
      · cases h
    · -- max
      rename_i k a k' b
      obtain ⟨v, u, rfl⟩ : ∃ v u, vs = #[v, u] := by
        obtain ⟨l⟩ := vs
        match l, hl with
        | [v, u], _ => exact ⟨v, u, rfl⟩
      obtain ⟨rfl, a1, a2⟩ := (show RX ti g w (.t (.int k) a) v by simpa using hx 0 (by simp)).int_inv
      obtain ⟨rfl, b1, b2⟩ := (show RX ti g w (.t (.int k') b) u by simpa using hx 1 (by simp)).int_inv
      split at h
      · rename_i hk
        subst hk
        refine ⟨_, s, .int k' (maxI a.I b.I), w, g, h, by simp [builtin, max2_ok], hs, RX.int ?_ ?_⟩ <;> (unfold maxI; split <;> assumption)
      · cases h
    · cases h

end
end Go.KX
/- '==' at structs of ints and bools. -/
namespace Go.KX
open Go.RowKit

section
variable {P : Program} {ti : TypeId → TyI} (H : TabOk P ti)
include H

theorem run_part {t : TypeId} (hok : (ti t).ok = true) (ha : (ti t).agg = false) {cs : Array Value} {o : Nat} {v : Value} (h : cs[o]? = some v) (w : World) : (part t cs o).run P w = .ok v w := by
  simp [part, run_isAgg H hok, ha, h]

theorem eqLeaves_fields (d : Nat) {g : Gh} {w : World} (us vs : Array Value) : ∀ (fl : List Field) (k : Nat) (ls : List Lt) (xs ys : List X) (cc : Bool),
    (∀ (i : Nat) (f : Field), fl[i]? = some f → f.name ≠ "_" ∧ f.offset = k + i ∧ (ti f.type).ok = true ∧ (ti f.type).d = .leaf ∧ (ti f.type).lv = [ls.getD i .fn]) → fl.length = xs.length → tysOk ls xs = true →
    (∀ i, i < xs.length → ∃ v, us[k + i]? = some v ∧ RX ti g w (xs.getD i .un) v) → (∀ i, i < ys.length → ∃ v, vs[k + i]? = some v ∧ RX ti g w (ys.getD i .un) v) → eqLeaves xs ys = some cc →
    (do
      for f in fl do
        if f.name ≠ "_" then
          if !(← Op.equalIn (d + 1) f.type (← part f.type us f.offset) (← part f.type vs f.offset)) then return false
      pure true : Sem Bool).run P w = .ok cc w
  | [], k, ls, xs, ys, cc, _, hl, _, _, _, h => by
    have hx : xs = [] := List.eq_nil_of_length_eq_zero hl.symm
    subst hx
    cases ys with
    | nil => simp only [eqLeaves, Option.some.injEq] at h; subst h; simp
    | cons y ys => simp [eqLeaves] at h
  | f :: fl, k, ls, xs, ys, cc, hf, hl, hty, hx, hy, h => by
    cases xs with
    | nil => simp at hl
    | cons x xs =>
      cases ys with
      | nil => cases x <;> (try cases ‹Lt›) <;> simp [eqLeaves] at h
      | cons y ys =>
        obtain ⟨n1, n2, n3, n4, n6⟩ := hf 0 f rfl
        obtain ⟨l, ls', τ, rfl, rfl, hty'⟩ : ∃ l ls' τ, ls = l :: ls' ∧ x = .t l τ ∧ tysOk ls' xs = true := by
          unfold tysOk at hty
          split at hty
          · rename_i h1; cases h1
          · rename_i l ls' l' τ xs' h1
            cases h1
            simp only [Bool.and_eq_true, decide_eq_true_eq] at hty
            exact ⟨l, ls', τ, rfl, by rw [hty.1], hty.2⟩
          · cases hty
        simp only [List.getD_cons_zero] at n6
        have n5 := und_leaf H n3 n4
        obtain ⟨v, hv, hxv⟩ := hx 0 (by simp)
        obtain ⟨u, hu, hyu⟩ := hy 0 (by simp)
        simp only [List.getD_cons_zero, Nat.add_zero] at hv hu hxv hyu n2
        have p1 := run_part H n3 n5.1 (o := f.offset) (by rw [n2]; exact hv) w
        have p2 := run_part H n3 n5.1 (o := f.offset) (by rw [n2]; exact hu) w
        have key : ∃ b c2, eqLeaves xs ys = some c2 ∧ cc = (b && c2) ∧ (Op.equalIn (d + 1) f.type v u).run P w = .ok b w := by
          unfold eqLeaves at h
          split at h
          · rename_i h1 h2; cases h1
          · rename_i k1 a xs' k2 b ys' h1 h2
            cases h1; cases h2
            split at h
            · rename_i hk
              subst hk
              split at h
              · rename_i c2 hc
                cases h
                obtain ⟨rfl, _, _⟩ := hxv.int_inv
                obtain ⟨rfl, _, _⟩ := hyu.int_inv
                refine ⟨_, c2, hc, rfl, ?_⟩
                have hui : ∃ k3, P.underlying f.type = some (.int k3) := by
                  rcases n5.2 with ⟨k3, h5, h6⟩ | ⟨h5, _⟩ | ⟨h5, _⟩ <;> rw [n6] at h5 <;> simp at h5
                  exact ⟨k3, h6⟩
                obtain ⟨k3, hu3⟩ := hui
                simp [Op.equalIn, run_und hu3]
              · cases h
            · cases h
          · rename_i a xs' b ys' h1 h2
            cases h1; cases h2
            split at h
            · rename_i c2 hc
              cases h
              have hv' := hxv.bool_inv
              have hu' := hyu.bool_inv
              subst hv' hu'
              refine ⟨_, c2, hc, rfl, ?_⟩
              have hub : P.underlying f.type = some .bool := by
                rcases n5.2 with ⟨k3, h5, h6⟩ | ⟨h5, h6⟩ | ⟨h5, _⟩ <;> rw [n6] at h5 <;> simp at h5
                exact h6
              simp [Op.equalIn, run_und hub]
            · cases h
          · cases h
        obtain ⟨b, c2, e1, rfl, e2⟩ := key
        have ih := eqLeaves_fields d us vs fl (k + 1) ls' xs ys c2 (fun i f' hf' => by
          have := hf (i + 1) f' (by simpa using hf')
          rw [show k + 1 + i = k + (i + 1) by omega]; simpa using this) (by simpa using hl) hty'
          (fun i hi => by have := hx (i + 1) (by simpa using hi); rw [show k + 1 + i = k + (i + 1) by omega]; simpa using this)
          (fun i hi => by have := hy (i + 1) (by simpa using hi); rw [show k + 1 + i = k + (i + 1) by omega]; simpa using this) e1
        cases b with
        | false => simp [n1, p1, p2, e2]
        | true =>
          simp only [Bool.true_and]
          simp [n1, p1, p2, e2] at ih ⊢
          exact ih

theorem eqAgg_ok {t : TypeId} {g : Gh} {w : World} {xs ys : List X} {us vs : Array Value} {cc : Bool} {ox oy : Operand} (hok : (ti t).ok = true) (hcmp : (ti t).cmp = true) (hty : tysOk (ti t).lv xs = true)
    (hx : RX ti g w (.agg xs) (.agg us)) (hy : RX ti g w (.agg ys) (.agg vs)) (h : eqLeaves xs ys = some cc) :
    (do eqGuard .eql t ox oy (.agg us) (.agg vs); binOp .eql t (.agg us) (.agg vs) : Sem Value).run P w = .ok (.bool cc) w ∧
    (do eqGuard .neq t ox oy (.agg us) (.agg vs); binOp .neq t (.agg us) (.agg vs) : Sem Value).run P w = .ok (.bool (!cc)) w := by
  obtain ⟨c1, c2, fields, c3, c4, c5⟩ := (H t hok).cmp hcmp
  have hlx : ∀ (ls : List Lt) (zs : List X), tysOk ls zs = true → ls.length = zs.length := by
    intro ls
    induction ls with
    | nil => intro zs hz; cases zs <;> simp_all [tysOk]
    | cons l ls ih =>
      intro zs hz
      cases zs with
      | nil => simp [tysOk] at hz
      | cons z zs => cases z <;> simp [tysOk] at hz; simp [ih zs hz.2]
  cases hx with
  | agg s1 x1 =>
    cases hy with
    | agg s2 y1 =>
      have key : ∀ d, (Op.equalIn (d + 1 + 1) t (.agg us) (.agg vs)).run P w = .ok cc w := fun d => by
        have := eqLeaves_fields H d (g := g) (w := w) us vs fields.toList 0 (ti t).lv xs ys cc (fun i f hf => by
          obtain ⟨a1, a2, a3, a4, a5⟩ := c4 i f hf
          exact ⟨a1, by omega, a3, a4, a5⟩) (by rw [c5]; exact hlx _ _ hty) hty
          (fun i hi => ⟨us.getD i undef, by simp [show i < us.size by omega], x1 i hi⟩) (fun i hi => ⟨vs.getD i undef, by simp [show i < vs.size by omega], y1 i hi⟩) h
        rw [Op.equalIn]
        simp only [Sem.run_bind, run_und c3, Result.andThen_ok, run_program, c1, Bool.false_eq_true, if_false]
        rw [← Array.forIn_toList]
        simpa using this
      have k0 : (Op.equal t (.agg us) (.agg vs)).run P w = .ok cc w := key 9998
      constructor
      · simp [eqGuard, c2, binOp, k0]
      · simp [eqGuard, c2, binOp, k0]

end
end Go.KX
/- Every operation that calls no function: together. -/
namespace Go.KX
open Go.RowKit

section
variable {P : Program} {ti : TypeId → TyI} (H : TabOk P ti)

/-- An operation's run: a value, or nothing. -/
def Ran (P : Program) (a : Act) (o : Oper) (w : World) (v : Value) (w' : World) : Prop :=
  (execOp a.eval o).run P w = .ok (.value v) w' ∨ ((execOp a.eval o).run P w = .ok .skip w' ∧ v = undef)

theorem al_map {g : Gh} {w : World} {s : St} {a : Act} (hop : ∀ o, RX ti g w (opx s o) (a.eval o)) : ∀ (l : List (Nat × Operand)), Al ti g w (l.map fun p => (p.1, opx s p.2)) (l.map fun p => (p.1, a.eval p.2))
  | [] => trivial
  | p :: l => ⟨rfl, hop p.2, al_map hop l⟩

theorem optRX_map {g : Gh} {w : World} {s : St} {a : Act} (hop : ∀ o, RX ti g w (opx s o) (a.eval o)) (o : Option Operand) : OptRX ti g w (o.map (opx s)) (o.map a.eval) := by
  cases o with
  | none => exact .inl ⟨rfl, rfl⟩
  | some x => exact .inr ⟨_, _, rfl, rfl, hop x⟩

include H

set_option maxHeartbeats 1600000 in
theorem stepK_ok {R : Type} {res : R} {c : Ctx} {s : St} {a : Act} {ts : List (Array Value)} {g : Gh} {w : World} {o : Oper} {K : X → St → Option R} (h : stepK ti o.op s K = some res) (hs : Sim ti c s (a.tmps :: ts) g w) :
    ∃ y s' v w' g', K y s' = some res ∧ Ran P a o w v w' ∧ Sim ti c s' (a.tmps :: ts) g' w' ∧ RX ti g' w' y v := by
  have hop := fun x => hs.opx x
  unfold stepK at h
  split at h
  · -- move
    rename_i x ho
    exact ⟨_, s, _, w, g, h, .inl (by simp [execOp, ho]), hs, hop x⟩
  · -- assign
    rename_i x ho
    exact ⟨_, s, _, w, g, h, .inl (by simp [execOp, ho]), hs, hop x⟩
  · -- pick
    rename_i x y z ho
    split at h
    · rename_i τ hx
      have hb := (hx ▸ hop x : RX ti g w (.t .bool τ) (a.eval x)).bool_inv
      cases hτ : τ.B with
      | true =>
        rw [hτ] at h
        exact ⟨_, s, _, w, g, h, .inl (by simp [execOp, ho, hb, hτ, asBool]), hs, hop y⟩
      | false =>
        rw [hτ] at h
        exact ⟨_, s, _, w, g, h, .inl (by simp [execOp, ho, hb, hτ, asBool]), hs, hop z⟩
    · cases h
  · -- alloc
    rename_i t ho
    split at h
    · rename_i hok
      obtain ⟨v, w', g', k1, k2, k3⟩ := alloc_ok H hs hok
      exact ⟨_, _, v, w', g', h, .inl (by simp [execOp, ho, k1]), k2, k3⟩
    · cases h
  · -- box
    rename_i t x ho
    split at h
    · rename_i hok
      obtain ⟨v, w', g', k1, k2, k3⟩ := box_ok (P := P) hs (t := t) (hop x) (known_ne hok.2.1)
      exact ⟨_, _, v, w', g', h, .inl (by simp [execOp, ho, k1]), k2, k3⟩
    · cases h
  · -- build
    rename_i t parts ho
    split at h
    · rename_i fs hok hd
      split at h
      · rename_i xs hxs
        obtain ⟨v, k1, k2⟩ := build_ok H (g := g) (w := w) hok hd (vs := parts.map fun (i, x) => (i, a.eval x)) hxs (by simp) (fun i hi => by
          have hi' : i < parts.size := by simpa using hi
          simp only [Array.toList_map]
          simp only [List.getD_eq_getElem?_getD, List.getElem?_map]
          simp [hi', hop])
        exact ⟨_, s, v, w, g, h, .inl (by simp [execOp, ho, k1]), hs, k2⟩
      · cases h
    · cases h
  · -- buildSlice
    rename_i t len parts ho
    split at h
    · rename_i e hok hd
      split at h
      · rename_i hc
        obtain ⟨c1, c2, c3, c4⟩ := hc
        obtain ⟨y, s', v, w', g', k1, k2, k3, k4⟩ := buildSlice_ok H hs hok hd c1 c2 c3 c4 (vs := parts.map fun (i, x) => (i, a.eval x)) h (by
          have := al_map (ti := ti) (g := g) (w := w) (s := s) (a := a) hop parts.toList
          simpa using this)
        exact ⟨y, s', v, w', g', k1, .inl (by simp [execOp, ho, k2]), k3, k4⟩
      · cases h
    · cases h
  · -- load
    rename_i t x ho
    split at h
    · rename_i y hy
      obtain ⟨v, k1, k2⟩ := loadX_ok H hs hy (hop x)
      exact ⟨_, s, v, w, g, h, .inl (by simp [execOp, ho, k1]), hs, k2⟩
    · cases h
  · -- store
    rename_i t x y ho
    obtain ⟨s', w', g', k1, k2, k3⟩ := storeK_ok H hs h (hop x) (hop y)
    exact ⟨_, s', undef, w', g', k1, .inr ⟨by simp [execOp, ho, k2], rfl⟩, k3, .tup rfl (fun i hi => by simp at hi)⟩
  · -- binOp
    rename_i op t x y yt ho
    split at h
    · rename_i xs ys hx hy
      split at h
      · rename_i hc
        obtain ⟨c1, c2, c3⟩ := hc
        have hx' := hx ▸ hop x
        have hy' := hy ▸ hop y
        obtain ⟨us, hus⟩ : ∃ us, a.eval x = .agg us := by
          generalize a.eval x = v at hx'
          cases hx' with | agg _ _ => exact ⟨_, rfl⟩
        obtain ⟨vs, hvs⟩ : ∃ vs, a.eval y = .agg vs := by
          generalize a.eval y = v at hy'
          cases hy' with | agg _ _ => exact ⟨_, rfl⟩
        rw [hus] at hx'
        rw [hvs] at hy'
        split at h
        · rename_i cc hcc
          have hr := (eqAgg_ok H (ox := x) (oy := y) c1 c2 c3 hx' hy' hcc).1
          refine ⟨_, s, .bool cc, w, g, h, .inl ?_, hs, RX.bool⟩
          simp only [execOp, ho, hus, hvs]
          simp only [Sem.run_bind, hr, Result.andThen_ok, Sem.run_pure]
        · rename_i cc hcc
          have hr := (eqAgg_ok H (ox := x) (oy := y) c1 c2 c3 hx' hy' hcc).2
          refine ⟨_, s, .bool (!cc), w, g, h, .inl ?_, hs, RX.bool⟩
          simp only [execOp, ho, hus, hvs]
          simp only [Sem.run_bind, hr, Result.andThen_ok, Sem.run_pure]
        · cases h
      · cases h
    · obtain ⟨z, v, k1, k2, k3⟩ := binK_ok (P := P) (xt := t) (ox := x) (oy := y) (fun hb => by
        simp only [decide_eq_true_eq] at hb
        obtain ⟨b1, b2, b3⟩ := hb
        rcases (und_leaf H b1 b2).2 with ⟨k, h5, _⟩ | ⟨_, h6⟩ | ⟨h5, _⟩
        · rw [b3] at h5; simp at h5
        · exact h6
        · rw [b3] at h5; simp at h5) h (hop x) (hop y)
      refine ⟨z, s, v, w, g, k1, .inl ?_, hs, k3⟩
      simp only [execOp, ho]
      simp only [Sem.run_bind] at k2 ⊢
      rw [k2]
      rfl
  · -- unOp
    rename_i op t x ho
    split at h
    · rename_i τ hx
      have hb := (hx ▸ hop x : RX ti g w (.t .bool τ) (a.eval x)).bool_inv
      exact ⟨_, s, _, w, g, h, .inl (by simp [execOp, ho, hb, Op.unary]), hs, RX.bool⟩
    · rename_i k τ hx
      obtain ⟨hb, _, _⟩ := (hx ▸ hop x : RX ti g w (.t (.int k) τ) (a.eval x)).int_inv
      exact ⟨_, s, _, w, g, h, .inl (by simp only [execOp, ho, hb, Op.unary, Op.intArith, Sem.run_bind, Sem.run_pure, Result.andThen_ok]), hs, RX.int (wrap_ok _ _).1 (wrap_ok _ _).2⟩
    · cases h
  · -- convert
    rename_i src dst x ho
    obtain ⟨y, v, k1, k2, k3⟩ := convK_ok H hs h (hop x)
    exact ⟨y, s, v, w, g, k1, .inl (by simp [execOp, ho, k2]), hs, k3⟩
  · -- makeFunc
    rename_i fn first caps ho
    split at h
    · rename_i f
      split at h
      · rename_i hz
        have hf : first = #[] := Array.eq_empty_of_size_eq_zero hz
        subst hf
        refine ⟨_, s, .func (.func f) #[] (caps.map a.eval), w, g, h, .inl (by simp [execOp, ho, Instr.makeFunc]), hs, .fn (by simp) (fun i hi => ?_)⟩
        have hi' : i < caps.size := by simpa using hi
        have := hop caps[i]
        simpa [hi'] using this
      · cases h
    · cases h
  · -- makeSlice
    rename_i t l cp ho
    split at h
    · rename_i e hok hd
      split at h
      · rename_i hc
        obtain ⟨c1, c2⟩ := hc
        split at h
        · rename_i τ hx
          split at h
          · rename_i hb
            obtain ⟨b1, b2, b3⟩ := hb
            obtain ⟨hv, _, _⟩ := (hx ▸ hop l : RX ti g w (.t (.int .i64) τ) (a.eval l)).int_inv
            have hv2 : a.eval cp = .int .i64 τ.I := by
              unfold sameOp at c1
              split at c1
              · simp only [beq_iff_eq] at c1; subst c1; exact hv
              · rename_i k n k' n'
                simp only [Bool.and_eq_true, beq_iff_eq] at c1
                obtain ⟨rfl, rfl⟩ := c1
                exact hv
              · cases c1
            obtain ⟨v, w', g', k1, k2, k3⟩ := makeSlice_ok H hs hok hd c2 (k := .i64) b1 b2 b3
            exact ⟨_, _, v, w', g', h, .inl (by simp [execOp, ho, hv, hv2, k1]), k2, k3⟩
          · cases h
        · cases h
      · cases h
    · cases h
  · -- slice
    rename_i t x lo hi mx ho
    split at h
    · rename_i e hok hd
      obtain ⟨y, v, k1, k2, k3⟩ := sliceK_ok H hs hok hd h (hop x) (optRX_map hop lo) (optRX_map hop hi) (optRX_map hop mx)
      exact ⟨y, s, v, w, g, k1, .inl (by simp [execOp, ho, k2]), hs, k3⟩
    · cases h
  · -- fieldAddr
    rename_i t x f ho
    split at h
    · rename_i o2 r off hf hx
      have hx' := hx ▸ hop x
      cases hv : a.eval x <;> rw [hv] at hx' <;> cases hx'
      rename_i hn
      exact ⟨_, s, .pointer (some ⟨(g.loc r).1, (g.loc r).2 + off + o2, none⟩), w, g, h, .inl (by simp only [execOp, ho, hv, Sem.run_bind, fieldAt_ok H hf, Result.andThen_ok, Sem.run_pure]), hs, by rw [Nat.add_assoc]; exact .pb hn⟩
    · rename_i o2 e r idx off hf hx
      have hx' := hx ▸ hop x
      cases hv : a.eval x <;> rw [hv] at hx' <;> cases hx'
      rename_i hn hi
      exact ⟨_, s, .pointer (some ⟨(g.loc r).1, (g.loc r).2 + idx * (ti e).size + off + o2, none⟩), w, g, h, .inl (by simp only [execOp, ho, hv, Sem.run_bind, fieldAt_ok H hf, Result.andThen_ok, Sem.run_pure]), hs, by rw [Nat.add_assoc _ off o2]; exact .pa hn hi⟩
    · rename_i o2 e τ off hf hx
      have hx' := hx ▸ hop x
      cases hv : a.eval x <;> rw [hv] at hx' <;> cases hx'
      rename_i b q cs hr hb hc
      exact ⟨_, s, .pointer (some ⟨b, q + off + o2, none⟩), w, g, h, .inl (by simp only [execOp, ho, hv, Sem.run_bind, fieldAt_ok H hf, Result.andThen_ok, Sem.run_pure]), hs, by rw [Nat.add_assoc]; exact .pt cs hr hb hc⟩
    · cases h
  · -- indexAddr
    rename_i t x ix ho
    obtain ⟨y, v, k1, k2, k3⟩ := indexK_ok H hs h (hop x) (hop ix)
    exact ⟨y, s, v, w, g, k1, .inl (by simp [execOp, ho, k2]), hs, k3⟩
  · -- extract
    rename_i t ix ho
    split at h
    · rename_i xs hx
      split at h
      · rename_i hlt
        have hx' := hx ▸ hop t
        cases hv : a.eval t <;> rw [hv] at hx' <;> cases hx'
        rename_i vs hsz hxs
        have := hxs ix hlt
        exact ⟨_, s, _, w, g, h, .inl (by simp [execOp, ho, hv, Instr.extract, show ix < vs.size by omega]; rfl), hs, by simpa [show ix < vs.size by omega] using this⟩
      · cases h
    · cases h
  · -- nilCheck
    rename_i x ho
    split at h
    · rename_i hx
      have hx' := hx ▸ hop x
      have hx2 := hx'
      cases hv : a.eval x <;> rw [hv] at hx' <;> cases hx'
      rw [hv] at hx2
      exact ⟨_, s, _, w, g, h, .inl (by simp [execOp, ho, hv]), hs, hx2⟩
    · rename_i hx
      have hx' := hx ▸ hop x
      have hx2 := hx'
      cases hv : a.eval x <;> rw [hv] at hx' <;> cases hx'
      rw [hv] at hx2
      exact ⟨_, s, _, w, g, h, .inl (by simp [execOp, ho, hv]), hs, hx2⟩
    · rename_i hx
      have hx' := hx ▸ hop x
      have hx2 := hx'
      cases hv : a.eval x <;> rw [hv] at hx' <;> cases hx'
      rw [hv] at hx2
      exact ⟨_, s, _, w, g, h, .inl (by simp [execOp, ho, hv]), hs, hx2⟩
    · cases h
  · -- field
    rename_i t x f ho
    split at h
    · rename_i ft off xs hf hx
      split at h
      · rename_i hfit
        have hx' := hx ▸ hop x
        cases hv : a.eval x <;> rw [hv] at hx' <;> cases hx'
        rename_i hsz hxs
        obtain ⟨v, k1, k2⟩ := field_ok (P := P) H (g := g) (w := w) hf hsz hxs hfit
        exact ⟨_, s, v, w, g, h, .inl (by simp [execOp, ho, hv, k1]), hs, k2⟩
      · cases h
    · cases h
  · -- a built-in function
    rename_i b args argTypes ho
    split at h
    · rename_i hat
      obtain ⟨y, s', v, w', g', k1, k2, k3, k4⟩ := builtinK_ok H hs (vs := args.map a.eval) (ty := o.type) (consts := args.map fun | .const _ => true | _ => false) h (by simp) (fun i hi => by
        have hi' : i < args.size := by simpa using hi
        have := hop args[i]
        simpa [hi'] using this) (by simpa using hat)
      refine ⟨y, s', v, w', g', k1, .inl ?_, k3, k4⟩
      simp only [execOp, ho, resolve, Sem.run_bind, Sem.run_pure, Result.andThen_ok, invoke]
      exact k2
    · cases h
  · cases h

end
end Go.KX
/- A loop's head: values in one form, the rest let go. -/
namespace Go.KX
open Go.RowKit

section
variable {P : Program} {ti : TypeId → TyI}

theorem RL.canon {im : Nat → Prop} {w : World} {l : Lt} {τ : T} {v : Value} (h : RL ti im w l τ v) : RL ti im w l (canonT l τ) v := by
  cases h with
  | int h1 h2 => exact .int (τ := .i τ.I) h1 h2
  | bool => exact .bool (τ := .b τ.B)
  | str h => exact .str (τ := .s τ.S) h
  | empty h => exact .empty (τ := .l τ.L) h
  | slice cs hb hc hn hcell hr => exact .slice (τ := .l τ.L) cs hb hc hn hcell hr
  | box cs hb hcell hr => exact .box cs hb hcell hr
  | fnc => exact .fnc

theorem X.canonL_eq (ys : List X) : X.canonL ys = ys.map X.canon := by
  induction ys with
  | nil => simp [X.canonL]
  | cons y ys ih => simp [X.canonL, ih]

theorem getD_map_canon (ys : List X) (i : Nat) : (ys.map X.canon).getD i .un = (ys.getD i .un).canon := by
  rcases Nat.lt_or_ge i ys.length with h | h
  · simp [h]
  · simp [List.getElem?_eq_none h, X.canon]

theorem RX.canon {g : Gh} {w : World} {x : X} {v : Value} (h : RX ti g w x v) : RX ti g w x.canon v := by
  induction h with
  | un => exact .un
  | t h => exact .t h.canon
  | agg hs _ ih =>
    rw [X.canon, X.canonL_eq]
    exact .agg (by simpa using hs) (fun i hi => by rw [getD_map_canon]; exact ih i (by simpa using hi))
  | tup hs _ ih =>
    rw [X.canon, X.canonL_eq]
    exact .tup (by simpa using hs) (fun i hi => by rw [getD_map_canon]; exact ih i (by simpa using hi))
  | nil => exact .nil
  | own hn h => exact .own hn h
  | ref hn h hl => exact .ref hn h hl
  | pb hn => exact .pb hn
  | pa hn h => exact .pa hn h
  | pt cs hb hc hr => exact .pt cs hb hc hr
  | fn hs _ ih =>
    rw [X.canon, X.canonL_eq]
    exact .fn (by simpa using hs) (fun i hi => by rw [getD_map_canon]; exact ih i (by simpa using hi))

theorem RegOk.canon {g : Gh} {w : World} {r : Nat} {R : Reg} (h : RegOk ti g w r R) : RegOk ti g w r R.canon := by
  cases h with
  | box ho hh hs hx =>
    rw [Reg.canon, X.canonL_eq]
    refine .box ho hh (by simpa using hs) (fun j hj => ?_)
    rw [getD_map_canon]
    exact (hx j (by simpa using hj)).canon
  | arr h1 h2 h3 h4 => exact .arr h1 h2 h3 h4
  | dead => exact .dead

theorem getD_map_canonL (l : List (List X)) (k : Nat) : (l.map X.canonL).getD k [] = X.canonL (l.getD k []) := by
  rcases Nat.lt_or_ge k l.length with h | h
  · simp [h]
  · simp [List.getElem?_eq_none h, X.canonL]

theorem Sim.canon {c : Ctx} {s : St} {ts : List (Array Value)} {g : Gh} {w : World} (hs : Sim ti c s ts g w) : Sim ti c s.canon ts g w where
  nr := by simp [St.canon, hs.nr]
  im := hs.im
  own := hs.own
  reg := fun r hr => by
    simp only [St.canon, St.reg]
    rw [getD_map_reg _ rfl]
    exact (hs.reg r hr).canon
  nf := by simpa [St.canon] using hs.nf
  fr := fun k hk => by
    simp only [St.canon]
    rw [getD_map_canonL, X.canonL_eq]
    have h1 := hs.fr k (by simpa [St.canon] using hk)
    exact ⟨by simpa using h1.size, fun i => by rw [getD_map_canon]; exact (h1.get i).canon⟩
  fm := hs.fm

/-- A slot's abstract value is taken for another one of the same value. -/
theorem Sim.setX {c : Ctx} {s : St} {t : Array Value} {ts : List (Array Value)} {g : Gh} {w : World} (hs : Sim ti c s (t :: ts) g w) {x : X} (d : Nat) (hx : RX ti g w x (t.getD d undef)) : Sim ti c (s.put (some d) x) (t :: ts) g w := by
  obtain ⟨fr, m⟩ := s
  cases fr with
  | nil => have := hs.nf; simp at this
  | cons xs fr =>
    refine ⟨hs.nr, hs.im, hs.own, hs.reg, by have := hs.nf; simpa [St.put, St.cur] using this, fun k hk => ?_, hs.fm⟩
    cases k with
    | zero =>
      have h0 := hs.fr 0 (by simp)
      simp only [List.getD_cons_zero] at h0
      refine ⟨by simpa [St.put, St.cur] using h0.size, fun i => ?_⟩
      have h1 := h0.get i
      simp only [St.put, St.cur, List.headD_cons, List.getD_cons_zero]
      by_cases hd : d = i
      · subst hd
        by_cases hl : d < xs.length
        · simpa [hl] using hx
        · simp only [List.getD_eq_getElem?_getD, List.getElem?_set]
          simp [hl]
          exact .un
      · simpa [List.getD_eq_getElem?_getD, List.getElem?_set, hd] using h1
    | succ k =>
      have h1 := hs.fr (k + 1) (by simpa [St.put] using hk)
      simpa [St.put] using h1

theorem keepSlots_get (live : List (Nat × Md)) : ∀ (xs : List X) (k i : Nat), (keepSlots live k xs).getD i .un = xs.getD i .un ∨ (keepSlots live k xs).getD i .un = .un
  | [], _, i => .inl rfl
  | x :: xs, k, 0 => by
    simp only [keepSlots, List.getD_cons_zero]
    split
    · exact .inl rfl
    · exact .inr rfl
  | x :: xs, k, i + 1 => by
    simp only [keepSlots, List.getD_cons_succ]
    exact keepSlots_get live xs (k + 1) i

theorem keepSlots_length (live : List (Nat × Md)) : ∀ (xs : List X) (k : Nat), (keepSlots live k xs).length = xs.length
  | [], _ => rfl
  | x :: xs, k => by simp [keepSlots, keepSlots_length live xs (k + 1)]

theorem Sim.keep {c : Ctx} {s : St} {t : Array Value} {ts : List (Array Value)} {g : Gh} {w : World} (hs : Sim ti c s (t :: ts) g w) (live : List (Nat × Md)) : Sim ti c ⟨keepSlots live 0 s.cur :: s.fr.tail, s.m⟩ (t :: ts) g w := by
  obtain ⟨fr, m⟩ := s
  cases fr with
  | nil => have := hs.nf; simp at this
  | cons xs fr =>
    refine ⟨hs.nr, hs.im, hs.own, hs.reg, by have := hs.nf; simpa [St.cur] using this, fun k hk => ?_, hs.fm⟩
    cases k with
    | zero =>
      have h0 := hs.fr 0 (by simp)
      simp only [List.getD_cons_zero] at h0
      refine ⟨by simpa [St.cur, keepSlots_length] using h0.size, fun i => ?_⟩
      simp only [St.cur, List.headD_cons, List.getD_cons_zero]
      rcases keepSlots_get live xs 0 i with h1 | h1
      · rw [h1]; exact h0.get i
      · rw [h1]; exact .un
    | succ k =>
      have h1 := hs.fr (k + 1) (by simpa using hk)
      simpa using h1

theorem idx_spec {keep : List Nat} {r i : Nat} (h : idx keep r = some i) : i < keep.length ∧ keep.getD i 0 = r := by
  unfold idx at h
  rw [List.idxOf?_eq_some_iff] at h
  obtain ⟨h1, h2, _⟩ := h
  exact ⟨h1, by simp [h1, h2]⟩

theorem reach_ok (m : List Reg) : ∀ (n : Nat) (todo seen : List Nat), seen.Nodup → (∀ r ∈ seen, r < m.length) → (reach m n todo seen).Nodup ∧ ∀ r ∈ reach m n todo seen, r < m.length
  | 0, _, seen, h1, h2 => ⟨h1, h2⟩
  | _ + 1, [], seen, h1, h2 => ⟨h1, h2⟩
  | n + 1, r :: todo, seen, h1, h2 => by
    simp only [reach]
    split
    · exact reach_ok m n todo seen h1 h2
    · rename_i hc
      simp only [Bool.or_eq_true, List.contains_eq_mem, decide_eq_true_eq, not_or] at hc
      refine reach_ok m n _ _ (List.nodup_append.2 ⟨h1, by simp, fun a ha b hb => ?_⟩) (fun q hq => ?_)
      · simp only [List.mem_singleton] at hb
        subst hb
        intro e
        subst e
        exact hc.1 ha
      · rcases List.mem_append.1 hq with hq | hq
        · exact h2 q hq
        · simp only [List.mem_singleton] at hq
          subst hq
          omega

theorem idx_of {keep : List Nat} (hd : keep.Nodup) {i : Nat} (hi : i < keep.length) : idx keep (keep.getD i 0) = some i := by
  unfold idx
  rw [List.idxOf?_eq_some_iff]
  have e1 : keep.getD i 0 = keep[i] := by simp [hi]
  refine ⟨hi, e1.symm, fun j hj he => ?_⟩
  rw [e1] at he
  exact List.pairwise_iff_getElem.1 hd j i (by omega) hi hj he

/-- Only some regions are kept. -/
theorem Sim.only {c : Ctx} {s : St} {ts : List (Array Value)} {g : Gh} {w : World} (hs : Sim ti c s ts g w) {keep : List Nat} (hd : keep.Nodup) (hk : ∀ r ∈ keep, r < s.m.length) :
    ∃ g', Sim ti c (s.only keep) ts g' w := by
  let g' : Gh := { own := fun b => (g.own b).bind (idx keep), im := g.im, loc := fun i => g.loc (keep.getD i 0), cap := fun i => g.cap (keep.getD i 0), len := fun i => g.len (keep.getD i 0), nr := keep.length }
  have m : Mor (idx keep) g w g' w := ⟨fun b hb => ⟨hb, rfl⟩, fun r r' hn hr => by
    obtain ⟨h1, h2⟩ := idx_spec hr
    simp only [g', h2]
    exact ⟨h1, trivial, trivial, trivial⟩⟩
  refine ⟨g', hs.step m (by simp [g']) (fun b hb => ?_) (fun b i hb => ?_) (fun i hi => ?_) ⟨hs.fm.os, hs.fm.tape, hs.fm.output, hs.fm.size, fun b hb hn => ?_⟩⟩
  · obtain ⟨h1, h2⟩ := hs.im b hb
    exact ⟨h1, by simp [g', h2]⟩
  · simp only [g', Option.bind_eq_some_iff] at hb
    obtain ⟨r, h1, h2⟩ := hb
    exact ⟨(hs.own b r h1).1, (idx_spec h2).1⟩
  · have hi' : i < keep.length := hi
    have hmem : keep.getD i 0 ∈ keep := by simp [hi']
    have hlt := hk _ hmem
    have e1 : (keep.map fun r => (s.reg r).ren (idx keep)).getD i .dead = (s.reg (keep.getD i 0)).ren (idx keep) := by simp [hi']
    rw [e1]
    refine (hs.reg _ (by rw [hs.nr]; exact hlt)).mor m (idx_of hd hi') (by rw [hs.nr]; exact hlt) (fun b hb => ⟨?_, rfl⟩)
    simp only [g', hb]
    exact idx_of hd hi'
  · obtain ⟨h1, h2, h3⟩ := hs.fm.old b hb hn
    exact ⟨h1, by simp [g', h2], h3⟩

theorem Sim.gc {c : Ctx} {s : St} {ts : List (Array Value)} {g : Gh} {w : World} (hs : Sim ti c s ts g w) : ∃ g', Sim ti c s.gc ts g' w := by
  obtain ⟨h1, h2⟩ := reach_ok s.m 1000 (s.fr.flatMap X.refsL) [] .nil (by simp)
  exact hs.only h1 h2

theorem coerce_ok {R : Type} {res : R} {c : Ctx} {s : St} {ts : List (Array Value)} {g : Gh} {w : World} (hs : Sim ti c s ts g w) {md : Md} {x : X} {v : Value} {K : X → St → Option R} (hx : RX ti g w x v) (h : coerce md x s K = some res) :
    ∃ y s' g', K y s' = some res ∧ Sim ti c s' ts g' w ∧ RX ti g' w y v ∧ ∀ q, g'.loc q = g.loc q ∨ g.nr ≤ q := by
  unfold coerce at h
  split at h
  · exact ⟨x, s, g, h, hs, hx, fun q => .inl rfl⟩
  · rename_i e
    obtain ⟨τs, s', g', k1, k2, k3, k4, k5, k6⟩ := toTs_ok _ _ _ _ g [v] h hs (by simp) (fun i hi => by
      have : i = 0 := by simpa using hi
      subst this
      simpa using hx)
    refine ⟨_, s', g', k1, k2, .t ?_, fun q => .inl (by rw [k3.loc])⟩
    have := k6 0 (by simp)
    simp only [List.getD_cons_zero] at this
    have e1 : τs.headD (.i 0) = τs.getD 0 (.i 0) := by cases τs <;> rfl
    rw [e1]
    exact this
  · rename_i e
    cases hx with
    | @nil A =>
      obtain ⟨g', k1, k2, m⟩ := hs.newArr0 e A
      exact ⟨_, _, g', h, k1, k2, fun q => by
        rcases Nat.lt_or_ge q g.nr with hq | hq
        · exact .inl (m.reg q q hq rfl).2.1
        · exact .inr hq⟩
    | @own e' r A hn ha =>
      simp only at h
      split at h
      · rename_i he
        subst he
        exact ⟨_, s, g, h, hs, .own hn ha, fun q => .inl rfl⟩
      · cases h
    | @ref e' r off len A hn ha hl =>
      simp only at h
      split at h
      · rename_i he
        obtain ⟨rfl, rfl⟩ := he
        split at h
        · rename_i e2 xs heq
          split at h
          · rename_i he
            subst he
            have h0 : RegOk ti g w r (.arr e2 xs) := heq ▸ hs.reg r hn
            cases h0 with
            | arr h1 h2 h3 hm =>
              obtain ⟨k1, m⟩ := hs.relen (r := r) (R := .arr e2 (xs.take len)) len hn (fun m => by
                have hlen : (xs.take len).length = len := by simp; omega
                refine .arr (by simp [Gh.setLen, hlen]) (by rw [hlen]; show len ≤ g.cap r; omega) (by omega) (fun hp => ?_)
                obtain ⟨cs, te, a1, a2, a3, a4⟩ := hm hp
                refine ⟨cs, te, a1, a2, a3, fun i j hi hj => ?_⟩
                rw [hlen] at hi
                have e1 : (xs.take len).getD i (.i 0) = xs.getD i (.i 0) := by simp [hi]
                rw [e1]
                exact a4 i j (by omega) hj)
              refine ⟨_, _, _, h, k1, ?_, fun q => .inl rfl⟩
              exact RX.own_mk hn (by simp [Gh.setLen]) rfl ha
          · cases h
        · cases h
      · cases h
    | _ => simp at h

theorem coerceSlots_ok {R : Type} {res : R} {c : Ctx} {t : Array Value} {ts : List (Array Value)} {w : World} : ∀ (l : List (Nat × Md)) (s : St) (g : Gh) (K : St → Option R), coerceSlots l s K = some res → Sim ti c s (t :: ts) g w →
    ∃ s' g', K s' = some res ∧ Sim ti c s' (t :: ts) g' w
  | [], s, g, K, h, hs => ⟨s, g, h, hs⟩
  | (i, .any) :: l, s, g, K, h, hs => coerceSlots_ok l s g K (by simpa [coerceSlots] using h) hs
  | (i, .imm e) :: l, s, g, K, h, hs => by
    simp only [coerceSlots] at h
    obtain ⟨y, s', g', k1, k2, k3, _⟩ := coerce_ok hs (hs.slot i) h
    exact coerceSlots_ok l _ g' K k1 (k2.setX i k3)
  | (i, .own e) :: l, s, g, K, h, hs => by
    simp only [coerceSlots] at h
    obtain ⟨y, s', g', k1, k2, k3, _⟩ := coerce_ok hs (hs.slot i) h
    exact coerceSlots_ok l _ g' K k1 (k2.setX i k3)

theorem coerceLeaves_ok {R : Type} {res : R} {c : Ctx} {t : Array Value} {ts : List (Array Value)} {w : World} : ∀ (l : List (Nat × Nat × Md)) (s : St) (g : Gh) (K : St → Option R), coerceLeaves l s K = some res → Sim ti c s (t :: ts) g w →
    ∃ s' g', K s' = some res ∧ Sim ti c s' (t :: ts) g' w
  | [], s, g, K, h, hs => ⟨s, g, h, hs⟩
  | (i, j, md) :: l, s, g, K, h, hs => by
    simp only [coerceLeaves] at h
    split at h
    · rename_i q off hq
      have hsl := hs.slot i
      rw [hq] at hsl
      have hqn : q < g.nr := by
        generalize t.getD i undef = v at hsl
        cases hsl with | pb hn => exact hn
      split at h
      · rename_i xs heq
        have h0 : RegOk ti g w q (.box xs) := heq ▸ hs.reg q hqn
        cases h0 with
        | @box _ cs te ho hh hsz hxs =>
          split at h
          · rename_i hlt
            obtain ⟨y, s', g', k1, k2, k3, k4⟩ := coerce_ok hs (hxs (off + j) hlt) h
            split at k1
            · rename_i ys heq2
              split at k1
              · rename_i hlt2
                have hloc : g'.loc q = g.loc q := (k4 q).resolve_right (by omega)
                by_cases hqn' : q < g'.nr
                · have h1 : RegOk ti g' w q (.box ys) := heq2 ▸ k2.reg q hqn'
                  cases h1 with
                  | @box _ cs2 te2 ho2 hh2 hsz2 hxs2 =>
                    have hcs : cs2 = cs := by
                      rw [hloc, hh] at hh2
                      injection hh2 with e1
                      injection e1 with e2 _ _
                      exact e2.symm
                    refine coerceLeaves_ok l _ g' K k1 (k2.same hqn' (.box ho2 hh2 (by simpa using hsz2) (fun k hk => ?_)))
                    by_cases hkj : off + j = k
                    · subst hkj
                      have : (ys.set (off + j) y).getD (off + j) .un = y := by simp [hlt2]
                      rw [this, hcs, hloc]
                      exact k3
                    · have : (ys.set (off + j) y).getD k .un = ys.getD k .un := by simp [List.getElem?_set_ne hkj]
                      rw [this]
                      exact hxs2 k (by simpa using hk)
                · have hreg : s'.reg q = .dead := by
                    have := k2.nr
                    unfold St.reg
                    simp [List.getElem?_eq_none (show s'.m.length ≤ q by omega)]
                  rw [hreg] at heq2
                  cases heq2
              · cases k1
            · cases k1
          · cases h
      · cases h
    · cases h

theorem X.bzL_eq (r : Nat) (e : TypeId) (τ : T) (ys : List X) : X.bzL r e τ ys = ys.map (X.bz r e τ) := by
  induction ys with
  | nil => simp [X.bzL]
  | cons y ys ih => simp [X.bzL, ih]

theorem getD_map_bz (r : Nat) (e : TypeId) (τ : T) (ys : List X) (i : Nat) : (ys.map (X.bz r e τ)).getD i .un = (ys.getD i .un).bz r e τ := by
  rcases Nat.lt_or_ge i ys.length with h | h
  · simp [h]
  · simp [List.getElem?_eq_none h, X.bz]

theorem getD_map_bzL (r : Nat) (e : TypeId) (τ : T) (l : List (List X)) (k : Nat) : (l.map (X.bzL r e τ)).getD k [] = X.bzL r e τ (l.getD k []) := by
  rcases Nat.lt_or_ge k l.length with h | h
  · simp [h]
  · simp [List.getElem?_eq_none h, X.bzL]

theorem snap0_ok {g : Gh} {w : World} {l : Lt} {x : X} {v : Value} {τ : T} (hx : RX ti g w x v) (h : snap0 l x = some τ) : RL ti g.im w l τ v := by
  cases hx with
  | t h1 =>
    simp only [snap0] at h
    split at h
    · rename_i e; subst e; cases h; exact h1
    · cases h
  | nil =>
    simp only [snap0] at h
    split at h
    · cases h; exact .empty rfl
    · cases h
  | pt cs hb hcell hr =>
    simp only [snap0] at h
    split at h
    · rename_i e1
      obtain ⟨rfl, rfl⟩ := e1
      cases h
      exact .box cs hb hcell hr
    · cases h
  | fn hsz _ =>
    simp only [snap0] at h
    split at h
    · split at h
      · rename_i e
        subst e
        rw [Array.eq_empty_of_size_eq_zero hsz]
        exact .fnc
      · cases h
    · cases h
  | _ => simp [snap0] at h

theorem snapL0_ok : ∀ (ls : List Lt) (xs : List X) (τs : List T), snapL0 ls xs = some τs → xs.length = ls.length ∧ τs.length = ls.length ∧ ∀ j, j < ls.length → snap0 (ls.getD j .fn) (xs.getD j .un) = some (τs.getD j (.i 0))
  | [], [], τs, h => by cases h; exact ⟨rfl, rfl, fun j hj => by simp at hj⟩
  | [], _ :: _, τs, h => by simp [snapL0] at h
  | _ :: _, [], τs, h => by simp [snapL0] at h
  | l :: ls, x :: xs, τs, h => by
    unfold snapL0 at h
    split at h
    · rename_i τ hτ
      split at h
      · rename_i τs' h'
        cases h
        obtain ⟨h1, h2, h3⟩ := snapL0_ok ls xs τs' h'
        refine ⟨by simp [h1], by simp [h2], fun j hj => ?_⟩
        cases j with
        | zero => simpa using hτ
        | succ j => simpa using h3 j (by simpa using hj)
      · cases h
    · cases h

/-- What a variable's tree says of its cells. -/
def BoxIs (ti : TypeId → TyI) (g : Gh) (w : World) (r : Nat) (e : TypeId) (τ : T) : Prop :=
  ∃ (c : Array Value) (te : TypeId), g.own (g.loc r).1 = some r ∧ w.heap[(g.loc r).1]? = some (.cells c te (0, 0)) ∧ (g.loc r).2 + (ti e).size ≤ c.size ∧
    ∀ j, j < (ti e).size → RL ti g.im w ((ti e).lv.getD j .fn) ((ti e).leaf τ j) (c.getD ((g.loc r).2 + j) undef)

theorem RX.bz {g : Gh} {w : World} {r : Nat} {e : TypeId} {τ : T} (hb : BoxIs ti g w r e τ) {x : X} {v : Value} (h : RX ti g w x v) : RX ti (g.frz r) w (x.bz r e τ) v := by
  induction h with
  | un => exact .un
  | t h => exact .t h.frz
  | agg hs _ ih =>
    rw [X.bz, X.bzL_eq]
    exact .agg (by simpa using hs) (fun i hi => by rw [getD_map_bz]; exact ih i (by simpa using hi))
  | tup hs _ ih =>
    rw [X.bz, X.bzL_eq]
    exact .tup (by simpa using hs) (fun i hi => by rw [getD_map_bz]; exact ih i (by simpa using hi))
  | nil => exact .nil
  | @own e' r' A hn h =>
    simp only [X.bz]
    split
    · exact .un
    · exact .own hn h
  | @ref e' r' off len A hn h hl =>
    simp only [X.bz]
    split
    · exact .un
    · exact .ref hn h hl
  | @pb r' off hn =>
    simp only [X.bz]
    split
    · rename_i hq
      subst hq
      obtain ⟨c, te, h1, h2, h3, h4⟩ := hb
      refine .pt (fun j => c.getD ((g.loc r').2 + j) undef) (.inr h1) (fun j hj => ?_) (fun j hj => (h4 j hj).frz)
      have hlt : (g.loc r').2 + j < c.size := by omega
      simp [World.cell?, h2, hlt]
    · exact .pb hn
  | @pa e' r' idx off hn h =>
    simp only [X.bz]
    split
    · exact .un
    · exact .pa hn h
  | pt cs hb hcell hr' => exact .pt cs (.inl hb) hcell (fun j hj => (hr' j hj).frz)
  | fn hs _ ih =>
    rw [X.bz, X.bzL_eq]
    exact .fn (by simpa using hs) (fun i hi => by rw [getD_map_bz]; exact ih i (by simpa using hi))

theorem RegOk.bz {g : Gh} {w : World} {r : Nat} {e : TypeId} {τ : T} (hb : BoxIs ti g w r e τ) {q : Nat} {R : Reg} (hq : q ≠ r) (h : RegOk ti g w q R) :
    RegOk ti (g.frz r) w q (R.bz r e τ) := by
  have hne : ∀ b, g.own b = some q → (g.frz r).own b = some q := fun b hb => by
    have : g.own b ≠ some r := fun e => by rw [hb] at e; cases e; exact hq rfl
    simp only [Gh.frz, if_neg this]
    exact hb
  cases h with
  | box ho hh hs hx =>
    rw [Reg.bz, X.bzL_eq]
    refine .box (hne _ ho) hh (by simpa [Gh.frz] using hs) (fun j hj => ?_)
    rw [getD_map_bz]
    exact (hx j (by simpa using hj)).bz hb
  | arr hl hc hn hm =>
    refine .arr hl hc hn (fun hp => ?_)
    obtain ⟨c, te, a1, a2, a3, a4⟩ := hm hp
    exact ⟨c, te, hne _ a1, a2, a3, fun i j hi hj => (a4 i j hi hj).frz⟩
  | dead => exact .dead

theorem Sim.bz {c : Ctx} {s : St} {ts : List (Array Value)} {g : Gh} {w : World} (hs : Sim ti c s ts g w) {r : Nat} {e : TypeId} {τ : T} (hr : r < g.nr) (h0 : BoxIs ti g w r e τ) : Sim ti c (s.bz r e τ) ts (g.frz r) w := by
  refine ⟨by simp [St.bz, Gh.frz, hs.nr], fun b hb => ?_, fun b q hb => ?_, fun q hq => ?_, by simpa [St.bz] using hs.nf, fun k hk => ?_, ⟨hs.fm.os, hs.fm.tape, hs.fm.output, hs.fm.size, fun b hb hn => ?_⟩⟩
  · rcases hb with hb | hb
    · obtain ⟨h1, h2⟩ := hs.im b hb
      exact ⟨h1, by simp [Gh.frz, h2]⟩
    · exact ⟨(hs.own b r hb).1, by simp [Gh.frz, hb]⟩
  · simp only [Gh.frz] at hb ⊢
    split at hb
    · cases hb
    · exact hs.own b q hb
  · simp only [St.bz, St.reg]
    rw [getD_map_reg _ rfl]
    by_cases h : q = r
    · subst h
      rw [getD_set_eq _ _ (by rw [← hs.nr]; exact hr)]
      exact .dead
    · rw [getD_set_ne' _ _ h]
      exact RegOk.bz h0 h (hs.reg q hq)
  · simp only [St.bz]
    rw [getD_map_bzL, X.bzL_eq]
    have h1 := hs.fr k (by simpa [St.bz] using hk)
    exact ⟨by simpa using h1.size, fun i => by rw [getD_map_bz]; exact (h1.get i).bz h0⟩
  · obtain ⟨h1, h2, h3⟩ := hs.fm.old b hb hn
    refine ⟨h1, by simp [Gh.frz, h2], fun hi => ?_⟩
    rcases hi with hi | hi
    · exact h3 hi
    · rw [h2] at hi
      cases hi

theorem bzK_ok (H : TabOk P ti) {c : Ctx} {t : Array Value} {ts : List (Array Value)} {w : World} : ∀ (ls : List Lt) (n : Nat) (s s' : St) (g : Gh), bzK ti ls n s = some s' → Sim ti c s (t :: ts) g w →
    ∃ g', Sim ti c s' (t :: ts) g' w
  | [], n, s, s', g, h, hs => by
    simp only [bzK, Option.some.injEq] at h
    subst h
    exact ⟨g, hs⟩
  | l :: ls, n, s, s', g, h, hs => by
    by_cases hl : ∃ e, l = .box e
    · obtain ⟨e, rfl⟩ := hl
      simp only [bzK] at h
      split at h
      · rename_i r off hx
        split at h
        · rename_i hc
          split at h
          · cases h
          · rename_i s1 hco
            obtain ⟨s1', g1, k1, k2⟩ := coerceLeaves_ok _ _ _ _ hco hs
            cases k1
            split at h
            · rename_i r' off' cs hx1 hreg
              split at h
              · rename_i hrr
                subst hrr
                split at h
                · rename_i τs hsn
                  have hsl := k2.slot n
                  rw [hx1] at hsl
                  have hr' : r' < g1.nr := by
                    generalize t.getD n undef = v at hsl
                    cases hsl with | pb hn => exact hn
                  have hbox : BoxIs ti g1 w r' e ((ti e).join τs) := by
                    have h0 : RegOk ti g1 w r' (.box cs) := hreg ▸ k2.reg r' hr'
                    obtain ⟨e1, e2, e3⟩ := snapL0_ok _ _ _ hsn
                    cases h0 with
                    | @box _ cv te ho hh hs0 hx0 =>
                      refine ⟨cv, te, ho, hh, by rw [show (ti e).size = cs.length from e1.symm]; exact hs0, fun j hj => ?_⟩
                      have h5 := snap0_ok (hx0 j (by rw [e1]; exact hj)) (e3 j hj)
                      have e4 : τs = (List.range (ti e).size).map fun j => τs.getD j (.i 0) := by
                        apply List.ext_getElem (by simp [TyI.size, e2])
                        intro i h6 h7
                        simp [h6]
                      rw [e4, leaf_join H hc.2 _ hj]
                      exact h5
                  exact bzK_ok H ls (n + 1) _ s' _ h (k2.bz hr' hbox)
                · cases h
              · cases h
            · cases h
        · cases h
      · rename_i e' τ off hx
        split at h
        · exact bzK_ok H ls (n + 1) s s' g h hs
        · split at h
          · rename_i hc
            obtain ⟨hok, hsz, hlv⟩ := hc
            have hsl := hs.slot n
            rw [hx] at hsl
            refine bzK_ok H ls (n + 1) _ s' g h (hs.setX n ?_)
            generalize t.getD n undef = v at hsl
            cases hsl with
            | @pt _ _ _ b o cs hb hcell hr =>
              refine RX.pt (e := e) (off := 0) (b := b) (o := o + off) (fun j => cs (off + j)) hb (fun j hj => ?_) (fun j hj => ?_)
              · rw [Nat.add_assoc]; exact hcell (off + j) (by omega)
              · rw [leaf_join H hok _ hj]
                have h1 := hr (off + j) (by omega)
                have h2 : (ti e).lv.getD j .fn = (ti e').lv.getD (off + j) .fn := by
                  have hj' : j < (ti e).lv.length := hj
                  rw [← hlv]
                  simp only [List.getD_eq_getElem?_getD, List.getElem?_take, List.getElem?_drop]
                  rw [if_pos hj]
                rw [h2]
                exact h1
          · cases h
      · exact bzK_ok H ls (n + 1) s s' g h hs
    · have e1 : bzK ti (l :: ls) n s = bzK ti ls (n + 1) s := by
        cases l <;> first | rfl | exact absurd ⟨_, rfl⟩ hl
      rw [e1] at h
      exact bzK_ok H ls (n + 1) s s' g h hs

end

mutual
theorem X.mat_fill (v : List T) : ∀ (x y : X) (u : List T) (n : Nat), x.mat y = some u → (∀ i, i < u.length → v.getD (n + i) (.i 0) = u.getD i (.i 0)) → x.fill v n = (y.canon, n + u.length)
  | .un, y, u, n, h, hv => by
    cases y <;> simp only [X.mat] at h <;> first | (cases h; rfl) | cases h
  | .t l _, y, u, n, h, hv => by
    cases y with
    | t l' τ =>
      simp only [X.mat] at h
      split at h
      · rename_i hl
        cases h
        subst hl
        have := hv 0 (by simp)
        simp only [Nat.add_zero, List.getD_cons_zero] at this
        simp only [X.fill, X.canon, this, List.length_singleton]
      · cases h
    | _ => simp [X.mat] at h
  | .agg xs, y, u, n, h, hv => by
    cases y with
    | agg ys =>
      simp only [X.mat] at h
      simp only [X.fill, X.canon, X.matL_fill v xs ys u n h hv]
    | _ => simp [X.mat] at h
  | .tup xs, y, u, n, h, hv => by
    cases y with
    | tup ys =>
      simp only [X.mat] at h
      simp only [X.fill, X.canon, X.matL_fill v xs ys u n h hv]
    | _ => simp [X.mat] at h
  | .nil, y, u, n, h, hv => by
    cases y <;> simp only [X.mat] at h <;> first | (cases h; rfl) | cases h
  | .own e r, y, u, n, h, hv => by
    cases y with
    | own e' r' =>
      simp only [X.mat] at h
      split at h
      · rename_i hc
        cases h
        obtain ⟨rfl, rfl⟩ := hc
        rfl
      · cases h
    | _ => simp [X.mat] at h
  | .pb r o, y, u, n, h, hv => by
    cases y with
    | pb r' o' =>
      simp only [X.mat] at h
      split at h
      · rename_i hc
        cases h
        obtain ⟨rfl, rfl⟩ := hc
        rfl
      · cases h
    | _ => simp [X.mat] at h
  | .fn f xs, y, u, n, h, hv => by
    cases y with
    | fn f' ys =>
      simp only [X.mat] at h
      split at h
      · rename_i hc
        subst hc
        simp only [X.fill, X.canon, X.matL_fill v xs ys u n h hv]
      · cases h
    | _ => simp [X.mat] at h
  | .ref e r _ _, y, u, n, h, hv => by
    cases y with
    | ref e' r' off len =>
      simp only [X.mat] at h
      split at h
      · rename_i hc
        cases h
        obtain ⟨rfl, rfl⟩ := hc
        have h0 := hv 0 (by simp)
        have h1 := hv 1 (by simp)
        simp only [Nat.add_zero, List.getD_cons_zero, List.getD_cons_succ] at h0 h1
        simp only [X.fill, X.canon, h0, h1, T.I_i, Int.toNat_natCast, List.length_cons, List.length_nil]
      · cases h
    | _ => simp [X.mat] at h
  | .pa e r _ o, y, u, n, h, hv => by
    cases y with
    | pa e' r' idx o' =>
      simp only [X.mat] at h
      split at h
      · rename_i hc
        cases h
        obtain ⟨rfl, rfl, rfl⟩ := hc
        have h0 := hv 0 (by simp)
        simp only [Nat.add_zero, List.getD_cons_zero] at h0
        simp only [X.fill, X.canon, h0, T.I_i, Int.toNat_natCast, List.length_cons, List.length_nil]
      · cases h
    | _ => simp [X.mat] at h
  | .pt e _ o, y, u, n, h, hv => by
    cases y with
    | pt e' τ o' =>
      simp only [X.mat] at h
      split at h
      · rename_i hc
        cases h
        obtain ⟨rfl, rfl⟩ := hc
        have h0 := hv 0 (by simp)
        simp only [Nat.add_zero, List.getD_cons_zero] at h0
        simp only [X.fill, X.canon, h0, List.length_cons, List.length_nil]
      · cases h
    | _ => simp [X.mat] at h
theorem X.matL_fill (v : List T) : ∀ (xs ys : List X) (u : List T) (n : Nat), X.matL xs ys = some u → (∀ i, i < u.length → v.getD (n + i) (.i 0) = u.getD i (.i 0)) → X.fillL v xs n = (X.canonL ys, n + u.length)
  | [], [], u, n, h, hv => by cases h; rfl
  | [], _ :: _, u, n, h, hv => by simp [X.matL] at h
  | _ :: _, [], u, n, h, hv => by simp [X.matL] at h
  | x :: xs, y :: ys, u, n, h, hv => by
    simp only [X.matL] at h
    split at h
    · rename_i u1 h1
      split at h
      · rename_i u2 h2
        cases h
        have e1 := X.mat_fill v x y u1 n h1 (fun i hi => by
          rw [hv i (by simp; omega)]
          simp [List.getElem?_append_left hi])
        have e2 := X.matL_fill v xs ys u2 (n + u1.length) h2 (fun i hi => by
          rw [Nat.add_assoc, hv (u1.length + i) (by simp; omega)]
          simp [List.getElem?_append_right])
        simp only [X.fillL, X.canonL, e1, e2, List.length_append, Nat.add_assoc]
      · cases h
    · cases h
end

theorem Reg.mat_fill (v : List T) : ∀ (x y : Reg) (u : List T) (n : Nat), x.mat y = some u → (∀ i, i < u.length → v.getD (n + i) (.i 0) = u.getD i (.i 0)) → x.fill v n = (y.canon, n + u.length)
  | .box xs, y, u, n, h, hv => by
    cases y with
    | box ys =>
      simp only [Reg.mat] at h
      simp only [Reg.fill, Reg.canon, X.matL_fill v xs ys u n h hv]
    | _ => simp [Reg.mat] at h
  | .arr e _, y, u, n, h, hv => by
    cases y with
    | arr e' ys =>
      simp only [Reg.mat] at h
      split at h
      · rename_i hc
        cases h
        subst hc
        have := hv 0 (by simp)
        simp only [Nat.add_zero, List.getD_cons_zero] at this
        simp only [Reg.fill, Reg.canon, this, List.length_singleton, T.L_l]
      · cases h
    | _ => simp [Reg.mat] at h
  | .dead, y, u, n, h, hv => by
    cases y <;> simp only [Reg.mat] at h <;> first | (cases h; rfl) | cases h

theorem matF_fill (v : List T) : ∀ (xs ys : List (List X)) (u : List T) (n : Nat), matF xs ys = some u → (∀ i, i < u.length → v.getD (n + i) (.i 0) = u.getD i (.i 0)) → fillF v xs n = (ys.map X.canonL, n + u.length)
  | [], [], u, n, h, hv => by cases h; rfl
  | [], _ :: _, u, n, h, hv => by simp [matF] at h
  | _ :: _, [], u, n, h, hv => by simp [matF] at h
  | x :: xs, y :: ys, u, n, h, hv => by
    simp only [matF] at h
    split at h
    · rename_i u1 h1
      split at h
      · rename_i u2 h2
        cases h
        have e1 := X.matL_fill v x y u1 n h1 (fun i hi => by
          rw [hv i (by simp; omega)]
          simp [List.getElem?_append_left hi])
        have e2 := matF_fill v xs ys u2 (n + u1.length) h2 (fun i hi => by
          rw [Nat.add_assoc, hv (u1.length + i) (by simp; omega)]
          simp [List.getElem?_append_right])
        simp only [fillF, List.map_cons, e1, e2, List.length_append, Nat.add_assoc]
      · cases h
    · cases h
theorem matM_fill (v : List T) : ∀ (xs ys : List Reg) (u : List T) (n : Nat), matM xs ys = some u → (∀ i, i < u.length → v.getD (n + i) (.i 0) = u.getD i (.i 0)) → fillM v xs n = (ys.map Reg.canon, n + u.length)
  | [], [], u, n, h, hv => by cases h; rfl
  | [], _ :: _, u, n, h, hv => by simp [matM] at h
  | _ :: _, [], u, n, h, hv => by simp [matM] at h
  | x :: xs, y :: ys, u, n, h, hv => by
    simp only [matM] at h
    split at h
    · rename_i u1 h1
      split at h
      · rename_i u2 h2
        cases h
        have e1 := Reg.mat_fill v x y u1 n h1 (fun i hi => by
          rw [hv i (by simp; omega)]
          simp [List.getElem?_append_left hi])
        have e2 := matM_fill v xs ys u2 (n + u1.length) h2 (fun i hi => by
          rw [Nat.add_assoc, hv (u1.length + i) (by simp; omega)]
          simp [List.getElem?_append_right])
        simp only [fillM, List.map_cons, e1, e2, List.length_append, Nat.add_assoc]
      · cases h
    · cases h

theorem St.mat_fill {k s : St} {v : List T} (h : k.mat s = some v) : k.fill v = s.canon := by
  unfold St.mat at h
  split at h
  · rename_i u1 h1
    split at h
    · rename_i u2 h2
      cases h
      have e1 := matF_fill (u1 ++ u2) _ _ u1 0 h1 (fun i hi => by simp [List.getElem?_append_left hi])
      have e2 := matM_fill (u1 ++ u2) _ _ u2 (0 + u1.length) h2 (fun i hi => by simp [List.getElem?_append_right])
      simp only [St.fill, St.canon, e1, e2]
    · cases h
  · cases h
end Go.KX
