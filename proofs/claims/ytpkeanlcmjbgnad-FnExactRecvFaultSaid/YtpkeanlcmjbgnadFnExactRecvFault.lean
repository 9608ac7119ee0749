/- laws.FnExactRecvFault: for every input the law returns true, and every argument reads behind the call as it read before. No further condition. -/
import Derived.Test.YtpkeanlcmjbgnadFn
import Derived.Test.YtpkeanlcmjbgnadRows
import Derived.KernelRfl
set_option linter.unusedVariables false
set_option linter.unusedSimpArgs false
set_option maxHeartbeats 4000000
set_option maxRecDepth 100000
namespace Go.KX.Sd
open Go
theorem shapeInt64 {xs : List T} (h : LW (tiOf tab) 2 xs) {x : T} (hx : x ∈ xs) : ∃ a0, x = .i a0 := by
  obtain ⟨f, rfl, hf⟩ := h.2 x hx
  obtain ⟨a0, e0, _, _⟩ := WL.int_inv (ti := tiOf tab) (k := .i64) (hf 0 (by decide))
  refine ⟨a0, ?_⟩
  show f 0 = _
  rw [e0]
theorem toInt64S_ok {n : Nat} (hn : maxN ≤ n) {xs : List T} (h : LW (tiOf tab) 2 xs) (hz : (T.l xs).sz ≤ 1048576) : F101 n (.l xs) = some [.l xs] :=
  toS_ok (xs := xs) (e := 2) (Fe := fun x => some [x]) (J := fun r => r.headD (.i 0)) (by_ := 8) (z := .i 0) hn (by have := len_sz xs; simp only [limB]; omega) h.len (fun x _ => ⟨_, rfl, rfl⟩)
theorem szInt64S_ok {n : Nat} (_ : maxN ≤ n) {xs : List T} (h : LW (tiOf tab) 2 xs) {left : Int} (g1 : 0 ≤ left) (g2 : left ≤ 1048576) : F93 n (.l xs) (.i left) = some [.i (sub left (T.l xs).sz)] :=
  szFlat_ok (xs := xs) h.len (szL_zero fun x hx => by
    obtain ⟨a0, rfl⟩ := shapeInt64 h hx
    simp only [szr, szl, szi, szb, szs, szN, szC]) g1 g2
theorem eqInt64S_ok {n : Nat} (hn : maxN ≤ n) {τ : T} (h : τ.sz < maxN) : F107 n τ τ = some [.b true] :=
  eqT_ok (xs := τ.L) (ne := fun a b => a.I != b.I) hn (by have := sz_L τ; have := len_sz τ.L; omega) (fun x => by simp)
theorem shapeByte {xs : List T} (h : LW (tiOf tab) 5 xs) {x : T} (hx : x ∈ xs) : ∃ a0, x = .i a0 := by
  obtain ⟨f, rfl, hf⟩ := h.2 x hx
  obtain ⟨a0, e0, _, _⟩ := WL.int_inv (ti := tiOf tab) (k := .u8) (hf 0 (by decide))
  refine ⟨a0, ?_⟩
  show f 0 = _
  rw [e0]
theorem toByteS_ok {n : Nat} (hn : maxN ≤ n) {xs : List T} (h : LW (tiOf tab) 5 xs) (hz : (T.l xs).sz ≤ 1048576) : F250 n (.l xs) = some [.l xs] :=
  toS_ok (xs := xs) (e := 5) (Fe := fun x => some [x]) (J := fun r => r.headD (.i 0)) (by_ := 1) (z := .i 0) hn (by have := len_sz xs; simp only [limB]; omega) h.len (fun x _ => ⟨_, rfl, rfl⟩)
theorem szByteS_ok {n : Nat} (_ : maxN ≤ n) {xs : List T} (h : LW (tiOf tab) 5 xs) {left : Int} (g1 : 0 ≤ left) (g2 : left ≤ 1048576) : F249 n (.l xs) (.i left) = some [.i (sub left (T.l xs).sz)] :=
  szFlat_ok (xs := xs) h.len (szL_zero fun x hx => by
    obtain ⟨a0, rfl⟩ := shapeByte h hx
    simp only [szr, szl, szi, szb, szs, szN, szC]) g1 g2
theorem eqByteS_ok {n : Nat} (hn : maxN ≤ n) {τ : T} (h : τ.sz < maxN) : F253 n τ τ = some [.b true] :=
  eqT_ok (xs := τ.L) (ne := fun a b => a.I != b.I) hn (by have := sz_L τ; have := len_sz τ.L; omega) (fun x => by simp)
theorem toData_ok {n : Nat} (hn : maxN ≤ n) {a0 : Int} {a1 : Int} {a2 : Int} {a3 : Bool} {a4 : Bool} {a5 : Bool} {a6 : List T} (h6 : LW (tiOf tab) 5 a6) (hz : (T.r [.i a0, .i a1, .i a2, .b a3, .b a4, .b a5, .l a6]).sz ≤ 1048576) : F201 n (.i a0) (.i a1) (.i a2) (.b a3) (.b a4) (.b a5) (.l a6) = some [.i a0, .i a1, .i a2, .b a3, .b a4, .b a5, .l a6] := by
  rw [szr] at hz
  unfold F201
  refine bind_eq (toByteS_ok hn  h6 (le_getD hz 6)) ?_
  rfl
theorem szData_ok {n : Nat} (hn : maxN ≤ n) {a0 : Int} {a1 : Int} {a2 : Int} {a3 : Bool} {a4 : Bool} {a5 : Bool} {a6 : List T} (h6 : LW (tiOf tab) 5 a6) {left : Int} (g1 : 0 ≤ left) (g2 : left ≤ 1048576) : F200 n (.i a0) (.i a1) (.i a2) (.b a3) (.b a4) (.b a5) (.l a6) (.i left) = some [.i (sub left (T.r [.i a0, .i a1, .i a2, .b a3, .b a4, .b a5, .l a6]).sz)] := by
  have e : (T.r [.i a0, .i a1, .i a2, .b a3, .b a4, .b a5, .l a6]).sz = (T.l a6).sz := by simp only [szr, szi, szb, szs, szN, szC, Nat.zero_add, Nat.add_zero] <;> omega
  rw [e]
  unfold F200
  refine bind_eq (szByteS_ok hn h6 (left := left) (by omega) (by omega)) ?_
  exact szEnd
theorem eqData_ok {n : Nat} (hn : maxN ≤ n) {x0 x1 x2 x3 x4 x5 x6 : T} (h6 : x6.sz < maxN) : F207 n x0 x1 x2 x3 x4 x5 x6 x0 x1 x2 x3 x4 x5 x6 = some [.b true] := by
  unfold F207
  refine condF (bne_self_eq_false _) ?_
  refine condF (bne_self_eq_false _) ?_
  refine condF (bne_self_eq_false _) ?_
  refine condF (beqN _) ?_
  refine condF (beqN _) ?_
  refine condF (beqN _) ?_
  refine bind_eq (eqByteS_ok (τ := x6) hn h6) (condF rfl ?_)
  rfl
theorem shapeData {xs : List T} (h : LW (tiOf tab) 259 xs) {x : T} (hx : x ∈ xs) : ∃ a0 a1 a2 a3 a4 a5 a6, x = .r [.i a0, .i a1, .i a2, .b a3, .b a4, .b a5, .l a6] ∧ LW (tiOf tab) 5 a6 := by
  obtain ⟨f, rfl, hf⟩ := h.2 x hx
  obtain ⟨a0, e0, _, _⟩ := WL.int_inv (ti := tiOf tab) (k := .i64) (hf 0 (by decide))
  obtain ⟨a1, e1, _, _⟩ := WL.int_inv (ti := tiOf tab) (k := .i64) (hf 1 (by decide))
  obtain ⟨a2, e2, _, _⟩ := WL.int_inv (ti := tiOf tab) (k := .i64) (hf 2 (by decide))
  obtain ⟨a3, e3⟩ := WL.bool_inv (ti := tiOf tab) (hf 3 (by decide))
  obtain ⟨a4, e4⟩ := WL.bool_inv (ti := tiOf tab) (hf 4 (by decide))
  obtain ⟨a5, e5⟩ := WL.bool_inv (ti := tiOf tab) (hf 5 (by decide))
  obtain ⟨a6, e6, h6⟩ := WL.slice_inv (ti := tiOf tab) (e := 5) (hf 6 (by decide))
  refine ⟨a0, a1, a2, a3, a4, a5, a6, ?_, h6⟩
  show T.r [f 0, f 1, f 2, f 3, f 4, f 5, f 6] = _
  rw [e0, e1, e2, e3, e4, e5, e6]
theorem toDataS_ok {n : Nat} (hn : maxN ≤ n) {xs : List T} (h : LW (tiOf tab) 259 xs) (hz : (T.l xs).sz ≤ 1048576) : F102 n (.l xs) = some [.l xs] :=
  toS_ok (xs := xs) (e := 132) (Fe := fun x => F201 n (x.F 0) (x.F 1) (x.F 2) (x.F 3) (x.F 4) (x.F 5) (x.F 6)) (J := fun r => .r [r.headD (.i 0), r.tail.headD (.i 0), r.tail.tail.headD (.i 0), r.tail.tail.tail.headD (.i 0), r.tail.tail.tail.tail.headD (.i 0), r.tail.tail.tail.tail.tail.headD (.i 0), r.tail.tail.tail.tail.tail.tail.headD (.i 0)]) (by_ := 56) (z := .r [.i 0, .i 0, .i 0, .b false, .b false, .b false, .l []]) hn (by have := len_sz xs; simp only [limB]; omega) h.len (fun x hx => by
    obtain ⟨a0, a1, a2, a3, a4, a5, a6, rfl, h6⟩ := shapeData h hx
    have := sz_mem hx
    exact ⟨_, toData_ok hn h6 (by omega), rfl⟩)
theorem szDataS_ok {n : Nat} (hn : maxN ≤ n) {xs : List T} (h : LW (tiOf tab) 259 xs) {left : Int} (g1 : 0 ≤ left) (g2 : left ≤ 1048576) : F94 n (.l xs) (.i left) = some [.i (sub left (T.l xs).sz)] :=
  szS_ok (xs := xs) (Fe := fun x y => F200 n (x.F 0) (x.F 1) (x.F 2) (x.F 3) (x.F 4) (x.F 5) (x.F 6) y) hn h.len (fun x hx left g1 g2 => by
    obtain ⟨a0, a1, a2, a3, a4, a5, a6, rfl, h6⟩ := shapeData h hx
    exact szData_ok hn h6 g1 g2) g1 g2
theorem eqDataS_ok {n : Nat} (hn : maxN ≤ n) {τ : T} (h : τ.sz < maxN) : F108 n τ τ = some [.b true] :=
  eqS_ok (xs := τ.L) (Fe := fun x y => F207 n (x.F 0) (x.F 1) (x.F 2) (x.F 3) (x.F 4) (x.F 5) (x.F 6) (y.F 0) (y.F 1) (y.F 2) (y.F 3) (y.F 4) (y.F 5) (y.F 6)) hn (by have := sz_L τ; have := len_sz τ.L; omega) (fun x hx => eqData_ok hn (by have := sz_F x 6; have := sz_mem hx; have := sz_L τ; omega))
theorem toRecv_ok {n : Nat} (hn : maxN ≤ n) {a0 : Int} {a1 : List T} {a2 : List T} {a3 : List T} (h1 : LW (tiOf tab) 2 a1) (h2 : LW (tiOf tab) 259 a2) (h3 : LW (tiOf tab) 2 a3) (hz : (T.r [.i a0, .l a1, .l a2, .l a3]).sz ≤ 1048576) : F15 n (.i a0) (.l a1) (.l a2) (.l a3) = some [.i a0, .l a1, .l a2, .l a3] := by
  rw [szr] at hz
  unfold F15
  refine bind_eq (toInt64S_ok hn  h1 (le_getD hz 1)) ?_
  refine bind_eq (toDataS_ok hn  h2 (le_getD hz 2)) ?_
  refine bind_eq (toInt64S_ok hn  h3 (le_getD hz 3)) ?_
  rfl
theorem szRecv_ok {n : Nat} (hn : maxN ≤ n) {a0 : Int} {a1 : List T} {a2 : List T} {a3 : List T} (h1 : LW (tiOf tab) 2 a1) (h2 : LW (tiOf tab) 259 a2) (h3 : LW (tiOf tab) 2 a3) {left : Int} (g1 : 0 ≤ left) (g2 : left ≤ 1048576) : F13 n (.i a0) (.l a1) (.l a2) (.l a3) (.i left) = some [.i (sub left (T.r [.i a0, .l a1, .l a2, .l a3]).sz)] := by
  have e : (T.r [.i a0, .l a1, .l a2, .l a3]).sz = ((T.l a1).sz + ((T.l a2).sz + (T.l a3).sz)) := by simp only [szr, szi, szb, szs, szN, szC, Nat.zero_add, Nat.add_zero] <;> omega
  rw [e]
  unfold F13
  refine bind_eq (szInt64S_ok hn h1 (left := left) (by omega) (by omega)) ?_
  refine szThen fun g => ?_
  rw [sub_pos g]
  refine bind_eq (szDataS_ok hn h2 (left := left - ((T.l a1).sz : Int)) (by omega) (by omega)) ?_
  refine szThen fun g => ?_
  rw [sub_pos g]
  refine bind_eq (szInt64S_ok hn h3 (left := left - ((T.l a1).sz : Int) - ((T.l a2).sz : Int)) (by omega) (by omega)) ?_
  exact szEnd
theorem eqRecv_ok {n : Nat} (hn : maxN ≤ n) {x0 x1 x2 x3 : T} (h1 : x1.sz < maxN) (h2 : x2.sz < maxN) (h3 : x3.sz < maxN) : F17 n x0 x1 x2 x3 x0 x1 x2 x3 = some [.b true] := by
  unfold F17
  refine condF (bne_self_eq_false _) ?_
  refine bind_eq (eqInt64S_ok (τ := x1) hn h1) (condF rfl ?_)
  refine bind_eq (eqDataS_ok (τ := x2) hn h2) (condF rfl ?_)
  refine bind_eq (eqInt64S_ok (τ := x3) hn h3) (condF rfl ?_)
  rfl
theorem l1In_ok {n : Nat} {a lo hi : Int} : F100 n (.i a) (.i lo) (.i hi) = some [.b (decide (a ≥ lo) && decide (a ≤ hi))] := by
  unfold F100
  simp only [I_i]
  cases decide (a ≥ lo) <;> rfl
theorem within_ok {n : Nat} {a lo hi : Int} : F167 n (.i a) (.i lo) (.i hi) = some [.b (decide (a ≥ lo) && decide (a ≤ hi))] := by
  unfold F167
  simp only [I_i]
  cases decide (a ≥ lo) <;> rfl
theorem l1Word32_ok {n : Nat} {a : Int} : F95 n (.i a) = some [.b (decide (a ≥ 0) && decide (a ≤ 4294967295))] := by
  unfold F95
  rw [l1In_ok]
  rfl
theorem isWord_ok {n : Nat} {a : Int} : F103 n (.i a) = some [.b (decide (a ≥ 0) && decide (a ≤ 4294967295))] := by
  unfold F103
  rw [within_ok]
  rfl
/-- The lists laid one behind the other. -/
def catL (zs : List T) : List T := zs.flatMap T.L
theorem catL_take {zs : List T} {i : Nat} (h : i < zs.length) : catL (zs.take (i + 1)) = catL (zs.take i) ++ (zs.getD i (.i 0)).L := by
  unfold catL
  rw [List.take_succ_eq_append_getElem h, List.flatMap_append]
  simp [h]
theorem catL_le (zs : List T) (i : Nat) : (catL (zs.take i)).length ≤ (catL zs).length := by
  have : catL zs = catL (zs.take i) ++ catL (zs.drop i) := by
    unfold catL
    rw [← List.flatMap_append, List.take_append_drop]
  rw [this, List.length_append]
  omega
theorem concatB_ok {n : Nat} (hn : maxN ≤ n) {zs : List T} (hz : zs.length ≤ 1048576) (hc : (catL zs).length ≤ 1048576) : F145 n (.l zs) = some [.l (catL zs)] := by
  have hnl : 1048576 < n := by unfold maxN at hn; omega
  have second : ∀ ws : List T, ws = [] → loopR (L145_145_11 n).G n [.l zs, .i (zs.length : Int), .i 0, .l ws] [fun u2 => some [T.l ((u2.getD 0 (.i 0)).L)]] = some [.l (catL zs)] := by
    intro ws hw
    subst hw
    refine loop_up (G := (L145_145_11 n).G) (len := zs.length) (v := fun i => [.l zs, .i (zs.length : Int), .i (i : Int), .l (catL (zs.take i))]) (fun i hi self => ?_) (fun self => ?_) n (by omega)
    · have h1 := catL_le zs (i + 1)
      have h2 := catL_take hi
      have h3 : (((catL (zs.take i)).length + ((zs.getD i (.i 0)).L).length : Nat) : Int) * 1 ≤ limB := by
        rw [h2, List.length_append] at h1
        simp only [limB]
        omega
      simp only [L145_145_11, G145_145_11, List.getD_cons_zero, List.getD_cons_succ, I_i, L_l, at_nat]
      rw [decide_eq_true (by omega), cond_true, if_pos (by omega), if_pos h3, wrap64 (by omega) (by omega), h2]
      rfl
    · simp only [L145_145_11, G145_145_11, List.getD_cons_zero, List.getD_cons_succ, I_i, L_l]
      rw [decide_eq_false (by omega), cond_false, List.take_length]
      rfl
  unfold F145
  refine loop_up (G := (L145_145_3 n).G) (len := zs.length) (v := fun i => [.l zs, .i ((catL (zs.take i)).length : Int), .l zs, .i (zs.length : Int), .i (i : Int)]) (fun i hi self => ?_) (fun self => ?_) n (by omega)
  · have h1 := catL_le zs (i + 1)
    have h2 := catL_take hi
    have h4 : ((catL (zs.take i)).length : Int) + (((zs.getD i (.i 0)).L.length : Nat) : Int) = ((catL (zs.take (i + 1))).length : Int) := by rw [h2, List.length_append]; omega
    simp only [L145_145_3, G145_145_3, List.getD_cons_zero, List.getD_cons_succ, I_i, L_l, at_nat, h4]
    rw [decide_eq_true (by omega), cond_true, if_pos (by omega), wrap64 (x := ((catL (zs.take (i + 1))).length : Int)) (by omega) (by omega), decide_eq_false (by omega), cond_false, wrap64 (by omega) (by omega)]
    rfl
  · have d0 : decide ((catL zs).length < (0 : Int)) = false := decide_eq_false (by omega)
    have w3 : IntKind.wrap .i64 (((catL zs).length : Int) - 0) = (catL zs).length := by rw [wrap64 (by omega) (by omega)]; omega
    simp only [L145_145_3, G145_145_3, List.getD_cons_zero, List.getD_cons_succ, I_i, L_l, List.take_length, exn]
    rw [decide_eq_false (by omega), cond_false]
    simp only [d0, w3, cond_false]
    by_cases hp : ((catL zs).length : Int) > 0
    · rw [decide_eq_true hp, cond_true, if_pos (by simp only [limB]; omega), if_pos (by simp only [List.length_replicate, limB]; omega), if_pos (by omega)]
      exact second _ rfl
    · rw [decide_eq_false hp, cond_false]
      exact second _ rfl
/-- What is wrong with a piece. -/
def dcode (x : T) : Int :=
  cond (decide ((x.F 0).I ≥ 0) && decide ((x.F 0).I ≤ 4294967295)) (cond (decide ((x.F 1).I ≥ 0) && decide ((x.F 1).I ≤ 9)) (cond (decide ((x.F 2).I ≥ 0) && decide ((x.F 2).I ≤ 65535))
    (cond (decide (((x.F 6).L.length : Int) < 1) || decide (((x.F 6).L.length : Int) > 100)) 2 (cond (x.F 5).B (cond ((x.F 2).I != 0) 1 0) 0)) 3) 3) 3
theorem dcode_word {x : T} (h : dcode x = 0) : 0 ≤ (x.F 0).I ∧ (x.F 0).I ≤ 4294967295 := by
  unfold dcode at h
  by_cases h1 : (x.F 0).I ≥ 0
  · by_cases h2 : (x.F 0).I ≤ 4294967295
    · exact ⟨h1, h2⟩
    · rw [decide_eq_false h2, Bool.and_false] at h
      simp at h
  · rw [decide_eq_false h1] at h
    simp at h
theorem specDataFault {n : Nat} {a0 a1 a2 : Int} {b3 b4 b5 : Bool} {l6 : List T} : F97 n (.r [.i a0, .i a1, .i a2, .b b3, .b b4, .b b5, .l l6]) = some [.i (dcode (.r [.i a0, .i a1, .i a2, .b b3, .b b4, .b b5, .l l6]))] := by
  unfold F97 dcode
  simp only [F_r, List.getD_cons_zero, List.getD_cons_succ, l1Word32_ok, l1In_ok, Option.bind_some, List.headD_cons, I_i, B_b, L_l]
  cases decide (a0 ≥ 0) && decide (a0 ≤ 4294967295) with
  | false => rfl
  | true =>
    cases decide (a1 ≥ 0) && decide (a1 ≤ 9) with
    | false => rfl
    | true =>
      cases decide (a2 ≥ 0) && decide (a2 ≤ 65535) <;> cases decide ((l6.length : Int) < 1) <;> cases decide ((l6.length : Int) > 100) <;> cases b5 <;> cases a2 != 0 <;> rfl
theorem packData_code {n : Nat} (hn : maxN ≤ n) {a0 a1 a2 : Int} {b3 b4 b5 : Bool} {l6 : List T} : ∃ r : List T, F184 n (.i a0) (.i a1) (.i a2) (.b b3) (.b b4) (.b b5) (.l l6) = some (.i (dcode (.r [.i a0, .i a1, .i a2, .b b3, .b b4, .b b5, .l l6])) :: r) := by
  unfold F184 dcode F176 F206
  simp only [F_r, List.getD_cons_zero, List.getD_cons_succ, isWord_ok, within_ok, Option.bind_some, List.headD_cons, I_i, B_b, L_l]
  have e0 : (decide ((l6.length : Int) ≥ 1) && decide ((l6.length : Int) ≤ 100)) = !(decide ((l6.length : Int) < 1) || decide ((l6.length : Int) > 100)) := by
    by_cases h1 : (l6.length : Int) < 1 <;> by_cases h2 : (l6.length : Int) > 100 <;> simp [h1, h2] <;> omega
  rw [e0]
  cases decide (a0 ≥ 0) && decide (a0 ≤ 4294967295) with
  | false => exact ⟨_, rfl⟩
  | true =>
    cases decide (a1 ≥ 0) && decide (a1 ≤ 9) with
    | false => exact ⟨_, rfl⟩
    | true =>
      cases decide (a2 ≥ 0) && decide (a2 ≤ 65535) with
      | false => exact ⟨_, rfl⟩
      | true =>
        cases hl : decide ((l6.length : Int) < 1) || decide ((l6.length : Int) > 100) with
        | true => exact ⟨_, rfl⟩
        | false =>
          have hlen : l6.length ≤ 100 := by
            simp only [Bool.or_eq_false_iff, decide_eq_false_iff_not] at hl
            omega
          have pk : ∀ (f0 f1 f2 : Int), ∃ r, ((F144 n (.i a0)).bind fun r8 => (F146 n (.i a1)).bind fun r9 => (F146 n (.i a2)).bind fun r10 => (F147 n (.i 0) (.i (IntKind.wrap .i64 ((IntKind.wrap .i64 (f0 + f1)) + f2))) (.l [(r8.headD (.i 0)), (r9.headD (.i 0)), (r10.headD (.i 0)), .l l6])).bind fun r11 => some [(r11.headD (.i 0)), (r11.tail.headD (.i 0)), (r11.tail.tail.headD (.i 0)), (r11.tail.tail.tail.headD (.i 0))]) = some (T.i 0 :: r) := by
            intro f0 f1 f2
            unfold F144 F146 F147
            simp only [Option.bind_some, List.headD_cons]
            rw [concatB_ok hn (by simp) (by simp [catL, L_l]; omega)]
            exact ⟨_, rfl⟩
          have fl : ∀ (b : Bool) (k : Int), F246 n (.b b) (.i k) = some [.i (cond b k 0)] := fun b k => by
            unfold F246
            cases b <;> rfl
          cases b5 with
          | true =>
            cases a2 != 0 with
            | true => exact ⟨_, rfl⟩
            | false =>
              simp only [fl, Option.bind_some, List.headD_cons, I_i, Bool.not_true, Bool.not_false, cond_true, cond_false]
              exact pk _ _ _
          | false =>
            simp only [fl, Option.bind_some, List.headD_cons, I_i, Bool.not_true, Bool.not_false, cond_true, cond_false]
            exact pk _ _ _
def lessB (a b : Int) : Bool := decide (gap a b ≥ 1) && decide (gap a b ≤ 2147483647)
def hasB (xs : List T) (a : Int) : Bool := xs.any fun y => y.I == a
theorem find_any (p : T → Bool) (xs : List T) : decide (findI p xs ≥ 0) = xs.any p := by
  have key : ∀ k s, s + k = xs.length → decide (scan (fun i => cond (p (xs.getD i (.i 0))) (some (i : Int)) none) (-1) k s ≥ 0) = (xs.drop s).any p := by
    intro k
    induction k with
    | zero => intro s hs; rw [List.drop_eq_nil_of_le (by omega)]; rfl
    | succ k ih =>
      intro s hs
      have e1 : xs.getD s (.i 0) = xs[s]'(by omega) := by simp [show s < xs.length by omega]
      unfold scan
      rw [List.drop_eq_getElem_cons (by omega), List.any_cons, ← e1]
      cases p (xs.getD s (.i 0)) with
      | true => exact decide_eq_true (by simp only [cond_true]; omega)
      | false => exact ih (s + 1) (by omega)
  exact key xs.length 0 (by omega)
theorem l1Gap_ok {n : Nat} {a b : Int} (ha : 0 ≤ a) (ha' : a ≤ 4294967295) (hb : 0 ≤ b) (hb' : b ≤ 4294967295) : F96 n (.i a) (.i b) = some [.i (gap a b)] := by
  unfold F96
  rw [I_i, I_i, gap_spec ha ha' hb hb']
theorem serialGap_ok {n : Nat} {a b : Int} (ha : 0 ≤ a) (ha' : a ≤ 4294967295) (hb : 0 ≤ b) (hb' : b ≤ 4294967295) : F142 n (.i a) (.i b) = some [.i (gap a b)] := by
  unfold F142
  rw [I_i, I_i, gap_impl ha ha' hb hb']
theorem l1Less_ok {n : Nat} {a b : Int} (ha : 0 ≤ a) (ha' : a ≤ 4294967295) (hb : 0 ≤ b) (hb' : b ≤ 4294967295) : F98 n (.i a) (.i b) = some [.b (lessB a b)] := by
  unfold F98
  rw [l1Gap_ok ha ha' hb hb', Option.bind_some, List.headD_cons, l1In_ok]
  rfl
theorem serialLess_ok {n : Nat} {a b : Int} (ha : 0 ≤ a) (ha' : a ≤ 4294967295) (hb : 0 ≤ b) (hb' : b ≤ 4294967295) : F202 n (.i a) (.i b) = some [.b (lessB a b)] := by
  unfold F202
  rw [serialGap_ok ha ha' hb hb', Option.bind_some, List.headD_cons, within_ok]
  rfl
theorem l1Has_ok {n : Nat} (hn : maxN ≤ n) {xs : List T} (hm : xs.length < maxN) {a : Int} : F99 n (.l xs) (.i a) = some [.b (hasB xs a)] := by
  have hlen : xs.length < 281474976710656 := hm
  refine Eq.trans (loop_all (G := (L99_99_2 n).G) (f := fun k => [.l xs, .i a, .i k]) (p := fun y => !(y.I == a)) (r := some [.b true]) (d := some [.b false]) hn hm (fun i hi self => ?_) (fun self => ?_)) ?_
  · simp only [L99_99_2, G99_99_2, List.getD_cons_zero, List.getD_cons_succ, I_i, L_l, at_nat]
    rw [decide_eq_true (by omega), cond_true, if_pos (by omega), wrap64 (by omega) (by omega)]
    cases (xs.getD i (.i 0)).I == a <;> rfl
  · simp only [L99_99_2, G99_99_2, List.getD_cons_zero, List.getD_cons_succ, I_i, L_l]
    rw [decide_eq_false (by omega), cond_false]
    rfl
  · unfold hasB
    rw [← List.not_any_eq_all_not]
    cases xs.any fun y => y.I == a <;> rfl
theorem contains_ok {n : Nat} (hn : maxN ≤ n) {xs : List T} (hm : xs.length < maxN) {a : Int} : F203 n (.l xs) (.i a) = some [.b (hasB xs a)] := by
  have hlen : xs.length < 281474976710656 := hm
  unfold F203
  have h1 : F251 n (.l xs) (.i a) = some [.i (findI (fun y => y.I == a) xs)] := by
    rw [← find_scan]
    exact loop_scan (G := (L251_251_2 n).G) (len := xs.length) (v := fun i => [.l xs, .i a, .i (xs.length : Int), .i (i : Int)]) (E := fun i => cond ((xs.getD i (.i 0)).I == a) (some (some [T.i (i : Int)])) none)
      (fun i hi self => by
        simp only [L251_251_2, G251_251_2, List.getD_cons_zero, List.getD_cons_succ, I_i, L_l, at_nat]
        have e : (a == (xs.getD i (.i 0)).I) = ((xs.getD i (.i 0)).I == a) := by rw [Bool.eq_iff_iff]; simp only [beq_iff_eq]; exact eq_comm
        rw [decide_eq_true (by omega), cond_true, if_pos (by omega), wrap64 (by omega) (by omega), e]
        cases (xs.getD i (.i 0)).I == a <;> rfl)
      (fun self => by
        simp only [L251_251_2, G251_251_2, List.getD_cons_zero, List.getD_cons_succ, I_i, L_l]
        rw [decide_eq_false (by omega), cond_false]
        rfl) xs.length 0 n (by omega) (by unfold maxN at *; omega)
  rw [h1, Option.bind_some, List.headD_cons, I_i, find_any]
  rfl
def wordB (a : Int) : Bool := decide (a ≥ 0) && decide (a ≤ 4294967295)
theorem wordB_iff {a : Int} (h : wordB a = true) : 0 ≤ a ∧ a ≤ 4294967295 := by
  unfold wordB at h
  simp only [Bool.and_eq_true, decide_eq_true_eq] at h
  omega
def pairB (x : T) : Bool := decide (x.I ≥ 0) && decide (x.I ≤ 65535)
def lastOf (c : Int) (B : List T) : Nat → Int
  | 0 => 1
  | i + 1 => gap c (B.getD i (.i 0)).I
def beyE (c : Int) (B : List T) (i : Nat) : Option (Option (List T)) :=
  cond (wordB (B.getD i (.i 0)).I) (cond (decide (gap c (B.getD i (.i 0)).I > 16) || decide (gap c (B.getD i (.i 0)).I ≤ lastOf c B i)) (some (some [.i 1])) none) (some (some [.i 3]))
theorem beyE_code {c : Int} {B : List T} {i : Nat} {r : Option (List T)} (h : beyE c B i = some r) : ∃ k : Int, r = some [.i k] ∧ k ≠ 0 := by
  unfold beyE at h
  revert h
  cases wordB (B.getD i (.i 0)).I <;> cases decide (gap c (B.getD i (.i 0)).I > 16) || decide (gap c (B.getD i (.i 0)).I ≤ lastOf c B i) <;> intro h <;> simp only [cond_true, cond_false, Option.some.injEq, reduceCtorEq] at h <;> exact ⟨_, h.symm, by decide⟩
theorem specBeyond {n : Nat} (hn : maxN ≤ n) {c : Int} (hc : wordB c = true) {B P N : List T} (hB : LW (tiOf tab) 2 B) {K : List T → Option (List T)} :
    loopR (L14_14_7 n).G n [.i 1, .i 0, .i c, .l B, .l P, .l N] [fun u4 => some [.i ((u4.getD 0 (.i 0)).I)], K] = scan (beyE c B) (K [.i c, .l B, .l P, .l N]) B.length 0 := by
  have hlen : B.length < 281474976710656 := hB.len
  obtain ⟨c1, c2⟩ := wordB_iff hc
  exact loop_scan (G := (L14_14_7 n).G) (len := B.length) (v := fun i => [.i (lastOf c B i), .i (i : Int), .i c, .l B, .l P, .l N]) (E := beyE c B)
    (fun i hi self => by
      obtain ⟨b, e1⟩ := shapeInt64 hB (x := B.getD i (.i 0)) (getD_mem hi)
      have hi1 : 0 ≤ (i : Int) ∧ (i : Int) < (B.length : Int) := by omega
      have hl : lastOf c B (i + 1) = gap c b := by simp only [lastOf, e1, I_i]
      simp only [L14_14_7, G14_14_7, List.getD_cons_zero, List.getD_cons_succ, I_i, L_l, at_nat, e1, l1Word32_ok, Option.bind_some, List.headD_cons, B_b, beyE, hl]
      rw [decide_eq_true (by omega), cond_true, if_pos hi1, if_pos hi1, wrap64 (x := (i : Int) + 1) (by omega) (by omega)]
      show (bif !(wordB b) then _ else _) = _
      cases hw : wordB b with
      | false => rfl
      | true =>
        obtain ⟨b1, b2⟩ := wordB_iff hw
        rw [l1Gap_ok c1 c2 b1 b2]
        simp only [Option.bind_some, List.headD_cons, I_i, Bool.not_true, cond_false, cond_true]
        cases decide (gap c b > 16) <;> cases decide (gap c b ≤ lastOf c B i) <;> rfl)
    (fun self => by
      simp only [L14_14_7, G14_14_7, List.getD_cons_zero, List.getD_cons_succ, I_i, L_l]
      rw [decide_eq_false (by omega), cond_false]
      rfl) B.length 0 n (by omega) (by unfold maxN at *; omega)
theorem implBeyond {n : Nat} (hn : maxN ≤ n) {c : Int} (hc : wordB c = true) {B P N : List T} (hB : LW (tiOf tab) 2 B) : F104 n (.i c) (.l B) (.l P) (.l N) = scan (beyE c B) (some [.i 0]) B.length 0 := by
  have hlen : B.length < 281474976710656 := hB.len
  obtain ⟨c1, c2⟩ := wordB_iff hc
  exact loop_scan (G := (L104_104_3 n).G) (len := B.length) (v := fun i => [.i (lastOf c B i), .l B, .i (B.length : Int), .i (i : Int), .i c, .l B, .l P, .l N]) (E := beyE c B)
    (fun i hi self => by
      obtain ⟨b, e1⟩ := shapeInt64 hB (x := B.getD i (.i 0)) (getD_mem hi)
      have hi1 : 0 ≤ (i : Int) ∧ (i : Int) < (B.length : Int) := by omega
      have hl : lastOf c B (i + 1) = gap c b := by simp only [lastOf, e1, I_i]
      simp only [L104_104_3, G104_104_3, List.getD_cons_zero, List.getD_cons_succ, I_i, L_l, at_nat, e1, isWord_ok, Option.bind_some, List.headD_cons, B_b, beyE, hl]
      rw [decide_eq_true (by omega), cond_true, if_pos hi1, wrap64 (x := (i : Int) + 1) (by omega) (by omega)]
      show (bif !(wordB b) then _ else _) = _
      cases hw : wordB b with
      | false => rfl
      | true =>
        obtain ⟨b1, b2⟩ := wordB_iff hw
        rw [serialGap_ok c1 c2 b1 b2]
        simp only [Option.bind_some, List.headD_cons, I_i, Bool.not_true, cond_false, cond_true]
        cases decide (gap c b > 16) <;> cases decide (gap c b ≤ lastOf c B i) <;> rfl)
    (fun self => by
      simp only [L104_104_3, G104_104_3, List.getD_cons_zero, List.getD_cons_succ, I_i, L_l]
      rw [decide_eq_false (by omega), cond_false]
      rfl) B.length 0 n (by omega) (by unfold maxN at *; omega)

def prevTsn (P : List T) : Nat → Int
  | 0 => 0
  | i + 1 => ((P.getD i (.i 0)).F 0).I
def pieE (c : Int) (B P : List T) (i : Nat) : Option (Option (List T)) :=
  cond (dcode (P.getD i (.i 0)) != 0) (some (some [.i (dcode (P.getD i (.i 0)))])) (cond (decide ((i : Int) > 0) && !lessB (prevTsn P i) ((P.getD i (.i 0)).F 0).I) (some (some [.i 1]))
    (cond (lessB c ((P.getD i (.i 0)).F 0).I && !hasB B ((P.getD i (.i 0)).F 0).I) (some (some [.i 8])) none))
theorem pieE_code {c : Int} {B P : List T} {i : Nat} {r : Option (List T)} (h : pieE c B P i = some r) : ∃ k : Int, r = some [.i k] ∧ k ≠ 0 := by
  unfold pieE at h
  cases hd : dcode (P.getD i (.i 0)) != 0 with
  | true =>
    rw [hd] at h
    simp only [cond_true, Option.some.injEq] at h
    exact ⟨_, h.symm, bne_iff_ne.1 hd⟩
  | false =>
    rw [hd] at h
    revert h
    cases decide ((i : Int) > 0) && !lessB (prevTsn P i) ((P.getD i (.i 0)).F 0).I <;> cases lessB c ((P.getD i (.i 0)).F 0).I && !hasB B ((P.getD i (.i 0)).F 0).I <;> intro h <;> simp only [cond_true, cond_false, Option.some.injEq, reduceCtorEq] at h <;> exact ⟨_, h.symm, by decide⟩
theorem pieE_none {c : Int} {B P : List T} {i : Nat} (h : pieE c B P i = none) : dcode (P.getD i (.i 0)) = 0 := by
  unfold pieE at h
  cases hd : dcode (P.getD i (.i 0)) != 0 with
  | true => rw [hd] at h; simp at h
  | false => simpa using hd
theorem prev_word {c : Int} {B P : List T} {i : Nat} (hj : ∀ j, j < i → pieE c B P j = none) : 0 ≤ prevTsn P i ∧ prevTsn P i ≤ 4294967295 := by
  cases i with
  | zero => simp [prevTsn]
  | succ i => exact dcode_word (pieE_none (hj i (by omega)))
theorem prev_at {P : List T} {i : Nat} (hi : 0 < i) (hl : (i : Int) < 281474976710656) : ((at_ P (IntKind.wrap .i64 ((i : Int) - 1))).F 0).I = prevTsn P i := by
  cases i with
  | zero => omega
  | succ i =>
    rw [wrap64 (by omega) (by omega)]
    have : ((i + 1 : Nat) : Int) - 1 = (i : Int) := by omega
    rw [this, at_nat]
    rfl
theorem specPieces {n : Nat} (hn : maxN ≤ n) {c : Int} (hc : wordB c = true) {B P N : List T} (hB : B.length < maxN) (hP : LW (tiOf tab) 259 P) {K : List T → Option (List T)} :
    loopR (L14_14_16 n).G n [.i 0, .i c, .l B, .l P, .l N] [fun u4 => some [.i ((u4.getD 0 (.i 0)).I)], K] = scan (pieE c B P) (K [.i c, .l B, .l P, .l N]) P.length 0 := by
  have hlen : P.length < 281474976710656 := hP.len
  obtain ⟨c1, c2⟩ := wordB_iff hc
  exact loop_scan' (G := (L14_14_16 n).G) (len := P.length) (v := fun i => [.i (i : Int), .i c, .l B, .l P, .l N]) (E := pieE c B P)
    (fun i hi hj self => by
      obtain ⟨a0, a1, a2, a3, a4, a5, a6, e1, _⟩ := shapeData hP (x := P.getD i (.i 0)) (getD_mem hi)
      have hi1 : 0 ≤ (i : Int) ∧ (i : Int) < (P.length : Int) := by omega
      obtain ⟨p1, p2⟩ := prev_word hj
      have ea : ((P.getD i (.i 0)).F 0).I = a0 := by rw [e1]; rfl
      have ef : (P.getD i (.i 0)).F 0 = .i a0 := by rw [e1]; rfl
      have ed : F97 n (P.getD i (.i 0)) = some [.i (dcode (P.getD i (.i 0)))] := by rw [e1]; exact specDataFault
      simp only [L14_14_16, G14_14_16, List.getD_cons_zero, List.getD_cons_succ, I_i, L_l, at_nat, ed, Option.bind_some, List.headD_cons, pieE, ea, ef]
      rw [decide_eq_true (by omega), cond_true, if_pos hi1]
      cases hd : dcode (P.getD i (.i 0)) != 0 with
      | true => rfl
      | false =>
        have hw : 0 ≤ a0 ∧ a0 ≤ 4294967295 := by
          have := dcode_word (x := P.getD i (.i 0)) (by simpa using hd)
          rwa [ea] at this
        have hL : F98 n (.i c) (.i a0) = some [.b (lessB c a0)] := l1Less_ok c1 c2 hw.1 hw.2
        have hH : F99 n (.l B) (.i a0) = some [.b (hasB B a0)] := l1Has_ok hn hB
        by_cases h0 : 0 < i
        · have hd0 : decide ((i : Int) > 0) = true := decide_eq_true (by omega)
          have hw1 : 0 ≤ IntKind.wrap .i64 ((i : Int) - 1) ∧ IntKind.wrap .i64 ((i : Int) - 1) < (P.length : Int) := by rw [wrap64 (by omega) (by omega)]; omega
          obtain ⟨pp, hpp⟩ : ∃ pp, (at_ P (IntKind.wrap .i64 ((i : Int) - 1))).F 0 = .i pp := by
            rw [wrap64 (by omega) (by omega), show ((i : Int) - 1) = ((i - 1 : Nat) : Int) by omega, at_nat]
            obtain ⟨b0, b1, b2, b3, b4, b5, b6, e2, _⟩ := shapeData hP (x := P.getD (i - 1) (.i 0)) (getD_mem (by omega))
            exact ⟨b0, by rw [e2]; rfl⟩
          have hpr : prevTsn P i = pp := by rw [← prev_at (P := P) h0 (by omega), hpp]; rfl
          have hP1 : F98 n (.i pp) (.i a0) = some [.b (lessB pp a0)] := l1Less_ok (by omega) (by omega) hw.1 hw.2
          simp only [hd0, if_pos hw1, if_pos hi1, hpp, hP1, hL, hH, hpr, Option.bind_some, List.headD_cons, B_b, cond_true, cond_false, Bool.true_and]
          rw [wrap64 (x := (i : Int) + 1) (by omega) (by omega)]
          cases lessB pp a0 <;> cases lessB c a0 <;> cases hasB B a0 <;> rfl
        · have hd0 : decide ((i : Int) > 0) = false := decide_eq_false (by omega)
          simp only [hd0, if_pos hi1, hL, hH, Option.bind_some, List.headD_cons, B_b, cond_true, cond_false, Bool.false_and]
          rw [wrap64 (x := (i : Int) + 1) (by omega) (by omega)]
          cases lessB c a0 <;> cases hasB B a0 <;> rfl)
    (fun _ self => by
      simp only [L14_14_16, G14_14_16, List.getD_cons_zero, List.getD_cons_succ, I_i, L_l]
      rw [decide_eq_false (by omega), cond_false]
      rfl) P.length 0 n (by omega) (by unfold maxN at *; omega) (fun j hj => by omega)
theorem implPieces {n : Nat} (hn : maxN ≤ n) {c : Int} (hc : wordB c = true) {B P N : List T} (hB : B.length < maxN) (hP : LW (tiOf tab) 259 P) : F105 n (.i c) (.l B) (.l P) (.l N) = scan (pieE c B P) (some [.i 0]) P.length 0 := by
  have hlen : P.length < 281474976710656 := hP.len
  obtain ⟨c1, c2⟩ := wordB_iff hc
  exact loop_scan' (G := (L105_105_2 n).G) (len := P.length) (v := fun i => [.l P, .i (P.length : Int), .i (i : Int), .i c, .l B, .l P, .l N]) (E := pieE c B P)
    (fun i hi hj self => by
      obtain ⟨a0, a1, a2, a3, a4, a5, a6, e1, _⟩ := shapeData hP (x := P.getD i (.i 0)) (getD_mem hi)
      have hi1 : 0 ≤ (i : Int) ∧ (i : Int) < (P.length : Int) := by omega
      obtain ⟨p1, p2⟩ := prev_word hj
      have ea : ((P.getD i (.i 0)).F 0).I = a0 := by rw [e1]; rfl
      have ef : (P.getD i (.i 0)).F 0 = .i a0 := by rw [e1]; rfl
      obtain ⟨rr, hr⟩ := packData_code hn (a0 := a0) (a1 := a1) (a2 := a2) (b3 := a3) (b4 := a4) (b5 := a5) (l6 := a6)
      have ed : F184 n (.i a0) ((P.getD i (.i 0)).F 1) ((P.getD i (.i 0)).F 2) ((P.getD i (.i 0)).F 3) ((P.getD i (.i 0)).F 4) ((P.getD i (.i 0)).F 5) ((P.getD i (.i 0)).F 6) = some (.i (dcode (P.getD i (.i 0))) :: rr) := by rw [e1]; exact hr
      simp only [L105_105_2, G105_105_2, List.getD_cons_zero, List.getD_cons_succ, I_i, L_l, at_nat, ef, ed, Option.bind_some, List.headD_cons, pieE]
      rw [decide_eq_true (by omega), cond_true, if_pos hi1]
      cases hd : dcode (P.getD i (.i 0)) != 0 with
      | true => rfl
      | false =>
        have hw : 0 ≤ a0 ∧ a0 ≤ 4294967295 := by
          have := dcode_word (x := P.getD i (.i 0)) (by simpa using hd)
          rwa [ea] at this
        have hL : F142 n (.i c) (.i a0) = some [.i (gap c a0)] := serialGap_ok c1 c2 hw.1 hw.2
        have hI : F167 n (.i (gap c a0)) (.i 1) (.i 2147483647) = some [.b (lessB c a0)] := within_ok
        have hH : F203 n (.l B) (.i a0) = some [.b (hasB B a0)] := contains_ok hn hB
        by_cases h0 : 0 < i
        · have hd0 : decide ((i : Int) > 0) = true := decide_eq_true (by omega)
          have hw1 : 0 ≤ IntKind.wrap .i64 ((i : Int) - 1) ∧ IntKind.wrap .i64 ((i : Int) - 1) < (P.length : Int) := by rw [wrap64 (by omega) (by omega)]; omega
          obtain ⟨pp, hpp⟩ : ∃ pp, (at_ P (IntKind.wrap .i64 ((i : Int) - 1))).F 0 = .i pp := by
            rw [wrap64 (by omega) (by omega), show ((i : Int) - 1) = ((i - 1 : Nat) : Int) by omega, at_nat]
            obtain ⟨b0, b1, b2, b3, b4, b5, b6, e2, _⟩ := shapeData hP (x := P.getD (i - 1) (.i 0)) (getD_mem (by omega))
            exact ⟨b0, by rw [e2]; rfl⟩
          have hpr : prevTsn P i = pp := by rw [← prev_at (P := P) h0 (by omega), hpp]; rfl
          have hP1 : F202 n (.i pp) (.i a0) = some [.b (lessB pp a0)] := serialLess_ok (by omega) (by omega) hw.1 hw.2
          simp only [hd0, if_pos hw1, hpp, hP1, hL, hI, hH, hpr, I_i, Option.bind_some, List.headD_cons, B_b, cond_true, cond_false, Bool.true_and]
          rw [wrap64 (x := (i : Int) + 1) (by omega) (by omega)]
          cases lessB pp a0 <;> cases lessB c a0 <;> cases hasB B a0 <;> rfl
        · have hd0 : decide ((i : Int) > 0) = false := decide_eq_false (by omega)
          simp only [hd0, hL, hI, hH, I_i, Option.bind_some, List.headD_cons, B_b, cond_true, cond_false, Bool.false_and]
          rw [wrap64 (x := (i : Int) + 1) (by omega) (by omega)]
          cases lessB c a0 <;> cases hasB B a0 <;> rfl)
    (fun _ self => by
      simp only [L105_105_2, G105_105_2, List.getD_cons_zero, List.getD_cons_succ, I_i, L_l]
      rw [decide_eq_false (by omega), cond_false]
      rfl) P.length 0 n (by omega) (by unfold maxN at *; omega) (fun j hj => by omega)
theorem specPairs {n : Nat} (hn : maxN ≤ n) {c : Int} {B P N : List T} (hN : LW (tiOf tab) 2 N) :
    loopR (L14_14_26 n).G n [.i 0, .i c, .l B, .l P, .l N] [fun u17 : List T => some [T.i ((u17.getD 0 (.i 0)).I)], fun _ : List T => some [T.i 0]] = bif N.all pairB then some [T.i 0] else some [T.i 3] := by
  have hlen : N.length < 281474976710656 := hN.len
  exact loop_all (G := (L14_14_26 n).G) (f := fun k => [.i k, .i c, .l B, .l P, .l N]) (p := pairB) (r := some [T.i 3]) (d := some [T.i 0]) hn hN.len (fun i hi self => by
      obtain ⟨b, e1⟩ := shapeInt64 hN (x := N.getD i (.i 0)) (getD_mem hi)
      simp only [L14_14_26, G14_14_26, List.getD_cons_zero, List.getD_cons_succ, I_i, L_l, at_nat, e1, l1In_ok, Option.bind_some, List.headD_cons, B_b, pairB]
      rw [decide_eq_true (by omega), cond_true, if_pos (by omega), wrap64 (by omega) (by omega)]
      cases decide (b ≥ 0) && decide (b ≤ 65535) <;> rfl)
    (fun self => by
      simp only [L14_14_26, G14_14_26, List.getD_cons_zero, List.getD_cons_succ, I_i, L_l]
      rw [decide_eq_false (by omega), cond_false]
      rfl)
theorem implPairs {n : Nat} (hn : maxN ≤ n) {N : List T} (hN : LW (tiOf tab) 2 N) : F106 n (.l N) = some [.b (N.all pairB)] := by
  have hlen : N.length < 281474976710656 := hN.len
  refine Eq.trans (loop_scan (G := (L106_252_2 n).G) (len := N.length) (v := fun i => [.l N, .i (N.length : Int), .i (i : Int), .l N, .b false, .l N, .l N, .b false, .l N]) (E := fun i => cond (pairB (N.getD i (.i 0))) none (some (some [.b false]))) (d := some [.b true])
    (fun i hi self => by
      obtain ⟨b, e1⟩ := shapeInt64 hN (x := N.getD i (.i 0)) (getD_mem hi)
      have hp : F205 n (.i b) = some [.b (!(decide (b ≥ 0) && decide (b ≤ 65535)))] := by
        unfold F205 F206
        simp only [within_ok, Option.bind_some, List.headD_cons, B_b]
      have hd0 : decide ((i : Int) ≥ 0) = true := decide_eq_true (by omega)
      simp only [L106_252_2, G106_252_2, List.getD_cons_zero, List.getD_cons_succ, I_i, L_l, at_nat, e1, hp, Option.bind_some, List.headD_cons, B_b, pairB, exn, hd0]
      rw [decide_eq_true (by omega), cond_true, if_pos (by omega), wrap64 (by omega) (by omega)]
      cases decide (b ≥ 0) && decide (b ≤ 65535) <;> rfl)
    (fun self => by
      simp only [L106_252_2, G106_252_2, List.getD_cons_zero, List.getD_cons_succ, I_i, L_l]
      rw [decide_eq_false (by omega), cond_false]
      rfl) N.length 0 n (by omega) (by unfold maxN at *; omega)) ?_
  have key : ∀ k s, s + k = N.length → scan (fun i => cond (pairB (N.getD i (.i 0))) none (some (some [T.b false]))) (some [T.b true]) k s = some [.b ((N.drop s).all pairB)] := by
    intro k
    induction k with
    | zero => intro s hs; rw [List.drop_eq_nil_of_le (by omega)]; rfl
    | succ k ih =>
      intro s hs
      have e1 : N.getD s (.i 0) = N[s]'(by omega) := by simp [show s < N.length by omega]
      unfold scan
      rw [List.drop_eq_getElem_cons (by omega), List.all_cons, ← e1]
      cases pairB (N.getD s (.i 0)) with
      | true => exact ih (s + 1) (by omega)
      | false => rfl
  exact key N.length 0 (by omega)

theorem core_FnExactRecvFault {n : Nat} (hn : maxN ≤ n) {a0 : Int} {a1 a2 a3 : List T} (h1 : LW (tiOf tab) 2 a1) (h2 : LW (tiOf tab) 259 a2) (h3 : LW (tiOf tab) 2 a3) (_ : (T.r [.i a0, .l a1, .l a2, .l a3]).sz ≤ 1048576) :
    ∃ c : Int, F14 n (.i a0) (.l a1) (.l a2) (.l a3) = some [.i c] ∧ F16 n (.i a0) (.l a1) (.l a2) (.l a3) = some [.i c] := by
  have w1 : F95 n (.i a0) = some [.b (wordB a0)] := l1Word32_ok
  have w2 : F103 n (.i a0) = some [.b (wordB a0)] := isWord_ok
  unfold F14 F16
  rw [w1, w2]
  cases hw : wordB a0 with
  | false => exact ⟨3, rfl, rfl⟩
  | true =>
    simp only [Option.bind_some, List.headD_cons, B_b, L_l, I_i, Bool.not_true, cond_false]
    cases decide ((a1.length : Int) > 16) with
    | true => exact ⟨2, rfl, rfl⟩
    | false =>
      cases decide ((a2.length : Int) > 64) with
      | true => exact ⟨2, rfl, rfl⟩
      | false =>
        cases ((a3.length : Int) != 10) with
        | true => exact ⟨2, rfl, rfl⟩
        | false =>
          simp only [cond_false]
          obtain ⟨c, hc⟩ : ∃ c : Int, scan (beyE a0 a1) (scan (pieE a0 a1 a2) (bif a3.all pairB then some [T.i 0] else some [T.i 3]) a2.length 0) a1.length 0 = some [.i c] := by
            refine scan_P (E := beyE a0 a1) (P := fun r => ∃ c : Int, r = some [T.i c]) (fun i r hr => ?_) ?_ _ _
            · obtain ⟨k, h, _⟩ := beyE_code hr
              exact ⟨k, h⟩
            · refine scan_P (E := pieE a0 a1 a2) (P := fun r => ∃ c : Int, r = some [T.i c]) (fun i r hr => ?_) ?_ _ _
              · obtain ⟨k, h, _⟩ := pieE_code hr
                exact ⟨k, h⟩
              · cases a3.all pairB
                · exact ⟨3, rfl⟩
                · exact ⟨0, rfl⟩
          refine ⟨c, ?_, ?_⟩
          · rw [specBeyond hn hw h1, ← hc]
            congr 1
            show loopR (L14_14_16 n).G n [.i 0, .i a0, .l a1, .l a2, .l a3] [fun u14 : List T => some [T.i ((u14.getD 0 (.i 0)).I)], _] = _
            rw [specPieces hn hw h1.len h2]
            congr 1
            exact specPairs hn h3
          · rw [implBeyond hn hw h1, ← hc]
            refine scan_bind (fun i r hr => ?_) ?_ _ _
            · obtain ⟨k, rfl, hk⟩ := beyE_code hr
              exact ⟨k, rfl, condT (bne_iff_ne.2 hk) rfl⟩
            · refine condF rfl ?_
              rw [implPieces hn hw h1.len h2]
              refine scan_bind (fun i r hr => ?_) ?_ _ _
              · obtain ⟨k, rfl, hk⟩ := pieE_code hr
                exact ⟨k, rfl, condT (bne_iff_ne.2 hk) rfl⟩
              · refine condF rfl ?_
                rw [implPairs hn h3]
                cases a3.all pairB <;> rfl
theorem law_FnExactRecvFault : ∀ τs, WLs (tiOf tab) (flatLs (psOf (tiOf tab) [25])) τs → ∃ n, M3 n τs = some [.b true] := by
  intro τs h
  replace h : WLs (tiOf tab) [.int .i64, .slice 2, .slice 259, .slice 2] τs := h
  obtain ⟨t0, _, rfl, w0, h⟩ := h.cons_inv
  obtain ⟨t1, _, rfl, w1, h⟩ := h.cons_inv
  obtain ⟨t2, _, rfl, w2, h⟩ := h.cons_inv
  obtain ⟨t3, _, rfl, w3, h⟩ := h.cons_inv
  cases h.nil_inv
  obtain ⟨a0, rfl, h0, k0⟩ := w0.int_inv
  obtain ⟨a1, rfl, h1⟩ := w1.slice_inv
  obtain ⟨a2, rfl, h2⟩ := w2.slice_inv
  obtain ⟨a3, rfl, h3⟩ := w3.slice_inv
  refine ⟨maxN, ?_⟩
  have hn := Nat.le_refl maxN
  show F3 maxN _ _ _ _ = _
  unfold F3
  refine bind_eq (szRecv_ok hn (a0 := a0) h1 h2 h3 (left := 1048576) (by omega) (by omega)) ?_
  by_cases g1 : (1048576 : Int) < ((T.r [.i a0, .l a1, .l a2, .l a3]).sz : Int)
  · exact condT (sub_lt g1) rfl
  refine condF (sub_ge g1) ?_
  have z0 : T.szL [.i a0, .l a1, .l a2, .l a3] ≤ 1048576 := by have := szr [.i a0, .l a1, .l a2, .l a3]; omega
  obtain ⟨c0, hs, hi⟩ := core_FnExactRecvFault hn h1 h2 h3 (a0 := a0) (by omega)
  refine bind_eq (toRecv_ok hn (a0 := a0) h1 h2 h3 (by omega)) ?_
  refine bind_eq hs ?_
  refine bind_eq (toRecv_ok hn (a0 := a0) h1 h2 h3 (by omega)) ?_
  refine bind_eq hi ?_
  refine condF (bne_self_eq_false _) ?_
  refine bind_eq (toRecv_ok hn (a0 := a0) h1 h2 h3 (by omega)) ?_
  refine bind_eq (eqRecv_ok (x0 := T.i a0) (x1 := T.l a1) (x2 := T.l a2) (x3 := T.l a3) hn (lt_getD z0 1) (lt_getD z0 2) (lt_getD z0 3)) (condF rfl ?_)
  rfl
end Go.KX.Sd
namespace Go.Proofs.Ytpkeanlcmjbgnad
open Go.KX Go.KX.Sd
set_option maxRecDepth 100000 in
theorem FnExactRecvFault_lifted (os : Os) (started : os.Started) (H : Type) (enc : TypeId × Value → H) :
    ReturnsInHanded {} Try.checked os 3 .any (Rows.fnExactRecvFaultSpec.pre6 enc Try.prog Try.f3 Rows.fnExactRecvFaultRow.domain false) (Rows.fnExactRecvFaultSpec.post enc Try.prog Try.f3 false true false false) :=
  law_lifted (C := Try.checked) (ti := tiOf tab) (all := [2, 4, 5, 22, 23, 25, 93, 259]) (ts := [25]) tabOk (by kernel_rfl) (by kernel_rfl) (by kernel_rfl : ownKnob Try.prog.godebug = none) started (by kernel_rfl) Try.func3
    (ChangeSpec.witness6 (enc := enc) (C := Try.checked) false ⟨#[], #[.agg #[.int .i64 0, .slice none 0 0, .slice none 0 0, .slice none 0 0]], []⟩ 8 (by kernel_rfl) (by kernel_rfl) (by kernel_rfl) (by kernel_rfl))
    (by kernel_rfl : laidOutB Try.prog = true) rfl (tb := 4) rfl (by kernel_rfl) (by kernel_rfl) rfl (fun ds hl => by match ds, hl with | [_], _ => rfl) (F := M3) (fun n => eo3 n) law_FnExactRecvFault

theorem FnExactRecvFault_holds : Rows.FnExactRecvFaultSaid :=
  OpenClaim.holds_of_wide 3 Try.f3 rfl rfl rfl rfl rfl rfl rfl ⟨rfl, rfl, rfl, rfl, rfl⟩ rfl rfl rfl rfl rfl (by kernel_rfl) Try.func3 (by kernel_rfl)
    (of_decide_eq_true (by kernel_rfl)) (by unfold Func.isWrapper; first | (rw [if_pos (by decide +kernel)]; kernel_rfl) | (rw [if_neg (by decide +kernel)]; exact ⟨rfl, rfl⟩))
    (fun os started H enc _ => FnExactRecvFault_lifted os started H enc)
end Go.Proofs.Ytpkeanlcmjbgnad
