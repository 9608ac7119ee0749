/- laws.FnExactSendFault: for every input the law returns true, and every argument reads behind the call as it read before. No further condition. -/
import Derived.Test.YtpkeanlcmjbgnacFn
import Derived.Test.YtpkeanlcmjbgnacRows
import Derived.KernelRfl
set_option linter.unusedVariables false
set_option linter.unusedSimpArgs false
set_option maxHeartbeats 4000000
set_option maxRecDepth 100000
namespace Go.KX.Sc
open Go
theorem shapeInt64 {xs : List T} (h : LW (tiOf tab) 2 xs) {x : T} (hx : x ∈ xs) : ∃ a0, x = .i a0 := by
  obtain ⟨f, rfl, hf⟩ := h.2 x hx
  obtain ⟨a0, e0, _, _⟩ := WL.int_inv (ti := tiOf tab) (k := .i64) (hf 0 (by decide))
  refine ⟨a0, ?_⟩
  show f 0 = _
  rw [e0]
theorem toInt64S_ok {n : Nat} (hn : maxN ≤ n) {xs : List T} (h : LW (tiOf tab) 2 xs) (hz : (T.l xs).sz ≤ 1048576) : F166 n (.l xs) = some [.l xs] :=
  toS_ok (xs := xs) (e := 2) (Fe := fun x => some [x]) (J := fun r => r.headD (.i 0)) (by_ := 8) (z := .i 0) hn (by have := len_sz xs; simp only [limB]; omega) h.len (fun x _ => ⟨_, rfl, rfl⟩)
theorem szInt64S_ok {n : Nat} (_ : maxN ≤ n) {xs : List T} (h : LW (tiOf tab) 2 xs) {left : Int} (g1 : 0 ≤ left) (g2 : left ≤ 1048576) : F163 n (.l xs) (.i left) = some [.i (sub left (T.l xs).sz)] :=
  szFlat_ok (xs := xs) h.len (szL_zero fun x hx => by
    obtain ⟨a0, rfl⟩ := shapeInt64 h hx
    simp only [szr, szl, szi, szb, szs, szN, szC]) g1 g2
theorem eqInt64S_ok {n : Nat} (hn : maxN ≤ n) {τ : T} (h : τ.sz < maxN) : F112 n τ τ = some [.b true] :=
  eqT_ok (xs := τ.L) (ne := fun a b => a.I != b.I) hn (by have := sz_L τ; have := len_sz τ.L; omega) (fun x => by simp)
theorem shapeByte {xs : List T} (h : LW (tiOf tab) 5 xs) {x : T} (hx : x ∈ xs) : ∃ a0, x = .i a0 := by
  obtain ⟨f, rfl, hf⟩ := h.2 x hx
  obtain ⟨a0, e0, _, _⟩ := WL.int_inv (ti := tiOf tab) (k := .u8) (hf 0 (by decide))
  refine ⟨a0, ?_⟩
  show f 0 = _
  rw [e0]
theorem toByteS_ok {n : Nat} (hn : maxN ≤ n) {xs : List T} (h : LW (tiOf tab) 5 xs) (hz : (T.l xs).sz ≤ 1048576) : F191 n (.l xs) = some [.l xs] :=
  toS_ok (xs := xs) (e := 5) (Fe := fun x => some [x]) (J := fun r => r.headD (.i 0)) (by_ := 1) (z := .i 0) hn (by have := len_sz xs; simp only [limB]; omega) h.len (fun x _ => ⟨_, rfl, rfl⟩)
theorem szByteS_ok {n : Nat} (_ : maxN ≤ n) {xs : List T} (h : LW (tiOf tab) 5 xs) {left : Int} (g1 : 0 ≤ left) (g2 : left ≤ 1048576) : F190 n (.l xs) (.i left) = some [.i (sub left (T.l xs).sz)] :=
  szFlat_ok (xs := xs) h.len (szL_zero fun x hx => by
    obtain ⟨a0, rfl⟩ := shapeByte h hx
    simp only [szr, szl, szi, szb, szs, szN, szC]) g1 g2
theorem eqByteS_ok {n : Nat} (hn : maxN ≤ n) {τ : T} (h : τ.sz < maxN) : F196 n τ τ = some [.b true] :=
  eqT_ok (xs := τ.L) (ne := fun a b => a.I != b.I) hn (by have := sz_L τ; have := len_sz τ.L; omega) (fun x => by simp)
theorem toData_ok {n : Nat} (hn : maxN ≤ n) {a0 : Int} {a1 : Int} {a2 : Int} {a3 : Bool} {a4 : Bool} {a5 : Bool} {a6 : List T} (h6 : LW (tiOf tab) 5 a6) (hz : (T.r [.i a0, .i a1, .i a2, .b a3, .b a4, .b a5, .l a6]).sz ≤ 1048576) : F129 n (.i a0) (.i a1) (.i a2) (.b a3) (.b a4) (.b a5) (.l a6) = some [.i a0, .i a1, .i a2, .b a3, .b a4, .b a5, .l a6] := by
  rw [szr] at hz
  unfold F129
  refine bind_eq (toByteS_ok hn  h6 (le_getD hz 6)) ?_
  rfl
theorem szData_ok {n : Nat} (hn : maxN ≤ n) {a0 : Int} {a1 : Int} {a2 : Int} {a3 : Bool} {a4 : Bool} {a5 : Bool} {a6 : List T} (h6 : LW (tiOf tab) 5 a6) {left : Int} (g1 : 0 ≤ left) (g2 : left ≤ 1048576) : F125 n (.i a0) (.i a1) (.i a2) (.b a3) (.b a4) (.b a5) (.l a6) (.i left) = some [.i (sub left (T.r [.i a0, .i a1, .i a2, .b a3, .b a4, .b a5, .l a6]).sz)] := by
  have e : (T.r [.i a0, .i a1, .i a2, .b a3, .b a4, .b a5, .l a6]).sz = (T.l a6).sz := by simp only [szr, szi, szb, szs, szN, szC, Nat.zero_add, Nat.add_zero] <;> omega
  rw [e]
  unfold F125
  refine bind_eq (szByteS_ok hn h6 (left := left) (by omega) (by omega)) ?_
  exact szEnd
theorem eqData_ok {n : Nat} (hn : maxN ≤ n) {x0 x1 x2 x3 x4 x5 x6 : T} (h6 : x6.sz < maxN) : F134 n x0 x1 x2 x3 x4 x5 x6 x0 x1 x2 x3 x4 x5 x6 = some [.b true] := by
  unfold F134
  refine condF (bne_self_eq_false _) ?_
  refine condF (bne_self_eq_false _) ?_
  refine condF (bne_self_eq_false _) ?_
  refine condF (beqN _) ?_
  refine condF (beqN _) ?_
  refine condF (beqN _) ?_
  refine bind_eq (eqByteS_ok (τ := x6) hn h6) (condF rfl ?_)
  rfl
theorem toSendItem_ok {n : Nat} (hn : maxN ≤ n) {a0 : Int} {a1 : Int} {a2 : Int} {a3 : Bool} {a4 : Bool} {a5 : Bool} {a6 : List T} {a7 : Int} {a8 : Int} (h6 : LW (tiOf tab) 5 a6) (hz : (T.r [.i a0, .i a1, .i a2, .b a3, .b a4, .b a5, .l a6, .i a7, .i a8]).sz ≤ 1048576) : F200 n (.i a0) (.i a1) (.i a2) (.b a3) (.b a4) (.b a5) (.l a6) (.i a7) (.i a8) = some [.i a0, .i a1, .i a2, .b a3, .b a4, .b a5, .l a6, .i a7, .i a8] := by
  rw [szr] at hz
  unfold F200
  refine bind_eq (toData_ok hn (a0 := a0) (a1 := a1) (a2 := a2) (a3 := a3) (a4 := a4) (a5 := a5) h6 (le_part hz 0 7)) ?_
  rfl
theorem szSendItem_ok {n : Nat} (hn : maxN ≤ n) {a0 : Int} {a1 : Int} {a2 : Int} {a3 : Bool} {a4 : Bool} {a5 : Bool} {a6 : List T} {a7 : Int} {a8 : Int} (h6 : LW (tiOf tab) 5 a6) {left : Int} (g1 : 0 ≤ left) (g2 : left ≤ 1048576) : F199 n (.i a0) (.i a1) (.i a2) (.b a3) (.b a4) (.b a5) (.l a6) (.i a7) (.i a8) (.i left) = some [.i (sub left (T.r [.i a0, .i a1, .i a2, .b a3, .b a4, .b a5, .l a6, .i a7, .i a8]).sz)] := by
  have e : (T.r [.i a0, .i a1, .i a2, .b a3, .b a4, .b a5, .l a6, .i a7, .i a8]).sz = (T.r [.i a0, .i a1, .i a2, .b a3, .b a4, .b a5, .l a6]).sz := by simp only [szr, szi, szb, szs, szN, szC, Nat.zero_add, Nat.add_zero] <;> omega
  rw [e]
  unfold F199
  refine bind_eq (szData_ok hn h6 (left := left) (by omega) (by omega)) ?_
  exact szEnd
theorem eqSendItem_ok {n : Nat} (hn : maxN ≤ n) {x0 x1 x2 x3 x4 x5 x6 x7 x8 : T} (h6 : x6.sz < maxN) : F205 n x0 x1 x2 x3 x4 x5 x6 x7 x8 x0 x1 x2 x3 x4 x5 x6 x7 x8 = some [.b true] := by
  unfold F205
  refine bind_eq (eqData_ok (x0 := x0) (x1 := x1) (x2 := x2) (x3 := x3) (x4 := x4) (x5 := x5) (x6 := x6) hn h6) (condF rfl ?_)
  refine condF (bne_self_eq_false _) ?_
  refine condF (bne_self_eq_false _) ?_
  rfl
theorem shapeSendItem {xs : List T} (h : LW (tiOf tab) 230 xs) {x : T} (hx : x ∈ xs) : ∃ a0 a1 a2 a3 a4 a5 a6 a7 a8, x = .r [.i a0, .i a1, .i a2, .b a3, .b a4, .b a5, .l a6, .i a7, .i a8] ∧ LW (tiOf tab) 5 a6 := by
  obtain ⟨f, rfl, hf⟩ := h.2 x hx
  obtain ⟨a0, e0, _, _⟩ := WL.int_inv (ti := tiOf tab) (k := .i64) (hf 0 (by decide))
  obtain ⟨a1, e1, _, _⟩ := WL.int_inv (ti := tiOf tab) (k := .i64) (hf 1 (by decide))
  obtain ⟨a2, e2, _, _⟩ := WL.int_inv (ti := tiOf tab) (k := .i64) (hf 2 (by decide))
  obtain ⟨a3, e3⟩ := WL.bool_inv (ti := tiOf tab) (hf 3 (by decide))
  obtain ⟨a4, e4⟩ := WL.bool_inv (ti := tiOf tab) (hf 4 (by decide))
  obtain ⟨a5, e5⟩ := WL.bool_inv (ti := tiOf tab) (hf 5 (by decide))
  obtain ⟨a6, e6, h6⟩ := WL.slice_inv (ti := tiOf tab) (e := 5) (hf 6 (by decide))
  obtain ⟨a7, e7, _, _⟩ := WL.int_inv (ti := tiOf tab) (k := .i64) (hf 7 (by decide))
  obtain ⟨a8, e8, _, _⟩ := WL.int_inv (ti := tiOf tab) (k := .i64) (hf 8 (by decide))
  refine ⟨a0, a1, a2, a3, a4, a5, a6, a7, a8, ?_, h6⟩
  show T.r [f 0, f 1, f 2, f 3, f 4, f 5, f 6, f 7, f 8] = _
  rw [e0, e1, e2, e3, e4, e5, e6, e7, e8]
theorem toSendItemS_ok {n : Nat} (hn : maxN ≤ n) {xs : List T} (h : LW (tiOf tab) 230 xs) (hz : (T.l xs).sz ≤ 1048576) : F167 n (.l xs) = some [.l xs] :=
  toS_ok (xs := xs) (e := 203) (Fe := fun x => F200 n (x.F 0) (x.F 1) (x.F 2) (x.F 3) (x.F 4) (x.F 5) (x.F 6) (x.F 7) (x.F 8)) (J := fun r => .r [r.headD (.i 0), r.tail.headD (.i 0), r.tail.tail.headD (.i 0), r.tail.tail.tail.headD (.i 0), r.tail.tail.tail.tail.headD (.i 0), r.tail.tail.tail.tail.tail.headD (.i 0), r.tail.tail.tail.tail.tail.tail.headD (.i 0), r.tail.tail.tail.tail.tail.tail.tail.headD (.i 0), r.tail.tail.tail.tail.tail.tail.tail.tail.headD (.i 0)]) (by_ := 72) (z := .r [.i 0, .i 0, .i 0, .b false, .b false, .b false, .l [], .i 0, .i 0]) hn (by have := len_sz xs; simp only [limB]; omega) h.len (fun x hx => by
    obtain ⟨a0, a1, a2, a3, a4, a5, a6, a7, a8, rfl, h6⟩ := shapeSendItem h hx
    have := sz_mem hx
    exact ⟨_, toSendItem_ok hn h6 (by omega), rfl⟩)
theorem szSendItemS_ok {n : Nat} (hn : maxN ≤ n) {xs : List T} (h : LW (tiOf tab) 230 xs) {left : Int} (g1 : 0 ≤ left) (g2 : left ≤ 1048576) : F164 n (.l xs) (.i left) = some [.i (sub left (T.l xs).sz)] :=
  szS_ok (xs := xs) (Fe := fun x y => F199 n (x.F 0) (x.F 1) (x.F 2) (x.F 3) (x.F 4) (x.F 5) (x.F 6) (x.F 7) (x.F 8) y) hn h.len (fun x hx left g1 g2 => by
    obtain ⟨a0, a1, a2, a3, a4, a5, a6, a7, a8, rfl, h6⟩ := shapeSendItem h hx
    exact szSendItem_ok hn h6 g1 g2) g1 g2
theorem eqSendItemS_ok {n : Nat} (hn : maxN ≤ n) {τ : T} (h : τ.sz < maxN) : F172 n τ τ = some [.b true] :=
  eqS_ok (xs := τ.L) (Fe := fun x y => F205 n (x.F 0) (x.F 1) (x.F 2) (x.F 3) (x.F 4) (x.F 5) (x.F 6) (x.F 7) (x.F 8) (y.F 0) (y.F 1) (y.F 2) (y.F 3) (y.F 4) (y.F 5) (y.F 6) (y.F 7) (y.F 8)) hn (by have := sz_L τ; have := len_sz τ.L; omega) (fun x hx => eqSendItem_ok hn (by have := sz_F x 6; have := sz_mem hx; have := sz_L τ; omega))
theorem toSend_ok {n : Nat} (hn : maxN ≤ n) {a0 : Int} {a1 : Int} {a2 : List T} {a3 : List T} (h2 : LW (tiOf tab) 2 a2) (h3 : LW (tiOf tab) 230 a3) (hz : (T.r [.i a0, .i a1, .l a2, .l a3]).sz ≤ 1048576) : F73 n (.i a0) (.i a1) (.l a2) (.l a3) = some [.i a0, .i a1, .l a2, .l a3] := by
  rw [szr] at hz
  unfold F73
  refine bind_eq (toInt64S_ok hn  h2 (le_getD hz 2)) ?_
  refine bind_eq (toSendItemS_ok hn  h3 (le_getD hz 3)) ?_
  rfl
theorem szSend_ok {n : Nat} (hn : maxN ≤ n) {a0 : Int} {a1 : Int} {a2 : List T} {a3 : List T} (h2 : LW (tiOf tab) 2 a2) (h3 : LW (tiOf tab) 230 a3) {left : Int} (g1 : 0 ≤ left) (g2 : left ≤ 1048576) : F71 n (.i a0) (.i a1) (.l a2) (.l a3) (.i left) = some [.i (sub left (T.r [.i a0, .i a1, .l a2, .l a3]).sz)] := by
  have e : (T.r [.i a0, .i a1, .l a2, .l a3]).sz = ((T.l a2).sz + (T.l a3).sz) := by simp only [szr, szi, szb, szs, szN, szC, Nat.zero_add, Nat.add_zero] <;> omega
  rw [e]
  unfold F71
  refine bind_eq (szInt64S_ok hn h2 (left := left) (by omega) (by omega)) ?_
  refine szThen fun g => ?_
  rw [sub_pos g]
  refine bind_eq (szSendItemS_ok hn h3 (left := left - ((T.l a2).sz : Int)) (by omega) (by omega)) ?_
  exact szEnd
theorem eqSend_ok {n : Nat} (hn : maxN ≤ n) {x0 x1 x2 x3 : T} (h2 : x2.sz < maxN) (h3 : x3.sz < maxN) : F75 n x0 x1 x2 x3 x0 x1 x2 x3 = some [.b true] := by
  unfold F75
  refine condF (bne_self_eq_false _) ?_
  refine condF (bne_self_eq_false _) ?_
  refine bind_eq (eqInt64S_ok (τ := x2) hn h2) (condF rfl ?_)
  refine bind_eq (eqSendItemS_ok (τ := x3) hn h3) (condF rfl ?_)
  rfl
theorem l1In_ok {n : Nat} {a lo hi : Int} : F152 n (.i a) (.i lo) (.i hi) = some [.b (decide (a ≥ lo) && decide (a ≤ hi))] := by
  unfold F152
  simp only [I_i]
  cases decide (a ≥ lo) <;> rfl
theorem within_ok {n : Nat} {a lo hi : Int} : F130 n (.i a) (.i lo) (.i hi) = some [.b (decide (a ≥ lo) && decide (a ≤ hi))] := by
  unfold F130
  simp only [I_i]
  cases decide (a ≥ lo) <;> rfl
theorem l1Word32_ok {n : Nat} {a : Int} : F76 n (.i a) = some [.b (decide (a ≥ 0) && decide (a ≤ 4294967295))] := by
  unfold F76
  rw [l1In_ok]
  rfl
theorem isWord_ok {n : Nat} {a : Int} : F78 n (.i a) = some [.b (decide (a ≥ 0) && decide (a ≤ 4294967295))] := by
  unfold F78
  rw [within_ok]
  rfl
/-- The lists laid one behind the other. -/
def catL (zs : List T) : List T := zs.flatMap T.L
theorem catL_take {zs : List T} {i : Nat} (h : i < zs.length) : catL (zs.take (i + 1)) = catL (zs.take i) ++ (zs.getD i (.i 0)).L := by
  unfold catL
  rw [List.take_succ_eq_append_getElem h, List.flatMap_append]
  simp [h]
theorem catL_le (zs : List T) (i : Nat) : (catL (zs.take i)).length ≤ (catL zs).length := by
  have : catL zs = catL (zs.take i) ++ catL (zs.drop i) := by
    unfold catL
    rw [← List.flatMap_append, List.take_append_drop]
  rw [this, List.length_append]
  omega
theorem concatB_ok {n : Nat} (hn : maxN ≤ n) {zs : List T} (hz : zs.length ≤ 1048576) (hc : (catL zs).length ≤ 1048576) : F207 n (.l zs) = some [.l (catL zs)] := by
  have hnl : 1048576 < n := by unfold maxN at hn; omega
  have second : ∀ ws : List T, ws = [] → loopR (L207_207_11 n).G n [.l zs, .i (zs.length : Int), .i 0, .l ws] [fun u2 => some [T.l ((u2.getD 0 (.i 0)).L)]] = some [.l (catL zs)] := by
    intro ws hw
    subst hw
    refine loop_up (G := (L207_207_11 n).G) (len := zs.length) (v := fun i => [.l zs, .i (zs.length : Int), .i (i : Int), .l (catL (zs.take i))]) (fun i hi self => ?_) (fun self => ?_) n (by omega)
    · have h1 := catL_le zs (i + 1)
      have h2 := catL_take hi
      have h3 : (((catL (zs.take i)).length + ((zs.getD i (.i 0)).L).length : Nat) : Int) * 1 ≤ limB := by
        rw [h2, List.length_append] at h1
        simp only [limB]
        omega
      simp only [L207_207_11, G207_207_11, List.getD_cons_zero, List.getD_cons_succ, I_i, L_l, at_nat]
      rw [decide_eq_true (by omega), cond_true, if_pos (by omega), if_pos h3, wrap64 (by omega) (by omega), h2]
      rfl
    · simp only [L207_207_11, G207_207_11, List.getD_cons_zero, List.getD_cons_succ, I_i, L_l]
      rw [decide_eq_false (by omega), cond_false, List.take_length]
      rfl
  unfold F207
  refine loop_up (G := (L207_207_3 n).G) (len := zs.length) (v := fun i => [.l zs, .i ((catL (zs.take i)).length : Int), .l zs, .i (zs.length : Int), .i (i : Int)]) (fun i hi self => ?_) (fun self => ?_) n (by omega)
  · have h1 := catL_le zs (i + 1)
    have h2 := catL_take hi
    have h4 : ((catL (zs.take i)).length : Int) + (((zs.getD i (.i 0)).L.length : Nat) : Int) = ((catL (zs.take (i + 1))).length : Int) := by rw [h2, List.length_append]; omega
    simp only [L207_207_3, G207_207_3, List.getD_cons_zero, List.getD_cons_succ, I_i, L_l, at_nat, h4]
    rw [decide_eq_true (by omega), cond_true, if_pos (by omega), wrap64 (x := ((catL (zs.take (i + 1))).length : Int)) (by omega) (by omega), decide_eq_false (by omega), cond_false, wrap64 (by omega) (by omega)]
    rfl
  · have d0 : decide ((catL zs).length < (0 : Int)) = false := decide_eq_false (by omega)
    have w3 : IntKind.wrap .i64 (((catL zs).length : Int) - 0) = (catL zs).length := by rw [wrap64 (by omega) (by omega)]; omega
    simp only [L207_207_3, G207_207_3, List.getD_cons_zero, List.getD_cons_succ, I_i, L_l, List.take_length, exn]
    rw [decide_eq_false (by omega), cond_false]
    simp only [d0, w3, cond_false]
    by_cases hp : ((catL zs).length : Int) > 0
    · rw [decide_eq_true hp, cond_true, if_pos (by simp only [limB]; omega), if_pos (by simp only [List.length_replicate, limB]; omega), if_pos (by omega)]
      exact second _ rfl
    · rw [decide_eq_false hp, cond_false]
      exact second _ rfl
/-- What is wrong with a piece. -/
def dcode (x : T) : Int :=
  cond (decide ((x.F 0).I ≥ 0) && decide ((x.F 0).I ≤ 4294967295)) (cond (decide ((x.F 1).I ≥ 0) && decide ((x.F 1).I ≤ 9)) (cond (decide ((x.F 2).I ≥ 0) && decide ((x.F 2).I ≤ 65535))
    (cond (decide (((x.F 6).L.length : Int) < 1) || decide (((x.F 6).L.length : Int) > 100)) 2 (cond (x.F 5).B (cond ((x.F 2).I != 0) 1 0) 0)) 3) 3) 3
theorem dcode_word {x : T} (h : dcode x = 0) : 0 ≤ (x.F 0).I ∧ (x.F 0).I ≤ 4294967295 := by
  unfold dcode at h
  by_cases h1 : (x.F 0).I ≥ 0
  · by_cases h2 : (x.F 0).I ≤ 4294967295
    · exact ⟨h1, h2⟩
    · rw [decide_eq_false h2, Bool.and_false] at h
      simp at h
  · rw [decide_eq_false h1] at h
    simp at h
theorem packData_code {n : Nat} (hn : maxN ≤ n) {a0 a1 a2 : Int} {b3 b4 b5 : Bool} {l6 : List T} : ∃ r : List T, F131 n (.i a0) (.i a1) (.i a2) (.b b3) (.b b4) (.b b5) (.l l6) = some (.i (dcode (.r [.i a0, .i a1, .i a2, .b b3, .b b4, .b b5, .l l6])) :: r) := by
  unfold F131 dcode F153 F143
  simp only [F_r, List.getD_cons_zero, List.getD_cons_succ, isWord_ok, within_ok, Option.bind_some, List.headD_cons, I_i, B_b, L_l]
  have e0 : (decide ((l6.length : Int) ≥ 1) && decide ((l6.length : Int) ≤ 100)) = !(decide ((l6.length : Int) < 1) || decide ((l6.length : Int) > 100)) := by
    by_cases h1 : (l6.length : Int) < 1 <;> by_cases h2 : (l6.length : Int) > 100 <;> simp [h1, h2] <;> omega
  rw [e0]
  cases decide (a0 ≥ 0) && decide (a0 ≤ 4294967295) with
  | false => exact ⟨_, rfl⟩
  | true =>
    cases decide (a1 ≥ 0) && decide (a1 ≤ 9) with
    | false => exact ⟨_, rfl⟩
    | true =>
      cases decide (a2 ≥ 0) && decide (a2 ≤ 65535) with
      | false => exact ⟨_, rfl⟩
      | true =>
        cases hl : decide ((l6.length : Int) < 1) || decide ((l6.length : Int) > 100) with
        | true => exact ⟨_, rfl⟩
        | false =>
          have hlen : l6.length ≤ 100 := by
            simp only [Bool.or_eq_false_iff, decide_eq_false_iff_not] at hl
            omega
          have pk : ∀ (f0 f1 f2 : Int), ∃ r, ((F194 n (.i a0)).bind fun r8 => (F195 n (.i a1)).bind fun r9 => (F195 n (.i a2)).bind fun r10 => (F193 n (.i 0) (.i (IntKind.wrap .i64 ((IntKind.wrap .i64 (f0 + f1)) + f2))) (.l [(r8.headD (.i 0)), (r9.headD (.i 0)), (r10.headD (.i 0)), .l l6])).bind fun r11 => some [(r11.headD (.i 0)), (r11.tail.headD (.i 0)), (r11.tail.tail.headD (.i 0)), (r11.tail.tail.tail.headD (.i 0))]) = some (T.i 0 :: r) := by
            intro f0 f1 f2
            unfold F194 F195 F193
            simp only [Option.bind_some, List.headD_cons]
            rw [concatB_ok hn (by simp) (by simp [catL, L_l]; omega)]
            exact ⟨_, rfl⟩
          have fl : ∀ (b : Bool) (k : Int), F192 n (.b b) (.i k) = some [.i (cond b k 0)] := fun b k => by
            unfold F192
            cases b <;> rfl
          cases b5 with
          | true =>
            cases a2 != 0 with
            | true => exact ⟨_, rfl⟩
            | false =>
              simp only [fl, Option.bind_some, List.headD_cons, I_i, Bool.not_true, Bool.not_false, cond_true, cond_false]
              exact pk _ _ _
          | false =>
            simp only [fl, Option.bind_some, List.headD_cons, I_i, Bool.not_true, Bool.not_false, cond_true, cond_false]
            exact pk _ _ _
theorem l1Gap_ok {n : Nat} {a b : Int} (ha : 0 ≤ a) (ha' : a ≤ 4294967295) (hb : 0 ≤ b) (hb' : b ≤ 4294967295) : F165 n (.i a) (.i b) = some [.i (gap a b)] := by
  unfold F165
  rw [I_i, I_i, gap_spec ha ha' hb hb']
theorem serialGap_ok {n : Nat} {a b : Int} (ha : 0 ≤ a) (ha' : a ≤ 4294967295) (hb : 0 ≤ b) (hb' : b ≤ 4294967295) : F201 n (.i a) (.i b) = some [.i (gap a b)] := by
  unfold F201
  rw [I_i, I_i, gap_impl ha ha' hb hb']
def wordB (a : Int) : Bool := decide (a ≥ 0) && decide (a ≤ 4294967295)
theorem wordB_iff {a : Int} (h : wordB a = true) : 0 ≤ a ∧ a ≤ 4294967295 := by
  unfold wordB at h
  simp only [Bool.and_eq_true, decide_eq_true_eq] at h
  omega
def pairB (x : T) : Bool := decide (x.I ≥ 0) && decide (x.I ≤ 65535)
theorem implPairs {n : Nat} (hn : maxN ≤ n) {N : List T} (hN : LW (tiOf tab) 2 N) : F171 n (.l N) = some [.b (N.all pairB)] := by
  have hlen : N.length < 281474976710656 := hN.len
  refine Eq.trans (loop_scan (G := (L171_209_2 n).G) (len := N.length) (v := fun i => [.l N, .i (N.length : Int), .i (i : Int), .l N, .b false, .l N, .l N, .b false, .l N]) (E := fun i => cond (pairB (N.getD i (.i 0))) none (some (some [.b false]))) (d := some [.b true])
    (fun i hi self => by
      obtain ⟨b, e1⟩ := shapeInt64 hN (x := N.getD i (.i 0)) (getD_mem hi)
      have hp : F204 n (.i b) = some [.b (!(decide (b ≥ 0) && decide (b ≤ 65535)))] := by
        unfold F204 F143
        simp only [within_ok, Option.bind_some, List.headD_cons, B_b]
      have hd0 : decide ((i : Int) ≥ 0) = true := decide_eq_true (by omega)
      simp only [L171_209_2, G171_209_2, List.getD_cons_zero, List.getD_cons_succ, I_i, L_l, at_nat, e1, hp, Option.bind_some, List.headD_cons, B_b, pairB, exn, hd0]
      rw [decide_eq_true (by omega), cond_true, if_pos (by omega), wrap64 (by omega) (by omega)]
      cases decide (b ≥ 0) && decide (b ≤ 65535) <;> rfl)
    (fun self => by
      simp only [L171_209_2, G171_209_2, List.getD_cons_zero, List.getD_cons_succ, I_i, L_l]
      rw [decide_eq_false (by omega), cond_false]
      rfl) N.length 0 n (by omega) (by unfold maxN at *; omega)) ?_
  have key : ∀ k s, s + k = N.length → scan (fun i => cond (pairB (N.getD i (.i 0))) none (some (some [T.b false]))) (some [T.b true]) k s = some [.b ((N.drop s).all pairB)] := by
    intro k
    induction k with
    | zero => intro s hs; rw [List.drop_eq_nil_of_le (by omega)]; rfl
    | succ k ih =>
      intro s hs
      have e1 : N.getD s (.i 0) = N[s]'(by omega) := by simp [show s < N.length by omega]
      unfold scan
      rw [List.drop_eq_getElem_cons (by omega), List.all_cons, ← e1]
      cases pairB (N.getD s (.i 0)) with
      | true => exact ih (s + 1) (by omega)
      | false => rfl
  exact key N.length 0 (by omega)
theorem implWords {n : Nat} (hn : maxN ≤ n) {a b : Int} : F168 n (.l [.i a, .i b]) = some [.b (wordB a && wordB b)] := by
  unfold F168
  have hm : (2 : Nat) < n := by unfold maxN at hn; omega
  have step : ∀ (i : Nat) (K : List (List T → Option (List T))) (m : Nat), i < 2 → loopR (L168_168_2 n).G (m + 1) [.l [.i a, .i b], .i 2, .i (i : Int)] K =
      bif !(wordB (([T.i a, T.i b].getD i (.i 0)).I)) then exn K 0 [.b false] else loopR (L168_168_2 n).G m [.l [.i a, .i b], .i 2, .i ((i + 1 : Nat) : Int)] K := by
    intro i K m hi
    have hg : ∃ x, [T.i a, T.i b].getD i (.i 0) = .i x := by
      rcases i with _ | _ | i
      · exact ⟨a, rfl⟩
      · exact ⟨b, rfl⟩
      · omega
    obtain ⟨x, hx⟩ := hg
    rw [loop_step]
    simp only [L168_168_2, G168_168_2, List.getD_cons_zero, List.getD_cons_succ, I_i, L_l, at_nat, hx, isWord_ok, Option.bind_some, List.headD_cons, B_b]
    rw [decide_eq_true (by omega), cond_true, if_pos (by simp; omega), wrap64 (by omega) (by omega)]
    rfl
  obtain ⟨m, rfl⟩ : ∃ m, n = m + 3 := ⟨n - 3, by omega⟩
  show loopR _ (m + 2 + 1) [.l [.i a, .i b], .i 2, .i ((0 : Nat) : Int)] _ = _
  rw [step 0 _ _ (by omega)]
  cases ha : wordB a with
  | false => show (bif !(wordB a) then _ else _) = _; rw [ha]; rfl
  | true =>
    show (bif !(wordB a) then _ else _) = _
    rw [ha]
    show loopR _ (m + 1 + 1) _ _ = _
    rw [step 1 _ _ (by omega)]
    show (bif !(wordB b) then _ else _) = _
    cases wordB b with
    | false => rfl
    | true =>
      show loopR _ (m + 1) _ _ = _
      rw [loop_step]
      rfl
def inB (a lo hi : Int) : Bool := decide (a ≥ lo) && decide (a ≤ hi)
def lastS (c : Int) (S : List T) : Nat → Int
  | 0 => 0
  | i + 1 => gap c ((S.getD i (.i 0)).F 0).I
def itemE (e c : Int) (S : List T) (i : Nat) : Option (Option (List T)) :=
  cond (dcode (S.getD i (.i 0)) != 0) (some (some [.i (dcode (S.getD i (.i 0)))])) (cond (inB ((S.getD i (.i 0)).F 7).I 0 99 && inB ((S.getD i (.i 0)).F 8).I 0 1000000000)
    (cond (decide (gap c ((S.getD i (.i 0)).F 0).I ≤ lastS c S i) || decide (gap c ((S.getD i (.i 0)).F 0).I ≥ e)) (some (some [.i 1])) none) (some (some [.i 3])))
theorem itemE_code {e c : Int} {S : List T} {i : Nat} {r : Option (List T)} (h : itemE e c S i = some r) : ∃ k : Int, r = some [.i k] ∧ k ≠ 0 := by
  unfold itemE at h
  cases hd : dcode (S.getD i (.i 0)) != 0 with
  | true =>
    rw [hd] at h
    simp only [cond_true, Option.some.injEq] at h
    exact ⟨_, h.symm, bne_iff_ne.1 hd⟩
  | false =>
    rw [hd] at h
    revert h
    cases inB ((S.getD i (.i 0)).F 7).I 0 99 && inB ((S.getD i (.i 0)).F 8).I 0 1000000000 <;> cases decide (gap c ((S.getD i (.i 0)).F 0).I ≤ lastS c S i) || decide (gap c ((S.getD i (.i 0)).F 0).I ≥ e) <;> intro h <;> simp only [cond_true, cond_false, Option.some.injEq, reduceCtorEq] at h <;> exact ⟨_, h.symm, by decide⟩
theorem specItems {n : Nat} (hn : maxN ≤ n) {e c a0 : Int} (hc : wordB c = true) {Q S : List T} (hS : LW (tiOf tab) 230 S) {K : List T → Option (List T)} :
    loopR (L72_72_10 n).G n [.i e, .i 0, .i 0, .i a0, .i c, .l Q, .l S] [fun u14 => some [.i ((u14.getD 0 (.i 0)).I)], K] = scan (itemE e c S) (K [.i a0, .i c, .l Q, .l S]) S.length 0 := by
  have hlen : S.length < 281474976710656 := hS.len
  obtain ⟨c1, c2⟩ := wordB_iff hc
  exact loop_scan (G := (L72_72_10 n).G) (len := S.length) (v := fun i => [.i e, .i (lastS c S i), .i (i : Int), .i a0, .i c, .l Q, .l S]) (E := itemE e c S)
    (fun i hi self => by
      obtain ⟨x0, x1, x2, x3, x4, x5, x6, x7, x8, e1, _⟩ := shapeSendItem hS (x := S.getD i (.i 0)) (getD_mem hi)
      have hi1 : 0 ≤ (i : Int) ∧ (i : Int) < (S.length : Int) := by omega
      have hl : lastS c S (i + 1) = gap c x0 := by simp only [lastS, e1, F_r, List.getD_cons_zero, I_i]
      simp only [L72_72_10, G72_72_10, List.getD_cons_zero, List.getD_cons_succ, I_i, L_l, at_nat, e1, F_r, B_b, l1Word32_ok, l1In_ok, Option.bind_some, List.headD_cons, itemE, hl, dcode]
      rw [decide_eq_true (by omega), cond_true, if_pos hi1, wrap64 (x := (i : Int) + 1) (by omega) (by omega)]
      have hww : (decide (x0 ≥ 0) && decide (x0 ≤ 4294967295)) = wordB x0 := rfl
      simp only [hww, inB]
      cases hw : wordB x0 with
      | false => rfl
      | true =>
        obtain ⟨w1, w2⟩ := wordB_iff hw
        rw [l1Gap_ok c1 c2 w1 w2]
        simp only [Option.bind_some, List.headD_cons, I_i, Bool.not_true, cond_false, cond_true]
        cases decide (x1 ≥ 0) && decide (x1 ≤ 9) with
        | false => rfl
        | true =>
          cases decide (x2 ≥ 0) && decide (x2 ≤ 65535) with
          | false => rfl
          | true =>
            cases decide ((x6.length : Int) < 1) with
            | true => rfl
            | false =>
              cases decide ((x6.length : Int) > 100) with
              | true => rfl
              | false =>
                cases x5 with
                | true =>
                  cases x2 != 0 with
                  | true => rfl
                  | false =>
                    cases decide (x7 ≥ 0) && decide (x7 ≤ 99) with
                    | false => rfl
                    | true =>
                      cases decide (x8 ≥ 0) && decide (x8 ≤ 1000000000) with
                      | false => rfl
                      | true => cases decide (gap c x0 ≤ lastS c S i) <;> cases decide (gap c x0 ≥ e) <;> rfl
                | false =>
                  cases decide (x7 ≥ 0) && decide (x7 ≤ 99) with
                  | false => rfl
                  | true =>
                    cases decide (x8 ≥ 0) && decide (x8 ≤ 1000000000) with
                    | false => rfl
                    | true => cases decide (gap c x0 ≤ lastS c S i) <;> cases decide (gap c x0 ≥ e) <;> rfl)
    (fun self => by
      simp only [L72_72_10, G72_72_10, List.getD_cons_zero, List.getD_cons_succ, I_i, L_l]
      rw [decide_eq_false (by omega), cond_false]
      rfl) S.length 0 n (by omega) (by unfold maxN at *; omega)
theorem implItems {n : Nat} (hn : maxN ≤ n) {c a0 : Int} (hc : wordB c = true) (ha : wordB a0 = true) {Q S : List T} (hS : LW (tiOf tab) 230 S) :
    F170 n (.i a0) (.i c) (.l Q) (.l S) = scan (itemE (gap c a0) c S) (some [.i 0]) S.length 0 := by
  have hlen : S.length < 281474976710656 := hS.len
  obtain ⟨c1, c2⟩ := wordB_iff hc
  obtain ⟨b1, b2⟩ := wordB_iff ha
  exact loop_scan (G := (L170_170_3 n).G) (len := S.length) (v := fun i => [.i (lastS c S i), .l S, .i (S.length : Int), .i (i : Int), .i a0, .i c, .l Q, .l S]) (E := itemE (gap c a0) c S)
    (fun i hi self => by
      obtain ⟨x0, x1, x2, x3, x4, x5, x6, x7, x8, e1, _⟩ := shapeSendItem hS (x := S.getD i (.i 0)) (getD_mem hi)
      have hi1 : 0 ≤ (i : Int) ∧ (i : Int) < (S.length : Int) := by omega
      have hl : lastS c S (i + 1) = gap c x0 := by simp only [lastS, e1, F_r, List.getD_cons_zero, I_i]
      obtain ⟨rr, hr⟩ := packData_code hn (a0 := x0) (a1 := x1) (a2 := x2) (b3 := x3) (b4 := x4) (b5 := x5) (l6 := x6)
      have ew : ∀ y : Int, 0 ≤ y → y ≤ 4294967295 → F169 n (.i a0) (.i c) (.l Q) (.l S) (.i y) = some [.i (gap c y)] := fun y y1 y2 => by
        unfold F169
        rw [serialGap_ok c1 c2 y1 y2]
        rfl
      have et : F202 n (.i x8) = some [.b (decide (x8 ≥ 0) && decide (x8 ≤ 1000000000))] := by
        unfold F202
        rw [within_ok]
        rfl
      have edc : dcode (S.getD i (.i 0)) = dcode (.r [.i x0, .i x1, .i x2, .b x3, .b x4, .b x5, .l x6]) := by rw [e1]; rfl
      simp only [L170_170_3, G170_170_3, List.getD_cons_zero, List.getD_cons_succ, I_i, L_l, at_nat, itemE, edc]
      simp only [e1, F_r, List.getD_cons_zero, List.getD_cons_succ, I_i, hl, hr, within_ok, et, Option.bind_some, List.headD_cons, B_b]
      rw [decide_eq_true (by omega), cond_true, if_pos hi1, wrap64 (x := (i : Int) + 1) (by omega) (by omega)]
      cases hd : dcode (.r [.i x0, .i x1, .i x2, .b x3, .b x4, .b x5, .l x6]) != 0 with
      | true => rfl
      | false =>
        have hw := dcode_word (x := .r [.i x0, .i x1, .i x2, .b x3, .b x4, .b x5, .l x6]) (by simpa using hd)
        simp only [F_r, List.getD_cons_zero, I_i] at hw
        rw [ew x0 hw.1 hw.2, ew a0 b1 b2]
        simp only [Option.bind_some, List.headD_cons, I_i]
        simp only [inB]
        cases decide (x7 ≥ 0) && decide (x7 ≤ 99) with
        | false => rfl
        | true =>
          cases decide (x8 ≥ 0) && decide (x8 ≤ 1000000000) with
          | false => rfl
          | true => cases decide (gap c x0 ≤ lastS c S i) <;> cases decide (gap c x0 ≥ gap c a0) <;> rfl)
    (fun self => by
      simp only [L170_170_3, G170_170_3, List.getD_cons_zero, List.getD_cons_succ, I_i, L_l]
      rw [decide_eq_false (by omega), cond_false]
      rfl) S.length 0 n (by omega) (by unfold maxN at *; omega)
theorem specSeqs {n : Nat} (hn : maxN ≤ n) {a c : Int} {S N : List T} (hN : LW (tiOf tab) 2 N) :
    loopR (L72_72_23 n).G n [.i 0, .i a, .i c, .l N, .l S] [fun u17 : List T => some [T.i ((u17.getD 0 (.i 0)).I)], fun _ : List T => some [T.i 0]] = bif N.all pairB then some [T.i 0] else some [T.i 3] := by
  have hlen : N.length < 281474976710656 := hN.len
  exact loop_all (G := (L72_72_23 n).G) (f := fun k => [.i k, .i a, .i c, .l N, .l S]) (p := pairB) (r := some [T.i 3]) (d := some [T.i 0]) hn hN.len (fun i hi self => by
      obtain ⟨b, e1⟩ := shapeInt64 hN (x := N.getD i (.i 0)) (getD_mem hi)
      simp only [L72_72_23, G72_72_23, List.getD_cons_zero, List.getD_cons_succ, I_i, L_l, at_nat, e1, l1In_ok, Option.bind_some, List.headD_cons, B_b, pairB]
      rw [decide_eq_true (by omega), cond_true, if_pos (by omega), wrap64 (by omega) (by omega)]
      cases decide (b ≥ 0) && decide (b ≤ 65535) <;> rfl)
    (fun self => by
      simp only [L72_72_23, G72_72_23, List.getD_cons_zero, List.getD_cons_succ, I_i, L_l]
      rw [decide_eq_false (by omega), cond_false]
      rfl)
theorem sendFault_same {n : Nat} (hn : maxN ≤ n) {a0 a1 : Int} {a2 a3 : List T} (h2 : LW (tiOf tab) 2 a2) (h3 : LW (tiOf tab) 230 a3) :
    ∃ c : Int, F72 n (.i a0) (.i a1) (.l a2) (.l a3) = some [.i c] ∧ F74 n (.i a0) (.i a1) (.l a2) (.l a3) = some [.i c] := by
  have w0 : F76 n (.i a0) = some [.b (wordB a0)] := l1Word32_ok
  have w1 : F76 n (.i a1) = some [.b (wordB a1)] := l1Word32_ok
  unfold F72 F74
  rw [implWords hn, w0, w1]
  cases hw0 : wordB a0 with
  | false => exact ⟨3, rfl, rfl⟩
  | true =>
    cases hw1 : wordB a1 with
    | false => exact ⟨3, rfl, rfl⟩
    | true =>
      obtain ⟨b1, b2⟩ := wordB_iff hw0
      obtain ⟨c1, c2⟩ := wordB_iff hw1
      have ew : F169 n (.i a0) (.i a1) (.l a2) (.l a3) (.i a0) = some [.i (gap a1 a0)] := by
        unfold F169
        rw [serialGap_ok c1 c2 b1 b2]
        rfl
      simp only [Option.bind_some, List.headD_cons, B_b, L_l, I_i, Bool.not_true, Bool.and_true, cond_false, ew, l1Gap_ok c1 c2 b1 b2, l1In_ok, within_ok]
      cases decide ((a3.length : Int) > 40) with
      | true => exact ⟨2, rfl, rfl⟩
      | false =>
        cases ((a2.length : Int) != 10) with
        | true => exact ⟨2, rfl, rfl⟩
        | false =>
          cases decide (gap a1 a0 ≥ 1) && decide (gap a1 a0 ≤ 1000) with
          | false => exact ⟨1, rfl, rfl⟩
          | true =>
            simp only [cond_false, Bool.not_true]
            obtain ⟨c, hc⟩ : ∃ c : Int, scan (itemE (gap a1 a0) a1 a3) (bif a2.all pairB then some [T.i 0] else some [T.i 3]) a3.length 0 = some [.i c] := by
              refine scan_P (E := itemE (gap a1 a0) a1 a3) (P := fun r => ∃ c : Int, r = some [T.i c]) (fun i r hr => ?_) ?_ _ _
              · obtain ⟨k, h, _⟩ := itemE_code hr
                exact ⟨k, h⟩
              · cases a2.all pairB
                · exact ⟨3, rfl⟩
                · exact ⟨0, rfl⟩
            refine ⟨c, ?_, ?_⟩
            · rw [specItems hn hw1 h3, ← hc]
              congr 1
              exact specSeqs hn h2
            · rw [implItems hn hw1 hw0 h3, ← hc]
              refine scan_bind (fun i r hr => ?_) ?_ _ _
              · obtain ⟨k, rfl, hk⟩ := itemE_code hr
                exact ⟨k, rfl, condT (bne_iff_ne.2 hk) rfl⟩
              · refine condF rfl ?_
                rw [implPairs hn h2]
                cases a2.all pairB <;> rfl
theorem core_FnExactSendFault {n : Nat} (hn : maxN ≤ n) {a0 a1 : Int} {a2 a3 : List T} (h2 : LW (tiOf tab) 2 a2) (h3 : LW (tiOf tab) 230 a3) (_ : (T.r [.i a0, .i a1, .l a2, .l a3]).sz ≤ 1048576) :
    ∃ c : Int, F72 n (.i a0) (.i a1) (.l a2) (.l a3) = some [.i c] ∧ F74 n (.i a0) (.i a1) (.l a2) (.l a3) = some [.i c] :=
  sendFault_same hn h2 h3
theorem law_FnExactSendFault : ∀ τs, WLs (tiOf tab) (flatLs (psOf (tiOf tab) [118])) τs → ∃ n, M12 n τs = some [.b true] := by
  intro τs h
  replace h : WLs (tiOf tab) [.int .i64, .int .i64, .slice 2, .slice 230] τs := h
  obtain ⟨t0, _, rfl, w0, h⟩ := h.cons_inv
  obtain ⟨t1, _, rfl, w1, h⟩ := h.cons_inv
  obtain ⟨t2, _, rfl, w2, h⟩ := h.cons_inv
  obtain ⟨t3, _, rfl, w3, h⟩ := h.cons_inv
  cases h.nil_inv
  obtain ⟨a0, rfl, h0, k0⟩ := w0.int_inv
  obtain ⟨a1, rfl, h1, k1⟩ := w1.int_inv
  obtain ⟨a2, rfl, h2⟩ := w2.slice_inv
  obtain ⟨a3, rfl, h3⟩ := w3.slice_inv
  refine ⟨maxN, ?_⟩
  have hn := Nat.le_refl maxN
  show F12 maxN _ _ _ _ = _
  unfold F12
  refine bind_eq (szSend_ok hn (a0 := a0) (a1 := a1) h2 h3 (left := 1048576) (by omega) (by omega)) ?_
  by_cases g1 : (1048576 : Int) < ((T.r [.i a0, .i a1, .l a2, .l a3]).sz : Int)
  · exact condT (sub_lt g1) rfl
  refine condF (sub_ge g1) ?_
  have z0 : T.szL [.i a0, .i a1, .l a2, .l a3] ≤ 1048576 := by have := szr [.i a0, .i a1, .l a2, .l a3]; omega
  obtain ⟨c0, hs, hi⟩ := core_FnExactSendFault hn h2 h3 (a0 := a0) (a1 := a1) (by omega)
  refine bind_eq (toSend_ok hn (a0 := a0) (a1 := a1) h2 h3 (by omega)) ?_
  refine bind_eq hs ?_
  refine bind_eq (toSend_ok hn (a0 := a0) (a1 := a1) h2 h3 (by omega)) ?_
  refine bind_eq hi ?_
  refine condF (bne_self_eq_false _) ?_
  refine bind_eq (toSend_ok hn (a0 := a0) (a1 := a1) h2 h3 (by omega)) ?_
  refine bind_eq (eqSend_ok (x0 := T.i a0) (x1 := T.i a1) (x2 := T.l a2) (x3 := T.l a3) hn (lt_getD z0 2) (lt_getD z0 3)) (condF rfl ?_)
  rfl
end Go.KX.Sc
namespace Go.Proofs.Ytpkeanlcmjbgnac
open Go.KX Go.KX.Sc
set_option maxRecDepth 100000 in
theorem FnExactSendFault_lifted (os : Os) (started : os.Started) (H : Type) (enc : TypeId × Value → H) :
    ReturnsInHanded {} Try.checked os 12 .any (Rows.fnExactSendFaultSpec.pre6 enc Try.prog Try.f12 Rows.fnExactSendFaultRow.domain false) (Rows.fnExactSendFaultSpec.post enc Try.prog Try.f12 false true false false) :=
  law_lifted (C := Try.checked) (ti := tiOf tab) (all := [2, 4, 5, 22, 85, 116, 118, 161, 230]) (ts := [118]) tabOk (by kernel_rfl) (by kernel_rfl) (by kernel_rfl : ownKnob Try.prog.godebug = none) started (by kernel_rfl) Try.func12
    (ChangeSpec.witness6 (enc := enc) (C := Try.checked) false ⟨#[], #[.agg #[.int .i64 0, .int .i64 0, .slice none 0 0, .slice none 0 0]], []⟩ 8 (by kernel_rfl) (by kernel_rfl) (by kernel_rfl) (by kernel_rfl))
    (by kernel_rfl : laidOutB Try.prog = true) rfl (tb := 4) rfl (by kernel_rfl) (by kernel_rfl) rfl (fun ds hl => by match ds, hl with | [_], _ => rfl) (F := M12) (fun n => eo12 n) law_FnExactSendFault

theorem FnExactSendFault_holds : Rows.FnExactSendFaultSaid :=
  OpenClaim.holds_of_wide 12 Try.f12 rfl rfl rfl rfl rfl rfl rfl ⟨rfl, rfl, rfl, rfl, rfl⟩ rfl rfl rfl rfl rfl (by kernel_rfl) Try.func12 (by kernel_rfl)
    (of_decide_eq_true (by kernel_rfl)) (by unfold Func.isWrapper; first | (rw [if_pos (by decide +kernel)]; kernel_rfl) | (rw [if_neg (by decide +kernel)]; exact ⟨rfl, rfl⟩))
    (fun os started H enc _ => FnExactSendFault_lifted os started H enc)
end Go.Proofs.Ytpkeanlcmjbgnac
