/- laws.FnExactSameRecvs: for every input the law returns true, and every argument reads behind the call as it read before. No further condition. -/
import Derived.Test.YtpkeanlcmjbgnabFn
import Derived.Test.YtpkeanlcmjbgnabRows
import Derived.KernelRfl
set_option linter.unusedVariables false
set_option linter.unusedSimpArgs false
namespace Go.KX.Sb
open Go
theorem shapeInt64 {xs : List T} (h : LW (tiOf tab) 2 xs) {x : T} (hx : x ∈ xs) : ∃ a0, x = .i a0 := by
  obtain ⟨f, rfl, hf⟩ := h.2 x hx
  obtain ⟨a0, e0, _, _⟩ := WL.int_inv (ti := tiOf tab) (k := .i64) (hf 0 (by decide))
  refine ⟨a0, ?_⟩
  show f 0 = _
  rw [e0]
theorem toInt64S_ok {n : Nat} (hn : maxN ≤ n) {xs : List T} (h : LW (tiOf tab) 2 xs) (hz : (T.l xs).sz ≤ 1048576) : F17 n (.l xs) = some [.l xs] :=
  toS_ok (xs := xs) (e := 2) (Fe := fun x => some [x]) (J := fun r => r.headD (.i 0)) (by_ := 8) (z := .i 0) hn (by have := len_sz xs; simp only [limB]; omega) h.len (fun x _ => ⟨_, rfl, rfl⟩)
theorem szInt64S_ok {n : Nat} (_ : maxN ≤ n) {xs : List T} (h : LW (tiOf tab) 2 xs) {left : Int} (g1 : 0 ≤ left) (g2 : left ≤ 1048576) : F71 n (.l xs) (.i left) = some [.i (sub left (T.l xs).sz)] :=
  szFlat_ok (xs := xs) h.len (szL_zero fun x hx => by
    obtain ⟨a0, rfl⟩ := shapeInt64 h hx
    rfl) g1 g2
theorem eqInt64S_ok {n : Nat} (hn : maxN ≤ n) {τ : T} (h : τ.sz < maxN) : F20 n τ τ = some [.b true] :=
  eqT_ok (xs := τ.L) (ne := fun a b => a.I != b.I) hn (by have := sz_L τ; have := len_sz τ.L; omega) (fun x => by simp)
theorem shapeByte {xs : List T} (h : LW (tiOf tab) 5 xs) {x : T} (hx : x ∈ xs) : ∃ a0, x = .i a0 := by
  obtain ⟨f, rfl, hf⟩ := h.2 x hx
  obtain ⟨a0, e0, _, _⟩ := WL.int_inv (ti := tiOf tab) (k := .u8) (hf 0 (by decide))
  refine ⟨a0, ?_⟩
  show f 0 = _
  rw [e0]
theorem toByteS_ok {n : Nat} (hn : maxN ≤ n) {xs : List T} (h : LW (tiOf tab) 5 xs) (hz : (T.l xs).sz ≤ 1048576) : F124 n (.l xs) = some [.l xs] :=
  toS_ok (xs := xs) (e := 5) (Fe := fun x => some [x]) (J := fun r => r.headD (.i 0)) (by_ := 1) (z := .i 0) hn (by have := len_sz xs; simp only [limB]; omega) h.len (fun x _ => ⟨_, rfl, rfl⟩)
theorem szByteS_ok {n : Nat} (_ : maxN ≤ n) {xs : List T} (h : LW (tiOf tab) 5 xs) {left : Int} (g1 : 0 ≤ left) (g2 : left ≤ 1048576) : F118 n (.l xs) (.i left) = some [.i (sub left (T.l xs).sz)] :=
  szFlat_ok (xs := xs) h.len (szL_zero fun x hx => by
    obtain ⟨a0, rfl⟩ := shapeByte h hx
    rfl) g1 g2
theorem eqByteS_ok {n : Nat} (hn : maxN ≤ n) {τ : T} (h : τ.sz < maxN) : F131 n τ τ = some [.b true] :=
  eqT_ok (xs := τ.L) (ne := fun a b => a.I != b.I) hn (by have := sz_L τ; have := len_sz τ.L; omega) (fun x => by simp)
theorem toData_ok {n : Nat} (hn : maxN ≤ n) {a0 : Int} {a1 : Int} {a2 : Int} {a3 : Bool} {a4 : Bool} {a5 : Bool} {a6 : List T} (h6 : LW (tiOf tab) 5 a6) (hz : (T.r [.i a0, .i a1, .i a2, .b a3, .b a4, .b a5, .l a6]).sz ≤ 1048576) : F152 n (.i a0) (.i a1) (.i a2) (.b a3) (.b a4) (.b a5) (.l a6) = some [.i a0, .i a1, .i a2, .b a3, .b a4, .b a5, .l a6] := by
  simp only [T.sz, T.szL] at hz
  unfold F152
  simp only [toByteS_ok hn  h6 (by first | omega | (simp only [T.sz, T.szL]; omega)), Option.bind_some, List.headD_cons, List.tail_cons, I_i, B_b, L_l]
theorem szData_ok {n : Nat} (hn : maxN ≤ n) {a0 : Int} {a1 : Int} {a2 : Int} {a3 : Bool} {a4 : Bool} {a5 : Bool} {a6 : List T} (h6 : LW (tiOf tab) 5 a6) {left : Int} (g1 : 0 ≤ left) (g2 : left ≤ 1048576) : F151 n (.i a0) (.i a1) (.i a2) (.b a3) (.b a4) (.b a5) (.l a6) (.i left) = some [.i (sub left (T.r [.i a0, .i a1, .i a2, .b a3, .b a4, .b a5, .l a6]).sz)] := by
  have e : (T.r [.i a0, .i a1, .i a2, .b a3, .b a4, .b a5, .l a6]).sz = (T.l a6).sz := by simp only [T.sz, T.szL] <;> omega
  rw [e]
  unfold F151
  rw [szByteS_ok hn h6 (left := left) (by omega) (by omega)]
  simp only [Option.bind_some, List.headD_cons, I_i]
  exact szEnd
theorem eqData_ok {n : Nat} (hn : maxN ≤ n) {x0 x1 x2 x3 x4 x5 x6 : T} (h6 : x6.sz < maxN) : F154 n x0 x1 x2 x3 x4 x5 x6 x0 x1 x2 x3 x4 x5 x6 = some [.b true] := by
  unfold F154
  simp only [eqByteS_ok hn h6, bne_self_eq_false, cond_false, beq_self_eq_true, Bool.not_true, Option.bind_some, List.headD_cons, List.tail_cons, B_b]
theorem shapeData {xs : List T} (h : LW (tiOf tab) 200 xs) {x : T} (hx : x ∈ xs) : ∃ a0 a1 a2 a3 a4 a5 a6, x = .r [.i a0, .i a1, .i a2, .b a3, .b a4, .b a5, .l a6] ∧ LW (tiOf tab) 5 a6 := by
  obtain ⟨f, rfl, hf⟩ := h.2 x hx
  obtain ⟨a0, e0, _, _⟩ := WL.int_inv (ti := tiOf tab) (k := .i64) (hf 0 (by decide))
  obtain ⟨a1, e1, _, _⟩ := WL.int_inv (ti := tiOf tab) (k := .i64) (hf 1 (by decide))
  obtain ⟨a2, e2, _, _⟩ := WL.int_inv (ti := tiOf tab) (k := .i64) (hf 2 (by decide))
  obtain ⟨a3, e3⟩ := WL.bool_inv (ti := tiOf tab) (hf 3 (by decide))
  obtain ⟨a4, e4⟩ := WL.bool_inv (ti := tiOf tab) (hf 4 (by decide))
  obtain ⟨a5, e5⟩ := WL.bool_inv (ti := tiOf tab) (hf 5 (by decide))
  obtain ⟨a6, e6, h6⟩ := WL.slice_inv (ti := tiOf tab) (e := 5) (hf 6 (by decide))
  refine ⟨a0, a1, a2, a3, a4, a5, a6, ?_, h6⟩
  show T.r [f 0, f 1, f 2, f 3, f 4, f 5, f 6] = _
  rw [e0, e1, e2, e3, e4, e5, e6]
theorem toDataS_ok {n : Nat} (hn : maxN ≤ n) {xs : List T} (h : LW (tiOf tab) 200 xs) (hz : (T.l xs).sz ≤ 1048576) : F75 n (.l xs) = some [.l xs] :=
  toS_ok (xs := xs) (e := 142) (Fe := fun x => F152 n (x.F 0) (x.F 1) (x.F 2) (x.F 3) (x.F 4) (x.F 5) (x.F 6)) (J := fun r => .r [r.headD (.i 0), r.tail.headD (.i 0), r.tail.tail.headD (.i 0), r.tail.tail.tail.headD (.i 0), r.tail.tail.tail.tail.headD (.i 0), r.tail.tail.tail.tail.tail.headD (.i 0), r.tail.tail.tail.tail.tail.tail.headD (.i 0)]) (by_ := 56) (z := .r [.i 0, .i 0, .i 0, .b false, .b false, .b false, .l []]) hn (by have := len_sz xs; simp only [limB]; omega) h.len (fun x hx => by
    obtain ⟨a0, a1, a2, a3, a4, a5, a6, rfl, h6⟩ := shapeData h hx
    have := sz_mem hx
    exact ⟨_, toData_ok hn h6 (by omega), rfl⟩)
theorem szDataS_ok {n : Nat} (hn : maxN ≤ n) {xs : List T} (h : LW (tiOf tab) 200 xs) {left : Int} (g1 : 0 ≤ left) (g2 : left ≤ 1048576) : F72 n (.l xs) (.i left) = some [.i (sub left (T.l xs).sz)] :=
  szS_ok (xs := xs) (Fe := fun x y => F151 n (x.F 0) (x.F 1) (x.F 2) (x.F 3) (x.F 4) (x.F 5) (x.F 6) y) hn h.len (fun x hx left g1 g2 => by
    obtain ⟨a0, a1, a2, a3, a4, a5, a6, rfl, h6⟩ := shapeData h hx
    exact szData_ok hn h6 g1 g2) g1 g2
theorem eqDataS_ok {n : Nat} (hn : maxN ≤ n) {τ : T} (h : τ.sz < maxN) : F78 n τ τ = some [.b true] :=
  eqS_ok (xs := τ.L) (Fe := fun x y => F154 n (x.F 0) (x.F 1) (x.F 2) (x.F 3) (x.F 4) (x.F 5) (x.F 6) (y.F 0) (y.F 1) (y.F 2) (y.F 3) (y.F 4) (y.F 5) (y.F 6)) hn (by have := sz_L τ; have := len_sz τ.L; omega) (fun x hx => eqData_ok hn (by have := sz_F x 6; have := sz_mem hx; have := sz_L τ; omega))
theorem toRecv_ok {n : Nat} (hn : maxN ≤ n) {a0 : Int} {a1 : List T} {a2 : List T} {a3 : List T} (h1 : LW (tiOf tab) 2 a1) (h2 : LW (tiOf tab) 200 a2) (h3 : LW (tiOf tab) 2 a3) (hz : (T.r [.i a0, .l a1, .l a2, .l a3]).sz ≤ 1048576) : F13 n (.i a0) (.l a1) (.l a2) (.l a3) = some [.i a0, .l a1, .l a2, .l a3] := by
  simp only [T.sz, T.szL] at hz
  unfold F13
  simp only [toInt64S_ok hn  h1 (by first | omega | (simp only [T.sz, T.szL]; omega)), toDataS_ok hn  h2 (by first | omega | (simp only [T.sz, T.szL]; omega)), toInt64S_ok hn  h3 (by first | omega | (simp only [T.sz, T.szL]; omega)), Option.bind_some, List.headD_cons, List.tail_cons, I_i, B_b, L_l]
theorem szRecv_ok {n : Nat} (hn : maxN ≤ n) {a0 : Int} {a1 : List T} {a2 : List T} {a3 : List T} (h1 : LW (tiOf tab) 2 a1) (h2 : LW (tiOf tab) 200 a2) (h3 : LW (tiOf tab) 2 a3) {left : Int} (g1 : 0 ≤ left) (g2 : left ≤ 1048576) : F11 n (.i a0) (.l a1) (.l a2) (.l a3) (.i left) = some [.i (sub left (T.r [.i a0, .l a1, .l a2, .l a3]).sz)] := by
  have e : (T.r [.i a0, .l a1, .l a2, .l a3]).sz = ((T.l a1).sz + ((T.l a2).sz + (T.l a3).sz)) := by simp only [T.sz, T.szL] <;> omega
  rw [e]
  unfold F11
  rw [szInt64S_ok hn h1 (left := left) (by omega) (by omega)]
  simp only [Option.bind_some, List.headD_cons, I_i]
  refine szThen fun g => ?_
  rw [sub_pos g]
  rw [szDataS_ok hn h2 (left := left - ((T.l a1).sz : Int)) (by omega) (by omega)]
  simp only [Option.bind_some, List.headD_cons, I_i]
  refine szThen fun g => ?_
  rw [sub_pos g]
  rw [szInt64S_ok hn h3 (left := left - ((T.l a1).sz : Int) - ((T.l a2).sz : Int)) (by omega) (by omega)]
  simp only [Option.bind_some, List.headD_cons, I_i]
  exact szEnd
theorem eqRecv_ok {n : Nat} (hn : maxN ≤ n) {x0 x1 x2 x3 : T} (h1 : x1.sz < maxN) (h2 : x2.sz < maxN) (h3 : x3.sz < maxN) : F15 n x0 x1 x2 x3 x0 x1 x2 x3 = some [.b true] := by
  unfold F15
  simp only [eqInt64S_ok hn h1, eqDataS_ok hn h2, eqInt64S_ok hn h3, bne_self_eq_false, cond_false, beq_self_eq_true, Bool.not_true, Option.bind_some, List.headD_cons, List.tail_cons, B_b]
theorem implBytes {n : Nat} (hn : maxN ≤ n) {xs ys : List T} (hm : xs.length < maxN) : F162 n (.l xs) (.l ys) = some [.b (allNe (fun a b => a.I != b.I) xs ys)] :=
  loop_pairs (xs := xs) (ys := ys) (ex := [fun u1 => some [T.b ((u1.getD 0 (.i 0)).B)], fun u2 => some [T.b true]]) (f := fun k => [.l xs, .l ys, .i (xs.length : Int), .i k]) (ne := fun a b => a.I != b.I) hn hm (fun k self => rfl)
def neData (x y : T) : Bool := !(((x.F 0).I == (y.F 0).I) && (((x.F 1).I == (y.F 1).I) && (((x.F 2).I == (y.F 2).I) && (((x.F 3).B == (y.F 3).B) && (((x.F 4).B == (y.F 4).B) && (((x.F 5).B == (y.F 5).B) && allNe (fun a b => a.I != b.I) (x.F 6).L (y.F 6).L))))))

theorem specData {n : Nat} {a0 a1 a2 b0 b1 b2 : Int} {a3 a4 a5 b3 b4 b5 : Bool} {a6 b6 : List T} (h : LW (tiOf tab) 5 a6) (k : LW (tiOf tab) 5 b6) :
    F92 n (.r [.i a0, .i a1, .i a2, .b a3, .b a4, .b a5, .l a6]) (.r [.i b0, .i b1, .i b2, .b b3, .b b4, .b b5, .l b6]) = some [.b (!neData (.r [.i a0, .i a1, .i a2, .b a3, .b a4, .b a5, .l a6]) (.r [.i b0, .i b1, .i b2, .b b3, .b b4, .b b5, .l b6]))] := by
  unfold F92
  simp only [neData, F_r, List.getD_cons_zero, List.getD_cons_succ, I_i, B_b, L_l, bytes_eq (h.byte (by decide)) (k.byte (by decide)), Bool.not_not]
  cases a0 == b0 with
  | false => rfl
  | true =>
    cases a1 == b1 with
    | false => rfl
    | true =>
      cases a2 == b2 with
      | false => rfl
      | true => cases a3 == b3 <;> cases a4 == b4 <;> cases a5 == b5 <;> rfl
theorem implData {n : Nat} (hn : maxN ≤ n) {a0 a1 a2 b0 b1 b2 : Int} {a3 a4 a5 b3 b4 b5 : Bool} {a6 b6 : List T} (h : a6.length < maxN) :
    F96 n (.i a0) (.i a1) (.i a2) (.b a3) (.b a4) (.b a5) (.l a6) (.i b0) (.i b1) (.i b2) (.b b3) (.b b4) (.b b5) (.l b6) = some [.b (!neData (.r [.i a0, .i a1, .i a2, .b a3, .b a4, .b a5, .l a6]) (.r [.i b0, .i b1, .i b2, .b b3, .b b4, .b b5, .l b6]))] := by
  unfold F96
  simp only [implBytes hn h, neData, F_r, List.getD_cons_zero, List.getD_cons_succ, I_i, B_b, L_l, Bool.not_not, Option.bind_some, List.headD_cons]
  cases a0 == b0 with
  | false => rfl
  | true =>
    cases a1 == b1 with
    | false => rfl
    | true =>
      cases a2 == b2 with
      | false => rfl
      | true => cases a3 == b3 <;> cases a4 == b4 <;> cases a5 == b5 <;> rfl

theorem specDatas {n : Nat} (hn : maxN ≤ n) {xs ys : List T} (hx : LW (tiOf tab) 200 xs) (hy : LW (tiOf tab) 200 ys) : F74 n (.l xs) (.l ys) = some [.b (allNe neData xs ys)] :=
  have hlen : xs.length < 281474976710656 := hx.len
  loop_same (xs := xs) (ys := ys) (ex := [fun u1 => some [T.b ((u1.getD 0 (.i 0)).B)], fun u2 => some [T.b true]]) (f := fun k => [.l xs, .l ys, .i k]) (ne := neData) hn hx.len (fun h i hi self => by
    obtain ⟨a0, a1, a2, a3, a4, a5, a6, e1, w1⟩ := shapeData hx (x := xs.getD i (.i 0)) (by simp [hi])
    obtain ⟨b0, b1, b2, b3, b4, b5, b6, e2, w2⟩ := shapeData hy (x := ys.getD i (.i 0)) (by simp [← h, hi])
    have hi0 : decide ((i : Int) < (xs.length : Int)) = true := decide_eq_true (by omega)
    have hi1 : 0 ≤ (i : Int) ∧ (i : Int) < (xs.length : Int) := by omega
    have hi2 : 0 ≤ (i : Int) ∧ (i : Int) < (ys.length : Int) := by omega
    simp only [L74_74_4, G74_74_4, List.getD_cons_zero, List.getD_cons_succ, I_i, B_b, L_l, at_nat, e1, e2, hi0, if_pos hi1, if_pos hi2, wrap64 (x := (i : Int) + 1) (by omega) (by omega), specData w1 w2, Option.bind_some, List.headD_cons, Bool.not_not]
    rfl)
    (fun h self => by
      simp only [L74_74_4, G74_74_4, List.getD_cons_zero, List.getD_cons_succ, I_i, L_l]
      rw [decide_eq_false (by omega), cond_false]
      rfl)
theorem implDatas {n : Nat} (hn : maxN ≤ n) {xs ys : List T} (hx : LW (tiOf tab) 200 xs) (hy : LW (tiOf tab) 200 ys) : F77 n (.l xs) (.l ys) = some [.b (allNe neData xs ys)] :=
  have hlen : xs.length < 281474976710656 := hx.len
  loop_same (xs := xs) (ys := ys) (ex := [fun u1 => some [T.b ((u1.getD 0 (.i 0)).B)], fun u2 => some [T.b true]]) (f := fun k => [.l ys, .l xs, .i (xs.length : Int), .i k, .l xs, .l ys, .b false, .l xs, .l ys]) (ne := neData) hn hx.len (fun h i hi self => by
    obtain ⟨a0, a1, a2, a3, a4, a5, a6, e1, w1⟩ := shapeData hx (x := xs.getD i (.i 0)) (by simp [hi])
    obtain ⟨b0, b1, b2, b3, b4, b5, b6, e2, w2⟩ := shapeData hy (x := ys.getD i (.i 0)) (by simp [← h, hi])
    have hi0 : decide ((i : Int) < (xs.length : Int)) = true := decide_eq_true (by omega)
    have hi1 : 0 ≤ (i : Int) ∧ (i : Int) < (xs.length : Int) := by omega
    have hi2 : 0 ≤ (i : Int) ∧ (i : Int) < (ys.length : Int) := by omega
    simp only [L77_153_4, G77_153_4, List.getD_cons_zero, List.getD_cons_succ, I_i, B_b, L_l, at_nat, e1, e2, F_r, hi0, if_pos hi1, if_pos hi2, wrap64 (x := (i : Int) + 1) (by omega) (by omega), implData hn w1.len, Option.bind_some, List.headD_cons, Bool.not_not]
    rfl)
    (fun h self => by
      simp only [L77_153_4, G77_153_4, List.getD_cons_zero, List.getD_cons_succ, I_i, L_l]
      rw [decide_eq_false (by omega), cond_false]
      rfl)

theorem specInts {n : Nat} (hn : maxN ≤ n) {xs ys : List T} (hm : xs.length < maxN) : F73 n (.l xs) (.l ys) = some [.b (allNe (fun a b => a.I != b.I) xs ys)] :=
  loop_pairs (xs := xs) (ys := ys) (ex := [fun u1 => some [T.b ((u1.getD 0 (.i 0)).B)], fun u2 => some [T.b true]]) (f := fun k => [.l xs, .l ys, .i k]) (ne := fun a b => a.I != b.I) hn hm (fun k self => rfl)
theorem implInts {n : Nat} (hn : maxN ≤ n) {xs ys : List T} (hm : xs.length < maxN) : F76 n (.l xs) (.l ys) = some [.b (allNe (fun a b => a.I != b.I) xs ys)] :=
  loop_pairs (xs := xs) (ys := ys) (ex := [fun u1 => some [T.b ((u1.getD 0 (.i 0)).B)], fun u2 => some [T.b true]]) (f := fun k => [.l xs, .l ys, .i (xs.length : Int), .i k]) (ne := fun a b => a.I != b.I) hn hm (fun k self => rfl)
theorem core_FnExactSameRecvs {n : Nat} (hn : maxN ≤ n) {a0 a4 : Int} {a1 a3 a5 a7 : List T} {a2 a6 : List T} (h1 : LW (tiOf tab) 2 a1) (h2 : LW (tiOf tab) 200 a2) (h3 : LW (tiOf tab) 2 a3) (_ : LW (tiOf tab) 2 a5) (h6 : LW (tiOf tab) 200 a6) (_ : LW (tiOf tab) 2 a7)
    (_ : (T.r [.i a0, .l a1, .l a2, .l a3]).sz ≤ 1048576) (_ : (T.r [.i a4, .l a5, .l a6, .l a7]).sz ≤ 1048576) :
    ∃ c : Bool, F12 n (.i a0) (.l a1) (.l a2) (.l a3) (.i a4) (.l a5) (.l a6) (.l a7) = some [.b c] ∧ F14 n (.i a0) (.l a1) (.l a2) (.l a3) (.i a4) (.l a5) (.l a6) (.l a7) = some [.b c] := by
  unfold F12 F14
  simp only [specInts hn h1.len, specInts hn h3.len, implInts hn h1.len, implInts hn h3.len, specDatas hn h2 h6, implDatas hn h2 h6, I_i, B_b, Option.bind_some, List.headD_cons]
  cases a0 == a4 with
  | false => exact ⟨false, rfl, rfl⟩
  | true =>
    cases allNe (fun a b => a.I != b.I) a1 a5 with
    | false => exact ⟨false, rfl, rfl⟩
    | true =>
      cases allNe neData a2 a6 with
      | false => exact ⟨false, rfl, rfl⟩
      | true => exact ⟨_, rfl, rfl⟩
theorem law_FnExactSameRecvs : ∀ τs, WLs (tiOf tab) (flatLs (psOf (tiOf tab) [25, 25])) τs → ∃ n, M3 n τs = some [.b true] := by
  intro τs h
  replace h : WLs (tiOf tab) [.int .i64, .slice 2, .slice 200, .slice 2, .int .i64, .slice 2, .slice 200, .slice 2] τs := h
  obtain ⟨t0, _, rfl, w0, h⟩ := h.cons_inv
  obtain ⟨t1, _, rfl, w1, h⟩ := h.cons_inv
  obtain ⟨t2, _, rfl, w2, h⟩ := h.cons_inv
  obtain ⟨t3, _, rfl, w3, h⟩ := h.cons_inv
  obtain ⟨t4, _, rfl, w4, h⟩ := h.cons_inv
  obtain ⟨t5, _, rfl, w5, h⟩ := h.cons_inv
  obtain ⟨t6, _, rfl, w6, h⟩ := h.cons_inv
  obtain ⟨t7, _, rfl, w7, h⟩ := h.cons_inv
  cases h.nil_inv
  obtain ⟨a0, rfl, h0, k0⟩ := w0.int_inv
  obtain ⟨a1, rfl, h1⟩ := w1.slice_inv
  obtain ⟨a2, rfl, h2⟩ := w2.slice_inv
  obtain ⟨a3, rfl, h3⟩ := w3.slice_inv
  obtain ⟨a4, rfl, h4, k4⟩ := w4.int_inv
  obtain ⟨a5, rfl, h5⟩ := w5.slice_inv
  obtain ⟨a6, rfl, h6⟩ := w6.slice_inv
  obtain ⟨a7, rfl, h7⟩ := w7.slice_inv
  refine ⟨maxN, ?_⟩
  have hn := Nat.le_refl maxN
  show F3 maxN _ _ _ _ _ _ _ _ = _
  unfold F3
  rw [szRecv_ok hn h1 h2 h3 (left := 1048576) (by omega) (by omega)]
  simp only [Option.bind_some, List.headD_cons, I_i, sub_dec]
  by_cases g1 : (1048576 : Int) < ((T.r [.i a0, .l a1, .l a2, .l a3]).sz : Int)
  · rw [decide_eq_true g1]; rfl
  rw [decide_eq_false g1, cond_false, sub_pos g1]
  rw [szRecv_ok hn h5 h6 h7 (left := 1048576 - ((T.r [.i a0, .l a1, .l a2, .l a3]).sz : Int)) (by omega) (by omega)]
  simp only [Option.bind_some, List.headD_cons, I_i, sub_dec]
  by_cases g2 : 1048576 - ((T.r [.i a0, .l a1, .l a2, .l a3]).sz : Int) < ((T.r [.i a4, .l a5, .l a6, .l a7]).sz : Int)
  · rw [decide_eq_true g2]; rfl
  rw [decide_eq_false g2, cond_false]
  obtain ⟨c0, hs, hi⟩ := core_FnExactSameRecvs hn h1 h2 h3 h5 h6 h7 (a0 := a0) (a4 := a4) (by omega) (by omega)
  simp only [toRecv_ok hn (a0 := a0) h1 h2 h3 (by omega), eqRecv_ok (n := maxN) hn (x1 := T.l a1) (by simp only [T.sz, T.szL] at *; unfold maxN; omega) (x2 := T.l a2) (by simp only [T.sz, T.szL] at *; unfold maxN; omega) (x3 := T.l a3) (by simp only [T.sz, T.szL] at *; unfold maxN; omega), toRecv_ok hn (a0 := a4) h5 h6 h7 (by omega), eqRecv_ok (n := maxN) hn (x1 := T.l a5) (by simp only [T.sz, T.szL] at *; unfold maxN; omega) (x2 := T.l a6) (by simp only [T.sz, T.szL] at *; unfold maxN; omega) (x3 := T.l a7) (by simp only [T.sz, T.szL] at *; unfold maxN; omega), hs, hi, Option.bind_some, List.headD_cons, List.tail_cons, I_i, B_b, L_l, bne_self_eq_false, beq_self_eq_true, Bool.not_true, cond_false]
end Go.KX.Sb
namespace Go.Proofs.Ytpkeanlcmjbgnab
open Go.KX Go.KX.Sb
set_option maxRecDepth 100000 in
theorem FnExactSameRecvs_lifted (os : Os) (started : os.Started) (H : Type) (enc : TypeId × Value → H) :
    ReturnsInHanded {} Try.checked os 3 .any (Rows.fnExactSameRecvsSpec.pre6 enc Try.prog Try.f3 Rows.fnExactSameRecvsRow.domain false) (Rows.fnExactSameRecvsSpec.post enc Try.prog Try.f3 false true false false) :=
  law_lifted (C := Try.checked) (ti := tiOf tab) (all := [2, 4, 5, 22, 23, 25, 68, 200]) (ts := [25, 25]) tabOk (by kernel_rfl) (by kernel_rfl) (by kernel_rfl : ownKnob Try.prog.godebug = none) started (by kernel_rfl) Try.func3
    (ChangeSpec.witness6 (enc := enc) (C := Try.checked) false ⟨#[], #[.agg #[.int .i64 0, .slice none 0 0, .slice none 0 0, .slice none 0 0], .agg #[.int .i64 0, .slice none 0 0, .slice none 0 0, .slice none 0 0]], []⟩ 8 (by kernel_rfl) (by kernel_rfl) (by kernel_rfl) (by kernel_rfl))
    (by kernel_rfl : laidOutB Try.prog = true) rfl (tb := 4) rfl (by kernel_rfl) (by kernel_rfl) rfl (fun ds hl => by match ds, hl with | [_, _], _ => rfl) (F := M3) (fun n => eo3 n) law_FnExactSameRecvs

theorem FnExactSameRecvs_holds : Rows.FnExactSameRecvsSaid :=
  OpenClaim.holds_of_wide 3 Try.f3 rfl rfl rfl rfl rfl rfl rfl ⟨rfl, rfl, rfl, rfl, rfl⟩ rfl rfl rfl rfl rfl (by kernel_rfl) Try.func3 (by kernel_rfl)
    (of_decide_eq_true (by kernel_rfl)) (by unfold Func.isWrapper; first | (rw [if_pos (by decide +kernel)]; kernel_rfl) | (rw [if_neg (by decide +kernel)]; exact ⟨rfl, rfl⟩))
    (fun os started H enc _ => FnExactSameRecvs_lifted os started H enc)
end Go.Proofs.Ytpkeanlcmjbgnab
