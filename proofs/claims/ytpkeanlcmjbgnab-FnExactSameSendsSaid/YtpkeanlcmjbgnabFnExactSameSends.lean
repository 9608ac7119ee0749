/- laws.FnExactSameSends: for every input the law returns true, and every argument reads behind the call as it read before. No further condition. -/
import Derived.Test.YtpkeanlcmjbgnabFn
import Derived.Test.YtpkeanlcmjbgnabRows
import Derived.KernelRfl
set_option linter.unusedVariables false
set_option linter.unusedSimpArgs false
namespace Go.KX.Sb
open Go
theorem shapeInt64 {xs : List T} (h : LW (tiOf tab) 2 xs) {x : T} (hx : x ∈ xs) : ∃ a0, x = .i a0 := by
  obtain ⟨f, rfl, hf⟩ := h.2 x hx
  obtain ⟨a0, e0, _, _⟩ := WL.int_inv (ti := tiOf tab) (k := .i64) (hf 0 (by decide))
  refine ⟨a0, ?_⟩
  show f 0 = _
  rw [e0]
theorem toInt64S_ok {n : Nat} (hn : maxN ≤ n) {xs : List T} (h : LW (tiOf tab) 2 xs) (hz : (T.l xs).sz ≤ 1048576) : F17 n (.l xs) = some [.l xs] :=
  toS_ok (xs := xs) (e := 2) (Fe := fun x => some [x]) (J := fun r => r.headD (.i 0)) (by_ := 8) (z := .i 0) hn (by have := len_sz xs; simp only [limB]; omega) h.len (fun x _ => ⟨_, rfl, rfl⟩)
theorem szInt64S_ok {n : Nat} (_ : maxN ≤ n) {xs : List T} (h : LW (tiOf tab) 2 xs) {left : Int} (g1 : 0 ≤ left) (g2 : left ≤ 1048576) : F71 n (.l xs) (.i left) = some [.i (sub left (T.l xs).sz)] :=
  szFlat_ok (xs := xs) h.len (szL_zero fun x hx => by
    obtain ⟨a0, rfl⟩ := shapeInt64 h hx
    rfl) g1 g2
theorem eqInt64S_ok {n : Nat} (hn : maxN ≤ n) {τ : T} (h : τ.sz < maxN) : F20 n τ τ = some [.b true] :=
  eqT_ok (xs := τ.L) (ne := fun a b => a.I != b.I) hn (by have := sz_L τ; have := len_sz τ.L; omega) (fun x => by simp)
theorem shapeByte {xs : List T} (h : LW (tiOf tab) 5 xs) {x : T} (hx : x ∈ xs) : ∃ a0, x = .i a0 := by
  obtain ⟨f, rfl, hf⟩ := h.2 x hx
  obtain ⟨a0, e0, _, _⟩ := WL.int_inv (ti := tiOf tab) (k := .u8) (hf 0 (by decide))
  refine ⟨a0, ?_⟩
  show f 0 = _
  rw [e0]
theorem toByteS_ok {n : Nat} (hn : maxN ≤ n) {xs : List T} (h : LW (tiOf tab) 5 xs) (hz : (T.l xs).sz ≤ 1048576) : F124 n (.l xs) = some [.l xs] :=
  toS_ok (xs := xs) (e := 5) (Fe := fun x => some [x]) (J := fun r => r.headD (.i 0)) (by_ := 1) (z := .i 0) hn (by have := len_sz xs; simp only [limB]; omega) h.len (fun x _ => ⟨_, rfl, rfl⟩)
theorem szByteS_ok {n : Nat} (_ : maxN ≤ n) {xs : List T} (h : LW (tiOf tab) 5 xs) {left : Int} (g1 : 0 ≤ left) (g2 : left ≤ 1048576) : F118 n (.l xs) (.i left) = some [.i (sub left (T.l xs).sz)] :=
  szFlat_ok (xs := xs) h.len (szL_zero fun x hx => by
    obtain ⟨a0, rfl⟩ := shapeByte h hx
    rfl) g1 g2
theorem eqByteS_ok {n : Nat} (hn : maxN ≤ n) {τ : T} (h : τ.sz < maxN) : F131 n τ τ = some [.b true] :=
  eqT_ok (xs := τ.L) (ne := fun a b => a.I != b.I) hn (by have := sz_L τ; have := len_sz τ.L; omega) (fun x => by simp)
theorem toData_ok {n : Nat} (hn : maxN ≤ n) {a0 : Int} {a1 : Int} {a2 : Int} {a3 : Bool} {a4 : Bool} {a5 : Bool} {a6 : List T} (h6 : LW (tiOf tab) 5 a6) (hz : (T.r [.i a0, .i a1, .i a2, .b a3, .b a4, .b a5, .l a6]).sz ≤ 1048576) : F152 n (.i a0) (.i a1) (.i a2) (.b a3) (.b a4) (.b a5) (.l a6) = some [.i a0, .i a1, .i a2, .b a3, .b a4, .b a5, .l a6] := by
  simp only [T.sz, T.szL] at hz
  unfold F152
  simp only [toByteS_ok hn  h6 (by first | omega | (simp only [T.sz, T.szL]; omega)), Option.bind_some, List.headD_cons, List.tail_cons, I_i, B_b, L_l]
theorem szData_ok {n : Nat} (hn : maxN ≤ n) {a0 : Int} {a1 : Int} {a2 : Int} {a3 : Bool} {a4 : Bool} {a5 : Bool} {a6 : List T} (h6 : LW (tiOf tab) 5 a6) {left : Int} (g1 : 0 ≤ left) (g2 : left ≤ 1048576) : F151 n (.i a0) (.i a1) (.i a2) (.b a3) (.b a4) (.b a5) (.l a6) (.i left) = some [.i (sub left (T.r [.i a0, .i a1, .i a2, .b a3, .b a4, .b a5, .l a6]).sz)] := by
  have e : (T.r [.i a0, .i a1, .i a2, .b a3, .b a4, .b a5, .l a6]).sz = (T.l a6).sz := by simp only [T.sz, T.szL] <;> omega
  rw [e]
  unfold F151
  rw [szByteS_ok hn h6 (left := left) (by omega) (by omega)]
  simp only [Option.bind_some, List.headD_cons, I_i]
  exact szEnd
theorem eqData_ok {n : Nat} (hn : maxN ≤ n) {x0 x1 x2 x3 x4 x5 x6 : T} (h6 : x6.sz < maxN) : F154 n x0 x1 x2 x3 x4 x5 x6 x0 x1 x2 x3 x4 x5 x6 = some [.b true] := by
  unfold F154
  simp only [eqByteS_ok hn h6, bne_self_eq_false, cond_false, beq_self_eq_true, Bool.not_true, Option.bind_some, List.headD_cons, List.tail_cons, B_b]
theorem toSendItem_ok {n : Nat} (hn : maxN ≤ n) {a0 : Int} {a1 : Int} {a2 : Int} {a3 : Bool} {a4 : Bool} {a5 : Bool} {a6 : List T} {a7 : Int} {a8 : Int} (h6 : LW (tiOf tab) 5 a6) (hz : (T.r [.i a0, .i a1, .i a2, .b a3, .b a4, .b a5, .l a6, .i a7, .i a8]).sz ≤ 1048576) : F161 n (.i a0) (.i a1) (.i a2) (.b a3) (.b a4) (.b a5) (.l a6) (.i a7) (.i a8) = some [.i a0, .i a1, .i a2, .b a3, .b a4, .b a5, .l a6, .i a7, .i a8] := by
  simp only [T.sz, T.szL] at hz
  unfold F161
  simp only [toData_ok hn (a0 := a0) (a1 := a1) (a2 := a2) (a3 := a3) (a4 := a4) (a5 := a5) h6 (by first | omega | (simp only [T.sz, T.szL]; omega)), Option.bind_some, List.headD_cons, List.tail_cons, I_i, B_b, L_l]
theorem szSendItem_ok {n : Nat} (hn : maxN ≤ n) {a0 : Int} {a1 : Int} {a2 : Int} {a3 : Bool} {a4 : Bool} {a5 : Bool} {a6 : List T} {a7 : Int} {a8 : Int} (h6 : LW (tiOf tab) 5 a6) {left : Int} (g1 : 0 ≤ left) (g2 : left ≤ 1048576) : F160 n (.i a0) (.i a1) (.i a2) (.b a3) (.b a4) (.b a5) (.l a6) (.i a7) (.i a8) (.i left) = some [.i (sub left (T.r [.i a0, .i a1, .i a2, .b a3, .b a4, .b a5, .l a6, .i a7, .i a8]).sz)] := by
  have e : (T.r [.i a0, .i a1, .i a2, .b a3, .b a4, .b a5, .l a6, .i a7, .i a8]).sz = (T.r [.i a0, .i a1, .i a2, .b a3, .b a4, .b a5, .l a6]).sz := by simp only [T.sz, T.szL] <;> omega
  rw [e]
  unfold F160
  rw [szData_ok hn h6 (left := left) (by omega) (by omega)]
  simp only [Option.bind_some, List.headD_cons, I_i]
  exact szEnd
theorem eqSendItem_ok {n : Nat} (hn : maxN ≤ n) {x0 x1 x2 x3 x4 x5 x6 x7 x8 : T} (h6 : x6.sz < maxN) : F163 n x0 x1 x2 x3 x4 x5 x6 x7 x8 x0 x1 x2 x3 x4 x5 x6 x7 x8 = some [.b true] := by
  unfold F163
  simp only [eqData_ok hn h6, bne_self_eq_false, cond_false, beq_self_eq_true, Bool.not_true, Option.bind_some, List.headD_cons, List.tail_cons, B_b]
theorem shapeSendItem {xs : List T} (h : LW (tiOf tab) 209 xs) {x : T} (hx : x ∈ xs) : ∃ a0 a1 a2 a3 a4 a5 a6 a7 a8, x = .r [.i a0, .i a1, .i a2, .b a3, .b a4, .b a5, .l a6, .i a7, .i a8] ∧ LW (tiOf tab) 5 a6 := by
  obtain ⟨f, rfl, hf⟩ := h.2 x hx
  obtain ⟨a0, e0, _, _⟩ := WL.int_inv (ti := tiOf tab) (k := .i64) (hf 0 (by decide))
  obtain ⟨a1, e1, _, _⟩ := WL.int_inv (ti := tiOf tab) (k := .i64) (hf 1 (by decide))
  obtain ⟨a2, e2, _, _⟩ := WL.int_inv (ti := tiOf tab) (k := .i64) (hf 2 (by decide))
  obtain ⟨a3, e3⟩ := WL.bool_inv (ti := tiOf tab) (hf 3 (by decide))
  obtain ⟨a4, e4⟩ := WL.bool_inv (ti := tiOf tab) (hf 4 (by decide))
  obtain ⟨a5, e5⟩ := WL.bool_inv (ti := tiOf tab) (hf 5 (by decide))
  obtain ⟨a6, e6, h6⟩ := WL.slice_inv (ti := tiOf tab) (e := 5) (hf 6 (by decide))
  obtain ⟨a7, e7, _, _⟩ := WL.int_inv (ti := tiOf tab) (k := .i64) (hf 7 (by decide))
  obtain ⟨a8, e8, _, _⟩ := WL.int_inv (ti := tiOf tab) (k := .i64) (hf 8 (by decide))
  refine ⟨a0, a1, a2, a3, a4, a5, a6, a7, a8, ?_, h6⟩
  show T.r [f 0, f 1, f 2, f 3, f 4, f 5, f 6, f 7, f 8] = _
  rw [e0, e1, e2, e3, e4, e5, e6, e7, e8]
theorem toSendItemS_ok {n : Nat} (hn : maxN ≤ n) {xs : List T} (h : LW (tiOf tab) 209 xs) (hz : (T.l xs).sz ≤ 1048576) : F93 n (.l xs) = some [.l xs] :=
  toS_ok (xs := xs) (e := 144) (Fe := fun x => F161 n (x.F 0) (x.F 1) (x.F 2) (x.F 3) (x.F 4) (x.F 5) (x.F 6) (x.F 7) (x.F 8)) (J := fun r => .r [r.headD (.i 0), r.tail.headD (.i 0), r.tail.tail.headD (.i 0), r.tail.tail.tail.headD (.i 0), r.tail.tail.tail.tail.headD (.i 0), r.tail.tail.tail.tail.tail.headD (.i 0), r.tail.tail.tail.tail.tail.tail.headD (.i 0), r.tail.tail.tail.tail.tail.tail.tail.headD (.i 0), r.tail.tail.tail.tail.tail.tail.tail.tail.headD (.i 0)]) (by_ := 72) (z := .r [.i 0, .i 0, .i 0, .b false, .b false, .b false, .l [], .i 0, .i 0]) hn (by have := len_sz xs; simp only [limB]; omega) h.len (fun x hx => by
    obtain ⟨a0, a1, a2, a3, a4, a5, a6, a7, a8, rfl, h6⟩ := shapeSendItem h hx
    have := sz_mem hx
    exact ⟨_, toSendItem_ok hn h6 (by omega), rfl⟩)
theorem szSendItemS_ok {n : Nat} (hn : maxN ≤ n) {xs : List T} (h : LW (tiOf tab) 209 xs) {left : Int} (g1 : 0 ≤ left) (g2 : left ≤ 1048576) : F91 n (.l xs) (.i left) = some [.i (sub left (T.l xs).sz)] :=
  szS_ok (xs := xs) (Fe := fun x y => F160 n (x.F 0) (x.F 1) (x.F 2) (x.F 3) (x.F 4) (x.F 5) (x.F 6) (x.F 7) (x.F 8) y) hn h.len (fun x hx left g1 g2 => by
    obtain ⟨a0, a1, a2, a3, a4, a5, a6, a7, a8, rfl, h6⟩ := shapeSendItem h hx
    exact szSendItem_ok hn h6 g1 g2) g1 g2
theorem eqSendItemS_ok {n : Nat} (hn : maxN ≤ n) {τ : T} (h : τ.sz < maxN) : F97 n τ τ = some [.b true] :=
  eqS_ok (xs := τ.L) (Fe := fun x y => F163 n (x.F 0) (x.F 1) (x.F 2) (x.F 3) (x.F 4) (x.F 5) (x.F 6) (x.F 7) (x.F 8) (y.F 0) (y.F 1) (y.F 2) (y.F 3) (y.F 4) (y.F 5) (y.F 6) (y.F 7) (y.F 8)) hn (by have := sz_L τ; have := len_sz τ.L; omega) (fun x hx => eqSendItem_ok hn (by have := sz_F x 6; have := sz_mem hx; have := sz_L τ; omega))
theorem toSend_ok {n : Nat} (hn : maxN ≤ n) {a0 : Int} {a1 : Int} {a2 : List T} {a3 : List T} (h2 : LW (tiOf tab) 2 a2) (h3 : LW (tiOf tab) 209 a3) (hz : (T.r [.i a0, .i a1, .l a2, .l a3]).sz ≤ 1048576) : F35 n (.i a0) (.i a1) (.l a2) (.l a3) = some [.i a0, .i a1, .l a2, .l a3] := by
  simp only [T.sz, T.szL] at hz
  unfold F35
  simp only [toInt64S_ok hn  h2 (by first | omega | (simp only [T.sz, T.szL]; omega)), toSendItemS_ok hn  h3 (by first | omega | (simp only [T.sz, T.szL]; omega)), Option.bind_some, List.headD_cons, List.tail_cons, I_i, B_b, L_l]
theorem szSend_ok {n : Nat} (hn : maxN ≤ n) {a0 : Int} {a1 : Int} {a2 : List T} {a3 : List T} (h2 : LW (tiOf tab) 2 a2) (h3 : LW (tiOf tab) 209 a3) {left : Int} (g1 : 0 ≤ left) (g2 : left ≤ 1048576) : F33 n (.i a0) (.i a1) (.l a2) (.l a3) (.i left) = some [.i (sub left (T.r [.i a0, .i a1, .l a2, .l a3]).sz)] := by
  have e : (T.r [.i a0, .i a1, .l a2, .l a3]).sz = ((T.l a2).sz + (T.l a3).sz) := by simp only [T.sz, T.szL] <;> omega
  rw [e]
  unfold F33
  rw [szInt64S_ok hn h2 (left := left) (by omega) (by omega)]
  simp only [Option.bind_some, List.headD_cons, I_i]
  refine szThen fun g => ?_
  rw [sub_pos g]
  rw [szSendItemS_ok hn h3 (left := left - ((T.l a2).sz : Int)) (by omega) (by omega)]
  simp only [Option.bind_some, List.headD_cons, I_i]
  exact szEnd
theorem eqSend_ok {n : Nat} (hn : maxN ≤ n) {x0 x1 x2 x3 : T} (h2 : x2.sz < maxN) (h3 : x3.sz < maxN) : F37 n x0 x1 x2 x3 x0 x1 x2 x3 = some [.b true] := by
  unfold F37
  simp only [eqInt64S_ok hn h2, eqSendItemS_ok hn h3, bne_self_eq_false, cond_false, beq_self_eq_true, Bool.not_true, Option.bind_some, List.headD_cons, List.tail_cons, B_b]
theorem implBytes {n : Nat} (hn : maxN ≤ n) {xs ys : List T} (hm : xs.length < maxN) : F162 n (.l xs) (.l ys) = some [.b (allNe (fun a b => a.I != b.I) xs ys)] :=
  loop_pairs (xs := xs) (ys := ys) (ex := [fun u1 => some [T.b ((u1.getD 0 (.i 0)).B)], fun u2 => some [T.b true]]) (f := fun k => [.l xs, .l ys, .i (xs.length : Int), .i k]) (ne := fun a b => a.I != b.I) hn hm (fun k self => rfl)
def neData (x y : T) : Bool := !(((x.F 0).I == (y.F 0).I) && (((x.F 1).I == (y.F 1).I) && (((x.F 2).I == (y.F 2).I) && (((x.F 3).B == (y.F 3).B) && (((x.F 4).B == (y.F 4).B) && (((x.F 5).B == (y.F 5).B) && allNe (fun a b => a.I != b.I) (x.F 6).L (y.F 6).L))))))

theorem specData {n : Nat} {a0 a1 a2 b0 b1 b2 : Int} {a3 a4 a5 b3 b4 b5 : Bool} {a6 b6 : List T} (h : LW (tiOf tab) 5 a6) (k : LW (tiOf tab) 5 b6) :
    F92 n (.r [.i a0, .i a1, .i a2, .b a3, .b a4, .b a5, .l a6]) (.r [.i b0, .i b1, .i b2, .b b3, .b b4, .b b5, .l b6]) = some [.b (!neData (.r [.i a0, .i a1, .i a2, .b a3, .b a4, .b a5, .l a6]) (.r [.i b0, .i b1, .i b2, .b b3, .b b4, .b b5, .l b6]))] := by
  unfold F92
  simp only [neData, F_r, List.getD_cons_zero, List.getD_cons_succ, I_i, B_b, L_l, bytes_eq (h.byte (by decide)) (k.byte (by decide)), Bool.not_not]
  cases a0 == b0 with
  | false => rfl
  | true =>
    cases a1 == b1 with
    | false => rfl
    | true =>
      cases a2 == b2 with
      | false => rfl
      | true => cases a3 == b3 <;> cases a4 == b4 <;> cases a5 == b5 <;> rfl
theorem implData {n : Nat} (hn : maxN ≤ n) {a0 a1 a2 b0 b1 b2 : Int} {a3 a4 a5 b3 b4 b5 : Bool} {a6 b6 : List T} (h : a6.length < maxN) :
    F96 n (.i a0) (.i a1) (.i a2) (.b a3) (.b a4) (.b a5) (.l a6) (.i b0) (.i b1) (.i b2) (.b b3) (.b b4) (.b b5) (.l b6) = some [.b (!neData (.r [.i a0, .i a1, .i a2, .b a3, .b a4, .b a5, .l a6]) (.r [.i b0, .i b1, .i b2, .b b3, .b b4, .b b5, .l b6]))] := by
  unfold F96
  simp only [implBytes hn h, neData, F_r, List.getD_cons_zero, List.getD_cons_succ, I_i, B_b, L_l, Bool.not_not, Option.bind_some, List.headD_cons]
  cases a0 == b0 with
  | false => rfl
  | true =>
    cases a1 == b1 with
    | false => rfl
    | true =>
      cases a2 == b2 with
      | false => rfl
      | true => cases a3 == b3 <;> cases a4 == b4 <;> cases a5 == b5 <;> rfl

theorem specInts {n : Nat} (hn : maxN ≤ n) {xs ys : List T} (hm : xs.length < maxN) : F73 n (.l xs) (.l ys) = some [.b (allNe (fun a b => a.I != b.I) xs ys)] :=
  loop_pairs (xs := xs) (ys := ys) (ex := [fun u1 => some [T.b ((u1.getD 0 (.i 0)).B)], fun u2 => some [T.b true]]) (f := fun k => [.l xs, .l ys, .i k]) (ne := fun a b => a.I != b.I) hn hm (fun k self => rfl)
theorem implInts {n : Nat} (hn : maxN ≤ n) {xs ys : List T} (hm : xs.length < maxN) : F76 n (.l xs) (.l ys) = some [.b (allNe (fun a b => a.I != b.I) xs ys)] :=
  loop_pairs (xs := xs) (ys := ys) (ex := [fun u1 => some [T.b ((u1.getD 0 (.i 0)).B)], fun u2 => some [T.b true]]) (f := fun k => [.l xs, .l ys, .i (xs.length : Int), .i k]) (ne := fun a b => a.I != b.I) hn hm (fun k self => rfl)
def neItem (x y : T) : Bool := !((((x.F 7).I == (y.F 7).I) && ((x.F 8).I == (y.F 8).I)) && !neData x y)

theorem implItem {n : Nat} (hn : maxN ≤ n) {a0 a1 a2 a7 a8 b0 b1 b2 b7 b8 : Int} {a3 a4 a5 b3 b4 b5 : Bool} {a6 b6 : List T} (h : a6.length < maxN) :
    F95 n (.i a0) (.i a1) (.i a2) (.b a3) (.b a4) (.b a5) (.l a6) (.i a7) (.i a8) (.i b0) (.i b1) (.i b2) (.b b3) (.b b4) (.b b5) (.l b6) (.i b7) (.i b8) =
      some [.b (!neItem (.r [.i a0, .i a1, .i a2, .b a3, .b a4, .b a5, .l a6, .i a7, .i a8]) (.r [.i b0, .i b1, .i b2, .b b3, .b b4, .b b5, .l b6, .i b7, .i b8]))] := by
  unfold F95
  simp only [implData hn h, neItem, neData, F_r, List.getD_cons_zero, List.getD_cons_succ, I_i, B_b, L_l, Bool.not_not, Option.bind_some, List.headD_cons]
  cases a7 == b7 <;> cases a8 == b8 <;> rfl

theorem specItems {n : Nat} (hn : maxN ≤ n) {xs ys : List T} {p q p' q' : Int} {us vs : List T} (hx : LW (tiOf tab) 209 xs) (hy : LW (tiOf tab) 209 ys) :
    (bif ((xs.length : Int) != (ys.length : Int)) then (some [T.b false]) else (loopR (L34_34_4 n).G n [.i 0, .i p, .i q, .l us, .l xs, .i p', .i q', .l vs, .l ys] [fun u3 => some [.b ((u3.getD 0 (.i 0)).B)], fun u4 => some [.b true]])) = some [.b (allNe neItem xs ys)] :=
  have hlen : xs.length < 281474976710656 := hx.len
  loop_same (xs := xs) (ys := ys) (f := fun k => [.i k, .i p, .i q, .l us, .l xs, .i p', .i q', .l vs, .l ys]) (ne := neItem) hn hx.len (fun h i hi self => by
    obtain ⟨a0, a1, a2, a3, a4, a5, a6, a7, a8, e1, w1⟩ := shapeSendItem hx (x := xs.getD i (.i 0)) (getD_mem hi)
    obtain ⟨b0, b1, b2, b3, b4, b5, b6, b7, b8, e2, w2⟩ := shapeSendItem hy (x := ys.getD i (.i 0)) (getD_mem (by omega))
    have hi0 : decide ((i : Int) < (xs.length : Int)) = true := decide_eq_true (by omega)
    have hi1 : 0 ≤ (i : Int) ∧ (i : Int) < (xs.length : Int) := by omega
    have hi2 : 0 ≤ (i : Int) ∧ (i : Int) < (ys.length : Int) := by omega
    simp only [L34_34_4, G34_34_4, List.getD_cons_zero, List.getD_cons_succ, F_r, I_i, B_b, L_l, at_nat, e1, e2, hi0, if_pos hi1, if_pos hi2, wrap64 (x := (i : Int) + 1) (by omega) (by omega), specData w1 w2, neItem, neData, bne, Option.bind_some, List.headD_cons, Bool.not_not]
    generalize (a0 == b0 && (a1 == b1 && (a2 == b2 && (a3 == b3 && (a4 == b4 && (a5 == b5 && allNe (fun a b => !(a.I == b.I)) a6 b6)))))) = c
    cases c <;> cases a7 == b7 <;> cases a8 == b8 <;> rfl)
    (fun h self => by
      simp only [L34_34_4, G34_34_4, List.getD_cons_zero, List.getD_cons_succ, I_i, L_l]
      rw [decide_eq_false (by omega), cond_false]
      rfl)
theorem implItems {n : Nat} (hn : maxN ≤ n) {xs ys : List T} {p q p' q' : Int} {c1 c2 c3 : Bool} {us vs : List T} (hx : LW (tiOf tab) 209 xs) (hy : LW (tiOf tab) 209 ys) :
    (bif ((xs.length : Int) != (ys.length : Int)) then (some [T.b false]) else (loopR (L36_94_4 n).G n [.l ys, .l xs, .i (xs.length : Int), .i 0, .i p, .i q, .l us, .l xs, .i p', .i q', .l vs, .l ys, .b false, .i p, .i p', .b c1, .b true, .i q, .i q', .b c2, .b c2, .b true, .l us, .l vs, .b c3, .b c3, .b true, .l xs, .l ys, .i p, .i q, .l us, .l xs, .i p', .i q', .l vs, .l ys] [fun u3 => bif (u3.getD 23 (.i 0)).B then (some [.b ((u3.getD 0 (.i 0)).B)]) else (some [.b false]), fun u4 => bif (u4.getD 22 (.i 0)).B then (some [.b true]) else (some [.b false])])) = some [.b (allNe neItem xs ys)] :=
  have hlen : xs.length < 281474976710656 := hx.len
  loop_same (xs := xs) (ys := ys) (f := fun k => [.l ys, .l xs, .i (xs.length : Int), .i k, .i p, .i q, .l us, .l xs, .i p', .i q', .l vs, .l ys, .b false, .i p, .i p', .b c1, .b true, .i q, .i q', .b c2, .b c2, .b true, .l us, .l vs, .b c3, .b c3, .b true, .l xs, .l ys, .i p, .i q, .l us, .l xs, .i p', .i q', .l vs, .l ys]) (ne := neItem) hn hx.len (fun h i hi self => by
    obtain ⟨a0, a1, a2, a3, a4, a5, a6, a7, a8, e1, w1⟩ := shapeSendItem hx (x := xs.getD i (.i 0)) (getD_mem hi)
    obtain ⟨b0, b1, b2, b3, b4, b5, b6, b7, b8, e2, w2⟩ := shapeSendItem hy (x := ys.getD i (.i 0)) (getD_mem (by omega))
    have hi0 : decide ((i : Int) < (xs.length : Int)) = true := decide_eq_true (by omega)
    have hi1 : 0 ≤ (i : Int) ∧ (i : Int) < (xs.length : Int) := by omega
    have hi2 : 0 ≤ (i : Int) ∧ (i : Int) < (ys.length : Int) := by omega
    simp only [L36_94_4, G36_94_4, List.getD_cons_zero, List.getD_cons_succ, F_r, I_i, B_b, L_l, at_nat, e1, e2, hi0, if_pos hi1, if_pos hi2, wrap64 (x := (i : Int) + 1) (by omega) (by omega), implItem hn w1.len, Option.bind_some, List.headD_cons, Bool.not_not]
    cases neItem (.r [.i a0, .i a1, .i a2, .b a3, .b a4, .b a5, .l a6, .i a7, .i a8]) (.r [.i b0, .i b1, .i b2, .b b3, .b b4, .b b5, .l b6, .i b7, .i b8]) <;> rfl)
    (fun h self => by
      simp only [L36_94_4, G36_94_4, List.getD_cons_zero, List.getD_cons_succ, I_i, L_l]
      rw [decide_eq_false (by omega), cond_false]
      rfl)
theorem specSends {n : Nat} (hn : maxN ≤ n) {a0 a1 a4 a5 : Int} {a2 a3 a6 a7 : List T} (h2 : LW (tiOf tab) 2 a2) (h3 : LW (tiOf tab) 209 a3) (h7 : LW (tiOf tab) 209 a7) :
    F34 n (.i a0) (.i a1) (.l a2) (.l a3) (.i a4) (.i a5) (.l a6) (.l a7) = some [.b ((a0 == a4) && ((a1 == a5) && (allNe (fun a b => a.I != b.I) a2 a6 && allNe neItem a3 a7)))] := by
  unfold F34
  simp only [specInts hn h2.len, I_i, B_b, L_l, Option.bind_some, List.headD_cons, specItems hn h3 h7, bne]
  cases a0 == a4 with
  | false => rfl
  | true =>
    cases a1 == a5 with
    | false => rfl
    | true =>
      cases allNe (fun a b => !(a.I == b.I)) a2 a6 with
      | false => rfl
      | true =>
        simp only [Bool.not_true, cond_false, Bool.true_and]
        exact specItems hn h3 h7
theorem implSends {n : Nat} (hn : maxN ≤ n) {a0 a1 a4 a5 : Int} {a2 a3 a6 a7 : List T} (h2 : LW (tiOf tab) 2 a2) (h3 : LW (tiOf tab) 209 a3) (h7 : LW (tiOf tab) 209 a7) :
    F36 n (.i a0) (.i a1) (.l a2) (.l a3) (.i a4) (.i a5) (.l a6) (.l a7) = some [.b ((a0 == a4) && ((a1 == a5) && (allNe (fun a b => a.I != b.I) a2 a6 && allNe neItem a3 a7)))] := by
  unfold F36
  simp only [implInts hn h2.len, I_i, B_b, L_l, Option.bind_some, List.headD_cons]
  cases a0 == a4 with
  | false => rfl
  | true =>
    cases a1 == a5 with
    | false => rfl
    | true =>
      cases allNe (fun a b => a.I != b.I) a2 a6 with
      | false => rfl
      | true => exact implItems hn h3 h7
theorem core_FnExactSameSends {n : Nat} (hn : maxN ≤ n) {a0 a1 a4 a5 : Int} {a2 a3 a6 a7 : List T} (h2 : LW (tiOf tab) 2 a2) (h3 : LW (tiOf tab) 209 a3) (_ : LW (tiOf tab) 2 a6) (h7 : LW (tiOf tab) 209 a7)
    (_ : (T.r [.i a0, .i a1, .l a2, .l a3]).sz ≤ 1048576) (_ : (T.r [.i a4, .i a5, .l a6, .l a7]).sz ≤ 1048576) :
    ∃ c : Bool, F34 n (.i a0) (.i a1) (.l a2) (.l a3) (.i a4) (.i a5) (.l a6) (.l a7) = some [.b c] ∧ F36 n (.i a0) (.i a1) (.l a2) (.l a3) (.i a4) (.i a5) (.l a6) (.l a7) = some [.b c] :=
  ⟨_, specSends hn h2 h3 h7, implSends hn h2 h3 h7⟩
theorem law_FnExactSameSends : ∀ τs, WLs (tiOf tab) (flatLs (psOf (tiOf tab) [60, 60])) τs → ∃ n, M6 n τs = some [.b true] := by
  intro τs h
  replace h : WLs (tiOf tab) [.int .i64, .int .i64, .slice 2, .slice 209, .int .i64, .int .i64, .slice 2, .slice 209] τs := h
  obtain ⟨t0, _, rfl, w0, h⟩ := h.cons_inv
  obtain ⟨t1, _, rfl, w1, h⟩ := h.cons_inv
  obtain ⟨t2, _, rfl, w2, h⟩ := h.cons_inv
  obtain ⟨t3, _, rfl, w3, h⟩ := h.cons_inv
  obtain ⟨t4, _, rfl, w4, h⟩ := h.cons_inv
  obtain ⟨t5, _, rfl, w5, h⟩ := h.cons_inv
  obtain ⟨t6, _, rfl, w6, h⟩ := h.cons_inv
  obtain ⟨t7, _, rfl, w7, h⟩ := h.cons_inv
  cases h.nil_inv
  obtain ⟨a0, rfl, h0, k0⟩ := w0.int_inv
  obtain ⟨a1, rfl, h1, k1⟩ := w1.int_inv
  obtain ⟨a2, rfl, h2⟩ := w2.slice_inv
  obtain ⟨a3, rfl, h3⟩ := w3.slice_inv
  obtain ⟨a4, rfl, h4, k4⟩ := w4.int_inv
  obtain ⟨a5, rfl, h5, k5⟩ := w5.int_inv
  obtain ⟨a6, rfl, h6⟩ := w6.slice_inv
  obtain ⟨a7, rfl, h7⟩ := w7.slice_inv
  refine ⟨maxN, ?_⟩
  have hn := Nat.le_refl maxN
  show F6 maxN _ _ _ _ _ _ _ _ = _
  unfold F6
  rw [szSend_ok hn h2 h3 (left := 1048576) (by omega) (by omega)]
  simp only [Option.bind_some, List.headD_cons, I_i, sub_dec]
  by_cases g1 : (1048576 : Int) < ((T.r [.i a0, .i a1, .l a2, .l a3]).sz : Int)
  · rw [decide_eq_true g1]; rfl
  rw [decide_eq_false g1, cond_false, sub_pos g1]
  rw [szSend_ok hn h6 h7 (left := 1048576 - ((T.r [.i a0, .i a1, .l a2, .l a3]).sz : Int)) (by omega) (by omega)]
  simp only [Option.bind_some, List.headD_cons, I_i, sub_dec]
  by_cases g2 : 1048576 - ((T.r [.i a0, .i a1, .l a2, .l a3]).sz : Int) < ((T.r [.i a4, .i a5, .l a6, .l a7]).sz : Int)
  · rw [decide_eq_true g2]; rfl
  rw [decide_eq_false g2, cond_false]
  obtain ⟨c0, hs, hi⟩ := core_FnExactSameSends hn h2 h3 h6 h7 (a0 := a0) (a1 := a1) (a4 := a4) (a5 := a5) (by omega) (by omega)
  simp only [toSend_ok hn (a0 := a0) (a1 := a1) h2 h3 (by omega), eqSend_ok (n := maxN) hn (x2 := T.l a2) (by simp only [T.sz, T.szL] at *; unfold maxN; omega) (x3 := T.l a3) (by simp only [T.sz, T.szL] at *; unfold maxN; omega), toSend_ok hn (a0 := a4) (a1 := a5) h6 h7 (by omega), eqSend_ok (n := maxN) hn (x2 := T.l a6) (by simp only [T.sz, T.szL] at *; unfold maxN; omega) (x3 := T.l a7) (by simp only [T.sz, T.szL] at *; unfold maxN; omega), hs, hi, Option.bind_some, List.headD_cons, List.tail_cons, I_i, B_b, L_l, bne_self_eq_false, beq_self_eq_true, Bool.not_true, cond_false]
end Go.KX.Sb
namespace Go.Proofs.Ytpkeanlcmjbgnab
open Go.KX Go.KX.Sb
set_option maxRecDepth 100000 in
theorem FnExactSameSends_lifted (os : Os) (started : os.Started) (H : Type) (enc : TypeId × Value → H) :
    ReturnsInHanded {} Try.checked os 6 .any (Rows.fnExactSameSendsSpec.pre6 enc Try.prog Try.f6 Rows.fnExactSameSendsRow.domain false) (Rows.fnExactSameSendsSpec.post enc Try.prog Try.f6 false true false false) :=
  law_lifted (C := Try.checked) (ti := tiOf tab) (all := [2, 4, 5, 22, 58, 60, 68, 200, 209]) (ts := [60, 60]) tabOk (by kernel_rfl) (by kernel_rfl) (by kernel_rfl : ownKnob Try.prog.godebug = none) started (by kernel_rfl) Try.func6
    (ChangeSpec.witness6 (enc := enc) (C := Try.checked) false ⟨#[], #[.agg #[.int .i64 0, .int .i64 0, .slice none 0 0, .slice none 0 0], .agg #[.int .i64 0, .int .i64 0, .slice none 0 0, .slice none 0 0]], []⟩ 8 (by kernel_rfl) (by kernel_rfl) (by kernel_rfl) (by kernel_rfl))
    (by kernel_rfl : laidOutB Try.prog = true) rfl (tb := 4) rfl (by kernel_rfl) (by kernel_rfl) rfl (fun ds hl => by match ds, hl with | [_, _], _ => rfl) (F := M6) (fun n => eo6 n) law_FnExactSameSends

theorem FnExactSameSends_holds : Rows.FnExactSameSendsSaid :=
  OpenClaim.holds_of_wide 6 Try.f6 rfl rfl rfl rfl rfl rfl rfl ⟨rfl, rfl, rfl, rfl, rfl⟩ rfl rfl rfl rfl rfl (by kernel_rfl) Try.func6 (by kernel_rfl)
    (of_decide_eq_true (by kernel_rfl)) (by unfold Func.isWrapper; first | (rw [if_pos (by decide +kernel)]; kernel_rfl) | (rw [if_neg (by decide +kernel)]; exact ⟨rfl, rfl⟩))
    (fun os started H enc _ => FnExactSameSends_lifted os started H enc)
end Go.Proofs.Ytpkeanlcmjbgnab
