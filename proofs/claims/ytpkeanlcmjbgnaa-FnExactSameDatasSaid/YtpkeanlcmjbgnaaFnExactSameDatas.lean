/- laws.FnExactSameDatas: for every input the law returns true, and every argument reads behind the call as it read before. No further condition. -/
import Derived.Test.YtpkeanlcmjbgnaaFn
import Derived.Test.YtpkeanlcmjbgnaaRows
import Derived.KernelRfl
set_option linter.unusedVariables false
set_option linter.unusedSimpArgs false
namespace Go.KX.Sa
open Go
theorem shapeByte {xs : List T} (h : LW (tiOf tab) 5 xs) {x : T} (hx : x ∈ xs) : ∃ a0, x = .i a0 := by
  obtain ⟨f, rfl, hf⟩ := h.2 x hx
  obtain ⟨a0, e0, _, _⟩ := WL.int_inv (ti := tiOf tab) (k := .u8) (hf 0 (by decide))
  refine ⟨a0, ?_⟩
  show f 0 = _
  rw [e0]
theorem toByteS_ok {n : Nat} (hn : maxN ≤ n) {xs : List T} (h : LW (tiOf tab) 5 xs) (hz : (T.l xs).sz ≤ 1048576) : F51 n (.l xs) = some [.l xs] :=
  toS_ok (xs := xs) (e := 5) (Fe := fun x => some [x]) (J := fun r => r.headD (.i 0)) (by_ := 1) (z := .i 0) hn (by have := len_sz xs; simp only [limB]; omega) h.len (fun x _ => ⟨_, rfl, rfl⟩)
theorem szByteS_ok {n : Nat} (_ : maxN ≤ n) {xs : List T} (h : LW (tiOf tab) 5 xs) {left : Int} (g1 : 0 ≤ left) (g2 : left ≤ 1048576) : F49 n (.l xs) (.i left) = some [.i (sub left (T.l xs).sz)] :=
  szFlat_ok (xs := xs) h.len (szL_zero fun x hx => by
    obtain ⟨a0, rfl⟩ := shapeByte h hx
    rfl) g1 g2
theorem eqByteS_ok {n : Nat} (hn : maxN ≤ n) {τ : T} (h : τ.sz < maxN) : F54 n τ τ = some [.b true] :=
  eqT_ok (xs := τ.L) (ne := fun a b => a.I != b.I) hn (by have := sz_L τ; have := len_sz τ.L; omega) (fun x => by simp)
theorem toData_ok {n : Nat} (hn : maxN ≤ n) {a0 : Int} {a1 : Int} {a2 : Int} {a3 : Bool} {a4 : Bool} {a5 : Bool} {a6 : List T} (h6 : LW (tiOf tab) 5 a6) (hz : (T.r [.i a0, .i a1, .i a2, .b a3, .b a4, .b a5, .l a6]).sz ≤ 1048576) : F78 n (.i a0) (.i a1) (.i a2) (.b a3) (.b a4) (.b a5) (.l a6) = some [.i a0, .i a1, .i a2, .b a3, .b a4, .b a5, .l a6] := by
  simp only [T.sz, T.szL] at hz
  unfold F78
  simp only [toByteS_ok hn  h6 (by simp only [T.sz, T.szL]; omega), Option.bind_some, List.headD_cons, List.tail_cons, I_i, B_b, L_l]
theorem szData_ok {n : Nat} (hn : maxN ≤ n) {a0 : Int} {a1 : Int} {a2 : Int} {a3 : Bool} {a4 : Bool} {a5 : Bool} {a6 : List T} (h6 : LW (tiOf tab) 5 a6) {left : Int} (g1 : 0 ≤ left) (g2 : left ≤ 1048576) : F76 n (.i a0) (.i a1) (.i a2) (.b a3) (.b a4) (.b a5) (.l a6) (.i left) = some [.i (sub left (T.r [.i a0, .i a1, .i a2, .b a3, .b a4, .b a5, .l a6]).sz)] := by
  have e : (T.r [.i a0, .i a1, .i a2, .b a3, .b a4, .b a5, .l a6]).sz = (T.l a6).sz := by simp only [T.sz, T.szL]; omega
  rw [e]
  unfold F76
  rw [szByteS_ok hn h6 (left := left) (by omega) (by omega)]
  simp only [Option.bind_some, List.headD_cons, I_i]
  exact szEnd
theorem eqData_ok {n : Nat} (hn : maxN ≤ n) {x0 x1 x2 x3 x4 x5 x6 : T} (h6 : x6.sz < maxN) : F81 n x0 x1 x2 x3 x4 x5 x6 x0 x1 x2 x3 x4 x5 x6 = some [.b true] := by
  unfold F81
  simp only [eqByteS_ok hn h6, bne_self_eq_false, cond_false, beq_self_eq_true, Bool.not_true, Option.bind_some, List.headD_cons, List.tail_cons, B_b]
theorem shapeData {xs : List T} (h : LW (tiOf tab) 104 xs) {x : T} (hx : x ∈ xs) : ∃ a0 a1 a2 a3 a4 a5 a6, x = .r [.i a0, .i a1, .i a2, .b a3, .b a4, .b a5, .l a6] ∧ LW (tiOf tab) 5 a6 := by
  obtain ⟨f, rfl, hf⟩ := h.2 x hx
  obtain ⟨a0, e0, _, _⟩ := WL.int_inv (ti := tiOf tab) (k := .i64) (hf 0 (by decide))
  obtain ⟨a1, e1, _, _⟩ := WL.int_inv (ti := tiOf tab) (k := .i64) (hf 1 (by decide))
  obtain ⟨a2, e2, _, _⟩ := WL.int_inv (ti := tiOf tab) (k := .i64) (hf 2 (by decide))
  obtain ⟨a3, e3⟩ := WL.bool_inv (ti := tiOf tab) (hf 3 (by decide))
  obtain ⟨a4, e4⟩ := WL.bool_inv (ti := tiOf tab) (hf 4 (by decide))
  obtain ⟨a5, e5⟩ := WL.bool_inv (ti := tiOf tab) (hf 5 (by decide))
  obtain ⟨a6, e6, h6⟩ := WL.slice_inv (ti := tiOf tab) (e := 5) (hf 6 (by decide))
  refine ⟨a0, a1, a2, a3, a4, a5, a6, ?_, h6⟩
  show T.r [f 0, f 1, f 2, f 3, f 4, f 5, f 6] = _
  rw [e0, e1, e2, e3, e4, e5, e6]
theorem toDataS_ok {n : Nat} (hn : maxN ≤ n) {xs : List T} (h : LW (tiOf tab) 104 xs) (hz : (T.l xs).sz ≤ 1048576) : F41 n (.l xs) = some [.l xs] :=
  toS_ok (xs := xs) (e := 107) (Fe := fun x => F78 n (x.F 0) (x.F 1) (x.F 2) (x.F 3) (x.F 4) (x.F 5) (x.F 6)) (J := fun r => .r [r.headD (.i 0), r.tail.headD (.i 0), r.tail.tail.headD (.i 0), r.tail.tail.tail.headD (.i 0), r.tail.tail.tail.tail.headD (.i 0), r.tail.tail.tail.tail.tail.headD (.i 0), r.tail.tail.tail.tail.tail.tail.headD (.i 0)]) (by_ := 56) (z := .r [.i 0, .i 0, .i 0, .b false, .b false, .b false, .l []]) hn (by have := len_sz xs; simp only [limB]; omega) h.len (fun x hx => by
    obtain ⟨a0, a1, a2, a3, a4, a5, a6, rfl, h6⟩ := shapeData h hx
    have := sz_mem hx
    exact ⟨_, toData_ok hn h6 (by omega), rfl⟩)
theorem szDataS_ok {n : Nat} (hn : maxN ≤ n) {xs : List T} (h : LW (tiOf tab) 104 xs) {left : Int} (g1 : 0 ≤ left) (g2 : left ≤ 1048576) : F39 n (.l xs) (.i left) = some [.i (sub left (T.l xs).sz)] :=
  szS_ok (xs := xs) (Fe := fun x y => F76 n (x.F 0) (x.F 1) (x.F 2) (x.F 3) (x.F 4) (x.F 5) (x.F 6) y) hn h.len (fun x hx left g1 g2 => by
    obtain ⟨a0, a1, a2, a3, a4, a5, a6, rfl, h6⟩ := shapeData h hx
    exact szData_ok hn h6 g1 g2) g1 g2
theorem eqDataS_ok {n : Nat} (hn : maxN ≤ n) {τ : T} (h : τ.sz < maxN) : F43 n τ τ = some [.b true] :=
  eqS_ok (xs := τ.L) (Fe := fun x y => F81 n (x.F 0) (x.F 1) (x.F 2) (x.F 3) (x.F 4) (x.F 5) (x.F 6) (y.F 0) (y.F 1) (y.F 2) (y.F 3) (y.F 4) (y.F 5) (y.F 6)) hn (by have := sz_L τ; have := len_sz τ.L; omega) (fun x hx => eqData_ok hn (by have := sz_F x 6; have := sz_mem hx; have := sz_L τ; omega))
theorem implBytes {n : Nat} (hn : maxN ≤ n) {xs ys : List T} (hm : xs.length < maxN) : F71 n (.l xs) (.l ys) = some [.b (allNe (fun a b => a.I != b.I) xs ys)] :=
  loop_pairs (xs := xs) (ys := ys) (ex := [fun u1 => some [T.b ((u1.getD 0 (.i 0)).B)], fun u2 => some [T.b true]]) (f := fun k => [.l xs, .l ys, .i (xs.length : Int), .i k]) (ne := fun a b => a.I != b.I) hn hm (fun k self => rfl)
def neData (x y : T) : Bool := !(((x.F 0).I == (y.F 0).I) && (((x.F 1).I == (y.F 1).I) && (((x.F 2).I == (y.F 2).I) && (((x.F 3).B == (y.F 3).B) && (((x.F 4).B == (y.F 4).B) && (((x.F 5).B == (y.F 5).B) && allNe (fun a b => a.I != b.I) (x.F 6).L (y.F 6).L))))))

theorem specData {n : Nat} {a0 a1 a2 b0 b1 b2 : Int} {a3 a4 a5 b3 b4 b5 : Bool} {a6 b6 : List T} (h : LW (tiOf tab) 5 a6) (k : LW (tiOf tab) 5 b6) :
    F77 n (.r [.i a0, .i a1, .i a2, .b a3, .b a4, .b a5, .l a6]) (.r [.i b0, .i b1, .i b2, .b b3, .b b4, .b b5, .l b6]) = some [.b (!neData (.r [.i a0, .i a1, .i a2, .b a3, .b a4, .b a5, .l a6]) (.r [.i b0, .i b1, .i b2, .b b3, .b b4, .b b5, .l b6]))] := by
  unfold F77
  simp only [neData, F_r, List.getD_cons_zero, List.getD_cons_succ, I_i, B_b, L_l, bytes_eq (h.byte (by decide)) (k.byte (by decide)), Bool.not_not]
  cases a0 == b0 with
  | false => rfl
  | true =>
    cases a1 == b1 with
    | false => rfl
    | true =>
      cases a2 == b2 with
      | false => rfl
      | true => cases a3 == b3 <;> cases a4 == b4 <;> cases a5 == b5 <;> rfl
theorem implData {n : Nat} (hn : maxN ≤ n) {a0 a1 a2 b0 b1 b2 : Int} {a3 a4 a5 b3 b4 b5 : Bool} {a6 b6 : List T} (h : a6.length < maxN) :
    F80 n (.i a0) (.i a1) (.i a2) (.b a3) (.b a4) (.b a5) (.l a6) (.i b0) (.i b1) (.i b2) (.b b3) (.b b4) (.b b5) (.l b6) = some [.b (!neData (.r [.i a0, .i a1, .i a2, .b a3, .b a4, .b a5, .l a6]) (.r [.i b0, .i b1, .i b2, .b b3, .b b4, .b b5, .l b6]))] := by
  unfold F80
  simp only [implBytes hn h, neData, F_r, List.getD_cons_zero, List.getD_cons_succ, I_i, B_b, L_l, Bool.not_not, Option.bind_some, List.headD_cons]
  cases a0 == b0 with
  | false => rfl
  | true =>
    cases a1 == b1 with
    | false => rfl
    | true =>
      cases a2 == b2 with
      | false => rfl
      | true => cases a3 == b3 <;> cases a4 == b4 <;> cases a5 == b5 <;> rfl

theorem specDatas {n : Nat} (hn : maxN ≤ n) {xs ys : List T} (hx : LW (tiOf tab) 104 xs) (hy : LW (tiOf tab) 104 ys) : F40 n (.l xs) (.l ys) = some [.b (allNe neData xs ys)] :=
  have hlen : xs.length < 281474976710656 := hx.len
  loop_same (xs := xs) (ys := ys) (ex := [fun u1 => some [T.b ((u1.getD 0 (.i 0)).B)], fun u2 => some [T.b true]]) (f := fun k => [.l xs, .l ys, .i k]) (ne := neData) hn hx.len (fun h i hi self => by
    obtain ⟨a0, a1, a2, a3, a4, a5, a6, e1, w1⟩ := shapeData hx (x := xs.getD i (.i 0)) (by simp [hi])
    obtain ⟨b0, b1, b2, b3, b4, b5, b6, e2, w2⟩ := shapeData hy (x := ys.getD i (.i 0)) (by simp [← h, hi])
    have hi0 : decide ((i : Int) < (xs.length : Int)) = true := decide_eq_true (by omega)
    have hi1 : 0 ≤ (i : Int) ∧ (i : Int) < (xs.length : Int) := by omega
    have hi2 : 0 ≤ (i : Int) ∧ (i : Int) < (ys.length : Int) := by omega
    simp only [L40_40_4, G40_40_4, List.getD_cons_zero, List.getD_cons_succ, I_i, B_b, L_l, at_nat, e1, e2, hi0, if_pos hi1, if_pos hi2, wrap64 (x := (i : Int) + 1) (by omega) (by omega), specData w1 w2, Option.bind_some, List.headD_cons, Bool.not_not]
    rfl)
    (fun h self => by
      simp only [L40_40_4, G40_40_4, List.getD_cons_zero, List.getD_cons_succ, I_i, L_l]
      rw [decide_eq_false (by omega), cond_false]
      rfl)
theorem implDatas {n : Nat} (hn : maxN ≤ n) {xs ys : List T} (hx : LW (tiOf tab) 104 xs) (hy : LW (tiOf tab) 104 ys) : F42 n (.l xs) (.l ys) = some [.b (allNe neData xs ys)] :=
  have hlen : xs.length < 281474976710656 := hx.len
  loop_same (xs := xs) (ys := ys) (ex := [fun u1 => some [T.b ((u1.getD 0 (.i 0)).B)], fun u2 => some [T.b true]]) (f := fun k => [.l ys, .l xs, .i (xs.length : Int), .i k, .l xs, .l ys, .b false, .l xs, .l ys]) (ne := neData) hn hx.len (fun h i hi self => by
    obtain ⟨a0, a1, a2, a3, a4, a5, a6, e1, w1⟩ := shapeData hx (x := xs.getD i (.i 0)) (by simp [hi])
    obtain ⟨b0, b1, b2, b3, b4, b5, b6, e2, w2⟩ := shapeData hy (x := ys.getD i (.i 0)) (by simp [← h, hi])
    have hi0 : decide ((i : Int) < (xs.length : Int)) = true := decide_eq_true (by omega)
    have hi1 : 0 ≤ (i : Int) ∧ (i : Int) < (xs.length : Int) := by omega
    have hi2 : 0 ≤ (i : Int) ∧ (i : Int) < (ys.length : Int) := by omega
    simp only [L42_79_4, G42_79_4, List.getD_cons_zero, List.getD_cons_succ, I_i, B_b, L_l, at_nat, e1, e2, F_r, hi0, if_pos hi1, if_pos hi2, wrap64 (x := (i : Int) + 1) (by omega) (by omega), implData hn w1.len, Option.bind_some, List.headD_cons, Bool.not_not]
    rfl)
    (fun h self => by
      simp only [L42_79_4, G42_79_4, List.getD_cons_zero, List.getD_cons_succ, I_i, L_l]
      rw [decide_eq_false (by omega), cond_false]
      rfl)

theorem core_FnExactSameDatas {n : Nat} (hn : maxN ≤ n) {xs ys : List T} (hx : LW (tiOf tab) 104 xs) (hy : LW (tiOf tab) 104 ys) (_ : (T.l xs).sz ≤ 1048576) (_ : (T.l ys).sz ≤ 1048576) :
    ∃ c : Bool, F40 n (.l xs) (.l ys) = some [.b c] ∧ F42 n (.l xs) (.l ys) = some [.b c] :=
  ⟨_, specDatas hn hx hy, implDatas hn hx hy⟩
theorem law_FnExactSameDatas : ∀ τs, WLs (tiOf tab) (flatLs (psOf (tiOf tab) [68, 68])) τs → ∃ n, M9 n τs = some [.b true] := by
  intro τs h
  replace h : WLs (tiOf tab) [.slice 104, .slice 104] τs := h
  obtain ⟨t0, _, rfl, w0, h⟩ := h.cons_inv
  obtain ⟨t1, _, rfl, w1, h⟩ := h.cons_inv
  cases h.nil_inv
  obtain ⟨a0, rfl, h0⟩ := w0.slice_inv
  obtain ⟨a1, rfl, h1⟩ := w1.slice_inv
  refine ⟨maxN, ?_⟩
  have hn := Nat.le_refl maxN
  show F9 maxN _ _ = _
  unfold F9
  rw [szDataS_ok hn h0 (left := 1048576) (by omega) (by omega)]
  simp only [Option.bind_some, List.headD_cons, I_i, sub_dec]
  by_cases g1 : (1048576 : Int) < ((T.l a0).sz : Int)
  · rw [decide_eq_true g1]; rfl
  rw [decide_eq_false g1, cond_false, sub_pos g1]
  rw [szDataS_ok hn h1 (left := 1048576 - ((T.l a0).sz : Int)) (by omega) (by omega)]
  simp only [Option.bind_some, List.headD_cons, I_i, sub_dec]
  by_cases g2 : 1048576 - ((T.l a0).sz : Int) < ((T.l a1).sz : Int)
  · rw [decide_eq_true g2]; rfl
  rw [decide_eq_false g2, cond_false]
  obtain ⟨c0, hs, hi⟩ := core_FnExactSameDatas hn h0 h1 (by omega) (by omega)
  simp only [toDataS_ok hn h0 (by omega), eqDataS_ok (n := maxN) hn (τ := T.l a0) (by unfold maxN; omega), toDataS_ok hn h1 (by omega), eqDataS_ok (n := maxN) hn (τ := T.l a1) (by unfold maxN; omega), hs, hi, Option.bind_some, List.headD_cons, List.tail_cons, I_i, B_b, L_l, bne_self_eq_false, beq_self_eq_true, Bool.not_true, cond_false]
end Go.KX.Sa
namespace Go.Proofs.Ytpkeanlcmjbgnaa
open Go.KX Go.KX.Sa
set_option maxRecDepth 100000 in
theorem FnExactSameDatas_lifted (os : Os) (started : os.Started) (H : Type) (enc : TypeId × Value → H) :
    ReturnsInHanded {} Try.checked os 9 .any (Rows.fnExactSameDatasSpec.pre6 enc Try.prog Try.f9 Rows.fnExactSameDatasRow.domain false) (Rows.fnExactSameDatasSpec.post enc Try.prog Try.f9 false true false false) :=
  law_lifted (C := Try.checked) (ti := tiOf tab) (all := [2, 4, 5, 22, 68, 104]) (ts := [68, 68]) tabOk (by kernel_rfl) (by kernel_rfl) (by kernel_rfl : ownKnob Try.prog.godebug = none) started (by kernel_rfl) Try.func9
    (ChangeSpec.witness6 (enc := enc) (C := Try.checked) false ⟨#[], #[.slice none 0 0, .slice none 0 0], []⟩ 8 (by kernel_rfl) (by kernel_rfl) (by kernel_rfl) (by kernel_rfl))
    (by kernel_rfl : laidOutB Try.prog = true) rfl (tb := 4) rfl (by kernel_rfl) (by kernel_rfl) rfl (fun ds hl => by match ds, hl with | [_, _], _ => rfl) (F := M9) (fun n => eo9 n) law_FnExactSameDatas

theorem FnExactSameDatas_holds : Rows.FnExactSameDatasSaid :=
  OpenClaim.holds_of_wide 9 Try.f9 rfl rfl rfl rfl rfl rfl rfl ⟨rfl, rfl, rfl, rfl, rfl⟩ rfl rfl rfl rfl rfl (by kernel_rfl) Try.func9 (by kernel_rfl)
    (of_decide_eq_true (by kernel_rfl)) (by unfold Func.isWrapper; first | (rw [if_pos (by decide +kernel)]; kernel_rfl) | (rw [if_neg (by decide +kernel)]; exact ⟨rfl, rfl⟩))
    (fun os started H enc _ => FnExactSameDatas_lifted os started H enc)
end Go.Proofs.Ytpkeanlcmjbgnaa
