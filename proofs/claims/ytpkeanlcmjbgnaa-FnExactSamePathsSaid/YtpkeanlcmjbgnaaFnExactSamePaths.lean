/- laws.FnExactSamePaths: for every input the law returns true, and every argument reads behind the call as it read before. No further condition. -/
import Derived.Test.YtpkeanlcmjbgnaaFn
import Derived.Test.YtpkeanlcmjbgnaaRows
import Derived.KernelRfl
set_option linter.unusedVariables false
set_option linter.unusedSimpArgs false
namespace Go.KX.Sa
open Go
theorem toPath_ok {n : Nat} {a0 : Int} {a1 : Int} {a2 : Int} {a3 : Bool} : F87 n (.i a0) (.i a1) (.i a2) (.b a3) = some [.i a0, .i a1, .i a2, .b a3] := Eq.trans rfl rfl
theorem eqPath_ok {n : Nat} {x0 x1 x2 x3 : T} : F88 n x0 x1 x2 x3 x0 x1 x2 x3 = some [.b true] := by
  unfold F88
  simp only [bne_self_eq_false, cond_false, beq_self_eq_true, Bool.not_true, Option.bind_some, List.headD_cons, List.tail_cons, B_b]
theorem shapePath {xs : List T} (h : LW (tiOf tab) 117 xs) {x : T} (hx : x ∈ xs) : ∃ a0 a1 a2 a3, x = .r [.i a0, .i a1, .i a2, .b a3] := by
  obtain ⟨f, rfl, hf⟩ := h.2 x hx
  obtain ⟨a0, e0, _, _⟩ := WL.int_inv (ti := tiOf tab) (k := .i64) (hf 0 (by decide))
  obtain ⟨a1, e1, _, _⟩ := WL.int_inv (ti := tiOf tab) (k := .i64) (hf 1 (by decide))
  obtain ⟨a2, e2, _, _⟩ := WL.int_inv (ti := tiOf tab) (k := .i64) (hf 2 (by decide))
  obtain ⟨a3, e3⟩ := WL.bool_inv (ti := tiOf tab) (hf 3 (by decide))
  refine ⟨a0, a1, a2, a3, ?_⟩
  show T.r [f 0, f 1, f 2, f 3] = _
  rw [e0, e1, e2, e3]
theorem toPathS_ok {n : Nat} (hn : maxN ≤ n) {xs : List T} (h : LW (tiOf tab) 117 xs) (hz : (T.l xs).sz ≤ 1048576) : F61 n (.l xs) = some [.l xs] :=
  toS_ok (xs := xs) (e := 90) (Fe := fun x => F87 n (x.F 0) (x.F 1) (x.F 2) (x.F 3)) (J := fun r => .r [r.headD (.i 0), r.tail.headD (.i 0), r.tail.tail.headD (.i 0), r.tail.tail.tail.headD (.i 0)]) (by_ := 32) (z := .r [.i 0, .i 0, .i 0, .b false]) hn (by have := len_sz xs; simp only [limB]; omega) h.len (fun x hx => by
    obtain ⟨a0, a1, a2, a3, rfl⟩ := shapePath h hx
    exact ⟨_, toPath_ok, rfl⟩)
theorem szPathS_ok {n : Nat} (_ : maxN ≤ n) {xs : List T} (h : LW (tiOf tab) 117 xs) {left : Int} (g1 : 0 ≤ left) (g2 : left ≤ 1048576) : F60 n (.l xs) (.i left) = some [.i (sub left (T.l xs).sz)] :=
  szFlat_ok (xs := xs) h.len (szL_zero fun x hx => by
    obtain ⟨a0, a1, a2, a3, rfl⟩ := shapePath h hx
    rfl) g1 g2
theorem eqPathS_ok {n : Nat} (hn : maxN ≤ n) {τ : T} (h : τ.sz < maxN) : F63 n τ τ = some [.b true] :=
  eqS_ok (xs := τ.L) (Fe := fun x y => F88 n (x.F 0) (x.F 1) (x.F 2) (x.F 3) (y.F 0) (y.F 1) (y.F 2) (y.F 3)) hn (by have := sz_L τ; have := len_sz τ.L; omega) (fun x hx => eqPath_ok)
theorem toPaths_ok {n : Nat} (hn : maxN ≤ n) {a0 : List T} {a1 : Int} (h0 : LW (tiOf tab) 117 a0) (hz : (T.r [.l a0, .i a1]).sz ≤ 1048576) : F24 n (.l a0) (.i a1) = some [.l a0, .i a1] := by
  simp only [T.sz, T.szL] at hz
  unfold F24
  simp only [toPathS_ok hn  h0 (by simp only [T.sz, T.szL]; omega), Option.bind_some, List.headD_cons, List.tail_cons, I_i, B_b, L_l]
theorem szPaths_ok {n : Nat} (hn : maxN ≤ n) {a0 : List T} {a1 : Int} (h0 : LW (tiOf tab) 117 a0) {left : Int} (g1 : 0 ≤ left) (g2 : left ≤ 1048576) : F22 n (.l a0) (.i a1) (.i left) = some [.i (sub left (T.r [.l a0, .i a1]).sz)] := by
  have e : (T.r [.l a0, .i a1]).sz = (T.l a0).sz := by simp only [T.sz, T.szL]; omega
  rw [e]
  unfold F22
  rw [szPathS_ok hn h0 (left := left) (by omega) (by omega)]
  simp only [Option.bind_some, List.headD_cons, I_i]
  exact szEnd
theorem eqPaths_ok {n : Nat} (hn : maxN ≤ n) {x0 x1 : T} (h0 : x0.sz < maxN) : F26 n x0 x1 x0 x1 = some [.b true] := by
  unfold F26
  simp only [eqPathS_ok hn h0, bne_self_eq_false, cond_false, beq_self_eq_true, Bool.not_true, Option.bind_some, List.headD_cons, List.tail_cons, B_b]
def nePath (x y : T) : Bool := !(((x.F 0).I == (y.F 0).I) && (((x.F 1).I == (y.F 1).I) && (((x.F 2).I == (y.F 2).I) && (((x.F 3).B == (y.F 3).B) && true))))

theorem implPaths {n : Nat} (hn : maxN ≤ n) {xs ys : List T} (hm : xs.length < maxN) : F62 n (.l xs) (.l ys) = some [.b (allNe nePath xs ys)] :=
  loop_pairs (xs := xs) (ys := ys) (ex := [fun u1 => some [T.b ((u1.getD 0 (.i 0)).B)], fun u2 => some [T.b true]]) (f := fun k => [.l xs, .l ys, .i (xs.length : Int), .i k]) (ne := nePath) hn hm (fun k self => rfl)

theorem core_FnExactSamePaths {n : Nat} (hn : maxN ≤ n) {xs ys : List T} {a1 a3 : Int} (hx : LW (tiOf tab) 117 xs) (hy : LW (tiOf tab) 117 ys) (_ : (T.r [.l xs, .i a1]).sz ≤ 1048576) (_ : (T.r [.l ys, .i a3]).sz ≤ 1048576) :
    ∃ c : Bool, F23 n (.l xs) (.i a1) (.l ys) (.i a3) = some [.b c] ∧ F25 n (.l xs) (.i a1) (.l ys) (.i a3) = some [.b c] := by
  unfold F23 F25
  simp only [implPaths hn hx.len, I_i, L_l]
  by_cases h1 : a1 = a3
  · subst h1
    refine ⟨allNe nePath xs ys, ?_, by rw [beq_self_eq_true]; rfl⟩
    rw [bne_self_eq_false, cond_false]
    exact loop_pairs (xs := xs) (ys := ys) (ex := [fun u1 => some [T.b ((u1.getD 0 (.i 0)).B)], fun u2 => some [T.b true]]) (f := fun k => [.i k, .l xs, .i a1, .l ys, .i a1]) (ne := nePath) hn hx.len (fun k self => rfl)
  · refine ⟨false, ?_, ?_⟩
    · rw [bne_iff_ne.2 h1, cond_true]
    · rw [beq_false_of_ne h1, cond_false]
theorem law_FnExactSamePaths : ∀ τs, WLs (tiOf tab) (flatLs (psOf (tiOf tab) [42, 42])) τs → ∃ n, M5 n τs = some [.b true] := by
  intro τs h
  replace h : WLs (tiOf tab) [.slice 117, .int .i64, .slice 117, .int .i64] τs := h
  obtain ⟨t0, _, rfl, w0, h⟩ := h.cons_inv
  obtain ⟨t1, _, rfl, w1, h⟩ := h.cons_inv
  obtain ⟨t2, _, rfl, w2, h⟩ := h.cons_inv
  obtain ⟨t3, _, rfl, w3, h⟩ := h.cons_inv
  cases h.nil_inv
  obtain ⟨a0, rfl, h0⟩ := w0.slice_inv
  obtain ⟨a1, rfl, h1, k1⟩ := w1.int_inv
  obtain ⟨a2, rfl, h2⟩ := w2.slice_inv
  obtain ⟨a3, rfl, h3, k3⟩ := w3.int_inv
  refine ⟨maxN, ?_⟩
  have hn := Nat.le_refl maxN
  show F5 maxN _ _ _ _ = _
  unfold F5
  rw [szPaths_ok hn h0 (left := 1048576) (by omega) (by omega)]
  simp only [Option.bind_some, List.headD_cons, I_i, sub_dec]
  by_cases g1 : (1048576 : Int) < ((T.r [.l a0, .i a1]).sz : Int)
  · rw [decide_eq_true g1]; rfl
  rw [decide_eq_false g1, cond_false, sub_pos g1]
  rw [szPaths_ok hn h2 (left := 1048576 - ((T.r [.l a0, .i a1]).sz : Int)) (by omega) (by omega)]
  simp only [Option.bind_some, List.headD_cons, I_i, sub_dec]
  by_cases g2 : 1048576 - ((T.r [.l a0, .i a1]).sz : Int) < ((T.r [.l a2, .i a3]).sz : Int)
  · rw [decide_eq_true g2]; rfl
  rw [decide_eq_false g2, cond_false]
  obtain ⟨c0, hs, hi⟩ := core_FnExactSamePaths hn h0 h2 (a1 := a1) (a3 := a3) (by omega) (by omega)
  simp only [toPaths_ok hn (a1 := a1) h0 (by omega), eqPaths_ok (n := maxN) hn (x0 := T.l a0) (by simp only [T.sz, T.szL] at *; unfold maxN; omega), toPaths_ok hn (a1 := a3) h2 (by omega), eqPaths_ok (n := maxN) hn (x0 := T.l a2) (by simp only [T.sz, T.szL] at *; unfold maxN; omega), hs, hi, Option.bind_some, List.headD_cons, List.tail_cons, I_i, B_b, L_l, bne_self_eq_false, beq_self_eq_true, Bool.not_true, cond_false]
end Go.KX.Sa
namespace Go.Proofs.Ytpkeanlcmjbgnaa
open Go.KX Go.KX.Sa
set_option maxRecDepth 100000 in
theorem FnExactSamePaths_lifted (os : Os) (started : os.Started) (H : Type) (enc : TypeId × Value → H) :
    ReturnsInHanded {} Try.checked os 5 .any (Rows.fnExactSamePathsSpec.pre6 enc Try.prog Try.f5 Rows.fnExactSamePathsRow.domain false) (Rows.fnExactSamePathsSpec.post enc Try.prog Try.f5 false true false false) :=
  law_lifted (C := Try.checked) (ti := tiOf tab) (all := [2, 4, 40, 42, 117]) (ts := [42, 42]) tabOk (by kernel_rfl) (by kernel_rfl) (by kernel_rfl : ownKnob Try.prog.godebug = none) started (by kernel_rfl) Try.func5
    (ChangeSpec.witness6 (enc := enc) (C := Try.checked) false ⟨#[], #[.agg #[.slice none 0 0, .int .i64 0], .agg #[.slice none 0 0, .int .i64 0]], []⟩ 8 (by kernel_rfl) (by kernel_rfl) (by kernel_rfl) (by kernel_rfl))
    (by kernel_rfl : laidOutB Try.prog = true) rfl (tb := 4) rfl (by kernel_rfl) (by kernel_rfl) rfl (fun ds hl => by match ds, hl with | [_, _], _ => rfl) (F := M5) (fun n => eo5 n) law_FnExactSamePaths

theorem FnExactSamePaths_holds : Rows.FnExactSamePathsSaid :=
  OpenClaim.holds_of_wide 5 Try.f5 rfl rfl rfl rfl rfl rfl rfl ⟨rfl, rfl, rfl, rfl, rfl⟩ rfl rfl rfl rfl rfl (by kernel_rfl) Try.func5 (by kernel_rfl)
    (of_decide_eq_true (by kernel_rfl)) (by unfold Func.isWrapper; first | (rw [if_pos (by decide +kernel)]; kernel_rfl) | (rw [if_neg (by decide +kernel)]; exact ⟨rfl, rfl⟩))
    (fun os started H enc _ => FnExactSamePaths_lifted os started H enc)
end Go.Proofs.Ytpkeanlcmjbgnaa
