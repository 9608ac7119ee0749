/- laws.FnExactSameAskers: for every input the law returns true, and every argument reads behind the call as it read before. No further condition. -/
import Derived.Test.YtpkeanlcmjbgnaaFn
import Derived.Test.YtpkeanlcmjbgnaaRows
import Derived.KernelRfl
set_option linter.unusedVariables false
set_option linter.unusedSimpArgs false
namespace Go.KX.Sa
open Go
theorem toAddrOp_ok {n : Nat} {a0 : Int} {a1 : Int} : F89 n (.i a0) (.i a1) = some [.i a0, .i a1] := Eq.trans rfl rfl
theorem eqAddrOp_ok {n : Nat} {x0 x1 : T} : F90 n x0 x1 x0 x1 = some [.b true] := by
  unfold F90
  simp only [bne_self_eq_false, cond_false, beq_self_eq_true, Bool.not_true, Option.bind_some, List.headD_cons, List.tail_cons, B_b]
theorem shapeAddrOp {xs : List T} (h : LW (tiOf tab) 120 xs) {x : T} (hx : x ∈ xs) : ∃ a0 a1, x = .r [.i a0, .i a1] := by
  obtain ⟨f, rfl, hf⟩ := h.2 x hx
  obtain ⟨a0, e0, _, _⟩ := WL.int_inv (ti := tiOf tab) (k := .i64) (hf 0 (by decide))
  obtain ⟨a1, e1, _, _⟩ := WL.int_inv (ti := tiOf tab) (k := .i64) (hf 1 (by decide))
  refine ⟨a0, a1, ?_⟩
  show T.r [f 0, f 1] = _
  rw [e0, e1]
theorem toAddrOpS_ok {n : Nat} (hn : maxN ≤ n) {xs : List T} (h : LW (tiOf tab) 120 xs) (hz : (T.l xs).sz ≤ 1048576) : F66 n (.l xs) = some [.l xs] :=
  toS_ok (xs := xs) (e := 97) (Fe := fun x => F89 n (x.F 0) (x.F 1)) (J := fun r => .r [r.headD (.i 0), r.tail.headD (.i 0)]) (by_ := 16) (z := .r [.i 0, .i 0]) hn (by have := len_sz xs; simp only [limB]; omega) h.len (fun x hx => by
    obtain ⟨a0, a1, rfl⟩ := shapeAddrOp h hx
    exact ⟨_, toAddrOp_ok, rfl⟩)
theorem szAddrOpS_ok {n : Nat} (_ : maxN ≤ n) {xs : List T} (h : LW (tiOf tab) 120 xs) {left : Int} (g1 : 0 ≤ left) (g2 : left ≤ 1048576) : F64 n (.l xs) (.i left) = some [.i (sub left (T.l xs).sz)] :=
  szFlat_ok (xs := xs) h.len (szL_zero fun x hx => by
    obtain ⟨a0, a1, rfl⟩ := shapeAddrOp h hx
    rfl) g1 g2
theorem eqAddrOpS_ok {n : Nat} (hn : maxN ≤ n) {τ : T} (h : τ.sz < maxN) : F68 n τ τ = some [.b true] :=
  eqS_ok (xs := τ.L) (Fe := fun x y => F90 n (x.F 0) (x.F 1) (y.F 0) (y.F 1)) hn (by have := sz_L τ; have := len_sz τ.L; omega) (fun x hx => eqAddrOp_ok)
theorem toAsker_ok {n : Nat} (hn : maxN ≤ n) {a0 : Int} {a1 : List T} {a2 : List T} (h1 : LW (tiOf tab) 120 a1) (h2 : LW (tiOf tab) 120 a2) (hz : (T.r [.i a0, .l a1, .l a2]).sz ≤ 1048576) : F29 n (.i a0) (.l a1) (.l a2) = some [.i a0, .l a1, .l a2] := by
  simp only [T.sz, T.szL] at hz
  unfold F29
  simp only [toAddrOpS_ok hn  h1 (by simp only [T.sz, T.szL]; omega), toAddrOpS_ok hn  h2 (by simp only [T.sz, T.szL]; omega), Option.bind_some, List.headD_cons, List.tail_cons, I_i, B_b, L_l]
theorem szAsker_ok {n : Nat} (hn : maxN ≤ n) {a0 : Int} {a1 : List T} {a2 : List T} (h1 : LW (tiOf tab) 120 a1) (h2 : LW (tiOf tab) 120 a2) {left : Int} (g1 : 0 ≤ left) (g2 : left ≤ 1048576) : F27 n (.i a0) (.l a1) (.l a2) (.i left) = some [.i (sub left (T.r [.i a0, .l a1, .l a2]).sz)] := by
  have e : (T.r [.i a0, .l a1, .l a2]).sz = ((T.l a1).sz + (T.l a2).sz) := by simp only [T.sz, T.szL]; omega
  rw [e]
  unfold F27
  rw [szAddrOpS_ok hn h1 (left := left) (by omega) (by omega)]
  simp only [Option.bind_some, List.headD_cons, I_i]
  refine szThen fun g => ?_
  rw [sub_pos g]
  rw [szAddrOpS_ok hn h2 (left := left - ((T.l a1).sz : Int)) (by omega) (by omega)]
  simp only [Option.bind_some, List.headD_cons, I_i]
  exact szEnd
theorem eqAsker_ok {n : Nat} (hn : maxN ≤ n) {x0 x1 x2 : T} (h1 : x1.sz < maxN) (h2 : x2.sz < maxN) : F31 n x0 x1 x2 x0 x1 x2 = some [.b true] := by
  unfold F31
  simp only [eqAddrOpS_ok hn h1, eqAddrOpS_ok hn h2, bne_self_eq_false, cond_false, beq_self_eq_true, Bool.not_true, Option.bind_some, List.headD_cons, List.tail_cons, B_b]
def neOp (x y : T) : Bool := !(((x.F 0).I == (y.F 0).I) && (((x.F 1).I == (y.F 1).I) && true))

theorem specOps {n : Nat} (hn : maxN ≤ n) {xs ys : List T} (hm : xs.length < maxN) : F65 n (.l xs) (.l ys) = some [.b (allNe neOp xs ys)] :=
  loop_pairs (xs := xs) (ys := ys) (ex := [fun u1 => some [T.b ((u1.getD 0 (.i 0)).B)], fun u2 => some [T.b true]]) (f := fun k => [.l xs, .l ys, .i k]) (ne := neOp) hn hm (fun k self => rfl)
theorem implOps {n : Nat} (hn : maxN ≤ n) {xs ys : List T} (hm : xs.length < maxN) : F67 n (.l xs) (.l ys) = some [.b (allNe neOp xs ys)] :=
  loop_pairs (xs := xs) (ys := ys) (ex := [fun u1 => some [T.b ((u1.getD 0 (.i 0)).B)], fun u2 => some [T.b true]]) (f := fun k => [.l xs, .l ys, .i (xs.length : Int), .i k]) (ne := neOp) hn hm (fun k self => rfl)

theorem core_FnExactSameAskers {n : Nat} (hn : maxN ≤ n) {xs xs' ys ys' : List T} {a0 a3 : Int} (hx : LW (tiOf tab) 120 xs) (hx' : LW (tiOf tab) 120 xs') (_ : LW (tiOf tab) 120 ys) (_ : LW (tiOf tab) 120 ys') (_ : (T.r [.i a0, .l xs, .l xs']).sz ≤ 1048576) (_ : (T.r [.i a3, .l ys, .l ys']).sz ≤ 1048576) :
    ∃ c : Bool, F28 n (.i a0) (.l xs) (.l xs') (.i a3) (.l ys) (.l ys') = some [.b c] ∧ F30 n (.i a0) (.l xs) (.l xs') (.i a3) (.l ys) (.l ys') = some [.b c] := by
  unfold F28 F30
  simp only [specOps hn hx.len, specOps hn hx'.len, implOps hn hx.len, implOps hn hx'.len, I_i, Option.bind_some, List.headD_cons]
  cases a0 == a3 with
  | false => exact ⟨false, rfl, rfl⟩
  | true =>
    cases allNe neOp xs ys with
    | false => exact ⟨false, rfl, rfl⟩
    | true => exact ⟨_, rfl, rfl⟩
theorem law_FnExactSameAskers : ∀ τs, WLs (tiOf tab) (flatLs (psOf (tiOf tab) [52, 52])) τs → ∃ n, M6 n τs = some [.b true] := by
  intro τs h
  replace h : WLs (tiOf tab) [.int .i64, .slice 120, .slice 120, .int .i64, .slice 120, .slice 120] τs := h
  obtain ⟨t0, _, rfl, w0, h⟩ := h.cons_inv
  obtain ⟨t1, _, rfl, w1, h⟩ := h.cons_inv
  obtain ⟨t2, _, rfl, w2, h⟩ := h.cons_inv
  obtain ⟨t3, _, rfl, w3, h⟩ := h.cons_inv
  obtain ⟨t4, _, rfl, w4, h⟩ := h.cons_inv
  obtain ⟨t5, _, rfl, w5, h⟩ := h.cons_inv
  cases h.nil_inv
  obtain ⟨a0, rfl, h0, k0⟩ := w0.int_inv
  obtain ⟨a1, rfl, h1⟩ := w1.slice_inv
  obtain ⟨a2, rfl, h2⟩ := w2.slice_inv
  obtain ⟨a3, rfl, h3, k3⟩ := w3.int_inv
  obtain ⟨a4, rfl, h4⟩ := w4.slice_inv
  obtain ⟨a5, rfl, h5⟩ := w5.slice_inv
  refine ⟨maxN, ?_⟩
  have hn := Nat.le_refl maxN
  show F6 maxN _ _ _ _ _ _ = _
  unfold F6
  rw [szAsker_ok hn h1 h2 (left := 1048576) (by omega) (by omega)]
  simp only [Option.bind_some, List.headD_cons, I_i, sub_dec]
  by_cases g1 : (1048576 : Int) < ((T.r [.i a0, .l a1, .l a2]).sz : Int)
  · rw [decide_eq_true g1]; rfl
  rw [decide_eq_false g1, cond_false, sub_pos g1]
  rw [szAsker_ok hn h4 h5 (left := 1048576 - ((T.r [.i a0, .l a1, .l a2]).sz : Int)) (by omega) (by omega)]
  simp only [Option.bind_some, List.headD_cons, I_i, sub_dec]
  by_cases g2 : 1048576 - ((T.r [.i a0, .l a1, .l a2]).sz : Int) < ((T.r [.i a3, .l a4, .l a5]).sz : Int)
  · rw [decide_eq_true g2]; rfl
  rw [decide_eq_false g2, cond_false]
  obtain ⟨c0, hs, hi⟩ := core_FnExactSameAskers hn h1 h2 h4 h5 (a0 := a0) (a3 := a3) (by omega) (by omega)
  simp only [toAsker_ok hn (a0 := a0) h1 h2 (by omega), eqAsker_ok (n := maxN) hn (x1 := T.l a1) (by simp only [T.sz, T.szL] at *; unfold maxN; omega) (x2 := T.l a2) (by simp only [T.sz, T.szL] at *; unfold maxN; omega), toAsker_ok hn (a0 := a3) h4 h5 (by omega), eqAsker_ok (n := maxN) hn (x1 := T.l a4) (by simp only [T.sz, T.szL] at *; unfold maxN; omega) (x2 := T.l a5) (by simp only [T.sz, T.szL] at *; unfold maxN; omega), hs, hi, Option.bind_some, List.headD_cons, List.tail_cons, I_i, B_b, L_l, bne_self_eq_false, beq_self_eq_true, Bool.not_true, cond_false]
end Go.KX.Sa
namespace Go.Proofs.Ytpkeanlcmjbgnaa
open Go.KX Go.KX.Sa
set_option maxRecDepth 100000 in
theorem FnExactSameAskers_lifted (os : Os) (started : os.Started) (H : Type) (enc : TypeId × Value → H) :
    ReturnsInHanded {} Try.checked os 6 .any (Rows.fnExactSameAskersSpec.pre6 enc Try.prog Try.f6 Rows.fnExactSameAskersRow.domain false) (Rows.fnExactSameAskersSpec.post enc Try.prog Try.f6 false true false false) :=
  law_lifted (C := Try.checked) (ti := tiOf tab) (all := [2, 50, 52, 120]) (ts := [52, 52]) tabOk (by kernel_rfl) (by kernel_rfl) (by kernel_rfl : ownKnob Try.prog.godebug = none) started (by kernel_rfl) Try.func6
    (ChangeSpec.witness6 (enc := enc) (C := Try.checked) false ⟨#[], #[.agg #[.int .i64 0, .slice none 0 0, .slice none 0 0], .agg #[.int .i64 0, .slice none 0 0, .slice none 0 0]], []⟩ 8 (by kernel_rfl) (by kernel_rfl) (by kernel_rfl) (by kernel_rfl))
    (by kernel_rfl : laidOutB Try.prog = true) rfl (tb := 4) rfl (by kernel_rfl) (by kernel_rfl) rfl (fun ds hl => by match ds, hl with | [_, _], _ => rfl) (F := M6) (fun n => eo6 n) law_FnExactSameAskers

theorem FnExactSameAskers_holds : Rows.FnExactSameAskersSaid :=
  OpenClaim.holds_of_wide 6 Try.f6 rfl rfl rfl rfl rfl rfl rfl ⟨rfl, rfl, rfl, rfl, rfl⟩ rfl rfl rfl rfl rfl (by kernel_rfl) Try.func6 (by kernel_rfl)
    (of_decide_eq_true (by kernel_rfl)) (by unfold Func.isWrapper; first | (rw [if_pos (by decide +kernel)]; kernel_rfl) | (rw [if_neg (by decide +kernel)]; exact ⟨rfl, rfl⟩))
    (fun os started H enc _ => FnExactSameAskers_lifted os started H enc)
end Go.Proofs.Ytpkeanlcmjbgnaa
