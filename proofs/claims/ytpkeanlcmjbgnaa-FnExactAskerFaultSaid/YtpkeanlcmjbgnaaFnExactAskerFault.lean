/- laws.FnExactAskerFault: for every input the law returns true, and every argument reads behind the call as it read before. No further condition. -/
import Derived.Test.YtpkeanlcmjbgnaaFn
import Derived.Test.YtpkeanlcmjbgnaaRows
import Derived.KernelRfl
set_option linter.unusedVariables false
set_option linter.unusedSimpArgs false
namespace Go.KX.Sa
open Go
theorem toAddrOp_ok {n : Nat} {a0 : Int} {a1 : Int} : F89 n (.i a0) (.i a1) = some [.i a0, .i a1] := Eq.trans rfl rfl
theorem eqAddrOp_ok {n : Nat} {x0 x1 : T} : F90 n x0 x1 x0 x1 = some [.b true] := by
  unfold F90
  simp only [bne_self_eq_false, cond_false, beq_self_eq_true, Bool.not_true, Option.bind_some, List.headD_cons, List.tail_cons, B_b]
theorem shapeAddrOp {xs : List T} (h : LW (tiOf tab) 120 xs) {x : T} (hx : x ∈ xs) : ∃ a0 a1, x = .r [.i a0, .i a1] := by
  obtain ⟨f, rfl, hf⟩ := h.2 x hx
  obtain ⟨a0, e0, _, _⟩ := WL.int_inv (ti := tiOf tab) (k := .i64) (hf 0 (by decide))
  obtain ⟨a1, e1, _, _⟩ := WL.int_inv (ti := tiOf tab) (k := .i64) (hf 1 (by decide))
  refine ⟨a0, a1, ?_⟩
  show T.r [f 0, f 1] = _
  rw [e0, e1]
theorem toAddrOpS_ok {n : Nat} (hn : maxN ≤ n) {xs : List T} (h : LW (tiOf tab) 120 xs) (hz : (T.l xs).sz ≤ 1048576) : F66 n (.l xs) = some [.l xs] :=
  toS_ok (xs := xs) (e := 97) (Fe := fun x => F89 n (x.F 0) (x.F 1)) (J := fun r => .r [r.headD (.i 0), r.tail.headD (.i 0)]) (by_ := 16) (z := .r [.i 0, .i 0]) hn (by have := len_sz xs; simp only [limB]; omega) h.len (fun x hx => by
    obtain ⟨a0, a1, rfl⟩ := shapeAddrOp h hx
    exact ⟨_, toAddrOp_ok, rfl⟩)
theorem szAddrOpS_ok {n : Nat} (_ : maxN ≤ n) {xs : List T} (h : LW (tiOf tab) 120 xs) {left : Int} (g1 : 0 ≤ left) (g2 : left ≤ 1048576) : F64 n (.l xs) (.i left) = some [.i (sub left (T.l xs).sz)] :=
  szFlat_ok (xs := xs) h.len (szL_zero fun x hx => by
    obtain ⟨a0, a1, rfl⟩ := shapeAddrOp h hx
    rfl) g1 g2
theorem eqAddrOpS_ok {n : Nat} (hn : maxN ≤ n) {τ : T} (h : τ.sz < maxN) : F68 n τ τ = some [.b true] :=
  eqS_ok (xs := τ.L) (Fe := fun x y => F90 n (x.F 0) (x.F 1) (y.F 0) (y.F 1)) hn (by have := sz_L τ; have := len_sz τ.L; omega) (fun x hx => eqAddrOp_ok)
theorem toAsker_ok {n : Nat} (hn : maxN ≤ n) {a0 : Int} {a1 : List T} {a2 : List T} (h1 : LW (tiOf tab) 120 a1) (h2 : LW (tiOf tab) 120 a2) (hz : (T.r [.i a0, .l a1, .l a2]).sz ≤ 1048576) : F29 n (.i a0) (.l a1) (.l a2) = some [.i a0, .l a1, .l a2] := by
  simp only [T.sz, T.szL] at hz
  unfold F29
  simp only [toAddrOpS_ok hn  h1 (by simp only [T.sz, T.szL]; omega), toAddrOpS_ok hn  h2 (by simp only [T.sz, T.szL]; omega), Option.bind_some, List.headD_cons, List.tail_cons, I_i, B_b, L_l]
theorem szAsker_ok {n : Nat} (hn : maxN ≤ n) {a0 : Int} {a1 : List T} {a2 : List T} (h1 : LW (tiOf tab) 120 a1) (h2 : LW (tiOf tab) 120 a2) {left : Int} (g1 : 0 ≤ left) (g2 : left ≤ 1048576) : F27 n (.i a0) (.l a1) (.l a2) (.i left) = some [.i (sub left (T.r [.i a0, .l a1, .l a2]).sz)] := by
  have e : (T.r [.i a0, .l a1, .l a2]).sz = ((T.l a1).sz + (T.l a2).sz) := by simp only [T.sz, T.szL]; omega
  rw [e]
  unfold F27
  rw [szAddrOpS_ok hn h1 (left := left) (by omega) (by omega)]
  simp only [Option.bind_some, List.headD_cons, I_i]
  refine szThen fun g => ?_
  rw [sub_pos g]
  rw [szAddrOpS_ok hn h2 (left := left - ((T.l a1).sz : Int)) (by omega) (by omega)]
  simp only [Option.bind_some, List.headD_cons, I_i]
  exact szEnd
theorem eqAsker_ok {n : Nat} (hn : maxN ≤ n) {x0 x1 x2 : T} (h1 : x1.sz < maxN) (h2 : x2.sz < maxN) : F31 n x0 x1 x2 x0 x1 x2 = some [.b true] := by
  unfold F31
  simp only [eqAddrOpS_ok hn h1, eqAddrOpS_ok hn h2, bne_self_eq_false, cond_false, beq_self_eq_true, Bool.not_true, Option.bind_some, List.headD_cons, List.tail_cons, B_b]
theorem l1In_ok {n : Nat} {a lo hi : Int} : F50 n (.i a) (.i lo) (.i hi) = some [.b (decide (a ≥ lo) && decide (a ≤ hi))] := by
  unfold F50
  simp only [I_i]
  cases decide (a ≥ lo) <;> rfl
theorem within_ok {n : Nat} {a lo hi : Int} : F53 n (.i a) (.i lo) (.i hi) = some [.b (decide (a ≥ lo) && decide (a ≤ hi))] := by
  unfold F53
  simp only [I_i]
  cases decide (a ≥ lo) <;> rfl
theorem l1Word32_ok {n : Nat} {a : Int} : F56 n (.i a) = some [.b (decide (a ≥ 0) && decide (a ≤ 4294967295))] := by
  unfold F56
  rw [l1In_ok]
  rfl
theorem isWord_ok {n : Nat} {a : Int} : F58 n (.i a) = some [.b (decide (a ≥ 0) && decide (a ≤ 4294967295))] := by
  unfold F58
  rw [within_ok]
  rfl
theorem l5Addr_ok {n : Nat} {a : Int} : F72 n (.i a) = some [.b (decide (a ≥ 1) && decide (a ≤ 255))] := by
  unfold F72
  rw [l1In_ok]
  rfl
theorem isAddr_ok {n : Nat} {a : Int} : F74 n (.i a) = some [.b (decide (a ≥ 1) && decide (a ≤ 255))] := by
  unfold F74
  rw [within_ok]
  rfl
def isOpB (x : T) : Bool := (decide ((x.F 0).I ≥ 1) && decide ((x.F 0).I ≤ 3)) && (decide ((x.F 1).I ≥ 1) && decide ((x.F 1).I ≤ 255))
theorem l12Op_ok {n : Nat} {a b : Int} : F93 n (.r [.i a, .i b]) = some [.b (isOpB (.r [.i a, .i b]))] := by
  unfold F93 isOpB
  simp only [F_r, List.getD_cons_zero, List.getD_cons_succ, l1In_ok, l5Addr_ok, Option.bind_some, List.headD_cons, I_i, B_b]
  cases decide (a ≥ 1) && decide (a ≤ 3) <;> rfl
theorem isOp_ok {n : Nat} {a b : Int} : F84 n (.i a) (.i b) = some [.b (isOpB (.r [.i a, .i b]))] := by
  unfold F84 isOpB
  simp only [F_r, List.getD_cons_zero, List.getD_cons_succ, within_ok, isAddr_ok, Option.bind_some, List.headD_cons, I_i, B_b]
  cases decide (a ≥ 1) && decide (a ≤ 3) <;> rfl
theorem l12Ops_ok {n : Nat} (hn : maxN ≤ n) {xs : List T} (hx : LW (tiOf tab) 120 xs) : F82 n (.l xs) = some [.b (xs.all isOpB)] := by
  have hlen : xs.length < 281474976710656 := hx.len
  refine Eq.trans (loop_all (G := (L82_82_2 n).G) (ex := [fun u2 => some [T.b ((u2.getD 0 (.i 0)).B)], fun u3 => some [T.b true]]) (f := fun k => [.l xs, .i k]) (p := isOpB) (r := some [.b false]) (d := some [.b true]) hn hx.len (fun i hi self => ?_) (fun self => ?_)) ?_
  · obtain ⟨a0, a1, e1⟩ := shapeAddrOp hx (x := xs.getD i (.i 0)) (by simp [hi])
    simp only [L82_82_2, G82_82_2, List.getD_cons_zero, List.getD_cons_succ, I_i, B_b, L_l, at_nat, e1, l12Op_ok, Option.bind_some, List.headD_cons]
    rw [decide_eq_true (by omega), cond_true, if_pos (by omega), wrap64 (by omega) (by omega)]
    cases isOpB (.r [.i a0, .i a1]) <;> rfl
  · simp only [L82_82_2, G82_82_2, List.getD_cons_zero, List.getD_cons_succ, I_i, L_l]
    rw [decide_eq_false (by omega), cond_false]
    rfl
  · cases xs.all isOpB <;> rfl
theorem concat_ok {n : Nat} (hn : maxN ≤ n) {xs ys : List T} (hx : xs.length ≤ 20) (hy : ys.length ≤ 20) : F83 n (.l [.l xs, .l ys]) = some [.l (xs ++ ys)] := by
  have h3 : 3 ≤ n := by unfold maxN at hn; omega
  have w1 : IntKind.wrap .i64 (0 + ((xs.length : Nat) : Int)) = xs.length := by rw [wrap64 (by omega) (by omega)]; omega
  have w2 : IntKind.wrap .i64 ((xs.length : Int) + ((ys.length : Nat) : Int)) = (xs.length : Int) + ys.length := wrap64 (by omega) (by omega)
  have w3 : IntKind.wrap .i64 ((xs.length : Int) + ys.length - 0) = (xs.length : Int) + ys.length := by rw [wrap64 (by omega) (by omega)]; omega
  have d1 : decide ((xs.length : Int) < 0) = false := decide_eq_false (by omega)
  have d2 : decide ((xs.length : Int) + ys.length < 0) = false := decide_eq_false (by omega)
  have a0 : at_ [T.l xs, T.l ys] 0 = T.l xs := rfl
  have a1 : at_ [T.l xs, T.l ys] 1 = T.l ys := rfl
  have e2 : (([T.l xs, T.l ys].length : Nat) : Int) = 2 := rfl
  have second : loopR (L83_83_11 n).G n [.l [.l xs, .l ys], .i 2, .i 0, .l []] [fun u2 => some [T.l ((u2.getD 0 (.i 0)).L)]] = some [.l (xs ++ ys)] := by
    have l1 : ((([] : List T).length + xs.length : Nat) : Int) * 16 ≤ limB := by simp only [List.length_nil, limB]; omega
    have l2 : ((xs.length + ys.length : Nat) : Int) * 16 ≤ limB := by simp only [limB]; omega
    refine loop2 (b := [.l [.l xs, .l ys], .i 2, .i 1, .l xs]) (c := [.l [.l xs, .l ys], .i 2, .i 2, .l (xs ++ ys)]) (fun self => ?_) (fun self => ?_) (fun self => ?_) h3
    · simp only [L83_83_11, G83_83_11, List.getD_cons_zero, List.getD_cons_succ, I_i, L_l, a0, e2]
      rw [if_pos (by decide), if_pos l1]
      rfl
    · simp only [L83_83_11, G83_83_11, List.getD_cons_zero, List.getD_cons_succ, I_i, L_l, a1, e2]
      rw [if_pos (by decide), if_pos l2]
      rfl
    · rfl
  unfold F83
  refine loop2 (b := [.l [.l xs, .l ys], .i (xs.length : Int), .l [.l xs, .l ys], .i 2, .i 1]) (c := [.l [.l xs, .l ys], .i ((xs.length : Int) + ys.length), .l [.l xs, .l ys], .i 2, .i 2]) (fun self => ?_) (fun self => ?_) (fun self => ?_) h3
  · simp only [L83_83_3, G83_83_3, List.getD_cons_zero, List.getD_cons_succ, I_i, L_l, a0, e2, w1, d1]
    rw [if_pos (by decide)]
    rfl
  · simp only [L83_83_3, G83_83_3, List.getD_cons_zero, List.getD_cons_succ, I_i, L_l, a1, e2, w2, d2]
    rw [if_pos (by decide)]
    rfl
  · have c2 : decide ((2 : Int) < 2) = false := rfl
    simp only [L83_83_3, G83_83_3, exn, List.getD_cons_zero, List.getD_cons_succ, I_i, L_l, c2, d2, w3, e2, cond_false]
    by_cases hz : (xs.length : Int) + ys.length > 0
    · have l3 : (0 ≤ (xs.length : Int) + ys.length ∧ ((xs.length : Int) + ys.length) * 16 ≤ limB) := by simp only [limB]; omega
      have l4 : (((List.replicate ((xs.length : Int) + ys.length).toNat (T.r [.i 0, .i 0])).length : Nat) : Int) * 16 ≤ limB := by simp only [List.length_replicate, limB]; omega
      rw [decide_eq_true hz, cond_true, if_pos l3, if_pos l4, if_pos (by omega)]
      exact second
    · rw [decide_eq_false hz, cond_false]
      exact second
theorem specAskerFault {n : Nat} (hn : maxN ≤ n) {a : Int} {xs ys : List T} (hx : LW (tiOf tab) 120 xs) (hy : LW (tiOf tab) 120 ys) : F44 n (.i a) (.l xs) (.l ys) = some [.i (cond (decide (a ≥ 0) && decide (a ≤ 4294967295)) (cond (decide ((xs.length : Int) > 20) || decide ((ys.length : Int) > 4)) 2 (cond (xs.all isOpB && ys.all isOpB) 0 3)) 3)] := by
  unfold F44
  simp only [l1Word32_ok, l12Ops_ok hn hx, l12Ops_ok hn hy, Option.bind_some, List.headD_cons, I_i, B_b, L_l]
  cases decide (a ≥ 0) && decide (a ≤ 4294967295) <;> cases decide ((xs.length : Int) > 20) <;> cases decide ((ys.length : Int) > 4) <;> cases xs.all isOpB <;> cases ys.all isOpB <;> rfl
theorem implAskerFault {n : Nat} (hn : maxN ≤ n) {a : Int} {xs ys : List T} (hx : LW (tiOf tab) 120 xs) (hy : LW (tiOf tab) 120 ys) : F45 n (.i a) (.l xs) (.l ys) = some [.i (cond (decide (a ≥ 0) && decide (a ≤ 4294967295)) (cond (decide ((xs.length : Int) > 20) || decide ((ys.length : Int) > 4)) 2 (cond (xs.all isOpB && ys.all isOpB) 0 3)) 3)] := by
  unfold F45
  simp only [isWord_ok, Option.bind_some, List.headD_cons, I_i, B_b, L_l]
  cases decide (a ≥ 0) && decide (a ≤ 4294967295) with
  | false => rfl
  | true =>
    by_cases h1 : (xs.length : Int) > 20
    · rw [decide_eq_true h1]; rfl
    · by_cases h2 : (ys.length : Int) > 4
      · rw [decide_eq_false h1, decide_eq_true h2]; rfl
      · rw [decide_eq_false h1, decide_eq_false h2]
        simp only [Bool.not_true, Bool.or_self, cond_false, cond_true, concat_ok hn (xs := xs) (ys := ys) (by omega) (by omega), Option.bind_some, List.headD_cons, L_l]
        refine Eq.trans (loop_all (G := (L45_45_6 n).G) (f := fun k => [.l (xs ++ ys), .i ((((xs ++ ys).length : Nat) : Int)), .i k]) (p := isOpB) (r := some [.i 3]) (d := some [.i 0]) hn (xs := xs ++ ys) (by simp only [List.length_append, maxN]; omega) (fun i hi self => ?_) (fun self => ?_)) ?_
        · have hlt : (xs ++ ys).length ≤ 24 := by simp only [List.length_append]; omega
          obtain ⟨a0, a1, e1⟩ : ∃ a0 a1, (xs ++ ys).getD i (.i 0) = .r [.i a0, .i a1] := by
            have hm : (xs ++ ys).getD i (.i 0) ∈ xs ++ ys := getD_mem hi
            rcases List.mem_append.1 hm with hm | hm
            · exact shapeAddrOp hx hm
            · exact shapeAddrOp hy hm
          simp only [L45_45_6, G45_45_6, List.getD_cons_zero, List.getD_cons_succ, I_i, B_b, L_l, F_r, at_nat, e1, isOp_ok, Option.bind_some, List.headD_cons]
          rw [decide_eq_true (by omega), cond_true, if_pos (by omega), wrap64 (by omega) (by omega)]
          cases isOpB (.r [.i a0, .i a1]) <;> rfl
        · simp only [L45_45_6, G45_45_6, List.getD_cons_zero, List.getD_cons_succ, I_i, L_l]
          rw [decide_eq_false (by omega), cond_false]
          rfl
        · rw [List.all_append]
          cases xs.all isOpB <;> cases ys.all isOpB <;> rfl
theorem core_FnExactAskerFault {n : Nat} (hn : maxN ≤ n) {xs ys : List T} {a0 : Int} (hx : LW (tiOf tab) 120 xs) (hy : LW (tiOf tab) 120 ys) (_ : (T.r [.i a0, .l xs, .l ys]).sz ≤ 1048576) :
    ∃ c : Int, F44 n (.i a0) (.l xs) (.l ys) = some [.i c] ∧ F45 n (.i a0) (.l xs) (.l ys) = some [.i c] :=
  ⟨_, specAskerFault hn hx hy, implAskerFault hn hx hy⟩
theorem law_FnExactAskerFault : ∀ τs, WLs (tiOf tab) (flatLs (psOf (tiOf tab) [52])) τs → ∃ n, M10 n τs = some [.b true] := by
  intro τs h
  replace h : WLs (tiOf tab) [.int .i64, .slice 120, .slice 120] τs := h
  obtain ⟨t0, _, rfl, w0, h⟩ := h.cons_inv
  obtain ⟨t1, _, rfl, w1, h⟩ := h.cons_inv
  obtain ⟨t2, _, rfl, w2, h⟩ := h.cons_inv
  cases h.nil_inv
  obtain ⟨a0, rfl, h0, k0⟩ := w0.int_inv
  obtain ⟨a1, rfl, h1⟩ := w1.slice_inv
  obtain ⟨a2, rfl, h2⟩ := w2.slice_inv
  refine ⟨maxN, ?_⟩
  have hn := Nat.le_refl maxN
  show F10 maxN _ _ _ = _
  unfold F10
  rw [szAsker_ok hn h1 h2 (left := 1048576) (by omega) (by omega)]
  simp only [Option.bind_some, List.headD_cons, I_i, sub_dec]
  by_cases g1 : (1048576 : Int) < ((T.r [.i a0, .l a1, .l a2]).sz : Int)
  · rw [decide_eq_true g1]; rfl
  rw [decide_eq_false g1, cond_false]
  obtain ⟨c0, hs, hi⟩ := core_FnExactAskerFault hn h1 h2 (a0 := a0) (by omega)
  simp only [toAsker_ok hn (a0 := a0) h1 h2 (by omega), eqAsker_ok (n := maxN) hn (x1 := T.l a1) (by simp only [T.sz, T.szL] at *; unfold maxN; omega) (x2 := T.l a2) (by simp only [T.sz, T.szL] at *; unfold maxN; omega), hs, hi, Option.bind_some, List.headD_cons, List.tail_cons, I_i, B_b, L_l, bne_self_eq_false, beq_self_eq_true, Bool.not_true, cond_false]
end Go.KX.Sa
namespace Go.Proofs.Ytpkeanlcmjbgnaa
open Go.KX Go.KX.Sa
set_option maxRecDepth 100000 in
theorem FnExactAskerFault_lifted (os : Os) (started : os.Started) (H : Type) (enc : TypeId × Value → H) :
    ReturnsInHanded {} Try.checked os 10 .any (Rows.fnExactAskerFaultSpec.pre6 enc Try.prog Try.f10 Rows.fnExactAskerFaultRow.domain false) (Rows.fnExactAskerFaultSpec.post enc Try.prog Try.f10 false true false false) :=
  law_lifted (C := Try.checked) (ti := tiOf tab) (all := [2, 50, 52, 120]) (ts := [52]) tabOk (by kernel_rfl) (by kernel_rfl) (by kernel_rfl : ownKnob Try.prog.godebug = none) started (by kernel_rfl) Try.func10
    (ChangeSpec.witness6 (enc := enc) (C := Try.checked) false ⟨#[], #[.agg #[.int .i64 0, .slice none 0 0, .slice none 0 0]], []⟩ 8 (by kernel_rfl) (by kernel_rfl) (by kernel_rfl) (by kernel_rfl))
    (by kernel_rfl : laidOutB Try.prog = true) rfl (tb := 4) rfl (by kernel_rfl) (by kernel_rfl) rfl (fun ds hl => by match ds, hl with | [_], _ => rfl) (F := M10) (fun n => eo10 n) law_FnExactAskerFault

theorem FnExactAskerFault_holds : Rows.FnExactAskerFaultSaid :=
  OpenClaim.holds_of_wide 10 Try.f10 rfl rfl rfl rfl rfl rfl rfl ⟨rfl, rfl, rfl, rfl, rfl⟩ rfl rfl rfl rfl rfl (by kernel_rfl) Try.func10 (by kernel_rfl)
    (of_decide_eq_true (by kernel_rfl)) (by unfold Func.isWrapper; first | (rw [if_pos (by decide +kernel)]; kernel_rfl) | (rw [if_neg (by decide +kernel)]; exact ⟨rfl, rfl⟩))
    (fun os started H enc _ => FnExactAskerFault_lifted os started H enc)
end Go.Proofs.Ytpkeanlcmjbgnaa
