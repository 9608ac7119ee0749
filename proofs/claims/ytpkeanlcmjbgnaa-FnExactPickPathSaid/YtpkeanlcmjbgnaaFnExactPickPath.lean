/- laws.FnExactPickPath: for every input the law returns true, and every argument reads behind the call as it read before. No further condition. -/
import Derived.Test.YtpkeanlcmjbgnaaFn
import Derived.Test.YtpkeanlcmjbgnaaRows
import Derived.KernelRfl
set_option linter.unusedVariables false
set_option linter.unusedSimpArgs false
namespace Go.KX.Sa
open Go
theorem toPath_ok {n : Nat} {a0 : Int} {a1 : Int} {a2 : Int} {a3 : Bool} : F87 n (.i a0) (.i a1) (.i a2) (.b a3) = some [.i a0, .i a1, .i a2, .b a3] := Eq.trans rfl rfl
theorem eqPath_ok {n : Nat} {x0 x1 x2 x3 : T} : F88 n x0 x1 x2 x3 x0 x1 x2 x3 = some [.b true] := by
  unfold F88
  simp only [bne_self_eq_false, cond_false, beq_self_eq_true, Bool.not_true, Option.bind_some, List.headD_cons, List.tail_cons, B_b]
theorem shapePath {xs : List T} (h : LW (tiOf tab) 117 xs) {x : T} (hx : x ∈ xs) : ∃ a0 a1 a2 a3, x = .r [.i a0, .i a1, .i a2, .b a3] := by
  obtain ⟨f, rfl, hf⟩ := h.2 x hx
  obtain ⟨a0, e0, _, _⟩ := WL.int_inv (ti := tiOf tab) (k := .i64) (hf 0 (by decide))
  obtain ⟨a1, e1, _, _⟩ := WL.int_inv (ti := tiOf tab) (k := .i64) (hf 1 (by decide))
  obtain ⟨a2, e2, _, _⟩ := WL.int_inv (ti := tiOf tab) (k := .i64) (hf 2 (by decide))
  obtain ⟨a3, e3⟩ := WL.bool_inv (ti := tiOf tab) (hf 3 (by decide))
  refine ⟨a0, a1, a2, a3, ?_⟩
  show T.r [f 0, f 1, f 2, f 3] = _
  rw [e0, e1, e2, e3]
theorem toPathS_ok {n : Nat} (hn : maxN ≤ n) {xs : List T} (h : LW (tiOf tab) 117 xs) (hz : (T.l xs).sz ≤ 1048576) : F61 n (.l xs) = some [.l xs] :=
  toS_ok (xs := xs) (e := 90) (Fe := fun x => F87 n (x.F 0) (x.F 1) (x.F 2) (x.F 3)) (J := fun r => .r [r.headD (.i 0), r.tail.headD (.i 0), r.tail.tail.headD (.i 0), r.tail.tail.tail.headD (.i 0)]) (by_ := 32) (z := .r [.i 0, .i 0, .i 0, .b false]) hn (by have := len_sz xs; simp only [limB]; omega) h.len (fun x hx => by
    obtain ⟨a0, a1, a2, a3, rfl⟩ := shapePath h hx
    exact ⟨_, toPath_ok, rfl⟩)
theorem szPathS_ok {n : Nat} (_ : maxN ≤ n) {xs : List T} (h : LW (tiOf tab) 117 xs) {left : Int} (g1 : 0 ≤ left) (g2 : left ≤ 1048576) : F60 n (.l xs) (.i left) = some [.i (sub left (T.l xs).sz)] :=
  szFlat_ok (xs := xs) h.len (szL_zero fun x hx => by
    obtain ⟨a0, a1, a2, a3, rfl⟩ := shapePath h hx
    rfl) g1 g2
theorem eqPathS_ok {n : Nat} (hn : maxN ≤ n) {τ : T} (h : τ.sz < maxN) : F63 n τ τ = some [.b true] :=
  eqS_ok (xs := τ.L) (Fe := fun x y => F88 n (x.F 0) (x.F 1) (x.F 2) (x.F 3) (y.F 0) (y.F 1) (y.F 2) (y.F 3)) hn (by have := sz_L τ; have := len_sz τ.L; omega) (fun x hx => eqPath_ok)
theorem toPaths_ok {n : Nat} (hn : maxN ≤ n) {a0 : List T} {a1 : Int} (h0 : LW (tiOf tab) 117 a0) (hz : (T.r [.l a0, .i a1]).sz ≤ 1048576) : F24 n (.l a0) (.i a1) = some [.l a0, .i a1] := by
  simp only [T.sz, T.szL] at hz
  unfold F24
  simp only [toPathS_ok hn  h0 (by simp only [T.sz, T.szL]; omega), Option.bind_some, List.headD_cons, List.tail_cons, I_i, B_b, L_l]
theorem szPaths_ok {n : Nat} (hn : maxN ≤ n) {a0 : List T} {a1 : Int} (h0 : LW (tiOf tab) 117 a0) {left : Int} (g1 : 0 ≤ left) (g2 : left ≤ 1048576) : F22 n (.l a0) (.i a1) (.i left) = some [.i (sub left (T.r [.l a0, .i a1]).sz)] := by
  have e : (T.r [.l a0, .i a1]).sz = (T.l a0).sz := by simp only [T.sz, T.szL]; omega
  rw [e]
  unfold F22
  rw [szPathS_ok hn h0 (left := left) (by omega) (by omega)]
  simp only [Option.bind_some, List.headD_cons, I_i]
  exact szEnd
theorem eqPaths_ok {n : Nat} (hn : maxN ≤ n) {x0 x1 : T} (h0 : x0.sz < maxN) : F26 n x0 x1 x0 x1 = some [.b true] := by
  unfold F26
  simp only [eqPathS_ok hn h0, bne_self_eq_false, cond_false, beq_self_eq_true, Bool.not_true, Option.bind_some, List.headD_cons, List.tail_cons, B_b]
theorem eqIntResult_ok {n : Nat} {x0 x1 : T} : F48 n x0 x1 x0 x1 = some [.b true] := by
  unfold F48
  simp only [bne_self_eq_false, cond_false, beq_self_eq_true, Bool.not_true, Option.bind_some, List.headD_cons, List.tail_cons, B_b]
theorem l1In_ok {n : Nat} {a lo hi : Int} : F50 n (.i a) (.i lo) (.i hi) = some [.b (decide (a ≥ lo) && decide (a ≤ hi))] := by
  unfold F50
  simp only [I_i]
  cases decide (a ≥ lo) <;> rfl
theorem within_ok {n : Nat} {a lo hi : Int} : F53 n (.i a) (.i lo) (.i hi) = some [.b (decide (a ≥ lo) && decide (a ≤ hi))] := by
  unfold F53
  simp only [I_i]
  cases decide (a ≥ lo) <;> rfl
theorem l5Addr_ok {n : Nat} {a : Int} : F72 n (.i a) = some [.b (decide (a ≥ 1) && decide (a ≤ 255))] := by
  unfold F72
  rw [l1In_ok]
  rfl
theorem isAddr_ok {n : Nat} {a : Int} : F74 n (.i a) = some [.b (decide (a ≥ 1) && decide (a ≤ 255))] := by
  unfold F74
  rw [within_ok]
  rfl
def isAt (a : Int) (x : T) : Bool := (x.F 0).I == a

theorem specFind {n : Nat} (hn : maxN ≤ n) {xs : List T} (hm : xs.length < maxN) {q : T} {a : Int} : F73 n (.r [.l xs, q]) (.i a) = some [.i (findI (isAt a) xs)] := by
  have hlen : xs.length < 281474976710656 := hm
  rw [← find_scan]
  exact loop_scan (G := (L73_73_2 n).G) (len := xs.length) (v := fun i => [.r [.l xs, q], .i a, .i (i : Int)]) (E := fun i => cond (isAt a (xs.getD i (.i 0))) (some (some [T.i (i : Int)])) none)
    (fun i hi self => by
      simp only [L73_73_2, G73_73_2, List.getD_cons_zero, List.getD_cons_succ, F_r, I_i, L_l, at_nat]
      rw [decide_eq_true (by omega), cond_true, if_pos (by omega), wrap64 (by omega) (by omega)]
      unfold isAt
      cases ((xs.getD i (.i 0)).F 0).I == a <;> rfl)
    (fun self => by
      simp only [L73_73_2, G73_73_2, List.getD_cons_zero, List.getD_cons_succ, F_r, I_i, L_l]
      rw [decide_eq_false (by omega), cond_false]
      rfl) xs.length 0 n (by omega) (by unfold maxN at *; omega)
theorem implFind {n : Nat} (hn : maxN ≤ n) {xs : List T} (hm : xs.length < maxN) {q a : Int} : F75 n (.l xs) (.i q) (.i a) = some [.i (findI (isAt a) xs)] := by
  have hlen : xs.length < 281474976710656 := hm
  rw [← find_scan]
  exact loop_scan (G := (L75_91_2 n).G) (len := xs.length) (v := fun i => [.l xs, .i (xs.length : Int), .i (i : Int), .l xs, .i q, .i a, .i 0, .l xs, .i a, .l xs, .i q]) (E := fun i => cond (isAt a (xs.getD i (.i 0))) (some (some [T.i (i : Int)])) none)
    (fun i hi self => by
      simp only [L75_91_2, G75_91_2, List.getD_cons_zero, List.getD_cons_succ, I_i, L_l, at_nat]
      rw [decide_eq_true (by omega), cond_true, if_pos (by omega), wrap64 (by omega) (by omega)]
      unfold isAt
      cases ((xs.getD i (.i 0)).F 0).I == a <;> rfl)
    (fun self => by
      simp only [L75_91_2, G75_91_2, List.getD_cons_zero, List.getD_cons_succ, I_i, L_l]
      rw [decide_eq_false (by omega), cond_false]
      rfl) xs.length 0 n (by omega) (by unfold maxN at *; omega)

def pathE (xs : List T) (i : Nat) : Option (Option (List T)) :=
  cond (decide (((xs.getD i (.i 0)).F 0).I ≥ 1) && decide (((xs.getD i (.i 0)).F 0).I ≤ 255)) (cond (decide (((xs.getD i (.i 0)).F 1).I ≥ 0) && decide (((xs.getD i (.i 0)).F 1).I ≤ 4)) (cond (decide (((xs.getD i (.i 0)).F 2).I ≥ 100) && decide (((xs.getD i (.i 0)).F 2).I ≤ 1600))
    (cond (findI (isAt ((xs.getD i (.i 0)).F 0).I) xs != (i : Int)) (some (some [.i 6])) (cond (!(((xs.getD i (.i 0)).F 3).B == (((xs.getD i (.i 0)).F 1).I == 4))) (some (some [.i 8])) none)) (some (some [.i 3]))) (some (some [.i 3]))) (some (some [.i 3]))
def faultOf (xs : List T) (a : Int) : Option (List T) :=
  cond (decide ((xs.length : Int) < 1) || decide ((xs.length : Int) > 5)) (some [.i 2]) (scan (pathE xs) (cond (decide (findI (isAt a) xs < 0)) (some [.i 4]) (some [.i 0])) xs.length 0)
theorem pathE_code {xs : List T} {i : Nat} {r : Option (List T)} (h : pathE xs i = some r) : ∃ c : Int, r = some [.i c] ∧ c ≠ 0 := by
  unfold pathE at h
  revert h
  cases decide (((xs.getD i (.i 0)).F 0).I ≥ 1) && decide (((xs.getD i (.i 0)).F 0).I ≤ 255) <;> cases decide (((xs.getD i (.i 0)).F 1).I ≥ 0) && decide (((xs.getD i (.i 0)).F 1).I ≤ 4) <;> cases decide (((xs.getD i (.i 0)).F 2).I ≥ 100) && decide (((xs.getD i (.i 0)).F 2).I ≤ 1600) <;>
    cases findI (isAt ((xs.getD i (.i 0)).F 0).I) xs != (i : Int) <;> cases !(((xs.getD i (.i 0)).F 3).B == (((xs.getD i (.i 0)).F 1).I == 4)) <;> intro h <;> simp only [cond_true, cond_false, Option.some.injEq, reduceCtorEq] at h <;> exact ⟨_, h.symm, by decide⟩
theorem faultOf_code (xs : List T) (a : Int) : ∃ c : Int, faultOf xs a = some [.i c] ∧ (c = 0 → 0 ≤ findI (isAt a) xs) := by
  unfold faultOf
  cases decide ((xs.length : Int) < 1) || decide ((xs.length : Int) > 5) with
  | true => exact ⟨2, rfl, fun h => by omega⟩
  | false =>
    refine scan_P (E := pathE xs) (P := fun r => ∃ c : Int, r = some [T.i c] ∧ (c = 0 → 0 ≤ findI (isAt a) xs)) (fun i r hr => ?_) ?_ _ _
    · obtain ⟨c, h1, h2⟩ := pathE_code hr
      exact ⟨c, h1, fun h => absurd h h2⟩
    · by_cases h : findI (isAt a) xs < 0
      · rw [decide_eq_true h]; exact ⟨4, rfl, fun h => by omega⟩
      · rw [decide_eq_false h]; exact ⟨0, rfl, fun _ => by omega⟩

theorem specPathsFault {n : Nat} (hn : maxN ≤ n) {xs : List T} (hx : LW (tiOf tab) 117 xs) {a : Int} : F37 n (.l xs) (.i a) = faultOf xs a := by
  have hlen : xs.length < 281474976710656 := hx.len
  unfold F37 faultOf
  simp only [I_i, L_l]
  cases decide ((xs.length : Int) < 1) with
  | true => rfl
  | false =>
    cases decide ((xs.length : Int) > 5) with
    | true => rfl
    | false =>
      simp only [cond_false, Bool.or_self]
      exact loop_scan (G := (L37_37_4 n).G) (len := xs.length) (v := fun i => [.i (i : Int), .l xs, .i a]) (E := pathE xs)
        (fun i hi self => by
          obtain ⟨a0, a1, a2, a3, e1⟩ := shapePath hx (x := xs.getD i (.i 0)) (by simp [hi])
          unfold pathE
          simp only [L37_37_4, G37_37_4, List.getD_cons_zero, List.getD_cons_succ, F_r, I_i, B_b, L_l, at_nat, e1, l5Addr_ok, l1In_ok, specFind hn hx.len, Option.bind_some, List.headD_cons]
          rw [decide_eq_true (by omega), cond_true, if_pos (by omega), wrap64 (by omega) (by omega)]
          cases decide (a0 ≥ 1) && decide (a0 ≤ 255) <;> cases decide (a1 ≥ 0) && decide (a1 ≤ 4) <;> cases decide (a2 ≥ 100) && decide (a2 ≤ 1600) <;> cases findI (isAt a0) xs != (i : Int) <;> cases !(a3 == (a1 == 4)) <;> rfl)
        (fun self => by
          simp only [L37_37_4, G37_37_4, List.getD_cons_zero, List.getD_cons_succ, I_i, L_l]
          rw [decide_eq_false (by omega), cond_false]
          show (F73 n (.r [.l xs, .i a]) (.i a)).bind _ = _
          rw [specFind hn hx.len]
          rfl) xs.length 0 n (by omega) (by unfold maxN at *; omega)
theorem implPathsFault {n : Nat} (hn : maxN ≤ n) {xs : List T} (hx : LW (tiOf tab) 117 xs) {a : Int} : F38 n (.l xs) (.i a) = faultOf xs a := by
  have hlen : xs.length < 281474976710656 := hx.len
  unfold F38 faultOf
  simp only [I_i, L_l, within_ok, Option.bind_some, List.headD_cons, B_b]
  have e0 : (!(decide ((xs.length : Int) ≥ 1) && decide ((xs.length : Int) ≤ 5))) = (decide ((xs.length : Int) < 1) || decide ((xs.length : Int) > 5)) := by
    by_cases h1 : (xs.length : Int) < 1 <;> by_cases h2 : (xs.length : Int) > 5 <;> simp [h1, h2] <;> omega
  rw [e0]
  cases decide ((xs.length : Int) < 1) || decide ((xs.length : Int) > 5) with
  | true => rfl
  | false =>
      simp only [cond_false]
      exact loop_scan (G := (L38_38_4 n).G) (len := xs.length) (v := fun i => [.l xs, .i (xs.length : Int), .i (i : Int), .l xs, .i a]) (E := pathE xs)
        (fun i hi self => by
          obtain ⟨a0, a1, a2, a3, e1⟩ := shapePath hx (x := xs.getD i (.i 0)) (by simp [hi])
          have hf := find_le (p := isAt a0) hi (by unfold isAt; rw [e1]; simp [F_r, I_i])
          have e2 : decide (findI (isAt a0) xs < (i : Int)) = (findI (isAt a0) xs != (i : Int)) := by
            by_cases h : findI (isAt a0) xs = (i : Int)
            · simp [h]
            · rw [bne_iff_ne.2 h, decide_eq_true (by omega)]
          unfold pathE
          simp only [L38_38_4, G38_38_4, List.getD_cons_zero, List.getD_cons_succ, F_r, I_i, B_b, L_l, at_nat, e1, isAddr_ok, within_ok, implFind hn hx.len, Option.bind_some, List.headD_cons, e2]
          rw [decide_eq_true (by omega), cond_true, if_pos (by omega), wrap64 (by omega) (by omega)]
          cases decide (a0 ≥ 1) && decide (a0 ≤ 255) <;> cases decide (a1 ≥ 0) && decide (a1 ≤ 4) <;> cases decide (a2 ≥ 100) && decide (a2 ≤ 1600) <;> cases findI (isAt a0) xs != (i : Int) <;> cases !(a3 == (a1 == 4)) <;> rfl)
        (fun self => by
          simp only [L38_38_4, G38_38_4, List.getD_cons_zero, List.getD_cons_succ, I_i, L_l]
          rw [decide_eq_false (by omega), cond_false]
          show (F75 n (.l xs) (.i a) (.i a)).bind _ = _
          rw [implFind hn hx.len]
          rfl) xs.length 0 n (by omega) (by unfold maxN at *; omega)
def upE (xs : List T) (i : Nat) : Option (Option (List T)) := cond (!((xs.getD i (.i 0)).F 3).B) (some (some [.i ((xs.getD i (.i 0)).F 0).I])) none
def pickOf (xs : List T) (a : Int) : Option (List T) := cond (!((at_ xs (findI (isAt a) xs)).F 3).B) (some [.i a]) (scan (upE xs) (some [.i a]) xs.length 0)
theorem pickOf_int (xs : List T) (a : Int) : ∃ c : Int, pickOf xs a = some [.i c] := by
  unfold pickOf
  cases !((at_ xs (findI (isAt a) xs)).F 3).B with
  | true => exact ⟨a, rfl⟩
  | false =>
    refine scan_P (E := upE xs) (P := fun r => ∃ c : Int, r = some [T.i c]) (fun i r hr => ?_) ⟨a, rfl⟩ _ _
    unfold upE at hr
    cases hb : !((xs.getD i (.i 0)).F 3).B <;> rw [hb] at hr <;> simp only [cond_true, cond_false, Option.some.injEq, reduceCtorEq] at hr
    exact ⟨_, hr.symm⟩
theorem specPick {n : Nat} (hn : maxN ≤ n) {xs : List T} (hx : LW (tiOf tab) 117 xs) {a : Int} (h0 : 0 ≤ findI (isAt a) xs) : F85 n (.r [.l xs, .i a]) = pickOf xs a := by
  have hlen : xs.length < 281474976710656 := hx.len
  have h1 := (find_lt (isAt a) xs).1
  unfold F85 pickOf
  simp only [F_r, List.getD_cons_zero, List.getD_cons_succ, specFind hn hx.len, Option.bind_some, List.headD_cons, I_i, L_l]
  rw [if_pos ⟨h0, h1⟩]
  cases !((at_ xs (findI (isAt a) xs)).F 3).B with
  | true => rfl
  | false =>
    simp only [cond_false]
    exact loop_scan (G := (L85_85_4 n).G) (len := xs.length) (v := fun i => [.r [.l xs, .i a], .i (i : Int)]) (E := upE xs)
        (fun i hi self => by
          unfold upE
          simp only [L85_85_4, G85_85_4, List.getD_cons_zero, List.getD_cons_succ, F_r, I_i, L_l, at_nat]
          rw [decide_eq_true (by omega), cond_true, if_pos (by omega), if_pos (by omega), wrap64 (by omega) (by omega)]
          cases !((xs.getD i (.i 0)).F 3).B <;> rfl)
        (fun self => by
          simp only [L85_85_4, G85_85_4, List.getD_cons_zero, List.getD_cons_succ, F_r, I_i, L_l]
          rw [decide_eq_false (by omega), cond_false]
          rfl) xs.length 0 n (by omega) (by unfold maxN at *; omega)
theorem implPick {n : Nat} (hn : maxN ≤ n) {xs : List T} (hx : LW (tiOf tab) 117 xs) {a : Int} (h0 : 0 ≤ findI (isAt a) xs) : F86 n (.l xs) (.i a) = pickOf xs a := by
  have hlen : xs.length < 281474976710656 := hx.len
  have h1 := (find_lt (isAt a) xs).1
  unfold F86 pickOf
  simp only [implFind hn hx.len, Option.bind_some, List.headD_cons, I_i, L_l]
  rw [if_pos ⟨h0, h1⟩]
  cases !((at_ xs (findI (isAt a) xs)).F 3).B with
  | true => rfl
  | false =>
    simp only [cond_false]
    exact loop_scan (G := (L86_86_4 n).G) (len := xs.length) (v := fun i => [.l xs, .i (xs.length : Int), .i (i : Int), .l xs, .i a]) (E := upE xs)
        (fun i hi self => by
          unfold upE
          simp only [L86_86_4, G86_86_4, List.getD_cons_zero, List.getD_cons_succ, I_i, L_l, at_nat]
          rw [decide_eq_true (by omega), cond_true, if_pos (by omega), wrap64 (by omega) (by omega)]
          cases !((xs.getD i (.i 0)).F 3).B <;> rfl)
        (fun self => by
          simp only [L86_86_4, G86_86_4, List.getD_cons_zero, List.getD_cons_succ, I_i, L_l]
          rw [decide_eq_false (by omega), cond_false]
          rfl) xs.length 0 n (by omega) (by unfold maxN at *; omega)

theorem core_FnExactPickPath {n : Nat} (hn : maxN ≤ n) {xs : List T} {a1 : Int} (hx : LW (tiOf tab) 117 xs) (_ : (T.r [.l xs, .i a1]).sz ≤ 1048576) :
    ∃ c0 c1 : Int, F46 n (.l xs) (.i a1) = some [.i c0, .i c1] ∧ F47 n (.l xs) (.i a1) = some [.i c0, .i c1] := by
  obtain ⟨c, hc, h0⟩ := faultOf_code xs a1
  unfold F46 F47
  simp only [(specPathsFault hn hx).trans hc, (implPathsFault hn hx).trans hc, Option.bind_some, List.headD_cons, I_i]
  by_cases h : c = 0
  · subst h
    obtain ⟨d, hd⟩ := pickOf_int xs a1
    simp only [(specPick hn hx (h0 rfl)).trans hd, (implPick hn hx (h0 rfl)).trans hd, Option.bind_some, List.headD_cons, bne_self_eq_false, cond_false]
    exact ⟨0, d, rfl, rfl⟩
  · rw [bne_iff_ne.2 h]
    exact ⟨c, 0, rfl, rfl⟩
theorem law_FnExactPickPath : ∀ τs, WLs (tiOf tab) (flatLs (psOf (tiOf tab) [42])) τs → ∃ n, M11 n τs = some [.b true] := by
  intro τs h
  replace h : WLs (tiOf tab) [.slice 117, .int .i64] τs := h
  obtain ⟨t0, _, rfl, w0, h⟩ := h.cons_inv
  obtain ⟨t1, _, rfl, w1, h⟩ := h.cons_inv
  cases h.nil_inv
  obtain ⟨a0, rfl, h0⟩ := w0.slice_inv
  obtain ⟨a1, rfl, h1, k1⟩ := w1.int_inv
  refine ⟨maxN, ?_⟩
  have hn := Nat.le_refl maxN
  show F11 maxN _ _ = _
  unfold F11
  rw [szPaths_ok hn h0 (left := 1048576) (by omega) (by omega)]
  simp only [Option.bind_some, List.headD_cons, I_i, sub_dec]
  by_cases g1 : (1048576 : Int) < ((T.r [.l a0, .i a1]).sz : Int)
  · rw [decide_eq_true g1]; rfl
  rw [decide_eq_false g1, cond_false]
  obtain ⟨c0, c1, hs, hi⟩ := core_FnExactPickPath hn h0 (a1 := a1) (by omega)
  simp only [toPaths_ok hn (a1 := a1) h0 (by omega), eqPaths_ok (n := maxN) hn (x0 := T.l a0) (by simp only [T.sz, T.szL] at *; unfold maxN; omega), hs, hi, eqIntResult_ok, Option.bind_some, List.headD_cons, List.tail_cons, I_i, B_b, L_l, bne_self_eq_false, beq_self_eq_true, Bool.not_true, cond_false]
end Go.KX.Sa
namespace Go.Proofs.Ytpkeanlcmjbgnaa
open Go.KX Go.KX.Sa
set_option maxRecDepth 100000 in
theorem FnExactPickPath_lifted (os : Os) (started : os.Started) (H : Type) (enc : TypeId × Value → H) :
    ReturnsInHanded {} Try.checked os 11 .any (Rows.fnExactPickPathSpec.pre6 enc Try.prog Try.f11 Rows.fnExactPickPathRow.domain false) (Rows.fnExactPickPathSpec.post enc Try.prog Try.f11 false true false false) :=
  law_lifted (C := Try.checked) (ti := tiOf tab) (all := [2, 4, 40, 42, 117]) (ts := [42]) tabOk (by kernel_rfl) (by kernel_rfl) (by kernel_rfl : ownKnob Try.prog.godebug = none) started (by kernel_rfl) Try.func11
    (ChangeSpec.witness6 (enc := enc) (C := Try.checked) false ⟨#[], #[.agg #[.slice none 0 0, .int .i64 0]], []⟩ 8 (by kernel_rfl) (by kernel_rfl) (by kernel_rfl) (by kernel_rfl))
    (by kernel_rfl : laidOutB Try.prog = true) rfl (tb := 4) rfl (by kernel_rfl) (by kernel_rfl) rfl (fun ds hl => by match ds, hl with | [_], _ => rfl) (F := M11) (fun n => eo11 n) law_FnExactPickPath

theorem FnExactPickPath_holds : Rows.FnExactPickPathSaid :=
  OpenClaim.holds_of_wide 11 Try.f11 rfl rfl rfl rfl rfl rfl rfl ⟨rfl, rfl, rfl, rfl, rfl⟩ rfl rfl rfl rfl rfl (by kernel_rfl) Try.func11 (by kernel_rfl)
    (of_decide_eq_true (by kernel_rfl)) (by unfold Func.isWrapper; first | (rw [if_pos (by decide +kernel)]; kernel_rfl) | (rw [if_neg (by decide +kernel)]; exact ⟨rfl, rfl⟩))
    (fun os started H enc _ => FnExactPickPath_lifted os started H enc)
end Go.Proofs.Ytpkeanlcmjbgnaa
