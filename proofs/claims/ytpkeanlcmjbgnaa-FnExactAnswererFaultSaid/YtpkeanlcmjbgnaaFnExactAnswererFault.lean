/- laws.FnExactAnswererFault: for every input the law returns true, and every argument reads behind the call as it read before. No further condition. -/
import Derived.Test.YtpkeanlcmjbgnaaFn
import Derived.Test.YtpkeanlcmjbgnaaRows
import Derived.KernelRfl
set_option linter.unusedVariables false
set_option linter.unusedSimpArgs false
namespace Go.KX.Sa
open Go
theorem toInt64S_ok {n : Nat} (hn : maxN ≤ n) {xs : List T} (h : xs.length ≤ 1048576) : F57 n (.l xs) = some [.l xs] := by
  unfold F57
  simp only [L_l, Int.toNat_natCast]
  rw [if_pos (by simp only [limB, maxN]; omega)]
  have key := loop_up (G := (L57_57_3 n).G) (ex := [fun u1 => some [T.l ((u1.getD 0 (.i 0)).L)]]) (len := xs.length) (v := fun i => [.l xs, .i (i : Int), .l (lay xs (List.replicate xs.length (.i 0)) i)]) (d := some [T.l xs])
    (fun i hi self => by
      simp only [L57_57_3, G57_57_3, List.getD_cons_zero, List.getD_cons_succ, I_i, L_l]
      rw [decide_eq_true (by omega), cond_true, if_pos (by omega), lay_length (ys := xs) (k := i) (by simp) (by omega), if_pos (by omega), if_pos ⟨trivial, by simpa using hi⟩, wrap64 (by omega) (by omega), Int.toNat_natCast, at_nat, lay_set (by simp) hi rfl]
      rfl)
    (fun self => by
      simp only [L57_57_3, G57_57_3, List.getD_cons_zero, List.getD_cons_succ, I_i, L_l]
      rw [decide_eq_false (by omega), cond_false, lay_all (by simp)]
      rfl) n (by unfold maxN at hn; omega)
  exact key

theorem eqInt64S_ok {n : Nat} (hn : maxN ≤ n) {xs : List T} (h : LW (tiOf tab) 2 xs) : F59 n (.l xs) (.l xs) = some [.b true] := by
  have hlen : xs.length < 281474976710656 := h.1
  unfold F59
  simp only [L_l, bne_self_eq_false, cond_false]
  exact loop_up (G := (L59_59_4 n).G) (len := xs.length) (v := fun i => [.l xs, .l xs, .i (i : Int)])
    (fun i hi self => by
      simp only [L59_59_4, G59_59_4, List.getD_cons_zero, List.getD_cons_succ, I_i, L_l]
      rw [decide_eq_true (by omega), cond_true, if_pos (by omega), if_pos (by omega), bne_self_eq_false, cond_false, wrap64 (by omega) (by omega)]
      rfl)
    (fun self => by
      simp only [L59_59_4, G59_59_4, List.getD_cons_zero, List.getD_cons_succ, I_i, L_l]
      rw [decide_eq_false (by omega), cond_false]
      rfl) n (by unfold maxN at hn; omega)

theorem scan_P {α : Type} {E : Nat → Option α} {d : α} {P : α → Prop} (hE : ∀ i r, E i = some r → P r) (hd : P d) : ∀ k i, P (scan E d k i)
  | 0, i => hd
  | k + 1, i => by
    unfold scan
    split
    · rename_i r hr
      exact hE i r hr
    · exact scan_P hE hd k (i + 1)

def codesE (xs : List T) (i : Nat) : Option (Option (List T)) := cond (decide ((xs.getD i (.i 0)).I ≥ 0)) (cond (decide ((xs.getD i (.i 0)).I ≤ 20)) none (some (some [.i 3]))) (some (some [.i 3]))

theorem specAnswerer {n : Nat} (hn : maxN ≤ n) {xs : List T} (h : xs.length ≤ 1048576) (a : Int) : loopR (L18_18_6 n).G n [.i 0, .i a, .l xs] [fun u3 => some [.i ((u3.getD 0 (.i 0)).I)], fun u4 => some [.i 0]] = scan (codesE xs) (some [.i 0]) xs.length 0 :=
  loop_scan (G := (L18_18_6 n).G) (len := xs.length) (v := fun i => [.i (i : Int), .i a, .l xs]) (E := codesE xs)
    (fun i hi self => by
      simp only [L18_18_6, G18_18_6, F50, codesE, List.getD_cons_zero, List.getD_cons_succ, I_i, L_l]
      rw [decide_eq_true (by omega), cond_true, if_pos (by omega), wrap64 (by omega) (by omega), at_nat]
      cases decide ((xs.getD i (.i 0)).I ≥ 0) <;> cases decide ((xs.getD i (.i 0)).I ≤ 20) <;> rfl)
    (fun self => by
      simp only [L18_18_6, G18_18_6, List.getD_cons_zero, List.getD_cons_succ, I_i, L_l]
      rw [decide_eq_false (by omega), cond_false]
      rfl) xs.length 0 n (by omega) (by unfold maxN at hn; omega)

theorem implAnswerer {n : Nat} (hn : maxN ≤ n) {xs : List T} (h : xs.length ≤ 1048576) : loopR (L20_20_6 n).G n [.l xs, .i (xs.length : Int), .i 0] [fun u3 => some [.i ((u3.getD 0 (.i 0)).I)], fun u4 => some [.i 0]] = scan (codesE xs) (some [.i 0]) xs.length 0 :=
  loop_scan (G := (L20_20_6 n).G) (len := xs.length) (v := fun i => [.l xs, .i (xs.length : Int), .i (i : Int)]) (E := codesE xs)
    (fun i hi self => by
      simp only [L20_20_6, G20_20_6, F53, codesE, List.getD_cons_zero, List.getD_cons_succ, I_i, L_l]
      rw [decide_eq_true (by omega), cond_true, if_pos (by omega), wrap64 (by omega) (by omega), at_nat]
      cases decide ((xs.getD i (.i 0)).I ≥ 0) <;> cases decide ((xs.getD i (.i 0)).I ≤ 20) <;> rfl)
    (fun self => by
      simp only [L20_20_6, G20_20_6, List.getD_cons_zero, List.getD_cons_succ, I_i, L_l]
      rw [decide_eq_false (by omega), cond_false]
      rfl) xs.length 0 n (by omega) (by unfold maxN at hn; omega)

theorem law_FnExactAnswererFault : ∀ τs, WLs (tiOf tab) (flatLs (psOf (tiOf tab) [33])) τs → ∃ n, M4 n τs = some [.b true] := by
  intro τs h
  replace h : WLs (tiOf tab) [.int .i64, .slice 2] τs := h
  obtain ⟨a, _, rfl, ha, h⟩ := h.cons_inv
  obtain ⟨c, _, rfl, hc, h⟩ := h.cons_inv
  cases h.nil_inv
  obtain ⟨a, rfl, ha1, ha2⟩ := ha.int_inv
  obtain ⟨xs, rfl, hx⟩ := hc.slice_inv
  have hlen : xs.length < 281474976710656 := hx.1
  refine ⟨maxN, ?_⟩
  show F4 maxN _ _ = _
  unfold F4 F17 F55 F19
  simp only [I_i, L_l]
  rw [wrap64 (by omega) (by omega)]
  by_cases h1 : (1048576 : Int) - xs.length < 0
  · simp [h1]
  · have hs : xs.length ≤ 1048576 := by omega
    obtain ⟨b, hb⟩ : ∃ b : Int, scan (codesE xs) (some [.i 0]) xs.length 0 = some [.i b] :=
      scan_P (E := codesE xs) (P := fun r => ∃ b : Int, r = some [T.i b]) (fun i r hr => by
        unfold codesE at hr
        revert hr
        cases decide ((xs.getD i (.i 0)).I ≥ 0) <;> cases decide ((xs.getD i (.i 0)).I ≤ 20) <;> intro hr <;> simp only [cond_true, cond_false, Option.some.injEq, reduceCtorEq] at hr <;> exact ⟨3, hr.symm⟩) ⟨0, rfl⟩ _ _
    simp only [toInt64S_ok (Nat.le_refl _) hs, F18, F56, F50, F20, F58, F53, F21, eqInt64S_ok (Nat.le_refl _) hx, specAnswerer (Nat.le_refl _) hs, implAnswerer (Nat.le_refl _) hs, hb, decide_eq_false h1, Option.bind_some, List.headD_cons, List.tail_cons, I_i, B_b, L_l, bne_self_eq_false, cond_false, beq_self_eq_true, Bool.not_true]
    cases decide (a ≥ 0) <;> cases decide (a ≤ 4294967295) <;> cases decide ((xs.length : Int) > 4) <;> simp [I_i, B_b]
end Go.KX.Sa
namespace Go.Proofs.Ytpkeanlcmjbgnaa
open Go.KX Go.KX.Sa
set_option maxRecDepth 100000 in
theorem FnExactAnswererFault_lifted (os : Os) (started : os.Started) (H : Type) (enc : TypeId × Value → H) :
    ReturnsInHanded {} Try.checked os 4 .any (Rows.fnExactAnswererFaultSpec.pre6 enc Try.prog Try.f4 Rows.fnExactAnswererFaultRow.domain false) (Rows.fnExactAnswererFaultSpec.post enc Try.prog Try.f4 false true false false) :=
  law_lifted (C := Try.checked) (ti := tiOf tab) (all := [2, 31, 33]) (ts := [33]) tabOk (by kernel_rfl) (by kernel_rfl) (by kernel_rfl : ownKnob Try.prog.godebug = none) started (by kernel_rfl) Try.func4
    (ChangeSpec.witness6 (enc := enc) (C := Try.checked) false ⟨#[], #[.agg #[.int .i64 0, .slice none 0 0]], []⟩ 8 (by kernel_rfl) (by kernel_rfl) (by kernel_rfl) (by kernel_rfl))
    (by kernel_rfl : laidOutB Try.prog = true) rfl (tb := 4) rfl (by kernel_rfl) (by kernel_rfl) rfl (fun ds hl => by match ds, hl with | [_], _ => rfl) (F := M4) (fun n => eo4 n) law_FnExactAnswererFault

theorem FnExactAnswererFault_holds : Rows.FnExactAnswererFaultSaid :=
  OpenClaim.holds_of_wide 4 Try.f4 rfl rfl rfl rfl rfl rfl rfl ⟨rfl, rfl, rfl, rfl, rfl⟩ rfl rfl rfl rfl rfl (by kernel_rfl) Try.func4 (by kernel_rfl)
    (of_decide_eq_true (by kernel_rfl)) (by unfold Func.isWrapper; first | (rw [if_pos (by decide +kernel)]; kernel_rfl) | (rw [if_neg (by decide +kernel)]; exact ⟨rfl, rfl⟩))
    (fun os started H enc _ => FnExactAnswererFault_lifted os started H enc)
end Go.Proofs.Ytpkeanlcmjbgnaa
