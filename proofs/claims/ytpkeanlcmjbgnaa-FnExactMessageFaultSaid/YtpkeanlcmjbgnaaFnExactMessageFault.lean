/- laws.FnExactMessageFault: for every input the law returns true, and every argument reads behind the call as it read before. No further condition. -/
import Derived.Test.YtpkeanlcmjbgnaaFn
import Derived.Test.YtpkeanlcmjbgnaaRows
import Derived.KernelRfl
set_option linter.unusedVariables false
set_option linter.unusedSimpArgs false
namespace Go.KX.Sa
open Go
theorem toByteS_ok {n : Nat} (hn : maxN ≤ n) {xs : List T} (h : xs.length ≤ 1048576) : F51 n (.l xs) = some [.l xs] := by
  unfold F51
  simp only [L_l, Int.toNat_natCast]
  rw [if_pos (by simp only [limB, maxN]; omega)]
  have key := loop_up (G := (L51_3 n).G) (ex := [fun u1 => some [T.l ((u1.getD 0 (.i 0)).L)]]) (len := xs.length) (v := fun i => [.l xs, .i (i : Int), .l (lay xs (List.replicate xs.length (.i 0)) i)]) (d := some [T.l xs])
    (fun i hi self => by
      simp only [L51_3, G51_3, List.getD_cons_zero, List.getD_cons_succ, I_i, L_l]
      rw [decide_eq_true (by omega), cond_true, if_pos (by omega), lay_length (ys := xs) (k := i) (by simp) (by omega), if_pos (by omega), if_pos ⟨trivial, by simpa using hi⟩, wrap64 (by omega) (by omega), Int.toNat_natCast, at_nat, lay_set (by simp) hi rfl]
      rfl)
    (fun self => by
      simp only [L51_3, G51_3, List.getD_cons_zero, List.getD_cons_succ, I_i, L_l]
      rw [decide_eq_false (by omega), cond_false, lay_all (by simp)]
      rfl) n (by unfold maxN at hn; omega)
  exact key

theorem eqByteS_ok {n : Nat} (hn : maxN ≤ n) {xs : List T} (h : LW (tiOf tab) 5 xs) : F54 n (.l xs) (.l xs) = some [.b true] := by
  have hlen : xs.length < 281474976710656 := h.1
  unfold F54
  simp only [L_l, bne_self_eq_false, cond_false]
  exact loop_up (G := (L54_4 n).G) (len := xs.length) (v := fun i => [.l xs, .l xs, .i (i : Int)])
    (fun i hi self => by
      simp only [L54_4, G54_4, List.getD_cons_zero, List.getD_cons_succ, I_i, L_l]
      rw [decide_eq_true (by omega), cond_true, if_pos (by omega), if_pos (by omega), bne_self_eq_false, cond_false, wrap64 (by omega) (by omega)]
      rfl)
    (fun self => by
      simp only [L54_4, G54_4, List.getD_cons_zero, List.getD_cons_succ, I_i, L_l]
      rw [decide_eq_false (by omega), cond_false]
      rfl) n (by unfold maxN at hn; omega)

theorem law_FnExactMessageFault : ∀ τs, WLs (tiOf tab) (flatLs (psOf (tiOf tab) [24])) τs → ∃ n, M3 n τs = some [.b true] := by
  intro τs h
  replace h : WLs (tiOf tab) [.int .i64, .bool, .slice 5] τs := h
  obtain ⟨a, _, rfl, ha, h⟩ := h.cons_inv
  obtain ⟨b, _, rfl, hb, h⟩ := h.cons_inv
  obtain ⟨c, _, rfl, hc, h⟩ := h.cons_inv
  cases h.nil_inv
  obtain ⟨a, rfl, ha1, ha2⟩ := ha.int_inv
  obtain ⟨b, rfl⟩ := hb.bool_inv
  obtain ⟨xs, rfl, hx⟩ := hc.slice_inv
  have hlen : xs.length < 281474976710656 := hx.1
  refine ⟨maxN, ?_⟩
  show F3 maxN _ _ _ = _
  unfold F3 F12 F49 F14
  simp only [I_i, L_l]
  rw [wrap64 (by omega) (by omega)]
  by_cases h1 : (1048576 : Int) - xs.length < 0
  · simp [h1, I_i]
  · simp only [toByteS_ok (Nat.le_refl _) (by omega : xs.length ≤ 1048576), F13, F50, F15, F52, F53, F16, eqByteS_ok (Nat.le_refl _) hx, decide_eq_false h1, Option.bind_some, List.headD_cons, List.tail_cons, I_i, B_b, L_l, bne_self_eq_false, cond_false, beq_self_eq_true, Bool.not_true]
    have e1 : decide ((xs.length : Int) ≥ 1) = !decide ((xs.length : Int) < 1) := by
      by_cases h : (xs.length : Int) < 1 <;> simp [h] <;> omega
    have e2 : decide ((xs.length : Int) ≤ 400) = !decide ((xs.length : Int) > 400) := by
      by_cases h : (xs.length : Int) > 400 <;> simp [h] <;> omega
    rw [e1, e2]
    cases decide (a ≥ 0) <;> cases decide (a ≤ 9) <;> cases decide ((xs.length : Int) < 1) <;> cases decide ((xs.length : Int) > 400) <;> rfl
end Go.KX.Sa
namespace Go.Proofs.Ytpkeanlcmjbgnaa
open Go.KX Go.KX.Sa
set_option maxRecDepth 100000 in
theorem FnExactMessageFault_lifted (os : Os) (started : os.Started) (H : Type) (enc : TypeId × Value → H) :
    ReturnsInHanded {} Try.checked os 3 .any (Rows.fnExactMessageFaultSpec.pre6 enc Try.prog Try.f3 Rows.fnExactMessageFaultRow.domain false) (Rows.fnExactMessageFaultSpec.post enc Try.prog Try.f3 false true false false) :=
  law_lifted (C := Try.checked) (ti := tiOf tab) (all := [2, 4, 5, 22, 24]) (ts := [24]) tabOk (by kernel_rfl) (by kernel_rfl) (by kernel_rfl : ownKnob Try.prog.godebug = none) started (by kernel_rfl) Try.func3
    (ChangeSpec.witness6 (enc := enc) (C := Try.checked) false ⟨#[], #[.agg #[.int .i64 0, .bool false, .slice none 0 0]], []⟩ 8 (by kernel_rfl) (by kernel_rfl) (by kernel_rfl) (by kernel_rfl))
    (by kernel_rfl : laidOutB Try.prog = true) rfl (tb := 4) rfl (by kernel_rfl) (by kernel_rfl) rfl (fun ds hl => by match ds, hl with | [_], _ => rfl) (F := M3) (fun n => eo3 n) law_FnExactMessageFault

theorem FnExactMessageFault_holds : Rows.FnExactMessageFaultSaid :=
  OpenClaim.holds_of_wide 3 Try.f3 rfl rfl rfl rfl rfl rfl rfl ⟨rfl, rfl, rfl, rfl, rfl⟩ rfl rfl rfl rfl rfl (by kernel_rfl) Try.func3 (by kernel_rfl)
    (of_decide_eq_true (by kernel_rfl)) (by unfold Func.isWrapper; first | (rw [if_pos (by decide +kernel)]; kernel_rfl) | (rw [if_neg (by decide +kernel)]; exact ⟨rfl, rfl⟩))
    (fun os started H enc _ => FnExactMessageFault_lifted os started H enc)
end Go.Proofs.Ytpkeanlcmjbgnaa
