/- laws.FnExactStepFault: for every input the law returns true, and every argument reads behind the call as it read before. No further condition. -/
import Derived.Test.YtpkeanlcmjbgnabFn
import Derived.Test.YtpkeanlcmjbgnabRows
import Derived.KernelRfl
set_option linter.unusedVariables false
set_option linter.unusedSimpArgs false
namespace Go.KX.Sb
open Go
theorem shapeByte {xs : List T} (h : LW (tiOf tab) 5 xs) {x : T} (hx : x ∈ xs) : ∃ a0, x = .i a0 := by
  obtain ⟨f, rfl, hf⟩ := h.2 x hx
  obtain ⟨a0, e0, _, _⟩ := WL.int_inv (ti := tiOf tab) (k := .u8) (hf 0 (by decide))
  refine ⟨a0, ?_⟩
  show f 0 = _
  rw [e0]
theorem toByteS_ok {n : Nat} (hn : maxN ≤ n) {xs : List T} (h : LW (tiOf tab) 5 xs) (hz : (T.l xs).sz ≤ 1048576) : F124 n (.l xs) = some [.l xs] :=
  toS_ok (xs := xs) (e := 5) (Fe := fun x => some [x]) (J := fun r => r.headD (.i 0)) (by_ := 1) (z := .i 0) hn (by have := len_sz xs; simp only [limB]; omega) h.len (fun x _ => ⟨_, rfl, rfl⟩)
theorem szByteS_ok {n : Nat} (_ : maxN ≤ n) {xs : List T} (h : LW (tiOf tab) 5 xs) {left : Int} (g1 : 0 ≤ left) (g2 : left ≤ 1048576) : F118 n (.l xs) (.i left) = some [.i (sub left (T.l xs).sz)] :=
  szFlat_ok (xs := xs) h.len (szL_zero fun x hx => by
    obtain ⟨a0, rfl⟩ := shapeByte h hx
    rfl) g1 g2
theorem eqByteS_ok {n : Nat} (hn : maxN ≤ n) {τ : T} (h : τ.sz < maxN) : F131 n τ τ = some [.b true] :=
  eqT_ok (xs := τ.L) (ne := fun a b => a.I != b.I) hn (by have := sz_L τ; have := len_sz τ.L; omega) (fun x => by simp)
theorem toMessage_ok {n : Nat} (hn : maxN ≤ n) {a0 : Int} {a1 : Bool} {a2 : List T} (h2 : LW (tiOf tab) 5 a2) (hz : (T.r [.i a0, .b a1, .l a2]).sz ≤ 1048576) : F56 n (.i a0) (.b a1) (.l a2) = some [.i a0, .b a1, .l a2] := by
  simp only [T.sz, T.szL] at hz
  unfold F56
  simp only [toByteS_ok hn  h2 (by first | omega | (simp only [T.sz, T.szL]; omega)), Option.bind_some, List.headD_cons, List.tail_cons, I_i, B_b, L_l]
theorem szMessage_ok {n : Nat} (hn : maxN ≤ n) {a0 : Int} {a1 : Bool} {a2 : List T} (h2 : LW (tiOf tab) 5 a2) {left : Int} (g1 : 0 ≤ left) (g2 : left ≤ 1048576) : F54 n (.i a0) (.b a1) (.l a2) (.i left) = some [.i (sub left (T.r [.i a0, .b a1, .l a2]).sz)] := by
  have e : (T.r [.i a0, .b a1, .l a2]).sz = (T.l a2).sz := by simp only [T.sz, T.szL] <;> omega
  rw [e]
  unfold F54
  rw [szByteS_ok hn h2 (left := left) (by omega) (by omega)]
  simp only [Option.bind_some, List.headD_cons, I_i]
  exact szEnd
theorem eqMessage_ok {n : Nat} (hn : maxN ≤ n) {x0 x1 x2 : T} (h2 : x2.sz < maxN) : F59 n x0 x1 x2 x0 x1 x2 = some [.b true] := by
  unfold F59
  simp only [eqByteS_ok hn h2, bne_self_eq_false, cond_false, beq_self_eq_true, Bool.not_true, Option.bind_some, List.headD_cons, List.tail_cons, B_b]
theorem toAddrOp_ok {n : Nat} {a0 : Int} {a1 : Int} : F122 n (.i a0) (.i a1) = some [.i a0, .i a1] := Eq.trans rfl rfl
theorem eqAddrOp_ok {n : Nat} {x0 x1 : T} : F129 n x0 x1 x0 x1 = some [.b true] := by
  unfold F129
  simp only [bne_self_eq_false, cond_false, beq_self_eq_true, Bool.not_true, Option.bind_some, List.headD_cons, List.tail_cons, B_b]
theorem toSecret_ok {n : Nat} (hn : maxN ≤ n) {a0 : Int} {a1 : List T} (h1 : LW (tiOf tab) 5 a1) (hz : (T.r [.i a0, .l a1]).sz ≤ 1048576) : F123 n (.i a0) (.l a1) = some [.i a0, .l a1] := by
  simp only [T.sz, T.szL] at hz
  unfold F123
  simp only [toByteS_ok hn  h1 (by first | omega | (simp only [T.sz, T.szL]; omega)), Option.bind_some, List.headD_cons, List.tail_cons, I_i, B_b, L_l]
theorem szSecret_ok {n : Nat} (hn : maxN ≤ n) {a0 : Int} {a1 : List T} (h1 : LW (tiOf tab) 5 a1) {left : Int} (g1 : 0 ≤ left) (g2 : left ≤ 1048576) : F117 n (.i a0) (.l a1) (.i left) = some [.i (sub left (T.r [.i a0, .l a1]).sz)] := by
  have e : (T.r [.i a0, .l a1]).sz = (T.l a1).sz := by simp only [T.sz, T.szL] <;> omega
  rw [e]
  unfold F117
  rw [szByteS_ok hn h1 (left := left) (by omega) (by omega)]
  simp only [Option.bind_some, List.headD_cons, I_i]
  exact szEnd
theorem eqSecret_ok {n : Nat} (hn : maxN ≤ n) {x0 x1 : T} (h1 : x1.sz < maxN) : F130 n x0 x1 x0 x1 = some [.b true] := by
  unfold F130
  simp only [eqByteS_ok hn h1, bne_self_eq_false, cond_false, beq_self_eq_true, Bool.not_true, Option.bind_some, List.headD_cons, List.tail_cons, B_b]
theorem toStep_ok {n : Nat} (hn : maxN ≤ n) {a0 : Int} {a1 : Int} {a2 : Int} {a3 : Int} {a4 : Int} {a5 : Bool} {a6 : List T} {a7 : Int} {a8 : Int} {a9 : Int} {a10 : List T} {a11 : List T} (h6 : LW (tiOf tab) 5 a6) (h10 : LW (tiOf tab) 5 a10) (h11 : LW (tiOf tab) 5 a11) (hz : (T.r [.i a0, .i a1, .i a2, .i a3, .i a4, .b a5, .l a6, .i a7, .i a8, .i a9, .l a10, .l a11]).sz ≤ 1048576) : F51 n (.i a0) (.i a1) (.i a2) (.i a3) (.i a4) (.b a5) (.l a6) (.i a7) (.i a8) (.i a9) (.l a10) (.l a11) = some [.i a0, .i a1, .i a2, .i a3, .i a4, .b a5, .l a6, .i a7, .i a8, .i a9, .l a10, .l a11] := by
  simp only [T.sz, T.szL] at hz
  unfold F51
  simp only [toMessage_ok hn (a0 := a4) (a1 := a5) h6 (by first | omega | (simp only [T.sz, T.szL]; omega)), toSecret_ok hn (a0 := a9) h10 (by first | omega | (simp only [T.sz, T.szL]; omega)), toByteS_ok hn  h11 (by first | omega | (simp only [T.sz, T.szL]; omega)), toAddrOp_ok, Option.bind_some, List.headD_cons, List.tail_cons, I_i, B_b, L_l]
theorem szStep_ok {n : Nat} (hn : maxN ≤ n) {a0 : Int} {a1 : Int} {a2 : Int} {a3 : Int} {a4 : Int} {a5 : Bool} {a6 : List T} {a7 : Int} {a8 : Int} {a9 : Int} {a10 : List T} {a11 : List T} (h6 : LW (tiOf tab) 5 a6) (h10 : LW (tiOf tab) 5 a10) (h11 : LW (tiOf tab) 5 a11) {left : Int} (g1 : 0 ≤ left) (g2 : left ≤ 1048576) : F49 n (.i a0) (.i a1) (.i a2) (.i a3) (.i a4) (.b a5) (.l a6) (.i a7) (.i a8) (.i a9) (.l a10) (.l a11) (.i left) = some [.i (sub left (T.r [.i a0, .i a1, .i a2, .i a3, .i a4, .b a5, .l a6, .i a7, .i a8, .i a9, .l a10, .l a11]).sz)] := by
  have e : (T.r [.i a0, .i a1, .i a2, .i a3, .i a4, .b a5, .l a6, .i a7, .i a8, .i a9, .l a10, .l a11]).sz = ((T.r [.i a4, .b a5, .l a6]).sz + ((T.r [.i a9, .l a10]).sz + (T.l a11).sz)) := by simp only [T.sz, T.szL] <;> omega
  rw [e]
  unfold F49
  rw [szMessage_ok hn h6 (left := left) (by omega) (by omega)]
  simp only [Option.bind_some, List.headD_cons, I_i]
  refine szThen fun g => ?_
  rw [sub_pos g]
  rw [szSecret_ok hn h10 (left := left - ((T.r [.i a4, .b a5, .l a6]).sz : Int)) (by omega) (by omega)]
  simp only [Option.bind_some, List.headD_cons, I_i]
  refine szThen fun g => ?_
  rw [sub_pos g]
  rw [szByteS_ok hn h11 (left := left - ((T.r [.i a4, .b a5, .l a6]).sz : Int) - ((T.r [.i a9, .l a10]).sz : Int)) (by omega) (by omega)]
  simp only [Option.bind_some, List.headD_cons, I_i]
  exact szEnd
theorem eqStep_ok {n : Nat} (hn : maxN ≤ n) {x0 x1 x2 x3 x4 x5 x6 x7 x8 x9 x10 x11 : T} (h6 : x6.sz < maxN) (h10 : x10.sz < maxN) (h11 : x11.sz < maxN) : F53 n x0 x1 x2 x3 x4 x5 x6 x7 x8 x9 x10 x11 x0 x1 x2 x3 x4 x5 x6 x7 x8 x9 x10 x11 = some [.b true] := by
  unfold F53
  simp only [eqMessage_ok hn h6, eqAddrOp_ok, eqSecret_ok hn h10, eqByteS_ok hn h11, bne_self_eq_false, cond_false, beq_self_eq_true, Bool.not_true, Option.bind_some, List.headD_cons, List.tail_cons, B_b]
theorem l1In_ok {n : Nat} {a lo hi : Int} : F120 n (.i a) (.i lo) (.i hi) = some [.b (decide (a ≥ lo) && decide (a ≤ hi))] := by
  unfold F120
  simp only [I_i]
  cases decide (a ≥ lo) <;> rfl
theorem within_ok {n : Nat} {a lo hi : Int} : F81 n (.i a) (.i lo) (.i hi) = some [.b (decide (a ≥ lo) && decide (a ≤ hi))] := by
  unfold F81
  simp only [I_i]
  cases decide (a ≥ lo) <;> rfl
theorem len_pos (l : List T) : decide ((l.length : Int) > 0) = !((l.length : Int) == 0) := by
  cases l with
  | nil => rfl
  | cons x xs =>
    have h1 : (((x :: xs).length : Nat) : Int) > 0 := by simp only [List.length_cons]; omega
    rw [decide_eq_true h1, beq_false_of_ne (by omega)]
    rfl
theorem l15Msg_ok {n : Nat} {a : Int} {b : Bool} {l : List T} : F121 n (.i a) (.b b) (.l l) = some [.i (cond (decide (a ≥ 0) && decide (a ≤ 9)) (cond (decide ((l.length : Int) < 1) || decide ((l.length : Int) > 400)) 2 0) 3)] := by
  unfold F121
  simp only [l1In_ok, Option.bind_some, List.headD_cons, B_b, L_l]
  cases decide (a ≥ 0) && decide (a ≤ 9) <;> cases decide ((l.length : Int) < 1) <;> cases decide ((l.length : Int) > 400) <;> rfl
theorem implMsg_ok {n : Nat} {a : Int} {b : Bool} {l : List T} : F128 n (.i a) (.b b) (.l l) = some [.i (cond (decide (a ≥ 0) && decide (a ≤ 9)) (cond (decide ((l.length : Int) < 1) || decide ((l.length : Int) > 400)) 2 0) 3)] := by
  unfold F128 F171
  simp only [within_ok, Option.bind_some, List.headD_cons, B_b, L_l]
  have e : (decide ((l.length : Int) ≥ 1) && decide ((l.length : Int) ≤ 400)) = !(decide ((l.length : Int) < 1) || decide ((l.length : Int) > 400)) := by
    by_cases h1 : (l.length : Int) < 1 <;> by_cases h2 : (l.length : Int) > 400 <;> simp [h1, h2] <;> omega
  rw [e]
  cases decide (a ≥ 0) && decide (a ≤ 9) <;> cases decide ((l.length : Int) < 1) || decide ((l.length : Int) > 400) <;> rfl
theorem isZero_ok {n : Nat} {a0 a1 a2 a3 a4 a7 a8 a9 : Int} {b5 : Bool} {l6 l10 l11 : List T} : F126 n (.i a0) (.i a1) (.i a2) (.i a3) (.i a4) (.b b5) (.l l6) (.i a7) (.i a8) (.i a9) (.l l10) (.l l11) =
    some [.b ((a1 == 0) && ((a2 == 0) && ((a3 == 0) && ((a4 == 0) && ((!b5) && (((l6.length : Int) == 0) && (((a7 == 0) && ((a8 == 0) && true)) && ((a9 == 0) && (((l10.length : Int) == 0) && ((l11.length : Int) == 0))))))))))] := by
  unfold F126
  simp only [I_i, B_b, L_l]
  cases a1 == 0 with
  | false => rfl
  | true =>
    cases a2 == 0 with
    | false => rfl
    | true =>
      cases a3 == 0 with
      | false => rfl
      | true =>
        cases a4 == 0 with
        | false => rfl
        | true =>
          cases b5 with
          | true => rfl
          | false =>
            cases (l6.length : Int) == 0 with
            | false => rfl
            | true => cases (a7 == 0) && ((a8 == 0) && true) <;> cases a9 == 0 <;> cases (l10.length : Int) == 0 <;> rfl
theorem form1 {n : Nat} {a1 a2 a3 a4 a7 a8 a9 : Int} {b5 : Bool} {l6 l10 l11 : List T} : F119 n (.r [.i 1, .i a1, .i a2, .i a3, .i a4, .b b5, .l l6, .i a7, .i a8, .i a9, .l l10, .l l11]) = some [.b ((a4 == 0) && ((!b5) && (((l6.length : Int) == 0) && (((a7 == 0) && ((a8 == 0) && true)) && ((a9 == 0) && (((l10.length : Int) == 0) && (((l11.length : Int) == 0) && ((a2 == 0) && (a3 == 0)))))))))] := by
  refine Eq.trans (b := bif (a4 != 0) then (some [.b false]) else (bif b5 then (some [.b false]) else (bif (decide ((((l6.length : Nat) : Int) > 0))) then (some [.b false]) else (bif (!((a7 == 0) && ((a8 == 0) && true))) then (some [.b false]) else (bif (a9 != 0) then (some [.b false]) else (bif (decide ((((l10.length : Nat) : Int) > 0))) then (some [.b false]) else (bif (decide ((((l11.length : Nat) : Int) > 0))) then (some [.b false]) else (bif (a2 == 0) then (some [.b (a3 == 0)]) else (some [.b false]))))))))) (by kernel_rfl) ?_
  simp only [bne, len_pos, Bool.not_not]
  cases (a4 == 0) with
  | false => rfl
  | true =>
    cases b5 with
    | true => rfl
    | false =>
      cases ((l6.length : Int) == 0) with
      | false => rfl
      | true =>
        cases ((a7 == 0) && ((a8 == 0) && true)) with
        | false => rfl
        | true =>
          cases (a9 == 0) with
          | false => rfl
          | true =>
            cases ((l10.length : Int) == 0) with
            | false => rfl
            | true =>
              cases ((l11.length : Int) == 0) with
              | false => rfl
              | true =>
                cases (a2 == 0) with
                | false => rfl
                | true =>
                  rfl
theorem step1 {n : Nat} {a1 a2 a3 a4 a7 a8 a9 : Int} {b5 : Bool} {l6 l10 l11 : List T} : ∃ c : Int, F50 n (.i 1) (.i a1) (.i a2) (.i a3) (.i a4) (.b b5) (.l l6) (.i a7) (.i a8) (.i a9) (.l l10) (.l l11) = some [.i c] ∧ F52 n (.i 1) (.i a1) (.i a2) (.i a3) (.i a4) (.b b5) (.l l6) (.i a7) (.i a8) (.i a9) (.l l10) (.l l11) = some [.i c] := by
  have hb : F125 n (.i 1) (.i a1) (.i a2) (.i a3) (.i a4) (.b b5) (.l l6) (.i a7) (.i a8) (.i a9) (.l l10) (.l l11) = some [.i 1, .i 0, .i a2, .i a3, .i a4, .b b5, .l l6, .i a7, .i a8, .i a9, .l l10, .l l11] := by kernel_rfl
  have hd : F127 n (.i 1) (.i a1) (.i a2) (.i a3) (.i a4) (.b b5) (.l l6) (.i a7) (.i a8) (.i a9) (.l l10) (.l l11) = ((F170 n (.i a1)).bind fun r8 => some [(r8.headD (.i 0))]) := by kernel_rfl
  have hg : (((0 : Int) == 0) && ((a2 == 0) && ((a3 == 0) && ((a4 == 0) && ((!b5) && (((l6.length : Int) == 0) && (((a7 == 0) && ((a8 == 0) && true)) && ((a9 == 0) && (((l10.length : Int) == 0) && ((l11.length : Int) == 0)))))))))) = ((a4 == 0) && ((!b5) && (((l6.length : Int) == 0) && (((a7 == 0) && ((a8 == 0) && true)) && ((a9 == 0) && (((l10.length : Int) == 0) && (((l11.length : Int) == 0) && ((a2 == 0) && (a3 == 0))))))))) := by
    have t0 : ((0 : Int) == 0) = true := by decide
    have t1 : ((([] : List T).length : Int) == 0) = true := by decide
    simp only [t0, t1, Bool.not_false, Bool.true_and, Bool.and_true]
    ac_rfl
  unfold F50 F52
  rw [form1, hb, hd]
  simp only [isZero_ok, Option.bind_some, List.headD_cons, List.tail_cons, I_i, B_b, L_l]
  rw [hg]
  cases hf : ((a4 == 0) && ((!b5) && (((l6.length : Int) == 0) && (((a7 == 0) && ((a8 == 0) && true)) && ((a9 == 0) && (((l10.length : Int) == 0) && (((l11.length : Int) == 0) && ((a2 == 0) && (a3 == 0))))))))) with
  | false => exact ⟨1, rfl, rfl⟩
  | true =>
  simp only [l1In_ok, within_ok, Option.bind_some, List.headD_cons, List.tail_cons, I_i, B_b, L_l, Int.reduceBEq, cond_true, cond_false, ge_iff_le, Int.reduceLE, decide_true, Bool.and_true, Bool.true_and, Bool.not_true, F170]
  simp only [Bool.and_eq_true, beq_iff_eq] at hf
  obtain ⟨z_a4, z_b5, z_l6, _, z_a9, z_l10, z_l11, z_a2, z_a3⟩ := hf
  subst z_a2
  subst z_a3
  have d11 : decide ((l11.length : Int) > 500) = false := decide_eq_false (by omega)
  simp only [Bool.not_true, cond_false, ge_iff_le, Int.reduceLE, decide_true, Bool.and_true, Bool.true_and, d11, l15Msg_ok, implMsg_ok, Option.bind_some, List.headD_cons]
  cases decide (0 ≤ a1) && decide (a1 ≤ 1) <;> exact ⟨_, rfl, rfl⟩
theorem form2 {n : Nat} {a1 a2 a3 a4 a7 a8 a9 : Int} {b5 : Bool} {l6 l10 l11 : List T} : F119 n (.r [.i 2, .i a1, .i a2, .i a3, .i a4, .b b5, .l l6, .i a7, .i a8, .i a9, .l l10, .l l11]) = some [.b ((a4 == 0) && ((!b5) && (((l6.length : Int) == 0) && (((a7 == 0) && ((a8 == 0) && true)) && ((a9 == 0) && (((l10.length : Int) == 0) && (((l11.length : Int) == 0) && ((a1 == 0) && (a3 == 0)))))))))] := by
  refine Eq.trans (b := bif (a4 != 0) then (some [.b false]) else (bif b5 then (some [.b false]) else (bif (decide ((((l6.length : Nat) : Int) > 0))) then (some [.b false]) else (bif (!((a7 == 0) && ((a8 == 0) && true))) then (some [.b false]) else (bif (a9 != 0) then (some [.b false]) else (bif (decide ((((l10.length : Nat) : Int) > 0))) then (some [.b false]) else (bif (decide ((((l11.length : Nat) : Int) > 0))) then (some [.b false]) else (bif (a1 == 0) then (some [.b (a3 == 0)]) else (some [.b false]))))))))) (by kernel_rfl) ?_
  simp only [bne, len_pos, Bool.not_not]
  cases (a4 == 0) with
  | false => rfl
  | true =>
    cases b5 with
    | true => rfl
    | false =>
      cases ((l6.length : Int) == 0) with
      | false => rfl
      | true =>
        cases ((a7 == 0) && ((a8 == 0) && true)) with
        | false => rfl
        | true =>
          cases (a9 == 0) with
          | false => rfl
          | true =>
            cases ((l10.length : Int) == 0) with
            | false => rfl
            | true =>
              cases ((l11.length : Int) == 0) with
              | false => rfl
              | true =>
                cases (a1 == 0) with
                | false => rfl
                | true =>
                  rfl
theorem step2 {n : Nat} {a1 a2 a3 a4 a7 a8 a9 : Int} {b5 : Bool} {l6 l10 l11 : List T} : ∃ c : Int, F50 n (.i 2) (.i a1) (.i a2) (.i a3) (.i a4) (.b b5) (.l l6) (.i a7) (.i a8) (.i a9) (.l l10) (.l l11) = some [.i c] ∧ F52 n (.i 2) (.i a1) (.i a2) (.i a3) (.i a4) (.b b5) (.l l6) (.i a7) (.i a8) (.i a9) (.l l10) (.l l11) = some [.i c] := by
  have hb : F125 n (.i 2) (.i a1) (.i a2) (.i a3) (.i a4) (.b b5) (.l l6) (.i a7) (.i a8) (.i a9) (.l l10) (.l l11) = some [.i 2, .i a1, .i 0, .i a3, .i a4, .b b5, .l l6, .i a7, .i a8, .i a9, .l l10, .l l11] := by kernel_rfl
  have hd : F127 n (.i 2) (.i a1) (.i a2) (.i a3) (.i a4) (.b b5) (.l l6) (.i a7) (.i a8) (.i a9) (.l l10) (.l l11) = ((F81 n (.i a2) (.i 0) (.i 1000000)).bind fun r1 => some [(r1.headD (.i 0))]) := by kernel_rfl
  have hg : ((a1 == 0) && (((0 : Int) == 0) && ((a3 == 0) && ((a4 == 0) && ((!b5) && (((l6.length : Int) == 0) && (((a7 == 0) && ((a8 == 0) && true)) && ((a9 == 0) && (((l10.length : Int) == 0) && ((l11.length : Int) == 0)))))))))) = ((a4 == 0) && ((!b5) && (((l6.length : Int) == 0) && (((a7 == 0) && ((a8 == 0) && true)) && ((a9 == 0) && (((l10.length : Int) == 0) && (((l11.length : Int) == 0) && ((a1 == 0) && (a3 == 0))))))))) := by
    have t0 : ((0 : Int) == 0) = true := by decide
    have t1 : ((([] : List T).length : Int) == 0) = true := by decide
    simp only [t0, t1, Bool.not_false, Bool.true_and, Bool.and_true]
    ac_rfl
  unfold F50 F52
  rw [form2, hb, hd]
  simp only [isZero_ok, Option.bind_some, List.headD_cons, List.tail_cons, I_i, B_b, L_l]
  rw [hg]
  cases hf : ((a4 == 0) && ((!b5) && (((l6.length : Int) == 0) && (((a7 == 0) && ((a8 == 0) && true)) && ((a9 == 0) && (((l10.length : Int) == 0) && (((l11.length : Int) == 0) && ((a1 == 0) && (a3 == 0))))))))) with
  | false => exact ⟨1, rfl, rfl⟩
  | true =>
  simp only [l1In_ok, within_ok, Option.bind_some, List.headD_cons, List.tail_cons, I_i, B_b, L_l, Int.reduceBEq, cond_true, cond_false, ge_iff_le, Int.reduceLE, decide_true, Bool.and_true, Bool.true_and, Bool.not_true]
  simp only [Bool.and_eq_true, beq_iff_eq] at hf
  obtain ⟨z_a4, z_b5, z_l6, _, z_a9, z_l10, z_l11, z_a1, z_a3⟩ := hf
  subst z_a1
  subst z_a3
  have d11 : decide ((l11.length : Int) > 500) = false := decide_eq_false (by omega)
  simp only [Bool.not_true, cond_false, ge_iff_le, Int.reduceLE, decide_true, Bool.and_true, Bool.true_and, d11, l15Msg_ok, implMsg_ok, Option.bind_some, List.headD_cons]
  cases decide (0 ≤ a2) && decide (a2 ≤ 1000000) <;> exact ⟨_, rfl, rfl⟩
theorem form3 {n : Nat} {a1 a2 a3 a4 a7 a8 a9 : Int} {b5 : Bool} {l6 l10 l11 : List T} : F119 n (.r [.i 3, .i a1, .i a2, .i a3, .i a4, .b b5, .l l6, .i a7, .i a8, .i a9, .l l10, .l l11]) = some [.b (((a7 == 0) && ((a8 == 0) && true)) && ((a9 == 0) && (((l10.length : Int) == 0) && (((l11.length : Int) == 0) && ((a2 == 0) && (a3 == 0))))))] := by
  refine Eq.trans (b := bif (!((a7 == 0) && ((a8 == 0) && true))) then (some [.b false]) else (bif (a9 != 0) then (some [.b false]) else (bif (decide ((((l10.length : Nat) : Int) > 0))) then (some [.b false]) else (bif (decide ((((l11.length : Nat) : Int) > 0))) then (some [.b false]) else (bif (a2 == 0) then (some [.b (a3 == 0)]) else (some [.b false])))))) (by kernel_rfl) ?_
  simp only [bne, len_pos, Bool.not_not]
  cases ((a7 == 0) && ((a8 == 0) && true)) with
  | false => rfl
  | true =>
    cases (a9 == 0) with
    | false => rfl
    | true =>
      cases ((l10.length : Int) == 0) with
      | false => rfl
      | true =>
        cases ((l11.length : Int) == 0) with
        | false => rfl
        | true =>
          cases (a2 == 0) with
          | false => rfl
          | true =>
            rfl
theorem step3 {n : Nat} {a1 a2 a3 a4 a7 a8 a9 : Int} {b5 : Bool} {l6 l10 l11 : List T} : ∃ c : Int, F50 n (.i 3) (.i a1) (.i a2) (.i a3) (.i a4) (.b b5) (.l l6) (.i a7) (.i a8) (.i a9) (.l l10) (.l l11) = some [.i c] ∧ F52 n (.i 3) (.i a1) (.i a2) (.i a3) (.i a4) (.b b5) (.l l6) (.i a7) (.i a8) (.i a9) (.l l10) (.l l11) = some [.i c] := by
  have hb : F125 n (.i 3) (.i a1) (.i a2) (.i a3) (.i a4) (.b b5) (.l l6) (.i a7) (.i a8) (.i a9) (.l l10) (.l l11) = some [.i 3, .i 0, .i a2, .i a3, .i 0, .b false, .l [], .i a7, .i a8, .i a9, .l l10, .l l11] := by kernel_rfl
  have hd : F127 n (.i 3) (.i a1) (.i a2) (.i a3) (.i a4) (.b b5) (.l l6) (.i a7) (.i a8) (.i a9) (.l l10) (.l l11) = ((F170 n (.i a1)).bind fun r8 => some [(r8.headD (.i 0))]) := by kernel_rfl
  have hg : (((0 : Int) == 0) && ((a2 == 0) && ((a3 == 0) && (((0 : Int) == 0) && ((!false) && (((([] : List T).length : Int) == 0) && (((a7 == 0) && ((a8 == 0) && true)) && ((a9 == 0) && (((l10.length : Int) == 0) && ((l11.length : Int) == 0)))))))))) = (((a7 == 0) && ((a8 == 0) && true)) && ((a9 == 0) && (((l10.length : Int) == 0) && (((l11.length : Int) == 0) && ((a2 == 0) && (a3 == 0)))))) := by
    have t0 : ((0 : Int) == 0) = true := by decide
    have t1 : ((([] : List T).length : Int) == 0) = true := by decide
    simp only [t0, t1, Bool.not_false, Bool.true_and, Bool.and_true]
    ac_rfl
  unfold F50 F52
  rw [form3, hb, hd]
  simp only [isZero_ok, Option.bind_some, List.headD_cons, List.tail_cons, I_i, B_b, L_l]
  rw [hg]
  cases hf : (((a7 == 0) && ((a8 == 0) && true)) && ((a9 == 0) && (((l10.length : Int) == 0) && (((l11.length : Int) == 0) && ((a2 == 0) && (a3 == 0)))))) with
  | false => exact ⟨1, rfl, rfl⟩
  | true =>
  simp only [l1In_ok, within_ok, Option.bind_some, List.headD_cons, List.tail_cons, I_i, B_b, L_l, Int.reduceBEq, cond_true, cond_false, ge_iff_le, Int.reduceLE, decide_true, Bool.and_true, Bool.true_and, Bool.not_true, F170]
  simp only [Bool.and_eq_true, beq_iff_eq] at hf
  obtain ⟨_, z_a9, z_l10, z_l11, z_a2, z_a3⟩ := hf
  subst z_a2
  subst z_a3
  have d11 : decide ((l11.length : Int) > 500) = false := decide_eq_false (by omega)
  simp only [Bool.not_true, cond_false, ge_iff_le, Int.reduceLE, decide_true, Bool.and_true, Bool.true_and, d11, l15Msg_ok, implMsg_ok, Option.bind_some, List.headD_cons]
  cases decide (0 ≤ a1) && decide (a1 ≤ 1) <;> cases decide (a4 ≥ 0) && decide (a4 ≤ 9) <;> cases decide ((l6.length : Int) < 1) || decide ((l6.length : Int) > 400) <;> exact ⟨_, rfl, rfl⟩
theorem form4 {n : Nat} {a1 a2 a3 a4 a7 a8 a9 : Int} {b5 : Bool} {l6 l10 l11 : List T} : F119 n (.r [.i 4, .i a1, .i a2, .i a3, .i a4, .b b5, .l l6, .i a7, .i a8, .i a9, .l l10, .l l11]) = some [.b ((a4 == 0) && ((!b5) && (((l6.length : Int) == 0) && ((a9 == 0) && (((l10.length : Int) == 0) && (((l11.length : Int) == 0) && ((a2 == 0) && (a3 == 0))))))))] := by
  refine Eq.trans (b := bif (a4 != 0) then (some [.b false]) else (bif b5 then (some [.b false]) else (bif (decide ((((l6.length : Nat) : Int) > 0))) then (some [.b false]) else (bif (a9 != 0) then (some [.b false]) else (bif (decide ((((l10.length : Nat) : Int) > 0))) then (some [.b false]) else (bif (decide ((((l11.length : Nat) : Int) > 0))) then (some [.b false]) else (bif (a2 == 0) then (some [.b (a3 == 0)]) else (some [.b false])))))))) (by kernel_rfl) ?_
  simp only [bne, len_pos, Bool.not_not]
  cases (a4 == 0) with
  | false => rfl
  | true =>
    cases b5 with
    | true => rfl
    | false =>
      cases ((l6.length : Int) == 0) with
      | false => rfl
      | true =>
        cases (a9 == 0) with
        | false => rfl
        | true =>
          cases ((l10.length : Int) == 0) with
          | false => rfl
          | true =>
            cases ((l11.length : Int) == 0) with
            | false => rfl
            | true =>
              cases (a2 == 0) with
              | false => rfl
              | true =>
                rfl
theorem step4 {n : Nat} {a1 a2 a3 a4 a7 a8 a9 : Int} {b5 : Bool} {l6 l10 l11 : List T} : ∃ c : Int, F50 n (.i 4) (.i a1) (.i a2) (.i a3) (.i a4) (.b b5) (.l l6) (.i a7) (.i a8) (.i a9) (.l l10) (.l l11) = some [.i c] ∧ F52 n (.i 4) (.i a1) (.i a2) (.i a3) (.i a4) (.b b5) (.l l6) (.i a7) (.i a8) (.i a9) (.l l10) (.l l11) = some [.i c] := by
  have hb : F125 n (.i 4) (.i a1) (.i a2) (.i a3) (.i a4) (.b b5) (.l l6) (.i a7) (.i a8) (.i a9) (.l l10) (.l l11) = some [.i 4, .i 0, .i a2, .i a3, .i a4, .b b5, .l l6, .i 0, .i 0, .i a9, .l l10, .l l11] := by kernel_rfl
  have hd : F127 n (.i 4) (.i a1) (.i a2) (.i a3) (.i a4) (.b b5) (.l l6) (.i a7) (.i a8) (.i a9) (.l l10) (.l l11) = ((F170 n (.i a1)).bind fun r8 => some [(r8.headD (.i 0))]) := by kernel_rfl
  have hg : (((0 : Int) == 0) && ((a2 == 0) && ((a3 == 0) && ((a4 == 0) && ((!b5) && (((l6.length : Int) == 0) && ((((0 : Int) == 0) && (((0 : Int) == 0) && true)) && ((a9 == 0) && (((l10.length : Int) == 0) && ((l11.length : Int) == 0)))))))))) = ((a4 == 0) && ((!b5) && (((l6.length : Int) == 0) && ((a9 == 0) && (((l10.length : Int) == 0) && (((l11.length : Int) == 0) && ((a2 == 0) && (a3 == 0)))))))) := by
    have t0 : ((0 : Int) == 0) = true := by decide
    have t1 : ((([] : List T).length : Int) == 0) = true := by decide
    simp only [t0, t1, Bool.not_false, Bool.true_and, Bool.and_true]
    ac_rfl
  unfold F50 F52
  rw [form4, hb, hd]
  simp only [isZero_ok, Option.bind_some, List.headD_cons, List.tail_cons, I_i, B_b, L_l]
  rw [hg]
  cases hf : ((a4 == 0) && ((!b5) && (((l6.length : Int) == 0) && ((a9 == 0) && (((l10.length : Int) == 0) && (((l11.length : Int) == 0) && ((a2 == 0) && (a3 == 0)))))))) with
  | false => exact ⟨1, rfl, rfl⟩
  | true =>
  simp only [l1In_ok, within_ok, Option.bind_some, List.headD_cons, List.tail_cons, I_i, B_b, L_l, Int.reduceBEq, cond_true, cond_false, ge_iff_le, Int.reduceLE, decide_true, Bool.and_true, Bool.true_and, Bool.not_true, F170]
  simp only [Bool.and_eq_true, beq_iff_eq] at hf
  obtain ⟨z_a4, z_b5, z_l6, z_a9, z_l10, z_l11, z_a2, z_a3⟩ := hf
  subst z_a2
  subst z_a3
  have d11 : decide ((l11.length : Int) > 500) = false := decide_eq_false (by omega)
  simp only [Bool.not_true, cond_false, ge_iff_le, Int.reduceLE, decide_true, Bool.and_true, Bool.true_and, d11, l15Msg_ok, implMsg_ok, Option.bind_some, List.headD_cons]
  cases decide (0 ≤ a1) && decide (a1 ≤ 1) <;> exact ⟨_, rfl, rfl⟩
theorem form5 {n : Nat} {a1 a2 a3 a4 a7 a8 a9 : Int} {b5 : Bool} {l6 l10 l11 : List T} : F119 n (.r [.i 5, .i a1, .i a2, .i a3, .i a4, .b b5, .l l6, .i a7, .i a8, .i a9, .l l10, .l l11]) = some [.b ((a4 == 0) && ((!b5) && (((l6.length : Int) == 0) && (((a7 == 0) && ((a8 == 0) && true)) && ((a9 == 0) && (((l10.length : Int) == 0) && (((l11.length : Int) == 0) && ((a2 == 0) && (a3 == 0)))))))))] := by
  refine Eq.trans (b := bif (a4 != 0) then (some [.b false]) else (bif b5 then (some [.b false]) else (bif (decide ((((l6.length : Nat) : Int) > 0))) then (some [.b false]) else (bif (!((a7 == 0) && ((a8 == 0) && true))) then (some [.b false]) else (bif (a9 != 0) then (some [.b false]) else (bif (decide ((((l10.length : Nat) : Int) > 0))) then (some [.b false]) else (bif (decide ((((l11.length : Nat) : Int) > 0))) then (some [.b false]) else (bif (a2 == 0) then (some [.b (a3 == 0)]) else (some [.b false]))))))))) (by kernel_rfl) ?_
  simp only [bne, len_pos, Bool.not_not]
  cases (a4 == 0) with
  | false => rfl
  | true =>
    cases b5 with
    | true => rfl
    | false =>
      cases ((l6.length : Int) == 0) with
      | false => rfl
      | true =>
        cases ((a7 == 0) && ((a8 == 0) && true)) with
        | false => rfl
        | true =>
          cases (a9 == 0) with
          | false => rfl
          | true =>
            cases ((l10.length : Int) == 0) with
            | false => rfl
            | true =>
              cases ((l11.length : Int) == 0) with
              | false => rfl
              | true =>
                cases (a2 == 0) with
                | false => rfl
                | true =>
                  rfl
theorem step5 {n : Nat} {a1 a2 a3 a4 a7 a8 a9 : Int} {b5 : Bool} {l6 l10 l11 : List T} : ∃ c : Int, F50 n (.i 5) (.i a1) (.i a2) (.i a3) (.i a4) (.b b5) (.l l6) (.i a7) (.i a8) (.i a9) (.l l10) (.l l11) = some [.i c] ∧ F52 n (.i 5) (.i a1) (.i a2) (.i a3) (.i a4) (.b b5) (.l l6) (.i a7) (.i a8) (.i a9) (.l l10) (.l l11) = some [.i c] := by
  have hb : F125 n (.i 5) (.i a1) (.i a2) (.i a3) (.i a4) (.b b5) (.l l6) (.i a7) (.i a8) (.i a9) (.l l10) (.l l11) = some [.i 5, .i 0, .i a2, .i a3, .i a4, .b b5, .l l6, .i a7, .i a8, .i a9, .l l10, .l l11] := by kernel_rfl
  have hd : F127 n (.i 5) (.i a1) (.i a2) (.i a3) (.i a4) (.b b5) (.l l6) (.i a7) (.i a8) (.i a9) (.l l10) (.l l11) = ((F170 n (.i a1)).bind fun r8 => some [(r8.headD (.i 0))]) := by kernel_rfl
  have hg : (((0 : Int) == 0) && ((a2 == 0) && ((a3 == 0) && ((a4 == 0) && ((!b5) && (((l6.length : Int) == 0) && (((a7 == 0) && ((a8 == 0) && true)) && ((a9 == 0) && (((l10.length : Int) == 0) && ((l11.length : Int) == 0)))))))))) = ((a4 == 0) && ((!b5) && (((l6.length : Int) == 0) && (((a7 == 0) && ((a8 == 0) && true)) && ((a9 == 0) && (((l10.length : Int) == 0) && (((l11.length : Int) == 0) && ((a2 == 0) && (a3 == 0))))))))) := by
    have t0 : ((0 : Int) == 0) = true := by decide
    have t1 : ((([] : List T).length : Int) == 0) = true := by decide
    simp only [t0, t1, Bool.not_false, Bool.true_and, Bool.and_true]
    ac_rfl
  unfold F50 F52
  rw [form5, hb, hd]
  simp only [isZero_ok, Option.bind_some, List.headD_cons, List.tail_cons, I_i, B_b, L_l]
  rw [hg]
  cases hf : ((a4 == 0) && ((!b5) && (((l6.length : Int) == 0) && (((a7 == 0) && ((a8 == 0) && true)) && ((a9 == 0) && (((l10.length : Int) == 0) && (((l11.length : Int) == 0) && ((a2 == 0) && (a3 == 0))))))))) with
  | false => exact ⟨1, rfl, rfl⟩
  | true =>
  simp only [l1In_ok, within_ok, Option.bind_some, List.headD_cons, List.tail_cons, I_i, B_b, L_l, Int.reduceBEq, cond_true, cond_false, ge_iff_le, Int.reduceLE, decide_true, Bool.and_true, Bool.true_and, Bool.not_true, F170]
  simp only [Bool.and_eq_true, beq_iff_eq] at hf
  obtain ⟨z_a4, z_b5, z_l6, _, z_a9, z_l10, z_l11, z_a2, z_a3⟩ := hf
  subst z_a2
  subst z_a3
  have d11 : decide ((l11.length : Int) > 500) = false := decide_eq_false (by omega)
  simp only [Bool.not_true, cond_false, ge_iff_le, Int.reduceLE, decide_true, Bool.and_true, Bool.true_and, d11, l15Msg_ok, implMsg_ok, Option.bind_some, List.headD_cons]
  cases decide (0 ≤ a1) && decide (a1 ≤ 1) <;> exact ⟨_, rfl, rfl⟩
theorem form6 {n : Nat} {a1 a2 a3 a4 a7 a8 a9 : Int} {b5 : Bool} {l6 l10 l11 : List T} : F119 n (.r [.i 6, .i a1, .i a2, .i a3, .i a4, .b b5, .l l6, .i a7, .i a8, .i a9, .l l10, .l l11]) = some [.b ((a4 == 0) && ((!b5) && (((l6.length : Int) == 0) && (((a7 == 0) && ((a8 == 0) && true)) && ((a9 == 0) && (((l10.length : Int) == 0) && (((l11.length : Int) == 0) && ((a2 == 0) && (a3 == 0)))))))))] := by
  refine Eq.trans (b := bif (a4 != 0) then (some [.b false]) else (bif b5 then (some [.b false]) else (bif (decide ((((l6.length : Nat) : Int) > 0))) then (some [.b false]) else (bif (!((a7 == 0) && ((a8 == 0) && true))) then (some [.b false]) else (bif (a9 != 0) then (some [.b false]) else (bif (decide ((((l10.length : Nat) : Int) > 0))) then (some [.b false]) else (bif (decide ((((l11.length : Nat) : Int) > 0))) then (some [.b false]) else (bif (a2 == 0) then (some [.b (a3 == 0)]) else (some [.b false]))))))))) (by kernel_rfl) ?_
  simp only [bne, len_pos, Bool.not_not]
  cases (a4 == 0) with
  | false => rfl
  | true =>
    cases b5 with
    | true => rfl
    | false =>
      cases ((l6.length : Int) == 0) with
      | false => rfl
      | true =>
        cases ((a7 == 0) && ((a8 == 0) && true)) with
        | false => rfl
        | true =>
          cases (a9 == 0) with
          | false => rfl
          | true =>
            cases ((l10.length : Int) == 0) with
            | false => rfl
            | true =>
              cases ((l11.length : Int) == 0) with
              | false => rfl
              | true =>
                cases (a2 == 0) with
                | false => rfl
                | true =>
                  rfl
theorem step6 {n : Nat} {a1 a2 a3 a4 a7 a8 a9 : Int} {b5 : Bool} {l6 l10 l11 : List T} : ∃ c : Int, F50 n (.i 6) (.i a1) (.i a2) (.i a3) (.i a4) (.b b5) (.l l6) (.i a7) (.i a8) (.i a9) (.l l10) (.l l11) = some [.i c] ∧ F52 n (.i 6) (.i a1) (.i a2) (.i a3) (.i a4) (.b b5) (.l l6) (.i a7) (.i a8) (.i a9) (.l l10) (.l l11) = some [.i c] := by
  have hb : F125 n (.i 6) (.i a1) (.i a2) (.i a3) (.i a4) (.b b5) (.l l6) (.i a7) (.i a8) (.i a9) (.l l10) (.l l11) = some [.i 6, .i 0, .i a2, .i a3, .i a4, .b b5, .l l6, .i a7, .i a8, .i a9, .l l10, .l l11] := by kernel_rfl
  have hd : F127 n (.i 6) (.i a1) (.i a2) (.i a3) (.i a4) (.b b5) (.l l6) (.i a7) (.i a8) (.i a9) (.l l10) (.l l11) = ((F170 n (.i a1)).bind fun r8 => some [(r8.headD (.i 0))]) := by kernel_rfl
  have hg : (((0 : Int) == 0) && ((a2 == 0) && ((a3 == 0) && ((a4 == 0) && ((!b5) && (((l6.length : Int) == 0) && (((a7 == 0) && ((a8 == 0) && true)) && ((a9 == 0) && (((l10.length : Int) == 0) && ((l11.length : Int) == 0)))))))))) = ((a4 == 0) && ((!b5) && (((l6.length : Int) == 0) && (((a7 == 0) && ((a8 == 0) && true)) && ((a9 == 0) && (((l10.length : Int) == 0) && (((l11.length : Int) == 0) && ((a2 == 0) && (a3 == 0))))))))) := by
    have t0 : ((0 : Int) == 0) = true := by decide
    have t1 : ((([] : List T).length : Int) == 0) = true := by decide
    simp only [t0, t1, Bool.not_false, Bool.true_and, Bool.and_true]
    ac_rfl
  unfold F50 F52
  rw [form6, hb, hd]
  simp only [isZero_ok, Option.bind_some, List.headD_cons, List.tail_cons, I_i, B_b, L_l]
  rw [hg]
  cases hf : ((a4 == 0) && ((!b5) && (((l6.length : Int) == 0) && (((a7 == 0) && ((a8 == 0) && true)) && ((a9 == 0) && (((l10.length : Int) == 0) && (((l11.length : Int) == 0) && ((a2 == 0) && (a3 == 0))))))))) with
  | false => exact ⟨1, rfl, rfl⟩
  | true =>
  simp only [l1In_ok, within_ok, Option.bind_some, List.headD_cons, List.tail_cons, I_i, B_b, L_l, Int.reduceBEq, cond_true, cond_false, ge_iff_le, Int.reduceLE, decide_true, Bool.and_true, Bool.true_and, Bool.not_true, F170]
  simp only [Bool.and_eq_true, beq_iff_eq] at hf
  obtain ⟨z_a4, z_b5, z_l6, _, z_a9, z_l10, z_l11, z_a2, z_a3⟩ := hf
  subst z_a2
  subst z_a3
  have d11 : decide ((l11.length : Int) > 500) = false := decide_eq_false (by omega)
  simp only [Bool.not_true, cond_false, ge_iff_le, Int.reduceLE, decide_true, Bool.and_true, Bool.true_and, d11, l15Msg_ok, implMsg_ok, Option.bind_some, List.headD_cons]
  cases decide (0 ≤ a1) && decide (a1 ≤ 1) <;> exact ⟨_, rfl, rfl⟩
theorem form7 {n : Nat} {a1 a2 a3 a4 a7 a8 a9 : Int} {b5 : Bool} {l6 l10 l11 : List T} : F119 n (.r [.i 7, .i a1, .i a2, .i a3, .i a4, .b b5, .l l6, .i a7, .i a8, .i a9, .l l10, .l l11]) = some [.b ((a4 == 0) && ((!b5) && (((l6.length : Int) == 0) && (((a7 == 0) && ((a8 == 0) && true)) && (((l11.length : Int) == 0) && ((a2 == 0) && (a3 == 0)))))))] := by
  refine Eq.trans (b := bif (a4 != 0) then (some [.b false]) else (bif b5 then (some [.b false]) else (bif (decide ((((l6.length : Nat) : Int) > 0))) then (some [.b false]) else (bif (!((a7 == 0) && ((a8 == 0) && true))) then (some [.b false]) else (bif (decide ((((l11.length : Nat) : Int) > 0))) then (some [.b false]) else (bif (a2 == 0) then (some [.b (a3 == 0)]) else (some [.b false]))))))) (by kernel_rfl) ?_
  simp only [bne, len_pos, Bool.not_not]
  cases (a4 == 0) with
  | false => rfl
  | true =>
    cases b5 with
    | true => rfl
    | false =>
      cases ((l6.length : Int) == 0) with
      | false => rfl
      | true =>
        cases ((a7 == 0) && ((a8 == 0) && true)) with
        | false => rfl
        | true =>
          cases ((l11.length : Int) == 0) with
          | false => rfl
          | true =>
            cases (a2 == 0) with
            | false => rfl
            | true =>
              rfl
theorem step7 {n : Nat} {a1 a2 a3 a4 a7 a8 a9 : Int} {b5 : Bool} {l6 l10 l11 : List T} : ∃ c : Int, F50 n (.i 7) (.i a1) (.i a2) (.i a3) (.i a4) (.b b5) (.l l6) (.i a7) (.i a8) (.i a9) (.l l10) (.l l11) = some [.i c] ∧ F52 n (.i 7) (.i a1) (.i a2) (.i a3) (.i a4) (.b b5) (.l l6) (.i a7) (.i a8) (.i a9) (.l l10) (.l l11) = some [.i c] := by
  have hb : F125 n (.i 7) (.i a1) (.i a2) (.i a3) (.i a4) (.b b5) (.l l6) (.i a7) (.i a8) (.i a9) (.l l10) (.l l11) = some [.i 7, .i 0, .i a2, .i a3, .i a4, .b b5, .l l6, .i a7, .i a8, .i 0, .l [], .l l11] := by kernel_rfl
  have hd : F127 n (.i 7) (.i a1) (.i a2) (.i a3) (.i a4) (.b b5) (.l l6) (.i a7) (.i a8) (.i a9) (.l l10) (.l l11) = ((F170 n (.i a1)).bind fun r8 => some [(r8.headD (.i 0))]) := by kernel_rfl
  have hg : (((0 : Int) == 0) && ((a2 == 0) && ((a3 == 0) && ((a4 == 0) && ((!b5) && (((l6.length : Int) == 0) && (((a7 == 0) && ((a8 == 0) && true)) && (((0 : Int) == 0) && (((([] : List T).length : Int) == 0) && ((l11.length : Int) == 0)))))))))) = ((a4 == 0) && ((!b5) && (((l6.length : Int) == 0) && (((a7 == 0) && ((a8 == 0) && true)) && (((l11.length : Int) == 0) && ((a2 == 0) && (a3 == 0))))))) := by
    have t0 : ((0 : Int) == 0) = true := by decide
    have t1 : ((([] : List T).length : Int) == 0) = true := by decide
    simp only [t0, t1, Bool.not_false, Bool.true_and, Bool.and_true]
    ac_rfl
  unfold F50 F52
  rw [form7, hb, hd]
  simp only [isZero_ok, Option.bind_some, List.headD_cons, List.tail_cons, I_i, B_b, L_l]
  rw [hg]
  cases hf : ((a4 == 0) && ((!b5) && (((l6.length : Int) == 0) && (((a7 == 0) && ((a8 == 0) && true)) && (((l11.length : Int) == 0) && ((a2 == 0) && (a3 == 0))))))) with
  | false => exact ⟨1, rfl, rfl⟩
  | true =>
  simp only [l1In_ok, within_ok, Option.bind_some, List.headD_cons, List.tail_cons, I_i, B_b, L_l, Int.reduceBEq, cond_true, cond_false, ge_iff_le, Int.reduceLE, decide_true, Bool.and_true, Bool.true_and, Bool.not_true, F170]
  simp only [Bool.and_eq_true, beq_iff_eq] at hf
  obtain ⟨z_a4, z_b5, z_l6, _, z_l11, z_a2, z_a3⟩ := hf
  subst z_a2
  subst z_a3
  have d11 : decide ((l11.length : Int) > 500) = false := decide_eq_false (by omega)
  simp only [Bool.not_true, cond_false, ge_iff_le, Int.reduceLE, decide_true, Bool.and_true, Bool.true_and, d11, l15Msg_ok, implMsg_ok, Option.bind_some, List.headD_cons]
  cases decide (0 ≤ a1) && decide (a1 ≤ 1) <;> exact ⟨_, rfl, rfl⟩
theorem form8 {n : Nat} {a1 a2 a3 a4 a7 a8 a9 : Int} {b5 : Bool} {l6 l10 l11 : List T} : F119 n (.r [.i 8, .i a1, .i a2, .i a3, .i a4, .b b5, .l l6, .i a7, .i a8, .i a9, .l l10, .l l11]) = some [.b ((a4 == 0) && ((!b5) && (((l6.length : Int) == 0) && (((a7 == 0) && ((a8 == 0) && true)) && ((a9 == 0) && (((l10.length : Int) == 0) && (((l11.length : Int) == 0) && ((a1 == 0) && (a3 == 0)))))))))] := by
  refine Eq.trans (b := bif (a4 != 0) then (some [.b false]) else (bif b5 then (some [.b false]) else (bif (decide ((((l6.length : Nat) : Int) > 0))) then (some [.b false]) else (bif (!((a7 == 0) && ((a8 == 0) && true))) then (some [.b false]) else (bif (a9 != 0) then (some [.b false]) else (bif (decide ((((l10.length : Nat) : Int) > 0))) then (some [.b false]) else (bif (decide ((((l11.length : Nat) : Int) > 0))) then (some [.b false]) else (bif (a1 == 0) then (some [.b (a3 == 0)]) else (some [.b false]))))))))) (by kernel_rfl) ?_
  simp only [bne, len_pos, Bool.not_not]
  cases (a4 == 0) with
  | false => rfl
  | true =>
    cases b5 with
    | true => rfl
    | false =>
      cases ((l6.length : Int) == 0) with
      | false => rfl
      | true =>
        cases ((a7 == 0) && ((a8 == 0) && true)) with
        | false => rfl
        | true =>
          cases (a9 == 0) with
          | false => rfl
          | true =>
            cases ((l10.length : Int) == 0) with
            | false => rfl
            | true =>
              cases ((l11.length : Int) == 0) with
              | false => rfl
              | true =>
                cases (a1 == 0) with
                | false => rfl
                | true =>
                  rfl
theorem step8 {n : Nat} {a1 a2 a3 a4 a7 a8 a9 : Int} {b5 : Bool} {l6 l10 l11 : List T} : ∃ c : Int, F50 n (.i 8) (.i a1) (.i a2) (.i a3) (.i a4) (.b b5) (.l l6) (.i a7) (.i a8) (.i a9) (.l l10) (.l l11) = some [.i c] ∧ F52 n (.i 8) (.i a1) (.i a2) (.i a3) (.i a4) (.b b5) (.l l6) (.i a7) (.i a8) (.i a9) (.l l10) (.l l11) = some [.i c] := by
  have hb : F125 n (.i 8) (.i a1) (.i a2) (.i a3) (.i a4) (.b b5) (.l l6) (.i a7) (.i a8) (.i a9) (.l l10) (.l l11) = some [.i 8, .i a1, .i 0, .i a3, .i a4, .b b5, .l l6, .i a7, .i a8, .i a9, .l l10, .l l11] := by kernel_rfl
  have hd : F127 n (.i 8) (.i a1) (.i a2) (.i a3) (.i a4) (.b b5) (.l l6) (.i a7) (.i a8) (.i a9) (.l l10) (.l l11) = ((F81 n (.i a2) (.i 0) (.i 59)).bind fun r1 => some [(r1.headD (.i 0))]) := by kernel_rfl
  have hg : ((a1 == 0) && (((0 : Int) == 0) && ((a3 == 0) && ((a4 == 0) && ((!b5) && (((l6.length : Int) == 0) && (((a7 == 0) && ((a8 == 0) && true)) && ((a9 == 0) && (((l10.length : Int) == 0) && ((l11.length : Int) == 0)))))))))) = ((a4 == 0) && ((!b5) && (((l6.length : Int) == 0) && (((a7 == 0) && ((a8 == 0) && true)) && ((a9 == 0) && (((l10.length : Int) == 0) && (((l11.length : Int) == 0) && ((a1 == 0) && (a3 == 0))))))))) := by
    have t0 : ((0 : Int) == 0) = true := by decide
    have t1 : ((([] : List T).length : Int) == 0) = true := by decide
    simp only [t0, t1, Bool.not_false, Bool.true_and, Bool.and_true]
    ac_rfl
  unfold F50 F52
  rw [form8, hb, hd]
  simp only [isZero_ok, Option.bind_some, List.headD_cons, List.tail_cons, I_i, B_b, L_l]
  rw [hg]
  cases hf : ((a4 == 0) && ((!b5) && (((l6.length : Int) == 0) && (((a7 == 0) && ((a8 == 0) && true)) && ((a9 == 0) && (((l10.length : Int) == 0) && (((l11.length : Int) == 0) && ((a1 == 0) && (a3 == 0))))))))) with
  | false => exact ⟨1, rfl, rfl⟩
  | true =>
  simp only [l1In_ok, within_ok, Option.bind_some, List.headD_cons, List.tail_cons, I_i, B_b, L_l, Int.reduceBEq, cond_true, cond_false, ge_iff_le, Int.reduceLE, decide_true, Bool.and_true, Bool.true_and, Bool.not_true]
  simp only [Bool.and_eq_true, beq_iff_eq] at hf
  obtain ⟨z_a4, z_b5, z_l6, _, z_a9, z_l10, z_l11, z_a1, z_a3⟩ := hf
  subst z_a1
  subst z_a3
  have d11 : decide ((l11.length : Int) > 500) = false := decide_eq_false (by omega)
  simp only [Bool.not_true, cond_false, ge_iff_le, Int.reduceLE, decide_true, Bool.and_true, Bool.true_and, d11, l15Msg_ok, implMsg_ok, Option.bind_some, List.headD_cons]
  cases decide (0 ≤ a2) && decide (a2 ≤ 59) <;> exact ⟨_, rfl, rfl⟩
theorem form9 {n : Nat} {a1 a2 a3 a4 a7 a8 a9 : Int} {b5 : Bool} {l6 l10 l11 : List T} : F119 n (.r [.i 9, .i a1, .i a2, .i a3, .i a4, .b b5, .l l6, .i a7, .i a8, .i a9, .l l10, .l l11]) = some [.b ((a4 == 0) && ((!b5) && (((l6.length : Int) == 0) && (((a7 == 0) && ((a8 == 0) && true)) && ((a9 == 0) && (((l10.length : Int) == 0) && (((l11.length : Int) == 0) && ((a1 == 0) && (a3 == 0)))))))))] := by
  refine Eq.trans (b := bif (a4 != 0) then (some [.b false]) else (bif b5 then (some [.b false]) else (bif (decide ((((l6.length : Nat) : Int) > 0))) then (some [.b false]) else (bif (!((a7 == 0) && ((a8 == 0) && true))) then (some [.b false]) else (bif (a9 != 0) then (some [.b false]) else (bif (decide ((((l10.length : Nat) : Int) > 0))) then (some [.b false]) else (bif (decide ((((l11.length : Nat) : Int) > 0))) then (some [.b false]) else (bif (a1 == 0) then (some [.b (a3 == 0)]) else (some [.b false]))))))))) (by kernel_rfl) ?_
  simp only [bne, len_pos, Bool.not_not]
  cases (a4 == 0) with
  | false => rfl
  | true =>
    cases b5 with
    | true => rfl
    | false =>
      cases ((l6.length : Int) == 0) with
      | false => rfl
      | true =>
        cases ((a7 == 0) && ((a8 == 0) && true)) with
        | false => rfl
        | true =>
          cases (a9 == 0) with
          | false => rfl
          | true =>
            cases ((l10.length : Int) == 0) with
            | false => rfl
            | true =>
              cases ((l11.length : Int) == 0) with
              | false => rfl
              | true =>
                cases (a1 == 0) with
                | false => rfl
                | true =>
                  rfl
theorem step9 {n : Nat} {a1 a2 a3 a4 a7 a8 a9 : Int} {b5 : Bool} {l6 l10 l11 : List T} : ∃ c : Int, F50 n (.i 9) (.i a1) (.i a2) (.i a3) (.i a4) (.b b5) (.l l6) (.i a7) (.i a8) (.i a9) (.l l10) (.l l11) = some [.i c] ∧ F52 n (.i 9) (.i a1) (.i a2) (.i a3) (.i a4) (.b b5) (.l l6) (.i a7) (.i a8) (.i a9) (.l l10) (.l l11) = some [.i c] := by
  have hb : F125 n (.i 9) (.i a1) (.i a2) (.i a3) (.i a4) (.b b5) (.l l6) (.i a7) (.i a8) (.i a9) (.l l10) (.l l11) = some [.i 9, .i a1, .i 0, .i a3, .i a4, .b b5, .l l6, .i a7, .i a8, .i a9, .l l10, .l l11] := by kernel_rfl
  have hd : F127 n (.i 9) (.i a1) (.i a2) (.i a3) (.i a4) (.b b5) (.l l6) (.i a7) (.i a8) (.i a9) (.l l10) (.l l11) = ((F81 n (.i a2) (.i 0) (.i 59)).bind fun r1 => some [(r1.headD (.i 0))]) := by kernel_rfl
  have hg : ((a1 == 0) && (((0 : Int) == 0) && ((a3 == 0) && ((a4 == 0) && ((!b5) && (((l6.length : Int) == 0) && (((a7 == 0) && ((a8 == 0) && true)) && ((a9 == 0) && (((l10.length : Int) == 0) && ((l11.length : Int) == 0)))))))))) = ((a4 == 0) && ((!b5) && (((l6.length : Int) == 0) && (((a7 == 0) && ((a8 == 0) && true)) && ((a9 == 0) && (((l10.length : Int) == 0) && (((l11.length : Int) == 0) && ((a1 == 0) && (a3 == 0))))))))) := by
    have t0 : ((0 : Int) == 0) = true := by decide
    have t1 : ((([] : List T).length : Int) == 0) = true := by decide
    simp only [t0, t1, Bool.not_false, Bool.true_and, Bool.and_true]
    ac_rfl
  unfold F50 F52
  rw [form9, hb, hd]
  simp only [isZero_ok, Option.bind_some, List.headD_cons, List.tail_cons, I_i, B_b, L_l]
  rw [hg]
  cases hf : ((a4 == 0) && ((!b5) && (((l6.length : Int) == 0) && (((a7 == 0) && ((a8 == 0) && true)) && ((a9 == 0) && (((l10.length : Int) == 0) && (((l11.length : Int) == 0) && ((a1 == 0) && (a3 == 0))))))))) with
  | false => exact ⟨1, rfl, rfl⟩
  | true =>
  simp only [l1In_ok, within_ok, Option.bind_some, List.headD_cons, List.tail_cons, I_i, B_b, L_l, Int.reduceBEq, cond_true, cond_false, ge_iff_le, Int.reduceLE, decide_true, Bool.and_true, Bool.true_and, Bool.not_true]
  simp only [Bool.and_eq_true, beq_iff_eq] at hf
  obtain ⟨z_a4, z_b5, z_l6, _, z_a9, z_l10, z_l11, z_a1, z_a3⟩ := hf
  subst z_a1
  subst z_a3
  have d11 : decide ((l11.length : Int) > 500) = false := decide_eq_false (by omega)
  simp only [Bool.not_true, cond_false, ge_iff_le, Int.reduceLE, decide_true, Bool.and_true, Bool.true_and, d11, l15Msg_ok, implMsg_ok, Option.bind_some, List.headD_cons]
  cases decide (0 ≤ a2) && decide (a2 ≤ 59) <;> exact ⟨_, rfl, rfl⟩
theorem form10 {n : Nat} {a1 a2 a3 a4 a7 a8 a9 : Int} {b5 : Bool} {l6 l10 l11 : List T} : F119 n (.r [.i 10, .i a1, .i a2, .i a3, .i a4, .b b5, .l l6, .i a7, .i a8, .i a9, .l l10, .l l11]) = some [.b ((a4 == 0) && ((!b5) && (((l6.length : Int) == 0) && (((a7 == 0) && ((a8 == 0) && true)) && ((a9 == 0) && (((l10.length : Int) == 0) && (((l11.length : Int) == 0) && ((a1 == 0) && (a3 == 0)))))))))] := by
  refine Eq.trans (b := bif (a4 != 0) then (some [.b false]) else (bif b5 then (some [.b false]) else (bif (decide ((((l6.length : Nat) : Int) > 0))) then (some [.b false]) else (bif (!((a7 == 0) && ((a8 == 0) && true))) then (some [.b false]) else (bif (a9 != 0) then (some [.b false]) else (bif (decide ((((l10.length : Nat) : Int) > 0))) then (some [.b false]) else (bif (decide ((((l11.length : Nat) : Int) > 0))) then (some [.b false]) else (bif (a1 == 0) then (some [.b (a3 == 0)]) else (some [.b false]))))))))) (by kernel_rfl) ?_
  simp only [bne, len_pos, Bool.not_not]
  cases (a4 == 0) with
  | false => rfl
  | true =>
    cases b5 with
    | true => rfl
    | false =>
      cases ((l6.length : Int) == 0) with
      | false => rfl
      | true =>
        cases ((a7 == 0) && ((a8 == 0) && true)) with
        | false => rfl
        | true =>
          cases (a9 == 0) with
          | false => rfl
          | true =>
            cases ((l10.length : Int) == 0) with
            | false => rfl
            | true =>
              cases ((l11.length : Int) == 0) with
              | false => rfl
              | true =>
                cases (a1 == 0) with
                | false => rfl
                | true =>
                  rfl
theorem step10 {n : Nat} {a1 a2 a3 a4 a7 a8 a9 : Int} {b5 : Bool} {l6 l10 l11 : List T} : ∃ c : Int, F50 n (.i 10) (.i a1) (.i a2) (.i a3) (.i a4) (.b b5) (.l l6) (.i a7) (.i a8) (.i a9) (.l l10) (.l l11) = some [.i c] ∧ F52 n (.i 10) (.i a1) (.i a2) (.i a3) (.i a4) (.b b5) (.l l6) (.i a7) (.i a8) (.i a9) (.l l10) (.l l11) = some [.i c] := by
  have hb : F125 n (.i 10) (.i a1) (.i a2) (.i a3) (.i a4) (.b b5) (.l l6) (.i a7) (.i a8) (.i a9) (.l l10) (.l l11) = some [.i 10, .i a1, .i 0, .i a3, .i a4, .b b5, .l l6, .i a7, .i a8, .i a9, .l l10, .l l11] := by kernel_rfl
  have hd : F127 n (.i 10) (.i a1) (.i a2) (.i a3) (.i a4) (.b b5) (.l l6) (.i a7) (.i a8) (.i a9) (.l l10) (.l l11) = ((F81 n (.i a2) (.i 0) (.i 59)).bind fun r1 => some [(r1.headD (.i 0))]) := by kernel_rfl
  have hg : ((a1 == 0) && (((0 : Int) == 0) && ((a3 == 0) && ((a4 == 0) && ((!b5) && (((l6.length : Int) == 0) && (((a7 == 0) && ((a8 == 0) && true)) && ((a9 == 0) && (((l10.length : Int) == 0) && ((l11.length : Int) == 0)))))))))) = ((a4 == 0) && ((!b5) && (((l6.length : Int) == 0) && (((a7 == 0) && ((a8 == 0) && true)) && ((a9 == 0) && (((l10.length : Int) == 0) && (((l11.length : Int) == 0) && ((a1 == 0) && (a3 == 0))))))))) := by
    have t0 : ((0 : Int) == 0) = true := by decide
    have t1 : ((([] : List T).length : Int) == 0) = true := by decide
    simp only [t0, t1, Bool.not_false, Bool.true_and, Bool.and_true]
    ac_rfl
  unfold F50 F52
  rw [form10, hb, hd]
  simp only [isZero_ok, Option.bind_some, List.headD_cons, List.tail_cons, I_i, B_b, L_l]
  rw [hg]
  cases hf : ((a4 == 0) && ((!b5) && (((l6.length : Int) == 0) && (((a7 == 0) && ((a8 == 0) && true)) && ((a9 == 0) && (((l10.length : Int) == 0) && (((l11.length : Int) == 0) && ((a1 == 0) && (a3 == 0))))))))) with
  | false => exact ⟨1, rfl, rfl⟩
  | true =>
  simp only [l1In_ok, within_ok, Option.bind_some, List.headD_cons, List.tail_cons, I_i, B_b, L_l, Int.reduceBEq, cond_true, cond_false, ge_iff_le, Int.reduceLE, decide_true, Bool.and_true, Bool.true_and, Bool.not_true]
  simp only [Bool.and_eq_true, beq_iff_eq] at hf
  obtain ⟨z_a4, z_b5, z_l6, _, z_a9, z_l10, z_l11, z_a1, z_a3⟩ := hf
  subst z_a1
  subst z_a3
  have d11 : decide ((l11.length : Int) > 500) = false := decide_eq_false (by omega)
  simp only [Bool.not_true, cond_false, ge_iff_le, Int.reduceLE, decide_true, Bool.and_true, Bool.true_and, d11, l15Msg_ok, implMsg_ok, Option.bind_some, List.headD_cons]
  cases decide (0 ≤ a2) && decide (a2 ≤ 59) <;> exact ⟨_, rfl, rfl⟩
theorem form11 {n : Nat} {a1 a2 a3 a4 a7 a8 a9 : Int} {b5 : Bool} {l6 l10 l11 : List T} : F119 n (.r [.i 11, .i a1, .i a2, .i a3, .i a4, .b b5, .l l6, .i a7, .i a8, .i a9, .l l10, .l l11]) = some [.b ((a4 == 0) && ((!b5) && (((l6.length : Int) == 0) && (((a7 == 0) && ((a8 == 0) && true)) && ((a9 == 0) && (((l10.length : Int) == 0) && ((l11.length : Int) == 0)))))))] := by
  refine Eq.trans (b := bif (a4 != 0) then (some [.b false]) else (bif b5 then (some [.b false]) else (bif (decide ((((l6.length : Nat) : Int) > 0))) then (some [.b false]) else (bif (!((a7 == 0) && ((a8 == 0) && true))) then (some [.b false]) else (bif (a9 != 0) then (some [.b false]) else (bif (decide ((((l10.length : Nat) : Int) > 0))) then (some [.b false]) else (bif (decide ((((l11.length : Nat) : Int) > 0))) then (some [.b false]) else (some [.b true])))))))) (by kernel_rfl) ?_
  simp only [bne, len_pos, Bool.not_not]
  cases (a4 == 0) with
  | false => rfl
  | true =>
    cases b5 with
    | true => rfl
    | false =>
      cases ((l6.length : Int) == 0) with
      | false => rfl
      | true =>
        cases ((a7 == 0) && ((a8 == 0) && true)) with
        | false => rfl
        | true =>
          cases (a9 == 0) with
          | false => rfl
          | true =>
            cases ((l10.length : Int) == 0) with
            | false => rfl
            | true =>
              cases ((l11.length : Int) == 0) with
              | false => rfl
              | true =>
                rfl
theorem step11 {n : Nat} {a1 a2 a3 a4 a7 a8 a9 : Int} {b5 : Bool} {l6 l10 l11 : List T} : ∃ c : Int, F50 n (.i 11) (.i a1) (.i a2) (.i a3) (.i a4) (.b b5) (.l l6) (.i a7) (.i a8) (.i a9) (.l l10) (.l l11) = some [.i c] ∧ F52 n (.i 11) (.i a1) (.i a2) (.i a3) (.i a4) (.b b5) (.l l6) (.i a7) (.i a8) (.i a9) (.l l10) (.l l11) = some [.i c] := by
  have hb : F125 n (.i 11) (.i a1) (.i a2) (.i a3) (.i a4) (.b b5) (.l l6) (.i a7) (.i a8) (.i a9) (.l l10) (.l l11) = some [.i 11, .i 0, .i 0, .i 0, .i a4, .b b5, .l l6, .i a7, .i a8, .i a9, .l l10, .l l11] := by kernel_rfl
  have hd : F127 n (.i 11) (.i a1) (.i a2) (.i a3) (.i a4) (.b b5) (.l l6) (.i a7) (.i a8) (.i a9) (.l l10) (.l l11) = ((F81 n (.i a2) (.i 0) (.i 59)).bind fun r5 => bif (r5.headD (.i 0)).B then ((F81 n (.i a1) (.i 0) (.i 499)).bind fun r6 => bif (r6.headD (.i 0)).B then ((F81 n (.i a3) (.i 1) (.i 255)).bind fun r7 => some [(r7.headD (.i 0))]) else (some [.b false])) else (some [.b false])) := by kernel_rfl
  have hg : (((0 : Int) == 0) && (((0 : Int) == 0) && (((0 : Int) == 0) && ((a4 == 0) && ((!b5) && (((l6.length : Int) == 0) && (((a7 == 0) && ((a8 == 0) && true)) && ((a9 == 0) && (((l10.length : Int) == 0) && ((l11.length : Int) == 0)))))))))) = ((a4 == 0) && ((!b5) && (((l6.length : Int) == 0) && (((a7 == 0) && ((a8 == 0) && true)) && ((a9 == 0) && (((l10.length : Int) == 0) && ((l11.length : Int) == 0))))))) := by
    have t0 : ((0 : Int) == 0) = true := by decide
    have t1 : ((([] : List T).length : Int) == 0) = true := by decide
    simp only [t0, t1, Bool.not_false, Bool.true_and, Bool.and_true]
  unfold F50 F52
  rw [form11, hb, hd]
  simp only [isZero_ok, Option.bind_some, List.headD_cons, List.tail_cons, I_i, B_b, L_l]
  rw [hg]
  cases hf : ((a4 == 0) && ((!b5) && (((l6.length : Int) == 0) && (((a7 == 0) && ((a8 == 0) && true)) && ((a9 == 0) && (((l10.length : Int) == 0) && ((l11.length : Int) == 0))))))) with
  | false => exact ⟨1, rfl, rfl⟩
  | true =>
  simp only [l1In_ok, within_ok, Option.bind_some, List.headD_cons, List.tail_cons, I_i, B_b, L_l, Int.reduceBEq, cond_true, cond_false, ge_iff_le, Int.reduceLE, decide_true, Bool.and_true, Bool.true_and, Bool.not_true]
  simp only [Bool.and_eq_true, beq_iff_eq] at hf
  obtain ⟨z_a4, z_b5, z_l6, _, z_a9, z_l10, z_l11⟩ := hf
  have d11 : decide ((l11.length : Int) > 500) = false := decide_eq_false (by omega)
  simp only [Bool.not_true, cond_false, ge_iff_le, Int.reduceLE, decide_true, Bool.and_true, Bool.true_and, d11, l15Msg_ok, implMsg_ok, Option.bind_some, List.headD_cons]
  cases decide (0 ≤ a1) && decide (a1 ≤ 499) <;> cases decide (0 ≤ a2) && decide (a2 ≤ 59) <;> cases decide (1 ≤ a3) && decide (a3 ≤ 255) <;> exact ⟨_, rfl, rfl⟩
theorem form12 {n : Nat} {a1 a2 a3 a4 a7 a8 a9 : Int} {b5 : Bool} {l6 l10 l11 : List T} : F119 n (.r [.i 12, .i a1, .i a2, .i a3, .i a4, .b b5, .l l6, .i a7, .i a8, .i a9, .l l10, .l l11]) = some [.b ((a4 == 0) && ((!b5) && (((l6.length : Int) == 0) && (((a7 == 0) && ((a8 == 0) && true)) && ((a9 == 0) && (((l10.length : Int) == 0) && ((a2 == 0) && (a3 == 0))))))))] := by
  refine Eq.trans (b := bif (a4 != 0) then (some [.b false]) else (bif b5 then (some [.b false]) else (bif (decide ((((l6.length : Nat) : Int) > 0))) then (some [.b false]) else (bif (!((a7 == 0) && ((a8 == 0) && true))) then (some [.b false]) else (bif (a9 != 0) then (some [.b false]) else (bif (decide ((((l10.length : Nat) : Int) > 0))) then (some [.b false]) else (bif (a2 == 0) then (some [.b (a3 == 0)]) else (some [.b false])))))))) (by kernel_rfl) ?_
  simp only [bne, len_pos, Bool.not_not]
  cases (a4 == 0) with
  | false => rfl
  | true =>
    cases b5 with
    | true => rfl
    | false =>
      cases ((l6.length : Int) == 0) with
      | false => rfl
      | true =>
        cases ((a7 == 0) && ((a8 == 0) && true)) with
        | false => rfl
        | true =>
          cases (a9 == 0) with
          | false => rfl
          | true =>
            cases ((l10.length : Int) == 0) with
            | false => rfl
            | true =>
              cases (a2 == 0) with
              | false => rfl
              | true =>
                rfl
theorem step12 {n : Nat} {a1 a2 a3 a4 a7 a8 a9 : Int} {b5 : Bool} {l6 l10 l11 : List T} : ∃ c : Int, F50 n (.i 12) (.i a1) (.i a2) (.i a3) (.i a4) (.b b5) (.l l6) (.i a7) (.i a8) (.i a9) (.l l10) (.l l11) = some [.i c] ∧ F52 n (.i 12) (.i a1) (.i a2) (.i a3) (.i a4) (.b b5) (.l l6) (.i a7) (.i a8) (.i a9) (.l l10) (.l l11) = some [.i c] := by
  have hb : F125 n (.i 12) (.i a1) (.i a2) (.i a3) (.i a4) (.b b5) (.l l6) (.i a7) (.i a8) (.i a9) (.l l10) (.l l11) = some [.i 12, .i 0, .i a2, .i a3, .i a4, .b b5, .l l6, .i a7, .i a8, .i a9, .l l10, .l []] := by kernel_rfl
  have hd : F127 n (.i 12) (.i a1) (.i a2) (.i a3) (.i a4) (.b b5) (.l l6) (.i a7) (.i a8) (.i a9) (.l l10) (.l l11) = ((F170 n (.i a1)).bind fun r8 => some [(r8.headD (.i 0))]) := by kernel_rfl
  have hg : (((0 : Int) == 0) && ((a2 == 0) && ((a3 == 0) && ((a4 == 0) && ((!b5) && (((l6.length : Int) == 0) && (((a7 == 0) && ((a8 == 0) && true)) && ((a9 == 0) && (((l10.length : Int) == 0) && ((([] : List T).length : Int) == 0)))))))))) = ((a4 == 0) && ((!b5) && (((l6.length : Int) == 0) && (((a7 == 0) && ((a8 == 0) && true)) && ((a9 == 0) && (((l10.length : Int) == 0) && ((a2 == 0) && (a3 == 0)))))))) := by
    have t0 : ((0 : Int) == 0) = true := by decide
    have t1 : ((([] : List T).length : Int) == 0) = true := by decide
    simp only [t0, t1, Bool.not_false, Bool.true_and, Bool.and_true]
    ac_rfl
  unfold F50 F52
  rw [form12, hb, hd]
  simp only [isZero_ok, Option.bind_some, List.headD_cons, List.tail_cons, I_i, B_b, L_l]
  rw [hg]
  cases hf : ((a4 == 0) && ((!b5) && (((l6.length : Int) == 0) && (((a7 == 0) && ((a8 == 0) && true)) && ((a9 == 0) && (((l10.length : Int) == 0) && ((a2 == 0) && (a3 == 0)))))))) with
  | false => exact ⟨1, rfl, rfl⟩
  | true =>
  simp only [l1In_ok, within_ok, Option.bind_some, List.headD_cons, List.tail_cons, I_i, B_b, L_l, Int.reduceBEq, cond_true, cond_false, ge_iff_le, Int.reduceLE, decide_true, Bool.and_true, Bool.true_and, Bool.not_true, F170]
  simp only [Bool.and_eq_true, beq_iff_eq] at hf
  obtain ⟨z_a4, z_b5, z_l6, _, z_a9, z_l10, z_a2, z_a3⟩ := hf
  subst z_a2
  subst z_a3
  simp only [Bool.not_true, cond_false, ge_iff_le, Int.reduceLE, decide_true, Bool.and_true, Bool.true_and, l15Msg_ok, implMsg_ok, Option.bind_some, List.headD_cons]
  cases decide (0 ≤ a1) && decide (a1 ≤ 1) <;> cases decide ((l11.length : Int) > 500) <;> exact ⟨_, rfl, rfl⟩
theorem core_FnExactStepFault {n : Nat} (_ : maxN ≤ n) {a0 a1 a2 a3 a4 a7 a8 a9 : Int} {a5 : Bool} {a6 a10 a11 : List T} (_ : LW (tiOf tab) 5 a6) (_ : LW (tiOf tab) 5 a10) (_ : LW (tiOf tab) 5 a11) (_ : (T.r [.i a0, .i a1, .i a2, .i a3, .i a4, .b a5, .l a6, .i a7, .i a8, .i a9, .l a10, .l a11]).sz ≤ 1048576) :
    ∃ c : Int, F50 n (.i a0) (.i a1) (.i a2) (.i a3) (.i a4) (.b a5) (.l a6) (.i a7) (.i a8) (.i a9) (.l a10) (.l a11) = some [.i c] ∧ F52 n (.i a0) (.i a1) (.i a2) (.i a3) (.i a4) (.b a5) (.l a6) (.i a7) (.i a8) (.i a9) (.l a10) (.l a11) = some [.i c] := by
  by_cases k1 : a0 = 1
  · subst k1; exact step1
  by_cases k2 : a0 = 2
  · subst k2; exact step2
  by_cases k3 : a0 = 3
  · subst k3; exact step3
  by_cases k4 : a0 = 4
  · subst k4; exact step4
  by_cases k5 : a0 = 5
  · subst k5; exact step5
  by_cases k6 : a0 = 6
  · subst k6; exact step6
  by_cases k7 : a0 = 7
  · subst k7; exact step7
  by_cases k8 : a0 = 8
  · subst k8; exact step8
  by_cases k9 : a0 = 9
  · subst k9; exact step9
  by_cases k10 : a0 = 10
  · subst k10; exact step10
  by_cases k11 : a0 = 11
  · subst k11; exact step11
  by_cases k12 : a0 = 12
  · subst k12; exact step12
  refine ⟨1, ?_, ?_⟩
  · unfold F50 F119
    simp only [F_r, List.getD_cons_zero, I_i, beq_false_of_ne k1, beq_false_of_ne k2, beq_false_of_ne k3, beq_false_of_ne k4, beq_false_of_ne k5, beq_false_of_ne k6, beq_false_of_ne k7, beq_false_of_ne k8, beq_false_of_ne k9, beq_false_of_ne k10, beq_false_of_ne k11, beq_false_of_ne k12, cond_false, Option.bind_some, List.headD_cons, B_b, Bool.not_false, cond_true]
  · unfold F52
    have e : (decide (a0 ≥ 1) && decide (a0 ≤ 12)) = false := by
      by_cases h1 : a0 ≥ 1 <;> by_cases h2 : a0 ≤ 12 <;> simp [h1, h2] <;> omega
    simp only [within_ok, e, Option.bind_some, List.headD_cons, B_b, Bool.not_false, cond_true]
theorem law_FnExactStepFault : ∀ τs, WLs (tiOf tab) (flatLs (psOf (tiOf tab) [97])) τs → ∃ n, M8 n τs = some [.b true] := by
  intro τs h
  replace h : WLs (tiOf tab) [.int .i64, .int .i64, .int .i64, .int .i64, .int .i64, .bool, .slice 5, .int .i64, .int .i64, .int .i64, .slice 5, .slice 5] τs := h
  obtain ⟨t0, _, rfl, w0, h⟩ := h.cons_inv
  obtain ⟨t1, _, rfl, w1, h⟩ := h.cons_inv
  obtain ⟨t2, _, rfl, w2, h⟩ := h.cons_inv
  obtain ⟨t3, _, rfl, w3, h⟩ := h.cons_inv
  obtain ⟨t4, _, rfl, w4, h⟩ := h.cons_inv
  obtain ⟨t5, _, rfl, w5, h⟩ := h.cons_inv
  obtain ⟨t6, _, rfl, w6, h⟩ := h.cons_inv
  obtain ⟨t7, _, rfl, w7, h⟩ := h.cons_inv
  obtain ⟨t8, _, rfl, w8, h⟩ := h.cons_inv
  obtain ⟨t9, _, rfl, w9, h⟩ := h.cons_inv
  obtain ⟨t10, _, rfl, w10, h⟩ := h.cons_inv
  obtain ⟨t11, _, rfl, w11, h⟩ := h.cons_inv
  cases h.nil_inv
  obtain ⟨a0, rfl, h0, k0⟩ := w0.int_inv
  obtain ⟨a1, rfl, h1, k1⟩ := w1.int_inv
  obtain ⟨a2, rfl, h2, k2⟩ := w2.int_inv
  obtain ⟨a3, rfl, h3, k3⟩ := w3.int_inv
  obtain ⟨a4, rfl, h4, k4⟩ := w4.int_inv
  obtain ⟨a5, rfl⟩ := w5.bool_inv
  obtain ⟨a6, rfl, h6⟩ := w6.slice_inv
  obtain ⟨a7, rfl, h7, k7⟩ := w7.int_inv
  obtain ⟨a8, rfl, h8, k8⟩ := w8.int_inv
  obtain ⟨a9, rfl, h9, k9⟩ := w9.int_inv
  obtain ⟨a10, rfl, h10⟩ := w10.slice_inv
  obtain ⟨a11, rfl, h11⟩ := w11.slice_inv
  refine ⟨maxN, ?_⟩
  have hn := Nat.le_refl maxN
  show F8 maxN _ _ _ _ _ _ _ _ _ _ _ _ = _
  unfold F8
  rw [szStep_ok hn h6 h10 h11 (left := 1048576) (by omega) (by omega)]
  simp only [Option.bind_some, List.headD_cons, I_i, sub_dec]
  by_cases g1 : (1048576 : Int) < ((T.r [.i a0, .i a1, .i a2, .i a3, .i a4, .b a5, .l a6, .i a7, .i a8, .i a9, .l a10, .l a11]).sz : Int)
  · rw [decide_eq_true g1]; rfl
  rw [decide_eq_false g1, cond_false]
  obtain ⟨c0, hs, hi⟩ := core_FnExactStepFault hn h6 h10 h11 (a0 := a0) (a1 := a1) (a2 := a2) (a3 := a3) (a4 := a4) (a5 := a5) (a7 := a7) (a8 := a8) (a9 := a9) (by omega)
  simp only [toStep_ok hn (a0 := a0) (a1 := a1) (a2 := a2) (a3 := a3) (a4 := a4) (a5 := a5) (a7 := a7) (a8 := a8) (a9 := a9) h6 h10 h11 (by omega), eqStep_ok (n := maxN) hn (x6 := T.l a6) (by simp only [T.sz, T.szL] at *; unfold maxN; omega) (x10 := T.l a10) (by simp only [T.sz, T.szL] at *; unfold maxN; omega) (x11 := T.l a11) (by simp only [T.sz, T.szL] at *; unfold maxN; omega), hs, hi, Option.bind_some, List.headD_cons, List.tail_cons, I_i, B_b, L_l, bne_self_eq_false, beq_self_eq_true, Bool.not_true, cond_false]
end Go.KX.Sb
namespace Go.Proofs.Ytpkeanlcmjbgnab
open Go.KX Go.KX.Sb
set_option maxRecDepth 100000 in
theorem FnExactStepFault_lifted (os : Os) (started : os.Started) (H : Type) (enc : TypeId × Value → H) :
    ReturnsInHanded {} Try.checked os 8 .any (Rows.fnExactStepFaultSpec.pre6 enc Try.prog Try.f8 Rows.fnExactStepFaultRow.domain false) (Rows.fnExactStepFaultSpec.post enc Try.prog Try.f8 false true false false) :=
  law_lifted (C := Try.checked) (ti := tiOf tab) (all := [2, 4, 5, 68, 92, 93, 95, 97]) (ts := [97]) tabOk (by kernel_rfl) (by kernel_rfl) (by kernel_rfl : ownKnob Try.prog.godebug = none) started (by kernel_rfl) Try.func8
    (ChangeSpec.witness6 (enc := enc) (C := Try.checked) false ⟨#[], #[.agg #[.int .i64 0, .int .i64 0, .int .i64 0, .int .i64 0, .int .i64 0, .bool false, .slice none 0 0, .int .i64 0, .int .i64 0, .int .i64 0, .slice none 0 0, .slice none 0 0]], []⟩ 8 (by kernel_rfl) (by kernel_rfl) (by kernel_rfl) (by kernel_rfl))
    (by kernel_rfl : laidOutB Try.prog = true) rfl (tb := 4) rfl (by kernel_rfl) (by kernel_rfl) rfl (fun ds hl => by match ds, hl with | [_], _ => rfl) (F := M8) (fun n => eo8 n) law_FnExactStepFault

theorem FnExactStepFault_holds : Rows.FnExactStepFaultSaid :=
  OpenClaim.holds_of_wide 8 Try.f8 rfl rfl rfl rfl rfl rfl rfl ⟨rfl, rfl, rfl, rfl, rfl⟩ rfl rfl rfl rfl rfl (by kernel_rfl) Try.func8 (by kernel_rfl)
    (of_decide_eq_true (by kernel_rfl)) (by unfold Func.isWrapper; first | (rw [if_pos (by decide +kernel)]; kernel_rfl) | (rw [if_neg (by decide +kernel)]; exact ⟨rfl, rfl⟩))
    (fun os started H enc _ => FnExactStepFault_lifted os started H enc)
end Go.Proofs.Ytpkeanlcmjbgnab
