/- laws.FnExactSameMessages: for every input the law returns true, and every argument reads behind the call as it read before. No further condition. -/
import Derived.Test.YtpkeanlcmjbgnaaFn
import Derived.Test.YtpkeanlcmjbgnaaRows
import Derived.KernelRfl
set_option linter.unusedVariables false
set_option linter.unusedSimpArgs false
namespace Go.KX.Sa
open Go
theorem shapeByte {xs : List T} (h : LW (tiOf tab) 5 xs) {x : T} (hx : x ∈ xs) : ∃ a0, x = .i a0 := by
  obtain ⟨f, rfl, hf⟩ := h.2 x hx
  obtain ⟨a0, e0, _, _⟩ := WL.int_inv (ti := tiOf tab) (k := .u8) (hf 0 (by decide))
  refine ⟨a0, ?_⟩
  show f 0 = _
  rw [e0]
theorem toByteS_ok {n : Nat} (hn : maxN ≤ n) {xs : List T} (h : LW (tiOf tab) 5 xs) (hz : (T.l xs).sz ≤ 1048576) : F51 n (.l xs) = some [.l xs] :=
  toS_ok (xs := xs) (e := 5) (Fe := fun x => some [x]) (J := fun r => r.headD (.i 0)) (by_ := 1) (z := .i 0) hn (by have := len_sz xs; simp only [limB]; omega) h.len (fun x _ => ⟨_, rfl, rfl⟩)
theorem szByteS_ok {n : Nat} (_ : maxN ≤ n) {xs : List T} (h : LW (tiOf tab) 5 xs) {left : Int} (g1 : 0 ≤ left) (g2 : left ≤ 1048576) : F49 n (.l xs) (.i left) = some [.i (sub left (T.l xs).sz)] :=
  szFlat_ok (xs := xs) h.len (szL_zero fun x hx => by
    obtain ⟨a0, rfl⟩ := shapeByte h hx
    rfl) g1 g2
theorem eqByteS_ok {n : Nat} (hn : maxN ≤ n) {τ : T} (h : τ.sz < maxN) : F54 n τ τ = some [.b true] :=
  eqT_ok (xs := τ.L) (ne := fun a b => a.I != b.I) hn (by have := sz_L τ; have := len_sz τ.L; omega) (fun x => by simp)
theorem toMessage_ok {n : Nat} (hn : maxN ≤ n) {a0 : Int} {a1 : Bool} {a2 : List T} (h2 : LW (tiOf tab) 5 a2) (hz : (T.r [.i a0, .b a1, .l a2]).sz ≤ 1048576) : F14 n (.i a0) (.b a1) (.l a2) = some [.i a0, .b a1, .l a2] := by
  simp only [T.sz, T.szL] at hz
  unfold F14
  simp only [toByteS_ok hn  h2 (by simp only [T.sz, T.szL]; omega), Option.bind_some, List.headD_cons, List.tail_cons, I_i, B_b, L_l]
theorem szMessage_ok {n : Nat} (hn : maxN ≤ n) {a0 : Int} {a1 : Bool} {a2 : List T} (h2 : LW (tiOf tab) 5 a2) {left : Int} (g1 : 0 ≤ left) (g2 : left ≤ 1048576) : F12 n (.i a0) (.b a1) (.l a2) (.i left) = some [.i (sub left (T.r [.i a0, .b a1, .l a2]).sz)] := by
  have e : (T.r [.i a0, .b a1, .l a2]).sz = (T.l a2).sz := by simp only [T.sz, T.szL]; omega
  rw [e]
  unfold F12
  rw [szByteS_ok hn h2 (left := left) (by omega) (by omega)]
  simp only [Option.bind_some, List.headD_cons, I_i]
  exact szEnd
theorem eqMessage_ok {n : Nat} (hn : maxN ≤ n) {x0 x1 x2 : T} (h2 : x2.sz < maxN) : F16 n x0 x1 x2 x0 x1 x2 = some [.b true] := by
  unfold F16
  simp only [eqByteS_ok hn h2, bne_self_eq_false, cond_false, beq_self_eq_true, Bool.not_true, Option.bind_some, List.headD_cons, List.tail_cons, B_b]
theorem shapeMessage {xs : List T} (h : LW (tiOf tab) 24 xs) {x : T} (hx : x ∈ xs) : ∃ a0 a1 a2, x = .r [.i a0, .b a1, .l a2] ∧ LW (tiOf tab) 5 a2 := by
  obtain ⟨f, rfl, hf⟩ := h.2 x hx
  obtain ⟨a0, e0, _, _⟩ := WL.int_inv (ti := tiOf tab) (k := .i64) (hf 0 (by decide))
  obtain ⟨a1, e1⟩ := WL.bool_inv (ti := tiOf tab) (hf 1 (by decide))
  obtain ⟨a2, e2, h2⟩ := WL.slice_inv (ti := tiOf tab) (e := 5) (hf 2 (by decide))
  refine ⟨a0, a1, a2, ?_, h2⟩
  show T.r [f 0, f 1, f 2] = _
  rw [e0, e1, e2]
theorem toMessageS_ok {n : Nat} (hn : maxN ≤ n) {xs : List T} (h : LW (tiOf tab) 24 xs) (hz : (T.l xs).sz ≤ 1048576) : F34 n (.l xs) = some [.l xs] :=
  toS_ok (xs := xs) (e := 27) (Fe := fun x => F14 n (x.F 0) (x.F 1) (x.F 2)) (J := fun r => .r [r.headD (.i 0), r.tail.headD (.i 0), r.tail.tail.headD (.i 0)]) (by_ := 40) (z := .r [.i 0, .b false, .l []]) hn (by have := len_sz xs; simp only [limB]; omega) h.len (fun x hx => by
    obtain ⟨a0, a1, a2, rfl, h2⟩ := shapeMessage h hx
    have := sz_mem hx
    exact ⟨_, toMessage_ok hn h2 (by omega), rfl⟩)
theorem szMessageS_ok {n : Nat} (hn : maxN ≤ n) {xs : List T} (h : LW (tiOf tab) 24 xs) {left : Int} (g1 : 0 ≤ left) (g2 : left ≤ 1048576) : F32 n (.l xs) (.i left) = some [.i (sub left (T.l xs).sz)] :=
  szS_ok (xs := xs) (Fe := fun x y => F12 n (x.F 0) (x.F 1) (x.F 2) y) hn h.len (fun x hx left g1 g2 => by
    obtain ⟨a0, a1, a2, rfl, h2⟩ := shapeMessage h hx
    exact szMessage_ok hn h2 g1 g2) g1 g2
theorem eqMessageS_ok {n : Nat} (hn : maxN ≤ n) {τ : T} (h : τ.sz < maxN) : F36 n τ τ = some [.b true] :=
  eqS_ok (xs := τ.L) (Fe := fun x y => F16 n (x.F 0) (x.F 1) (x.F 2) (y.F 0) (y.F 1) (y.F 2)) hn (by have := sz_L τ; have := len_sz τ.L; omega) (fun x hx => eqMessage_ok hn (by have := sz_F x 2; have := sz_mem hx; have := sz_L τ; omega))
theorem implBytes {n : Nat} (hn : maxN ≤ n) {xs ys : List T} (hm : xs.length < maxN) : F71 n (.l xs) (.l ys) = some [.b (allNe (fun a b => a.I != b.I) xs ys)] :=
  loop_pairs (xs := xs) (ys := ys) (ex := [fun u1 => some [T.b ((u1.getD 0 (.i 0)).B)], fun u2 => some [T.b true]]) (f := fun k => [.l xs, .l ys, .i (xs.length : Int), .i k]) (ne := fun a b => a.I != b.I) hn hm (fun k self => rfl)
def neMsg (x y : T) : Bool := !(((x.F 0).I == (y.F 0).I) && (((x.F 1).B == (y.F 1).B) && allNe (fun a b => a.I != b.I) (x.F 2).L (y.F 2).L))

theorem implMsg {n : Nat} (hn : maxN ≤ n) {a0 b0 : Int} {a1 b1 : Bool} {a2 b2 : List T} (h : a2.length < maxN) : F70 n (.i a0) (.b a1) (.l a2) (.i b0) (.b b1) (.l b2) = some [.b (!neMsg (.r [.i a0, .b a1, .l a2]) (.r [.i b0, .b b1, .l b2]))] := by
  unfold F70
  simp only [implBytes hn h, I_i, B_b, neMsg, F_r, List.getD_cons_zero, List.getD_cons_succ, L_l, Option.bind_some, List.headD_cons]
  cases a0 == b0 <;> cases a1 == b1 <;> cases allNe (fun a b => a.I != b.I) a2 b2 <;> rfl

theorem specMsgs {n : Nat} (hn : maxN ≤ n) {xs ys : List T} (hx : LW (tiOf tab) 24 xs) (hy : LW (tiOf tab) 24 ys) : F33 n (.l xs) (.l ys) = some [.b (allNe neMsg xs ys)] :=
  have hlen : xs.length < 281474976710656 := hx.len
  loop_same (xs := xs) (ys := ys) (ex := [fun u1 => some [T.b ((u1.getD 0 (.i 0)).B)], fun u2 => some [T.b true]]) (f := fun k => [.l xs, .l ys, .i k]) (ne := neMsg) hn hx.len (fun h i hi self => by
    obtain ⟨a0, a1, a2, e1, w1⟩ := shapeMessage hx (x := xs.getD i (.i 0)) (by simp [hi])
    obtain ⟨b0, b1, b2, e2, w2⟩ := shapeMessage hy (x := ys.getD i (.i 0)) (by simp [← h, hi])
    have hi0 : decide ((i : Int) < (xs.length : Int)) = true := decide_eq_true (by omega)
    have hi1 : 0 ≤ (i : Int) ∧ (i : Int) < (xs.length : Int) := by omega
    have hi2 : 0 ≤ (i : Int) ∧ (i : Int) < (ys.length : Int) := by omega
    simp only [L33_33_4, G33_33_4, List.getD_cons_zero, List.getD_cons_succ, I_i, B_b, L_l, at_nat, e1, e2, F_r, hi0, if_pos hi1, if_pos hi2, wrap64 (x := (i : Int) + 1) (by omega) (by omega),
      bytes_eq (w1.byte (by decide)) (w2.byte (by decide)), neMsg, bne]
    cases a0 == b0 <;> cases a1 == b1 <;> cases allNe (fun a b => !(a.I == b.I)) a2 b2 <;> rfl)
    (fun h self => by
      simp only [L33_33_4, G33_33_4, List.getD_cons_zero, List.getD_cons_succ, I_i, L_l]
      rw [decide_eq_false (by omega), cond_false]
      rfl)
theorem implMsgs {n : Nat} (hn : maxN ≤ n) {xs ys : List T} (hx : LW (tiOf tab) 24 xs) (hy : LW (tiOf tab) 24 ys) : F35 n (.l xs) (.l ys) = some [.b (allNe neMsg xs ys)] :=
  have hlen : xs.length < 281474976710656 := hx.len
  loop_same (xs := xs) (ys := ys) (ex := [fun u1 => some [T.b ((u1.getD 0 (.i 0)).B)], fun u2 => some [T.b true]]) (f := fun k => [.l ys, .l xs, .i (xs.length : Int), .i k, .l xs, .l ys, .b false, .l xs, .l ys]) (ne := neMsg) hn hx.len (fun h i hi self => by
    obtain ⟨a0, a1, a2, e1, w1⟩ := shapeMessage hx (x := xs.getD i (.i 0)) (by simp [hi])
    obtain ⟨b0, b1, b2, e2, w2⟩ := shapeMessage hy (x := ys.getD i (.i 0)) (by simp [← h, hi])
    have hi0 : decide ((i : Int) < (xs.length : Int)) = true := decide_eq_true (by omega)
    have hi1 : 0 ≤ (i : Int) ∧ (i : Int) < (xs.length : Int) := by omega
    have hi2 : 0 ≤ (i : Int) ∧ (i : Int) < (ys.length : Int) := by omega
    simp only [L35_69_4, G35_69_4, List.getD_cons_zero, List.getD_cons_succ, I_i, B_b, L_l, at_nat, e1, e2, F_r, hi0, if_pos hi1, if_pos hi2, wrap64 (x := (i : Int) + 1) (by omega) (by omega), implMsg hn w1.len, Option.bind_some, List.headD_cons, Bool.not_not]
    rfl)
    (fun h self => by
      simp only [L35_69_4, G35_69_4, List.getD_cons_zero, List.getD_cons_succ, I_i, L_l]
      rw [decide_eq_false (by omega), cond_false]
      rfl)

theorem core_FnExactSameMessages {n : Nat} (hn : maxN ≤ n) {xs ys : List T} (hx : LW (tiOf tab) 24 xs) (hy : LW (tiOf tab) 24 ys) (_ : (T.l xs).sz ≤ 1048576) (_ : (T.l ys).sz ≤ 1048576) :
    ∃ c : Bool, F33 n (.l xs) (.l ys) = some [.b c] ∧ F35 n (.l xs) (.l ys) = some [.b c] :=
  ⟨_, specMsgs hn hx hy, implMsgs hn hx hy⟩
theorem law_FnExactSameMessages : ∀ τs, WLs (tiOf tab) (flatLs (psOf (tiOf tab) [60, 60])) τs → ∃ n, M7 n τs = some [.b true] := by
  intro τs h
  replace h : WLs (tiOf tab) [.slice 24, .slice 24] τs := h
  obtain ⟨t0, _, rfl, w0, h⟩ := h.cons_inv
  obtain ⟨t1, _, rfl, w1, h⟩ := h.cons_inv
  cases h.nil_inv
  obtain ⟨a0, rfl, h0⟩ := w0.slice_inv
  obtain ⟨a1, rfl, h1⟩ := w1.slice_inv
  refine ⟨maxN, ?_⟩
  have hn := Nat.le_refl maxN
  show F7 maxN _ _ = _
  unfold F7
  rw [szMessageS_ok hn h0 (left := 1048576) (by omega) (by omega)]
  simp only [Option.bind_some, List.headD_cons, I_i, sub_dec]
  by_cases g1 : (1048576 : Int) < ((T.l a0).sz : Int)
  · rw [decide_eq_true g1]; rfl
  rw [decide_eq_false g1, cond_false, sub_pos g1]
  rw [szMessageS_ok hn h1 (left := 1048576 - ((T.l a0).sz : Int)) (by omega) (by omega)]
  simp only [Option.bind_some, List.headD_cons, I_i, sub_dec]
  by_cases g2 : 1048576 - ((T.l a0).sz : Int) < ((T.l a1).sz : Int)
  · rw [decide_eq_true g2]; rfl
  rw [decide_eq_false g2, cond_false]
  obtain ⟨c0, hs, hi⟩ := core_FnExactSameMessages hn h0 h1 (by omega) (by omega)
  simp only [toMessageS_ok hn h0 (by omega), eqMessageS_ok (n := maxN) hn (τ := T.l a0) (by unfold maxN; omega), toMessageS_ok hn h1 (by omega), eqMessageS_ok (n := maxN) hn (τ := T.l a1) (by unfold maxN; omega), hs, hi, Option.bind_some, List.headD_cons, List.tail_cons, I_i, B_b, L_l, bne_self_eq_false, beq_self_eq_true, Bool.not_true, cond_false]
end Go.KX.Sa
namespace Go.Proofs.Ytpkeanlcmjbgnaa
open Go.KX Go.KX.Sa
set_option maxRecDepth 100000 in
theorem FnExactSameMessages_lifted (os : Os) (started : os.Started) (H : Type) (enc : TypeId × Value → H) :
    ReturnsInHanded {} Try.checked os 7 .any (Rows.fnExactSameMessagesSpec.pre6 enc Try.prog Try.f7 Rows.fnExactSameMessagesRow.domain false) (Rows.fnExactSameMessagesSpec.post enc Try.prog Try.f7 false true false false) :=
  law_lifted (C := Try.checked) (ti := tiOf tab) (all := [2, 4, 5, 22, 24, 60]) (ts := [60, 60]) tabOk (by kernel_rfl) (by kernel_rfl) (by kernel_rfl : ownKnob Try.prog.godebug = none) started (by kernel_rfl) Try.func7
    (ChangeSpec.witness6 (enc := enc) (C := Try.checked) false ⟨#[], #[.slice none 0 0, .slice none 0 0], []⟩ 8 (by kernel_rfl) (by kernel_rfl) (by kernel_rfl) (by kernel_rfl))
    (by kernel_rfl : laidOutB Try.prog = true) rfl (tb := 4) rfl (by kernel_rfl) (by kernel_rfl) rfl (fun ds hl => by match ds, hl with | [_, _], _ => rfl) (F := M7) (fun n => eo7 n) law_FnExactSameMessages

theorem FnExactSameMessages_holds : Rows.FnExactSameMessagesSaid :=
  OpenClaim.holds_of_wide 7 Try.f7 rfl rfl rfl rfl rfl rfl rfl ⟨rfl, rfl, rfl, rfl, rfl⟩ rfl rfl rfl rfl rfl (by kernel_rfl) Try.func7 (by kernel_rfl)
    (of_decide_eq_true (by kernel_rfl)) (by unfold Func.isWrapper; first | (rw [if_pos (by decide +kernel)]; kernel_rfl) | (rw [if_neg (by decide +kernel)]; exact ⟨rfl, rfl⟩))
    (fun os started H enc _ => FnExactSameMessages_lifted os started H enc)
end Go.Proofs.Ytpkeanlcmjbgnaa
