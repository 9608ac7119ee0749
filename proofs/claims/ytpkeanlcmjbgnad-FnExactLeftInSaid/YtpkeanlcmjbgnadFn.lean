import Derived.Test.YtpkeanlcmjbgnadProg
import Derived.KernelRfl
import Derived.Test.YtpkeanlcmjbgnadKxC
namespace Go.KX.Sd
open Go
set_option linter.unusedVariables false
def tab : List (Nat × TyI) := [
  (2, ⟨true, false, [.int .i64], 8, .leaf, false⟩),
  (3, ⟨true, false, [.int .i64], 8, .leaf, false⟩),
  (4, ⟨true, false, [.bool], 1, .leaf, false⟩),
  (5, ⟨true, false, [.int .u8], 1, .leaf, false⟩),
  (22, ⟨true, false, [.slice 2], 24, .slice 2, false⟩),
  (34, ⟨true, false, [.slice 264], 24, .slice 264, false⟩),
  (36, ⟨true, true, [.int .i64, .int .i64, .slice 2, .slice 264], 64, .struct [(2, 0), (2, 1), (22, 2), (34, 3)], false⟩),
  (39, ⟨true, true, [.int .i64, .int .i64], 16, .struct [(2, 0), (2, 1)], true⟩),
  (41, ⟨true, false, [.slice 222], 24, .slice 222, false⟩),
  (43, ⟨true, true, [.int .i64, .int .i64, .slice 2, .slice 222], 64, .struct [(2, 0), (2, 1), (22, 2), (41, 3)], false⟩),
  (93, ⟨true, false, [.slice 5], 24, .slice 5, false⟩),
  (106, ⟨true, true, [.int .i64, .int .i64, .slice 5], 40, .struct [(2, 0), (2, 1), (93, 2)], false⟩),
  (108, ⟨true, true, [.int .i64, .int .i64, .int .i64, .slice 5], 48, .struct [(2, 0), (106, 1)], false⟩),
  (132, ⟨true, true, [.int .i64, .int .i64, .int .i64, .bool, .bool, .bool, .slice 5], 56, .struct [(2, 0), (2, 1), (2, 2), (4, 3), (4, 4), (4, 5), (93, 6)], false⟩),
  (222, ⟨true, true, [.int .i64, .int .i64, .int .i64, .bool, .bool, .bool, .slice 5, .int .i64, .int .i64], 72, .struct [(132, 0), (2, 7), (2, 8)], false⟩),
  (259, ⟨true, true, [.int .i64, .int .i64, .int .i64, .bool, .bool, .bool, .slice 5], 56, .struct [(2, 0), (2, 1), (2, 2), (4, 3), (4, 4), (4, 5), (93, 6)], false⟩),
  (264, ⟨true, true, [.int .i64, .int .i64, .int .i64, .bool, .bool, .bool, .slice 5, .int .i64, .int .i64], 72, .struct [(259, 0), (2, 7), (2, 8)], false⟩),
  (283, ⟨true, false, [.slice 93], 24, .slice 93, false⟩)]
theorem tabOk : TabOk Go.Proofs.Try.prog (tiOf tab) := tab_ok (by kernel_rfl)
theorem mixed : Go.Proofs.Try.prog.follows .mixedOrders = true := by kernel_rfl
/-! ### 93: laws.szInt64S -/
def sg93 : Sig := ⟨[(false, [.slice 2]), (false, [.int .i64])], [.leaf (.int .i64) false]⟩
def F93 (n : Nat) (x0 x1 : T) : Option (List T) :=
  bif (decide ((IntKind.wrap .i64 (x1.I - (x0.L.length : Int))) < 0)) then (some [.i (-1)]) else (some [.i (IntKind.wrap .i64 (x1.I - (x0.L.length : Int)))])
def M93 (n : Nat) (τs : List T) : Option (List T) := match τs with
  | [x0, x1] => F93 n x0 x1
  | _ => none
noncomputable def code93 : List (Nat × Func) := [(93, Go.Proofs.Try.f93)]
def env93 : List (Nat × (Sig × Mean)) := []
def ann93 (f i : Nat) : Ann := match f, i with
  | _, _ => ⟨[], [], []⟩
def lsl93 (n : Nat) : List ((Nat × Nat) × (Nat → List LoopM)) := []
noncomputable def cf93 (n : Nat) : Cfg := ⟨tiOf tab, lookup code93, lookup env93, ann93, n⟩
theorem ev93 (n : Nat) (x0 x1 : T) : evF (cf93 n) (drawK (cf93 n)) (lms2 (lsl93 n)) 3 93 sg93 [x0, x1] = F93 n x0 x1 := by kernel_rfl
theorem eo93 (n : Nat) : EnvOk Go.Proofs.Try.prog (tiOf tab) n 93 sg93 ⟨M93⟩ :=
  have hc : CodeOk Go.Proofs.Try.prog (cf93 n) := (code_cons Go.Proofs.Try.func93 (by kernel_rfl) code_nil)
  have he : EnvsOk Go.Proofs.Try.prog (cf93 n) := env_nil
  have hl : LmsOk (R := List T) (cf93 n) (drawK (cf93 n)) (lms2 (lsl93 n)) (lsl93 n) := lms_nil
  envOk_of (cf := cf93 n) tabOk hc he (draw := drawK (cf93 n)) (fun _ => drawK_ok tabOk mixed hc he) (d := 3) (lms := lms2 (lsl93 n)) hl
    (fun τs rs h => by
      simp only [M93] at h
      split at h
      · exact (ev93 n _ _).trans h
      · cases h)
/-! ### 249: laws.szByteS -/
def sg249 : Sig := ⟨[(false, [.slice 5]), (false, [.int .i64])], [.leaf (.int .i64) false]⟩
def F249 (n : Nat) (x0 x1 : T) : Option (List T) :=
  bif (decide ((IntKind.wrap .i64 (x1.I - (x0.L.length : Int))) < 0)) then (some [.i (-1)]) else (some [.i (IntKind.wrap .i64 (x1.I - (x0.L.length : Int)))])
def M249 (n : Nat) (τs : List T) : Option (List T) := match τs with
  | [x0, x1] => F249 n x0 x1
  | _ => none
noncomputable def code249 : List (Nat × Func) := [(249, Go.Proofs.Try.f249)]
def env249 : List (Nat × (Sig × Mean)) := []
def ann249 (f i : Nat) : Ann := match f, i with
  | _, _ => ⟨[], [], []⟩
def lsl249 (n : Nat) : List ((Nat × Nat) × (Nat → List LoopM)) := []
noncomputable def cf249 (n : Nat) : Cfg := ⟨tiOf tab, lookup code249, lookup env249, ann249, n⟩
theorem ev249 (n : Nat) (x0 x1 : T) : evF (cf249 n) (drawK (cf249 n)) (lms2 (lsl249 n)) 3 249 sg249 [x0, x1] = F249 n x0 x1 := by kernel_rfl
theorem eo249 (n : Nat) : EnvOk Go.Proofs.Try.prog (tiOf tab) n 249 sg249 ⟨M249⟩ :=
  have hc : CodeOk Go.Proofs.Try.prog (cf249 n) := (code_cons Go.Proofs.Try.func249 (by kernel_rfl) code_nil)
  have he : EnvsOk Go.Proofs.Try.prog (cf249 n) := env_nil
  have hl : LmsOk (R := List T) (cf249 n) (drawK (cf249 n)) (lms2 (lsl249 n)) (lsl249 n) := lms_nil
  envOk_of (cf := cf249 n) tabOk hc he (draw := drawK (cf249 n)) (fun _ => drawK_ok tabOk mixed hc he) (d := 3) (lms := lms2 (lsl249 n)) hl
    (fun τs rs h => by
      simp only [M249] at h
      split at h
      · exact (ev249 n _ _).trans h
      · cases h)
/-! ### 200: laws.szData -/
def sg200 : Sig := ⟨[(true, [.int .i64, .int .i64, .int .i64, .bool, .bool, .bool, .slice 5]), (false, [.int .i64])], [.leaf (.int .i64) false]⟩
def F200 (n : Nat) (x0 x1 x2 x3 x4 x5 x6 x7 : T) : Option (List T) :=
  (F249 n x6 x7).bind fun r1 => bif (decide ((r1.headD (.i 0)).I < 0)) then (some [.i (-1)]) else (some [(r1.headD (.i 0))])
def M200 (n : Nat) (τs : List T) : Option (List T) := match τs with
  | [x0, x1, x2, x3, x4, x5, x6, x7] => F200 n x0 x1 x2 x3 x4 x5 x6 x7
  | _ => none
noncomputable def code200 : List (Nat × Func) := [(200, Go.Proofs.Try.f200)]
def env200 : List (Nat × (Sig × Mean)) := [(249, sg249, ⟨M249⟩)]
def ann200 (f i : Nat) : Ann := match f, i with
  | _, _ => ⟨[], [], []⟩
def lsl200 (n : Nat) : List ((Nat × Nat) × (Nat → List LoopM)) := []
noncomputable def cf200 (n : Nat) : Cfg := ⟨tiOf tab, lookup code200, lookup env200, ann200, n⟩
theorem ev200 (n : Nat) (x0 x1 x2 x3 x4 x5 x6 x7 : T) : evF (cf200 n) (drawK (cf200 n)) (lms2 (lsl200 n)) 3 200 sg200 [x0, x1, x2, x3, x4, x5, x6, x7] = F200 n x0 x1 x2 x3 x4 x5 x6 x7 := by kernel_rfl
theorem eo200 (n : Nat) : EnvOk Go.Proofs.Try.prog (tiOf tab) n 200 sg200 ⟨M200⟩ :=
  have hc : CodeOk Go.Proofs.Try.prog (cf200 n) := (code_cons Go.Proofs.Try.func200 (by kernel_rfl) code_nil)
  have he : EnvsOk Go.Proofs.Try.prog (cf200 n) := (env_cons (eo249 n) env_nil)
  have hl : LmsOk (R := List T) (cf200 n) (drawK (cf200 n)) (lms2 (lsl200 n)) (lsl200 n) := lms_nil
  envOk_of (cf := cf200 n) tabOk hc he (draw := drawK (cf200 n)) (fun _ => drawK_ok tabOk mixed hc he) (d := 3) (lms := lms2 (lsl200 n)) hl
    (fun τs rs h => by
      simp only [M200] at h
      split at h
      · exact (ev200 n _ _ _ _ _ _ _ _).trans h
      · cases h)
/-! ### 208: laws.szSendItem -/
def sg208 : Sig := ⟨[(true, [.int .i64, .int .i64, .int .i64, .bool, .bool, .bool, .slice 5, .int .i64, .int .i64]), (false, [.int .i64])], [.leaf (.int .i64) false]⟩
def F208 (n : Nat) (x0 x1 x2 x3 x4 x5 x6 x7 x8 x9 : T) : Option (List T) :=
  (F200 n x0 x1 x2 x3 x4 x5 x6 x9).bind fun r1 => bif (decide ((r1.headD (.i 0)).I < 0)) then (some [.i (-1)]) else (some [(r1.headD (.i 0))])
def M208 (n : Nat) (τs : List T) : Option (List T) := match τs with
  | [x0, x1, x2, x3, x4, x5, x6, x7, x8, x9] => F208 n x0 x1 x2 x3 x4 x5 x6 x7 x8 x9
  | _ => none
noncomputable def code208 : List (Nat × Func) := [(208, Go.Proofs.Try.f208)]
def env208 : List (Nat × (Sig × Mean)) := [(200, sg200, ⟨M200⟩)]
def ann208 (f i : Nat) : Ann := match f, i with
  | _, _ => ⟨[], [], []⟩
def lsl208 (n : Nat) : List ((Nat × Nat) × (Nat → List LoopM)) := []
noncomputable def cf208 (n : Nat) : Cfg := ⟨tiOf tab, lookup code208, lookup env208, ann208, n⟩
theorem ev208 (n : Nat) (x0 x1 x2 x3 x4 x5 x6 x7 x8 x9 : T) : evF (cf208 n) (drawK (cf208 n)) (lms2 (lsl208 n)) 3 208 sg208 [x0, x1, x2, x3, x4, x5, x6, x7, x8, x9] = F208 n x0 x1 x2 x3 x4 x5 x6 x7 x8 x9 := by kernel_rfl
theorem eo208 (n : Nat) : EnvOk Go.Proofs.Try.prog (tiOf tab) n 208 sg208 ⟨M208⟩ :=
  have hc : CodeOk Go.Proofs.Try.prog (cf208 n) := (code_cons Go.Proofs.Try.func208 (by kernel_rfl) code_nil)
  have he : EnvsOk Go.Proofs.Try.prog (cf208 n) := (env_cons (eo200 n) env_nil)
  have hl : LmsOk (R := List T) (cf208 n) (drawK (cf208 n)) (lms2 (lsl208 n)) (lsl208 n) := lms_nil
  envOk_of (cf := cf208 n) tabOk hc he (draw := drawK (cf208 n)) (fun _ => drawK_ok tabOk mixed hc he) (d := 3) (lms := lms2 (lsl208 n)) hl
    (fun τs rs h => by
      simp only [M208] at h
      split at h
      · exact (ev208 n _ _ _ _ _ _ _ _ _ _).trans h
      · cases h)
/-! ### 109: laws.szSendItemS -/
def sg109 : Sig := ⟨[(false, [.slice 264]), (false, [.int .i64])], [.leaf (.int .i64) false]⟩
def G109_109_5 {R : Type} (n : Nat) (v : List T) (self : List T → Option R) (ex : List (List T → Option R)) : Option R :=
  bif (decide ((v.getD 2 (.i 0)).I < ((((v.getD 0 (.i 0)).L).length : Nat) : Int))) then (if 0 ≤ (v.getD 2 (.i 0)).I ∧ (v.getD 2 (.i 0)).I < (((v.getD 0 (.i 0)).L).length : Int) then ((F208 n ((at_ ((v.getD 0 (.i 0)).L) ((v.getD 2 (.i 0)).I)).F 0) ((at_ ((v.getD 0 (.i 0)).L) ((v.getD 2 (.i 0)).I)).F 1) ((at_ ((v.getD 0 (.i 0)).L) ((v.getD 2 (.i 0)).I)).F 2) ((at_ ((v.getD 0 (.i 0)).L) ((v.getD 2 (.i 0)).I)).F 3) ((at_ ((v.getD 0 (.i 0)).L) ((v.getD 2 (.i 0)).I)).F 4) ((at_ ((v.getD 0 (.i 0)).L) ((v.getD 2 (.i 0)).I)).F 5) ((at_ ((v.getD 0 (.i 0)).L) ((v.getD 2 (.i 0)).I)).F 6) ((at_ ((v.getD 0 (.i 0)).L) ((v.getD 2 (.i 0)).I)).F 7) ((at_ ((v.getD 0 (.i 0)).L) ((v.getD 2 (.i 0)).I)).F 8) (.i ((v.getD 1 (.i 0)).I))).bind fun r1 => bif (decide ((r1.headD (.i 0)).I < 0)) then (exn ex 0 [.i ((r1.headD (.i 0)).I), .i (-1)]) else (self [.l ((v.getD 0 (.i 0)).L), .i ((r1.headD (.i 0)).I), .i (IntKind.wrap .i64 ((v.getD 2 (.i 0)).I + 1))])) else none) else (exn ex 1 [.i ((v.getD 1 (.i 0)).I)])
def L109_109_5 (n : Nat) : LoopM := ⟨⟨[[.t (.slice 264) (.i 0), .t (.int .i64) (.i 0), .un, .un, .un, .t (.int .i64) (.i 0), .un, .un, .un, .un, .un, .un, .un, .un, .un, .un, .un, .un, .un, .un, .un, .un, .un, .un, .un, .un, .un]], []⟩, [(.ret, ⟨[[.un, .t (.int .i64) (.i 0), .un, .un, .t (.int .i64) (.i 0), .un, .un, .un, .un, .un, .un, .un, .un, .un, .un, .un, .un, .un, .un, .un, .un, .un, .un, .un, .un, .un, .un]], []⟩), (.exit 0, ⟨[[.un, .t (.int .i64) (.i 0), .un, .un, .un, .un, .un, .un, .un, .un, .un, .un, .un, .un, .un, .un, .un, .un, .un, .un, .un, .un, .un, .un, .un, .un, .un]], []⟩)], fun v self ex => G109_109_5 n v self ex⟩
def F109 (n : Nat) (x0 x1 : T) : Option (List T) :=
  bif (decide ((IntKind.wrap .i64 (x1.I - (x0.L.length : Int))) < 0)) then (some [.i (-1)]) else (loopR (L109_109_5 n).G n [.l x0.L, .i (IntKind.wrap .i64 (x1.I - (x0.L.length : Int))), .i 0] [fun u2 => some [.i ((u2.getD 1 (.i 0)).I)], fun u3 => some [.i ((u3.getD 0 (.i 0)).I)]])
def M109 (n : Nat) (τs : List T) : Option (List T) := match τs with
  | [x0, x1] => F109 n x0 x1
  | _ => none
noncomputable def code109 : List (Nat × Func) := [(109, Go.Proofs.Try.f109)]
def env109 : List (Nat × (Sig × Mean)) := [(208, sg208, ⟨M208⟩)]
def ann109 (f i : Nat) : Ann := match f, i with
  | 109, 5 => ⟨[(0, .any), (1, .any), (5, .any)], [], [(1, .any), (4, .any)]⟩
  | _, _ => ⟨[], [], []⟩
def lm109_109 (n : Nat) (i : Nat) : List LoopM := match i with
  | 5 => [L109_109_5 n]
  | _ => []
def lsl109 (n : Nat) : List ((Nat × Nat) × (Nat → List LoopM)) := [((3, 109), lm109_109 n)]
noncomputable def cf109 (n : Nat) : Cfg := ⟨tiOf tab, lookup code109, lookup env109, ann109, n⟩
theorem ev109 (n : Nat) (x0 x1 : T) : evF (cf109 n) (drawK (cf109 n)) (lms2 (lsl109 n)) 3 109 sg109 [x0, x1] = F109 n x0 x1 := by kernel_rfl
theorem lp109_109_5 (n : Nat) (K : Ex → St → Option (List T)) (self : List T → Option (List T)) (v : List T) : evC (cf109 n) (callK (cf109 n) (drawK (cf109 n)) (lms2 (lsl109 n)) 3) (drawK (cf109 n) (callK (cf109 n) (drawK (cf109 n)) (lms2 (lsl109 n)) 3)) (ann109 109) (lm109_109 n) (bodyOf Go.Proofs.Try.f109 5) ((L109_109_5 n).sk.fill v) (roundK (ann109 109 5) K (selfK (L109_109_5 n) self)) = (L109_109_5 n).G v self (exitK (L109_109_5 n) K) := by kernel_rfl
theorem eo109 (n : Nat) : EnvOk Go.Proofs.Try.prog (tiOf tab) n 109 sg109 ⟨M109⟩ :=
  have hc : CodeOk Go.Proofs.Try.prog (cf109 n) := (code_cons Go.Proofs.Try.func109 (by kernel_rfl) code_nil)
  have he : EnvsOk Go.Proofs.Try.prog (cf109 n) := (env_cons (eo208 n) env_nil)
  have hl : LmsOk (R := List T) (cf109 n) (drawK (cf109 n)) (lms2 (lsl109 n)) (lsl109 n) := (lms_cons (loops_of (cf := cf109 n) (fn0 := Go.Proofs.Try.f109) rfl (l := [bodyOf Go.Proofs.Try.f109 5]) (by kernel_rfl) (loops_cons (b := bodyOf Go.Proofs.Try.f109 5) (by kernel_rfl) (rfl : lm109_109 n 5 = [L109_109_5 n]) (List.forall_mem_cons.2 ⟨fun K self v => lp109_109_5 n K self v, fun _ h => by cases h⟩) loops_nil)) lms_nil)
  envOk_of (cf := cf109 n) tabOk hc he (draw := drawK (cf109 n)) (fun _ => drawK_ok tabOk mixed hc he) (d := 3) (lms := lms2 (lsl109 n)) hl
    (fun τs rs h => by
      simp only [M109] at h
      split at h
      · exact (ev109 n _ _).trans h
      · cases h)
/-! ### 18: laws.szSend -/
def sg18 : Sig := ⟨[(true, [.int .i64, .int .i64, .slice 2, .slice 264]), (false, [.int .i64])], [.leaf (.int .i64) false]⟩
def F18 (n : Nat) (x0 x1 x2 x3 x4 : T) : Option (List T) :=
  (F93 n x2 x4).bind fun r1 => bif (decide ((r1.headD (.i 0)).I < 0)) then (some [.i (-1)]) else ((F109 n x3 (r1.headD (.i 0))).bind fun r2 => bif (decide ((r2.headD (.i 0)).I < 0)) then (some [.i (-1)]) else (some [(r2.headD (.i 0))]))
def M18 (n : Nat) (τs : List T) : Option (List T) := match τs with
  | [x0, x1, x2, x3, x4] => F18 n x0 x1 x2 x3 x4
  | _ => none
noncomputable def code18 : List (Nat × Func) := [(18, Go.Proofs.Try.f18)]
def env18 : List (Nat × (Sig × Mean)) := [(93, sg93, ⟨M93⟩), (109, sg109, ⟨M109⟩)]
def ann18 (f i : Nat) : Ann := match f, i with
  | _, _ => ⟨[], [], []⟩
def lsl18 (n : Nat) : List ((Nat × Nat) × (Nat → List LoopM)) := []
noncomputable def cf18 (n : Nat) : Cfg := ⟨tiOf tab, lookup code18, lookup env18, ann18, n⟩
theorem ev18 (n : Nat) (x0 x1 x2 x3 x4 : T) : evF (cf18 n) (drawK (cf18 n)) (lms2 (lsl18 n)) 3 18 sg18 [x0, x1, x2, x3, x4] = F18 n x0 x1 x2 x3 x4 := by kernel_rfl
theorem eo18 (n : Nat) : EnvOk Go.Proofs.Try.prog (tiOf tab) n 18 sg18 ⟨M18⟩ :=
  have hc : CodeOk Go.Proofs.Try.prog (cf18 n) := (code_cons Go.Proofs.Try.func18 (by kernel_rfl) code_nil)
  have he : EnvsOk Go.Proofs.Try.prog (cf18 n) := (env_cons (eo93 n) (env_cons (eo109 n) env_nil))
  have hl : LmsOk (R := List T) (cf18 n) (drawK (cf18 n)) (lms2 (lsl18 n)) (lsl18 n) := lms_nil
  envOk_of (cf := cf18 n) tabOk hc he (draw := drawK (cf18 n)) (fun _ => drawK_ok tabOk mixed hc he) (d := 3) (lms := lms2 (lsl18 n)) hl
    (fun τs rs h => by
      simp only [M18] at h
      split at h
      · exact (ev18 n _ _ _ _ _).trans h
      · cases h)
/-! ### 100: spec.l1In -/
def sg100 : Sig := ⟨[(false, [.int .i64]), (false, [.int .i64]), (false, [.int .i64])], [.leaf .bool false]⟩
def F100 (n : Nat) (x0 x1 x2 : T) : Option (List T) :=
  bif (decide (x0.I ≥ x1.I)) then (some [.b (decide (x0.I ≤ x2.I))]) else (some [.b false])
def M100 (n : Nat) (τs : List T) : Option (List T) := match τs with
  | [x0, x1, x2] => F100 n x0 x1 x2
  | _ => none
noncomputable def code100 : List (Nat × Func) := [(100, Go.Proofs.Try.f100)]
def env100 : List (Nat × (Sig × Mean)) := []
def ann100 (f i : Nat) : Ann := match f, i with
  | _, _ => ⟨[], [], []⟩
def lsl100 (n : Nat) : List ((Nat × Nat) × (Nat → List LoopM)) := []
noncomputable def cf100 (n : Nat) : Cfg := ⟨tiOf tab, lookup code100, lookup env100, ann100, n⟩
theorem ev100 (n : Nat) (x0 x1 x2 : T) : evF (cf100 n) (drawK (cf100 n)) (lms2 (lsl100 n)) 3 100 sg100 [x0, x1, x2] = F100 n x0 x1 x2 := by kernel_rfl
theorem eo100 (n : Nat) : EnvOk Go.Proofs.Try.prog (tiOf tab) n 100 sg100 ⟨M100⟩ :=
  have hc : CodeOk Go.Proofs.Try.prog (cf100 n) := (code_cons Go.Proofs.Try.func100 (by kernel_rfl) code_nil)
  have he : EnvsOk Go.Proofs.Try.prog (cf100 n) := env_nil
  have hl : LmsOk (R := List T) (cf100 n) (drawK (cf100 n)) (lms2 (lsl100 n)) (lsl100 n) := lms_nil
  envOk_of (cf := cf100 n) tabOk hc he (draw := drawK (cf100 n)) (fun _ => drawK_ok tabOk mixed hc he) (d := 3) (lms := lms2 (lsl100 n)) hl
    (fun τs rs h => by
      simp only [M100] at h
      split at h
      · exact (ev100 n _ _ _).trans h
      · cases h)
/-! ### 95: spec.l1Word32 -/
def sg95 : Sig := ⟨[(false, [.int .i64])], [.leaf .bool false]⟩
def F95 (n : Nat) (x0 : T) : Option (List T) :=
  (F100 n x0 (.i 0) (.i 4294967295)).bind fun r1 => some [(r1.headD (.i 0))]
def M95 (n : Nat) (τs : List T) : Option (List T) := match τs with
  | [x0] => F95 n x0
  | _ => none
noncomputable def code95 : List (Nat × Func) := [(95, Go.Proofs.Try.f95)]
def env95 : List (Nat × (Sig × Mean)) := [(100, sg100, ⟨M100⟩)]
def ann95 (f i : Nat) : Ann := match f, i with
  | _, _ => ⟨[], [], []⟩
def lsl95 (n : Nat) : List ((Nat × Nat) × (Nat → List LoopM)) := []
noncomputable def cf95 (n : Nat) : Cfg := ⟨tiOf tab, lookup code95, lookup env95, ann95, n⟩
theorem ev95 (n : Nat) (x0 : T) : evF (cf95 n) (drawK (cf95 n)) (lms2 (lsl95 n)) 3 95 sg95 [x0] = F95 n x0 := by kernel_rfl
theorem eo95 (n : Nat) : EnvOk Go.Proofs.Try.prog (tiOf tab) n 95 sg95 ⟨M95⟩ :=
  have hc : CodeOk Go.Proofs.Try.prog (cf95 n) := (code_cons Go.Proofs.Try.func95 (by kernel_rfl) code_nil)
  have he : EnvsOk Go.Proofs.Try.prog (cf95 n) := (env_cons (eo100 n) env_nil)
  have hl : LmsOk (R := List T) (cf95 n) (drawK (cf95 n)) (lms2 (lsl95 n)) (lsl95 n) := lms_nil
  envOk_of (cf := cf95 n) tabOk hc he (draw := drawK (cf95 n)) (fun _ => drawK_ok tabOk mixed hc he) (d := 3) (lms := lms2 (lsl95 n)) hl
    (fun τs rs h => by
      simp only [M95] at h
      split at h
      · exact (ev95 n _).trans h
      · cases h)
/-! ### 96: spec.l1Gap -/
def sg96 : Sig := ⟨[(false, [.int .i64]), (false, [.int .i64])], [.leaf (.int .i64) false]⟩
def F96 (n : Nat) (x0 x1 : T) : Option (List T) :=
  some [.i ((IntKind.wrap .i64 ((IntKind.wrap .i64 (x1.I - x0.I)) + 4294967296)).tmod 4294967296)]
def M96 (n : Nat) (τs : List T) : Option (List T) := match τs with
  | [x0, x1] => F96 n x0 x1
  | _ => none
noncomputable def code96 : List (Nat × Func) := [(96, Go.Proofs.Try.f96)]
def env96 : List (Nat × (Sig × Mean)) := []
def ann96 (f i : Nat) : Ann := match f, i with
  | _, _ => ⟨[], [], []⟩
def lsl96 (n : Nat) : List ((Nat × Nat) × (Nat → List LoopM)) := []
noncomputable def cf96 (n : Nat) : Cfg := ⟨tiOf tab, lookup code96, lookup env96, ann96, n⟩
theorem ev96 (n : Nat) (x0 x1 : T) : evF (cf96 n) (drawK (cf96 n)) (lms2 (lsl96 n)) 3 96 sg96 [x0, x1] = F96 n x0 x1 := by kernel_rfl
theorem eo96 (n : Nat) : EnvOk Go.Proofs.Try.prog (tiOf tab) n 96 sg96 ⟨M96⟩ :=
  have hc : CodeOk Go.Proofs.Try.prog (cf96 n) := (code_cons Go.Proofs.Try.func96 (by kernel_rfl) code_nil)
  have he : EnvsOk Go.Proofs.Try.prog (cf96 n) := env_nil
  have hl : LmsOk (R := List T) (cf96 n) (drawK (cf96 n)) (lms2 (lsl96 n)) (lsl96 n) := lms_nil
  envOk_of (cf := cf96 n) tabOk hc he (draw := drawK (cf96 n)) (fun _ => drawK_ok tabOk mixed hc he) (d := 3) (lms := lms2 (lsl96 n)) hl
    (fun τs rs h => by
      simp only [M96] at h
      split at h
      · exact (ev96 n _ _).trans h
      · cases h)
/-! ### 64: spec.SendFault -/
def sg64 : Sig := ⟨[(true, [.int .i64, .int .i64, .slice 2, .slice 222])], [.leaf (.int .i64) false]⟩
def G64_64_23 {R : Type} (n : Nat) (v : List T) (self : List T → Option R) (ex : List (List T → Option R)) : Option R :=
  bif (decide ((v.getD 0 (.i 0)).I < ((((v.getD 3 (.i 0)).L).length : Nat) : Int))) then (if 0 ≤ (v.getD 0 (.i 0)).I ∧ (v.getD 0 (.i 0)).I < (((v.getD 3 (.i 0)).L).length : Int) then ((F100 n (at_ ((v.getD 3 (.i 0)).L) ((v.getD 0 (.i 0)).I)) (.i 0) (.i 65535)).bind fun r16 => bif (!(r16.headD (.i 0)).B) then (exn ex 0 [.i 3]) else (self [.i (IntKind.wrap .i64 ((v.getD 0 (.i 0)).I + 1)), .i ((v.getD 1 (.i 0)).I), .i ((v.getD 2 (.i 0)).I), .l ((v.getD 3 (.i 0)).L), .l ((v.getD 4 (.i 0)).L)])) else none) else (exn ex 1 [])
def L64_64_23 (n : Nat) : LoopM := ⟨⟨[[.un, .pb 0 0, .un, .un, .un, .un, .un, .un, .un, .t (.int .i64) (.i 0), .un, .un, .un, .un, .un, .un, .un, .un, .un, .un, .un, .un, .un, .un, .un, .un, .un, .un, .un, .un, .un, .un, .un, .un, .un, .un, .un, .un, .un, .un, .un, .un, .un, .un, .un, .un, .un, .un, .un, .un, .un, .un, .un, .un, .un, .un, .un, .un, .un, .un, .un, .un, .un, .un, .un, .un, .un, .un, .un, .un, .un, .un, .un, .un, .un, .un, .un, .un, .un, .un, .un, .un, .un, .un, .un, .un, .un, .un, .un, .un, .un, .un, .un, .un]], [.box [.t (.int .i64) (.i 0), .t (.int .i64) (.i 0), .t (.slice 2) (.i 0), .t (.slice 222) (.i 0)]]⟩, [(.ret, ⟨[[.un, .un, .t (.int .i64) (.i 0), .un, .un, .un, .un, .un, .un, .un, .un, .un, .un, .un, .un, .un, .un, .un, .un, .un, .un, .un, .un, .un, .un, .un, .un, .un, .un, .un, .un, .un, .un, .un, .un, .un, .un, .un, .un, .un, .un, .un, .un, .un, .un, .un, .un, .un, .un, .un, .un, .un, .un, .un, .un, .un, .un, .un, .un, .un, .un, .un, .un, .un, .un, .un, .un, .un, .un, .un, .un, .un, .un, .un, .un, .un, .un, .un, .un, .un, .un, .un, .un, .un, .un, .un, .un, .un, .un, .un, .un, .un, .un, .un]], []⟩), (.exit 2, ⟨[[.un, .un, .un, .un, .un, .un, .un, .un, .un, .un, .un, .un, .un, .un, .un, .un, .un, .un, .un, .un, .un, .un, .un, .un, .un, .un, .un, .un, .un, .un, .un, .un, .un, .un, .un, .un, .un, .un, .un, .un, .un, .un, .un, .un, .un, .un, .un, .un, .un, .un, .un, .un, .un, .un, .un, .un, .un, .un, .un, .un, .un, .un, .un, .un, .un, .un, .un, .un, .un, .un, .un, .un, .un, .un, .un, .un, .un, .un, .un, .un, .un, .un, .un, .un, .un, .un, .un, .un, .un, .un, .un, .un, .un, .un]], []⟩)], fun v self ex => G64_64_23 n v self ex⟩
def G64_64_10 {R : Type} (n : Nat) (v : List T) (self : List T → Option R) (ex : List (List T → Option R)) : Option R :=
  bif (decide ((v.getD 2 (.i 0)).I < ((((v.getD 6 (.i 0)).L).length : Nat) : Int))) then (if 0 ≤ (v.getD 2 (.i 0)).I ∧ (v.getD 2 (.i 0)).I < (((v.getD 6 (.i 0)).L).length : Int) then ((F95 n ((at_ ((v.getD 6 (.i 0)).L) ((v.getD 2 (.i 0)).I)).F 0)).bind fun r5 => bif (!(r5.headD (.i 0)).B) then (exn ex 0 [.i 3, .i ((v.getD 3 (.i 0)).I), .i ((v.getD 4 (.i 0)).I), .l ((v.getD 5 (.i 0)).L), .l ((v.getD 6 (.i 0)).L)]) else ((F100 n ((at_ ((v.getD 6 (.i 0)).L) ((v.getD 2 (.i 0)).I)).F 1) (.i 0) (.i 9)).bind fun r6 => bif (!(r6.headD (.i 0)).B) then (exn ex 0 [.i 3, .i ((v.getD 3 (.i 0)).I), .i ((v.getD 4 (.i 0)).I), .l ((v.getD 5 (.i 0)).L), .l ((v.getD 6 (.i 0)).L)]) else ((F100 n ((at_ ((v.getD 6 (.i 0)).L) ((v.getD 2 (.i 0)).I)).F 2) (.i 0) (.i 65535)).bind fun r7 => bif (!(r7.headD (.i 0)).B) then (exn ex 0 [.i 3, .i ((v.getD 3 (.i 0)).I), .i ((v.getD 4 (.i 0)).I), .l ((v.getD 5 (.i 0)).L), .l ((v.getD 6 (.i 0)).L)]) else (bif (decide ((((((at_ ((v.getD 6 (.i 0)).L) ((v.getD 2 (.i 0)).I)).F 6).L).length : Nat) : Int) < 1)) then (exn ex 0 [.i 2, .i ((v.getD 3 (.i 0)).I), .i ((v.getD 4 (.i 0)).I), .l ((v.getD 5 (.i 0)).L), .l ((v.getD 6 (.i 0)).L)]) else (bif (decide ((((((at_ ((v.getD 6 (.i 0)).L) ((v.getD 2 (.i 0)).I)).F 6).L).length : Nat) : Int) > 100)) then (exn ex 0 [.i 2, .i ((v.getD 3 (.i 0)).I), .i ((v.getD 4 (.i 0)).I), .l ((v.getD 5 (.i 0)).L), .l ((v.getD 6 (.i 0)).L)]) else (bif ((at_ ((v.getD 6 (.i 0)).L) ((v.getD 2 (.i 0)).I)).F 5).B then (bif (((at_ ((v.getD 6 (.i 0)).L) ((v.getD 2 (.i 0)).I)).F 2).I != 0) then (exn ex 0 [.i 1, .i ((v.getD 3 (.i 0)).I), .i ((v.getD 4 (.i 0)).I), .l ((v.getD 5 (.i 0)).L), .l ((v.getD 6 (.i 0)).L)]) else ((F100 n ((at_ ((v.getD 6 (.i 0)).L) ((v.getD 2 (.i 0)).I)).F 7) (.i 0) (.i 99)).bind fun r8 => bif (!(r8.headD (.i 0)).B) then (exn ex 0 [.i 3, .i ((v.getD 3 (.i 0)).I), .i ((v.getD 4 (.i 0)).I), .l ((v.getD 5 (.i 0)).L), .l ((v.getD 6 (.i 0)).L)]) else ((F100 n ((at_ ((v.getD 6 (.i 0)).L) ((v.getD 2 (.i 0)).I)).F 8) (.i 0) (.i 1000000000)).bind fun r9 => bif (!(r9.headD (.i 0)).B) then (exn ex 0 [.i 3, .i ((v.getD 3 (.i 0)).I), .i ((v.getD 4 (.i 0)).I), .l ((v.getD 5 (.i 0)).L), .l ((v.getD 6 (.i 0)).L)]) else ((F96 n (.i ((v.getD 4 (.i 0)).I)) ((at_ ((v.getD 6 (.i 0)).L) ((v.getD 2 (.i 0)).I)).F 0)).bind fun r10 => bif (decide ((r10.headD (.i 0)).I ≤ (v.getD 1 (.i 0)).I)) then (exn ex 0 [.i 1, .i ((v.getD 3 (.i 0)).I), .i ((v.getD 4 (.i 0)).I), .l ((v.getD 5 (.i 0)).L), .l ((v.getD 6 (.i 0)).L)]) else (bif (decide ((r10.headD (.i 0)).I ≥ (v.getD 0 (.i 0)).I)) then (exn ex 0 [.i 1, .i ((v.getD 3 (.i 0)).I), .i ((v.getD 4 (.i 0)).I), .l ((v.getD 5 (.i 0)).L), .l ((v.getD 6 (.i 0)).L)]) else (self [.i ((v.getD 0 (.i 0)).I), .i ((r10.headD (.i 0)).I), .i (IntKind.wrap .i64 ((v.getD 2 (.i 0)).I + 1)), .i ((v.getD 3 (.i 0)).I), .i ((v.getD 4 (.i 0)).I), .l ((v.getD 5 (.i 0)).L), .l ((v.getD 6 (.i 0)).L)])))))) else ((F100 n ((at_ ((v.getD 6 (.i 0)).L) ((v.getD 2 (.i 0)).I)).F 7) (.i 0) (.i 99)).bind fun r11 => bif (!(r11.headD (.i 0)).B) then (exn ex 0 [.i 3, .i ((v.getD 3 (.i 0)).I), .i ((v.getD 4 (.i 0)).I), .l ((v.getD 5 (.i 0)).L), .l ((v.getD 6 (.i 0)).L)]) else ((F100 n ((at_ ((v.getD 6 (.i 0)).L) ((v.getD 2 (.i 0)).I)).F 8) (.i 0) (.i 1000000000)).bind fun r12 => bif (!(r12.headD (.i 0)).B) then (exn ex 0 [.i 3, .i ((v.getD 3 (.i 0)).I), .i ((v.getD 4 (.i 0)).I), .l ((v.getD 5 (.i 0)).L), .l ((v.getD 6 (.i 0)).L)]) else ((F96 n (.i ((v.getD 4 (.i 0)).I)) ((at_ ((v.getD 6 (.i 0)).L) ((v.getD 2 (.i 0)).I)).F 0)).bind fun r13 => bif (decide ((r13.headD (.i 0)).I ≤ (v.getD 1 (.i 0)).I)) then (exn ex 0 [.i 1, .i ((v.getD 3 (.i 0)).I), .i ((v.getD 4 (.i 0)).I), .l ((v.getD 5 (.i 0)).L), .l ((v.getD 6 (.i 0)).L)]) else (bif (decide ((r13.headD (.i 0)).I ≥ (v.getD 0 (.i 0)).I)) then (exn ex 0 [.i 1, .i ((v.getD 3 (.i 0)).I), .i ((v.getD 4 (.i 0)).I), .l ((v.getD 5 (.i 0)).L), .l ((v.getD 6 (.i 0)).L)]) else (self [.i ((v.getD 0 (.i 0)).I), .i ((r13.headD (.i 0)).I), .i (IntKind.wrap .i64 ((v.getD 2 (.i 0)).I + 1)), .i ((v.getD 3 (.i 0)).I), .i ((v.getD 4 (.i 0)).I), .l ((v.getD 5 (.i 0)).L), .l ((v.getD 6 (.i 0)).L)]))))))))))) else none) else (exn ex 1 [.i ((v.getD 3 (.i 0)).I), .i ((v.getD 4 (.i 0)).I), .l ((v.getD 5 (.i 0)).L), .l ((v.getD 6 (.i 0)).L)])
def L64_64_10 (n : Nat) : LoopM := ⟨⟨[[.un, .pb 0 0, .un, .t (.int .i64) (.i 0), .t (.int .i64) (.i 0), .t (.int .i64) (.i 0), .un, .un, .un, .un, .un, .un, .un, .un, .un, .un, .un, .un, .un, .un, .un, .un, .un, .un, .un, .un, .un, .un, .un, .un, .un, .un, .un, .un, .un, .un, .un, .un, .un, .un, .un, .un, .un, .un, .un, .un, .un, .un, .un, .un, .un, .un, .un, .un, .un, .un, .un, .un, .un, .un, .un, .un, .un, .un, .un, .un, .un, .un, .un, .un, .un, .un, .un, .un, .un, .un, .un, .un, .un, .un, .un, .un, .un, .un, .un, .un, .un, .un, .un, .un, .un, .un, .un, .un]], [.box [.t (.int .i64) (.i 0), .t (.int .i64) (.i 0), .t (.slice 2) (.i 0), .t (.slice 222) (.i 0)]]⟩, [(.ret, ⟨[[.un, .pb 0 0, .t (.int .i64) (.i 0), .un, .un, .un, .un, .un, .un, .un, .un, .un, .un, .un, .un, .un, .un, .un, .un, .un, .un, .un, .un, .un, .un, .un, .un, .un, .un, .un, .un, .un, .un, .un, .un, .un, .un, .un, .un, .un, .un, .un, .un, .un, .un, .un, .un, .un, .un, .un, .un, .un, .un, .un, .un, .un, .un, .un, .un, .un, .un, .un, .un, .un, .un, .un, .un, .un, .un, .un, .un, .un, .un, .un, .un, .un, .un, .un, .un, .un, .un, .un, .un, .un, .un, .un, .un, .un, .un, .un, .un, .un, .un, .un]], [.box [.t (.int .i64) (.i 0), .t (.int .i64) (.i 0), .t (.slice 2) (.i 0), .t (.slice 222) (.i 0)]]⟩), (.exit 0, ⟨[[.un, .pb 0 0, .un, .un, .un, .un, .un, .un, .un, .un, .un, .un, .un, .un, .un, .un, .un, .un, .un, .un, .un, .un, .un, .un, .un, .un, .un, .un, .un, .un, .un, .un, .un, .un, .un, .un, .un, .un, .un, .un, .un, .un, .un, .un, .un, .un, .un, .un, .un, .un, .un, .un, .un, .un, .un, .un, .un, .un, .un, .un, .un, .un, .un, .un, .un, .un, .un, .un, .un, .un, .un, .un, .un, .un, .un, .un, .un, .un, .un, .un, .un, .un, .un, .un, .un, .un, .un, .un, .un, .un, .un, .un, .un, .un]], [.box [.t (.int .i64) (.i 0), .t (.int .i64) (.i 0), .t (.slice 2) (.i 0), .t (.slice 222) (.i 0)]]⟩)], fun v self ex => G64_64_10 n v self ex⟩
def F64 (n : Nat) (x0 x1 x2 x3 : T) : Option (List T) :=
  (F95 n x0).bind fun r1 => bif (!(r1.headD (.i 0)).B) then (some [.i 3]) else ((F95 n x1).bind fun r2 => bif (!(r2.headD (.i 0)).B) then (some [.i 3]) else (bif (decide ((x3.L.length : Int) > 40)) then (some [.i 2]) else (bif ((x2.L.length : Int) != 10) then (some [.i 2]) else ((F96 n x1 x0).bind fun r3 => (F100 n (r3.headD (.i 0)) (.i 1) (.i 1000)).bind fun r4 => bif (!(r4.headD (.i 0)).B) then (some [.i 1]) else (loopR (L64_64_10 n).G n [.i ((r3.headD (.i 0)).I), .i 0, .i 0, .i x0.I, .i x1.I, .l x2.L, .l x3.L] [fun u14 => some [.i ((u14.getD 0 (.i 0)).I)], fun u15 => loopR (L64_64_23 n).G n [.i 0, .i ((u15.getD 0 (.i 0)).I), .i ((u15.getD 1 (.i 0)).I), .l ((u15.getD 2 (.i 0)).L), .l ((u15.getD 3 (.i 0)).L)] [fun u17 => some [.i ((u17.getD 0 (.i 0)).I)], fun u18 => some [.i 0]]])))))
def M64 (n : Nat) (τs : List T) : Option (List T) := match τs with
  | [x0, x1, x2, x3] => F64 n x0 x1 x2 x3
  | _ => none
noncomputable def code64 : List (Nat × Func) := [(64, Go.Proofs.Try.f64), (97, Go.Proofs.Try.f97)]
def env64 : List (Nat × (Sig × Mean)) := [(95, sg95, ⟨M95⟩), (96, sg96, ⟨M96⟩), (100, sg100, ⟨M100⟩)]
def ann64 (f i : Nat) : Ann := match f, i with
  | 64, 10 => ⟨[(1, .any), (3, .any), (4, .any), (5, .any)], [], [(1, .any), (2, .any)]⟩
  | 64, 23 => ⟨[(1, .any), (9, .any)], [], [(2, .any)]⟩
  | _, _ => ⟨[], [], []⟩
def lm64_64 (n : Nat) (i : Nat) : List LoopM := match i with
  | 10 => [L64_64_10 n]
  | 23 => [L64_64_23 n]
  | _ => []
def lsl64 (n : Nat) : List ((Nat × Nat) × (Nat → List LoopM)) := [((3, 64), lm64_64 n)]
noncomputable def cf64 (n : Nat) : Cfg := ⟨tiOf tab, lookup code64, lookup env64, ann64, n⟩
theorem ev64 (n : Nat) (x0 x1 x2 x3 : T) : evF (cf64 n) (drawK (cf64 n)) (lms2 (lsl64 n)) 3 64 sg64 [x0, x1, x2, x3] = F64 n x0 x1 x2 x3 := by kernel_rfl
theorem lp64_64_23 (n : Nat) (K : Ex → St → Option (List T)) (self : List T → Option (List T)) (v : List T) : evC (cf64 n) (callK (cf64 n) (drawK (cf64 n)) (lms2 (lsl64 n)) 3) (drawK (cf64 n) (callK (cf64 n) (drawK (cf64 n)) (lms2 (lsl64 n)) 3)) (ann64 64) (lm64_64 n) (bodyOf Go.Proofs.Try.f64 23) ((L64_64_23 n).sk.fill v) (roundK (ann64 64 23) K (selfK (L64_64_23 n) self)) = (L64_64_23 n).G v self (exitK (L64_64_23 n) K) := by kernel_rfl
theorem lp64_64_10 (n : Nat) (K : Ex → St → Option (List T)) (self : List T → Option (List T)) (v : List T) : evC (cf64 n) (callK (cf64 n) (drawK (cf64 n)) (lms2 (lsl64 n)) 3) (drawK (cf64 n) (callK (cf64 n) (drawK (cf64 n)) (lms2 (lsl64 n)) 3)) (ann64 64) (lm64_64 n) (bodyOf Go.Proofs.Try.f64 10) ((L64_64_10 n).sk.fill v) (roundK (ann64 64 10) K (selfK (L64_64_10 n) self)) = (L64_64_10 n).G v self (exitK (L64_64_10 n) K) := by kernel_rfl
theorem eo64 (n : Nat) : EnvOk Go.Proofs.Try.prog (tiOf tab) n 64 sg64 ⟨M64⟩ :=
  have hc : CodeOk Go.Proofs.Try.prog (cf64 n) := (code_cons Go.Proofs.Try.func64 (by kernel_rfl) (code_cons Go.Proofs.Try.func97 (by kernel_rfl) code_nil))
  have he : EnvsOk Go.Proofs.Try.prog (cf64 n) := (env_cons (eo95 n) (env_cons (eo96 n) (env_cons (eo100 n) env_nil)))
  have hl : LmsOk (R := List T) (cf64 n) (drawK (cf64 n)) (lms2 (lsl64 n)) (lsl64 n) := (lms_cons (loops_of (cf := cf64 n) (fn0 := Go.Proofs.Try.f64) rfl (l := [bodyOf Go.Proofs.Try.f64 10, bodyOf Go.Proofs.Try.f64 23]) (by kernel_rfl) (loops_cons (b := bodyOf Go.Proofs.Try.f64 10) (by kernel_rfl) (rfl : lm64_64 n 10 = [L64_64_10 n]) (List.forall_mem_cons.2 ⟨fun K self v => lp64_64_10 n K self v, fun _ h => by cases h⟩) (loops_cons (b := bodyOf Go.Proofs.Try.f64 23) (by kernel_rfl) (rfl : lm64_64 n 23 = [L64_64_23 n]) (List.forall_mem_cons.2 ⟨fun K self v => lp64_64_23 n K self v, fun _ h => by cases h⟩) loops_nil))) lms_nil)
  envOk_of (cf := cf64 n) tabOk hc he (draw := drawK (cf64 n)) (fun _ => drawK_ok tabOk mixed hc he) (d := 3) (lms := lms2 (lsl64 n)) hl
    (fun τs rs h => by
      simp only [M64] at h
      split at h
      · exact (ev64 n _ _ _ _).trans h
      · cases h)
/-! ### 19: spec.LeftIn -/
def sg19 : Sig := ⟨[(true, [.int .i64, .int .i64, .slice 2, .slice 222])], [.agg [(.int .i64, false), (.int .i64, false)]]⟩
def F19 (n : Nat) (x0 x1 x2 x3 : T) : Option (List T) :=
  (F64 n x0 x1 x2 x3).bind fun r1 => bif ((r1.headD (.i 0)).I != 0) then (some [(r1.headD (.i 0)), .i 0]) else (some [.i 0, .i (x3.L.length : Int)])
def M19 (n : Nat) (τs : List T) : Option (List T) := match τs with
  | [x0, x1, x2, x3] => F19 n x0 x1 x2 x3
  | _ => none
noncomputable def code19 : List (Nat × Func) := [(19, Go.Proofs.Try.f19)]
def env19 : List (Nat × (Sig × Mean)) := [(64, sg64, ⟨M64⟩)]
def ann19 (f i : Nat) : Ann := match f, i with
  | _, _ => ⟨[], [], []⟩
def lsl19 (n : Nat) : List ((Nat × Nat) × (Nat → List LoopM)) := []
noncomputable def cf19 (n : Nat) : Cfg := ⟨tiOf tab, lookup code19, lookup env19, ann19, n⟩
theorem ev19 (n : Nat) (x0 x1 x2 x3 : T) : evF (cf19 n) (drawK (cf19 n)) (lms2 (lsl19 n)) 3 19 sg19 [x0, x1, x2, x3] = F19 n x0 x1 x2 x3 := by kernel_rfl
theorem eo19 (n : Nat) : EnvOk Go.Proofs.Try.prog (tiOf tab) n 19 sg19 ⟨M19⟩ :=
  have hc : CodeOk Go.Proofs.Try.prog (cf19 n) := (code_cons Go.Proofs.Try.func19 (by kernel_rfl) code_nil)
  have he : EnvsOk Go.Proofs.Try.prog (cf19 n) := (env_cons (eo64 n) env_nil)
  have hl : LmsOk (R := List T) (cf19 n) (drawK (cf19 n)) (lms2 (lsl19 n)) (lsl19 n) := lms_nil
  envOk_of (cf := cf19 n) tabOk hc he (draw := drawK (cf19 n)) (fun _ => drawK_ok tabOk mixed hc he) (d := 3) (lms := lms2 (lsl19 n)) hl
    (fun τs rs h => by
      simp only [M19] at h
      split at h
      · exact (ev19 n _ _ _ _).trans h
      · cases h)
/-! ### 101: laws.toInt64S -/
def sg101 : Sig := ⟨[(false, [.slice 2])], [.leaf (.slice 2) false]⟩
def G101_101_3 {R : Type} (n : Nat) (v : List T) (self : List T → Option R) (ex : List (List T → Option R)) : Option R :=
  bif (decide ((v.getD 1 (.i 0)).I < ((((v.getD 0 (.i 0)).L).length : Nat) : Int))) then (if 0 ≤ (v.getD 1 (.i 0)).I ∧ (v.getD 1 (.i 0)).I < (((v.getD 0 (.i 0)).L).length : Int) then (if 0 ≤ (v.getD 1 (.i 0)).I ∧ (v.getD 1 (.i 0)).I < (((v.getD 2 (.i 0)).L).length : Int) then (if 2 = 2 ∧ ((v.getD 1 (.i 0)).I).toNat < ((v.getD 2 (.i 0)).L).length then (self [.l ((v.getD 0 (.i 0)).L), .i (IntKind.wrap .i64 ((v.getD 1 (.i 0)).I + 1)), .l (((v.getD 2 (.i 0)).L).set (((v.getD 1 (.i 0)).I).toNat) ((at_ ((v.getD 0 (.i 0)).L) ((v.getD 1 (.i 0)).I))))]) else none) else none) else none) else (exn ex 0 [.l ((v.getD 2 (.i 0)).L)])
def L101_101_3 (n : Nat) : LoopM := ⟨⟨[[.t (.slice 2) (.i 0), .un, .un, .own 2 0, .t (.int .i64) (.i 0), .un, .un, .un, .un, .un, .un, .un, .un, .un, .un, .un, .un, .un, .un, .un, .un, .un]], [.arr 2 []]⟩, [(.exit 0, ⟨[[.un, .un, .un, .own 2 0, .un, .un, .un, .un, .un, .un, .un, .un, .un, .un, .un, .un, .un, .un, .un, .un, .un, .un]], [.arr 2 []]⟩)], fun v self ex => G101_101_3 n v self ex⟩
def F101 (n : Nat) (x0 : T) : Option (List T) :=
  if 0 ≤ (x0.L.length : Int) ∧ (x0.L.length : Int) * 8 ≤ limB ∧ (x0.L.length : Int) < maxN then (loopR (L101_101_3 n).G n [.l x0.L, .i 0, .l (List.replicate ((x0.L.length : Int)).toNat (T.i 0))] [fun u1 => some [.l ((u1.getD 0 (.i 0)).L)]]) else none
def M101 (n : Nat) (τs : List T) : Option (List T) := match τs with
  | [x0] => F101 n x0
  | _ => none
noncomputable def code101 : List (Nat × Func) := [(101, Go.Proofs.Try.f101)]
def env101 : List (Nat × (Sig × Mean)) := []
def ann101 (f i : Nat) : Ann := match f, i with
  | 101, 3 => ⟨[(0, .any), (3, .any), (4, .any)], [], [(3, .any)]⟩
  | _, _ => ⟨[], [], []⟩
def lm101_101 (n : Nat) (i : Nat) : List LoopM := match i with
  | 3 => [L101_101_3 n]
  | _ => []
def lsl101 (n : Nat) : List ((Nat × Nat) × (Nat → List LoopM)) := [((3, 101), lm101_101 n)]
noncomputable def cf101 (n : Nat) : Cfg := ⟨tiOf tab, lookup code101, lookup env101, ann101, n⟩
theorem ev101 (n : Nat) (x0 : T) : evF (cf101 n) (drawK (cf101 n)) (lms2 (lsl101 n)) 3 101 sg101 [x0] = F101 n x0 := by kernel_rfl
theorem lp101_101_3 (n : Nat) (K : Ex → St → Option (List T)) (self : List T → Option (List T)) (v : List T) : evC (cf101 n) (callK (cf101 n) (drawK (cf101 n)) (lms2 (lsl101 n)) 3) (drawK (cf101 n) (callK (cf101 n) (drawK (cf101 n)) (lms2 (lsl101 n)) 3)) (ann101 101) (lm101_101 n) (bodyOf Go.Proofs.Try.f101 3) ((L101_101_3 n).sk.fill v) (roundK (ann101 101 3) K (selfK (L101_101_3 n) self)) = (L101_101_3 n).G v self (exitK (L101_101_3 n) K) := by kernel_rfl
theorem eo101 (n : Nat) : EnvOk Go.Proofs.Try.prog (tiOf tab) n 101 sg101 ⟨M101⟩ :=
  have hc : CodeOk Go.Proofs.Try.prog (cf101 n) := (code_cons Go.Proofs.Try.func101 (by kernel_rfl) code_nil)
  have he : EnvsOk Go.Proofs.Try.prog (cf101 n) := env_nil
  have hl : LmsOk (R := List T) (cf101 n) (drawK (cf101 n)) (lms2 (lsl101 n)) (lsl101 n) := (lms_cons (loops_of (cf := cf101 n) (fn0 := Go.Proofs.Try.f101) rfl (l := [bodyOf Go.Proofs.Try.f101 3]) (by kernel_rfl) (loops_cons (b := bodyOf Go.Proofs.Try.f101 3) (by kernel_rfl) (rfl : lm101_101 n 3 = [L101_101_3 n]) (List.forall_mem_cons.2 ⟨fun K self v => lp101_101_3 n K self v, fun _ h => by cases h⟩) loops_nil)) lms_nil)
  envOk_of (cf := cf101 n) tabOk hc he (draw := drawK (cf101 n)) (fun _ => drawK_ok tabOk mixed hc he) (d := 3) (lms := lms2 (lsl101 n)) hl
    (fun τs rs h => by
      simp only [M101] at h
      split at h
      · exact (ev101 n _).trans h
      · cases h)
/-! ### 250: laws.toByteS -/
def sg250 : Sig := ⟨[(false, [.slice 5])], [.leaf (.slice 5) false]⟩
def G250_250_3 {R : Type} (n : Nat) (v : List T) (self : List T → Option R) (ex : List (List T → Option R)) : Option R :=
  bif (decide ((v.getD 1 (.i 0)).I < ((((v.getD 0 (.i 0)).L).length : Nat) : Int))) then (if 0 ≤ (v.getD 1 (.i 0)).I ∧ (v.getD 1 (.i 0)).I < (((v.getD 0 (.i 0)).L).length : Int) then (if 0 ≤ (v.getD 1 (.i 0)).I ∧ (v.getD 1 (.i 0)).I < (((v.getD 2 (.i 0)).L).length : Int) then (if 5 = 5 ∧ ((v.getD 1 (.i 0)).I).toNat < ((v.getD 2 (.i 0)).L).length then (self [.l ((v.getD 0 (.i 0)).L), .i (IntKind.wrap .i64 ((v.getD 1 (.i 0)).I + 1)), .l (((v.getD 2 (.i 0)).L).set (((v.getD 1 (.i 0)).I).toNat) ((at_ ((v.getD 0 (.i 0)).L) ((v.getD 1 (.i 0)).I))))]) else none) else none) else none) else (exn ex 0 [.l ((v.getD 2 (.i 0)).L)])
def L250_250_3 (n : Nat) : LoopM := ⟨⟨[[.t (.slice 5) (.i 0), .un, .un, .own 5 0, .t (.int .i64) (.i 0), .un, .un, .un, .un, .un, .un, .un, .un, .un, .un, .un, .un, .un, .un, .un, .un, .un]], [.arr 5 []]⟩, [(.exit 0, ⟨[[.un, .un, .un, .own 5 0, .un, .un, .un, .un, .un, .un, .un, .un, .un, .un, .un, .un, .un, .un, .un, .un, .un, .un]], [.arr 5 []]⟩)], fun v self ex => G250_250_3 n v self ex⟩
def F250 (n : Nat) (x0 : T) : Option (List T) :=
  if 0 ≤ (x0.L.length : Int) ∧ (x0.L.length : Int) * 1 ≤ limB ∧ (x0.L.length : Int) < maxN then (loopR (L250_250_3 n).G n [.l x0.L, .i 0, .l (List.replicate ((x0.L.length : Int)).toNat (T.i 0))] [fun u1 => some [.l ((u1.getD 0 (.i 0)).L)]]) else none
def M250 (n : Nat) (τs : List T) : Option (List T) := match τs with
  | [x0] => F250 n x0
  | _ => none
noncomputable def code250 : List (Nat × Func) := [(250, Go.Proofs.Try.f250)]
def env250 : List (Nat × (Sig × Mean)) := []
def ann250 (f i : Nat) : Ann := match f, i with
  | 250, 3 => ⟨[(0, .any), (3, .any), (4, .any)], [], [(3, .any)]⟩
  | _, _ => ⟨[], [], []⟩
def lm250_250 (n : Nat) (i : Nat) : List LoopM := match i with
  | 3 => [L250_250_3 n]
  | _ => []
def lsl250 (n : Nat) : List ((Nat × Nat) × (Nat → List LoopM)) := [((3, 250), lm250_250 n)]
noncomputable def cf250 (n : Nat) : Cfg := ⟨tiOf tab, lookup code250, lookup env250, ann250, n⟩
theorem ev250 (n : Nat) (x0 : T) : evF (cf250 n) (drawK (cf250 n)) (lms2 (lsl250 n)) 3 250 sg250 [x0] = F250 n x0 := by kernel_rfl
theorem lp250_250_3 (n : Nat) (K : Ex → St → Option (List T)) (self : List T → Option (List T)) (v : List T) : evC (cf250 n) (callK (cf250 n) (drawK (cf250 n)) (lms2 (lsl250 n)) 3) (drawK (cf250 n) (callK (cf250 n) (drawK (cf250 n)) (lms2 (lsl250 n)) 3)) (ann250 250) (lm250_250 n) (bodyOf Go.Proofs.Try.f250 3) ((L250_250_3 n).sk.fill v) (roundK (ann250 250 3) K (selfK (L250_250_3 n) self)) = (L250_250_3 n).G v self (exitK (L250_250_3 n) K) := by kernel_rfl
theorem eo250 (n : Nat) : EnvOk Go.Proofs.Try.prog (tiOf tab) n 250 sg250 ⟨M250⟩ :=
  have hc : CodeOk Go.Proofs.Try.prog (cf250 n) := (code_cons Go.Proofs.Try.func250 (by kernel_rfl) code_nil)
  have he : EnvsOk Go.Proofs.Try.prog (cf250 n) := env_nil
  have hl : LmsOk (R := List T) (cf250 n) (drawK (cf250 n)) (lms2 (lsl250 n)) (lsl250 n) := (lms_cons (loops_of (cf := cf250 n) (fn0 := Go.Proofs.Try.f250) rfl (l := [bodyOf Go.Proofs.Try.f250 3]) (by kernel_rfl) (loops_cons (b := bodyOf Go.Proofs.Try.f250 3) (by kernel_rfl) (rfl : lm250_250 n 3 = [L250_250_3 n]) (List.forall_mem_cons.2 ⟨fun K self v => lp250_250_3 n K self v, fun _ h => by cases h⟩) loops_nil)) lms_nil)
  envOk_of (cf := cf250 n) tabOk hc he (draw := drawK (cf250 n)) (fun _ => drawK_ok tabOk mixed hc he) (d := 3) (lms := lms2 (lsl250 n)) hl
    (fun τs rs h => by
      simp only [M250] at h
      split at h
      · exact (ev250 n _).trans h
      · cases h)
/-! ### 201: laws.toData -/
def sg201 : Sig := ⟨[(true, [.int .i64, .int .i64, .int .i64, .bool, .bool, .bool, .slice 5])], [.agg [(.int .i64, false), (.int .i64, false), (.int .i64, false), (.bool, false), (.bool, false), (.bool, false), (.slice 5, false)]]⟩
def F201 (n : Nat) (x0 x1 x2 x3 x4 x5 x6 : T) : Option (List T) :=
  (F250 n x6).bind fun r1 => some [x0, x1, x2, x3, x4, x5, (r1.headD (.i 0))]
def M201 (n : Nat) (τs : List T) : Option (List T) := match τs with
  | [x0, x1, x2, x3, x4, x5, x6] => F201 n x0 x1 x2 x3 x4 x5 x6
  | _ => none
noncomputable def code201 : List (Nat × Func) := [(201, Go.Proofs.Try.f201)]
def env201 : List (Nat × (Sig × Mean)) := [(250, sg250, ⟨M250⟩)]
def ann201 (f i : Nat) : Ann := match f, i with
  | _, _ => ⟨[], [], []⟩
def lsl201 (n : Nat) : List ((Nat × Nat) × (Nat → List LoopM)) := []
noncomputable def cf201 (n : Nat) : Cfg := ⟨tiOf tab, lookup code201, lookup env201, ann201, n⟩
theorem ev201 (n : Nat) (x0 x1 x2 x3 x4 x5 x6 : T) : evF (cf201 n) (drawK (cf201 n)) (lms2 (lsl201 n)) 3 201 sg201 [x0, x1, x2, x3, x4, x5, x6] = F201 n x0 x1 x2 x3 x4 x5 x6 := by kernel_rfl
theorem eo201 (n : Nat) : EnvOk Go.Proofs.Try.prog (tiOf tab) n 201 sg201 ⟨M201⟩ :=
  have hc : CodeOk Go.Proofs.Try.prog (cf201 n) := (code_cons Go.Proofs.Try.func201 (by kernel_rfl) code_nil)
  have he : EnvsOk Go.Proofs.Try.prog (cf201 n) := (env_cons (eo250 n) env_nil)
  have hl : LmsOk (R := List T) (cf201 n) (drawK (cf201 n)) (lms2 (lsl201 n)) (lsl201 n) := lms_nil
  envOk_of (cf := cf201 n) tabOk hc he (draw := drawK (cf201 n)) (fun _ => drawK_ok tabOk mixed hc he) (d := 3) (lms := lms2 (lsl201 n)) hl
    (fun τs rs h => by
      simp only [M201] at h
      split at h
      · exact (ev201 n _ _ _ _ _ _ _).trans h
      · cases h)
/-! ### 209: laws.toSendItem -/
def sg209 : Sig := ⟨[(true, [.int .i64, .int .i64, .int .i64, .bool, .bool, .bool, .slice 5, .int .i64, .int .i64])], [.agg [(.int .i64, false), (.int .i64, false), (.int .i64, false), (.bool, false), (.bool, false), (.bool, false), (.slice 5, false), (.int .i64, false), (.int .i64, false)]]⟩
def F209 (n : Nat) (x0 x1 x2 x3 x4 x5 x6 x7 x8 : T) : Option (List T) :=
  (F201 n x0 x1 x2 x3 x4 x5 x6).bind fun r1 => some [(r1.headD (.i 0)), (r1.tail.headD (.i 0)), (r1.tail.tail.headD (.i 0)), (r1.tail.tail.tail.headD (.i 0)), (r1.tail.tail.tail.tail.headD (.i 0)), (r1.tail.tail.tail.tail.tail.headD (.i 0)), (r1.tail.tail.tail.tail.tail.tail.headD (.i 0)), x7, x8]
def M209 (n : Nat) (τs : List T) : Option (List T) := match τs with
  | [x0, x1, x2, x3, x4, x5, x6, x7, x8] => F209 n x0 x1 x2 x3 x4 x5 x6 x7 x8
  | _ => none
noncomputable def code209 : List (Nat × Func) := [(209, Go.Proofs.Try.f209)]
def env209 : List (Nat × (Sig × Mean)) := [(201, sg201, ⟨M201⟩)]
def ann209 (f i : Nat) : Ann := match f, i with
  | _, _ => ⟨[], [], []⟩
def lsl209 (n : Nat) : List ((Nat × Nat) × (Nat → List LoopM)) := []
noncomputable def cf209 (n : Nat) : Cfg := ⟨tiOf tab, lookup code209, lookup env209, ann209, n⟩
theorem ev209 (n : Nat) (x0 x1 x2 x3 x4 x5 x6 x7 x8 : T) : evF (cf209 n) (drawK (cf209 n)) (lms2 (lsl209 n)) 3 209 sg209 [x0, x1, x2, x3, x4, x5, x6, x7, x8] = F209 n x0 x1 x2 x3 x4 x5 x6 x7 x8 := by kernel_rfl
theorem eo209 (n : Nat) : EnvOk Go.Proofs.Try.prog (tiOf tab) n 209 sg209 ⟨M209⟩ :=
  have hc : CodeOk Go.Proofs.Try.prog (cf209 n) := (code_cons Go.Proofs.Try.func209 (by kernel_rfl) code_nil)
  have he : EnvsOk Go.Proofs.Try.prog (cf209 n) := (env_cons (eo201 n) env_nil)
  have hl : LmsOk (R := List T) (cf209 n) (drawK (cf209 n)) (lms2 (lsl209 n)) (lsl209 n) := lms_nil
  envOk_of (cf := cf209 n) tabOk hc he (draw := drawK (cf209 n)) (fun _ => drawK_ok tabOk mixed hc he) (d := 3) (lms := lms2 (lsl209 n)) hl
    (fun τs rs h => by
      simp only [M209] at h
      split at h
      · exact (ev209 n _ _ _ _ _ _ _ _ _).trans h
      · cases h)
/-! ### 110: laws.toSendItemS -/
def sg110 : Sig := ⟨[(false, [.slice 264])], [.leaf (.slice 222) false]⟩
def G110_110_3 {R : Type} (n : Nat) (v : List T) (self : List T → Option R) (ex : List (List T → Option R)) : Option R :=
  bif (decide ((v.getD 1 (.i 0)).I < ((((v.getD 0 (.i 0)).L).length : Nat) : Int))) then (if 0 ≤ (v.getD 1 (.i 0)).I ∧ (v.getD 1 (.i 0)).I < (((v.getD 0 (.i 0)).L).length : Int) then ((F209 n ((at_ ((v.getD 0 (.i 0)).L) ((v.getD 1 (.i 0)).I)).F 0) ((at_ ((v.getD 0 (.i 0)).L) ((v.getD 1 (.i 0)).I)).F 1) ((at_ ((v.getD 0 (.i 0)).L) ((v.getD 1 (.i 0)).I)).F 2) ((at_ ((v.getD 0 (.i 0)).L) ((v.getD 1 (.i 0)).I)).F 3) ((at_ ((v.getD 0 (.i 0)).L) ((v.getD 1 (.i 0)).I)).F 4) ((at_ ((v.getD 0 (.i 0)).L) ((v.getD 1 (.i 0)).I)).F 5) ((at_ ((v.getD 0 (.i 0)).L) ((v.getD 1 (.i 0)).I)).F 6) ((at_ ((v.getD 0 (.i 0)).L) ((v.getD 1 (.i 0)).I)).F 7) ((at_ ((v.getD 0 (.i 0)).L) ((v.getD 1 (.i 0)).I)).F 8)).bind fun r1 => if 0 ≤ (v.getD 1 (.i 0)).I ∧ (v.getD 1 (.i 0)).I < (((v.getD 2 (.i 0)).L).length : Int) then (if 222 = 222 ∧ ((v.getD 1 (.i 0)).I).toNat < ((v.getD 2 (.i 0)).L).length then (self [.l ((v.getD 0 (.i 0)).L), .i (IntKind.wrap .i64 ((v.getD 1 (.i 0)).I + 1)), .l (((v.getD 2 (.i 0)).L).set (((v.getD 1 (.i 0)).I).toNat) (.r [(r1.headD (.i 0)), (r1.tail.headD (.i 0)), (r1.tail.tail.headD (.i 0)), (r1.tail.tail.tail.headD (.i 0)), (r1.tail.tail.tail.tail.headD (.i 0)), (r1.tail.tail.tail.tail.tail.headD (.i 0)), (r1.tail.tail.tail.tail.tail.tail.headD (.i 0)), (r1.tail.tail.tail.tail.tail.tail.tail.headD (.i 0)), (r1.tail.tail.tail.tail.tail.tail.tail.tail.headD (.i 0))]))]) else none) else none) else none) else (exn ex 0 [.l ((v.getD 2 (.i 0)).L)])
def L110_110_3 (n : Nat) : LoopM := ⟨⟨[[.t (.slice 264) (.i 0), .un, .un, .own 222 0, .t (.int .i64) (.i 0), .un, .un, .un, .un, .un, .un, .un, .un, .un, .un, .un, .un, .un, .un, .un, .un, .un, .un]], [.arr 222 []]⟩, [(.exit 0, ⟨[[.un, .un, .un, .own 222 0, .un, .un, .un, .un, .un, .un, .un, .un, .un, .un, .un, .un, .un, .un, .un, .un, .un, .un, .un]], [.arr 222 []]⟩)], fun v self ex => G110_110_3 n v self ex⟩
def F110 (n : Nat) (x0 : T) : Option (List T) :=
  if 0 ≤ (x0.L.length : Int) ∧ (x0.L.length : Int) * 72 ≤ limB ∧ (x0.L.length : Int) < maxN then (loopR (L110_110_3 n).G n [.l x0.L, .i 0, .l (List.replicate ((x0.L.length : Int)).toNat (T.r [.i 0, .i 0, .i 0, .b false, .b false, .b false, .l [], .i 0, .i 0]))] [fun u2 => some [.l ((u2.getD 0 (.i 0)).L)]]) else none
def M110 (n : Nat) (τs : List T) : Option (List T) := match τs with
  | [x0] => F110 n x0
  | _ => none
noncomputable def code110 : List (Nat × Func) := [(110, Go.Proofs.Try.f110)]
def env110 : List (Nat × (Sig × Mean)) := [(209, sg209, ⟨M209⟩)]
def ann110 (f i : Nat) : Ann := match f, i with
  | 110, 3 => ⟨[(0, .any), (3, .any), (4, .any)], [], [(3, .any)]⟩
  | _, _ => ⟨[], [], []⟩
def lm110_110 (n : Nat) (i : Nat) : List LoopM := match i with
  | 3 => [L110_110_3 n]
  | _ => []
def lsl110 (n : Nat) : List ((Nat × Nat) × (Nat → List LoopM)) := [((3, 110), lm110_110 n)]
noncomputable def cf110 (n : Nat) : Cfg := ⟨tiOf tab, lookup code110, lookup env110, ann110, n⟩
theorem ev110 (n : Nat) (x0 : T) : evF (cf110 n) (drawK (cf110 n)) (lms2 (lsl110 n)) 3 110 sg110 [x0] = F110 n x0 := by kernel_rfl
theorem lp110_110_3 (n : Nat) (K : Ex → St → Option (List T)) (self : List T → Option (List T)) (v : List T) : evC (cf110 n) (callK (cf110 n) (drawK (cf110 n)) (lms2 (lsl110 n)) 3) (drawK (cf110 n) (callK (cf110 n) (drawK (cf110 n)) (lms2 (lsl110 n)) 3)) (ann110 110) (lm110_110 n) (bodyOf Go.Proofs.Try.f110 3) ((L110_110_3 n).sk.fill v) (roundK (ann110 110 3) K (selfK (L110_110_3 n) self)) = (L110_110_3 n).G v self (exitK (L110_110_3 n) K) := by kernel_rfl
theorem eo110 (n : Nat) : EnvOk Go.Proofs.Try.prog (tiOf tab) n 110 sg110 ⟨M110⟩ :=
  have hc : CodeOk Go.Proofs.Try.prog (cf110 n) := (code_cons Go.Proofs.Try.func110 (by kernel_rfl) code_nil)
  have he : EnvsOk Go.Proofs.Try.prog (cf110 n) := (env_cons (eo209 n) env_nil)
  have hl : LmsOk (R := List T) (cf110 n) (drawK (cf110 n)) (lms2 (lsl110 n)) (lsl110 n) := (lms_cons (loops_of (cf := cf110 n) (fn0 := Go.Proofs.Try.f110) rfl (l := [bodyOf Go.Proofs.Try.f110 3]) (by kernel_rfl) (loops_cons (b := bodyOf Go.Proofs.Try.f110 3) (by kernel_rfl) (rfl : lm110_110 n 3 = [L110_110_3 n]) (List.forall_mem_cons.2 ⟨fun K self v => lp110_110_3 n K self v, fun _ h => by cases h⟩) loops_nil)) lms_nil)
  envOk_of (cf := cf110 n) tabOk hc he (draw := drawK (cf110 n)) (fun _ => drawK_ok tabOk mixed hc he) (d := 3) (lms := lms2 (lsl110 n)) hl
    (fun τs rs h => by
      simp only [M110] at h
      split at h
      · exact (ev110 n _).trans h
      · cases h)
/-! ### 20: laws.toSend -/
def sg20 : Sig := ⟨[(true, [.int .i64, .int .i64, .slice 2, .slice 264])], [.agg [(.int .i64, false), (.int .i64, false), (.slice 2, false), (.slice 222, false)]]⟩
def F20 (n : Nat) (x0 x1 x2 x3 : T) : Option (List T) :=
  (F101 n x2).bind fun r1 => (F110 n x3).bind fun r2 => some [x0, x1, (r1.headD (.i 0)), (r2.headD (.i 0))]
def M20 (n : Nat) (τs : List T) : Option (List T) := match τs with
  | [x0, x1, x2, x3] => F20 n x0 x1 x2 x3
  | _ => none
noncomputable def code20 : List (Nat × Func) := [(20, Go.Proofs.Try.f20)]
def env20 : List (Nat × (Sig × Mean)) := [(101, sg101, ⟨M101⟩), (110, sg110, ⟨M110⟩)]
def ann20 (f i : Nat) : Ann := match f, i with
  | _, _ => ⟨[], [], []⟩
def lsl20 (n : Nat) : List ((Nat × Nat) × (Nat → List LoopM)) := []
noncomputable def cf20 (n : Nat) : Cfg := ⟨tiOf tab, lookup code20, lookup env20, ann20, n⟩
theorem ev20 (n : Nat) (x0 x1 x2 x3 : T) : evF (cf20 n) (drawK (cf20 n)) (lms2 (lsl20 n)) 3 20 sg20 [x0, x1, x2, x3] = F20 n x0 x1 x2 x3 := by kernel_rfl
theorem eo20 (n : Nat) : EnvOk Go.Proofs.Try.prog (tiOf tab) n 20 sg20 ⟨M20⟩ :=
  have hc : CodeOk Go.Proofs.Try.prog (cf20 n) := (code_cons Go.Proofs.Try.func20 (by kernel_rfl) code_nil)
  have he : EnvsOk Go.Proofs.Try.prog (cf20 n) := (env_cons (eo101 n) (env_cons (eo110 n) env_nil))
  have hl : LmsOk (R := List T) (cf20 n) (drawK (cf20 n)) (lms2 (lsl20 n)) (lsl20 n) := lms_nil
  envOk_of (cf := cf20 n) tabOk hc he (draw := drawK (cf20 n)) (fun _ => drawK_ok tabOk mixed hc he) (d := 3) (lms := lms2 (lsl20 n)) hl
    (fun τs rs h => by
      simp only [M20] at h
      split at h
      · exact (ev20 n _ _ _ _).trans h
      · cases h)
/-! ### 167: impl.within -/
def sg167 : Sig := ⟨[(false, [.int .i64]), (false, [.int .i64]), (false, [.int .i64])], [.leaf .bool false]⟩
def F167 (n : Nat) (x0 x1 x2 : T) : Option (List T) :=
  bif (decide (x0.I ≥ x1.I)) then (some [.b (decide (x0.I ≤ x2.I))]) else (some [.b false])
def M167 (n : Nat) (τs : List T) : Option (List T) := match τs with
  | [x0, x1, x2] => F167 n x0 x1 x2
  | _ => none
noncomputable def code167 : List (Nat × Func) := [(167, Go.Proofs.Try.f167)]
def env167 : List (Nat × (Sig × Mean)) := []
def ann167 (f i : Nat) : Ann := match f, i with
  | _, _ => ⟨[], [], []⟩
def lsl167 (n : Nat) : List ((Nat × Nat) × (Nat → List LoopM)) := []
noncomputable def cf167 (n : Nat) : Cfg := ⟨tiOf tab, lookup code167, lookup env167, ann167, n⟩
theorem ev167 (n : Nat) (x0 x1 x2 : T) : evF (cf167 n) (drawK (cf167 n)) (lms2 (lsl167 n)) 3 167 sg167 [x0, x1, x2] = F167 n x0 x1 x2 := by kernel_rfl
theorem eo167 (n : Nat) : EnvOk Go.Proofs.Try.prog (tiOf tab) n 167 sg167 ⟨M167⟩ :=
  have hc : CodeOk Go.Proofs.Try.prog (cf167 n) := (code_cons Go.Proofs.Try.func167 (by kernel_rfl) code_nil)
  have he : EnvsOk Go.Proofs.Try.prog (cf167 n) := env_nil
  have hl : LmsOk (R := List T) (cf167 n) (drawK (cf167 n)) (lms2 (lsl167 n)) (lsl167 n) := lms_nil
  envOk_of (cf := cf167 n) tabOk hc he (draw := drawK (cf167 n)) (fun _ => drawK_ok tabOk mixed hc he) (d := 3) (lms := lms2 (lsl167 n)) hl
    (fun τs rs h => by
      simp only [M167] at h
      split at h
      · exact (ev167 n _ _ _).trans h
      · cases h)
/-! ### 206: impl.isPair -/
def sg206 : Sig := ⟨[(false, [.int .i64])], [.leaf .bool false]⟩
def F206 (n : Nat) (x0 : T) : Option (List T) :=
  (F167 n x0 (.i 0) (.i 65535)).bind fun r1 => some [(r1.headD (.i 0))]
def M206 (n : Nat) (τs : List T) : Option (List T) := match τs with
  | [x0] => F206 n x0
  | _ => none
noncomputable def code206 : List (Nat × Func) := [(206, Go.Proofs.Try.f206)]
def env206 : List (Nat × (Sig × Mean)) := [(167, sg167, ⟨M167⟩)]
def ann206 (f i : Nat) : Ann := match f, i with
  | _, _ => ⟨[], [], []⟩
def lsl206 (n : Nat) : List ((Nat × Nat) × (Nat → List LoopM)) := []
noncomputable def cf206 (n : Nat) : Cfg := ⟨tiOf tab, lookup code206, lookup env206, ann206, n⟩
theorem ev206 (n : Nat) (x0 : T) : evF (cf206 n) (drawK (cf206 n)) (lms2 (lsl206 n)) 3 206 sg206 [x0] = F206 n x0 := by kernel_rfl
theorem eo206 (n : Nat) : EnvOk Go.Proofs.Try.prog (tiOf tab) n 206 sg206 ⟨M206⟩ :=
  have hc : CodeOk Go.Proofs.Try.prog (cf206 n) := (code_cons Go.Proofs.Try.func206 (by kernel_rfl) code_nil)
  have he : EnvsOk Go.Proofs.Try.prog (cf206 n) := (env_cons (eo167 n) env_nil)
  have hl : LmsOk (R := List T) (cf206 n) (drawK (cf206 n)) (lms2 (lsl206 n)) (lsl206 n) := lms_nil
  envOk_of (cf := cf206 n) tabOk hc he (draw := drawK (cf206 n)) (fun _ => drawK_ok tabOk mixed hc he) (d := 3) (lms := lms2 (lsl206 n)) hl
    (fun τs rs h => by
      simp only [M206] at h
      split at h
      · exact (ev206 n _).trans h
      · cases h)
/-! ### 205: impl.arePairs$1 -/
def sg205 : Sig := ⟨[(false, [.int .i64])], [.leaf .bool false]⟩
def F205 (n : Nat) (x0 : T) : Option (List T) :=
  (F206 n x0).bind fun r1 => some [.b (!(r1.headD (.i 0)).B)]
def M205 (n : Nat) (τs : List T) : Option (List T) := match τs with
  | [x0] => F205 n x0
  | _ => none
noncomputable def code205 : List (Nat × Func) := [(205, Go.Proofs.Try.f205)]
def env205 : List (Nat × (Sig × Mean)) := [(206, sg206, ⟨M206⟩)]
def ann205 (f i : Nat) : Ann := match f, i with
  | _, _ => ⟨[], [], []⟩
def lsl205 (n : Nat) : List ((Nat × Nat) × (Nat → List LoopM)) := []
noncomputable def cf205 (n : Nat) : Cfg := ⟨tiOf tab, lookup code205, lookup env205, ann205, n⟩
theorem ev205 (n : Nat) (x0 : T) : evF (cf205 n) (drawK (cf205 n)) (lms2 (lsl205 n)) 3 205 sg205 [x0] = F205 n x0 := by kernel_rfl
theorem eo205 (n : Nat) : EnvOk Go.Proofs.Try.prog (tiOf tab) n 205 sg205 ⟨M205⟩ :=
  have hc : CodeOk Go.Proofs.Try.prog (cf205 n) := (code_cons Go.Proofs.Try.func205 (by kernel_rfl) code_nil)
  have he : EnvsOk Go.Proofs.Try.prog (cf205 n) := (env_cons (eo206 n) env_nil)
  have hl : LmsOk (R := List T) (cf205 n) (drawK (cf205 n)) (lms2 (lsl205 n)) (lsl205 n) := lms_nil
  envOk_of (cf := cf205 n) tabOk hc he (draw := drawK (cf205 n)) (fun _ => drawK_ok tabOk mixed hc he) (d := 3) (lms := lms2 (lsl205 n)) hl
    (fun τs rs h => by
      simp only [M205] at h
      split at h
      · exact (ev205 n _).trans h
      · cases h)
/-! ### 106: impl.arePairs -/
def sg106 : Sig := ⟨[(false, [.slice 2])], [.leaf .bool false]⟩
def G106_252_2 {R : Type} (n : Nat) (v : List T) (self : List T → Option R) (ex : List (List T → Option R)) : Option R :=
  bif (decide ((v.getD 2 (.i 0)).I < (v.getD 1 (.i 0)).I)) then (if 0 ≤ (v.getD 2 (.i 0)).I ∧ (v.getD 2 (.i 0)).I < (((v.getD 0 (.i 0)).L).length : Int) then ((F205 n (at_ ((v.getD 0 (.i 0)).L) ((v.getD 2 (.i 0)).I))).bind fun r1 => bif (r1.headD (.i 0)).B then (exn ex 0 [.i ((v.getD 2 (.i 0)).I), .l ((v.getD 3 (.i 0)).L), .b ((v.getD 4 (.i 0)).B), .l ((v.getD 5 (.i 0)).L), .l ((v.getD 6 (.i 0)).L), .b ((v.getD 7 (.i 0)).B), .l ((v.getD 8 (.i 0)).L)]) else (self [.l ((v.getD 0 (.i 0)).L), .i ((v.getD 1 (.i 0)).I), .i (IntKind.wrap .i64 ((v.getD 2 (.i 0)).I + 1)), .l ((v.getD 3 (.i 0)).L), .b ((v.getD 4 (.i 0)).B), .l ((v.getD 5 (.i 0)).L), .l ((v.getD 6 (.i 0)).L), .b ((v.getD 7 (.i 0)).B), .l ((v.getD 8 (.i 0)).L)])) else none) else (exn ex 1 [.l ((v.getD 3 (.i 0)).L), .b ((v.getD 4 (.i 0)).B), .l ((v.getD 5 (.i 0)).L), .l ((v.getD 6 (.i 0)).L), .b ((v.getD 7 (.i 0)).B), .l ((v.getD 8 (.i 0)).L)])
def L106_252_2 (n : Nat) : LoopM := ⟨⟨[[.t (.slice 2) (.i 0), .fn 205 [], .un, .un, .un, .un, .un, .t (.int .i64) (.i 0), .t (.int .i64) (.i 0), .un, .un, .un, .un, .un, .un, .un, .un, .un, .un], [.t (.slice 2) (.i 0), .fn 205 [], .tup [], .tup [], .t .bool (.i 0), .t (.slice 2) (.i 0), .fn 205 [], .tup [], .tup []], [.t (.slice 2) (.i 0), .tup [], .t .bool (.i 0), .t (.slice 2) (.i 0), .tup [], .tup []]], []⟩, [(.ret, ⟨[[.un, .un, .un, .un, .t (.int .i64) (.i 0), .un, .un, .un, .un, .un, .un, .un, .un, .un, .un, .un, .un, .un, .un], [.t (.slice 2) (.i 0), .fn 205 [], .tup [], .tup [], .t .bool (.i 0), .t (.slice 2) (.i 0), .fn 205 [], .tup [], .tup []], [.t (.slice 2) (.i 0), .tup [], .t .bool (.i 0), .t (.slice 2) (.i 0), .tup [], .tup []]], []⟩), (.exit 0, ⟨[[.un, .un, .un, .un, .un, .un, .un, .un, .un, .un, .un, .un, .un, .un, .un, .un, .un, .un, .un], [.t (.slice 2) (.i 0), .fn 205 [], .tup [], .tup [], .t .bool (.i 0), .t (.slice 2) (.i 0), .fn 205 [], .tup [], .tup []], [.t (.slice 2) (.i 0), .tup [], .t .bool (.i 0), .t (.slice 2) (.i 0), .tup [], .tup []]], []⟩)], fun v self ex => G106_252_2 n v self ex⟩
def F106 (n : Nat) (x0 : T) : Option (List T) :=
  loopR (L106_252_2 n).G n [.l x0.L, .i (x0.L.length : Int), .i 0, .l x0.L, .b false, .l x0.L, .l x0.L, .b false, .l x0.L] [fun u2 => some [.b (!(decide ((u2.getD 0 (.i 0)).I ≥ 0)))], fun u3 => some [.b true]]
def M106 (n : Nat) (τs : List T) : Option (List T) := match τs with
  | [x0] => F106 n x0
  | _ => none
noncomputable def code106 : List (Nat × Func) := [(106, Go.Proofs.Try.f106), (204, Go.Proofs.Try.f204), (252, Go.Proofs.Try.f252)]
def env106 : List (Nat × (Sig × Mean)) := [(205, sg205, ⟨M205⟩)]
def ann106 (f i : Nat) : Ann := match f, i with
  | 252, 2 => ⟨[(0, .any), (1, .any), (7, .any), (8, .any)], [], [(4, .any)]⟩
  | _, _ => ⟨[], [], []⟩
def lm106_252 (n : Nat) (i : Nat) : List LoopM := match i with
  | 2 => [L106_252_2 n]
  | _ => []
def lsl106 (n : Nat) : List ((Nat × Nat) × (Nat → List LoopM)) := [((1, 252), lm106_252 n)]
noncomputable def cf106 (n : Nat) : Cfg := ⟨tiOf tab, lookup code106, lookup env106, ann106, n⟩
theorem ev106 (n : Nat) (x0 : T) : evF (cf106 n) (drawK (cf106 n)) (lms2 (lsl106 n)) 3 106 sg106 [x0] = F106 n x0 := by kernel_rfl
theorem lp106_252_2 (n : Nat) (K : Ex → St → Option (List T)) (self : List T → Option (List T)) (v : List T) : evC (cf106 n) (callK (cf106 n) (drawK (cf106 n)) (lms2 (lsl106 n)) 1) (drawK (cf106 n) (callK (cf106 n) (drawK (cf106 n)) (lms2 (lsl106 n)) 1)) (ann106 252) (lm106_252 n) (bodyOf Go.Proofs.Try.f252 2) ((L106_252_2 n).sk.fill v) (roundK (ann106 252 2) K (selfK (L106_252_2 n) self)) = (L106_252_2 n).G v self (exitK (L106_252_2 n) K) := by kernel_rfl
theorem eo106 (n : Nat) : EnvOk Go.Proofs.Try.prog (tiOf tab) n 106 sg106 ⟨M106⟩ :=
  have hc : CodeOk Go.Proofs.Try.prog (cf106 n) := (code_cons Go.Proofs.Try.func106 (by kernel_rfl) (code_cons Go.Proofs.Try.func204 (by kernel_rfl) (code_cons Go.Proofs.Try.func252 (by kernel_rfl) code_nil)))
  have he : EnvsOk Go.Proofs.Try.prog (cf106 n) := (env_cons (eo205 n) env_nil)
  have hl : LmsOk (R := List T) (cf106 n) (drawK (cf106 n)) (lms2 (lsl106 n)) (lsl106 n) := (lms_cons (loops_of (cf := cf106 n) (fn0 := Go.Proofs.Try.f252) rfl (l := [bodyOf Go.Proofs.Try.f252 2]) (by kernel_rfl) (loops_cons (b := bodyOf Go.Proofs.Try.f252 2) (by kernel_rfl) (rfl : lm106_252 n 2 = [L106_252_2 n]) (List.forall_mem_cons.2 ⟨fun K self v => lp106_252_2 n K self v, fun _ h => by cases h⟩) loops_nil)) lms_nil)
  envOk_of (cf := cf106 n) tabOk hc he (draw := drawK (cf106 n)) (fun _ => drawK_ok tabOk mixed hc he) (d := 3) (lms := lms2 (lsl106 n)) hl
    (fun τs rs h => by
      simp only [M106] at h
      split at h
      · exact (ev106 n _).trans h
      · cases h)
/-! ### 103: impl.isWord -/
def sg103 : Sig := ⟨[(false, [.int .i64])], [.leaf .bool false]⟩
def F103 (n : Nat) (x0 : T) : Option (List T) :=
  (F167 n x0 (.i 0) (.i 4294967295)).bind fun r1 => some [(r1.headD (.i 0))]
def M103 (n : Nat) (τs : List T) : Option (List T) := match τs with
  | [x0] => F103 n x0
  | _ => none
noncomputable def code103 : List (Nat × Func) := [(103, Go.Proofs.Try.f103)]
def env103 : List (Nat × (Sig × Mean)) := [(167, sg167, ⟨M167⟩)]
def ann103 (f i : Nat) : Ann := match f, i with
  | _, _ => ⟨[], [], []⟩
def lsl103 (n : Nat) : List ((Nat × Nat) × (Nat → List LoopM)) := []
noncomputable def cf103 (n : Nat) : Cfg := ⟨tiOf tab, lookup code103, lookup env103, ann103, n⟩
theorem ev103 (n : Nat) (x0 : T) : evF (cf103 n) (drawK (cf103 n)) (lms2 (lsl103 n)) 3 103 sg103 [x0] = F103 n x0 := by kernel_rfl
theorem eo103 (n : Nat) : EnvOk Go.Proofs.Try.prog (tiOf tab) n 103 sg103 ⟨M103⟩ :=
  have hc : CodeOk Go.Proofs.Try.prog (cf103 n) := (code_cons Go.Proofs.Try.func103 (by kernel_rfl) code_nil)
  have he : EnvsOk Go.Proofs.Try.prog (cf103 n) := (env_cons (eo167 n) env_nil)
  have hl : LmsOk (R := List T) (cf103 n) (drawK (cf103 n)) (lms2 (lsl103 n)) (lsl103 n) := lms_nil
  envOk_of (cf := cf103 n) tabOk hc he (draw := drawK (cf103 n)) (fun _ => drawK_ok tabOk mixed hc he) (d := 3) (lms := lms2 (lsl103 n)) hl
    (fun τs rs h => by
      simp only [M103] at h
      split at h
      · exact (ev103 n _).trans h
      · cases h)
/-! ### 141: impl.areWords -/
def sg141 : Sig := ⟨[(false, [.slice 2])], [.leaf .bool false]⟩
def G141_141_2 {R : Type} (n : Nat) (v : List T) (self : List T → Option R) (ex : List (List T → Option R)) : Option R :=
  bif (decide ((v.getD 2 (.i 0)).I < (v.getD 1 (.i 0)).I)) then (if 0 ≤ (v.getD 2 (.i 0)).I ∧ (v.getD 2 (.i 0)).I < (((v.getD 0 (.i 0)).L).length : Int) then ((F103 n (at_ ((v.getD 0 (.i 0)).L) ((v.getD 2 (.i 0)).I))).bind fun r1 => bif (!(r1.headD (.i 0)).B) then (exn ex 0 [.b false]) else (self [.l ((v.getD 0 (.i 0)).L), .i ((v.getD 1 (.i 0)).I), .i (IntKind.wrap .i64 ((v.getD 2 (.i 0)).I + 1))])) else none) else (exn ex 1 [])
def L141_141_2 (n : Nat) : LoopM := ⟨⟨[[.un, .un, .un, .un, .un, .t (.slice 2) (.i 0), .t (.int .i64) (.i 0), .t (.int .i64) (.i 0), .un, .un, .un, .un, .un, .un, .un]], []⟩, [(.ret, ⟨[[.un, .un, .t .bool (.i 0), .un, .un, .un, .un, .un, .un, .un, .un, .un, .un, .un, .un]], []⟩), (.exit 0, ⟨[[.un, .un, .un, .un, .un, .un, .un, .un, .un, .un, .un, .un, .un, .un, .un]], []⟩)], fun v self ex => G141_141_2 n v self ex⟩
def F141 (n : Nat) (x0 : T) : Option (List T) :=
  loopR (L141_141_2 n).G n [.l x0.L, .i (x0.L.length : Int), .i 0] [fun u2 => some [.b ((u2.getD 0 (.i 0)).B)], fun u3 => some [.b true]]
def M141 (n : Nat) (τs : List T) : Option (List T) := match τs with
  | [x0] => F141 n x0
  | _ => none
noncomputable def code141 : List (Nat × Func) := [(141, Go.Proofs.Try.f141)]
def env141 : List (Nat × (Sig × Mean)) := [(103, sg103, ⟨M103⟩)]
def ann141 (f i : Nat) : Ann := match f, i with
  | 141, 2 => ⟨[(5, .any), (6, .any), (7, .any)], [], [(2, .any)]⟩
  | _, _ => ⟨[], [], []⟩
def lm141_141 (n : Nat) (i : Nat) : List LoopM := match i with
  | 2 => [L141_141_2 n]
  | _ => []
def lsl141 (n : Nat) : List ((Nat × Nat) × (Nat → List LoopM)) := [((3, 141), lm141_141 n)]
noncomputable def cf141 (n : Nat) : Cfg := ⟨tiOf tab, lookup code141, lookup env141, ann141, n⟩
theorem ev141 (n : Nat) (x0 : T) : evF (cf141 n) (drawK (cf141 n)) (lms2 (lsl141 n)) 3 141 sg141 [x0] = F141 n x0 := by kernel_rfl
theorem lp141_141_2 (n : Nat) (K : Ex → St → Option (List T)) (self : List T → Option (List T)) (v : List T) : evC (cf141 n) (callK (cf141 n) (drawK (cf141 n)) (lms2 (lsl141 n)) 3) (drawK (cf141 n) (callK (cf141 n) (drawK (cf141 n)) (lms2 (lsl141 n)) 3)) (ann141 141) (lm141_141 n) (bodyOf Go.Proofs.Try.f141 2) ((L141_141_2 n).sk.fill v) (roundK (ann141 141 2) K (selfK (L141_141_2 n) self)) = (L141_141_2 n).G v self (exitK (L141_141_2 n) K) := by kernel_rfl
theorem eo141 (n : Nat) : EnvOk Go.Proofs.Try.prog (tiOf tab) n 141 sg141 ⟨M141⟩ :=
  have hc : CodeOk Go.Proofs.Try.prog (cf141 n) := (code_cons Go.Proofs.Try.func141 (by kernel_rfl) code_nil)
  have he : EnvsOk Go.Proofs.Try.prog (cf141 n) := (env_cons (eo103 n) env_nil)
  have hl : LmsOk (R := List T) (cf141 n) (drawK (cf141 n)) (lms2 (lsl141 n)) (lsl141 n) := (lms_cons (loops_of (cf := cf141 n) (fn0 := Go.Proofs.Try.f141) rfl (l := [bodyOf Go.Proofs.Try.f141 2]) (by kernel_rfl) (loops_cons (b := bodyOf Go.Proofs.Try.f141 2) (by kernel_rfl) (rfl : lm141_141 n 2 = [L141_141_2 n]) (List.forall_mem_cons.2 ⟨fun K self v => lp141_141_2 n K self v, fun _ h => by cases h⟩) loops_nil)) lms_nil)
  envOk_of (cf := cf141 n) tabOk hc he (draw := drawK (cf141 n)) (fun _ => drawK_ok tabOk mixed hc he) (d := 3) (lms := lms2 (lsl141 n)) hl
    (fun τs rs h => by
      simp only [M141] at h
      split at h
      · exact (ev141 n _).trans h
      · cases h)
/-! ### 142: impl.serialGap -/
def sg142 : Sig := ⟨[(false, [.int .i64]), (false, [.int .i64])], [.leaf (.int .i64) false]⟩
def F142 (n : Nat) (x0 x1 : T) : Option (List T) :=
  some [.i (IntKind.wrap .i64 (((BitVec.ofInt 64 (IntKind.wrap .i64 (x1.I - x0.I)) &&& BitVec.ofInt 64 4294967295).toNat : Int)))]
def M142 (n : Nat) (τs : List T) : Option (List T) := match τs with
  | [x0, x1] => F142 n x0 x1
  | _ => none
noncomputable def code142 : List (Nat × Func) := [(142, Go.Proofs.Try.f142)]
def env142 : List (Nat × (Sig × Mean)) := []
def ann142 (f i : Nat) : Ann := match f, i with
  | _, _ => ⟨[], [], []⟩
def lsl142 (n : Nat) : List ((Nat × Nat) × (Nat → List LoopM)) := []
noncomputable def cf142 (n : Nat) : Cfg := ⟨tiOf tab, lookup code142, lookup env142, ann142, n⟩
theorem ev142 (n : Nat) (x0 x1 : T) : evF (cf142 n) (drawK (cf142 n)) (lms2 (lsl142 n)) 3 142 sg142 [x0, x1] = F142 n x0 x1 := by kernel_rfl
theorem eo142 (n : Nat) : EnvOk Go.Proofs.Try.prog (tiOf tab) n 142 sg142 ⟨M142⟩ :=
  have hc : CodeOk Go.Proofs.Try.prog (cf142 n) := (code_cons Go.Proofs.Try.func142 (by kernel_rfl) code_nil)
  have he : EnvsOk Go.Proofs.Try.prog (cf142 n) := env_nil
  have hl : LmsOk (R := List T) (cf142 n) (drawK (cf142 n)) (lms2 (lsl142 n)) (lsl142 n) := lms_nil
  envOk_of (cf := cf142 n) tabOk hc he (draw := drawK (cf142 n)) (fun _ => drawK_ok tabOk mixed hc he) (d := 3) (lms := lms2 (lsl142 n)) hl
    (fun τs rs h => by
      simp only [M142] at h
      split at h
      · exact (ev142 n _ _).trans h
      · cases h)
/-! ### 160: impl.Send).away -/
def sg160 : Sig := ⟨[(true, [.int .i64, .int .i64, .slice 2, .slice 222]), (false, [.int .i64])], [.leaf (.int .i64) false]⟩
def F160 (n : Nat) (x0 x1 x2 x3 x4 : T) : Option (List T) :=
  (F142 n x1 x4).bind fun r1 => some [(r1.headD (.i 0))]
def M160 (n : Nat) (τs : List T) : Option (List T) := match τs with
  | [x0, x1, x2, x3, x4] => F160 n x0 x1 x2 x3 x4
  | _ => none
noncomputable def code160 : List (Nat × Func) := [(160, Go.Proofs.Try.f160)]
def env160 : List (Nat × (Sig × Mean)) := [(142, sg142, ⟨M142⟩)]
def ann160 (f i : Nat) : Ann := match f, i with
  | _, _ => ⟨[], [], []⟩
def lsl160 (n : Nat) : List ((Nat × Nat) × (Nat → List LoopM)) := []
noncomputable def cf160 (n : Nat) : Cfg := ⟨tiOf tab, lookup code160, lookup env160, ann160, n⟩
theorem ev160 (n : Nat) (x0 x1 x2 x3 x4 : T) : evF (cf160 n) (drawK (cf160 n)) (lms2 (lsl160 n)) 3 160 sg160 [x0, x1, x2, x3, x4] = F160 n x0 x1 x2 x3 x4 := by kernel_rfl
theorem eo160 (n : Nat) : EnvOk Go.Proofs.Try.prog (tiOf tab) n 160 sg160 ⟨M160⟩ :=
  have hc : CodeOk Go.Proofs.Try.prog (cf160 n) := (code_cons Go.Proofs.Try.func160 (by kernel_rfl) code_nil)
  have he : EnvsOk Go.Proofs.Try.prog (cf160 n) := (env_cons (eo142 n) env_nil)
  have hl : LmsOk (R := List T) (cf160 n) (drawK (cf160 n)) (lms2 (lsl160 n)) (lsl160 n) := lms_nil
  envOk_of (cf := cf160 n) tabOk hc he (draw := drawK (cf160 n)) (fun _ => drawK_ok tabOk mixed hc he) (d := 3) (lms := lms2 (lsl160 n)) hl
    (fun τs rs h => by
      simp only [M160] at h
      split at h
      · exact (ev160 n _ _ _ _ _).trans h
      · cases h)
/-! ### 179: impl.isTime -/
def sg179 : Sig := ⟨[(false, [.int .i64])], [.leaf .bool false]⟩
def F179 (n : Nat) (x0 : T) : Option (List T) :=
  (F167 n x0 (.i 0) (.i 1000000000)).bind fun r1 => some [(r1.headD (.i 0))]
def M179 (n : Nat) (τs : List T) : Option (List T) := match τs with
  | [x0] => F179 n x0
  | _ => none
noncomputable def code179 : List (Nat × Func) := [(179, Go.Proofs.Try.f179)]
def env179 : List (Nat × (Sig × Mean)) := [(167, sg167, ⟨M167⟩)]
def ann179 (f i : Nat) : Ann := match f, i with
  | _, _ => ⟨[], [], []⟩
def lsl179 (n : Nat) : List ((Nat × Nat) × (Nat → List LoopM)) := []
noncomputable def cf179 (n : Nat) : Cfg := ⟨tiOf tab, lookup code179, lookup env179, ann179, n⟩
theorem ev179 (n : Nat) (x0 : T) : evF (cf179 n) (drawK (cf179 n)) (lms2 (lsl179 n)) 3 179 sg179 [x0] = F179 n x0 := by kernel_rfl
theorem eo179 (n : Nat) : EnvOk Go.Proofs.Try.prog (tiOf tab) n 179 sg179 ⟨M179⟩ :=
  have hc : CodeOk Go.Proofs.Try.prog (cf179 n) := (code_cons Go.Proofs.Try.func179 (by kernel_rfl) code_nil)
  have he : EnvsOk Go.Proofs.Try.prog (cf179 n) := (env_cons (eo167 n) env_nil)
  have hl : LmsOk (R := List T) (cf179 n) (drawK (cf179 n)) (lms2 (lsl179 n)) (lsl179 n) := lms_nil
  envOk_of (cf := cf179 n) tabOk hc he (draw := drawK (cf179 n)) (fun _ => drawK_ok tabOk mixed hc he) (d := 3) (lms := lms2 (lsl179 n)) hl
    (fun τs rs h => by
      simp only [M179] at h
      split at h
      · exact (ev179 n _).trans h
      · cases h)
/-! ### 144: impl.four -/
def sg144 : Sig := ⟨[(false, [.int .i64])], [.leaf (.slice 5) false]⟩
def F144 (n : Nat) (x0 : T) : Option (List T) :=
  some [.l [.i (IntKind.wrap .u8 ((x0.I.fdiv (2 ^ 24)))), .i (IntKind.wrap .u8 ((x0.I.fdiv (2 ^ 16)))), .i (IntKind.wrap .u8 ((x0.I.fdiv (2 ^ 8)))), .i (IntKind.wrap .u8 (x0.I))]]
def M144 (n : Nat) (τs : List T) : Option (List T) := match τs with
  | [x0] => F144 n x0
  | _ => none
noncomputable def code144 : List (Nat × Func) := [(144, Go.Proofs.Try.f144)]
def env144 : List (Nat × (Sig × Mean)) := []
def ann144 (f i : Nat) : Ann := match f, i with
  | _, _ => ⟨[], [], []⟩
def lsl144 (n : Nat) : List ((Nat × Nat) × (Nat → List LoopM)) := []
noncomputable def cf144 (n : Nat) : Cfg := ⟨tiOf tab, lookup code144, lookup env144, ann144, n⟩
theorem ev144 (n : Nat) (x0 : T) : evF (cf144 n) (drawK (cf144 n)) (lms2 (lsl144 n)) 3 144 sg144 [x0] = F144 n x0 := by kernel_rfl
theorem eo144 (n : Nat) : EnvOk Go.Proofs.Try.prog (tiOf tab) n 144 sg144 ⟨M144⟩ :=
  have hc : CodeOk Go.Proofs.Try.prog (cf144 n) := (code_cons Go.Proofs.Try.func144 (by kernel_rfl) code_nil)
  have he : EnvsOk Go.Proofs.Try.prog (cf144 n) := env_nil
  have hl : LmsOk (R := List T) (cf144 n) (drawK (cf144 n)) (lms2 (lsl144 n)) (lsl144 n) := lms_nil
  envOk_of (cf := cf144 n) tabOk hc he (draw := drawK (cf144 n)) (fun _ => drawK_ok tabOk mixed hc he) (d := 3) (lms := lms2 (lsl144 n)) hl
    (fun τs rs h => by
      simp only [M144] at h
      split at h
      · exact (ev144 n _).trans h
      · cases h)
/-! ### 146: impl.two -/
def sg146 : Sig := ⟨[(false, [.int .i64])], [.leaf (.slice 5) false]⟩
def F146 (n : Nat) (x0 : T) : Option (List T) :=
  some [.l [.i (IntKind.wrap .u8 ((x0.I.fdiv (2 ^ 8)))), .i (IntKind.wrap .u8 (x0.I))]]
def M146 (n : Nat) (τs : List T) : Option (List T) := match τs with
  | [x0] => F146 n x0
  | _ => none
noncomputable def code146 : List (Nat × Func) := [(146, Go.Proofs.Try.f146)]
def env146 : List (Nat × (Sig × Mean)) := []
def ann146 (f i : Nat) : Ann := match f, i with
  | _, _ => ⟨[], [], []⟩
def lsl146 (n : Nat) : List ((Nat × Nat) × (Nat → List LoopM)) := []
noncomputable def cf146 (n : Nat) : Cfg := ⟨tiOf tab, lookup code146, lookup env146, ann146, n⟩
theorem ev146 (n : Nat) (x0 : T) : evF (cf146 n) (drawK (cf146 n)) (lms2 (lsl146 n)) 3 146 sg146 [x0] = F146 n x0 := by kernel_rfl
theorem eo146 (n : Nat) : EnvOk Go.Proofs.Try.prog (tiOf tab) n 146 sg146 ⟨M146⟩ :=
  have hc : CodeOk Go.Proofs.Try.prog (cf146 n) := (code_cons Go.Proofs.Try.func146 (by kernel_rfl) code_nil)
  have he : EnvsOk Go.Proofs.Try.prog (cf146 n) := env_nil
  have hl : LmsOk (R := List T) (cf146 n) (drawK (cf146 n)) (lms2 (lsl146 n)) (lsl146 n) := lms_nil
  envOk_of (cf := cf146 n) tabOk hc he (draw := drawK (cf146 n)) (fun _ => drawK_ok tabOk mixed hc he) (d := 3) (lms := lms2 (lsl146 n)) hl
    (fun τs rs h => by
      simp only [M146] at h
      split at h
      · exact (ev146 n _).trans h
      · cases h)
/-! ### 145: slices.Concat[[]byte,byte] -/
def sg145 : Sig := ⟨[(false, [.slice 93])], [.leaf (.slice 5) false]⟩
def G145_145_11 {R : Type} (n : Nat) (v : List T) (self : List T → Option R) (ex : List (List T → Option R)) : Option R :=
  bif (decide ((v.getD 2 (.i 0)).I < (v.getD 1 (.i 0)).I)) then (if 0 ≤ (v.getD 2 (.i 0)).I ∧ (v.getD 2 (.i 0)).I < (((v.getD 0 (.i 0)).L).length : Int) then (if ((((v.getD 3 (.i 0)).L).length + ((at_ ((v.getD 0 (.i 0)).L) ((v.getD 2 (.i 0)).I)).L).length : Nat) : Int) * 1 ≤ limB then (self [.l ((v.getD 0 (.i 0)).L), .i ((v.getD 1 (.i 0)).I), .i (IntKind.wrap .i64 ((v.getD 2 (.i 0)).I + 1)), .l ((v.getD 3 (.i 0)).L ++ (at_ ((v.getD 0 (.i 0)).L) ((v.getD 2 (.i 0)).I)).L)]) else none) else none) else (exn ex 0 [.l ((v.getD 3 (.i 0)).L)])
def L145_145_11 (n : Nat) : LoopM := ⟨⟨[[.un, .un, .un, .un, .un, .un, .own 5 0, .un, .un, .un, .un, .un, .un, .un, .un, .un, .un, .un, .un, .un, .un, .un, .un, .un, .un, .t (.slice 93) (.i 0), .t (.int .i64) (.i 0), .t (.int .i64) (.i 0), .un, .un, .un, .un, .un, .un, .un, .un]], [.arr 5 []]⟩, [(.exit 2, ⟨[[.un, .un, .un, .un, .un, .un, .own 5 0, .un, .un, .un, .un, .un, .un, .un, .un, .un, .un, .un, .un, .un, .un, .un, .un, .un, .un, .un, .un, .un, .un, .un, .un, .un, .un, .un, .un, .un]], [.arr 5 []]⟩)], fun v self ex => G145_145_11 n v self ex⟩
def G145_145_3 {R : Type} (n : Nat) (v : List T) (self : List T → Option R) (ex : List (List T → Option R)) : Option R :=
  bif (decide ((v.getD 4 (.i 0)).I < (v.getD 3 (.i 0)).I)) then (if 0 ≤ (v.getD 4 (.i 0)).I ∧ (v.getD 4 (.i 0)).I < (((v.getD 2 (.i 0)).L).length : Int) then (bif (decide ((IntKind.wrap .i64 ((v.getD 1 (.i 0)).I + ((((at_ ((v.getD 2 (.i 0)).L) ((v.getD 4 (.i 0)).I)).L).length : Nat) : Int))) < 0)) then none else (self [.l ((v.getD 0 (.i 0)).L), .i (IntKind.wrap .i64 ((v.getD 1 (.i 0)).I + ((((at_ ((v.getD 2 (.i 0)).L) ((v.getD 4 (.i 0)).I)).L).length : Nat) : Int))), .l ((v.getD 2 (.i 0)).L), .i ((v.getD 3 (.i 0)).I), .i (IntKind.wrap .i64 ((v.getD 4 (.i 0)).I + 1))])) else none) else (exn ex 0 [.l ((v.getD 0 (.i 0)).L), .i ((v.getD 1 (.i 0)).I)])
def L145_145_3 (n : Nat) : LoopM := ⟨⟨[[.t (.slice 93) (.i 0), .un, .un, .t (.int .i64) (.i 0), .un, .un, .un, .un, .un, .t (.slice 93) (.i 0), .t (.int .i64) (.i 0), .t (.int .i64) (.i 0), .un, .un, .un, .un, .un, .un, .un, .un, .un, .un, .un, .un, .un, .un, .un, .un, .un, .un, .un, .un, .un, .un, .un, .un]], []⟩, [(.exit 0, ⟨[[.t (.slice 93) (.i 0), .un, .un, .t (.int .i64) (.i 0), .un, .un, .un, .un, .un, .un, .un, .un, .un, .un, .un, .un, .un, .un, .un, .un, .un, .un, .un, .un, .un, .un, .un, .un, .un, .un, .un, .un, .un, .un, .un, .un]], []⟩)], fun v self ex => G145_145_3 n v self ex⟩
def F145 (n : Nat) (x0 : T) : Option (List T) :=
  loopR (L145_145_3 n).G n [.l x0.L, .i 0, .l x0.L, .i (x0.L.length : Int), .i 0] [fun u1 => bif (decide ((u1.getD 1 (.i 0)).I < 0)) then none else (bif (decide ((IntKind.wrap .i64 ((u1.getD 1 (.i 0)).I - 0)) > 0)) then (if 0 ≤ (IntKind.wrap .i64 ((u1.getD 1 (.i 0)).I - 0)) ∧ (IntKind.wrap .i64 ((u1.getD 1 (.i 0)).I - 0)) * 1 ≤ limB then (if ((List.replicate ((IntKind.wrap .i64 ((u1.getD 1 (.i 0)).I - 0))).toNat (T.i 0)).length : Int) * 1 ≤ limB then (if 0 ≤ 0 ∧ 0 ≤ 0 ∧ 0 ≤ ((List.replicate ((IntKind.wrap .i64 ((u1.getD 1 (.i 0)).I - 0))).toNat (T.i 0)).length : Int) then (loopR (L145_145_11 n).G n [.l ((u1.getD 0 (.i 0)).L), .i ((((u1.getD 0 (.i 0)).L).length : Nat) : Int), .i 0, .l ((List.replicate ((IntKind.wrap .i64 ((u1.getD 1 (.i 0)).I - 0))).toNat (T.i 0)).take 0)] [fun u2 => some [.l ((u2.getD 0 (.i 0)).L)]]) else none) else none) else none) else (loopR (L145_145_11 n).G n [.l ((u1.getD 0 (.i 0)).L), .i ((((u1.getD 0 (.i 0)).L).length : Nat) : Int), .i 0, .l []] [fun u3 => some [.l ((u3.getD 0 (.i 0)).L)]]))]
def M145 (n : Nat) (τs : List T) : Option (List T) := match τs with
  | [x0] => F145 n x0
  | _ => none
noncomputable def code145 : List (Nat × Func) := [(145, Go.Proofs.Try.f145), (227, Go.Proofs.Try.f227)]
def env145 : List (Nat × (Sig × Mean)) := []
def ann145 (f i : Nat) : Ann := match f, i with
  | 145, 3 => ⟨[(0, .any), (3, .any), (9, .any), (10, .any), (11, .any)], [], [(0, .any), (3, .any)]⟩
  | 145, 11 => ⟨[(6, .own 5), (25, .any), (26, .any), (27, .any)], [], [(6, .any)]⟩
  | _, _ => ⟨[], [], []⟩
def lm145_145 (n : Nat) (i : Nat) : List LoopM := match i with
  | 3 => [L145_145_3 n]
  | 11 => [L145_145_11 n]
  | _ => []
def lsl145 (n : Nat) : List ((Nat × Nat) × (Nat → List LoopM)) := [((3, 145), lm145_145 n)]
noncomputable def cf145 (n : Nat) : Cfg := ⟨tiOf tab, lookup code145, lookup env145, ann145, n⟩
theorem ev145 (n : Nat) (x0 : T) : evF (cf145 n) (drawK (cf145 n)) (lms2 (lsl145 n)) 3 145 sg145 [x0] = F145 n x0 := by kernel_rfl
theorem lp145_145_11 (n : Nat) (K : Ex → St → Option (List T)) (self : List T → Option (List T)) (v : List T) : evC (cf145 n) (callK (cf145 n) (drawK (cf145 n)) (lms2 (lsl145 n)) 3) (drawK (cf145 n) (callK (cf145 n) (drawK (cf145 n)) (lms2 (lsl145 n)) 3)) (ann145 145) (lm145_145 n) (bodyOf Go.Proofs.Try.f145 11) ((L145_145_11 n).sk.fill v) (roundK (ann145 145 11) K (selfK (L145_145_11 n) self)) = (L145_145_11 n).G v self (exitK (L145_145_11 n) K) := by kernel_rfl
theorem lp145_145_3 (n : Nat) (K : Ex → St → Option (List T)) (self : List T → Option (List T)) (v : List T) : evC (cf145 n) (callK (cf145 n) (drawK (cf145 n)) (lms2 (lsl145 n)) 3) (drawK (cf145 n) (callK (cf145 n) (drawK (cf145 n)) (lms2 (lsl145 n)) 3)) (ann145 145) (lm145_145 n) (bodyOf Go.Proofs.Try.f145 3) ((L145_145_3 n).sk.fill v) (roundK (ann145 145 3) K (selfK (L145_145_3 n) self)) = (L145_145_3 n).G v self (exitK (L145_145_3 n) K) := by kernel_rfl
theorem eo145 (n : Nat) : EnvOk Go.Proofs.Try.prog (tiOf tab) n 145 sg145 ⟨M145⟩ :=
  have hc : CodeOk Go.Proofs.Try.prog (cf145 n) := (code_cons Go.Proofs.Try.func145 (by kernel_rfl) (code_cons Go.Proofs.Try.func227 (by kernel_rfl) code_nil))
  have he : EnvsOk Go.Proofs.Try.prog (cf145 n) := env_nil
  have hl : LmsOk (R := List T) (cf145 n) (drawK (cf145 n)) (lms2 (lsl145 n)) (lsl145 n) := (lms_cons (loops_of (cf := cf145 n) (fn0 := Go.Proofs.Try.f145) rfl (l := [bodyOf Go.Proofs.Try.f145 3, bodyOf Go.Proofs.Try.f145 11]) (by kernel_rfl) (loops_cons (b := bodyOf Go.Proofs.Try.f145 3) (by kernel_rfl) (rfl : lm145_145 n 3 = [L145_145_3 n]) (List.forall_mem_cons.2 ⟨fun K self v => lp145_145_3 n K self v, fun _ h => by cases h⟩) (loops_cons (b := bodyOf Go.Proofs.Try.f145 11) (by kernel_rfl) (rfl : lm145_145 n 11 = [L145_145_11 n]) (List.forall_mem_cons.2 ⟨fun K self v => lp145_145_11 n K self v, fun _ h => by cases h⟩) loops_nil))) lms_nil)
  envOk_of (cf := cf145 n) tabOk hc he (draw := drawK (cf145 n)) (fun _ => drawK_ok tabOk mixed hc he) (d := 3) (lms := lms2 (lsl145 n)) hl
    (fun τs rs h => by
      simp only [M145] at h
      split at h
      · exact (ev145 n _).trans h
      · cases h)
/-! ### 147: impl.chunk -/
def sg147 : Sig := ⟨[(false, [.int .i64]), (false, [.int .i64]), (false, [.slice 93])], [.agg [(.int .i64, false), (.int .i64, false), (.int .i64, false), (.slice 5, false)]]⟩
def F147 (n : Nat) (x0 x1 x2 : T) : Option (List T) :=
  (F145 n x2).bind fun r1 => some [.i 0, x0, x1, (r1.headD (.i 0))]
def M147 (n : Nat) (τs : List T) : Option (List T) := match τs with
  | [x0, x1, x2] => F147 n x0 x1 x2
  | _ => none
noncomputable def code147 : List (Nat × Func) := [(147, Go.Proofs.Try.f147)]
def env147 : List (Nat × (Sig × Mean)) := [(145, sg145, ⟨M145⟩)]
def ann147 (f i : Nat) : Ann := match f, i with
  | _, _ => ⟨[], [], []⟩
def lsl147 (n : Nat) : List ((Nat × Nat) × (Nat → List LoopM)) := []
noncomputable def cf147 (n : Nat) : Cfg := ⟨tiOf tab, lookup code147, lookup env147, ann147, n⟩
theorem ev147 (n : Nat) (x0 x1 x2 : T) : evF (cf147 n) (drawK (cf147 n)) (lms2 (lsl147 n)) 3 147 sg147 [x0, x1, x2] = F147 n x0 x1 x2 := by kernel_rfl
theorem eo147 (n : Nat) : EnvOk Go.Proofs.Try.prog (tiOf tab) n 147 sg147 ⟨M147⟩ :=
  have hc : CodeOk Go.Proofs.Try.prog (cf147 n) := (code_cons Go.Proofs.Try.func147 (by kernel_rfl) code_nil)
  have he : EnvsOk Go.Proofs.Try.prog (cf147 n) := (env_cons (eo145 n) env_nil)
  have hl : LmsOk (R := List T) (cf147 n) (drawK (cf147 n)) (lms2 (lsl147 n)) (lsl147 n) := lms_nil
  envOk_of (cf := cf147 n) tabOk hc he (draw := drawK (cf147 n)) (fun _ => drawK_ok tabOk mixed hc he) (d := 3) (lms := lms2 (lsl147 n)) hl
    (fun τs rs h => by
      simp only [M147] at h
      split at h
      · exact (ev147 n _ _ _).trans h
      · cases h)
/-! ### 176: impl.isStream -/
def sg176 : Sig := ⟨[(false, [.int .i64])], [.leaf .bool false]⟩
def F176 (n : Nat) (x0 : T) : Option (List T) :=
  (F167 n x0 (.i 0) (.i 9)).bind fun r1 => some [(r1.headD (.i 0))]
def M176 (n : Nat) (τs : List T) : Option (List T) := match τs with
  | [x0] => F176 n x0
  | _ => none
noncomputable def code176 : List (Nat × Func) := [(176, Go.Proofs.Try.f176)]
def env176 : List (Nat × (Sig × Mean)) := [(167, sg167, ⟨M167⟩)]
def ann176 (f i : Nat) : Ann := match f, i with
  | _, _ => ⟨[], [], []⟩
def lsl176 (n : Nat) : List ((Nat × Nat) × (Nat → List LoopM)) := []
noncomputable def cf176 (n : Nat) : Cfg := ⟨tiOf tab, lookup code176, lookup env176, ann176, n⟩
theorem ev176 (n : Nat) (x0 : T) : evF (cf176 n) (drawK (cf176 n)) (lms2 (lsl176 n)) 3 176 sg176 [x0] = F176 n x0 := by kernel_rfl
theorem eo176 (n : Nat) : EnvOk Go.Proofs.Try.prog (tiOf tab) n 176 sg176 ⟨M176⟩ :=
  have hc : CodeOk Go.Proofs.Try.prog (cf176 n) := (code_cons Go.Proofs.Try.func176 (by kernel_rfl) code_nil)
  have he : EnvsOk Go.Proofs.Try.prog (cf176 n) := (env_cons (eo167 n) env_nil)
  have hl : LmsOk (R := List T) (cf176 n) (drawK (cf176 n)) (lms2 (lsl176 n)) (lsl176 n) := lms_nil
  envOk_of (cf := cf176 n) tabOk hc he (draw := drawK (cf176 n)) (fun _ => drawK_ok tabOk mixed hc he) (d := 3) (lms := lms2 (lsl176 n)) hl
    (fun τs rs h => by
      simp only [M176] at h
      split at h
      · exact (ev176 n _).trans h
      · cases h)
/-! ### 246: impl.flagged -/
def sg246 : Sig := ⟨[(false, [.bool]), (false, [.int .i64])], [.leaf (.int .i64) false]⟩
def F246 (n : Nat) (x0 x1 : T) : Option (List T) :=
  bif x0.B then (some [x1]) else (some [.i 0])
def M246 (n : Nat) (τs : List T) : Option (List T) := match τs with
  | [x0, x1] => F246 n x0 x1
  | _ => none
noncomputable def code246 : List (Nat × Func) := [(246, Go.Proofs.Try.f246)]
def env246 : List (Nat × (Sig × Mean)) := []
def ann246 (f i : Nat) : Ann := match f, i with
  | _, _ => ⟨[], [], []⟩
def lsl246 (n : Nat) : List ((Nat × Nat) × (Nat → List LoopM)) := []
noncomputable def cf246 (n : Nat) : Cfg := ⟨tiOf tab, lookup code246, lookup env246, ann246, n⟩
theorem ev246 (n : Nat) (x0 x1 : T) : evF (cf246 n) (drawK (cf246 n)) (lms2 (lsl246 n)) 3 246 sg246 [x0, x1] = F246 n x0 x1 := by kernel_rfl
theorem eo246 (n : Nat) : EnvOk Go.Proofs.Try.prog (tiOf tab) n 246 sg246 ⟨M246⟩ :=
  have hc : CodeOk Go.Proofs.Try.prog (cf246 n) := (code_cons Go.Proofs.Try.func246 (by kernel_rfl) code_nil)
  have he : EnvsOk Go.Proofs.Try.prog (cf246 n) := env_nil
  have hl : LmsOk (R := List T) (cf246 n) (drawK (cf246 n)) (lms2 (lsl246 n)) (lsl246 n) := lms_nil
  envOk_of (cf := cf246 n) tabOk hc he (draw := drawK (cf246 n)) (fun _ => drawK_ok tabOk mixed hc he) (d := 3) (lms := lms2 (lsl246 n)) hl
    (fun τs rs h => by
      simp only [M246] at h
      split at h
      · exact (ev246 n _ _).trans h
      · cases h)
/-! ### 184: impl.PackData -/
def sg184 : Sig := ⟨[(true, [.int .i64, .int .i64, .int .i64, .bool, .bool, .bool, .slice 5])], [.agg [(.int .i64, false), (.int .i64, false), (.int .i64, false), (.slice 5, false)]]⟩
def F184 (n : Nat) (x0 x1 x2 x3 x4 x5 x6 : T) : Option (List T) :=
  (F103 n x0).bind fun r1 => bif (!(r1.headD (.i 0)).B) then (some [.i 3, .i 0, .i 0, .l []]) else ((F176 n x1).bind fun r2 => bif (!(r2.headD (.i 0)).B) then (some [.i 3, .i 0, .i 0, .l []]) else ((F206 n x2).bind fun r3 => bif (!(r3.headD (.i 0)).B) then (some [.i 3, .i 0, .i 0, .l []]) else ((F167 n (.i (x6.L.length : Int)) (.i 1) (.i 100)).bind fun r4 => bif (!(r4.headD (.i 0)).B) then (some [.i 2, .i 0, .i 0, .l []]) else (bif x5.B then (bif (x2.I != 0) then (some [.i 1, .i 0, .i 0, .l []]) else ((F246 n x4 (.i 1)).bind fun r5 => (F246 n x3 (.i 2)).bind fun r6 => (F246 n x5 (.i 4)).bind fun r7 => (F144 n x0).bind fun r8 => (F146 n x1).bind fun r9 => (F146 n x2).bind fun r10 => (F147 n (.i 0) (.i (IntKind.wrap .i64 ((IntKind.wrap .i64 ((r5.headD (.i 0)).I + (r6.headD (.i 0)).I)) + (r7.headD (.i 0)).I))) (.l [(r8.headD (.i 0)), (r9.headD (.i 0)), (r10.headD (.i 0)), x6])).bind fun r11 => some [(r11.headD (.i 0)), (r11.tail.headD (.i 0)), (r11.tail.tail.headD (.i 0)), (r11.tail.tail.tail.headD (.i 0))])) else ((F246 n x4 (.i 1)).bind fun r12 => (F246 n x3 (.i 2)).bind fun r13 => (F246 n x5 (.i 4)).bind fun r14 => (F144 n x0).bind fun r15 => (F146 n x1).bind fun r16 => (F146 n x2).bind fun r17 => (F147 n (.i 0) (.i (IntKind.wrap .i64 ((IntKind.wrap .i64 ((r12.headD (.i 0)).I + (r13.headD (.i 0)).I)) + (r14.headD (.i 0)).I))) (.l [(r15.headD (.i 0)), (r16.headD (.i 0)), (r17.headD (.i 0)), x6])).bind fun r18 => some [(r18.headD (.i 0)), (r18.tail.headD (.i 0)), (r18.tail.tail.headD (.i 0)), (r18.tail.tail.tail.headD (.i 0))])))))
def M184 (n : Nat) (τs : List T) : Option (List T) := match τs with
  | [x0, x1, x2, x3, x4, x5, x6] => F184 n x0 x1 x2 x3 x4 x5 x6
  | _ => none
noncomputable def code184 : List (Nat × Func) := [(184, Go.Proofs.Try.f184)]
def env184 : List (Nat × (Sig × Mean)) := [(103, sg103, ⟨M103⟩), (144, sg144, ⟨M144⟩), (146, sg146, ⟨M146⟩), (147, sg147, ⟨M147⟩), (167, sg167, ⟨M167⟩), (176, sg176, ⟨M176⟩), (206, sg206, ⟨M206⟩), (246, sg246, ⟨M246⟩)]
def ann184 (f i : Nat) : Ann := match f, i with
  | _, _ => ⟨[], [], []⟩
def lsl184 (n : Nat) : List ((Nat × Nat) × (Nat → List LoopM)) := []
noncomputable def cf184 (n : Nat) : Cfg := ⟨tiOf tab, lookup code184, lookup env184, ann184, n⟩
theorem ev184 (n : Nat) (x0 x1 x2 x3 x4 x5 x6 : T) : evF (cf184 n) (drawK (cf184 n)) (lms2 (lsl184 n)) 3 184 sg184 [x0, x1, x2, x3, x4, x5, x6] = F184 n x0 x1 x2 x3 x4 x5 x6 := by kernel_rfl
theorem eo184 (n : Nat) : EnvOk Go.Proofs.Try.prog (tiOf tab) n 184 sg184 ⟨M184⟩ :=
  have hc : CodeOk Go.Proofs.Try.prog (cf184 n) := (code_cons Go.Proofs.Try.func184 (by kernel_rfl) code_nil)
  have he : EnvsOk Go.Proofs.Try.prog (cf184 n) := (env_cons (eo103 n) (env_cons (eo144 n) (env_cons (eo146 n) (env_cons (eo147 n) (env_cons (eo167 n) (env_cons (eo176 n) (env_cons (eo206 n) (env_cons (eo246 n) env_nil))))))))
  have hl : LmsOk (R := List T) (cf184 n) (drawK (cf184 n)) (lms2 (lsl184 n)) (lsl184 n) := lms_nil
  envOk_of (cf := cf184 n) tabOk hc he (draw := drawK (cf184 n)) (fun _ => drawK_ok tabOk mixed hc he) (d := 3) (lms := lms2 (lsl184 n)) hl
    (fun τs rs h => by
      simp only [M184] at h
      split at h
      · exact (ev184 n _ _ _ _ _ _ _).trans h
      · cases h)
/-! ### 168: impl.Send).itemsCode -/
def sg168 : Sig := ⟨[(true, [.int .i64, .int .i64, .slice 2, .slice 222])], [.leaf (.int .i64) false]⟩
def G168_168_3 {R : Type} (n : Nat) (v : List T) (self : List T → Option R) (ex : List (List T → Option R)) : Option R :=
  bif (decide ((v.getD 3 (.i 0)).I < (v.getD 2 (.i 0)).I)) then (if 0 ≤ (v.getD 3 (.i 0)).I ∧ (v.getD 3 (.i 0)).I < (((v.getD 1 (.i 0)).L).length : Int) then ((F184 n ((at_ ((v.getD 1 (.i 0)).L) ((v.getD 3 (.i 0)).I)).F 0) ((at_ ((v.getD 1 (.i 0)).L) ((v.getD 3 (.i 0)).I)).F 1) ((at_ ((v.getD 1 (.i 0)).L) ((v.getD 3 (.i 0)).I)).F 2) ((at_ ((v.getD 1 (.i 0)).L) ((v.getD 3 (.i 0)).I)).F 3) ((at_ ((v.getD 1 (.i 0)).L) ((v.getD 3 (.i 0)).I)).F 4) ((at_ ((v.getD 1 (.i 0)).L) ((v.getD 3 (.i 0)).I)).F 5) ((at_ ((v.getD 1 (.i 0)).L) ((v.getD 3 (.i 0)).I)).F 6)).bind fun r1 => bif ((r1.headD (.i 0)).I != 0) then (exn ex 0 [.i ((r1.headD (.i 0)).I)]) else ((F167 n ((at_ ((v.getD 1 (.i 0)).L) ((v.getD 3 (.i 0)).I)).F 7) (.i 0) (.i 99)).bind fun r2 => bif (!(r2.headD (.i 0)).B) then (exn ex 0 [.i 3]) else ((F179 n ((at_ ((v.getD 1 (.i 0)).L) ((v.getD 3 (.i 0)).I)).F 8)).bind fun r3 => bif (!(r3.headD (.i 0)).B) then (exn ex 0 [.i 3]) else ((F160 n (.i ((v.getD 4 (.i 0)).I)) (.i ((v.getD 5 (.i 0)).I)) (.l ((v.getD 6 (.i 0)).L)) (.l ((v.getD 7 (.i 0)).L)) ((at_ ((v.getD 1 (.i 0)).L) ((v.getD 3 (.i 0)).I)).F 0)).bind fun r4 => bif (decide ((r4.headD (.i 0)).I ≤ (v.getD 0 (.i 0)).I)) then (exn ex 0 [.i 1]) else ((F160 n (.i ((v.getD 4 (.i 0)).I)) (.i ((v.getD 5 (.i 0)).I)) (.l ((v.getD 6 (.i 0)).L)) (.l ((v.getD 7 (.i 0)).L)) (.i ((v.getD 4 (.i 0)).I))).bind fun r5 => bif (decide ((r4.headD (.i 0)).I ≥ (r5.headD (.i 0)).I)) then (exn ex 0 [.i 1]) else (self [.i ((r4.headD (.i 0)).I), .l ((v.getD 1 (.i 0)).L), .i ((v.getD 2 (.i 0)).I), .i (IntKind.wrap .i64 ((v.getD 3 (.i 0)).I + 1)), .i ((v.getD 4 (.i 0)).I), .i ((v.getD 5 (.i 0)).I), .l ((v.getD 6 (.i 0)).L), .l ((v.getD 7 (.i 0)).L)])))))) else none) else (exn ex 1 [])
def L168_168_3 (n : Nat) : LoopM := ⟨⟨[[.un, .pb 0 0, .un, .t (.int .i64) (.i 0), .un, .un, .un, .un, .un, .t (.slice 222) (.i 0), .t (.int .i64) (.i 0), .t (.int .i64) (.i 0), .un, .un, .un, .un, .un, .un, .un, .un, .un, .un, .un, .un, .un, .un, .un, .un, .un, .un, .un, .un, .un, .un, .un, .un, .un, .un, .un, .un, .un, .un, .un, .un, .un, .un, .un, .un, .un, .un, .un]], [.box [.t (.int .i64) (.i 0), .t (.int .i64) (.i 0), .t (.slice 2) (.i 0), .t (.slice 222) (.i 0)]]⟩, [(.ret, ⟨[[.un, .un, .t (.int .i64) (.i 0), .un, .un, .un, .un, .un, .un, .un, .un, .un, .un, .un, .un, .un, .un, .un, .un, .un, .un, .un, .un, .un, .un, .un, .un, .un, .un, .un, .un, .un, .un, .un, .un, .un, .un, .un, .un, .un, .un, .un, .un, .un, .un, .un, .un, .un, .un, .un, .un]], []⟩), (.exit 0, ⟨[[.un, .un, .un, .un, .un, .un, .un, .un, .un, .un, .un, .un, .un, .un, .un, .un, .un, .un, .un, .un, .un, .un, .un, .un, .un, .un, .un, .un, .un, .un, .un, .un, .un, .un, .un, .un, .un, .un, .un, .un, .un, .un, .un, .un, .un, .un, .un, .un, .un, .un, .un]], []⟩)], fun v self ex => G168_168_3 n v self ex⟩
def F168 (n : Nat) (x0 x1 x2 x3 : T) : Option (List T) :=
  loopR (L168_168_3 n).G n [.i 0, .l x3.L, .i (x3.L.length : Int), .i 0, .i x0.I, .i x1.I, .l x2.L, .l x3.L] [fun u6 => some [.i ((u6.getD 0 (.i 0)).I)], fun u7 => some [.i 0]]
def M168 (n : Nat) (τs : List T) : Option (List T) := match τs with
  | [x0, x1, x2, x3] => F168 n x0 x1 x2 x3
  | _ => none
noncomputable def code168 : List (Nat × Func) := [(168, Go.Proofs.Try.f168)]
def env168 : List (Nat × (Sig × Mean)) := [(160, sg160, ⟨M160⟩), (167, sg167, ⟨M167⟩), (179, sg179, ⟨M179⟩), (184, sg184, ⟨M184⟩)]
def ann168 (f i : Nat) : Ann := match f, i with
  | 168, 3 => ⟨[(1, .any), (3, .any), (9, .any), (10, .any), (11, .any)], [], [(2, .any)]⟩
  | _, _ => ⟨[], [], []⟩
def lm168_168 (n : Nat) (i : Nat) : List LoopM := match i with
  | 3 => [L168_168_3 n]
  | _ => []
def lsl168 (n : Nat) : List ((Nat × Nat) × (Nat → List LoopM)) := [((3, 168), lm168_168 n)]
noncomputable def cf168 (n : Nat) : Cfg := ⟨tiOf tab, lookup code168, lookup env168, ann168, n⟩
theorem ev168 (n : Nat) (x0 x1 x2 x3 : T) : evF (cf168 n) (drawK (cf168 n)) (lms2 (lsl168 n)) 3 168 sg168 [x0, x1, x2, x3] = F168 n x0 x1 x2 x3 := by kernel_rfl
theorem lp168_168_3 (n : Nat) (K : Ex → St → Option (List T)) (self : List T → Option (List T)) (v : List T) : evC (cf168 n) (callK (cf168 n) (drawK (cf168 n)) (lms2 (lsl168 n)) 3) (drawK (cf168 n) (callK (cf168 n) (drawK (cf168 n)) (lms2 (lsl168 n)) 3)) (ann168 168) (lm168_168 n) (bodyOf Go.Proofs.Try.f168 3) ((L168_168_3 n).sk.fill v) (roundK (ann168 168 3) K (selfK (L168_168_3 n) self)) = (L168_168_3 n).G v self (exitK (L168_168_3 n) K) := by kernel_rfl
theorem eo168 (n : Nat) : EnvOk Go.Proofs.Try.prog (tiOf tab) n 168 sg168 ⟨M168⟩ :=
  have hc : CodeOk Go.Proofs.Try.prog (cf168 n) := (code_cons Go.Proofs.Try.func168 (by kernel_rfl) code_nil)
  have he : EnvsOk Go.Proofs.Try.prog (cf168 n) := (env_cons (eo160 n) (env_cons (eo167 n) (env_cons (eo179 n) (env_cons (eo184 n) env_nil))))
  have hl : LmsOk (R := List T) (cf168 n) (drawK (cf168 n)) (lms2 (lsl168 n)) (lsl168 n) := (lms_cons (loops_of (cf := cf168 n) (fn0 := Go.Proofs.Try.f168) rfl (l := [bodyOf Go.Proofs.Try.f168 3]) (by kernel_rfl) (loops_cons (b := bodyOf Go.Proofs.Try.f168 3) (by kernel_rfl) (rfl : lm168_168 n 3 = [L168_168_3 n]) (List.forall_mem_cons.2 ⟨fun K self v => lp168_168_3 n K self v, fun _ h => by cases h⟩) loops_nil)) lms_nil)
  envOk_of (cf := cf168 n) tabOk hc he (draw := drawK (cf168 n)) (fun _ => drawK_ok tabOk mixed hc he) (d := 3) (lms := lms2 (lsl168 n)) hl
    (fun τs rs h => by
      simp only [M168] at h
      split at h
      · exact (ev168 n _ _ _ _).trans h
      · cases h)
/-! ### 63: impl.SendFault -/
def sg63 : Sig := ⟨[(true, [.int .i64, .int .i64, .slice 2, .slice 222])], [.leaf (.int .i64) false]⟩
def F63 (n : Nat) (x0 x1 x2 x3 : T) : Option (List T) :=
  (F141 n (.l [x0, x1])).bind fun r1 => bif (!(r1.headD (.i 0)).B) then (some [.i 3]) else (bif (decide ((x3.L.length : Int) > 40)) then (some [.i 2]) else (bif ((x2.L.length : Int) != 10) then (some [.i 2]) else ((F160 n x0 x1 x2 x3 x0).bind fun r2 => (F167 n (r2.headD (.i 0)) (.i 1) (.i 1000)).bind fun r3 => bif (!(r3.headD (.i 0)).B) then (some [.i 1]) else ((F168 n x0 x1 x2 x3).bind fun r4 => bif ((r4.headD (.i 0)).I != 0) then (some [(r4.headD (.i 0))]) else ((F106 n x2).bind fun r5 => bif (!(r5.headD (.i 0)).B) then (some [.i 3]) else (some [.i 0]))))))
def M63 (n : Nat) (τs : List T) : Option (List T) := match τs with
  | [x0, x1, x2, x3] => F63 n x0 x1 x2 x3
  | _ => none
noncomputable def code63 : List (Nat × Func) := [(63, Go.Proofs.Try.f63)]
def env63 : List (Nat × (Sig × Mean)) := [(106, sg106, ⟨M106⟩), (141, sg141, ⟨M141⟩), (160, sg160, ⟨M160⟩), (167, sg167, ⟨M167⟩), (168, sg168, ⟨M168⟩)]
def ann63 (f i : Nat) : Ann := match f, i with
  | _, _ => ⟨[], [], []⟩
def lsl63 (n : Nat) : List ((Nat × Nat) × (Nat → List LoopM)) := []
noncomputable def cf63 (n : Nat) : Cfg := ⟨tiOf tab, lookup code63, lookup env63, ann63, n⟩
theorem ev63 (n : Nat) (x0 x1 x2 x3 : T) : evF (cf63 n) (drawK (cf63 n)) (lms2 (lsl63 n)) 3 63 sg63 [x0, x1, x2, x3] = F63 n x0 x1 x2 x3 := by kernel_rfl
theorem eo63 (n : Nat) : EnvOk Go.Proofs.Try.prog (tiOf tab) n 63 sg63 ⟨M63⟩ :=
  have hc : CodeOk Go.Proofs.Try.prog (cf63 n) := (code_cons Go.Proofs.Try.func63 (by kernel_rfl) code_nil)
  have he : EnvsOk Go.Proofs.Try.prog (cf63 n) := (env_cons (eo106 n) (env_cons (eo141 n) (env_cons (eo160 n) (env_cons (eo167 n) (env_cons (eo168 n) env_nil)))))
  have hl : LmsOk (R := List T) (cf63 n) (drawK (cf63 n)) (lms2 (lsl63 n)) (lsl63 n) := lms_nil
  envOk_of (cf := cf63 n) tabOk hc he (draw := drawK (cf63 n)) (fun _ => drawK_ok tabOk mixed hc he) (d := 3) (lms := lms2 (lsl63 n)) hl
    (fun τs rs h => by
      simp only [M63] at h
      split at h
      · exact (ev63 n _ _ _ _).trans h
      · cases h)
/-! ### 21: impl.LeftIn -/
def sg21 : Sig := ⟨[(true, [.int .i64, .int .i64, .slice 2, .slice 222])], [.agg [(.int .i64, false), (.int .i64, false)]]⟩
def F21 (n : Nat) (x0 x1 x2 x3 : T) : Option (List T) :=
  (F63 n x0 x1 x2 x3).bind fun r1 => bif ((r1.headD (.i 0)).I != 0) then (some [(r1.headD (.i 0)), .i 0]) else (some [.i 0, .i (x3.L.length : Int)])
def M21 (n : Nat) (τs : List T) : Option (List T) := match τs with
  | [x0, x1, x2, x3] => F21 n x0 x1 x2 x3
  | _ => none
noncomputable def code21 : List (Nat × Func) := [(21, Go.Proofs.Try.f21)]
def env21 : List (Nat × (Sig × Mean)) := [(63, sg63, ⟨M63⟩)]
def ann21 (f i : Nat) : Ann := match f, i with
  | _, _ => ⟨[], [], []⟩
def lsl21 (n : Nat) : List ((Nat × Nat) × (Nat → List LoopM)) := []
noncomputable def cf21 (n : Nat) : Cfg := ⟨tiOf tab, lookup code21, lookup env21, ann21, n⟩
theorem ev21 (n : Nat) (x0 x1 x2 x3 : T) : evF (cf21 n) (drawK (cf21 n)) (lms2 (lsl21 n)) 3 21 sg21 [x0, x1, x2, x3] = F21 n x0 x1 x2 x3 := by kernel_rfl
theorem eo21 (n : Nat) : EnvOk Go.Proofs.Try.prog (tiOf tab) n 21 sg21 ⟨M21⟩ :=
  have hc : CodeOk Go.Proofs.Try.prog (cf21 n) := (code_cons Go.Proofs.Try.func21 (by kernel_rfl) code_nil)
  have he : EnvsOk Go.Proofs.Try.prog (cf21 n) := (env_cons (eo63 n) env_nil)
  have hl : LmsOk (R := List T) (cf21 n) (drawK (cf21 n)) (lms2 (lsl21 n)) (lsl21 n) := lms_nil
  envOk_of (cf := cf21 n) tabOk hc he (draw := drawK (cf21 n)) (fun _ => drawK_ok tabOk mixed hc he) (d := 3) (lms := lms2 (lsl21 n)) hl
    (fun τs rs h => by
      simp only [M21] at h
      split at h
      · exact (ev21 n _ _ _ _).trans h
      · cases h)
/-! ### 22: laws.eqIntResult -/
def sg22 : Sig := ⟨[(true, [.int .i64, .int .i64]), (true, [.int .i64, .int .i64])], [.leaf .bool false]⟩
def F22 (n : Nat) (x0 x1 x2 x3 : T) : Option (List T) :=
  bif (x0.I != x2.I) then (some [.b false]) else (bif (x1.I != x3.I) then (some [.b false]) else (some [.b true]))
def M22 (n : Nat) (τs : List T) : Option (List T) := match τs with
  | [x0, x1, x2, x3] => F22 n x0 x1 x2 x3
  | _ => none
noncomputable def code22 : List (Nat × Func) := [(22, Go.Proofs.Try.f22)]
def env22 : List (Nat × (Sig × Mean)) := []
def ann22 (f i : Nat) : Ann := match f, i with
  | _, _ => ⟨[], [], []⟩
def lsl22 (n : Nat) : List ((Nat × Nat) × (Nat → List LoopM)) := []
noncomputable def cf22 (n : Nat) : Cfg := ⟨tiOf tab, lookup code22, lookup env22, ann22, n⟩
theorem ev22 (n : Nat) (x0 x1 x2 x3 : T) : evF (cf22 n) (drawK (cf22 n)) (lms2 (lsl22 n)) 3 22 sg22 [x0, x1, x2, x3] = F22 n x0 x1 x2 x3 := by kernel_rfl
theorem eo22 (n : Nat) : EnvOk Go.Proofs.Try.prog (tiOf tab) n 22 sg22 ⟨M22⟩ :=
  have hc : CodeOk Go.Proofs.Try.prog (cf22 n) := (code_cons Go.Proofs.Try.func22 (by kernel_rfl) code_nil)
  have he : EnvsOk Go.Proofs.Try.prog (cf22 n) := env_nil
  have hl : LmsOk (R := List T) (cf22 n) (drawK (cf22 n)) (lms2 (lsl22 n)) (lsl22 n) := lms_nil
  envOk_of (cf := cf22 n) tabOk hc he (draw := drawK (cf22 n)) (fun _ => drawK_ok tabOk mixed hc he) (d := 3) (lms := lms2 (lsl22 n)) hl
    (fun τs rs h => by
      simp only [M22] at h
      split at h
      · exact (ev22 n _ _ _ _).trans h
      · cases h)
/-! ### 107: laws.eqInt64S -/
def sg107 : Sig := ⟨[(false, [.slice 2]), (false, [.slice 2])], [.leaf .bool false]⟩
def G107_107_4 {R : Type} (n : Nat) (v : List T) (self : List T → Option R) (ex : List (List T → Option R)) : Option R :=
  bif (decide ((v.getD 2 (.i 0)).I < ((((v.getD 0 (.i 0)).L).length : Nat) : Int))) then (if 0 ≤ (v.getD 2 (.i 0)).I ∧ (v.getD 2 (.i 0)).I < (((v.getD 0 (.i 0)).L).length : Int) then (if 0 ≤ (v.getD 2 (.i 0)).I ∧ (v.getD 2 (.i 0)).I < (((v.getD 1 (.i 0)).L).length : Int) then (bif ((at_ ((v.getD 0 (.i 0)).L) ((v.getD 2 (.i 0)).I)).I != (at_ ((v.getD 1 (.i 0)).L) ((v.getD 2 (.i 0)).I)).I) then (exn ex 0 [.b false]) else (self [.l ((v.getD 0 (.i 0)).L), .l ((v.getD 1 (.i 0)).L), .i (IntKind.wrap .i64 ((v.getD 2 (.i 0)).I + 1))])) else none) else none) else (exn ex 1 [])
def L107_107_4 (n : Nat) : LoopM := ⟨⟨[[.t (.slice 2) (.i 0), .t (.slice 2) (.i 0), .un, .un, .un, .t (.int .i64) (.i 0), .un, .un, .un, .un, .un, .un, .un, .un, .un, .un, .un, .un, .un, .un, .un, .un, .un, .un, .un, .un]], []⟩, [(.ret, ⟨[[.un, .un, .un, .un, .t .bool (.i 0), .un, .un, .un, .un, .un, .un, .un, .un, .un, .un, .un, .un, .un, .un, .un, .un, .un, .un, .un, .un, .un]], []⟩), (.exit 0, ⟨[[.un, .un, .un, .un, .un, .un, .un, .un, .un, .un, .un, .un, .un, .un, .un, .un, .un, .un, .un, .un, .un, .un, .un, .un, .un, .un]], []⟩)], fun v self ex => G107_107_4 n v self ex⟩
def F107 (n : Nat) (x0 x1 : T) : Option (List T) :=
  bif ((x0.L.length : Int) != (x1.L.length : Int)) then (some [.b false]) else (loopR (L107_107_4 n).G n [.l x0.L, .l x1.L, .i 0] [fun u1 => some [.b ((u1.getD 0 (.i 0)).B)], fun u2 => some [.b true]])
def M107 (n : Nat) (τs : List T) : Option (List T) := match τs with
  | [x0, x1] => F107 n x0 x1
  | _ => none
noncomputable def code107 : List (Nat × Func) := [(107, Go.Proofs.Try.f107)]
def env107 : List (Nat × (Sig × Mean)) := []
def ann107 (f i : Nat) : Ann := match f, i with
  | 107, 4 => ⟨[(0, .any), (1, .any), (5, .any)], [], [(4, .any)]⟩
  | _, _ => ⟨[], [], []⟩
def lm107_107 (n : Nat) (i : Nat) : List LoopM := match i with
  | 4 => [L107_107_4 n]
  | _ => []
def lsl107 (n : Nat) : List ((Nat × Nat) × (Nat → List LoopM)) := [((3, 107), lm107_107 n)]
noncomputable def cf107 (n : Nat) : Cfg := ⟨tiOf tab, lookup code107, lookup env107, ann107, n⟩
theorem ev107 (n : Nat) (x0 x1 : T) : evF (cf107 n) (drawK (cf107 n)) (lms2 (lsl107 n)) 3 107 sg107 [x0, x1] = F107 n x0 x1 := by kernel_rfl
theorem lp107_107_4 (n : Nat) (K : Ex → St → Option (List T)) (self : List T → Option (List T)) (v : List T) : evC (cf107 n) (callK (cf107 n) (drawK (cf107 n)) (lms2 (lsl107 n)) 3) (drawK (cf107 n) (callK (cf107 n) (drawK (cf107 n)) (lms2 (lsl107 n)) 3)) (ann107 107) (lm107_107 n) (bodyOf Go.Proofs.Try.f107 4) ((L107_107_4 n).sk.fill v) (roundK (ann107 107 4) K (selfK (L107_107_4 n) self)) = (L107_107_4 n).G v self (exitK (L107_107_4 n) K) := by kernel_rfl
theorem eo107 (n : Nat) : EnvOk Go.Proofs.Try.prog (tiOf tab) n 107 sg107 ⟨M107⟩ :=
  have hc : CodeOk Go.Proofs.Try.prog (cf107 n) := (code_cons Go.Proofs.Try.func107 (by kernel_rfl) code_nil)
  have he : EnvsOk Go.Proofs.Try.prog (cf107 n) := env_nil
  have hl : LmsOk (R := List T) (cf107 n) (drawK (cf107 n)) (lms2 (lsl107 n)) (lsl107 n) := (lms_cons (loops_of (cf := cf107 n) (fn0 := Go.Proofs.Try.f107) rfl (l := [bodyOf Go.Proofs.Try.f107 4]) (by kernel_rfl) (loops_cons (b := bodyOf Go.Proofs.Try.f107 4) (by kernel_rfl) (rfl : lm107_107 n 4 = [L107_107_4 n]) (List.forall_mem_cons.2 ⟨fun K self v => lp107_107_4 n K self v, fun _ h => by cases h⟩) loops_nil)) lms_nil)
  envOk_of (cf := cf107 n) tabOk hc he (draw := drawK (cf107 n)) (fun _ => drawK_ok tabOk mixed hc he) (d := 3) (lms := lms2 (lsl107 n)) hl
    (fun τs rs h => by
      simp only [M107] at h
      split at h
      · exact (ev107 n _ _).trans h
      · cases h)
/-! ### 253: laws.eqByteS -/
def sg253 : Sig := ⟨[(false, [.slice 5]), (false, [.slice 5])], [.leaf .bool false]⟩
def G253_253_4 {R : Type} (n : Nat) (v : List T) (self : List T → Option R) (ex : List (List T → Option R)) : Option R :=
  bif (decide ((v.getD 2 (.i 0)).I < ((((v.getD 0 (.i 0)).L).length : Nat) : Int))) then (if 0 ≤ (v.getD 2 (.i 0)).I ∧ (v.getD 2 (.i 0)).I < (((v.getD 0 (.i 0)).L).length : Int) then (if 0 ≤ (v.getD 2 (.i 0)).I ∧ (v.getD 2 (.i 0)).I < (((v.getD 1 (.i 0)).L).length : Int) then (bif ((at_ ((v.getD 0 (.i 0)).L) ((v.getD 2 (.i 0)).I)).I != (at_ ((v.getD 1 (.i 0)).L) ((v.getD 2 (.i 0)).I)).I) then (exn ex 0 [.b false]) else (self [.l ((v.getD 0 (.i 0)).L), .l ((v.getD 1 (.i 0)).L), .i (IntKind.wrap .i64 ((v.getD 2 (.i 0)).I + 1))])) else none) else none) else (exn ex 1 [])
def L253_253_4 (n : Nat) : LoopM := ⟨⟨[[.t (.slice 5) (.i 0), .t (.slice 5) (.i 0), .un, .un, .un, .t (.int .i64) (.i 0), .un, .un, .un, .un, .un, .un, .un, .un, .un, .un, .un, .un, .un, .un, .un, .un, .un, .un, .un, .un]], []⟩, [(.ret, ⟨[[.un, .un, .un, .un, .t .bool (.i 0), .un, .un, .un, .un, .un, .un, .un, .un, .un, .un, .un, .un, .un, .un, .un, .un, .un, .un, .un, .un, .un]], []⟩), (.exit 0, ⟨[[.un, .un, .un, .un, .un, .un, .un, .un, .un, .un, .un, .un, .un, .un, .un, .un, .un, .un, .un, .un, .un, .un, .un, .un, .un, .un]], []⟩)], fun v self ex => G253_253_4 n v self ex⟩
def F253 (n : Nat) (x0 x1 : T) : Option (List T) :=
  bif ((x0.L.length : Int) != (x1.L.length : Int)) then (some [.b false]) else (loopR (L253_253_4 n).G n [.l x0.L, .l x1.L, .i 0] [fun u1 => some [.b ((u1.getD 0 (.i 0)).B)], fun u2 => some [.b true]])
def M253 (n : Nat) (τs : List T) : Option (List T) := match τs with
  | [x0, x1] => F253 n x0 x1
  | _ => none
noncomputable def code253 : List (Nat × Func) := [(253, Go.Proofs.Try.f253)]
def env253 : List (Nat × (Sig × Mean)) := []
def ann253 (f i : Nat) : Ann := match f, i with
  | 253, 4 => ⟨[(0, .any), (1, .any), (5, .any)], [], [(4, .any)]⟩
  | _, _ => ⟨[], [], []⟩
def lm253_253 (n : Nat) (i : Nat) : List LoopM := match i with
  | 4 => [L253_253_4 n]
  | _ => []
def lsl253 (n : Nat) : List ((Nat × Nat) × (Nat → List LoopM)) := [((3, 253), lm253_253 n)]
noncomputable def cf253 (n : Nat) : Cfg := ⟨tiOf tab, lookup code253, lookup env253, ann253, n⟩
theorem ev253 (n : Nat) (x0 x1 : T) : evF (cf253 n) (drawK (cf253 n)) (lms2 (lsl253 n)) 3 253 sg253 [x0, x1] = F253 n x0 x1 := by kernel_rfl
theorem lp253_253_4 (n : Nat) (K : Ex → St → Option (List T)) (self : List T → Option (List T)) (v : List T) : evC (cf253 n) (callK (cf253 n) (drawK (cf253 n)) (lms2 (lsl253 n)) 3) (drawK (cf253 n) (callK (cf253 n) (drawK (cf253 n)) (lms2 (lsl253 n)) 3)) (ann253 253) (lm253_253 n) (bodyOf Go.Proofs.Try.f253 4) ((L253_253_4 n).sk.fill v) (roundK (ann253 253 4) K (selfK (L253_253_4 n) self)) = (L253_253_4 n).G v self (exitK (L253_253_4 n) K) := by kernel_rfl
theorem eo253 (n : Nat) : EnvOk Go.Proofs.Try.prog (tiOf tab) n 253 sg253 ⟨M253⟩ :=
  have hc : CodeOk Go.Proofs.Try.prog (cf253 n) := (code_cons Go.Proofs.Try.func253 (by kernel_rfl) code_nil)
  have he : EnvsOk Go.Proofs.Try.prog (cf253 n) := env_nil
  have hl : LmsOk (R := List T) (cf253 n) (drawK (cf253 n)) (lms2 (lsl253 n)) (lsl253 n) := (lms_cons (loops_of (cf := cf253 n) (fn0 := Go.Proofs.Try.f253) rfl (l := [bodyOf Go.Proofs.Try.f253 4]) (by kernel_rfl) (loops_cons (b := bodyOf Go.Proofs.Try.f253 4) (by kernel_rfl) (rfl : lm253_253 n 4 = [L253_253_4 n]) (List.forall_mem_cons.2 ⟨fun K self v => lp253_253_4 n K self v, fun _ h => by cases h⟩) loops_nil)) lms_nil)
  envOk_of (cf := cf253 n) tabOk hc he (draw := drawK (cf253 n)) (fun _ => drawK_ok tabOk mixed hc he) (d := 3) (lms := lms2 (lsl253 n)) hl
    (fun τs rs h => by
      simp only [M253] at h
      split at h
      · exact (ev253 n _ _).trans h
      · cases h)
/-! ### 207: laws.eqData -/
def sg207 : Sig := ⟨[(true, [.int .i64, .int .i64, .int .i64, .bool, .bool, .bool, .slice 5]), (true, [.int .i64, .int .i64, .int .i64, .bool, .bool, .bool, .slice 5])], [.leaf .bool false]⟩
def F207 (n : Nat) (x0 x1 x2 x3 x4 x5 x6 x7 x8 x9 x10 x11 x12 x13 : T) : Option (List T) :=
  bif (x0.I != x7.I) then (some [.b false]) else (bif (x1.I != x8.I) then (some [.b false]) else (bif (x2.I != x9.I) then (some [.b false]) else (bif (!(x3.B == x10.B)) then (some [.b false]) else (bif (!(x4.B == x11.B)) then (some [.b false]) else (bif (!(x5.B == x12.B)) then (some [.b false]) else ((F253 n x6 x13).bind fun r1 => bif (!(r1.headD (.i 0)).B) then (some [.b false]) else (some [.b true])))))))
def M207 (n : Nat) (τs : List T) : Option (List T) := match τs with
  | [x0, x1, x2, x3, x4, x5, x6, x7, x8, x9, x10, x11, x12, x13] => F207 n x0 x1 x2 x3 x4 x5 x6 x7 x8 x9 x10 x11 x12 x13
  | _ => none
noncomputable def code207 : List (Nat × Func) := [(207, Go.Proofs.Try.f207)]
def env207 : List (Nat × (Sig × Mean)) := [(253, sg253, ⟨M253⟩)]
def ann207 (f i : Nat) : Ann := match f, i with
  | _, _ => ⟨[], [], []⟩
def lsl207 (n : Nat) : List ((Nat × Nat) × (Nat → List LoopM)) := []
noncomputable def cf207 (n : Nat) : Cfg := ⟨tiOf tab, lookup code207, lookup env207, ann207, n⟩
theorem ev207 (n : Nat) (x0 x1 x2 x3 x4 x5 x6 x7 x8 x9 x10 x11 x12 x13 : T) : evF (cf207 n) (drawK (cf207 n)) (lms2 (lsl207 n)) 3 207 sg207 [x0, x1, x2, x3, x4, x5, x6, x7, x8, x9, x10, x11, x12, x13] = F207 n x0 x1 x2 x3 x4 x5 x6 x7 x8 x9 x10 x11 x12 x13 := by kernel_rfl
theorem eo207 (n : Nat) : EnvOk Go.Proofs.Try.prog (tiOf tab) n 207 sg207 ⟨M207⟩ :=
  have hc : CodeOk Go.Proofs.Try.prog (cf207 n) := (code_cons Go.Proofs.Try.func207 (by kernel_rfl) code_nil)
  have he : EnvsOk Go.Proofs.Try.prog (cf207 n) := (env_cons (eo253 n) env_nil)
  have hl : LmsOk (R := List T) (cf207 n) (drawK (cf207 n)) (lms2 (lsl207 n)) (lsl207 n) := lms_nil
  envOk_of (cf := cf207 n) tabOk hc he (draw := drawK (cf207 n)) (fun _ => drawK_ok tabOk mixed hc he) (d := 3) (lms := lms2 (lsl207 n)) hl
    (fun τs rs h => by
      simp only [M207] at h
      split at h
      · exact (ev207 n _ _ _ _ _ _ _ _ _ _ _ _ _ _).trans h
      · cases h)
/-! ### 210: laws.eqSendItem -/
def sg210 : Sig := ⟨[(true, [.int .i64, .int .i64, .int .i64, .bool, .bool, .bool, .slice 5, .int .i64, .int .i64]), (true, [.int .i64, .int .i64, .int .i64, .bool, .bool, .bool, .slice 5, .int .i64, .int .i64])], [.leaf .bool false]⟩
def F210 (n : Nat) (x0 x1 x2 x3 x4 x5 x6 x7 x8 x9 x10 x11 x12 x13 x14 x15 x16 x17 : T) : Option (List T) :=
  (F207 n x0 x1 x2 x3 x4 x5 x6 x9 x10 x11 x12 x13 x14 x15).bind fun r1 => bif (!(r1.headD (.i 0)).B) then (some [.b false]) else (bif (x7.I != x16.I) then (some [.b false]) else (bif (x8.I != x17.I) then (some [.b false]) else (some [.b true])))
def M210 (n : Nat) (τs : List T) : Option (List T) := match τs with
  | [x0, x1, x2, x3, x4, x5, x6, x7, x8, x9, x10, x11, x12, x13, x14, x15, x16, x17] => F210 n x0 x1 x2 x3 x4 x5 x6 x7 x8 x9 x10 x11 x12 x13 x14 x15 x16 x17
  | _ => none
noncomputable def code210 : List (Nat × Func) := [(210, Go.Proofs.Try.f210)]
def env210 : List (Nat × (Sig × Mean)) := [(207, sg207, ⟨M207⟩)]
def ann210 (f i : Nat) : Ann := match f, i with
  | _, _ => ⟨[], [], []⟩
def lsl210 (n : Nat) : List ((Nat × Nat) × (Nat → List LoopM)) := []
noncomputable def cf210 (n : Nat) : Cfg := ⟨tiOf tab, lookup code210, lookup env210, ann210, n⟩
theorem ev210 (n : Nat) (x0 x1 x2 x3 x4 x5 x6 x7 x8 x9 x10 x11 x12 x13 x14 x15 x16 x17 : T) : evF (cf210 n) (drawK (cf210 n)) (lms2 (lsl210 n)) 3 210 sg210 [x0, x1, x2, x3, x4, x5, x6, x7, x8, x9, x10, x11, x12, x13, x14, x15, x16, x17] = F210 n x0 x1 x2 x3 x4 x5 x6 x7 x8 x9 x10 x11 x12 x13 x14 x15 x16 x17 := by kernel_rfl
theorem eo210 (n : Nat) : EnvOk Go.Proofs.Try.prog (tiOf tab) n 210 sg210 ⟨M210⟩ :=
  have hc : CodeOk Go.Proofs.Try.prog (cf210 n) := (code_cons Go.Proofs.Try.func210 (by kernel_rfl) code_nil)
  have he : EnvsOk Go.Proofs.Try.prog (cf210 n) := (env_cons (eo207 n) env_nil)
  have hl : LmsOk (R := List T) (cf210 n) (drawK (cf210 n)) (lms2 (lsl210 n)) (lsl210 n) := lms_nil
  envOk_of (cf := cf210 n) tabOk hc he (draw := drawK (cf210 n)) (fun _ => drawK_ok tabOk mixed hc he) (d := 3) (lms := lms2 (lsl210 n)) hl
    (fun τs rs h => by
      simp only [M210] at h
      split at h
      · exact (ev210 n _ _ _ _ _ _ _ _ _ _ _ _ _ _ _ _ _ _).trans h
      · cases h)
/-! ### 111: laws.eqSendItemS -/
def sg111 : Sig := ⟨[(false, [.slice 222]), (false, [.slice 222])], [.leaf .bool false]⟩
def G111_111_4 {R : Type} (n : Nat) (v : List T) (self : List T → Option R) (ex : List (List T → Option R)) : Option R :=
  bif (decide ((v.getD 2 (.i 0)).I < ((((v.getD 0 (.i 0)).L).length : Nat) : Int))) then (if 0 ≤ (v.getD 2 (.i 0)).I ∧ (v.getD 2 (.i 0)).I < (((v.getD 0 (.i 0)).L).length : Int) then (if 0 ≤ (v.getD 2 (.i 0)).I ∧ (v.getD 2 (.i 0)).I < (((v.getD 1 (.i 0)).L).length : Int) then ((F210 n ((at_ ((v.getD 0 (.i 0)).L) ((v.getD 2 (.i 0)).I)).F 0) ((at_ ((v.getD 0 (.i 0)).L) ((v.getD 2 (.i 0)).I)).F 1) ((at_ ((v.getD 0 (.i 0)).L) ((v.getD 2 (.i 0)).I)).F 2) ((at_ ((v.getD 0 (.i 0)).L) ((v.getD 2 (.i 0)).I)).F 3) ((at_ ((v.getD 0 (.i 0)).L) ((v.getD 2 (.i 0)).I)).F 4) ((at_ ((v.getD 0 (.i 0)).L) ((v.getD 2 (.i 0)).I)).F 5) ((at_ ((v.getD 0 (.i 0)).L) ((v.getD 2 (.i 0)).I)).F 6) ((at_ ((v.getD 0 (.i 0)).L) ((v.getD 2 (.i 0)).I)).F 7) ((at_ ((v.getD 0 (.i 0)).L) ((v.getD 2 (.i 0)).I)).F 8) ((at_ ((v.getD 1 (.i 0)).L) ((v.getD 2 (.i 0)).I)).F 0) ((at_ ((v.getD 1 (.i 0)).L) ((v.getD 2 (.i 0)).I)).F 1) ((at_ ((v.getD 1 (.i 0)).L) ((v.getD 2 (.i 0)).I)).F 2) ((at_ ((v.getD 1 (.i 0)).L) ((v.getD 2 (.i 0)).I)).F 3) ((at_ ((v.getD 1 (.i 0)).L) ((v.getD 2 (.i 0)).I)).F 4) ((at_ ((v.getD 1 (.i 0)).L) ((v.getD 2 (.i 0)).I)).F 5) ((at_ ((v.getD 1 (.i 0)).L) ((v.getD 2 (.i 0)).I)).F 6) ((at_ ((v.getD 1 (.i 0)).L) ((v.getD 2 (.i 0)).I)).F 7) ((at_ ((v.getD 1 (.i 0)).L) ((v.getD 2 (.i 0)).I)).F 8)).bind fun r1 => bif (!(r1.headD (.i 0)).B) then (exn ex 0 [.b false]) else (self [.l ((v.getD 0 (.i 0)).L), .l ((v.getD 1 (.i 0)).L), .i (IntKind.wrap .i64 ((v.getD 2 (.i 0)).I + 1))])) else none) else none) else (exn ex 1 [])
def L111_111_4 (n : Nat) : LoopM := ⟨⟨[[.t (.slice 222) (.i 0), .t (.slice 222) (.i 0), .un, .un, .un, .t (.int .i64) (.i 0), .un, .un, .un, .un, .un, .un, .un, .un, .un, .un, .un, .un, .un, .un, .un, .un, .un, .un, .un, .un, .un]], []⟩, [(.ret, ⟨[[.un, .un, .un, .un, .t .bool (.i 0), .un, .un, .un, .un, .un, .un, .un, .un, .un, .un, .un, .un, .un, .un, .un, .un, .un, .un, .un, .un, .un, .un]], []⟩), (.exit 0, ⟨[[.un, .un, .un, .un, .un, .un, .un, .un, .un, .un, .un, .un, .un, .un, .un, .un, .un, .un, .un, .un, .un, .un, .un, .un, .un, .un, .un]], []⟩)], fun v self ex => G111_111_4 n v self ex⟩
def F111 (n : Nat) (x0 x1 : T) : Option (List T) :=
  bif ((x0.L.length : Int) != (x1.L.length : Int)) then (some [.b false]) else (loopR (L111_111_4 n).G n [.l x0.L, .l x1.L, .i 0] [fun u2 => some [.b ((u2.getD 0 (.i 0)).B)], fun u3 => some [.b true]])
def M111 (n : Nat) (τs : List T) : Option (List T) := match τs with
  | [x0, x1] => F111 n x0 x1
  | _ => none
noncomputable def code111 : List (Nat × Func) := [(111, Go.Proofs.Try.f111)]
def env111 : List (Nat × (Sig × Mean)) := [(210, sg210, ⟨M210⟩)]
def ann111 (f i : Nat) : Ann := match f, i with
  | 111, 4 => ⟨[(0, .any), (1, .any), (5, .any)], [], [(4, .any)]⟩
  | _, _ => ⟨[], [], []⟩
def lm111_111 (n : Nat) (i : Nat) : List LoopM := match i with
  | 4 => [L111_111_4 n]
  | _ => []
def lsl111 (n : Nat) : List ((Nat × Nat) × (Nat → List LoopM)) := [((3, 111), lm111_111 n)]
noncomputable def cf111 (n : Nat) : Cfg := ⟨tiOf tab, lookup code111, lookup env111, ann111, n⟩
theorem ev111 (n : Nat) (x0 x1 : T) : evF (cf111 n) (drawK (cf111 n)) (lms2 (lsl111 n)) 3 111 sg111 [x0, x1] = F111 n x0 x1 := by kernel_rfl
theorem lp111_111_4 (n : Nat) (K : Ex → St → Option (List T)) (self : List T → Option (List T)) (v : List T) : evC (cf111 n) (callK (cf111 n) (drawK (cf111 n)) (lms2 (lsl111 n)) 3) (drawK (cf111 n) (callK (cf111 n) (drawK (cf111 n)) (lms2 (lsl111 n)) 3)) (ann111 111) (lm111_111 n) (bodyOf Go.Proofs.Try.f111 4) ((L111_111_4 n).sk.fill v) (roundK (ann111 111 4) K (selfK (L111_111_4 n) self)) = (L111_111_4 n).G v self (exitK (L111_111_4 n) K) := by kernel_rfl
theorem eo111 (n : Nat) : EnvOk Go.Proofs.Try.prog (tiOf tab) n 111 sg111 ⟨M111⟩ :=
  have hc : CodeOk Go.Proofs.Try.prog (cf111 n) := (code_cons Go.Proofs.Try.func111 (by kernel_rfl) code_nil)
  have he : EnvsOk Go.Proofs.Try.prog (cf111 n) := (env_cons (eo210 n) env_nil)
  have hl : LmsOk (R := List T) (cf111 n) (drawK (cf111 n)) (lms2 (lsl111 n)) (lsl111 n) := (lms_cons (loops_of (cf := cf111 n) (fn0 := Go.Proofs.Try.f111) rfl (l := [bodyOf Go.Proofs.Try.f111 4]) (by kernel_rfl) (loops_cons (b := bodyOf Go.Proofs.Try.f111 4) (by kernel_rfl) (rfl : lm111_111 n 4 = [L111_111_4 n]) (List.forall_mem_cons.2 ⟨fun K self v => lp111_111_4 n K self v, fun _ h => by cases h⟩) loops_nil)) lms_nil)
  envOk_of (cf := cf111 n) tabOk hc he (draw := drawK (cf111 n)) (fun _ => drawK_ok tabOk mixed hc he) (d := 3) (lms := lms2 (lsl111 n)) hl
    (fun τs rs h => by
      simp only [M111] at h
      split at h
      · exact (ev111 n _ _).trans h
      · cases h)
/-! ### 23: laws.eqSend -/
def sg23 : Sig := ⟨[(true, [.int .i64, .int .i64, .slice 2, .slice 222]), (true, [.int .i64, .int .i64, .slice 2, .slice 222])], [.leaf .bool false]⟩
def F23 (n : Nat) (x0 x1 x2 x3 x4 x5 x6 x7 : T) : Option (List T) :=
  bif (x0.I != x4.I) then (some [.b false]) else (bif (x1.I != x5.I) then (some [.b false]) else ((F107 n x2 x6).bind fun r1 => bif (!(r1.headD (.i 0)).B) then (some [.b false]) else ((F111 n x3 x7).bind fun r2 => bif (!(r2.headD (.i 0)).B) then (some [.b false]) else (some [.b true]))))
def M23 (n : Nat) (τs : List T) : Option (List T) := match τs with
  | [x0, x1, x2, x3, x4, x5, x6, x7] => F23 n x0 x1 x2 x3 x4 x5 x6 x7
  | _ => none
noncomputable def code23 : List (Nat × Func) := [(23, Go.Proofs.Try.f23)]
def env23 : List (Nat × (Sig × Mean)) := [(107, sg107, ⟨M107⟩), (111, sg111, ⟨M111⟩)]
def ann23 (f i : Nat) : Ann := match f, i with
  | _, _ => ⟨[], [], []⟩
def lsl23 (n : Nat) : List ((Nat × Nat) × (Nat → List LoopM)) := []
noncomputable def cf23 (n : Nat) : Cfg := ⟨tiOf tab, lookup code23, lookup env23, ann23, n⟩
theorem ev23 (n : Nat) (x0 x1 x2 x3 x4 x5 x6 x7 : T) : evF (cf23 n) (drawK (cf23 n)) (lms2 (lsl23 n)) 3 23 sg23 [x0, x1, x2, x3, x4, x5, x6, x7] = F23 n x0 x1 x2 x3 x4 x5 x6 x7 := by kernel_rfl
theorem eo23 (n : Nat) : EnvOk Go.Proofs.Try.prog (tiOf tab) n 23 sg23 ⟨M23⟩ :=
  have hc : CodeOk Go.Proofs.Try.prog (cf23 n) := (code_cons Go.Proofs.Try.func23 (by kernel_rfl) code_nil)
  have he : EnvsOk Go.Proofs.Try.prog (cf23 n) := (env_cons (eo107 n) (env_cons (eo111 n) env_nil))
  have hl : LmsOk (R := List T) (cf23 n) (drawK (cf23 n)) (lms2 (lsl23 n)) (lsl23 n) := lms_nil
  envOk_of (cf := cf23 n) tabOk hc he (draw := drawK (cf23 n)) (fun _ => drawK_ok tabOk mixed hc he) (d := 3) (lms := lms2 (lsl23 n)) hl
    (fun τs rs h => by
      simp only [M23] at h
      split at h
      · exact (ev23 n _ _ _ _ _ _ _ _).trans h
      · cases h)
/-! ### 4: laws.FnExactLeftIn -/
def sg4 : Sig := ⟨[(true, [.int .i64, .int .i64, .slice 2, .slice 264])], [.leaf .bool false]⟩
def F4 (n : Nat) (x0 x1 x2 x3 : T) : Option (List T) :=
  (F18 n x0 x1 x2 x3 (.i 1048576)).bind fun r1 => bif (decide ((r1.headD (.i 0)).I < 0)) then (some [.b true]) else ((F20 n x0 x1 x2 x3).bind fun r2 => (F19 n (r2.headD (.i 0)) (r2.tail.headD (.i 0)) (r2.tail.tail.headD (.i 0)) (r2.tail.tail.tail.headD (.i 0))).bind fun r3 => (F20 n x0 x1 x2 x3).bind fun r4 => (F21 n (r4.headD (.i 0)) (r4.tail.headD (.i 0)) (r4.tail.tail.headD (.i 0)) (r4.tail.tail.tail.headD (.i 0))).bind fun r5 => (F22 n (r5.headD (.i 0)) (r5.tail.headD (.i 0)) (r3.headD (.i 0)) (r3.tail.headD (.i 0))).bind fun r6 => bif (!(r6.headD (.i 0)).B) then (some [.b false]) else ((F20 n x0 x1 x2 x3).bind fun r7 => (F23 n (r4.headD (.i 0)) (r4.tail.headD (.i 0)) (r4.tail.tail.headD (.i 0)) (r4.tail.tail.tail.headD (.i 0)) (r7.headD (.i 0)) (r7.tail.headD (.i 0)) (r7.tail.tail.headD (.i 0)) (r7.tail.tail.tail.headD (.i 0))).bind fun r8 => bif (!(r8.headD (.i 0)).B) then (some [.b false]) else (some [.b true])))
def M4 (n : Nat) (τs : List T) : Option (List T) := match τs with
  | [x0, x1, x2, x3] => F4 n x0 x1 x2 x3
  | _ => none
noncomputable def code4 : List (Nat × Func) := [(4, Go.Proofs.Try.f4)]
def env4 : List (Nat × (Sig × Mean)) := [(18, sg18, ⟨M18⟩), (19, sg19, ⟨M19⟩), (20, sg20, ⟨M20⟩), (21, sg21, ⟨M21⟩), (22, sg22, ⟨M22⟩), (23, sg23, ⟨M23⟩)]
def ann4 (f i : Nat) : Ann := match f, i with
  | _, _ => ⟨[], [], []⟩
def lsl4 (n : Nat) : List ((Nat × Nat) × (Nat → List LoopM)) := []
noncomputable def cf4 (n : Nat) : Cfg := ⟨tiOf tab, lookup code4, lookup env4, ann4, n⟩
theorem ev4 (n : Nat) (x0 x1 x2 x3 : T) : evF (cf4 n) (drawK (cf4 n)) (lms2 (lsl4 n)) 3 4 sg4 [x0, x1, x2, x3] = F4 n x0 x1 x2 x3 := by kernel_rfl
theorem eo4 (n : Nat) : EnvOk Go.Proofs.Try.prog (tiOf tab) n 4 sg4 ⟨M4⟩ :=
  have hc : CodeOk Go.Proofs.Try.prog (cf4 n) := (code_cons Go.Proofs.Try.func4 (by kernel_rfl) code_nil)
  have he : EnvsOk Go.Proofs.Try.prog (cf4 n) := (env_cons (eo18 n) (env_cons (eo19 n) (env_cons (eo20 n) (env_cons (eo21 n) (env_cons (eo22 n) (env_cons (eo23 n) env_nil))))))
  have hl : LmsOk (R := List T) (cf4 n) (drawK (cf4 n)) (lms2 (lsl4 n)) (lsl4 n) := lms_nil
  envOk_of (cf := cf4 n) tabOk hc he (draw := drawK (cf4 n)) (fun _ => drawK_ok tabOk mixed hc he) (d := 3) (lms := lms2 (lsl4 n)) hl
    (fun τs rs h => by
      simp only [M4] at h
      split at h
      · exact (ev4 n _ _ _ _).trans h
      · cases h)
end Go.KX.Sd
