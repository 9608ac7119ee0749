import Derived.Test.YtpkeanlcmjbgnacProg
import Derived.KernelRfl
import Derived.Test.YtpkeanlcmjbgnacKxC
namespace Go.KX.Sc
open Go
set_option linter.unusedVariables false
def tab : List (Nat × TyI) := [
  (2, ⟨true, false, [.int .i64], 8, .leaf, false⟩),
  (3, ⟨true, false, [.int .i64], 8, .leaf, false⟩),
  (4, ⟨true, false, [.bool], 1, .leaf, false⟩),
  (5, ⟨true, false, [.int .u8], 1, .leaf, false⟩),
  (22, ⟨true, false, [.slice 2], 24, .slice 2, false⟩),
  (73, ⟨true, false, [.slice 203], 24, .slice 203, false⟩),
  (75, ⟨true, true, [.int .i64, .int .i64, .slice 2, .slice 203], 64, .struct [(2, 0), (2, 1), (22, 2), (73, 3)], false⟩),
  (85, ⟨true, false, [.slice 5], 24, .slice 5, false⟩),
  (106, ⟨true, true, [.int .i64, .int .i64, .int .i64, .bool, .bool, .bool, .slice 5], 56, .struct [(2, 0), (2, 1), (2, 2), (4, 3), (4, 4), (4, 5), (85, 6)], false⟩),
  (116, ⟨true, false, [.slice 230], 24, .slice 230, false⟩),
  (118, ⟨true, true, [.int .i64, .int .i64, .slice 2, .slice 230], 64, .struct [(2, 0), (2, 1), (22, 2), (116, 3)], false⟩),
  (161, ⟨true, true, [.int .i64, .int .i64, .int .i64, .bool, .bool, .bool, .slice 5], 56, .struct [(2, 0), (2, 1), (2, 2), (4, 3), (4, 4), (4, 5), (85, 6)], false⟩),
  (169, ⟨true, true, [.int .i64, .int .i64, .slice 5], 40, .struct [(2, 0), (2, 1), (85, 2)], false⟩),
  (171, ⟨true, true, [.int .i64, .int .i64, .int .i64, .slice 5], 48, .struct [(2, 0), (169, 1)], false⟩),
  (203, ⟨true, true, [.int .i64, .int .i64, .int .i64, .bool, .bool, .bool, .slice 5, .int .i64, .int .i64], 72, .struct [(106, 0), (2, 7), (2, 8)], false⟩),
  (230, ⟨true, true, [.int .i64, .int .i64, .int .i64, .bool, .bool, .bool, .slice 5, .int .i64, .int .i64], 72, .struct [(161, 0), (2, 7), (2, 8)], false⟩),
  (236, ⟨true, false, [.slice 85], 24, .slice 85, false⟩)]
theorem tabOk : TabOk Go.Proofs.Try.prog (tiOf tab) := tab_ok (by kernel_rfl)
theorem mixed : Go.Proofs.Try.prog.follows .mixedOrders = true := by kernel_rfl
/-! ### 163: laws.szInt64S -/
def sg163 : Sig := ⟨[(false, [.slice 2]), (false, [.int .i64])], [.leaf (.int .i64) false]⟩
def F163 (n : Nat) (x0 x1 : T) : Option (List T) :=
  bif (decide ((IntKind.wrap .i64 (x1.I - (x0.L.length : Int))) < 0)) then (some [.i (-1)]) else (some [.i (IntKind.wrap .i64 (x1.I - (x0.L.length : Int)))])
def M163 (n : Nat) (τs : List T) : Option (List T) := match τs with
  | [x0, x1] => F163 n x0 x1
  | _ => none
noncomputable def code163 : List (Nat × Func) := [(163, Go.Proofs.Try.f163)]
def env163 : List (Nat × (Sig × Mean)) := []
def ann163 (f i : Nat) : Ann := match f, i with
  | _, _ => ⟨[], [], []⟩
def lsl163 (n : Nat) : List ((Nat × Nat) × (Nat → List LoopM)) := []
noncomputable def cf163 (n : Nat) : Cfg := ⟨tiOf tab, lookup code163, lookup env163, ann163, n⟩
theorem ev163 (n : Nat) (x0 x1 : T) : evF (cf163 n) (drawK (cf163 n)) (lms2 (lsl163 n)) 3 163 sg163 [x0, x1] = F163 n x0 x1 := by kernel_rfl
theorem eo163 (n : Nat) : EnvOk Go.Proofs.Try.prog (tiOf tab) n 163 sg163 ⟨M163⟩ :=
  have hc : CodeOk Go.Proofs.Try.prog (cf163 n) := (code_cons Go.Proofs.Try.func163 (by kernel_rfl) code_nil)
  have he : EnvsOk Go.Proofs.Try.prog (cf163 n) := env_nil
  have hl : LmsOk (R := List T) (cf163 n) (drawK (cf163 n)) (lms2 (lsl163 n)) (lsl163 n) := lms_nil
  envOk_of (cf := cf163 n) tabOk hc he (draw := drawK (cf163 n)) (fun _ => drawK_ok tabOk mixed hc he) (d := 3) (lms := lms2 (lsl163 n)) hl
    (fun τs rs h => by
      simp only [M163] at h
      split at h
      · exact (ev163 n _ _).trans h
      · cases h)
/-! ### 190: laws.szByteS -/
def sg190 : Sig := ⟨[(false, [.slice 5]), (false, [.int .i64])], [.leaf (.int .i64) false]⟩
def F190 (n : Nat) (x0 x1 : T) : Option (List T) :=
  bif (decide ((IntKind.wrap .i64 (x1.I - (x0.L.length : Int))) < 0)) then (some [.i (-1)]) else (some [.i (IntKind.wrap .i64 (x1.I - (x0.L.length : Int)))])
def M190 (n : Nat) (τs : List T) : Option (List T) := match τs with
  | [x0, x1] => F190 n x0 x1
  | _ => none
noncomputable def code190 : List (Nat × Func) := [(190, Go.Proofs.Try.f190)]
def env190 : List (Nat × (Sig × Mean)) := []
def ann190 (f i : Nat) : Ann := match f, i with
  | _, _ => ⟨[], [], []⟩
def lsl190 (n : Nat) : List ((Nat × Nat) × (Nat → List LoopM)) := []
noncomputable def cf190 (n : Nat) : Cfg := ⟨tiOf tab, lookup code190, lookup env190, ann190, n⟩
theorem ev190 (n : Nat) (x0 x1 : T) : evF (cf190 n) (drawK (cf190 n)) (lms2 (lsl190 n)) 3 190 sg190 [x0, x1] = F190 n x0 x1 := by kernel_rfl
theorem eo190 (n : Nat) : EnvOk Go.Proofs.Try.prog (tiOf tab) n 190 sg190 ⟨M190⟩ :=
  have hc : CodeOk Go.Proofs.Try.prog (cf190 n) := (code_cons Go.Proofs.Try.func190 (by kernel_rfl) code_nil)
  have he : EnvsOk Go.Proofs.Try.prog (cf190 n) := env_nil
  have hl : LmsOk (R := List T) (cf190 n) (drawK (cf190 n)) (lms2 (lsl190 n)) (lsl190 n) := lms_nil
  envOk_of (cf := cf190 n) tabOk hc he (draw := drawK (cf190 n)) (fun _ => drawK_ok tabOk mixed hc he) (d := 3) (lms := lms2 (lsl190 n)) hl
    (fun τs rs h => by
      simp only [M190] at h
      split at h
      · exact (ev190 n _ _).trans h
      · cases h)
/-! ### 125: laws.szData -/
def sg125 : Sig := ⟨[(true, [.int .i64, .int .i64, .int .i64, .bool, .bool, .bool, .slice 5]), (false, [.int .i64])], [.leaf (.int .i64) false]⟩
def F125 (n : Nat) (x0 x1 x2 x3 x4 x5 x6 x7 : T) : Option (List T) :=
  (F190 n x6 x7).bind fun r1 => bif (decide ((r1.headD (.i 0)).I < 0)) then (some [.i (-1)]) else (some [(r1.headD (.i 0))])
def M125 (n : Nat) (τs : List T) : Option (List T) := match τs with
  | [x0, x1, x2, x3, x4, x5, x6, x7] => F125 n x0 x1 x2 x3 x4 x5 x6 x7
  | _ => none
noncomputable def code125 : List (Nat × Func) := [(125, Go.Proofs.Try.f125)]
def env125 : List (Nat × (Sig × Mean)) := [(190, sg190, ⟨M190⟩)]
def ann125 (f i : Nat) : Ann := match f, i with
  | _, _ => ⟨[], [], []⟩
def lsl125 (n : Nat) : List ((Nat × Nat) × (Nat → List LoopM)) := []
noncomputable def cf125 (n : Nat) : Cfg := ⟨tiOf tab, lookup code125, lookup env125, ann125, n⟩
theorem ev125 (n : Nat) (x0 x1 x2 x3 x4 x5 x6 x7 : T) : evF (cf125 n) (drawK (cf125 n)) (lms2 (lsl125 n)) 3 125 sg125 [x0, x1, x2, x3, x4, x5, x6, x7] = F125 n x0 x1 x2 x3 x4 x5 x6 x7 := by kernel_rfl
theorem eo125 (n : Nat) : EnvOk Go.Proofs.Try.prog (tiOf tab) n 125 sg125 ⟨M125⟩ :=
  have hc : CodeOk Go.Proofs.Try.prog (cf125 n) := (code_cons Go.Proofs.Try.func125 (by kernel_rfl) code_nil)
  have he : EnvsOk Go.Proofs.Try.prog (cf125 n) := (env_cons (eo190 n) env_nil)
  have hl : LmsOk (R := List T) (cf125 n) (drawK (cf125 n)) (lms2 (lsl125 n)) (lsl125 n) := lms_nil
  envOk_of (cf := cf125 n) tabOk hc he (draw := drawK (cf125 n)) (fun _ => drawK_ok tabOk mixed hc he) (d := 3) (lms := lms2 (lsl125 n)) hl
    (fun τs rs h => by
      simp only [M125] at h
      split at h
      · exact (ev125 n _ _ _ _ _ _ _ _).trans h
      · cases h)
/-! ### 199: laws.szSendItem -/
def sg199 : Sig := ⟨[(true, [.int .i64, .int .i64, .int .i64, .bool, .bool, .bool, .slice 5, .int .i64, .int .i64]), (false, [.int .i64])], [.leaf (.int .i64) false]⟩
def F199 (n : Nat) (x0 x1 x2 x3 x4 x5 x6 x7 x8 x9 : T) : Option (List T) :=
  (F125 n x0 x1 x2 x3 x4 x5 x6 x9).bind fun r1 => bif (decide ((r1.headD (.i 0)).I < 0)) then (some [.i (-1)]) else (some [(r1.headD (.i 0))])
def M199 (n : Nat) (τs : List T) : Option (List T) := match τs with
  | [x0, x1, x2, x3, x4, x5, x6, x7, x8, x9] => F199 n x0 x1 x2 x3 x4 x5 x6 x7 x8 x9
  | _ => none
noncomputable def code199 : List (Nat × Func) := [(199, Go.Proofs.Try.f199)]
def env199 : List (Nat × (Sig × Mean)) := [(125, sg125, ⟨M125⟩)]
def ann199 (f i : Nat) : Ann := match f, i with
  | _, _ => ⟨[], [], []⟩
def lsl199 (n : Nat) : List ((Nat × Nat) × (Nat → List LoopM)) := []
noncomputable def cf199 (n : Nat) : Cfg := ⟨tiOf tab, lookup code199, lookup env199, ann199, n⟩
theorem ev199 (n : Nat) (x0 x1 x2 x3 x4 x5 x6 x7 x8 x9 : T) : evF (cf199 n) (drawK (cf199 n)) (lms2 (lsl199 n)) 3 199 sg199 [x0, x1, x2, x3, x4, x5, x6, x7, x8, x9] = F199 n x0 x1 x2 x3 x4 x5 x6 x7 x8 x9 := by kernel_rfl
theorem eo199 (n : Nat) : EnvOk Go.Proofs.Try.prog (tiOf tab) n 199 sg199 ⟨M199⟩ :=
  have hc : CodeOk Go.Proofs.Try.prog (cf199 n) := (code_cons Go.Proofs.Try.func199 (by kernel_rfl) code_nil)
  have he : EnvsOk Go.Proofs.Try.prog (cf199 n) := (env_cons (eo125 n) env_nil)
  have hl : LmsOk (R := List T) (cf199 n) (drawK (cf199 n)) (lms2 (lsl199 n)) (lsl199 n) := lms_nil
  envOk_of (cf := cf199 n) tabOk hc he (draw := drawK (cf199 n)) (fun _ => drawK_ok tabOk mixed hc he) (d := 3) (lms := lms2 (lsl199 n)) hl
    (fun τs rs h => by
      simp only [M199] at h
      split at h
      · exact (ev199 n _ _ _ _ _ _ _ _ _ _).trans h
      · cases h)
/-! ### 164: laws.szSendItemS -/
def sg164 : Sig := ⟨[(false, [.slice 230]), (false, [.int .i64])], [.leaf (.int .i64) false]⟩
def G164_164_5 {R : Type} (n : Nat) (v : List T) (self : List T → Option R) (ex : List (List T → Option R)) : Option R :=
  bif (decide ((v.getD 2 (.i 0)).I < ((((v.getD 0 (.i 0)).L).length : Nat) : Int))) then (if 0 ≤ (v.getD 2 (.i 0)).I ∧ (v.getD 2 (.i 0)).I < (((v.getD 0 (.i 0)).L).length : Int) then ((F199 n ((at_ ((v.getD 0 (.i 0)).L) ((v.getD 2 (.i 0)).I)).F 0) ((at_ ((v.getD 0 (.i 0)).L) ((v.getD 2 (.i 0)).I)).F 1) ((at_ ((v.getD 0 (.i 0)).L) ((v.getD 2 (.i 0)).I)).F 2) ((at_ ((v.getD 0 (.i 0)).L) ((v.getD 2 (.i 0)).I)).F 3) ((at_ ((v.getD 0 (.i 0)).L) ((v.getD 2 (.i 0)).I)).F 4) ((at_ ((v.getD 0 (.i 0)).L) ((v.getD 2 (.i 0)).I)).F 5) ((at_ ((v.getD 0 (.i 0)).L) ((v.getD 2 (.i 0)).I)).F 6) ((at_ ((v.getD 0 (.i 0)).L) ((v.getD 2 (.i 0)).I)).F 7) ((at_ ((v.getD 0 (.i 0)).L) ((v.getD 2 (.i 0)).I)).F 8) (.i ((v.getD 1 (.i 0)).I))).bind fun r1 => bif (decide ((r1.headD (.i 0)).I < 0)) then (exn ex 0 [.i ((r1.headD (.i 0)).I), .i (-1)]) else (self [.l ((v.getD 0 (.i 0)).L), .i ((r1.headD (.i 0)).I), .i (IntKind.wrap .i64 ((v.getD 2 (.i 0)).I + 1))])) else none) else (exn ex 1 [.i ((v.getD 1 (.i 0)).I)])
def L164_164_5 (n : Nat) : LoopM := ⟨⟨[[.t (.slice 230) (.i 0), .t (.int .i64) (.i 0), .un, .un, .un, .t (.int .i64) (.i 0), .un, .un, .un, .un, .un, .un, .un, .un, .un, .un, .un, .un, .un, .un, .un, .un, .un, .un, .un, .un, .un]], []⟩, [(.ret, ⟨[[.un, .t (.int .i64) (.i 0), .un, .un, .t (.int .i64) (.i 0), .un, .un, .un, .un, .un, .un, .un, .un, .un, .un, .un, .un, .un, .un, .un, .un, .un, .un, .un, .un, .un, .un]], []⟩), (.exit 0, ⟨[[.un, .t (.int .i64) (.i 0), .un, .un, .un, .un, .un, .un, .un, .un, .un, .un, .un, .un, .un, .un, .un, .un, .un, .un, .un, .un, .un, .un, .un, .un, .un]], []⟩)], fun v self ex => G164_164_5 n v self ex⟩
def F164 (n : Nat) (x0 x1 : T) : Option (List T) :=
  bif (decide ((IntKind.wrap .i64 (x1.I - (x0.L.length : Int))) < 0)) then (some [.i (-1)]) else (loopR (L164_164_5 n).G n [.l x0.L, .i (IntKind.wrap .i64 (x1.I - (x0.L.length : Int))), .i 0] [fun u2 => some [.i ((u2.getD 1 (.i 0)).I)], fun u3 => some [.i ((u3.getD 0 (.i 0)).I)]])
def M164 (n : Nat) (τs : List T) : Option (List T) := match τs with
  | [x0, x1] => F164 n x0 x1
  | _ => none
noncomputable def code164 : List (Nat × Func) := [(164, Go.Proofs.Try.f164)]
def env164 : List (Nat × (Sig × Mean)) := [(199, sg199, ⟨M199⟩)]
def ann164 (f i : Nat) : Ann := match f, i with
  | 164, 5 => ⟨[(0, .any), (1, .any), (5, .any)], [], [(1, .any), (4, .any)]⟩
  | _, _ => ⟨[], [], []⟩
def lm164_164 (n : Nat) (i : Nat) : List LoopM := match i with
  | 5 => [L164_164_5 n]
  | _ => []
def lsl164 (n : Nat) : List ((Nat × Nat) × (Nat → List LoopM)) := [((3, 164), lm164_164 n)]
noncomputable def cf164 (n : Nat) : Cfg := ⟨tiOf tab, lookup code164, lookup env164, ann164, n⟩
theorem ev164 (n : Nat) (x0 x1 : T) : evF (cf164 n) (drawK (cf164 n)) (lms2 (lsl164 n)) 3 164 sg164 [x0, x1] = F164 n x0 x1 := by kernel_rfl
theorem lp164_164_5 (n : Nat) (K : Ex → St → Option (List T)) (self : List T → Option (List T)) (v : List T) : evC (cf164 n) (callK (cf164 n) (drawK (cf164 n)) (lms2 (lsl164 n)) 3) (drawK (cf164 n) (callK (cf164 n) (drawK (cf164 n)) (lms2 (lsl164 n)) 3)) (ann164 164) (lm164_164 n) (bodyOf Go.Proofs.Try.f164 5) ((L164_164_5 n).sk.fill v) (roundK (ann164 164 5) K (selfK (L164_164_5 n) self)) = (L164_164_5 n).G v self (exitK (L164_164_5 n) K) := by kernel_rfl
theorem eo164 (n : Nat) : EnvOk Go.Proofs.Try.prog (tiOf tab) n 164 sg164 ⟨M164⟩ :=
  have hc : CodeOk Go.Proofs.Try.prog (cf164 n) := (code_cons Go.Proofs.Try.func164 (by kernel_rfl) code_nil)
  have he : EnvsOk Go.Proofs.Try.prog (cf164 n) := (env_cons (eo199 n) env_nil)
  have hl : LmsOk (R := List T) (cf164 n) (drawK (cf164 n)) (lms2 (lsl164 n)) (lsl164 n) := (lms_cons (loops_of (cf := cf164 n) (fn0 := Go.Proofs.Try.f164) rfl (l := [bodyOf Go.Proofs.Try.f164 5]) (by kernel_rfl) (loops_cons (b := bodyOf Go.Proofs.Try.f164 5) (by kernel_rfl) (rfl : lm164_164 n 5 = [L164_164_5 n]) (List.forall_mem_cons.2 ⟨fun K self v => lp164_164_5 n K self v, fun _ h => by cases h⟩) loops_nil)) lms_nil)
  envOk_of (cf := cf164 n) tabOk hc he (draw := drawK (cf164 n)) (fun _ => drawK_ok tabOk mixed hc he) (d := 3) (lms := lms2 (lsl164 n)) hl
    (fun τs rs h => by
      simp only [M164] at h
      split at h
      · exact (ev164 n _ _).trans h
      · cases h)
/-! ### 71: laws.szSend -/
def sg71 : Sig := ⟨[(true, [.int .i64, .int .i64, .slice 2, .slice 230]), (false, [.int .i64])], [.leaf (.int .i64) false]⟩
def F71 (n : Nat) (x0 x1 x2 x3 x4 : T) : Option (List T) :=
  (F163 n x2 x4).bind fun r1 => bif (decide ((r1.headD (.i 0)).I < 0)) then (some [.i (-1)]) else ((F164 n x3 (r1.headD (.i 0))).bind fun r2 => bif (decide ((r2.headD (.i 0)).I < 0)) then (some [.i (-1)]) else (some [(r2.headD (.i 0))]))
def M71 (n : Nat) (τs : List T) : Option (List T) := match τs with
  | [x0, x1, x2, x3, x4] => F71 n x0 x1 x2 x3 x4
  | _ => none
noncomputable def code71 : List (Nat × Func) := [(71, Go.Proofs.Try.f71)]
def env71 : List (Nat × (Sig × Mean)) := [(163, sg163, ⟨M163⟩), (164, sg164, ⟨M164⟩)]
def ann71 (f i : Nat) : Ann := match f, i with
  | _, _ => ⟨[], [], []⟩
def lsl71 (n : Nat) : List ((Nat × Nat) × (Nat → List LoopM)) := []
noncomputable def cf71 (n : Nat) : Cfg := ⟨tiOf tab, lookup code71, lookup env71, ann71, n⟩
theorem ev71 (n : Nat) (x0 x1 x2 x3 x4 : T) : evF (cf71 n) (drawK (cf71 n)) (lms2 (lsl71 n)) 3 71 sg71 [x0, x1, x2, x3, x4] = F71 n x0 x1 x2 x3 x4 := by kernel_rfl
theorem eo71 (n : Nat) : EnvOk Go.Proofs.Try.prog (tiOf tab) n 71 sg71 ⟨M71⟩ :=
  have hc : CodeOk Go.Proofs.Try.prog (cf71 n) := (code_cons Go.Proofs.Try.func71 (by kernel_rfl) code_nil)
  have he : EnvsOk Go.Proofs.Try.prog (cf71 n) := (env_cons (eo163 n) (env_cons (eo164 n) env_nil))
  have hl : LmsOk (R := List T) (cf71 n) (drawK (cf71 n)) (lms2 (lsl71 n)) (lsl71 n) := lms_nil
  envOk_of (cf := cf71 n) tabOk hc he (draw := drawK (cf71 n)) (fun _ => drawK_ok tabOk mixed hc he) (d := 3) (lms := lms2 (lsl71 n)) hl
    (fun τs rs h => by
      simp only [M71] at h
      split at h
      · exact (ev71 n _ _ _ _ _).trans h
      · cases h)
/-! ### 152: spec.l1In -/
def sg152 : Sig := ⟨[(false, [.int .i64]), (false, [.int .i64]), (false, [.int .i64])], [.leaf .bool false]⟩
def F152 (n : Nat) (x0 x1 x2 : T) : Option (List T) :=
  bif (decide (x0.I ≥ x1.I)) then (some [.b (decide (x0.I ≤ x2.I))]) else (some [.b false])
def M152 (n : Nat) (τs : List T) : Option (List T) := match τs with
  | [x0, x1, x2] => F152 n x0 x1 x2
  | _ => none
noncomputable def code152 : List (Nat × Func) := [(152, Go.Proofs.Try.f152)]
def env152 : List (Nat × (Sig × Mean)) := []
def ann152 (f i : Nat) : Ann := match f, i with
  | _, _ => ⟨[], [], []⟩
def lsl152 (n : Nat) : List ((Nat × Nat) × (Nat → List LoopM)) := []
noncomputable def cf152 (n : Nat) : Cfg := ⟨tiOf tab, lookup code152, lookup env152, ann152, n⟩
theorem ev152 (n : Nat) (x0 x1 x2 : T) : evF (cf152 n) (drawK (cf152 n)) (lms2 (lsl152 n)) 3 152 sg152 [x0, x1, x2] = F152 n x0 x1 x2 := by kernel_rfl
theorem eo152 (n : Nat) : EnvOk Go.Proofs.Try.prog (tiOf tab) n 152 sg152 ⟨M152⟩ :=
  have hc : CodeOk Go.Proofs.Try.prog (cf152 n) := (code_cons Go.Proofs.Try.func152 (by kernel_rfl) code_nil)
  have he : EnvsOk Go.Proofs.Try.prog (cf152 n) := env_nil
  have hl : LmsOk (R := List T) (cf152 n) (drawK (cf152 n)) (lms2 (lsl152 n)) (lsl152 n) := lms_nil
  envOk_of (cf := cf152 n) tabOk hc he (draw := drawK (cf152 n)) (fun _ => drawK_ok tabOk mixed hc he) (d := 3) (lms := lms2 (lsl152 n)) hl
    (fun τs rs h => by
      simp only [M152] at h
      split at h
      · exact (ev152 n _ _ _).trans h
      · cases h)
/-! ### 76: spec.l1Word32 -/
def sg76 : Sig := ⟨[(false, [.int .i64])], [.leaf .bool false]⟩
def F76 (n : Nat) (x0 : T) : Option (List T) :=
  (F152 n x0 (.i 0) (.i 4294967295)).bind fun r1 => some [(r1.headD (.i 0))]
def M76 (n : Nat) (τs : List T) : Option (List T) := match τs with
  | [x0] => F76 n x0
  | _ => none
noncomputable def code76 : List (Nat × Func) := [(76, Go.Proofs.Try.f76)]
def env76 : List (Nat × (Sig × Mean)) := [(152, sg152, ⟨M152⟩)]
def ann76 (f i : Nat) : Ann := match f, i with
  | _, _ => ⟨[], [], []⟩
def lsl76 (n : Nat) : List ((Nat × Nat) × (Nat → List LoopM)) := []
noncomputable def cf76 (n : Nat) : Cfg := ⟨tiOf tab, lookup code76, lookup env76, ann76, n⟩
theorem ev76 (n : Nat) (x0 : T) : evF (cf76 n) (drawK (cf76 n)) (lms2 (lsl76 n)) 3 76 sg76 [x0] = F76 n x0 := by kernel_rfl
theorem eo76 (n : Nat) : EnvOk Go.Proofs.Try.prog (tiOf tab) n 76 sg76 ⟨M76⟩ :=
  have hc : CodeOk Go.Proofs.Try.prog (cf76 n) := (code_cons Go.Proofs.Try.func76 (by kernel_rfl) code_nil)
  have he : EnvsOk Go.Proofs.Try.prog (cf76 n) := (env_cons (eo152 n) env_nil)
  have hl : LmsOk (R := List T) (cf76 n) (drawK (cf76 n)) (lms2 (lsl76 n)) (lsl76 n) := lms_nil
  envOk_of (cf := cf76 n) tabOk hc he (draw := drawK (cf76 n)) (fun _ => drawK_ok tabOk mixed hc he) (d := 3) (lms := lms2 (lsl76 n)) hl
    (fun τs rs h => by
      simp only [M76] at h
      split at h
      · exact (ev76 n _).trans h
      · cases h)
/-! ### 165: spec.l1Gap -/
def sg165 : Sig := ⟨[(false, [.int .i64]), (false, [.int .i64])], [.leaf (.int .i64) false]⟩
def F165 (n : Nat) (x0 x1 : T) : Option (List T) :=
  some [.i ((IntKind.wrap .i64 ((IntKind.wrap .i64 (x1.I - x0.I)) + 4294967296)).tmod 4294967296)]
def M165 (n : Nat) (τs : List T) : Option (List T) := match τs with
  | [x0, x1] => F165 n x0 x1
  | _ => none
noncomputable def code165 : List (Nat × Func) := [(165, Go.Proofs.Try.f165)]
def env165 : List (Nat × (Sig × Mean)) := []
def ann165 (f i : Nat) : Ann := match f, i with
  | _, _ => ⟨[], [], []⟩
def lsl165 (n : Nat) : List ((Nat × Nat) × (Nat → List LoopM)) := []
noncomputable def cf165 (n : Nat) : Cfg := ⟨tiOf tab, lookup code165, lookup env165, ann165, n⟩
theorem ev165 (n : Nat) (x0 x1 : T) : evF (cf165 n) (drawK (cf165 n)) (lms2 (lsl165 n)) 3 165 sg165 [x0, x1] = F165 n x0 x1 := by kernel_rfl
theorem eo165 (n : Nat) : EnvOk Go.Proofs.Try.prog (tiOf tab) n 165 sg165 ⟨M165⟩ :=
  have hc : CodeOk Go.Proofs.Try.prog (cf165 n) := (code_cons Go.Proofs.Try.func165 (by kernel_rfl) code_nil)
  have he : EnvsOk Go.Proofs.Try.prog (cf165 n) := env_nil
  have hl : LmsOk (R := List T) (cf165 n) (drawK (cf165 n)) (lms2 (lsl165 n)) (lsl165 n) := lms_nil
  envOk_of (cf := cf165 n) tabOk hc he (draw := drawK (cf165 n)) (fun _ => drawK_ok tabOk mixed hc he) (d := 3) (lms := lms2 (lsl165 n)) hl
    (fun τs rs h => by
      simp only [M165] at h
      split at h
      · exact (ev165 n _ _).trans h
      · cases h)
/-! ### 72: spec.SendFault -/
def sg72 : Sig := ⟨[(true, [.int .i64, .int .i64, .slice 2, .slice 203])], [.leaf (.int .i64) false]⟩
def G72_72_23 {R : Type} (n : Nat) (v : List T) (self : List T → Option R) (ex : List (List T → Option R)) : Option R :=
  bif (decide ((v.getD 0 (.i 0)).I < ((((v.getD 3 (.i 0)).L).length : Nat) : Int))) then (if 0 ≤ (v.getD 0 (.i 0)).I ∧ (v.getD 0 (.i 0)).I < (((v.getD 3 (.i 0)).L).length : Int) then ((F152 n (at_ ((v.getD 3 (.i 0)).L) ((v.getD 0 (.i 0)).I)) (.i 0) (.i 65535)).bind fun r16 => bif (!(r16.headD (.i 0)).B) then (exn ex 0 [.i 3]) else (self [.i (IntKind.wrap .i64 ((v.getD 0 (.i 0)).I + 1)), .i ((v.getD 1 (.i 0)).I), .i ((v.getD 2 (.i 0)).I), .l ((v.getD 3 (.i 0)).L), .l ((v.getD 4 (.i 0)).L)])) else none) else (exn ex 1 [])
def L72_72_23 (n : Nat) : LoopM := ⟨⟨[[.un, .pb 0 0, .un, .un, .un, .un, .un, .un, .un, .t (.int .i64) (.i 0), .un, .un, .un, .un, .un, .un, .un, .un, .un, .un, .un, .un, .un, .un, .un, .un, .un, .un, .un, .un, .un, .un, .un, .un, .un, .un, .un, .un, .un, .un, .un, .un, .un, .un, .un, .un, .un, .un, .un, .un, .un, .un, .un, .un, .un, .un, .un, .un, .un, .un, .un, .un, .un, .un, .un, .un, .un, .un, .un, .un, .un, .un, .un, .un, .un, .un, .un, .un, .un, .un, .un, .un, .un, .un, .un, .un, .un, .un, .un, .un, .un, .un, .un, .un]], [.box [.t (.int .i64) (.i 0), .t (.int .i64) (.i 0), .t (.slice 2) (.i 0), .t (.slice 203) (.i 0)]]⟩, [(.ret, ⟨[[.un, .un, .t (.int .i64) (.i 0), .un, .un, .un, .un, .un, .un, .un, .un, .un, .un, .un, .un, .un, .un, .un, .un, .un, .un, .un, .un, .un, .un, .un, .un, .un, .un, .un, .un, .un, .un, .un, .un, .un, .un, .un, .un, .un, .un, .un, .un, .un, .un, .un, .un, .un, .un, .un, .un, .un, .un, .un, .un, .un, .un, .un, .un, .un, .un, .un, .un, .un, .un, .un, .un, .un, .un, .un, .un, .un, .un, .un, .un, .un, .un, .un, .un, .un, .un, .un, .un, .un, .un, .un, .un, .un, .un, .un, .un, .un, .un, .un]], []⟩), (.exit 2, ⟨[[.un, .un, .un, .un, .un, .un, .un, .un, .un, .un, .un, .un, .un, .un, .un, .un, .un, .un, .un, .un, .un, .un, .un, .un, .un, .un, .un, .un, .un, .un, .un, .un, .un, .un, .un, .un, .un, .un, .un, .un, .un, .un, .un, .un, .un, .un, .un, .un, .un, .un, .un, .un, .un, .un, .un, .un, .un, .un, .un, .un, .un, .un, .un, .un, .un, .un, .un, .un, .un, .un, .un, .un, .un, .un, .un, .un, .un, .un, .un, .un, .un, .un, .un, .un, .un, .un, .un, .un, .un, .un, .un, .un, .un, .un]], []⟩)], fun v self ex => G72_72_23 n v self ex⟩
def G72_72_10 {R : Type} (n : Nat) (v : List T) (self : List T → Option R) (ex : List (List T → Option R)) : Option R :=
  bif (decide ((v.getD 2 (.i 0)).I < ((((v.getD 6 (.i 0)).L).length : Nat) : Int))) then (if 0 ≤ (v.getD 2 (.i 0)).I ∧ (v.getD 2 (.i 0)).I < (((v.getD 6 (.i 0)).L).length : Int) then ((F76 n ((at_ ((v.getD 6 (.i 0)).L) ((v.getD 2 (.i 0)).I)).F 0)).bind fun r5 => bif (!(r5.headD (.i 0)).B) then (exn ex 0 [.i 3, .i ((v.getD 3 (.i 0)).I), .i ((v.getD 4 (.i 0)).I), .l ((v.getD 5 (.i 0)).L), .l ((v.getD 6 (.i 0)).L)]) else ((F152 n ((at_ ((v.getD 6 (.i 0)).L) ((v.getD 2 (.i 0)).I)).F 1) (.i 0) (.i 9)).bind fun r6 => bif (!(r6.headD (.i 0)).B) then (exn ex 0 [.i 3, .i ((v.getD 3 (.i 0)).I), .i ((v.getD 4 (.i 0)).I), .l ((v.getD 5 (.i 0)).L), .l ((v.getD 6 (.i 0)).L)]) else ((F152 n ((at_ ((v.getD 6 (.i 0)).L) ((v.getD 2 (.i 0)).I)).F 2) (.i 0) (.i 65535)).bind fun r7 => bif (!(r7.headD (.i 0)).B) then (exn ex 0 [.i 3, .i ((v.getD 3 (.i 0)).I), .i ((v.getD 4 (.i 0)).I), .l ((v.getD 5 (.i 0)).L), .l ((v.getD 6 (.i 0)).L)]) else (bif (decide ((((((at_ ((v.getD 6 (.i 0)).L) ((v.getD 2 (.i 0)).I)).F 6).L).length : Nat) : Int) < 1)) then (exn ex 0 [.i 2, .i ((v.getD 3 (.i 0)).I), .i ((v.getD 4 (.i 0)).I), .l ((v.getD 5 (.i 0)).L), .l ((v.getD 6 (.i 0)).L)]) else (bif (decide ((((((at_ ((v.getD 6 (.i 0)).L) ((v.getD 2 (.i 0)).I)).F 6).L).length : Nat) : Int) > 100)) then (exn ex 0 [.i 2, .i ((v.getD 3 (.i 0)).I), .i ((v.getD 4 (.i 0)).I), .l ((v.getD 5 (.i 0)).L), .l ((v.getD 6 (.i 0)).L)]) else (bif ((at_ ((v.getD 6 (.i 0)).L) ((v.getD 2 (.i 0)).I)).F 5).B then (bif (((at_ ((v.getD 6 (.i 0)).L) ((v.getD 2 (.i 0)).I)).F 2).I != 0) then (exn ex 0 [.i 1, .i ((v.getD 3 (.i 0)).I), .i ((v.getD 4 (.i 0)).I), .l ((v.getD 5 (.i 0)).L), .l ((v.getD 6 (.i 0)).L)]) else ((F152 n ((at_ ((v.getD 6 (.i 0)).L) ((v.getD 2 (.i 0)).I)).F 7) (.i 0) (.i 99)).bind fun r8 => bif (!(r8.headD (.i 0)).B) then (exn ex 0 [.i 3, .i ((v.getD 3 (.i 0)).I), .i ((v.getD 4 (.i 0)).I), .l ((v.getD 5 (.i 0)).L), .l ((v.getD 6 (.i 0)).L)]) else ((F152 n ((at_ ((v.getD 6 (.i 0)).L) ((v.getD 2 (.i 0)).I)).F 8) (.i 0) (.i 1000000000)).bind fun r9 => bif (!(r9.headD (.i 0)).B) then (exn ex 0 [.i 3, .i ((v.getD 3 (.i 0)).I), .i ((v.getD 4 (.i 0)).I), .l ((v.getD 5 (.i 0)).L), .l ((v.getD 6 (.i 0)).L)]) else ((F165 n (.i ((v.getD 4 (.i 0)).I)) ((at_ ((v.getD 6 (.i 0)).L) ((v.getD 2 (.i 0)).I)).F 0)).bind fun r10 => bif (decide ((r10.headD (.i 0)).I ≤ (v.getD 1 (.i 0)).I)) then (exn ex 0 [.i 1, .i ((v.getD 3 (.i 0)).I), .i ((v.getD 4 (.i 0)).I), .l ((v.getD 5 (.i 0)).L), .l ((v.getD 6 (.i 0)).L)]) else (bif (decide ((r10.headD (.i 0)).I ≥ (v.getD 0 (.i 0)).I)) then (exn ex 0 [.i 1, .i ((v.getD 3 (.i 0)).I), .i ((v.getD 4 (.i 0)).I), .l ((v.getD 5 (.i 0)).L), .l ((v.getD 6 (.i 0)).L)]) else (self [.i ((v.getD 0 (.i 0)).I), .i ((r10.headD (.i 0)).I), .i (IntKind.wrap .i64 ((v.getD 2 (.i 0)).I + 1)), .i ((v.getD 3 (.i 0)).I), .i ((v.getD 4 (.i 0)).I), .l ((v.getD 5 (.i 0)).L), .l ((v.getD 6 (.i 0)).L)])))))) else ((F152 n ((at_ ((v.getD 6 (.i 0)).L) ((v.getD 2 (.i 0)).I)).F 7) (.i 0) (.i 99)).bind fun r11 => bif (!(r11.headD (.i 0)).B) then (exn ex 0 [.i 3, .i ((v.getD 3 (.i 0)).I), .i ((v.getD 4 (.i 0)).I), .l ((v.getD 5 (.i 0)).L), .l ((v.getD 6 (.i 0)).L)]) else ((F152 n ((at_ ((v.getD 6 (.i 0)).L) ((v.getD 2 (.i 0)).I)).F 8) (.i 0) (.i 1000000000)).bind fun r12 => bif (!(r12.headD (.i 0)).B) then (exn ex 0 [.i 3, .i ((v.getD 3 (.i 0)).I), .i ((v.getD 4 (.i 0)).I), .l ((v.getD 5 (.i 0)).L), .l ((v.getD 6 (.i 0)).L)]) else ((F165 n (.i ((v.getD 4 (.i 0)).I)) ((at_ ((v.getD 6 (.i 0)).L) ((v.getD 2 (.i 0)).I)).F 0)).bind fun r13 => bif (decide ((r13.headD (.i 0)).I ≤ (v.getD 1 (.i 0)).I)) then (exn ex 0 [.i 1, .i ((v.getD 3 (.i 0)).I), .i ((v.getD 4 (.i 0)).I), .l ((v.getD 5 (.i 0)).L), .l ((v.getD 6 (.i 0)).L)]) else (bif (decide ((r13.headD (.i 0)).I ≥ (v.getD 0 (.i 0)).I)) then (exn ex 0 [.i 1, .i ((v.getD 3 (.i 0)).I), .i ((v.getD 4 (.i 0)).I), .l ((v.getD 5 (.i 0)).L), .l ((v.getD 6 (.i 0)).L)]) else (self [.i ((v.getD 0 (.i 0)).I), .i ((r13.headD (.i 0)).I), .i (IntKind.wrap .i64 ((v.getD 2 (.i 0)).I + 1)), .i ((v.getD 3 (.i 0)).I), .i ((v.getD 4 (.i 0)).I), .l ((v.getD 5 (.i 0)).L), .l ((v.getD 6 (.i 0)).L)]))))))))))) else none) else (exn ex 1 [.i ((v.getD 3 (.i 0)).I), .i ((v.getD 4 (.i 0)).I), .l ((v.getD 5 (.i 0)).L), .l ((v.getD 6 (.i 0)).L)])
def L72_72_10 (n : Nat) : LoopM := ⟨⟨[[.un, .pb 0 0, .un, .t (.int .i64) (.i 0), .t (.int .i64) (.i 0), .t (.int .i64) (.i 0), .un, .un, .un, .un, .un, .un, .un, .un, .un, .un, .un, .un, .un, .un, .un, .un, .un, .un, .un, .un, .un, .un, .un, .un, .un, .un, .un, .un, .un, .un, .un, .un, .un, .un, .un, .un, .un, .un, .un, .un, .un, .un, .un, .un, .un, .un, .un, .un, .un, .un, .un, .un, .un, .un, .un, .un, .un, .un, .un, .un, .un, .un, .un, .un, .un, .un, .un, .un, .un, .un, .un, .un, .un, .un, .un, .un, .un, .un, .un, .un, .un, .un, .un, .un, .un, .un, .un, .un]], [.box [.t (.int .i64) (.i 0), .t (.int .i64) (.i 0), .t (.slice 2) (.i 0), .t (.slice 203) (.i 0)]]⟩, [(.ret, ⟨[[.un, .pb 0 0, .t (.int .i64) (.i 0), .un, .un, .un, .un, .un, .un, .un, .un, .un, .un, .un, .un, .un, .un, .un, .un, .un, .un, .un, .un, .un, .un, .un, .un, .un, .un, .un, .un, .un, .un, .un, .un, .un, .un, .un, .un, .un, .un, .un, .un, .un, .un, .un, .un, .un, .un, .un, .un, .un, .un, .un, .un, .un, .un, .un, .un, .un, .un, .un, .un, .un, .un, .un, .un, .un, .un, .un, .un, .un, .un, .un, .un, .un, .un, .un, .un, .un, .un, .un, .un, .un, .un, .un, .un, .un, .un, .un, .un, .un, .un, .un]], [.box [.t (.int .i64) (.i 0), .t (.int .i64) (.i 0), .t (.slice 2) (.i 0), .t (.slice 203) (.i 0)]]⟩), (.exit 0, ⟨[[.un, .pb 0 0, .un, .un, .un, .un, .un, .un, .un, .un, .un, .un, .un, .un, .un, .un, .un, .un, .un, .un, .un, .un, .un, .un, .un, .un, .un, .un, .un, .un, .un, .un, .un, .un, .un, .un, .un, .un, .un, .un, .un, .un, .un, .un, .un, .un, .un, .un, .un, .un, .un, .un, .un, .un, .un, .un, .un, .un, .un, .un, .un, .un, .un, .un, .un, .un, .un, .un, .un, .un, .un, .un, .un, .un, .un, .un, .un, .un, .un, .un, .un, .un, .un, .un, .un, .un, .un, .un, .un, .un, .un, .un, .un, .un]], [.box [.t (.int .i64) (.i 0), .t (.int .i64) (.i 0), .t (.slice 2) (.i 0), .t (.slice 203) (.i 0)]]⟩)], fun v self ex => G72_72_10 n v self ex⟩
def F72 (n : Nat) (x0 x1 x2 x3 : T) : Option (List T) :=
  (F76 n x0).bind fun r1 => bif (!(r1.headD (.i 0)).B) then (some [.i 3]) else ((F76 n x1).bind fun r2 => bif (!(r2.headD (.i 0)).B) then (some [.i 3]) else (bif (decide ((x3.L.length : Int) > 40)) then (some [.i 2]) else (bif ((x2.L.length : Int) != 10) then (some [.i 2]) else ((F165 n x1 x0).bind fun r3 => (F152 n (r3.headD (.i 0)) (.i 1) (.i 1000)).bind fun r4 => bif (!(r4.headD (.i 0)).B) then (some [.i 1]) else (loopR (L72_72_10 n).G n [.i ((r3.headD (.i 0)).I), .i 0, .i 0, .i x0.I, .i x1.I, .l x2.L, .l x3.L] [fun u14 => some [.i ((u14.getD 0 (.i 0)).I)], fun u15 => loopR (L72_72_23 n).G n [.i 0, .i ((u15.getD 0 (.i 0)).I), .i ((u15.getD 1 (.i 0)).I), .l ((u15.getD 2 (.i 0)).L), .l ((u15.getD 3 (.i 0)).L)] [fun u17 => some [.i ((u17.getD 0 (.i 0)).I)], fun u18 => some [.i 0]]])))))
def M72 (n : Nat) (τs : List T) : Option (List T) := match τs with
  | [x0, x1, x2, x3] => F72 n x0 x1 x2 x3
  | _ => none
noncomputable def code72 : List (Nat × Func) := [(72, Go.Proofs.Try.f72), (126, Go.Proofs.Try.f126)]
def env72 : List (Nat × (Sig × Mean)) := [(76, sg76, ⟨M76⟩), (152, sg152, ⟨M152⟩), (165, sg165, ⟨M165⟩)]
def ann72 (f i : Nat) : Ann := match f, i with
  | 72, 10 => ⟨[(1, .any), (3, .any), (4, .any), (5, .any)], [], [(1, .any), (2, .any)]⟩
  | 72, 23 => ⟨[(1, .any), (9, .any)], [], [(2, .any)]⟩
  | _, _ => ⟨[], [], []⟩
def lm72_72 (n : Nat) (i : Nat) : List LoopM := match i with
  | 10 => [L72_72_10 n]
  | 23 => [L72_72_23 n]
  | _ => []
def lsl72 (n : Nat) : List ((Nat × Nat) × (Nat → List LoopM)) := [((3, 72), lm72_72 n)]
noncomputable def cf72 (n : Nat) : Cfg := ⟨tiOf tab, lookup code72, lookup env72, ann72, n⟩
theorem ev72 (n : Nat) (x0 x1 x2 x3 : T) : evF (cf72 n) (drawK (cf72 n)) (lms2 (lsl72 n)) 3 72 sg72 [x0, x1, x2, x3] = F72 n x0 x1 x2 x3 := by kernel_rfl
theorem lp72_72_23 (n : Nat) (K : Ex → St → Option (List T)) (self : List T → Option (List T)) (v : List T) : evC (cf72 n) (callK (cf72 n) (drawK (cf72 n)) (lms2 (lsl72 n)) 3) (drawK (cf72 n) (callK (cf72 n) (drawK (cf72 n)) (lms2 (lsl72 n)) 3)) (ann72 72) (lm72_72 n) (bodyOf Go.Proofs.Try.f72 23) ((L72_72_23 n).sk.fill v) (roundK (ann72 72 23) K (selfK (L72_72_23 n) self)) = (L72_72_23 n).G v self (exitK (L72_72_23 n) K) := by kernel_rfl
theorem lp72_72_10 (n : Nat) (K : Ex → St → Option (List T)) (self : List T → Option (List T)) (v : List T) : evC (cf72 n) (callK (cf72 n) (drawK (cf72 n)) (lms2 (lsl72 n)) 3) (drawK (cf72 n) (callK (cf72 n) (drawK (cf72 n)) (lms2 (lsl72 n)) 3)) (ann72 72) (lm72_72 n) (bodyOf Go.Proofs.Try.f72 10) ((L72_72_10 n).sk.fill v) (roundK (ann72 72 10) K (selfK (L72_72_10 n) self)) = (L72_72_10 n).G v self (exitK (L72_72_10 n) K) := by kernel_rfl
theorem eo72 (n : Nat) : EnvOk Go.Proofs.Try.prog (tiOf tab) n 72 sg72 ⟨M72⟩ :=
  have hc : CodeOk Go.Proofs.Try.prog (cf72 n) := (code_cons Go.Proofs.Try.func72 (by kernel_rfl) (code_cons Go.Proofs.Try.func126 (by kernel_rfl) code_nil))
  have he : EnvsOk Go.Proofs.Try.prog (cf72 n) := (env_cons (eo76 n) (env_cons (eo152 n) (env_cons (eo165 n) env_nil)))
  have hl : LmsOk (R := List T) (cf72 n) (drawK (cf72 n)) (lms2 (lsl72 n)) (lsl72 n) := (lms_cons (loops_of (cf := cf72 n) (fn0 := Go.Proofs.Try.f72) rfl (l := [bodyOf Go.Proofs.Try.f72 10, bodyOf Go.Proofs.Try.f72 23]) (by kernel_rfl) (loops_cons (b := bodyOf Go.Proofs.Try.f72 10) (by kernel_rfl) (rfl : lm72_72 n 10 = [L72_72_10 n]) (List.forall_mem_cons.2 ⟨fun K self v => lp72_72_10 n K self v, fun _ h => by cases h⟩) (loops_cons (b := bodyOf Go.Proofs.Try.f72 23) (by kernel_rfl) (rfl : lm72_72 n 23 = [L72_72_23 n]) (List.forall_mem_cons.2 ⟨fun K self v => lp72_72_23 n K self v, fun _ h => by cases h⟩) loops_nil))) lms_nil)
  envOk_of (cf := cf72 n) tabOk hc he (draw := drawK (cf72 n)) (fun _ => drawK_ok tabOk mixed hc he) (d := 3) (lms := lms2 (lsl72 n)) hl
    (fun τs rs h => by
      simp only [M72] at h
      split at h
      · exact (ev72 n _ _ _ _).trans h
      · cases h)
/-! ### 166: laws.toInt64S -/
def sg166 : Sig := ⟨[(false, [.slice 2])], [.leaf (.slice 2) false]⟩
def G166_166_3 {R : Type} (n : Nat) (v : List T) (self : List T → Option R) (ex : List (List T → Option R)) : Option R :=
  bif (decide ((v.getD 1 (.i 0)).I < ((((v.getD 0 (.i 0)).L).length : Nat) : Int))) then (if 0 ≤ (v.getD 1 (.i 0)).I ∧ (v.getD 1 (.i 0)).I < (((v.getD 0 (.i 0)).L).length : Int) then (if 0 ≤ (v.getD 1 (.i 0)).I ∧ (v.getD 1 (.i 0)).I < (((v.getD 2 (.i 0)).L).length : Int) then (if 2 = 2 ∧ ((v.getD 1 (.i 0)).I).toNat < ((v.getD 2 (.i 0)).L).length then (self [.l ((v.getD 0 (.i 0)).L), .i (IntKind.wrap .i64 ((v.getD 1 (.i 0)).I + 1)), .l (((v.getD 2 (.i 0)).L).set (((v.getD 1 (.i 0)).I).toNat) ((at_ ((v.getD 0 (.i 0)).L) ((v.getD 1 (.i 0)).I))))]) else none) else none) else none) else (exn ex 0 [.l ((v.getD 2 (.i 0)).L)])
def L166_166_3 (n : Nat) : LoopM := ⟨⟨[[.t (.slice 2) (.i 0), .un, .un, .own 2 0, .t (.int .i64) (.i 0), .un, .un, .un, .un, .un, .un, .un, .un, .un, .un, .un, .un, .un, .un, .un, .un, .un]], [.arr 2 []]⟩, [(.exit 0, ⟨[[.un, .un, .un, .own 2 0, .un, .un, .un, .un, .un, .un, .un, .un, .un, .un, .un, .un, .un, .un, .un, .un, .un, .un]], [.arr 2 []]⟩)], fun v self ex => G166_166_3 n v self ex⟩
def F166 (n : Nat) (x0 : T) : Option (List T) :=
  if 0 ≤ (x0.L.length : Int) ∧ (x0.L.length : Int) * 8 ≤ limB ∧ (x0.L.length : Int) < maxN then (loopR (L166_166_3 n).G n [.l x0.L, .i 0, .l (List.replicate ((x0.L.length : Int)).toNat (T.i 0))] [fun u1 => some [.l ((u1.getD 0 (.i 0)).L)]]) else none
def M166 (n : Nat) (τs : List T) : Option (List T) := match τs with
  | [x0] => F166 n x0
  | _ => none
noncomputable def code166 : List (Nat × Func) := [(166, Go.Proofs.Try.f166)]
def env166 : List (Nat × (Sig × Mean)) := []
def ann166 (f i : Nat) : Ann := match f, i with
  | 166, 3 => ⟨[(0, .any), (3, .any), (4, .any)], [], [(3, .any)]⟩
  | _, _ => ⟨[], [], []⟩
def lm166_166 (n : Nat) (i : Nat) : List LoopM := match i with
  | 3 => [L166_166_3 n]
  | _ => []
def lsl166 (n : Nat) : List ((Nat × Nat) × (Nat → List LoopM)) := [((3, 166), lm166_166 n)]
noncomputable def cf166 (n : Nat) : Cfg := ⟨tiOf tab, lookup code166, lookup env166, ann166, n⟩
theorem ev166 (n : Nat) (x0 : T) : evF (cf166 n) (drawK (cf166 n)) (lms2 (lsl166 n)) 3 166 sg166 [x0] = F166 n x0 := by kernel_rfl
theorem lp166_166_3 (n : Nat) (K : Ex → St → Option (List T)) (self : List T → Option (List T)) (v : List T) : evC (cf166 n) (callK (cf166 n) (drawK (cf166 n)) (lms2 (lsl166 n)) 3) (drawK (cf166 n) (callK (cf166 n) (drawK (cf166 n)) (lms2 (lsl166 n)) 3)) (ann166 166) (lm166_166 n) (bodyOf Go.Proofs.Try.f166 3) ((L166_166_3 n).sk.fill v) (roundK (ann166 166 3) K (selfK (L166_166_3 n) self)) = (L166_166_3 n).G v self (exitK (L166_166_3 n) K) := by kernel_rfl
theorem eo166 (n : Nat) : EnvOk Go.Proofs.Try.prog (tiOf tab) n 166 sg166 ⟨M166⟩ :=
  have hc : CodeOk Go.Proofs.Try.prog (cf166 n) := (code_cons Go.Proofs.Try.func166 (by kernel_rfl) code_nil)
  have he : EnvsOk Go.Proofs.Try.prog (cf166 n) := env_nil
  have hl : LmsOk (R := List T) (cf166 n) (drawK (cf166 n)) (lms2 (lsl166 n)) (lsl166 n) := (lms_cons (loops_of (cf := cf166 n) (fn0 := Go.Proofs.Try.f166) rfl (l := [bodyOf Go.Proofs.Try.f166 3]) (by kernel_rfl) (loops_cons (b := bodyOf Go.Proofs.Try.f166 3) (by kernel_rfl) (rfl : lm166_166 n 3 = [L166_166_3 n]) (List.forall_mem_cons.2 ⟨fun K self v => lp166_166_3 n K self v, fun _ h => by cases h⟩) loops_nil)) lms_nil)
  envOk_of (cf := cf166 n) tabOk hc he (draw := drawK (cf166 n)) (fun _ => drawK_ok tabOk mixed hc he) (d := 3) (lms := lms2 (lsl166 n)) hl
    (fun τs rs h => by
      simp only [M166] at h
      split at h
      · exact (ev166 n _).trans h
      · cases h)
/-! ### 191: laws.toByteS -/
def sg191 : Sig := ⟨[(false, [.slice 5])], [.leaf (.slice 5) false]⟩
def G191_191_3 {R : Type} (n : Nat) (v : List T) (self : List T → Option R) (ex : List (List T → Option R)) : Option R :=
  bif (decide ((v.getD 1 (.i 0)).I < ((((v.getD 0 (.i 0)).L).length : Nat) : Int))) then (if 0 ≤ (v.getD 1 (.i 0)).I ∧ (v.getD 1 (.i 0)).I < (((v.getD 0 (.i 0)).L).length : Int) then (if 0 ≤ (v.getD 1 (.i 0)).I ∧ (v.getD 1 (.i 0)).I < (((v.getD 2 (.i 0)).L).length : Int) then (if 5 = 5 ∧ ((v.getD 1 (.i 0)).I).toNat < ((v.getD 2 (.i 0)).L).length then (self [.l ((v.getD 0 (.i 0)).L), .i (IntKind.wrap .i64 ((v.getD 1 (.i 0)).I + 1)), .l (((v.getD 2 (.i 0)).L).set (((v.getD 1 (.i 0)).I).toNat) ((at_ ((v.getD 0 (.i 0)).L) ((v.getD 1 (.i 0)).I))))]) else none) else none) else none) else (exn ex 0 [.l ((v.getD 2 (.i 0)).L)])
def L191_191_3 (n : Nat) : LoopM := ⟨⟨[[.t (.slice 5) (.i 0), .un, .un, .own 5 0, .t (.int .i64) (.i 0), .un, .un, .un, .un, .un, .un, .un, .un, .un, .un, .un, .un, .un, .un, .un, .un, .un]], [.arr 5 []]⟩, [(.exit 0, ⟨[[.un, .un, .un, .own 5 0, .un, .un, .un, .un, .un, .un, .un, .un, .un, .un, .un, .un, .un, .un, .un, .un, .un, .un]], [.arr 5 []]⟩)], fun v self ex => G191_191_3 n v self ex⟩
def F191 (n : Nat) (x0 : T) : Option (List T) :=
  if 0 ≤ (x0.L.length : Int) ∧ (x0.L.length : Int) * 1 ≤ limB ∧ (x0.L.length : Int) < maxN then (loopR (L191_191_3 n).G n [.l x0.L, .i 0, .l (List.replicate ((x0.L.length : Int)).toNat (T.i 0))] [fun u1 => some [.l ((u1.getD 0 (.i 0)).L)]]) else none
def M191 (n : Nat) (τs : List T) : Option (List T) := match τs with
  | [x0] => F191 n x0
  | _ => none
noncomputable def code191 : List (Nat × Func) := [(191, Go.Proofs.Try.f191)]
def env191 : List (Nat × (Sig × Mean)) := []
def ann191 (f i : Nat) : Ann := match f, i with
  | 191, 3 => ⟨[(0, .any), (3, .any), (4, .any)], [], [(3, .any)]⟩
  | _, _ => ⟨[], [], []⟩
def lm191_191 (n : Nat) (i : Nat) : List LoopM := match i with
  | 3 => [L191_191_3 n]
  | _ => []
def lsl191 (n : Nat) : List ((Nat × Nat) × (Nat → List LoopM)) := [((3, 191), lm191_191 n)]
noncomputable def cf191 (n : Nat) : Cfg := ⟨tiOf tab, lookup code191, lookup env191, ann191, n⟩
theorem ev191 (n : Nat) (x0 : T) : evF (cf191 n) (drawK (cf191 n)) (lms2 (lsl191 n)) 3 191 sg191 [x0] = F191 n x0 := by kernel_rfl
theorem lp191_191_3 (n : Nat) (K : Ex → St → Option (List T)) (self : List T → Option (List T)) (v : List T) : evC (cf191 n) (callK (cf191 n) (drawK (cf191 n)) (lms2 (lsl191 n)) 3) (drawK (cf191 n) (callK (cf191 n) (drawK (cf191 n)) (lms2 (lsl191 n)) 3)) (ann191 191) (lm191_191 n) (bodyOf Go.Proofs.Try.f191 3) ((L191_191_3 n).sk.fill v) (roundK (ann191 191 3) K (selfK (L191_191_3 n) self)) = (L191_191_3 n).G v self (exitK (L191_191_3 n) K) := by kernel_rfl
theorem eo191 (n : Nat) : EnvOk Go.Proofs.Try.prog (tiOf tab) n 191 sg191 ⟨M191⟩ :=
  have hc : CodeOk Go.Proofs.Try.prog (cf191 n) := (code_cons Go.Proofs.Try.func191 (by kernel_rfl) code_nil)
  have he : EnvsOk Go.Proofs.Try.prog (cf191 n) := env_nil
  have hl : LmsOk (R := List T) (cf191 n) (drawK (cf191 n)) (lms2 (lsl191 n)) (lsl191 n) := (lms_cons (loops_of (cf := cf191 n) (fn0 := Go.Proofs.Try.f191) rfl (l := [bodyOf Go.Proofs.Try.f191 3]) (by kernel_rfl) (loops_cons (b := bodyOf Go.Proofs.Try.f191 3) (by kernel_rfl) (rfl : lm191_191 n 3 = [L191_191_3 n]) (List.forall_mem_cons.2 ⟨fun K self v => lp191_191_3 n K self v, fun _ h => by cases h⟩) loops_nil)) lms_nil)
  envOk_of (cf := cf191 n) tabOk hc he (draw := drawK (cf191 n)) (fun _ => drawK_ok tabOk mixed hc he) (d := 3) (lms := lms2 (lsl191 n)) hl
    (fun τs rs h => by
      simp only [M191] at h
      split at h
      · exact (ev191 n _).trans h
      · cases h)
/-! ### 129: laws.toData -/
def sg129 : Sig := ⟨[(true, [.int .i64, .int .i64, .int .i64, .bool, .bool, .bool, .slice 5])], [.agg [(.int .i64, false), (.int .i64, false), (.int .i64, false), (.bool, false), (.bool, false), (.bool, false), (.slice 5, false)]]⟩
def F129 (n : Nat) (x0 x1 x2 x3 x4 x5 x6 : T) : Option (List T) :=
  (F191 n x6).bind fun r1 => some [x0, x1, x2, x3, x4, x5, (r1.headD (.i 0))]
def M129 (n : Nat) (τs : List T) : Option (List T) := match τs with
  | [x0, x1, x2, x3, x4, x5, x6] => F129 n x0 x1 x2 x3 x4 x5 x6
  | _ => none
noncomputable def code129 : List (Nat × Func) := [(129, Go.Proofs.Try.f129)]
def env129 : List (Nat × (Sig × Mean)) := [(191, sg191, ⟨M191⟩)]
def ann129 (f i : Nat) : Ann := match f, i with
  | _, _ => ⟨[], [], []⟩
def lsl129 (n : Nat) : List ((Nat × Nat) × (Nat → List LoopM)) := []
noncomputable def cf129 (n : Nat) : Cfg := ⟨tiOf tab, lookup code129, lookup env129, ann129, n⟩
theorem ev129 (n : Nat) (x0 x1 x2 x3 x4 x5 x6 : T) : evF (cf129 n) (drawK (cf129 n)) (lms2 (lsl129 n)) 3 129 sg129 [x0, x1, x2, x3, x4, x5, x6] = F129 n x0 x1 x2 x3 x4 x5 x6 := by kernel_rfl
theorem eo129 (n : Nat) : EnvOk Go.Proofs.Try.prog (tiOf tab) n 129 sg129 ⟨M129⟩ :=
  have hc : CodeOk Go.Proofs.Try.prog (cf129 n) := (code_cons Go.Proofs.Try.func129 (by kernel_rfl) code_nil)
  have he : EnvsOk Go.Proofs.Try.prog (cf129 n) := (env_cons (eo191 n) env_nil)
  have hl : LmsOk (R := List T) (cf129 n) (drawK (cf129 n)) (lms2 (lsl129 n)) (lsl129 n) := lms_nil
  envOk_of (cf := cf129 n) tabOk hc he (draw := drawK (cf129 n)) (fun _ => drawK_ok tabOk mixed hc he) (d := 3) (lms := lms2 (lsl129 n)) hl
    (fun τs rs h => by
      simp only [M129] at h
      split at h
      · exact (ev129 n _ _ _ _ _ _ _).trans h
      · cases h)
/-! ### 200: laws.toSendItem -/
def sg200 : Sig := ⟨[(true, [.int .i64, .int .i64, .int .i64, .bool, .bool, .bool, .slice 5, .int .i64, .int .i64])], [.agg [(.int .i64, false), (.int .i64, false), (.int .i64, false), (.bool, false), (.bool, false), (.bool, false), (.slice 5, false), (.int .i64, false), (.int .i64, false)]]⟩
def F200 (n : Nat) (x0 x1 x2 x3 x4 x5 x6 x7 x8 : T) : Option (List T) :=
  (F129 n x0 x1 x2 x3 x4 x5 x6).bind fun r1 => some [(r1.headD (.i 0)), (r1.tail.headD (.i 0)), (r1.tail.tail.headD (.i 0)), (r1.tail.tail.tail.headD (.i 0)), (r1.tail.tail.tail.tail.headD (.i 0)), (r1.tail.tail.tail.tail.tail.headD (.i 0)), (r1.tail.tail.tail.tail.tail.tail.headD (.i 0)), x7, x8]
def M200 (n : Nat) (τs : List T) : Option (List T) := match τs with
  | [x0, x1, x2, x3, x4, x5, x6, x7, x8] => F200 n x0 x1 x2 x3 x4 x5 x6 x7 x8
  | _ => none
noncomputable def code200 : List (Nat × Func) := [(200, Go.Proofs.Try.f200)]
def env200 : List (Nat × (Sig × Mean)) := [(129, sg129, ⟨M129⟩)]
def ann200 (f i : Nat) : Ann := match f, i with
  | _, _ => ⟨[], [], []⟩
def lsl200 (n : Nat) : List ((Nat × Nat) × (Nat → List LoopM)) := []
noncomputable def cf200 (n : Nat) : Cfg := ⟨tiOf tab, lookup code200, lookup env200, ann200, n⟩
theorem ev200 (n : Nat) (x0 x1 x2 x3 x4 x5 x6 x7 x8 : T) : evF (cf200 n) (drawK (cf200 n)) (lms2 (lsl200 n)) 3 200 sg200 [x0, x1, x2, x3, x4, x5, x6, x7, x8] = F200 n x0 x1 x2 x3 x4 x5 x6 x7 x8 := by kernel_rfl
theorem eo200 (n : Nat) : EnvOk Go.Proofs.Try.prog (tiOf tab) n 200 sg200 ⟨M200⟩ :=
  have hc : CodeOk Go.Proofs.Try.prog (cf200 n) := (code_cons Go.Proofs.Try.func200 (by kernel_rfl) code_nil)
  have he : EnvsOk Go.Proofs.Try.prog (cf200 n) := (env_cons (eo129 n) env_nil)
  have hl : LmsOk (R := List T) (cf200 n) (drawK (cf200 n)) (lms2 (lsl200 n)) (lsl200 n) := lms_nil
  envOk_of (cf := cf200 n) tabOk hc he (draw := drawK (cf200 n)) (fun _ => drawK_ok tabOk mixed hc he) (d := 3) (lms := lms2 (lsl200 n)) hl
    (fun τs rs h => by
      simp only [M200] at h
      split at h
      · exact (ev200 n _ _ _ _ _ _ _ _ _).trans h
      · cases h)
/-! ### 167: laws.toSendItemS -/
def sg167 : Sig := ⟨[(false, [.slice 230])], [.leaf (.slice 203) false]⟩
def G167_167_3 {R : Type} (n : Nat) (v : List T) (self : List T → Option R) (ex : List (List T → Option R)) : Option R :=
  bif (decide ((v.getD 1 (.i 0)).I < ((((v.getD 0 (.i 0)).L).length : Nat) : Int))) then (if 0 ≤ (v.getD 1 (.i 0)).I ∧ (v.getD 1 (.i 0)).I < (((v.getD 0 (.i 0)).L).length : Int) then ((F200 n ((at_ ((v.getD 0 (.i 0)).L) ((v.getD 1 (.i 0)).I)).F 0) ((at_ ((v.getD 0 (.i 0)).L) ((v.getD 1 (.i 0)).I)).F 1) ((at_ ((v.getD 0 (.i 0)).L) ((v.getD 1 (.i 0)).I)).F 2) ((at_ ((v.getD 0 (.i 0)).L) ((v.getD 1 (.i 0)).I)).F 3) ((at_ ((v.getD 0 (.i 0)).L) ((v.getD 1 (.i 0)).I)).F 4) ((at_ ((v.getD 0 (.i 0)).L) ((v.getD 1 (.i 0)).I)).F 5) ((at_ ((v.getD 0 (.i 0)).L) ((v.getD 1 (.i 0)).I)).F 6) ((at_ ((v.getD 0 (.i 0)).L) ((v.getD 1 (.i 0)).I)).F 7) ((at_ ((v.getD 0 (.i 0)).L) ((v.getD 1 (.i 0)).I)).F 8)).bind fun r1 => if 0 ≤ (v.getD 1 (.i 0)).I ∧ (v.getD 1 (.i 0)).I < (((v.getD 2 (.i 0)).L).length : Int) then (if 203 = 203 ∧ ((v.getD 1 (.i 0)).I).toNat < ((v.getD 2 (.i 0)).L).length then (self [.l ((v.getD 0 (.i 0)).L), .i (IntKind.wrap .i64 ((v.getD 1 (.i 0)).I + 1)), .l (((v.getD 2 (.i 0)).L).set (((v.getD 1 (.i 0)).I).toNat) (.r [(r1.headD (.i 0)), (r1.tail.headD (.i 0)), (r1.tail.tail.headD (.i 0)), (r1.tail.tail.tail.headD (.i 0)), (r1.tail.tail.tail.tail.headD (.i 0)), (r1.tail.tail.tail.tail.tail.headD (.i 0)), (r1.tail.tail.tail.tail.tail.tail.headD (.i 0)), (r1.tail.tail.tail.tail.tail.tail.tail.headD (.i 0)), (r1.tail.tail.tail.tail.tail.tail.tail.tail.headD (.i 0))]))]) else none) else none) else none) else (exn ex 0 [.l ((v.getD 2 (.i 0)).L)])
def L167_167_3 (n : Nat) : LoopM := ⟨⟨[[.t (.slice 230) (.i 0), .un, .un, .own 203 0, .t (.int .i64) (.i 0), .un, .un, .un, .un, .un, .un, .un, .un, .un, .un, .un, .un, .un, .un, .un, .un, .un, .un]], [.arr 203 []]⟩, [(.exit 0, ⟨[[.un, .un, .un, .own 203 0, .un, .un, .un, .un, .un, .un, .un, .un, .un, .un, .un, .un, .un, .un, .un, .un, .un, .un, .un]], [.arr 203 []]⟩)], fun v self ex => G167_167_3 n v self ex⟩
def F167 (n : Nat) (x0 : T) : Option (List T) :=
  if 0 ≤ (x0.L.length : Int) ∧ (x0.L.length : Int) * 72 ≤ limB ∧ (x0.L.length : Int) < maxN then (loopR (L167_167_3 n).G n [.l x0.L, .i 0, .l (List.replicate ((x0.L.length : Int)).toNat (T.r [.i 0, .i 0, .i 0, .b false, .b false, .b false, .l [], .i 0, .i 0]))] [fun u2 => some [.l ((u2.getD 0 (.i 0)).L)]]) else none
def M167 (n : Nat) (τs : List T) : Option (List T) := match τs with
  | [x0] => F167 n x0
  | _ => none
noncomputable def code167 : List (Nat × Func) := [(167, Go.Proofs.Try.f167)]
def env167 : List (Nat × (Sig × Mean)) := [(200, sg200, ⟨M200⟩)]
def ann167 (f i : Nat) : Ann := match f, i with
  | 167, 3 => ⟨[(0, .any), (3, .any), (4, .any)], [], [(3, .any)]⟩
  | _, _ => ⟨[], [], []⟩
def lm167_167 (n : Nat) (i : Nat) : List LoopM := match i with
  | 3 => [L167_167_3 n]
  | _ => []
def lsl167 (n : Nat) : List ((Nat × Nat) × (Nat → List LoopM)) := [((3, 167), lm167_167 n)]
noncomputable def cf167 (n : Nat) : Cfg := ⟨tiOf tab, lookup code167, lookup env167, ann167, n⟩
theorem ev167 (n : Nat) (x0 : T) : evF (cf167 n) (drawK (cf167 n)) (lms2 (lsl167 n)) 3 167 sg167 [x0] = F167 n x0 := by kernel_rfl
theorem lp167_167_3 (n : Nat) (K : Ex → St → Option (List T)) (self : List T → Option (List T)) (v : List T) : evC (cf167 n) (callK (cf167 n) (drawK (cf167 n)) (lms2 (lsl167 n)) 3) (drawK (cf167 n) (callK (cf167 n) (drawK (cf167 n)) (lms2 (lsl167 n)) 3)) (ann167 167) (lm167_167 n) (bodyOf Go.Proofs.Try.f167 3) ((L167_167_3 n).sk.fill v) (roundK (ann167 167 3) K (selfK (L167_167_3 n) self)) = (L167_167_3 n).G v self (exitK (L167_167_3 n) K) := by kernel_rfl
theorem eo167 (n : Nat) : EnvOk Go.Proofs.Try.prog (tiOf tab) n 167 sg167 ⟨M167⟩ :=
  have hc : CodeOk Go.Proofs.Try.prog (cf167 n) := (code_cons Go.Proofs.Try.func167 (by kernel_rfl) code_nil)
  have he : EnvsOk Go.Proofs.Try.prog (cf167 n) := (env_cons (eo200 n) env_nil)
  have hl : LmsOk (R := List T) (cf167 n) (drawK (cf167 n)) (lms2 (lsl167 n)) (lsl167 n) := (lms_cons (loops_of (cf := cf167 n) (fn0 := Go.Proofs.Try.f167) rfl (l := [bodyOf Go.Proofs.Try.f167 3]) (by kernel_rfl) (loops_cons (b := bodyOf Go.Proofs.Try.f167 3) (by kernel_rfl) (rfl : lm167_167 n 3 = [L167_167_3 n]) (List.forall_mem_cons.2 ⟨fun K self v => lp167_167_3 n K self v, fun _ h => by cases h⟩) loops_nil)) lms_nil)
  envOk_of (cf := cf167 n) tabOk hc he (draw := drawK (cf167 n)) (fun _ => drawK_ok tabOk mixed hc he) (d := 3) (lms := lms2 (lsl167 n)) hl
    (fun τs rs h => by
      simp only [M167] at h
      split at h
      · exact (ev167 n _).trans h
      · cases h)
/-! ### 73: laws.toSend -/
def sg73 : Sig := ⟨[(true, [.int .i64, .int .i64, .slice 2, .slice 230])], [.agg [(.int .i64, false), (.int .i64, false), (.slice 2, false), (.slice 203, false)]]⟩
def F73 (n : Nat) (x0 x1 x2 x3 : T) : Option (List T) :=
  (F166 n x2).bind fun r1 => (F167 n x3).bind fun r2 => some [x0, x1, (r1.headD (.i 0)), (r2.headD (.i 0))]
def M73 (n : Nat) (τs : List T) : Option (List T) := match τs with
  | [x0, x1, x2, x3] => F73 n x0 x1 x2 x3
  | _ => none
noncomputable def code73 : List (Nat × Func) := [(73, Go.Proofs.Try.f73)]
def env73 : List (Nat × (Sig × Mean)) := [(166, sg166, ⟨M166⟩), (167, sg167, ⟨M167⟩)]
def ann73 (f i : Nat) : Ann := match f, i with
  | _, _ => ⟨[], [], []⟩
def lsl73 (n : Nat) : List ((Nat × Nat) × (Nat → List LoopM)) := []
noncomputable def cf73 (n : Nat) : Cfg := ⟨tiOf tab, lookup code73, lookup env73, ann73, n⟩
theorem ev73 (n : Nat) (x0 x1 x2 x3 : T) : evF (cf73 n) (drawK (cf73 n)) (lms2 (lsl73 n)) 3 73 sg73 [x0, x1, x2, x3] = F73 n x0 x1 x2 x3 := by kernel_rfl
theorem eo73 (n : Nat) : EnvOk Go.Proofs.Try.prog (tiOf tab) n 73 sg73 ⟨M73⟩ :=
  have hc : CodeOk Go.Proofs.Try.prog (cf73 n) := (code_cons Go.Proofs.Try.func73 (by kernel_rfl) code_nil)
  have he : EnvsOk Go.Proofs.Try.prog (cf73 n) := (env_cons (eo166 n) (env_cons (eo167 n) env_nil))
  have hl : LmsOk (R := List T) (cf73 n) (drawK (cf73 n)) (lms2 (lsl73 n)) (lsl73 n) := lms_nil
  envOk_of (cf := cf73 n) tabOk hc he (draw := drawK (cf73 n)) (fun _ => drawK_ok tabOk mixed hc he) (d := 3) (lms := lms2 (lsl73 n)) hl
    (fun τs rs h => by
      simp only [M73] at h
      split at h
      · exact (ev73 n _ _ _ _).trans h
      · cases h)
/-! ### 130: impl.within -/
def sg130 : Sig := ⟨[(false, [.int .i64]), (false, [.int .i64]), (false, [.int .i64])], [.leaf .bool false]⟩
def F130 (n : Nat) (x0 x1 x2 : T) : Option (List T) :=
  bif (decide (x0.I ≥ x1.I)) then (some [.b (decide (x0.I ≤ x2.I))]) else (some [.b false])
def M130 (n : Nat) (τs : List T) : Option (List T) := match τs with
  | [x0, x1, x2] => F130 n x0 x1 x2
  | _ => none
noncomputable def code130 : List (Nat × Func) := [(130, Go.Proofs.Try.f130)]
def env130 : List (Nat × (Sig × Mean)) := []
def ann130 (f i : Nat) : Ann := match f, i with
  | _, _ => ⟨[], [], []⟩
def lsl130 (n : Nat) : List ((Nat × Nat) × (Nat → List LoopM)) := []
noncomputable def cf130 (n : Nat) : Cfg := ⟨tiOf tab, lookup code130, lookup env130, ann130, n⟩
theorem ev130 (n : Nat) (x0 x1 x2 : T) : evF (cf130 n) (drawK (cf130 n)) (lms2 (lsl130 n)) 3 130 sg130 [x0, x1, x2] = F130 n x0 x1 x2 := by kernel_rfl
theorem eo130 (n : Nat) : EnvOk Go.Proofs.Try.prog (tiOf tab) n 130 sg130 ⟨M130⟩ :=
  have hc : CodeOk Go.Proofs.Try.prog (cf130 n) := (code_cons Go.Proofs.Try.func130 (by kernel_rfl) code_nil)
  have he : EnvsOk Go.Proofs.Try.prog (cf130 n) := env_nil
  have hl : LmsOk (R := List T) (cf130 n) (drawK (cf130 n)) (lms2 (lsl130 n)) (lsl130 n) := lms_nil
  envOk_of (cf := cf130 n) tabOk hc he (draw := drawK (cf130 n)) (fun _ => drawK_ok tabOk mixed hc he) (d := 3) (lms := lms2 (lsl130 n)) hl
    (fun τs rs h => by
      simp only [M130] at h
      split at h
      · exact (ev130 n _ _ _).trans h
      · cases h)
/-! ### 78: impl.isWord -/
def sg78 : Sig := ⟨[(false, [.int .i64])], [.leaf .bool false]⟩
def F78 (n : Nat) (x0 : T) : Option (List T) :=
  (F130 n x0 (.i 0) (.i 4294967295)).bind fun r1 => some [(r1.headD (.i 0))]
def M78 (n : Nat) (τs : List T) : Option (List T) := match τs with
  | [x0] => F78 n x0
  | _ => none
noncomputable def code78 : List (Nat × Func) := [(78, Go.Proofs.Try.f78)]
def env78 : List (Nat × (Sig × Mean)) := [(130, sg130, ⟨M130⟩)]
def ann78 (f i : Nat) : Ann := match f, i with
  | _, _ => ⟨[], [], []⟩
def lsl78 (n : Nat) : List ((Nat × Nat) × (Nat → List LoopM)) := []
noncomputable def cf78 (n : Nat) : Cfg := ⟨tiOf tab, lookup code78, lookup env78, ann78, n⟩
theorem ev78 (n : Nat) (x0 : T) : evF (cf78 n) (drawK (cf78 n)) (lms2 (lsl78 n)) 3 78 sg78 [x0] = F78 n x0 := by kernel_rfl
theorem eo78 (n : Nat) : EnvOk Go.Proofs.Try.prog (tiOf tab) n 78 sg78 ⟨M78⟩ :=
  have hc : CodeOk Go.Proofs.Try.prog (cf78 n) := (code_cons Go.Proofs.Try.func78 (by kernel_rfl) code_nil)
  have he : EnvsOk Go.Proofs.Try.prog (cf78 n) := (env_cons (eo130 n) env_nil)
  have hl : LmsOk (R := List T) (cf78 n) (drawK (cf78 n)) (lms2 (lsl78 n)) (lsl78 n) := lms_nil
  envOk_of (cf := cf78 n) tabOk hc he (draw := drawK (cf78 n)) (fun _ => drawK_ok tabOk mixed hc he) (d := 3) (lms := lms2 (lsl78 n)) hl
    (fun τs rs h => by
      simp only [M78] at h
      split at h
      · exact (ev78 n _).trans h
      · cases h)
/-! ### 168: impl.areWords -/
def sg168 : Sig := ⟨[(false, [.slice 2])], [.leaf .bool false]⟩
def G168_168_2 {R : Type} (n : Nat) (v : List T) (self : List T → Option R) (ex : List (List T → Option R)) : Option R :=
  bif (decide ((v.getD 2 (.i 0)).I < (v.getD 1 (.i 0)).I)) then (if 0 ≤ (v.getD 2 (.i 0)).I ∧ (v.getD 2 (.i 0)).I < (((v.getD 0 (.i 0)).L).length : Int) then ((F78 n (at_ ((v.getD 0 (.i 0)).L) ((v.getD 2 (.i 0)).I))).bind fun r1 => bif (!(r1.headD (.i 0)).B) then (exn ex 0 [.b false]) else (self [.l ((v.getD 0 (.i 0)).L), .i ((v.getD 1 (.i 0)).I), .i (IntKind.wrap .i64 ((v.getD 2 (.i 0)).I + 1))])) else none) else (exn ex 1 [])
def L168_168_2 (n : Nat) : LoopM := ⟨⟨[[.un, .un, .un, .un, .un, .t (.slice 2) (.i 0), .t (.int .i64) (.i 0), .t (.int .i64) (.i 0), .un, .un, .un, .un, .un, .un, .un]], []⟩, [(.ret, ⟨[[.un, .un, .t .bool (.i 0), .un, .un, .un, .un, .un, .un, .un, .un, .un, .un, .un, .un]], []⟩), (.exit 0, ⟨[[.un, .un, .un, .un, .un, .un, .un, .un, .un, .un, .un, .un, .un, .un, .un]], []⟩)], fun v self ex => G168_168_2 n v self ex⟩
def F168 (n : Nat) (x0 : T) : Option (List T) :=
  loopR (L168_168_2 n).G n [.l x0.L, .i (x0.L.length : Int), .i 0] [fun u2 => some [.b ((u2.getD 0 (.i 0)).B)], fun u3 => some [.b true]]
def M168 (n : Nat) (τs : List T) : Option (List T) := match τs with
  | [x0] => F168 n x0
  | _ => none
noncomputable def code168 : List (Nat × Func) := [(168, Go.Proofs.Try.f168)]
def env168 : List (Nat × (Sig × Mean)) := [(78, sg78, ⟨M78⟩)]
def ann168 (f i : Nat) : Ann := match f, i with
  | 168, 2 => ⟨[(5, .any), (6, .any), (7, .any)], [], [(2, .any)]⟩
  | _, _ => ⟨[], [], []⟩
def lm168_168 (n : Nat) (i : Nat) : List LoopM := match i with
  | 2 => [L168_168_2 n]
  | _ => []
def lsl168 (n : Nat) : List ((Nat × Nat) × (Nat → List LoopM)) := [((3, 168), lm168_168 n)]
noncomputable def cf168 (n : Nat) : Cfg := ⟨tiOf tab, lookup code168, lookup env168, ann168, n⟩
theorem ev168 (n : Nat) (x0 : T) : evF (cf168 n) (drawK (cf168 n)) (lms2 (lsl168 n)) 3 168 sg168 [x0] = F168 n x0 := by kernel_rfl
theorem lp168_168_2 (n : Nat) (K : Ex → St → Option (List T)) (self : List T → Option (List T)) (v : List T) : evC (cf168 n) (callK (cf168 n) (drawK (cf168 n)) (lms2 (lsl168 n)) 3) (drawK (cf168 n) (callK (cf168 n) (drawK (cf168 n)) (lms2 (lsl168 n)) 3)) (ann168 168) (lm168_168 n) (bodyOf Go.Proofs.Try.f168 2) ((L168_168_2 n).sk.fill v) (roundK (ann168 168 2) K (selfK (L168_168_2 n) self)) = (L168_168_2 n).G v self (exitK (L168_168_2 n) K) := by kernel_rfl
theorem eo168 (n : Nat) : EnvOk Go.Proofs.Try.prog (tiOf tab) n 168 sg168 ⟨M168⟩ :=
  have hc : CodeOk Go.Proofs.Try.prog (cf168 n) := (code_cons Go.Proofs.Try.func168 (by kernel_rfl) code_nil)
  have he : EnvsOk Go.Proofs.Try.prog (cf168 n) := (env_cons (eo78 n) env_nil)
  have hl : LmsOk (R := List T) (cf168 n) (drawK (cf168 n)) (lms2 (lsl168 n)) (lsl168 n) := (lms_cons (loops_of (cf := cf168 n) (fn0 := Go.Proofs.Try.f168) rfl (l := [bodyOf Go.Proofs.Try.f168 2]) (by kernel_rfl) (loops_cons (b := bodyOf Go.Proofs.Try.f168 2) (by kernel_rfl) (rfl : lm168_168 n 2 = [L168_168_2 n]) (List.forall_mem_cons.2 ⟨fun K self v => lp168_168_2 n K self v, fun _ h => by cases h⟩) loops_nil)) lms_nil)
  envOk_of (cf := cf168 n) tabOk hc he (draw := drawK (cf168 n)) (fun _ => drawK_ok tabOk mixed hc he) (d := 3) (lms := lms2 (lsl168 n)) hl
    (fun τs rs h => by
      simp only [M168] at h
      split at h
      · exact (ev168 n _).trans h
      · cases h)
/-! ### 201: impl.serialGap -/
def sg201 : Sig := ⟨[(false, [.int .i64]), (false, [.int .i64])], [.leaf (.int .i64) false]⟩
def F201 (n : Nat) (x0 x1 : T) : Option (List T) :=
  some [.i (IntKind.wrap .i64 (((BitVec.ofInt 64 (IntKind.wrap .i64 (x1.I - x0.I)) &&& BitVec.ofInt 64 4294967295).toNat : Int)))]
def M201 (n : Nat) (τs : List T) : Option (List T) := match τs with
  | [x0, x1] => F201 n x0 x1
  | _ => none
noncomputable def code201 : List (Nat × Func) := [(201, Go.Proofs.Try.f201)]
def env201 : List (Nat × (Sig × Mean)) := []
def ann201 (f i : Nat) : Ann := match f, i with
  | _, _ => ⟨[], [], []⟩
def lsl201 (n : Nat) : List ((Nat × Nat) × (Nat → List LoopM)) := []
noncomputable def cf201 (n : Nat) : Cfg := ⟨tiOf tab, lookup code201, lookup env201, ann201, n⟩
theorem ev201 (n : Nat) (x0 x1 : T) : evF (cf201 n) (drawK (cf201 n)) (lms2 (lsl201 n)) 3 201 sg201 [x0, x1] = F201 n x0 x1 := by kernel_rfl
theorem eo201 (n : Nat) : EnvOk Go.Proofs.Try.prog (tiOf tab) n 201 sg201 ⟨M201⟩ :=
  have hc : CodeOk Go.Proofs.Try.prog (cf201 n) := (code_cons Go.Proofs.Try.func201 (by kernel_rfl) code_nil)
  have he : EnvsOk Go.Proofs.Try.prog (cf201 n) := env_nil
  have hl : LmsOk (R := List T) (cf201 n) (drawK (cf201 n)) (lms2 (lsl201 n)) (lsl201 n) := lms_nil
  envOk_of (cf := cf201 n) tabOk hc he (draw := drawK (cf201 n)) (fun _ => drawK_ok tabOk mixed hc he) (d := 3) (lms := lms2 (lsl201 n)) hl
    (fun τs rs h => by
      simp only [M201] at h
      split at h
      · exact (ev201 n _ _).trans h
      · cases h)
/-! ### 169: impl.Send).away -/
def sg169 : Sig := ⟨[(true, [.int .i64, .int .i64, .slice 2, .slice 203]), (false, [.int .i64])], [.leaf (.int .i64) false]⟩
def F169 (n : Nat) (x0 x1 x2 x3 x4 : T) : Option (List T) :=
  (F201 n x1 x4).bind fun r1 => some [(r1.headD (.i 0))]
def M169 (n : Nat) (τs : List T) : Option (List T) := match τs with
  | [x0, x1, x2, x3, x4] => F169 n x0 x1 x2 x3 x4
  | _ => none
noncomputable def code169 : List (Nat × Func) := [(169, Go.Proofs.Try.f169)]
def env169 : List (Nat × (Sig × Mean)) := [(201, sg201, ⟨M201⟩)]
def ann169 (f i : Nat) : Ann := match f, i with
  | _, _ => ⟨[], [], []⟩
def lsl169 (n : Nat) : List ((Nat × Nat) × (Nat → List LoopM)) := []
noncomputable def cf169 (n : Nat) : Cfg := ⟨tiOf tab, lookup code169, lookup env169, ann169, n⟩
theorem ev169 (n : Nat) (x0 x1 x2 x3 x4 : T) : evF (cf169 n) (drawK (cf169 n)) (lms2 (lsl169 n)) 3 169 sg169 [x0, x1, x2, x3, x4] = F169 n x0 x1 x2 x3 x4 := by kernel_rfl
theorem eo169 (n : Nat) : EnvOk Go.Proofs.Try.prog (tiOf tab) n 169 sg169 ⟨M169⟩ :=
  have hc : CodeOk Go.Proofs.Try.prog (cf169 n) := (code_cons Go.Proofs.Try.func169 (by kernel_rfl) code_nil)
  have he : EnvsOk Go.Proofs.Try.prog (cf169 n) := (env_cons (eo201 n) env_nil)
  have hl : LmsOk (R := List T) (cf169 n) (drawK (cf169 n)) (lms2 (lsl169 n)) (lsl169 n) := lms_nil
  envOk_of (cf := cf169 n) tabOk hc he (draw := drawK (cf169 n)) (fun _ => drawK_ok tabOk mixed hc he) (d := 3) (lms := lms2 (lsl169 n)) hl
    (fun τs rs h => by
      simp only [M169] at h
      split at h
      · exact (ev169 n _ _ _ _ _).trans h
      · cases h)
/-! ### 143: impl.isPair -/
def sg143 : Sig := ⟨[(false, [.int .i64])], [.leaf .bool false]⟩
def F143 (n : Nat) (x0 : T) : Option (List T) :=
  (F130 n x0 (.i 0) (.i 65535)).bind fun r1 => some [(r1.headD (.i 0))]
def M143 (n : Nat) (τs : List T) : Option (List T) := match τs with
  | [x0] => F143 n x0
  | _ => none
noncomputable def code143 : List (Nat × Func) := [(143, Go.Proofs.Try.f143)]
def env143 : List (Nat × (Sig × Mean)) := [(130, sg130, ⟨M130⟩)]
def ann143 (f i : Nat) : Ann := match f, i with
  | _, _ => ⟨[], [], []⟩
def lsl143 (n : Nat) : List ((Nat × Nat) × (Nat → List LoopM)) := []
noncomputable def cf143 (n : Nat) : Cfg := ⟨tiOf tab, lookup code143, lookup env143, ann143, n⟩
theorem ev143 (n : Nat) (x0 : T) : evF (cf143 n) (drawK (cf143 n)) (lms2 (lsl143 n)) 3 143 sg143 [x0] = F143 n x0 := by kernel_rfl
theorem eo143 (n : Nat) : EnvOk Go.Proofs.Try.prog (tiOf tab) n 143 sg143 ⟨M143⟩ :=
  have hc : CodeOk Go.Proofs.Try.prog (cf143 n) := (code_cons Go.Proofs.Try.func143 (by kernel_rfl) code_nil)
  have he : EnvsOk Go.Proofs.Try.prog (cf143 n) := (env_cons (eo130 n) env_nil)
  have hl : LmsOk (R := List T) (cf143 n) (drawK (cf143 n)) (lms2 (lsl143 n)) (lsl143 n) := lms_nil
  envOk_of (cf := cf143 n) tabOk hc he (draw := drawK (cf143 n)) (fun _ => drawK_ok tabOk mixed hc he) (d := 3) (lms := lms2 (lsl143 n)) hl
    (fun τs rs h => by
      simp only [M143] at h
      split at h
      · exact (ev143 n _).trans h
      · cases h)
/-! ### 153: impl.isStream -/
def sg153 : Sig := ⟨[(false, [.int .i64])], [.leaf .bool false]⟩
def F153 (n : Nat) (x0 : T) : Option (List T) :=
  (F130 n x0 (.i 0) (.i 9)).bind fun r1 => some [(r1.headD (.i 0))]
def M153 (n : Nat) (τs : List T) : Option (List T) := match τs with
  | [x0] => F153 n x0
  | _ => none
noncomputable def code153 : List (Nat × Func) := [(153, Go.Proofs.Try.f153)]
def env153 : List (Nat × (Sig × Mean)) := [(130, sg130, ⟨M130⟩)]
def ann153 (f i : Nat) : Ann := match f, i with
  | _, _ => ⟨[], [], []⟩
def lsl153 (n : Nat) : List ((Nat × Nat) × (Nat → List LoopM)) := []
noncomputable def cf153 (n : Nat) : Cfg := ⟨tiOf tab, lookup code153, lookup env153, ann153, n⟩
theorem ev153 (n : Nat) (x0 : T) : evF (cf153 n) (drawK (cf153 n)) (lms2 (lsl153 n)) 3 153 sg153 [x0] = F153 n x0 := by kernel_rfl
theorem eo153 (n : Nat) : EnvOk Go.Proofs.Try.prog (tiOf tab) n 153 sg153 ⟨M153⟩ :=
  have hc : CodeOk Go.Proofs.Try.prog (cf153 n) := (code_cons Go.Proofs.Try.func153 (by kernel_rfl) code_nil)
  have he : EnvsOk Go.Proofs.Try.prog (cf153 n) := (env_cons (eo130 n) env_nil)
  have hl : LmsOk (R := List T) (cf153 n) (drawK (cf153 n)) (lms2 (lsl153 n)) (lsl153 n) := lms_nil
  envOk_of (cf := cf153 n) tabOk hc he (draw := drawK (cf153 n)) (fun _ => drawK_ok tabOk mixed hc he) (d := 3) (lms := lms2 (lsl153 n)) hl
    (fun τs rs h => by
      simp only [M153] at h
      split at h
      · exact (ev153 n _).trans h
      · cases h)
/-! ### 192: impl.flagged -/
def sg192 : Sig := ⟨[(false, [.bool]), (false, [.int .i64])], [.leaf (.int .i64) false]⟩
def F192 (n : Nat) (x0 x1 : T) : Option (List T) :=
  bif x0.B then (some [x1]) else (some [.i 0])
def M192 (n : Nat) (τs : List T) : Option (List T) := match τs with
  | [x0, x1] => F192 n x0 x1
  | _ => none
noncomputable def code192 : List (Nat × Func) := [(192, Go.Proofs.Try.f192)]
def env192 : List (Nat × (Sig × Mean)) := []
def ann192 (f i : Nat) : Ann := match f, i with
  | _, _ => ⟨[], [], []⟩
def lsl192 (n : Nat) : List ((Nat × Nat) × (Nat → List LoopM)) := []
noncomputable def cf192 (n : Nat) : Cfg := ⟨tiOf tab, lookup code192, lookup env192, ann192, n⟩
theorem ev192 (n : Nat) (x0 x1 : T) : evF (cf192 n) (drawK (cf192 n)) (lms2 (lsl192 n)) 3 192 sg192 [x0, x1] = F192 n x0 x1 := by kernel_rfl
theorem eo192 (n : Nat) : EnvOk Go.Proofs.Try.prog (tiOf tab) n 192 sg192 ⟨M192⟩ :=
  have hc : CodeOk Go.Proofs.Try.prog (cf192 n) := (code_cons Go.Proofs.Try.func192 (by kernel_rfl) code_nil)
  have he : EnvsOk Go.Proofs.Try.prog (cf192 n) := env_nil
  have hl : LmsOk (R := List T) (cf192 n) (drawK (cf192 n)) (lms2 (lsl192 n)) (lsl192 n) := lms_nil
  envOk_of (cf := cf192 n) tabOk hc he (draw := drawK (cf192 n)) (fun _ => drawK_ok tabOk mixed hc he) (d := 3) (lms := lms2 (lsl192 n)) hl
    (fun τs rs h => by
      simp only [M192] at h
      split at h
      · exact (ev192 n _ _).trans h
      · cases h)
/-! ### 207: slices.Concat[[]byte,byte] -/
def sg207 : Sig := ⟨[(false, [.slice 85])], [.leaf (.slice 5) false]⟩
def G207_207_11 {R : Type} (n : Nat) (v : List T) (self : List T → Option R) (ex : List (List T → Option R)) : Option R :=
  bif (decide ((v.getD 2 (.i 0)).I < (v.getD 1 (.i 0)).I)) then (if 0 ≤ (v.getD 2 (.i 0)).I ∧ (v.getD 2 (.i 0)).I < (((v.getD 0 (.i 0)).L).length : Int) then (if ((((v.getD 3 (.i 0)).L).length + ((at_ ((v.getD 0 (.i 0)).L) ((v.getD 2 (.i 0)).I)).L).length : Nat) : Int) * 1 ≤ limB then (self [.l ((v.getD 0 (.i 0)).L), .i ((v.getD 1 (.i 0)).I), .i (IntKind.wrap .i64 ((v.getD 2 (.i 0)).I + 1)), .l ((v.getD 3 (.i 0)).L ++ (at_ ((v.getD 0 (.i 0)).L) ((v.getD 2 (.i 0)).I)).L)]) else none) else none) else (exn ex 0 [.l ((v.getD 3 (.i 0)).L)])
def L207_207_11 (n : Nat) : LoopM := ⟨⟨[[.un, .un, .un, .un, .un, .un, .own 5 0, .un, .un, .un, .un, .un, .un, .un, .un, .un, .un, .un, .un, .un, .un, .un, .un, .un, .un, .t (.slice 85) (.i 0), .t (.int .i64) (.i 0), .t (.int .i64) (.i 0), .un, .un, .un, .un, .un, .un, .un, .un]], [.arr 5 []]⟩, [(.exit 2, ⟨[[.un, .un, .un, .un, .un, .un, .own 5 0, .un, .un, .un, .un, .un, .un, .un, .un, .un, .un, .un, .un, .un, .un, .un, .un, .un, .un, .un, .un, .un, .un, .un, .un, .un, .un, .un, .un, .un]], [.arr 5 []]⟩)], fun v self ex => G207_207_11 n v self ex⟩
def G207_207_3 {R : Type} (n : Nat) (v : List T) (self : List T → Option R) (ex : List (List T → Option R)) : Option R :=
  bif (decide ((v.getD 4 (.i 0)).I < (v.getD 3 (.i 0)).I)) then (if 0 ≤ (v.getD 4 (.i 0)).I ∧ (v.getD 4 (.i 0)).I < (((v.getD 2 (.i 0)).L).length : Int) then (bif (decide ((IntKind.wrap .i64 ((v.getD 1 (.i 0)).I + ((((at_ ((v.getD 2 (.i 0)).L) ((v.getD 4 (.i 0)).I)).L).length : Nat) : Int))) < 0)) then none else (self [.l ((v.getD 0 (.i 0)).L), .i (IntKind.wrap .i64 ((v.getD 1 (.i 0)).I + ((((at_ ((v.getD 2 (.i 0)).L) ((v.getD 4 (.i 0)).I)).L).length : Nat) : Int))), .l ((v.getD 2 (.i 0)).L), .i ((v.getD 3 (.i 0)).I), .i (IntKind.wrap .i64 ((v.getD 4 (.i 0)).I + 1))])) else none) else (exn ex 0 [.l ((v.getD 0 (.i 0)).L), .i ((v.getD 1 (.i 0)).I)])
def L207_207_3 (n : Nat) : LoopM := ⟨⟨[[.t (.slice 85) (.i 0), .un, .un, .t (.int .i64) (.i 0), .un, .un, .un, .un, .un, .t (.slice 85) (.i 0), .t (.int .i64) (.i 0), .t (.int .i64) (.i 0), .un, .un, .un, .un, .un, .un, .un, .un, .un, .un, .un, .un, .un, .un, .un, .un, .un, .un, .un, .un, .un, .un, .un, .un]], []⟩, [(.exit 0, ⟨[[.t (.slice 85) (.i 0), .un, .un, .t (.int .i64) (.i 0), .un, .un, .un, .un, .un, .un, .un, .un, .un, .un, .un, .un, .un, .un, .un, .un, .un, .un, .un, .un, .un, .un, .un, .un, .un, .un, .un, .un, .un, .un, .un, .un]], []⟩)], fun v self ex => G207_207_3 n v self ex⟩
def F207 (n : Nat) (x0 : T) : Option (List T) :=
  loopR (L207_207_3 n).G n [.l x0.L, .i 0, .l x0.L, .i (x0.L.length : Int), .i 0] [fun u1 => bif (decide ((u1.getD 1 (.i 0)).I < 0)) then none else (bif (decide ((IntKind.wrap .i64 ((u1.getD 1 (.i 0)).I - 0)) > 0)) then (if 0 ≤ (IntKind.wrap .i64 ((u1.getD 1 (.i 0)).I - 0)) ∧ (IntKind.wrap .i64 ((u1.getD 1 (.i 0)).I - 0)) * 1 ≤ limB then (if ((List.replicate ((IntKind.wrap .i64 ((u1.getD 1 (.i 0)).I - 0))).toNat (T.i 0)).length : Int) * 1 ≤ limB then (if 0 ≤ 0 ∧ 0 ≤ 0 ∧ 0 ≤ ((List.replicate ((IntKind.wrap .i64 ((u1.getD 1 (.i 0)).I - 0))).toNat (T.i 0)).length : Int) then (loopR (L207_207_11 n).G n [.l ((u1.getD 0 (.i 0)).L), .i ((((u1.getD 0 (.i 0)).L).length : Nat) : Int), .i 0, .l ((List.replicate ((IntKind.wrap .i64 ((u1.getD 1 (.i 0)).I - 0))).toNat (T.i 0)).take 0)] [fun u2 => some [.l ((u2.getD 0 (.i 0)).L)]]) else none) else none) else none) else (loopR (L207_207_11 n).G n [.l ((u1.getD 0 (.i 0)).L), .i ((((u1.getD 0 (.i 0)).L).length : Nat) : Int), .i 0, .l []] [fun u3 => some [.l ((u3.getD 0 (.i 0)).L)]]))]
def M207 (n : Nat) (τs : List T) : Option (List T) := match τs with
  | [x0] => F207 n x0
  | _ => none
noncomputable def code207 : List (Nat × Func) := [(207, Go.Proofs.Try.f207), (210, Go.Proofs.Try.f210)]
def env207 : List (Nat × (Sig × Mean)) := []
def ann207 (f i : Nat) : Ann := match f, i with
  | 207, 3 => ⟨[(0, .any), (3, .any), (9, .any), (10, .any), (11, .any)], [], [(0, .any), (3, .any)]⟩
  | 207, 11 => ⟨[(6, .own 5), (25, .any), (26, .any), (27, .any)], [], [(6, .any)]⟩
  | _, _ => ⟨[], [], []⟩
def lm207_207 (n : Nat) (i : Nat) : List LoopM := match i with
  | 3 => [L207_207_3 n]
  | 11 => [L207_207_11 n]
  | _ => []
def lsl207 (n : Nat) : List ((Nat × Nat) × (Nat → List LoopM)) := [((3, 207), lm207_207 n)]
noncomputable def cf207 (n : Nat) : Cfg := ⟨tiOf tab, lookup code207, lookup env207, ann207, n⟩
theorem ev207 (n : Nat) (x0 : T) : evF (cf207 n) (drawK (cf207 n)) (lms2 (lsl207 n)) 3 207 sg207 [x0] = F207 n x0 := by kernel_rfl
theorem lp207_207_11 (n : Nat) (K : Ex → St → Option (List T)) (self : List T → Option (List T)) (v : List T) : evC (cf207 n) (callK (cf207 n) (drawK (cf207 n)) (lms2 (lsl207 n)) 3) (drawK (cf207 n) (callK (cf207 n) (drawK (cf207 n)) (lms2 (lsl207 n)) 3)) (ann207 207) (lm207_207 n) (bodyOf Go.Proofs.Try.f207 11) ((L207_207_11 n).sk.fill v) (roundK (ann207 207 11) K (selfK (L207_207_11 n) self)) = (L207_207_11 n).G v self (exitK (L207_207_11 n) K) := by kernel_rfl
theorem lp207_207_3 (n : Nat) (K : Ex → St → Option (List T)) (self : List T → Option (List T)) (v : List T) : evC (cf207 n) (callK (cf207 n) (drawK (cf207 n)) (lms2 (lsl207 n)) 3) (drawK (cf207 n) (callK (cf207 n) (drawK (cf207 n)) (lms2 (lsl207 n)) 3)) (ann207 207) (lm207_207 n) (bodyOf Go.Proofs.Try.f207 3) ((L207_207_3 n).sk.fill v) (roundK (ann207 207 3) K (selfK (L207_207_3 n) self)) = (L207_207_3 n).G v self (exitK (L207_207_3 n) K) := by kernel_rfl
theorem eo207 (n : Nat) : EnvOk Go.Proofs.Try.prog (tiOf tab) n 207 sg207 ⟨M207⟩ :=
  have hc : CodeOk Go.Proofs.Try.prog (cf207 n) := (code_cons Go.Proofs.Try.func207 (by kernel_rfl) (code_cons Go.Proofs.Try.func210 (by kernel_rfl) code_nil))
  have he : EnvsOk Go.Proofs.Try.prog (cf207 n) := env_nil
  have hl : LmsOk (R := List T) (cf207 n) (drawK (cf207 n)) (lms2 (lsl207 n)) (lsl207 n) := (lms_cons (loops_of (cf := cf207 n) (fn0 := Go.Proofs.Try.f207) rfl (l := [bodyOf Go.Proofs.Try.f207 3, bodyOf Go.Proofs.Try.f207 11]) (by kernel_rfl) (loops_cons (b := bodyOf Go.Proofs.Try.f207 3) (by kernel_rfl) (rfl : lm207_207 n 3 = [L207_207_3 n]) (List.forall_mem_cons.2 ⟨fun K self v => lp207_207_3 n K self v, fun _ h => by cases h⟩) (loops_cons (b := bodyOf Go.Proofs.Try.f207 11) (by kernel_rfl) (rfl : lm207_207 n 11 = [L207_207_11 n]) (List.forall_mem_cons.2 ⟨fun K self v => lp207_207_11 n K self v, fun _ h => by cases h⟩) loops_nil))) lms_nil)
  envOk_of (cf := cf207 n) tabOk hc he (draw := drawK (cf207 n)) (fun _ => drawK_ok tabOk mixed hc he) (d := 3) (lms := lms2 (lsl207 n)) hl
    (fun τs rs h => by
      simp only [M207] at h
      split at h
      · exact (ev207 n _).trans h
      · cases h)
/-! ### 193: impl.chunk -/
def sg193 : Sig := ⟨[(false, [.int .i64]), (false, [.int .i64]), (false, [.slice 85])], [.agg [(.int .i64, false), (.int .i64, false), (.int .i64, false), (.slice 5, false)]]⟩
def F193 (n : Nat) (x0 x1 x2 : T) : Option (List T) :=
  (F207 n x2).bind fun r1 => some [.i 0, x0, x1, (r1.headD (.i 0))]
def M193 (n : Nat) (τs : List T) : Option (List T) := match τs with
  | [x0, x1, x2] => F193 n x0 x1 x2
  | _ => none
noncomputable def code193 : List (Nat × Func) := [(193, Go.Proofs.Try.f193)]
def env193 : List (Nat × (Sig × Mean)) := [(207, sg207, ⟨M207⟩)]
def ann193 (f i : Nat) : Ann := match f, i with
  | _, _ => ⟨[], [], []⟩
def lsl193 (n : Nat) : List ((Nat × Nat) × (Nat → List LoopM)) := []
noncomputable def cf193 (n : Nat) : Cfg := ⟨tiOf tab, lookup code193, lookup env193, ann193, n⟩
theorem ev193 (n : Nat) (x0 x1 x2 : T) : evF (cf193 n) (drawK (cf193 n)) (lms2 (lsl193 n)) 3 193 sg193 [x0, x1, x2] = F193 n x0 x1 x2 := by kernel_rfl
theorem eo193 (n : Nat) : EnvOk Go.Proofs.Try.prog (tiOf tab) n 193 sg193 ⟨M193⟩ :=
  have hc : CodeOk Go.Proofs.Try.prog (cf193 n) := (code_cons Go.Proofs.Try.func193 (by kernel_rfl) code_nil)
  have he : EnvsOk Go.Proofs.Try.prog (cf193 n) := (env_cons (eo207 n) env_nil)
  have hl : LmsOk (R := List T) (cf193 n) (drawK (cf193 n)) (lms2 (lsl193 n)) (lsl193 n) := lms_nil
  envOk_of (cf := cf193 n) tabOk hc he (draw := drawK (cf193 n)) (fun _ => drawK_ok tabOk mixed hc he) (d := 3) (lms := lms2 (lsl193 n)) hl
    (fun τs rs h => by
      simp only [M193] at h
      split at h
      · exact (ev193 n _ _ _).trans h
      · cases h)
/-! ### 194: impl.four -/
def sg194 : Sig := ⟨[(false, [.int .i64])], [.leaf (.slice 5) false]⟩
def F194 (n : Nat) (x0 : T) : Option (List T) :=
  some [.l [.i (IntKind.wrap .u8 ((x0.I.fdiv (2 ^ 24)))), .i (IntKind.wrap .u8 ((x0.I.fdiv (2 ^ 16)))), .i (IntKind.wrap .u8 ((x0.I.fdiv (2 ^ 8)))), .i (IntKind.wrap .u8 (x0.I))]]
def M194 (n : Nat) (τs : List T) : Option (List T) := match τs with
  | [x0] => F194 n x0
  | _ => none
noncomputable def code194 : List (Nat × Func) := [(194, Go.Proofs.Try.f194)]
def env194 : List (Nat × (Sig × Mean)) := []
def ann194 (f i : Nat) : Ann := match f, i with
  | _, _ => ⟨[], [], []⟩
def lsl194 (n : Nat) : List ((Nat × Nat) × (Nat → List LoopM)) := []
noncomputable def cf194 (n : Nat) : Cfg := ⟨tiOf tab, lookup code194, lookup env194, ann194, n⟩
theorem ev194 (n : Nat) (x0 : T) : evF (cf194 n) (drawK (cf194 n)) (lms2 (lsl194 n)) 3 194 sg194 [x0] = F194 n x0 := by kernel_rfl
theorem eo194 (n : Nat) : EnvOk Go.Proofs.Try.prog (tiOf tab) n 194 sg194 ⟨M194⟩ :=
  have hc : CodeOk Go.Proofs.Try.prog (cf194 n) := (code_cons Go.Proofs.Try.func194 (by kernel_rfl) code_nil)
  have he : EnvsOk Go.Proofs.Try.prog (cf194 n) := env_nil
  have hl : LmsOk (R := List T) (cf194 n) (drawK (cf194 n)) (lms2 (lsl194 n)) (lsl194 n) := lms_nil
  envOk_of (cf := cf194 n) tabOk hc he (draw := drawK (cf194 n)) (fun _ => drawK_ok tabOk mixed hc he) (d := 3) (lms := lms2 (lsl194 n)) hl
    (fun τs rs h => by
      simp only [M194] at h
      split at h
      · exact (ev194 n _).trans h
      · cases h)
/-! ### 195: impl.two -/
def sg195 : Sig := ⟨[(false, [.int .i64])], [.leaf (.slice 5) false]⟩
def F195 (n : Nat) (x0 : T) : Option (List T) :=
  some [.l [.i (IntKind.wrap .u8 ((x0.I.fdiv (2 ^ 8)))), .i (IntKind.wrap .u8 (x0.I))]]
def M195 (n : Nat) (τs : List T) : Option (List T) := match τs with
  | [x0] => F195 n x0
  | _ => none
noncomputable def code195 : List (Nat × Func) := [(195, Go.Proofs.Try.f195)]
def env195 : List (Nat × (Sig × Mean)) := []
def ann195 (f i : Nat) : Ann := match f, i with
  | _, _ => ⟨[], [], []⟩
def lsl195 (n : Nat) : List ((Nat × Nat) × (Nat → List LoopM)) := []
noncomputable def cf195 (n : Nat) : Cfg := ⟨tiOf tab, lookup code195, lookup env195, ann195, n⟩
theorem ev195 (n : Nat) (x0 : T) : evF (cf195 n) (drawK (cf195 n)) (lms2 (lsl195 n)) 3 195 sg195 [x0] = F195 n x0 := by kernel_rfl
theorem eo195 (n : Nat) : EnvOk Go.Proofs.Try.prog (tiOf tab) n 195 sg195 ⟨M195⟩ :=
  have hc : CodeOk Go.Proofs.Try.prog (cf195 n) := (code_cons Go.Proofs.Try.func195 (by kernel_rfl) code_nil)
  have he : EnvsOk Go.Proofs.Try.prog (cf195 n) := env_nil
  have hl : LmsOk (R := List T) (cf195 n) (drawK (cf195 n)) (lms2 (lsl195 n)) (lsl195 n) := lms_nil
  envOk_of (cf := cf195 n) tabOk hc he (draw := drawK (cf195 n)) (fun _ => drawK_ok tabOk mixed hc he) (d := 3) (lms := lms2 (lsl195 n)) hl
    (fun τs rs h => by
      simp only [M195] at h
      split at h
      · exact (ev195 n _).trans h
      · cases h)
/-! ### 131: impl.PackData -/
def sg131 : Sig := ⟨[(true, [.int .i64, .int .i64, .int .i64, .bool, .bool, .bool, .slice 5])], [.agg [(.int .i64, false), (.int .i64, false), (.int .i64, false), (.slice 5, false)]]⟩
def F131 (n : Nat) (x0 x1 x2 x3 x4 x5 x6 : T) : Option (List T) :=
  (F78 n x0).bind fun r1 => bif (!(r1.headD (.i 0)).B) then (some [.i 3, .i 0, .i 0, .l []]) else ((F153 n x1).bind fun r2 => bif (!(r2.headD (.i 0)).B) then (some [.i 3, .i 0, .i 0, .l []]) else ((F143 n x2).bind fun r3 => bif (!(r3.headD (.i 0)).B) then (some [.i 3, .i 0, .i 0, .l []]) else ((F130 n (.i (x6.L.length : Int)) (.i 1) (.i 100)).bind fun r4 => bif (!(r4.headD (.i 0)).B) then (some [.i 2, .i 0, .i 0, .l []]) else (bif x5.B then (bif (x2.I != 0) then (some [.i 1, .i 0, .i 0, .l []]) else ((F192 n x4 (.i 1)).bind fun r5 => (F192 n x3 (.i 2)).bind fun r6 => (F192 n x5 (.i 4)).bind fun r7 => (F194 n x0).bind fun r8 => (F195 n x1).bind fun r9 => (F195 n x2).bind fun r10 => (F193 n (.i 0) (.i (IntKind.wrap .i64 ((IntKind.wrap .i64 ((r5.headD (.i 0)).I + (r6.headD (.i 0)).I)) + (r7.headD (.i 0)).I))) (.l [(r8.headD (.i 0)), (r9.headD (.i 0)), (r10.headD (.i 0)), x6])).bind fun r11 => some [(r11.headD (.i 0)), (r11.tail.headD (.i 0)), (r11.tail.tail.headD (.i 0)), (r11.tail.tail.tail.headD (.i 0))])) else ((F192 n x4 (.i 1)).bind fun r12 => (F192 n x3 (.i 2)).bind fun r13 => (F192 n x5 (.i 4)).bind fun r14 => (F194 n x0).bind fun r15 => (F195 n x1).bind fun r16 => (F195 n x2).bind fun r17 => (F193 n (.i 0) (.i (IntKind.wrap .i64 ((IntKind.wrap .i64 ((r12.headD (.i 0)).I + (r13.headD (.i 0)).I)) + (r14.headD (.i 0)).I))) (.l [(r15.headD (.i 0)), (r16.headD (.i 0)), (r17.headD (.i 0)), x6])).bind fun r18 => some [(r18.headD (.i 0)), (r18.tail.headD (.i 0)), (r18.tail.tail.headD (.i 0)), (r18.tail.tail.tail.headD (.i 0))])))))
def M131 (n : Nat) (τs : List T) : Option (List T) := match τs with
  | [x0, x1, x2, x3, x4, x5, x6] => F131 n x0 x1 x2 x3 x4 x5 x6
  | _ => none
noncomputable def code131 : List (Nat × Func) := [(131, Go.Proofs.Try.f131)]
def env131 : List (Nat × (Sig × Mean)) := [(78, sg78, ⟨M78⟩), (130, sg130, ⟨M130⟩), (143, sg143, ⟨M143⟩), (153, sg153, ⟨M153⟩), (192, sg192, ⟨M192⟩), (193, sg193, ⟨M193⟩), (194, sg194, ⟨M194⟩), (195, sg195, ⟨M195⟩)]
def ann131 (f i : Nat) : Ann := match f, i with
  | _, _ => ⟨[], [], []⟩
def lsl131 (n : Nat) : List ((Nat × Nat) × (Nat → List LoopM)) := []
noncomputable def cf131 (n : Nat) : Cfg := ⟨tiOf tab, lookup code131, lookup env131, ann131, n⟩
theorem ev131 (n : Nat) (x0 x1 x2 x3 x4 x5 x6 : T) : evF (cf131 n) (drawK (cf131 n)) (lms2 (lsl131 n)) 3 131 sg131 [x0, x1, x2, x3, x4, x5, x6] = F131 n x0 x1 x2 x3 x4 x5 x6 := by kernel_rfl
theorem eo131 (n : Nat) : EnvOk Go.Proofs.Try.prog (tiOf tab) n 131 sg131 ⟨M131⟩ :=
  have hc : CodeOk Go.Proofs.Try.prog (cf131 n) := (code_cons Go.Proofs.Try.func131 (by kernel_rfl) code_nil)
  have he : EnvsOk Go.Proofs.Try.prog (cf131 n) := (env_cons (eo78 n) (env_cons (eo130 n) (env_cons (eo143 n) (env_cons (eo153 n) (env_cons (eo192 n) (env_cons (eo193 n) (env_cons (eo194 n) (env_cons (eo195 n) env_nil))))))))
  have hl : LmsOk (R := List T) (cf131 n) (drawK (cf131 n)) (lms2 (lsl131 n)) (lsl131 n) := lms_nil
  envOk_of (cf := cf131 n) tabOk hc he (draw := drawK (cf131 n)) (fun _ => drawK_ok tabOk mixed hc he) (d := 3) (lms := lms2 (lsl131 n)) hl
    (fun τs rs h => by
      simp only [M131] at h
      split at h
      · exact (ev131 n _ _ _ _ _ _ _).trans h
      · cases h)
/-! ### 202: impl.isTime -/
def sg202 : Sig := ⟨[(false, [.int .i64])], [.leaf .bool false]⟩
def F202 (n : Nat) (x0 : T) : Option (List T) :=
  (F130 n x0 (.i 0) (.i 1000000000)).bind fun r1 => some [(r1.headD (.i 0))]
def M202 (n : Nat) (τs : List T) : Option (List T) := match τs with
  | [x0] => F202 n x0
  | _ => none
noncomputable def code202 : List (Nat × Func) := [(202, Go.Proofs.Try.f202)]
def env202 : List (Nat × (Sig × Mean)) := [(130, sg130, ⟨M130⟩)]
def ann202 (f i : Nat) : Ann := match f, i with
  | _, _ => ⟨[], [], []⟩
def lsl202 (n : Nat) : List ((Nat × Nat) × (Nat → List LoopM)) := []
noncomputable def cf202 (n : Nat) : Cfg := ⟨tiOf tab, lookup code202, lookup env202, ann202, n⟩
theorem ev202 (n : Nat) (x0 : T) : evF (cf202 n) (drawK (cf202 n)) (lms2 (lsl202 n)) 3 202 sg202 [x0] = F202 n x0 := by kernel_rfl
theorem eo202 (n : Nat) : EnvOk Go.Proofs.Try.prog (tiOf tab) n 202 sg202 ⟨M202⟩ :=
  have hc : CodeOk Go.Proofs.Try.prog (cf202 n) := (code_cons Go.Proofs.Try.func202 (by kernel_rfl) code_nil)
  have he : EnvsOk Go.Proofs.Try.prog (cf202 n) := (env_cons (eo130 n) env_nil)
  have hl : LmsOk (R := List T) (cf202 n) (drawK (cf202 n)) (lms2 (lsl202 n)) (lsl202 n) := lms_nil
  envOk_of (cf := cf202 n) tabOk hc he (draw := drawK (cf202 n)) (fun _ => drawK_ok tabOk mixed hc he) (d := 3) (lms := lms2 (lsl202 n)) hl
    (fun τs rs h => by
      simp only [M202] at h
      split at h
      · exact (ev202 n _).trans h
      · cases h)
/-! ### 170: impl.Send).itemsCode -/
def sg170 : Sig := ⟨[(true, [.int .i64, .int .i64, .slice 2, .slice 203])], [.leaf (.int .i64) false]⟩
def G170_170_3 {R : Type} (n : Nat) (v : List T) (self : List T → Option R) (ex : List (List T → Option R)) : Option R :=
  bif (decide ((v.getD 3 (.i 0)).I < (v.getD 2 (.i 0)).I)) then (if 0 ≤ (v.getD 3 (.i 0)).I ∧ (v.getD 3 (.i 0)).I < (((v.getD 1 (.i 0)).L).length : Int) then ((F131 n ((at_ ((v.getD 1 (.i 0)).L) ((v.getD 3 (.i 0)).I)).F 0) ((at_ ((v.getD 1 (.i 0)).L) ((v.getD 3 (.i 0)).I)).F 1) ((at_ ((v.getD 1 (.i 0)).L) ((v.getD 3 (.i 0)).I)).F 2) ((at_ ((v.getD 1 (.i 0)).L) ((v.getD 3 (.i 0)).I)).F 3) ((at_ ((v.getD 1 (.i 0)).L) ((v.getD 3 (.i 0)).I)).F 4) ((at_ ((v.getD 1 (.i 0)).L) ((v.getD 3 (.i 0)).I)).F 5) ((at_ ((v.getD 1 (.i 0)).L) ((v.getD 3 (.i 0)).I)).F 6)).bind fun r1 => bif ((r1.headD (.i 0)).I != 0) then (exn ex 0 [.i ((r1.headD (.i 0)).I)]) else ((F130 n ((at_ ((v.getD 1 (.i 0)).L) ((v.getD 3 (.i 0)).I)).F 7) (.i 0) (.i 99)).bind fun r2 => bif (!(r2.headD (.i 0)).B) then (exn ex 0 [.i 3]) else ((F202 n ((at_ ((v.getD 1 (.i 0)).L) ((v.getD 3 (.i 0)).I)).F 8)).bind fun r3 => bif (!(r3.headD (.i 0)).B) then (exn ex 0 [.i 3]) else ((F169 n (.i ((v.getD 4 (.i 0)).I)) (.i ((v.getD 5 (.i 0)).I)) (.l ((v.getD 6 (.i 0)).L)) (.l ((v.getD 7 (.i 0)).L)) ((at_ ((v.getD 1 (.i 0)).L) ((v.getD 3 (.i 0)).I)).F 0)).bind fun r4 => bif (decide ((r4.headD (.i 0)).I ≤ (v.getD 0 (.i 0)).I)) then (exn ex 0 [.i 1]) else ((F169 n (.i ((v.getD 4 (.i 0)).I)) (.i ((v.getD 5 (.i 0)).I)) (.l ((v.getD 6 (.i 0)).L)) (.l ((v.getD 7 (.i 0)).L)) (.i ((v.getD 4 (.i 0)).I))).bind fun r5 => bif (decide ((r4.headD (.i 0)).I ≥ (r5.headD (.i 0)).I)) then (exn ex 0 [.i 1]) else (self [.i ((r4.headD (.i 0)).I), .l ((v.getD 1 (.i 0)).L), .i ((v.getD 2 (.i 0)).I), .i (IntKind.wrap .i64 ((v.getD 3 (.i 0)).I + 1)), .i ((v.getD 4 (.i 0)).I), .i ((v.getD 5 (.i 0)).I), .l ((v.getD 6 (.i 0)).L), .l ((v.getD 7 (.i 0)).L)])))))) else none) else (exn ex 1 [])
def L170_170_3 (n : Nat) : LoopM := ⟨⟨[[.un, .pb 0 0, .un, .t (.int .i64) (.i 0), .un, .un, .un, .un, .un, .t (.slice 203) (.i 0), .t (.int .i64) (.i 0), .t (.int .i64) (.i 0), .un, .un, .un, .un, .un, .un, .un, .un, .un, .un, .un, .un, .un, .un, .un, .un, .un, .un, .un, .un, .un, .un, .un, .un, .un, .un, .un, .un, .un, .un, .un, .un, .un, .un, .un, .un, .un, .un, .un]], [.box [.t (.int .i64) (.i 0), .t (.int .i64) (.i 0), .t (.slice 2) (.i 0), .t (.slice 203) (.i 0)]]⟩, [(.ret, ⟨[[.un, .un, .t (.int .i64) (.i 0), .un, .un, .un, .un, .un, .un, .un, .un, .un, .un, .un, .un, .un, .un, .un, .un, .un, .un, .un, .un, .un, .un, .un, .un, .un, .un, .un, .un, .un, .un, .un, .un, .un, .un, .un, .un, .un, .un, .un, .un, .un, .un, .un, .un, .un, .un, .un, .un]], []⟩), (.exit 0, ⟨[[.un, .un, .un, .un, .un, .un, .un, .un, .un, .un, .un, .un, .un, .un, .un, .un, .un, .un, .un, .un, .un, .un, .un, .un, .un, .un, .un, .un, .un, .un, .un, .un, .un, .un, .un, .un, .un, .un, .un, .un, .un, .un, .un, .un, .un, .un, .un, .un, .un, .un, .un]], []⟩)], fun v self ex => G170_170_3 n v self ex⟩
def F170 (n : Nat) (x0 x1 x2 x3 : T) : Option (List T) :=
  loopR (L170_170_3 n).G n [.i 0, .l x3.L, .i (x3.L.length : Int), .i 0, .i x0.I, .i x1.I, .l x2.L, .l x3.L] [fun u6 => some [.i ((u6.getD 0 (.i 0)).I)], fun u7 => some [.i 0]]
def M170 (n : Nat) (τs : List T) : Option (List T) := match τs with
  | [x0, x1, x2, x3] => F170 n x0 x1 x2 x3
  | _ => none
noncomputable def code170 : List (Nat × Func) := [(170, Go.Proofs.Try.f170)]
def env170 : List (Nat × (Sig × Mean)) := [(130, sg130, ⟨M130⟩), (131, sg131, ⟨M131⟩), (169, sg169, ⟨M169⟩), (202, sg202, ⟨M202⟩)]
def ann170 (f i : Nat) : Ann := match f, i with
  | 170, 3 => ⟨[(1, .any), (3, .any), (9, .any), (10, .any), (11, .any)], [], [(2, .any)]⟩
  | _, _ => ⟨[], [], []⟩
def lm170_170 (n : Nat) (i : Nat) : List LoopM := match i with
  | 3 => [L170_170_3 n]
  | _ => []
def lsl170 (n : Nat) : List ((Nat × Nat) × (Nat → List LoopM)) := [((3, 170), lm170_170 n)]
noncomputable def cf170 (n : Nat) : Cfg := ⟨tiOf tab, lookup code170, lookup env170, ann170, n⟩
theorem ev170 (n : Nat) (x0 x1 x2 x3 : T) : evF (cf170 n) (drawK (cf170 n)) (lms2 (lsl170 n)) 3 170 sg170 [x0, x1, x2, x3] = F170 n x0 x1 x2 x3 := by kernel_rfl
theorem lp170_170_3 (n : Nat) (K : Ex → St → Option (List T)) (self : List T → Option (List T)) (v : List T) : evC (cf170 n) (callK (cf170 n) (drawK (cf170 n)) (lms2 (lsl170 n)) 3) (drawK (cf170 n) (callK (cf170 n) (drawK (cf170 n)) (lms2 (lsl170 n)) 3)) (ann170 170) (lm170_170 n) (bodyOf Go.Proofs.Try.f170 3) ((L170_170_3 n).sk.fill v) (roundK (ann170 170 3) K (selfK (L170_170_3 n) self)) = (L170_170_3 n).G v self (exitK (L170_170_3 n) K) := by kernel_rfl
theorem eo170 (n : Nat) : EnvOk Go.Proofs.Try.prog (tiOf tab) n 170 sg170 ⟨M170⟩ :=
  have hc : CodeOk Go.Proofs.Try.prog (cf170 n) := (code_cons Go.Proofs.Try.func170 (by kernel_rfl) code_nil)
  have he : EnvsOk Go.Proofs.Try.prog (cf170 n) := (env_cons (eo130 n) (env_cons (eo131 n) (env_cons (eo169 n) (env_cons (eo202 n) env_nil))))
  have hl : LmsOk (R := List T) (cf170 n) (drawK (cf170 n)) (lms2 (lsl170 n)) (lsl170 n) := (lms_cons (loops_of (cf := cf170 n) (fn0 := Go.Proofs.Try.f170) rfl (l := [bodyOf Go.Proofs.Try.f170 3]) (by kernel_rfl) (loops_cons (b := bodyOf Go.Proofs.Try.f170 3) (by kernel_rfl) (rfl : lm170_170 n 3 = [L170_170_3 n]) (List.forall_mem_cons.2 ⟨fun K self v => lp170_170_3 n K self v, fun _ h => by cases h⟩) loops_nil)) lms_nil)
  envOk_of (cf := cf170 n) tabOk hc he (draw := drawK (cf170 n)) (fun _ => drawK_ok tabOk mixed hc he) (d := 3) (lms := lms2 (lsl170 n)) hl
    (fun τs rs h => by
      simp only [M170] at h
      split at h
      · exact (ev170 n _ _ _ _).trans h
      · cases h)
/-! ### 204: impl.arePairs$1 -/
def sg204 : Sig := ⟨[(false, [.int .i64])], [.leaf .bool false]⟩
def F204 (n : Nat) (x0 : T) : Option (List T) :=
  (F143 n x0).bind fun r1 => some [.b (!(r1.headD (.i 0)).B)]
def M204 (n : Nat) (τs : List T) : Option (List T) := match τs with
  | [x0] => F204 n x0
  | _ => none
noncomputable def code204 : List (Nat × Func) := [(204, Go.Proofs.Try.f204)]
def env204 : List (Nat × (Sig × Mean)) := [(143, sg143, ⟨M143⟩)]
def ann204 (f i : Nat) : Ann := match f, i with
  | _, _ => ⟨[], [], []⟩
def lsl204 (n : Nat) : List ((Nat × Nat) × (Nat → List LoopM)) := []
noncomputable def cf204 (n : Nat) : Cfg := ⟨tiOf tab, lookup code204, lookup env204, ann204, n⟩
theorem ev204 (n : Nat) (x0 : T) : evF (cf204 n) (drawK (cf204 n)) (lms2 (lsl204 n)) 3 204 sg204 [x0] = F204 n x0 := by kernel_rfl
theorem eo204 (n : Nat) : EnvOk Go.Proofs.Try.prog (tiOf tab) n 204 sg204 ⟨M204⟩ :=
  have hc : CodeOk Go.Proofs.Try.prog (cf204 n) := (code_cons Go.Proofs.Try.func204 (by kernel_rfl) code_nil)
  have he : EnvsOk Go.Proofs.Try.prog (cf204 n) := (env_cons (eo143 n) env_nil)
  have hl : LmsOk (R := List T) (cf204 n) (drawK (cf204 n)) (lms2 (lsl204 n)) (lsl204 n) := lms_nil
  envOk_of (cf := cf204 n) tabOk hc he (draw := drawK (cf204 n)) (fun _ => drawK_ok tabOk mixed hc he) (d := 3) (lms := lms2 (lsl204 n)) hl
    (fun τs rs h => by
      simp only [M204] at h
      split at h
      · exact (ev204 n _).trans h
      · cases h)
/-! ### 171: impl.arePairs -/
def sg171 : Sig := ⟨[(false, [.slice 2])], [.leaf .bool false]⟩
def G171_209_2 {R : Type} (n : Nat) (v : List T) (self : List T → Option R) (ex : List (List T → Option R)) : Option R :=
  bif (decide ((v.getD 2 (.i 0)).I < (v.getD 1 (.i 0)).I)) then (if 0 ≤ (v.getD 2 (.i 0)).I ∧ (v.getD 2 (.i 0)).I < (((v.getD 0 (.i 0)).L).length : Int) then ((F204 n (at_ ((v.getD 0 (.i 0)).L) ((v.getD 2 (.i 0)).I))).bind fun r1 => bif (r1.headD (.i 0)).B then (exn ex 0 [.i ((v.getD 2 (.i 0)).I), .l ((v.getD 3 (.i 0)).L), .b ((v.getD 4 (.i 0)).B), .l ((v.getD 5 (.i 0)).L), .l ((v.getD 6 (.i 0)).L), .b ((v.getD 7 (.i 0)).B), .l ((v.getD 8 (.i 0)).L)]) else (self [.l ((v.getD 0 (.i 0)).L), .i ((v.getD 1 (.i 0)).I), .i (IntKind.wrap .i64 ((v.getD 2 (.i 0)).I + 1)), .l ((v.getD 3 (.i 0)).L), .b ((v.getD 4 (.i 0)).B), .l ((v.getD 5 (.i 0)).L), .l ((v.getD 6 (.i 0)).L), .b ((v.getD 7 (.i 0)).B), .l ((v.getD 8 (.i 0)).L)])) else none) else (exn ex 1 [.l ((v.getD 3 (.i 0)).L), .b ((v.getD 4 (.i 0)).B), .l ((v.getD 5 (.i 0)).L), .l ((v.getD 6 (.i 0)).L), .b ((v.getD 7 (.i 0)).B), .l ((v.getD 8 (.i 0)).L)])
def L171_209_2 (n : Nat) : LoopM := ⟨⟨[[.t (.slice 2) (.i 0), .fn 204 [], .un, .un, .un, .un, .un, .t (.int .i64) (.i 0), .t (.int .i64) (.i 0), .un, .un, .un, .un, .un, .un, .un, .un, .un, .un], [.t (.slice 2) (.i 0), .fn 204 [], .tup [], .tup [], .t .bool (.i 0), .t (.slice 2) (.i 0), .fn 204 [], .tup [], .tup []], [.t (.slice 2) (.i 0), .tup [], .t .bool (.i 0), .t (.slice 2) (.i 0), .tup [], .tup []]], []⟩, [(.ret, ⟨[[.un, .un, .un, .un, .t (.int .i64) (.i 0), .un, .un, .un, .un, .un, .un, .un, .un, .un, .un, .un, .un, .un, .un], [.t (.slice 2) (.i 0), .fn 204 [], .tup [], .tup [], .t .bool (.i 0), .t (.slice 2) (.i 0), .fn 204 [], .tup [], .tup []], [.t (.slice 2) (.i 0), .tup [], .t .bool (.i 0), .t (.slice 2) (.i 0), .tup [], .tup []]], []⟩), (.exit 0, ⟨[[.un, .un, .un, .un, .un, .un, .un, .un, .un, .un, .un, .un, .un, .un, .un, .un, .un, .un, .un], [.t (.slice 2) (.i 0), .fn 204 [], .tup [], .tup [], .t .bool (.i 0), .t (.slice 2) (.i 0), .fn 204 [], .tup [], .tup []], [.t (.slice 2) (.i 0), .tup [], .t .bool (.i 0), .t (.slice 2) (.i 0), .tup [], .tup []]], []⟩)], fun v self ex => G171_209_2 n v self ex⟩
def F171 (n : Nat) (x0 : T) : Option (List T) :=
  loopR (L171_209_2 n).G n [.l x0.L, .i (x0.L.length : Int), .i 0, .l x0.L, .b false, .l x0.L, .l x0.L, .b false, .l x0.L] [fun u2 => some [.b (!(decide ((u2.getD 0 (.i 0)).I ≥ 0)))], fun u3 => some [.b true]]
def M171 (n : Nat) (τs : List T) : Option (List T) := match τs with
  | [x0] => F171 n x0
  | _ => none
noncomputable def code171 : List (Nat × Func) := [(171, Go.Proofs.Try.f171), (203, Go.Proofs.Try.f203), (209, Go.Proofs.Try.f209)]
def env171 : List (Nat × (Sig × Mean)) := [(204, sg204, ⟨M204⟩)]
def ann171 (f i : Nat) : Ann := match f, i with
  | 209, 2 => ⟨[(0, .any), (1, .any), (7, .any), (8, .any)], [], [(4, .any)]⟩
  | _, _ => ⟨[], [], []⟩
def lm171_209 (n : Nat) (i : Nat) : List LoopM := match i with
  | 2 => [L171_209_2 n]
  | _ => []
def lsl171 (n : Nat) : List ((Nat × Nat) × (Nat → List LoopM)) := [((1, 209), lm171_209 n)]
noncomputable def cf171 (n : Nat) : Cfg := ⟨tiOf tab, lookup code171, lookup env171, ann171, n⟩
theorem ev171 (n : Nat) (x0 : T) : evF (cf171 n) (drawK (cf171 n)) (lms2 (lsl171 n)) 3 171 sg171 [x0] = F171 n x0 := by kernel_rfl
theorem lp171_209_2 (n : Nat) (K : Ex → St → Option (List T)) (self : List T → Option (List T)) (v : List T) : evC (cf171 n) (callK (cf171 n) (drawK (cf171 n)) (lms2 (lsl171 n)) 1) (drawK (cf171 n) (callK (cf171 n) (drawK (cf171 n)) (lms2 (lsl171 n)) 1)) (ann171 209) (lm171_209 n) (bodyOf Go.Proofs.Try.f209 2) ((L171_209_2 n).sk.fill v) (roundK (ann171 209 2) K (selfK (L171_209_2 n) self)) = (L171_209_2 n).G v self (exitK (L171_209_2 n) K) := by kernel_rfl
theorem eo171 (n : Nat) : EnvOk Go.Proofs.Try.prog (tiOf tab) n 171 sg171 ⟨M171⟩ :=
  have hc : CodeOk Go.Proofs.Try.prog (cf171 n) := (code_cons Go.Proofs.Try.func171 (by kernel_rfl) (code_cons Go.Proofs.Try.func203 (by kernel_rfl) (code_cons Go.Proofs.Try.func209 (by kernel_rfl) code_nil)))
  have he : EnvsOk Go.Proofs.Try.prog (cf171 n) := (env_cons (eo204 n) env_nil)
  have hl : LmsOk (R := List T) (cf171 n) (drawK (cf171 n)) (lms2 (lsl171 n)) (lsl171 n) := (lms_cons (loops_of (cf := cf171 n) (fn0 := Go.Proofs.Try.f209) rfl (l := [bodyOf Go.Proofs.Try.f209 2]) (by kernel_rfl) (loops_cons (b := bodyOf Go.Proofs.Try.f209 2) (by kernel_rfl) (rfl : lm171_209 n 2 = [L171_209_2 n]) (List.forall_mem_cons.2 ⟨fun K self v => lp171_209_2 n K self v, fun _ h => by cases h⟩) loops_nil)) lms_nil)
  envOk_of (cf := cf171 n) tabOk hc he (draw := drawK (cf171 n)) (fun _ => drawK_ok tabOk mixed hc he) (d := 3) (lms := lms2 (lsl171 n)) hl
    (fun τs rs h => by
      simp only [M171] at h
      split at h
      · exact (ev171 n _).trans h
      · cases h)
/-! ### 74: impl.SendFault -/
def sg74 : Sig := ⟨[(true, [.int .i64, .int .i64, .slice 2, .slice 203])], [.leaf (.int .i64) false]⟩
def F74 (n : Nat) (x0 x1 x2 x3 : T) : Option (List T) :=
  (F168 n (.l [x0, x1])).bind fun r1 => bif (!(r1.headD (.i 0)).B) then (some [.i 3]) else (bif (decide ((x3.L.length : Int) > 40)) then (some [.i 2]) else (bif ((x2.L.length : Int) != 10) then (some [.i 2]) else ((F169 n x0 x1 x2 x3 x0).bind fun r2 => (F130 n (r2.headD (.i 0)) (.i 1) (.i 1000)).bind fun r3 => bif (!(r3.headD (.i 0)).B) then (some [.i 1]) else ((F170 n x0 x1 x2 x3).bind fun r4 => bif ((r4.headD (.i 0)).I != 0) then (some [(r4.headD (.i 0))]) else ((F171 n x2).bind fun r5 => bif (!(r5.headD (.i 0)).B) then (some [.i 3]) else (some [.i 0]))))))
def M74 (n : Nat) (τs : List T) : Option (List T) := match τs with
  | [x0, x1, x2, x3] => F74 n x0 x1 x2 x3
  | _ => none
noncomputable def code74 : List (Nat × Func) := [(74, Go.Proofs.Try.f74)]
def env74 : List (Nat × (Sig × Mean)) := [(130, sg130, ⟨M130⟩), (168, sg168, ⟨M168⟩), (169, sg169, ⟨M169⟩), (170, sg170, ⟨M170⟩), (171, sg171, ⟨M171⟩)]
def ann74 (f i : Nat) : Ann := match f, i with
  | _, _ => ⟨[], [], []⟩
def lsl74 (n : Nat) : List ((Nat × Nat) × (Nat → List LoopM)) := []
noncomputable def cf74 (n : Nat) : Cfg := ⟨tiOf tab, lookup code74, lookup env74, ann74, n⟩
theorem ev74 (n : Nat) (x0 x1 x2 x3 : T) : evF (cf74 n) (drawK (cf74 n)) (lms2 (lsl74 n)) 3 74 sg74 [x0, x1, x2, x3] = F74 n x0 x1 x2 x3 := by kernel_rfl
theorem eo74 (n : Nat) : EnvOk Go.Proofs.Try.prog (tiOf tab) n 74 sg74 ⟨M74⟩ :=
  have hc : CodeOk Go.Proofs.Try.prog (cf74 n) := (code_cons Go.Proofs.Try.func74 (by kernel_rfl) code_nil)
  have he : EnvsOk Go.Proofs.Try.prog (cf74 n) := (env_cons (eo130 n) (env_cons (eo168 n) (env_cons (eo169 n) (env_cons (eo170 n) (env_cons (eo171 n) env_nil)))))
  have hl : LmsOk (R := List T) (cf74 n) (drawK (cf74 n)) (lms2 (lsl74 n)) (lsl74 n) := lms_nil
  envOk_of (cf := cf74 n) tabOk hc he (draw := drawK (cf74 n)) (fun _ => drawK_ok tabOk mixed hc he) (d := 3) (lms := lms2 (lsl74 n)) hl
    (fun τs rs h => by
      simp only [M74] at h
      split at h
      · exact (ev74 n _ _ _ _).trans h
      · cases h)
/-! ### 112: laws.eqInt64S -/
def sg112 : Sig := ⟨[(false, [.slice 2]), (false, [.slice 2])], [.leaf .bool false]⟩
def G112_112_4 {R : Type} (n : Nat) (v : List T) (self : List T → Option R) (ex : List (List T → Option R)) : Option R :=
  bif (decide ((v.getD 2 (.i 0)).I < ((((v.getD 0 (.i 0)).L).length : Nat) : Int))) then (if 0 ≤ (v.getD 2 (.i 0)).I ∧ (v.getD 2 (.i 0)).I < (((v.getD 0 (.i 0)).L).length : Int) then (if 0 ≤ (v.getD 2 (.i 0)).I ∧ (v.getD 2 (.i 0)).I < (((v.getD 1 (.i 0)).L).length : Int) then (bif ((at_ ((v.getD 0 (.i 0)).L) ((v.getD 2 (.i 0)).I)).I != (at_ ((v.getD 1 (.i 0)).L) ((v.getD 2 (.i 0)).I)).I) then (exn ex 0 [.b false]) else (self [.l ((v.getD 0 (.i 0)).L), .l ((v.getD 1 (.i 0)).L), .i (IntKind.wrap .i64 ((v.getD 2 (.i 0)).I + 1))])) else none) else none) else (exn ex 1 [])
def L112_112_4 (n : Nat) : LoopM := ⟨⟨[[.t (.slice 2) (.i 0), .t (.slice 2) (.i 0), .un, .un, .un, .t (.int .i64) (.i 0), .un, .un, .un, .un, .un, .un, .un, .un, .un, .un, .un, .un, .un, .un, .un, .un, .un, .un, .un, .un]], []⟩, [(.ret, ⟨[[.un, .un, .un, .un, .t .bool (.i 0), .un, .un, .un, .un, .un, .un, .un, .un, .un, .un, .un, .un, .un, .un, .un, .un, .un, .un, .un, .un, .un]], []⟩), (.exit 0, ⟨[[.un, .un, .un, .un, .un, .un, .un, .un, .un, .un, .un, .un, .un, .un, .un, .un, .un, .un, .un, .un, .un, .un, .un, .un, .un, .un]], []⟩)], fun v self ex => G112_112_4 n v self ex⟩
def F112 (n : Nat) (x0 x1 : T) : Option (List T) :=
  bif ((x0.L.length : Int) != (x1.L.length : Int)) then (some [.b false]) else (loopR (L112_112_4 n).G n [.l x0.L, .l x1.L, .i 0] [fun u1 => some [.b ((u1.getD 0 (.i 0)).B)], fun u2 => some [.b true]])
def M112 (n : Nat) (τs : List T) : Option (List T) := match τs with
  | [x0, x1] => F112 n x0 x1
  | _ => none
noncomputable def code112 : List (Nat × Func) := [(112, Go.Proofs.Try.f112)]
def env112 : List (Nat × (Sig × Mean)) := []
def ann112 (f i : Nat) : Ann := match f, i with
  | 112, 4 => ⟨[(0, .any), (1, .any), (5, .any)], [], [(4, .any)]⟩
  | _, _ => ⟨[], [], []⟩
def lm112_112 (n : Nat) (i : Nat) : List LoopM := match i with
  | 4 => [L112_112_4 n]
  | _ => []
def lsl112 (n : Nat) : List ((Nat × Nat) × (Nat → List LoopM)) := [((3, 112), lm112_112 n)]
noncomputable def cf112 (n : Nat) : Cfg := ⟨tiOf tab, lookup code112, lookup env112, ann112, n⟩
theorem ev112 (n : Nat) (x0 x1 : T) : evF (cf112 n) (drawK (cf112 n)) (lms2 (lsl112 n)) 3 112 sg112 [x0, x1] = F112 n x0 x1 := by kernel_rfl
theorem lp112_112_4 (n : Nat) (K : Ex → St → Option (List T)) (self : List T → Option (List T)) (v : List T) : evC (cf112 n) (callK (cf112 n) (drawK (cf112 n)) (lms2 (lsl112 n)) 3) (drawK (cf112 n) (callK (cf112 n) (drawK (cf112 n)) (lms2 (lsl112 n)) 3)) (ann112 112) (lm112_112 n) (bodyOf Go.Proofs.Try.f112 4) ((L112_112_4 n).sk.fill v) (roundK (ann112 112 4) K (selfK (L112_112_4 n) self)) = (L112_112_4 n).G v self (exitK (L112_112_4 n) K) := by kernel_rfl
theorem eo112 (n : Nat) : EnvOk Go.Proofs.Try.prog (tiOf tab) n 112 sg112 ⟨M112⟩ :=
  have hc : CodeOk Go.Proofs.Try.prog (cf112 n) := (code_cons Go.Proofs.Try.func112 (by kernel_rfl) code_nil)
  have he : EnvsOk Go.Proofs.Try.prog (cf112 n) := env_nil
  have hl : LmsOk (R := List T) (cf112 n) (drawK (cf112 n)) (lms2 (lsl112 n)) (lsl112 n) := (lms_cons (loops_of (cf := cf112 n) (fn0 := Go.Proofs.Try.f112) rfl (l := [bodyOf Go.Proofs.Try.f112 4]) (by kernel_rfl) (loops_cons (b := bodyOf Go.Proofs.Try.f112 4) (by kernel_rfl) (rfl : lm112_112 n 4 = [L112_112_4 n]) (List.forall_mem_cons.2 ⟨fun K self v => lp112_112_4 n K self v, fun _ h => by cases h⟩) loops_nil)) lms_nil)
  envOk_of (cf := cf112 n) tabOk hc he (draw := drawK (cf112 n)) (fun _ => drawK_ok tabOk mixed hc he) (d := 3) (lms := lms2 (lsl112 n)) hl
    (fun τs rs h => by
      simp only [M112] at h
      split at h
      · exact (ev112 n _ _).trans h
      · cases h)
/-! ### 196: laws.eqByteS -/
def sg196 : Sig := ⟨[(false, [.slice 5]), (false, [.slice 5])], [.leaf .bool false]⟩
def G196_196_4 {R : Type} (n : Nat) (v : List T) (self : List T → Option R) (ex : List (List T → Option R)) : Option R :=
  bif (decide ((v.getD 2 (.i 0)).I < ((((v.getD 0 (.i 0)).L).length : Nat) : Int))) then (if 0 ≤ (v.getD 2 (.i 0)).I ∧ (v.getD 2 (.i 0)).I < (((v.getD 0 (.i 0)).L).length : Int) then (if 0 ≤ (v.getD 2 (.i 0)).I ∧ (v.getD 2 (.i 0)).I < (((v.getD 1 (.i 0)).L).length : Int) then (bif ((at_ ((v.getD 0 (.i 0)).L) ((v.getD 2 (.i 0)).I)).I != (at_ ((v.getD 1 (.i 0)).L) ((v.getD 2 (.i 0)).I)).I) then (exn ex 0 [.b false]) else (self [.l ((v.getD 0 (.i 0)).L), .l ((v.getD 1 (.i 0)).L), .i (IntKind.wrap .i64 ((v.getD 2 (.i 0)).I + 1))])) else none) else none) else (exn ex 1 [])
def L196_196_4 (n : Nat) : LoopM := ⟨⟨[[.t (.slice 5) (.i 0), .t (.slice 5) (.i 0), .un, .un, .un, .t (.int .i64) (.i 0), .un, .un, .un, .un, .un, .un, .un, .un, .un, .un, .un, .un, .un, .un, .un, .un, .un, .un, .un, .un]], []⟩, [(.ret, ⟨[[.un, .un, .un, .un, .t .bool (.i 0), .un, .un, .un, .un, .un, .un, .un, .un, .un, .un, .un, .un, .un, .un, .un, .un, .un, .un, .un, .un, .un]], []⟩), (.exit 0, ⟨[[.un, .un, .un, .un, .un, .un, .un, .un, .un, .un, .un, .un, .un, .un, .un, .un, .un, .un, .un, .un, .un, .un, .un, .un, .un, .un]], []⟩)], fun v self ex => G196_196_4 n v self ex⟩
def F196 (n : Nat) (x0 x1 : T) : Option (List T) :=
  bif ((x0.L.length : Int) != (x1.L.length : Int)) then (some [.b false]) else (loopR (L196_196_4 n).G n [.l x0.L, .l x1.L, .i 0] [fun u1 => some [.b ((u1.getD 0 (.i 0)).B)], fun u2 => some [.b true]])
def M196 (n : Nat) (τs : List T) : Option (List T) := match τs with
  | [x0, x1] => F196 n x0 x1
  | _ => none
noncomputable def code196 : List (Nat × Func) := [(196, Go.Proofs.Try.f196)]
def env196 : List (Nat × (Sig × Mean)) := []
def ann196 (f i : Nat) : Ann := match f, i with
  | 196, 4 => ⟨[(0, .any), (1, .any), (5, .any)], [], [(4, .any)]⟩
  | _, _ => ⟨[], [], []⟩
def lm196_196 (n : Nat) (i : Nat) : List LoopM := match i with
  | 4 => [L196_196_4 n]
  | _ => []
def lsl196 (n : Nat) : List ((Nat × Nat) × (Nat → List LoopM)) := [((3, 196), lm196_196 n)]
noncomputable def cf196 (n : Nat) : Cfg := ⟨tiOf tab, lookup code196, lookup env196, ann196, n⟩
theorem ev196 (n : Nat) (x0 x1 : T) : evF (cf196 n) (drawK (cf196 n)) (lms2 (lsl196 n)) 3 196 sg196 [x0, x1] = F196 n x0 x1 := by kernel_rfl
theorem lp196_196_4 (n : Nat) (K : Ex → St → Option (List T)) (self : List T → Option (List T)) (v : List T) : evC (cf196 n) (callK (cf196 n) (drawK (cf196 n)) (lms2 (lsl196 n)) 3) (drawK (cf196 n) (callK (cf196 n) (drawK (cf196 n)) (lms2 (lsl196 n)) 3)) (ann196 196) (lm196_196 n) (bodyOf Go.Proofs.Try.f196 4) ((L196_196_4 n).sk.fill v) (roundK (ann196 196 4) K (selfK (L196_196_4 n) self)) = (L196_196_4 n).G v self (exitK (L196_196_4 n) K) := by kernel_rfl
theorem eo196 (n : Nat) : EnvOk Go.Proofs.Try.prog (tiOf tab) n 196 sg196 ⟨M196⟩ :=
  have hc : CodeOk Go.Proofs.Try.prog (cf196 n) := (code_cons Go.Proofs.Try.func196 (by kernel_rfl) code_nil)
  have he : EnvsOk Go.Proofs.Try.prog (cf196 n) := env_nil
  have hl : LmsOk (R := List T) (cf196 n) (drawK (cf196 n)) (lms2 (lsl196 n)) (lsl196 n) := (lms_cons (loops_of (cf := cf196 n) (fn0 := Go.Proofs.Try.f196) rfl (l := [bodyOf Go.Proofs.Try.f196 4]) (by kernel_rfl) (loops_cons (b := bodyOf Go.Proofs.Try.f196 4) (by kernel_rfl) (rfl : lm196_196 n 4 = [L196_196_4 n]) (List.forall_mem_cons.2 ⟨fun K self v => lp196_196_4 n K self v, fun _ h => by cases h⟩) loops_nil)) lms_nil)
  envOk_of (cf := cf196 n) tabOk hc he (draw := drawK (cf196 n)) (fun _ => drawK_ok tabOk mixed hc he) (d := 3) (lms := lms2 (lsl196 n)) hl
    (fun τs rs h => by
      simp only [M196] at h
      split at h
      · exact (ev196 n _ _).trans h
      · cases h)
/-! ### 134: laws.eqData -/
def sg134 : Sig := ⟨[(true, [.int .i64, .int .i64, .int .i64, .bool, .bool, .bool, .slice 5]), (true, [.int .i64, .int .i64, .int .i64, .bool, .bool, .bool, .slice 5])], [.leaf .bool false]⟩
def F134 (n : Nat) (x0 x1 x2 x3 x4 x5 x6 x7 x8 x9 x10 x11 x12 x13 : T) : Option (List T) :=
  bif (x0.I != x7.I) then (some [.b false]) else (bif (x1.I != x8.I) then (some [.b false]) else (bif (x2.I != x9.I) then (some [.b false]) else (bif (!(x3.B == x10.B)) then (some [.b false]) else (bif (!(x4.B == x11.B)) then (some [.b false]) else (bif (!(x5.B == x12.B)) then (some [.b false]) else ((F196 n x6 x13).bind fun r1 => bif (!(r1.headD (.i 0)).B) then (some [.b false]) else (some [.b true])))))))
def M134 (n : Nat) (τs : List T) : Option (List T) := match τs with
  | [x0, x1, x2, x3, x4, x5, x6, x7, x8, x9, x10, x11, x12, x13] => F134 n x0 x1 x2 x3 x4 x5 x6 x7 x8 x9 x10 x11 x12 x13
  | _ => none
noncomputable def code134 : List (Nat × Func) := [(134, Go.Proofs.Try.f134)]
def env134 : List (Nat × (Sig × Mean)) := [(196, sg196, ⟨M196⟩)]
def ann134 (f i : Nat) : Ann := match f, i with
  | _, _ => ⟨[], [], []⟩
def lsl134 (n : Nat) : List ((Nat × Nat) × (Nat → List LoopM)) := []
noncomputable def cf134 (n : Nat) : Cfg := ⟨tiOf tab, lookup code134, lookup env134, ann134, n⟩
theorem ev134 (n : Nat) (x0 x1 x2 x3 x4 x5 x6 x7 x8 x9 x10 x11 x12 x13 : T) : evF (cf134 n) (drawK (cf134 n)) (lms2 (lsl134 n)) 3 134 sg134 [x0, x1, x2, x3, x4, x5, x6, x7, x8, x9, x10, x11, x12, x13] = F134 n x0 x1 x2 x3 x4 x5 x6 x7 x8 x9 x10 x11 x12 x13 := by kernel_rfl
theorem eo134 (n : Nat) : EnvOk Go.Proofs.Try.prog (tiOf tab) n 134 sg134 ⟨M134⟩ :=
  have hc : CodeOk Go.Proofs.Try.prog (cf134 n) := (code_cons Go.Proofs.Try.func134 (by kernel_rfl) code_nil)
  have he : EnvsOk Go.Proofs.Try.prog (cf134 n) := (env_cons (eo196 n) env_nil)
  have hl : LmsOk (R := List T) (cf134 n) (drawK (cf134 n)) (lms2 (lsl134 n)) (lsl134 n) := lms_nil
  envOk_of (cf := cf134 n) tabOk hc he (draw := drawK (cf134 n)) (fun _ => drawK_ok tabOk mixed hc he) (d := 3) (lms := lms2 (lsl134 n)) hl
    (fun τs rs h => by
      simp only [M134] at h
      split at h
      · exact (ev134 n _ _ _ _ _ _ _ _ _ _ _ _ _ _).trans h
      · cases h)
/-! ### 205: laws.eqSendItem -/
def sg205 : Sig := ⟨[(true, [.int .i64, .int .i64, .int .i64, .bool, .bool, .bool, .slice 5, .int .i64, .int .i64]), (true, [.int .i64, .int .i64, .int .i64, .bool, .bool, .bool, .slice 5, .int .i64, .int .i64])], [.leaf .bool false]⟩
def F205 (n : Nat) (x0 x1 x2 x3 x4 x5 x6 x7 x8 x9 x10 x11 x12 x13 x14 x15 x16 x17 : T) : Option (List T) :=
  (F134 n x0 x1 x2 x3 x4 x5 x6 x9 x10 x11 x12 x13 x14 x15).bind fun r1 => bif (!(r1.headD (.i 0)).B) then (some [.b false]) else (bif (x7.I != x16.I) then (some [.b false]) else (bif (x8.I != x17.I) then (some [.b false]) else (some [.b true])))
def M205 (n : Nat) (τs : List T) : Option (List T) := match τs with
  | [x0, x1, x2, x3, x4, x5, x6, x7, x8, x9, x10, x11, x12, x13, x14, x15, x16, x17] => F205 n x0 x1 x2 x3 x4 x5 x6 x7 x8 x9 x10 x11 x12 x13 x14 x15 x16 x17
  | _ => none
noncomputable def code205 : List (Nat × Func) := [(205, Go.Proofs.Try.f205)]
def env205 : List (Nat × (Sig × Mean)) := [(134, sg134, ⟨M134⟩)]
def ann205 (f i : Nat) : Ann := match f, i with
  | _, _ => ⟨[], [], []⟩
def lsl205 (n : Nat) : List ((Nat × Nat) × (Nat → List LoopM)) := []
noncomputable def cf205 (n : Nat) : Cfg := ⟨tiOf tab, lookup code205, lookup env205, ann205, n⟩
theorem ev205 (n : Nat) (x0 x1 x2 x3 x4 x5 x6 x7 x8 x9 x10 x11 x12 x13 x14 x15 x16 x17 : T) : evF (cf205 n) (drawK (cf205 n)) (lms2 (lsl205 n)) 3 205 sg205 [x0, x1, x2, x3, x4, x5, x6, x7, x8, x9, x10, x11, x12, x13, x14, x15, x16, x17] = F205 n x0 x1 x2 x3 x4 x5 x6 x7 x8 x9 x10 x11 x12 x13 x14 x15 x16 x17 := by kernel_rfl
theorem eo205 (n : Nat) : EnvOk Go.Proofs.Try.prog (tiOf tab) n 205 sg205 ⟨M205⟩ :=
  have hc : CodeOk Go.Proofs.Try.prog (cf205 n) := (code_cons Go.Proofs.Try.func205 (by kernel_rfl) code_nil)
  have he : EnvsOk Go.Proofs.Try.prog (cf205 n) := (env_cons (eo134 n) env_nil)
  have hl : LmsOk (R := List T) (cf205 n) (drawK (cf205 n)) (lms2 (lsl205 n)) (lsl205 n) := lms_nil
  envOk_of (cf := cf205 n) tabOk hc he (draw := drawK (cf205 n)) (fun _ => drawK_ok tabOk mixed hc he) (d := 3) (lms := lms2 (lsl205 n)) hl
    (fun τs rs h => by
      simp only [M205] at h
      split at h
      · exact (ev205 n _ _ _ _ _ _ _ _ _ _ _ _ _ _ _ _ _ _).trans h
      · cases h)
/-! ### 172: laws.eqSendItemS -/
def sg172 : Sig := ⟨[(false, [.slice 203]), (false, [.slice 203])], [.leaf .bool false]⟩
def G172_172_4 {R : Type} (n : Nat) (v : List T) (self : List T → Option R) (ex : List (List T → Option R)) : Option R :=
  bif (decide ((v.getD 2 (.i 0)).I < ((((v.getD 0 (.i 0)).L).length : Nat) : Int))) then (if 0 ≤ (v.getD 2 (.i 0)).I ∧ (v.getD 2 (.i 0)).I < (((v.getD 0 (.i 0)).L).length : Int) then (if 0 ≤ (v.getD 2 (.i 0)).I ∧ (v.getD 2 (.i 0)).I < (((v.getD 1 (.i 0)).L).length : Int) then ((F205 n ((at_ ((v.getD 0 (.i 0)).L) ((v.getD 2 (.i 0)).I)).F 0) ((at_ ((v.getD 0 (.i 0)).L) ((v.getD 2 (.i 0)).I)).F 1) ((at_ ((v.getD 0 (.i 0)).L) ((v.getD 2 (.i 0)).I)).F 2) ((at_ ((v.getD 0 (.i 0)).L) ((v.getD 2 (.i 0)).I)).F 3) ((at_ ((v.getD 0 (.i 0)).L) ((v.getD 2 (.i 0)).I)).F 4) ((at_ ((v.getD 0 (.i 0)).L) ((v.getD 2 (.i 0)).I)).F 5) ((at_ ((v.getD 0 (.i 0)).L) ((v.getD 2 (.i 0)).I)).F 6) ((at_ ((v.getD 0 (.i 0)).L) ((v.getD 2 (.i 0)).I)).F 7) ((at_ ((v.getD 0 (.i 0)).L) ((v.getD 2 (.i 0)).I)).F 8) ((at_ ((v.getD 1 (.i 0)).L) ((v.getD 2 (.i 0)).I)).F 0) ((at_ ((v.getD 1 (.i 0)).L) ((v.getD 2 (.i 0)).I)).F 1) ((at_ ((v.getD 1 (.i 0)).L) ((v.getD 2 (.i 0)).I)).F 2) ((at_ ((v.getD 1 (.i 0)).L) ((v.getD 2 (.i 0)).I)).F 3) ((at_ ((v.getD 1 (.i 0)).L) ((v.getD 2 (.i 0)).I)).F 4) ((at_ ((v.getD 1 (.i 0)).L) ((v.getD 2 (.i 0)).I)).F 5) ((at_ ((v.getD 1 (.i 0)).L) ((v.getD 2 (.i 0)).I)).F 6) ((at_ ((v.getD 1 (.i 0)).L) ((v.getD 2 (.i 0)).I)).F 7) ((at_ ((v.getD 1 (.i 0)).L) ((v.getD 2 (.i 0)).I)).F 8)).bind fun r1 => bif (!(r1.headD (.i 0)).B) then (exn ex 0 [.b false]) else (self [.l ((v.getD 0 (.i 0)).L), .l ((v.getD 1 (.i 0)).L), .i (IntKind.wrap .i64 ((v.getD 2 (.i 0)).I + 1))])) else none) else none) else (exn ex 1 [])
def L172_172_4 (n : Nat) : LoopM := ⟨⟨[[.t (.slice 203) (.i 0), .t (.slice 203) (.i 0), .un, .un, .un, .t (.int .i64) (.i 0), .un, .un, .un, .un, .un, .un, .un, .un, .un, .un, .un, .un, .un, .un, .un, .un, .un, .un, .un, .un, .un]], []⟩, [(.ret, ⟨[[.un, .un, .un, .un, .t .bool (.i 0), .un, .un, .un, .un, .un, .un, .un, .un, .un, .un, .un, .un, .un, .un, .un, .un, .un, .un, .un, .un, .un, .un]], []⟩), (.exit 0, ⟨[[.un, .un, .un, .un, .un, .un, .un, .un, .un, .un, .un, .un, .un, .un, .un, .un, .un, .un, .un, .un, .un, .un, .un, .un, .un, .un, .un]], []⟩)], fun v self ex => G172_172_4 n v self ex⟩
def F172 (n : Nat) (x0 x1 : T) : Option (List T) :=
  bif ((x0.L.length : Int) != (x1.L.length : Int)) then (some [.b false]) else (loopR (L172_172_4 n).G n [.l x0.L, .l x1.L, .i 0] [fun u2 => some [.b ((u2.getD 0 (.i 0)).B)], fun u3 => some [.b true]])
def M172 (n : Nat) (τs : List T) : Option (List T) := match τs with
  | [x0, x1] => F172 n x0 x1
  | _ => none
noncomputable def code172 : List (Nat × Func) := [(172, Go.Proofs.Try.f172)]
def env172 : List (Nat × (Sig × Mean)) := [(205, sg205, ⟨M205⟩)]
def ann172 (f i : Nat) : Ann := match f, i with
  | 172, 4 => ⟨[(0, .any), (1, .any), (5, .any)], [], [(4, .any)]⟩
  | _, _ => ⟨[], [], []⟩
def lm172_172 (n : Nat) (i : Nat) : List LoopM := match i with
  | 4 => [L172_172_4 n]
  | _ => []
def lsl172 (n : Nat) : List ((Nat × Nat) × (Nat → List LoopM)) := [((3, 172), lm172_172 n)]
noncomputable def cf172 (n : Nat) : Cfg := ⟨tiOf tab, lookup code172, lookup env172, ann172, n⟩
theorem ev172 (n : Nat) (x0 x1 : T) : evF (cf172 n) (drawK (cf172 n)) (lms2 (lsl172 n)) 3 172 sg172 [x0, x1] = F172 n x0 x1 := by kernel_rfl
theorem lp172_172_4 (n : Nat) (K : Ex → St → Option (List T)) (self : List T → Option (List T)) (v : List T) : evC (cf172 n) (callK (cf172 n) (drawK (cf172 n)) (lms2 (lsl172 n)) 3) (drawK (cf172 n) (callK (cf172 n) (drawK (cf172 n)) (lms2 (lsl172 n)) 3)) (ann172 172) (lm172_172 n) (bodyOf Go.Proofs.Try.f172 4) ((L172_172_4 n).sk.fill v) (roundK (ann172 172 4) K (selfK (L172_172_4 n) self)) = (L172_172_4 n).G v self (exitK (L172_172_4 n) K) := by kernel_rfl
theorem eo172 (n : Nat) : EnvOk Go.Proofs.Try.prog (tiOf tab) n 172 sg172 ⟨M172⟩ :=
  have hc : CodeOk Go.Proofs.Try.prog (cf172 n) := (code_cons Go.Proofs.Try.func172 (by kernel_rfl) code_nil)
  have he : EnvsOk Go.Proofs.Try.prog (cf172 n) := (env_cons (eo205 n) env_nil)
  have hl : LmsOk (R := List T) (cf172 n) (drawK (cf172 n)) (lms2 (lsl172 n)) (lsl172 n) := (lms_cons (loops_of (cf := cf172 n) (fn0 := Go.Proofs.Try.f172) rfl (l := [bodyOf Go.Proofs.Try.f172 4]) (by kernel_rfl) (loops_cons (b := bodyOf Go.Proofs.Try.f172 4) (by kernel_rfl) (rfl : lm172_172 n 4 = [L172_172_4 n]) (List.forall_mem_cons.2 ⟨fun K self v => lp172_172_4 n K self v, fun _ h => by cases h⟩) loops_nil)) lms_nil)
  envOk_of (cf := cf172 n) tabOk hc he (draw := drawK (cf172 n)) (fun _ => drawK_ok tabOk mixed hc he) (d := 3) (lms := lms2 (lsl172 n)) hl
    (fun τs rs h => by
      simp only [M172] at h
      split at h
      · exact (ev172 n _ _).trans h
      · cases h)
/-! ### 75: laws.eqSend -/
def sg75 : Sig := ⟨[(true, [.int .i64, .int .i64, .slice 2, .slice 203]), (true, [.int .i64, .int .i64, .slice 2, .slice 203])], [.leaf .bool false]⟩
def F75 (n : Nat) (x0 x1 x2 x3 x4 x5 x6 x7 : T) : Option (List T) :=
  bif (x0.I != x4.I) then (some [.b false]) else (bif (x1.I != x5.I) then (some [.b false]) else ((F112 n x2 x6).bind fun r1 => bif (!(r1.headD (.i 0)).B) then (some [.b false]) else ((F172 n x3 x7).bind fun r2 => bif (!(r2.headD (.i 0)).B) then (some [.b false]) else (some [.b true]))))
def M75 (n : Nat) (τs : List T) : Option (List T) := match τs with
  | [x0, x1, x2, x3, x4, x5, x6, x7] => F75 n x0 x1 x2 x3 x4 x5 x6 x7
  | _ => none
noncomputable def code75 : List (Nat × Func) := [(75, Go.Proofs.Try.f75)]
def env75 : List (Nat × (Sig × Mean)) := [(112, sg112, ⟨M112⟩), (172, sg172, ⟨M172⟩)]
def ann75 (f i : Nat) : Ann := match f, i with
  | _, _ => ⟨[], [], []⟩
def lsl75 (n : Nat) : List ((Nat × Nat) × (Nat → List LoopM)) := []
noncomputable def cf75 (n : Nat) : Cfg := ⟨tiOf tab, lookup code75, lookup env75, ann75, n⟩
theorem ev75 (n : Nat) (x0 x1 x2 x3 x4 x5 x6 x7 : T) : evF (cf75 n) (drawK (cf75 n)) (lms2 (lsl75 n)) 3 75 sg75 [x0, x1, x2, x3, x4, x5, x6, x7] = F75 n x0 x1 x2 x3 x4 x5 x6 x7 := by kernel_rfl
theorem eo75 (n : Nat) : EnvOk Go.Proofs.Try.prog (tiOf tab) n 75 sg75 ⟨M75⟩ :=
  have hc : CodeOk Go.Proofs.Try.prog (cf75 n) := (code_cons Go.Proofs.Try.func75 (by kernel_rfl) code_nil)
  have he : EnvsOk Go.Proofs.Try.prog (cf75 n) := (env_cons (eo112 n) (env_cons (eo172 n) env_nil))
  have hl : LmsOk (R := List T) (cf75 n) (drawK (cf75 n)) (lms2 (lsl75 n)) (lsl75 n) := lms_nil
  envOk_of (cf := cf75 n) tabOk hc he (draw := drawK (cf75 n)) (fun _ => drawK_ok tabOk mixed hc he) (d := 3) (lms := lms2 (lsl75 n)) hl
    (fun τs rs h => by
      simp only [M75] at h
      split at h
      · exact (ev75 n _ _ _ _ _ _ _ _).trans h
      · cases h)
/-! ### 12: laws.FnExactSendFault -/
def sg12 : Sig := ⟨[(true, [.int .i64, .int .i64, .slice 2, .slice 230])], [.leaf .bool false]⟩
def F12 (n : Nat) (x0 x1 x2 x3 : T) : Option (List T) :=
  (F71 n x0 x1 x2 x3 (.i 1048576)).bind fun r1 => bif (decide ((r1.headD (.i 0)).I < 0)) then (some [.b true]) else ((F73 n x0 x1 x2 x3).bind fun r2 => (F72 n (r2.headD (.i 0)) (r2.tail.headD (.i 0)) (r2.tail.tail.headD (.i 0)) (r2.tail.tail.tail.headD (.i 0))).bind fun r3 => (F73 n x0 x1 x2 x3).bind fun r4 => (F74 n (r4.headD (.i 0)) (r4.tail.headD (.i 0)) (r4.tail.tail.headD (.i 0)) (r4.tail.tail.tail.headD (.i 0))).bind fun r5 => bif ((r5.headD (.i 0)).I != (r3.headD (.i 0)).I) then (some [.b false]) else ((F73 n x0 x1 x2 x3).bind fun r6 => (F75 n (r4.headD (.i 0)) (r4.tail.headD (.i 0)) (r4.tail.tail.headD (.i 0)) (r4.tail.tail.tail.headD (.i 0)) (r6.headD (.i 0)) (r6.tail.headD (.i 0)) (r6.tail.tail.headD (.i 0)) (r6.tail.tail.tail.headD (.i 0))).bind fun r7 => bif (!(r7.headD (.i 0)).B) then (some [.b false]) else (some [.b true])))
def M12 (n : Nat) (τs : List T) : Option (List T) := match τs with
  | [x0, x1, x2, x3] => F12 n x0 x1 x2 x3
  | _ => none
noncomputable def code12 : List (Nat × Func) := [(12, Go.Proofs.Try.f12)]
def env12 : List (Nat × (Sig × Mean)) := [(71, sg71, ⟨M71⟩), (72, sg72, ⟨M72⟩), (73, sg73, ⟨M73⟩), (74, sg74, ⟨M74⟩), (75, sg75, ⟨M75⟩)]
def ann12 (f i : Nat) : Ann := match f, i with
  | _, _ => ⟨[], [], []⟩
def lsl12 (n : Nat) : List ((Nat × Nat) × (Nat → List LoopM)) := []
noncomputable def cf12 (n : Nat) : Cfg := ⟨tiOf tab, lookup code12, lookup env12, ann12, n⟩
theorem ev12 (n : Nat) (x0 x1 x2 x3 : T) : evF (cf12 n) (drawK (cf12 n)) (lms2 (lsl12 n)) 3 12 sg12 [x0, x1, x2, x3] = F12 n x0 x1 x2 x3 := by kernel_rfl
theorem eo12 (n : Nat) : EnvOk Go.Proofs.Try.prog (tiOf tab) n 12 sg12 ⟨M12⟩ :=
  have hc : CodeOk Go.Proofs.Try.prog (cf12 n) := (code_cons Go.Proofs.Try.func12 (by kernel_rfl) code_nil)
  have he : EnvsOk Go.Proofs.Try.prog (cf12 n) := (env_cons (eo71 n) (env_cons (eo72 n) (env_cons (eo73 n) (env_cons (eo74 n) (env_cons (eo75 n) env_nil)))))
  have hl : LmsOk (R := List T) (cf12 n) (drawK (cf12 n)) (lms2 (lsl12 n)) (lsl12 n) := lms_nil
  envOk_of (cf := cf12 n) tabOk hc he (draw := drawK (cf12 n)) (fun _ => drawK_ok tabOk mixed hc he) (d := 3) (lms := lms2 (lsl12 n)) hl
    (fun τs rs h => by
      simp only [M12] at h
      split at h
      · exact (ev12 n _ _ _ _).trans h
      · cases h)
end Go.KX.Sc
