import Derived.Test.YtpkeanlcmjbgnabProg
import Derived.KernelRfl
import Derived.Test.YtpkeanlcmjbgnabKxC
namespace Go.KX.Sb
open Go
set_option linter.unusedVariables false
def tab : List (Nat × TyI) := [
  (2, ⟨true, false, [.int .i64], 8, .leaf, false⟩),
  (3, ⟨true, false, [.int .i64], 8, .leaf, false⟩),
  (4, ⟨true, false, [.bool], 1, .leaf, false⟩),
  (5, ⟨true, false, [.int .u8], 1, .leaf, false⟩),
  (9, ⟨true, false, [.str], 16, .leaf, false⟩),
  (22, ⟨true, false, [.slice 2], 24, .slice 2, false⟩),
  (23, ⟨true, false, [.slice 200], 24, .slice 200, false⟩),
  (25, ⟨true, true, [.int .i64, .slice 2, .slice 200, .slice 2], 80, .struct [(2, 0), (22, 1), (23, 2), (22, 3)], false⟩),
  (28, ⟨true, false, [.slice 142], 24, .slice 142, false⟩),
  (30, ⟨true, true, [.int .i64, .slice 2, .slice 142, .slice 2], 80, .struct [(2, 0), (22, 1), (28, 2), (22, 3)], false⟩),
  (68, ⟨true, false, [.slice 5], 24, .slice 5, false⟩),
  (142, ⟨true, true, [.int .i64, .int .i64, .int .i64, .bool, .bool, .bool, .slice 5], 56, .struct [(2, 0), (2, 1), (2, 2), (4, 3), (4, 4), (4, 5), (68, 6)], false⟩),
  (200, ⟨true, true, [.int .i64, .int .i64, .int .i64, .bool, .bool, .bool, .slice 5], 56, .struct [(2, 0), (2, 1), (2, 2), (4, 3), (4, 4), (4, 5), (68, 6)], false⟩)]
theorem tabOk : TabOk Go.Proofs.Try.prog (tiOf tab) := tab_ok (by kernel_rfl)
theorem mixed : Go.Proofs.Try.prog.follows .mixedOrders = true := by kernel_rfl
/-! ### 71: laws.szInt64S -/
def sg71 : Sig := ⟨[(false, [.slice 2]), (false, [.int .i64])], [.leaf (.int .i64) false]⟩
def F71 (n : Nat) (x0 x1 : T) : Option (List T) :=
  bif (decide ((IntKind.wrap .i64 (x1.I - (x0.L.length : Int))) < 0)) then (some [.i (-1)]) else (some [.i (IntKind.wrap .i64 (x1.I - (x0.L.length : Int)))])
def M71 (n : Nat) (τs : List T) : Option (List T) := match τs with
  | [x0, x1] => F71 n x0 x1
  | _ => none
noncomputable def code71 : List (Nat × Func) := [(71, Go.Proofs.Try.f71)]
def env71 : List (Nat × (Sig × Mean)) := []
def ann71 (f i : Nat) : Ann := match f, i with
  | _, _ => ⟨[], [], []⟩
def lsl71 (n : Nat) : List ((Nat × Nat) × (Nat → List LoopM)) := []
noncomputable def cf71 (n : Nat) : Cfg := ⟨tiOf tab, lookup code71, lookup env71, ann71, n⟩
theorem ev71 (n : Nat) (x0 x1 : T) : evF (cf71 n) (drawK (cf71 n)) (lms2 (lsl71 n)) 3 71 sg71 [x0, x1] = F71 n x0 x1 := by kernel_rfl
theorem eo71 (n : Nat) : EnvOk Go.Proofs.Try.prog (tiOf tab) n 71 sg71 ⟨M71⟩ :=
  have hc : CodeOk Go.Proofs.Try.prog (cf71 n) := (code_cons Go.Proofs.Try.func71 (by kernel_rfl) code_nil)
  have he : EnvsOk Go.Proofs.Try.prog (cf71 n) := env_nil
  have hl : LmsOk (R := List T) (cf71 n) (drawK (cf71 n)) (lms2 (lsl71 n)) (lsl71 n) := lms_nil
  envOk_of (cf := cf71 n) tabOk hc he (draw := drawK (cf71 n)) (fun _ => drawK_ok tabOk mixed hc he) (d := 3) (lms := lms2 (lsl71 n)) hl
    (fun τs rs h => by
      simp only [M71] at h
      split at h
      · exact (ev71 n _ _).trans h
      · cases h)
/-! ### 118: laws.szByteS -/
def sg118 : Sig := ⟨[(false, [.slice 5]), (false, [.int .i64])], [.leaf (.int .i64) false]⟩
def F118 (n : Nat) (x0 x1 : T) : Option (List T) :=
  bif (decide ((IntKind.wrap .i64 (x1.I - (x0.L.length : Int))) < 0)) then (some [.i (-1)]) else (some [.i (IntKind.wrap .i64 (x1.I - (x0.L.length : Int)))])
def M118 (n : Nat) (τs : List T) : Option (List T) := match τs with
  | [x0, x1] => F118 n x0 x1
  | _ => none
noncomputable def code118 : List (Nat × Func) := [(118, Go.Proofs.Try.f118)]
def env118 : List (Nat × (Sig × Mean)) := []
def ann118 (f i : Nat) : Ann := match f, i with
  | _, _ => ⟨[], [], []⟩
def lsl118 (n : Nat) : List ((Nat × Nat) × (Nat → List LoopM)) := []
noncomputable def cf118 (n : Nat) : Cfg := ⟨tiOf tab, lookup code118, lookup env118, ann118, n⟩
theorem ev118 (n : Nat) (x0 x1 : T) : evF (cf118 n) (drawK (cf118 n)) (lms2 (lsl118 n)) 3 118 sg118 [x0, x1] = F118 n x0 x1 := by kernel_rfl
theorem eo118 (n : Nat) : EnvOk Go.Proofs.Try.prog (tiOf tab) n 118 sg118 ⟨M118⟩ :=
  have hc : CodeOk Go.Proofs.Try.prog (cf118 n) := (code_cons Go.Proofs.Try.func118 (by kernel_rfl) code_nil)
  have he : EnvsOk Go.Proofs.Try.prog (cf118 n) := env_nil
  have hl : LmsOk (R := List T) (cf118 n) (drawK (cf118 n)) (lms2 (lsl118 n)) (lsl118 n) := lms_nil
  envOk_of (cf := cf118 n) tabOk hc he (draw := drawK (cf118 n)) (fun _ => drawK_ok tabOk mixed hc he) (d := 3) (lms := lms2 (lsl118 n)) hl
    (fun τs rs h => by
      simp only [M118] at h
      split at h
      · exact (ev118 n _ _).trans h
      · cases h)
/-! ### 151: laws.szData -/
def sg151 : Sig := ⟨[(true, [.int .i64, .int .i64, .int .i64, .bool, .bool, .bool, .slice 5]), (false, [.int .i64])], [.leaf (.int .i64) false]⟩
def F151 (n : Nat) (x0 x1 x2 x3 x4 x5 x6 x7 : T) : Option (List T) :=
  (F118 n x6 x7).bind fun r1 => bif (decide ((r1.headD (.i 0)).I < 0)) then (some [.i (-1)]) else (some [(r1.headD (.i 0))])
def M151 (n : Nat) (τs : List T) : Option (List T) := match τs with
  | [x0, x1, x2, x3, x4, x5, x6, x7] => F151 n x0 x1 x2 x3 x4 x5 x6 x7
  | _ => none
noncomputable def code151 : List (Nat × Func) := [(151, Go.Proofs.Try.f151)]
def env151 : List (Nat × (Sig × Mean)) := [(118, sg118, ⟨M118⟩)]
def ann151 (f i : Nat) : Ann := match f, i with
  | _, _ => ⟨[], [], []⟩
def lsl151 (n : Nat) : List ((Nat × Nat) × (Nat → List LoopM)) := []
noncomputable def cf151 (n : Nat) : Cfg := ⟨tiOf tab, lookup code151, lookup env151, ann151, n⟩
theorem ev151 (n : Nat) (x0 x1 x2 x3 x4 x5 x6 x7 : T) : evF (cf151 n) (drawK (cf151 n)) (lms2 (lsl151 n)) 3 151 sg151 [x0, x1, x2, x3, x4, x5, x6, x7] = F151 n x0 x1 x2 x3 x4 x5 x6 x7 := by kernel_rfl
theorem eo151 (n : Nat) : EnvOk Go.Proofs.Try.prog (tiOf tab) n 151 sg151 ⟨M151⟩ :=
  have hc : CodeOk Go.Proofs.Try.prog (cf151 n) := (code_cons Go.Proofs.Try.func151 (by kernel_rfl) code_nil)
  have he : EnvsOk Go.Proofs.Try.prog (cf151 n) := (env_cons (eo118 n) env_nil)
  have hl : LmsOk (R := List T) (cf151 n) (drawK (cf151 n)) (lms2 (lsl151 n)) (lsl151 n) := lms_nil
  envOk_of (cf := cf151 n) tabOk hc he (draw := drawK (cf151 n)) (fun _ => drawK_ok tabOk mixed hc he) (d := 3) (lms := lms2 (lsl151 n)) hl
    (fun τs rs h => by
      simp only [M151] at h
      split at h
      · exact (ev151 n _ _ _ _ _ _ _ _).trans h
      · cases h)
/-! ### 72: laws.szDataS -/
def sg72 : Sig := ⟨[(false, [.slice 200]), (false, [.int .i64])], [.leaf (.int .i64) false]⟩
def G72_72_5 {R : Type} (n : Nat) (v : List T) (self : List T → Option R) (ex : List (List T → Option R)) : Option R :=
  bif (decide ((v.getD 2 (.i 0)).I < ((((v.getD 0 (.i 0)).L).length : Nat) : Int))) then (if 0 ≤ (v.getD 2 (.i 0)).I ∧ (v.getD 2 (.i 0)).I < (((v.getD 0 (.i 0)).L).length : Int) then ((F151 n ((at_ ((v.getD 0 (.i 0)).L) ((v.getD 2 (.i 0)).I)).F 0) ((at_ ((v.getD 0 (.i 0)).L) ((v.getD 2 (.i 0)).I)).F 1) ((at_ ((v.getD 0 (.i 0)).L) ((v.getD 2 (.i 0)).I)).F 2) ((at_ ((v.getD 0 (.i 0)).L) ((v.getD 2 (.i 0)).I)).F 3) ((at_ ((v.getD 0 (.i 0)).L) ((v.getD 2 (.i 0)).I)).F 4) ((at_ ((v.getD 0 (.i 0)).L) ((v.getD 2 (.i 0)).I)).F 5) ((at_ ((v.getD 0 (.i 0)).L) ((v.getD 2 (.i 0)).I)).F 6) (.i ((v.getD 1 (.i 0)).I))).bind fun r1 => bif (decide ((r1.headD (.i 0)).I < 0)) then (exn ex 0 [.i ((r1.headD (.i 0)).I), .i (-1)]) else (self [.l ((v.getD 0 (.i 0)).L), .i ((r1.headD (.i 0)).I), .i (IntKind.wrap .i64 ((v.getD 2 (.i 0)).I + 1))])) else none) else (exn ex 1 [.i ((v.getD 1 (.i 0)).I)])
def L72_72_5 (n : Nat) : LoopM := ⟨⟨[[.t (.slice 200) (.i 0), .t (.int .i64) (.i 0), .un, .un, .un, .t (.int .i64) (.i 0), .un, .un, .un, .un, .un, .un, .un, .un, .un, .un, .un, .un, .un, .un, .un, .un, .un, .un, .un, .un, .un]], []⟩, [(.ret, ⟨[[.un, .t (.int .i64) (.i 0), .un, .un, .t (.int .i64) (.i 0), .un, .un, .un, .un, .un, .un, .un, .un, .un, .un, .un, .un, .un, .un, .un, .un, .un, .un, .un, .un, .un, .un]], []⟩), (.exit 0, ⟨[[.un, .t (.int .i64) (.i 0), .un, .un, .un, .un, .un, .un, .un, .un, .un, .un, .un, .un, .un, .un, .un, .un, .un, .un, .un, .un, .un, .un, .un, .un, .un]], []⟩)], fun v self ex => G72_72_5 n v self ex⟩
def F72 (n : Nat) (x0 x1 : T) : Option (List T) :=
  bif (decide ((IntKind.wrap .i64 (x1.I - (x0.L.length : Int))) < 0)) then (some [.i (-1)]) else (loopR (L72_72_5 n).G n [.l x0.L, .i (IntKind.wrap .i64 (x1.I - (x0.L.length : Int))), .i 0] [fun u2 => some [.i ((u2.getD 1 (.i 0)).I)], fun u3 => some [.i ((u3.getD 0 (.i 0)).I)]])
def M72 (n : Nat) (τs : List T) : Option (List T) := match τs with
  | [x0, x1] => F72 n x0 x1
  | _ => none
noncomputable def code72 : List (Nat × Func) := [(72, Go.Proofs.Try.f72)]
def env72 : List (Nat × (Sig × Mean)) := [(151, sg151, ⟨M151⟩)]
def ann72 (f i : Nat) : Ann := match f, i with
  | 72, 5 => ⟨[(0, .any), (1, .any), (5, .any)], [], [(1, .any), (4, .any)]⟩
  | _, _ => ⟨[], [], []⟩
def lm72_72 (n : Nat) (i : Nat) : List LoopM := match i with
  | 5 => [L72_72_5 n]
  | _ => []
def lsl72 (n : Nat) : List ((Nat × Nat) × (Nat → List LoopM)) := [((3, 72), lm72_72 n)]
noncomputable def cf72 (n : Nat) : Cfg := ⟨tiOf tab, lookup code72, lookup env72, ann72, n⟩
theorem ev72 (n : Nat) (x0 x1 : T) : evF (cf72 n) (drawK (cf72 n)) (lms2 (lsl72 n)) 3 72 sg72 [x0, x1] = F72 n x0 x1 := by kernel_rfl
theorem lp72_72_5 (n : Nat) (K : Ex → St → Option (List T)) (self : List T → Option (List T)) (v : List T) : evC (cf72 n) (callK (cf72 n) (drawK (cf72 n)) (lms2 (lsl72 n)) 3) (drawK (cf72 n) (callK (cf72 n) (drawK (cf72 n)) (lms2 (lsl72 n)) 3)) (ann72 72) (lm72_72 n) (bodyOf Go.Proofs.Try.f72 5) ((L72_72_5 n).sk.fill v) (roundK (ann72 72 5) K (selfK (L72_72_5 n) self)) = (L72_72_5 n).G v self (exitK (L72_72_5 n) K) := by kernel_rfl
theorem eo72 (n : Nat) : EnvOk Go.Proofs.Try.prog (tiOf tab) n 72 sg72 ⟨M72⟩ :=
  have hc : CodeOk Go.Proofs.Try.prog (cf72 n) := (code_cons Go.Proofs.Try.func72 (by kernel_rfl) code_nil)
  have he : EnvsOk Go.Proofs.Try.prog (cf72 n) := (env_cons (eo151 n) env_nil)
  have hl : LmsOk (R := List T) (cf72 n) (drawK (cf72 n)) (lms2 (lsl72 n)) (lsl72 n) := (lms_cons (loops_of (cf := cf72 n) (fn0 := Go.Proofs.Try.f72) rfl (l := [bodyOf Go.Proofs.Try.f72 5]) (by kernel_rfl) (loops_cons (b := bodyOf Go.Proofs.Try.f72 5) (by kernel_rfl) (rfl : lm72_72 n 5 = [L72_72_5 n]) (List.forall_mem_cons.2 ⟨fun K self v => lp72_72_5 n K self v, fun _ h => by cases h⟩) loops_nil)) lms_nil)
  envOk_of (cf := cf72 n) tabOk hc he (draw := drawK (cf72 n)) (fun _ => drawK_ok tabOk mixed hc he) (d := 3) (lms := lms2 (lsl72 n)) hl
    (fun τs rs h => by
      simp only [M72] at h
      split at h
      · exact (ev72 n _ _).trans h
      · cases h)
/-! ### 11: laws.szRecv -/
def sg11 : Sig := ⟨[(true, [.int .i64, .slice 2, .slice 200, .slice 2]), (false, [.int .i64])], [.leaf (.int .i64) false]⟩
def F11 (n : Nat) (x0 x1 x2 x3 x4 : T) : Option (List T) :=
  (F71 n x1 x4).bind fun r1 => bif (decide ((r1.headD (.i 0)).I < 0)) then (some [.i (-1)]) else ((F72 n x2 (r1.headD (.i 0))).bind fun r2 => bif (decide ((r2.headD (.i 0)).I < 0)) then (some [.i (-1)]) else ((F71 n x3 (r2.headD (.i 0))).bind fun r3 => bif (decide ((r3.headD (.i 0)).I < 0)) then (some [.i (-1)]) else (some [(r3.headD (.i 0))])))
def M11 (n : Nat) (τs : List T) : Option (List T) := match τs with
  | [x0, x1, x2, x3, x4] => F11 n x0 x1 x2 x3 x4
  | _ => none
noncomputable def code11 : List (Nat × Func) := [(11, Go.Proofs.Try.f11)]
def env11 : List (Nat × (Sig × Mean)) := [(71, sg71, ⟨M71⟩), (72, sg72, ⟨M72⟩)]
def ann11 (f i : Nat) : Ann := match f, i with
  | _, _ => ⟨[], [], []⟩
def lsl11 (n : Nat) : List ((Nat × Nat) × (Nat → List LoopM)) := []
noncomputable def cf11 (n : Nat) : Cfg := ⟨tiOf tab, lookup code11, lookup env11, ann11, n⟩
theorem ev11 (n : Nat) (x0 x1 x2 x3 x4 : T) : evF (cf11 n) (drawK (cf11 n)) (lms2 (lsl11 n)) 3 11 sg11 [x0, x1, x2, x3, x4] = F11 n x0 x1 x2 x3 x4 := by kernel_rfl
theorem eo11 (n : Nat) : EnvOk Go.Proofs.Try.prog (tiOf tab) n 11 sg11 ⟨M11⟩ :=
  have hc : CodeOk Go.Proofs.Try.prog (cf11 n) := (code_cons Go.Proofs.Try.func11 (by kernel_rfl) code_nil)
  have he : EnvsOk Go.Proofs.Try.prog (cf11 n) := (env_cons (eo71 n) (env_cons (eo72 n) env_nil))
  have hl : LmsOk (R := List T) (cf11 n) (drawK (cf11 n)) (lms2 (lsl11 n)) (lsl11 n) := lms_nil
  envOk_of (cf := cf11 n) tabOk hc he (draw := drawK (cf11 n)) (fun _ => drawK_ok tabOk mixed hc he) (d := 3) (lms := lms2 (lsl11 n)) hl
    (fun τs rs h => by
      simp only [M11] at h
      split at h
      · exact (ev11 n _ _ _ _ _).trans h
      · cases h)
/-! ### 73: spec.l1Same -/
def sg73 : Sig := ⟨[(false, [.slice 2]), (false, [.slice 2])], [.leaf .bool false]⟩
def G73_73_4 {R : Type} (n : Nat) (v : List T) (self : List T → Option R) (ex : List (List T → Option R)) : Option R :=
  bif (decide ((v.getD 2 (.i 0)).I < ((((v.getD 0 (.i 0)).L).length : Nat) : Int))) then (if 0 ≤ (v.getD 2 (.i 0)).I ∧ (v.getD 2 (.i 0)).I < (((v.getD 0 (.i 0)).L).length : Int) then (if 0 ≤ (v.getD 2 (.i 0)).I ∧ (v.getD 2 (.i 0)).I < (((v.getD 1 (.i 0)).L).length : Int) then (bif ((at_ ((v.getD 0 (.i 0)).L) ((v.getD 2 (.i 0)).I)).I != (at_ ((v.getD 1 (.i 0)).L) ((v.getD 2 (.i 0)).I)).I) then (exn ex 0 [.b false]) else (self [.l ((v.getD 0 (.i 0)).L), .l ((v.getD 1 (.i 0)).L), .i (IntKind.wrap .i64 ((v.getD 2 (.i 0)).I + 1))])) else none) else none) else (exn ex 1 [])
def L73_73_4 (n : Nat) : LoopM := ⟨⟨[[.t (.slice 2) (.i 0), .t (.slice 2) (.i 0), .un, .un, .un, .t (.int .i64) (.i 0), .un, .un, .un, .un, .un, .un, .un, .un, .un, .un, .un, .un, .un, .un, .un, .un, .un, .un, .un, .un]], []⟩, [(.ret, ⟨[[.un, .un, .un, .un, .t .bool (.i 0), .un, .un, .un, .un, .un, .un, .un, .un, .un, .un, .un, .un, .un, .un, .un, .un, .un, .un, .un, .un, .un]], []⟩), (.exit 0, ⟨[[.un, .un, .un, .un, .un, .un, .un, .un, .un, .un, .un, .un, .un, .un, .un, .un, .un, .un, .un, .un, .un, .un, .un, .un, .un, .un]], []⟩)], fun v self ex => G73_73_4 n v self ex⟩
def F73 (n : Nat) (x0 x1 : T) : Option (List T) :=
  bif ((x0.L.length : Int) != (x1.L.length : Int)) then (some [.b false]) else (loopR (L73_73_4 n).G n [.l x0.L, .l x1.L, .i 0] [fun u1 => some [.b ((u1.getD 0 (.i 0)).B)], fun u2 => some [.b true]])
def M73 (n : Nat) (τs : List T) : Option (List T) := match τs with
  | [x0, x1] => F73 n x0 x1
  | _ => none
noncomputable def code73 : List (Nat × Func) := [(73, Go.Proofs.Try.f73)]
def env73 : List (Nat × (Sig × Mean)) := []
def ann73 (f i : Nat) : Ann := match f, i with
  | 73, 4 => ⟨[(0, .any), (1, .any), (5, .any)], [], [(4, .any)]⟩
  | _, _ => ⟨[], [], []⟩
def lm73_73 (n : Nat) (i : Nat) : List LoopM := match i with
  | 4 => [L73_73_4 n]
  | _ => []
def lsl73 (n : Nat) : List ((Nat × Nat) × (Nat → List LoopM)) := [((3, 73), lm73_73 n)]
noncomputable def cf73 (n : Nat) : Cfg := ⟨tiOf tab, lookup code73, lookup env73, ann73, n⟩
theorem ev73 (n : Nat) (x0 x1 : T) : evF (cf73 n) (drawK (cf73 n)) (lms2 (lsl73 n)) 3 73 sg73 [x0, x1] = F73 n x0 x1 := by kernel_rfl
theorem lp73_73_4 (n : Nat) (K : Ex → St → Option (List T)) (self : List T → Option (List T)) (v : List T) : evC (cf73 n) (callK (cf73 n) (drawK (cf73 n)) (lms2 (lsl73 n)) 3) (drawK (cf73 n) (callK (cf73 n) (drawK (cf73 n)) (lms2 (lsl73 n)) 3)) (ann73 73) (lm73_73 n) (bodyOf Go.Proofs.Try.f73 4) ((L73_73_4 n).sk.fill v) (roundK (ann73 73 4) K (selfK (L73_73_4 n) self)) = (L73_73_4 n).G v self (exitK (L73_73_4 n) K) := by kernel_rfl
theorem eo73 (n : Nat) : EnvOk Go.Proofs.Try.prog (tiOf tab) n 73 sg73 ⟨M73⟩ :=
  have hc : CodeOk Go.Proofs.Try.prog (cf73 n) := (code_cons Go.Proofs.Try.func73 (by kernel_rfl) code_nil)
  have he : EnvsOk Go.Proofs.Try.prog (cf73 n) := env_nil
  have hl : LmsOk (R := List T) (cf73 n) (drawK (cf73 n)) (lms2 (lsl73 n)) (lsl73 n) := (lms_cons (loops_of (cf := cf73 n) (fn0 := Go.Proofs.Try.f73) rfl (l := [bodyOf Go.Proofs.Try.f73 4]) (by kernel_rfl) (loops_cons (b := bodyOf Go.Proofs.Try.f73 4) (by kernel_rfl) (rfl : lm73_73 n 4 = [L73_73_4 n]) (List.forall_mem_cons.2 ⟨fun K self v => lp73_73_4 n K self v, fun _ h => by cases h⟩) loops_nil)) lms_nil)
  envOk_of (cf := cf73 n) tabOk hc he (draw := drawK (cf73 n)) (fun _ => drawK_ok tabOk mixed hc he) (d := 3) (lms := lms2 (lsl73 n)) hl
    (fun τs rs h => by
      simp only [M73] at h
      split at h
      · exact (ev73 n _ _).trans h
      · cases h)
/-! ### 92: spec.l8Same -/
def sg92 : Sig := ⟨[(false, [.box 142]), (false, [.box 142])], [.leaf .bool false]⟩
def F92 (n : Nat) (x0 x1 : T) : Option (List T) :=
  bif ((x0.F 0).I == (x1.F 0).I) then (bif ((x0.F 0).I == (x1.F 0).I) then (bif ((x0.F 1).I == (x1.F 1).I) then (bif ((x0.F 1).I == (x1.F 1).I) then (bif ((x0.F 2).I == (x1.F 2).I) then (bif ((x0.F 2).I == (x1.F 2).I) then (bif ((x0.F 3).B == (x1.F 3).B) then (bif ((x0.F 3).B == (x1.F 3).B) then (bif ((x0.F 4).B == (x1.F 4).B) then (bif ((x0.F 4).B == (x1.F 4).B) then (bif ((x0.F 5).B == (x1.F 5).B) then (bif ((x0.F 5).B == (x1.F 5).B) then (some [.b ((((x0.F 6).L).map fun τ => UInt8.ofNat τ.I.toNat) == (((x1.F 6).L).map fun τ => UInt8.ofNat τ.I.toNat))]) else (some [.b false])) else (bif ((x0.F 5).B == (x1.F 5).B) then none else (some [.b false]))) else (some [.b false])) else (bif ((x0.F 4).B == (x1.F 4).B) then none else (some [.b false]))) else (some [.b false])) else (bif ((x0.F 3).B == (x1.F 3).B) then none else (some [.b false]))) else (some [.b false])) else (bif ((x0.F 2).I == (x1.F 2).I) then none else (some [.b false]))) else (some [.b false])) else (bif ((x0.F 1).I == (x1.F 1).I) then none else (some [.b false]))) else (some [.b false])) else (bif ((x0.F 0).I == (x1.F 0).I) then none else (some [.b false]))
def M92 (n : Nat) (τs : List T) : Option (List T) := match τs with
  | [x0, x1] => F92 n x0 x1
  | _ => none
noncomputable def code92 : List (Nat × Func) := [(92, Go.Proofs.Try.f92)]
def env92 : List (Nat × (Sig × Mean)) := []
def ann92 (f i : Nat) : Ann := match f, i with
  | _, _ => ⟨[], [], []⟩
def lsl92 (n : Nat) : List ((Nat × Nat) × (Nat → List LoopM)) := []
noncomputable def cf92 (n : Nat) : Cfg := ⟨tiOf tab, lookup code92, lookup env92, ann92, n⟩
theorem ev92 (n : Nat) (x0 x1 : T) : evF (cf92 n) (drawK (cf92 n)) (lms2 (lsl92 n)) 3 92 sg92 [x0, x1] = F92 n x0 x1 := by kernel_rfl
theorem eo92 (n : Nat) : EnvOk Go.Proofs.Try.prog (tiOf tab) n 92 sg92 ⟨M92⟩ :=
  have hc : CodeOk Go.Proofs.Try.prog (cf92 n) := (code_cons Go.Proofs.Try.func92 (by kernel_rfl) code_nil)
  have he : EnvsOk Go.Proofs.Try.prog (cf92 n) := env_nil
  have hl : LmsOk (R := List T) (cf92 n) (drawK (cf92 n)) (lms2 (lsl92 n)) (lsl92 n) := lms_nil
  envOk_of (cf := cf92 n) tabOk hc he (draw := drawK (cf92 n)) (fun _ => drawK_ok tabOk mixed hc he) (d := 3) (lms := lms2 (lsl92 n)) hl
    (fun τs rs h => by
      simp only [M92] at h
      split at h
      · exact (ev92 n _ _).trans h
      · cases h)
/-! ### 74: spec.SameDatas -/
def sg74 : Sig := ⟨[(false, [.slice 142]), (false, [.slice 142])], [.leaf .bool false]⟩
def G74_74_4 {R : Type} (n : Nat) (v : List T) (self : List T → Option R) (ex : List (List T → Option R)) : Option R :=
  bif (decide ((v.getD 2 (.i 0)).I < ((((v.getD 0 (.i 0)).L).length : Nat) : Int))) then (if 0 ≤ (v.getD 2 (.i 0)).I ∧ (v.getD 2 (.i 0)).I < (((v.getD 0 (.i 0)).L).length : Int) then (if 0 ≤ (v.getD 2 (.i 0)).I ∧ (v.getD 2 (.i 0)).I < (((v.getD 1 (.i 0)).L).length : Int) then ((F92 n (at_ ((v.getD 0 (.i 0)).L) ((v.getD 2 (.i 0)).I)) (at_ ((v.getD 1 (.i 0)).L) ((v.getD 2 (.i 0)).I))).bind fun r1 => bif (!(r1.headD (.i 0)).B) then (exn ex 0 [.b false]) else (self [.l ((v.getD 0 (.i 0)).L), .l ((v.getD 1 (.i 0)).L), .i (IntKind.wrap .i64 ((v.getD 2 (.i 0)).I + 1))])) else none) else none) else (exn ex 1 [])
def L74_74_4 (n : Nat) : LoopM := ⟨⟨[[.t (.slice 142) (.i 0), .t (.slice 142) (.i 0), .un, .un, .un, .t (.int .i64) (.i 0), .un, .un, .un, .un, .un, .un, .un, .un, .un, .un, .un, .un, .un, .un, .un, .un, .un, .un, .un]], []⟩, [(.ret, ⟨[[.un, .un, .un, .un, .t .bool (.i 0), .un, .un, .un, .un, .un, .un, .un, .un, .un, .un, .un, .un, .un, .un, .un, .un, .un, .un, .un, .un]], []⟩), (.exit 0, ⟨[[.un, .un, .un, .un, .un, .un, .un, .un, .un, .un, .un, .un, .un, .un, .un, .un, .un, .un, .un, .un, .un, .un, .un, .un, .un]], []⟩)], fun v self ex => G74_74_4 n v self ex⟩
def F74 (n : Nat) (x0 x1 : T) : Option (List T) :=
  bif ((x0.L.length : Int) != (x1.L.length : Int)) then (some [.b false]) else (loopR (L74_74_4 n).G n [.l x0.L, .l x1.L, .i 0] [fun u2 => some [.b ((u2.getD 0 (.i 0)).B)], fun u3 => some [.b true]])
def M74 (n : Nat) (τs : List T) : Option (List T) := match τs with
  | [x0, x1] => F74 n x0 x1
  | _ => none
noncomputable def code74 : List (Nat × Func) := [(74, Go.Proofs.Try.f74)]
def env74 : List (Nat × (Sig × Mean)) := [(92, sg92, ⟨M92⟩)]
def ann74 (f i : Nat) : Ann := match f, i with
  | 74, 4 => ⟨[(0, .any), (1, .any), (5, .any)], [], [(4, .any)]⟩
  | _, _ => ⟨[], [], []⟩
def lm74_74 (n : Nat) (i : Nat) : List LoopM := match i with
  | 4 => [L74_74_4 n]
  | _ => []
def lsl74 (n : Nat) : List ((Nat × Nat) × (Nat → List LoopM)) := [((3, 74), lm74_74 n)]
noncomputable def cf74 (n : Nat) : Cfg := ⟨tiOf tab, lookup code74, lookup env74, ann74, n⟩
theorem ev74 (n : Nat) (x0 x1 : T) : evF (cf74 n) (drawK (cf74 n)) (lms2 (lsl74 n)) 3 74 sg74 [x0, x1] = F74 n x0 x1 := by kernel_rfl
theorem lp74_74_4 (n : Nat) (K : Ex → St → Option (List T)) (self : List T → Option (List T)) (v : List T) : evC (cf74 n) (callK (cf74 n) (drawK (cf74 n)) (lms2 (lsl74 n)) 3) (drawK (cf74 n) (callK (cf74 n) (drawK (cf74 n)) (lms2 (lsl74 n)) 3)) (ann74 74) (lm74_74 n) (bodyOf Go.Proofs.Try.f74 4) ((L74_74_4 n).sk.fill v) (roundK (ann74 74 4) K (selfK (L74_74_4 n) self)) = (L74_74_4 n).G v self (exitK (L74_74_4 n) K) := by kernel_rfl
theorem eo74 (n : Nat) : EnvOk Go.Proofs.Try.prog (tiOf tab) n 74 sg74 ⟨M74⟩ :=
  have hc : CodeOk Go.Proofs.Try.prog (cf74 n) := (code_cons Go.Proofs.Try.func74 (by kernel_rfl) code_nil)
  have he : EnvsOk Go.Proofs.Try.prog (cf74 n) := (env_cons (eo92 n) env_nil)
  have hl : LmsOk (R := List T) (cf74 n) (drawK (cf74 n)) (lms2 (lsl74 n)) (lsl74 n) := (lms_cons (loops_of (cf := cf74 n) (fn0 := Go.Proofs.Try.f74) rfl (l := [bodyOf Go.Proofs.Try.f74 4]) (by kernel_rfl) (loops_cons (b := bodyOf Go.Proofs.Try.f74 4) (by kernel_rfl) (rfl : lm74_74 n 4 = [L74_74_4 n]) (List.forall_mem_cons.2 ⟨fun K self v => lp74_74_4 n K self v, fun _ h => by cases h⟩) loops_nil)) lms_nil)
  envOk_of (cf := cf74 n) tabOk hc he (draw := drawK (cf74 n)) (fun _ => drawK_ok tabOk mixed hc he) (d := 3) (lms := lms2 (lsl74 n)) hl
    (fun τs rs h => by
      simp only [M74] at h
      split at h
      · exact (ev74 n _ _).trans h
      · cases h)
/-! ### 12: spec.SameRecvs -/
def sg12 : Sig := ⟨[(true, [.int .i64, .slice 2, .slice 142, .slice 2]), (true, [.int .i64, .slice 2, .slice 142, .slice 2])], [.leaf .bool false]⟩
def F12 (n : Nat) (x0 x1 x2 x3 x4 x5 x6 x7 : T) : Option (List T) :=
  bif (x0.I == x4.I) then ((F73 n x1 x5).bind fun r1 => bif (r1.headD (.i 0)).B then ((F74 n x2 x6).bind fun r2 => bif (r2.headD (.i 0)).B then ((F73 n x3 x7).bind fun r3 => some [(r3.headD (.i 0))]) else (some [.b false])) else (some [.b false])) else (some [.b false])
def M12 (n : Nat) (τs : List T) : Option (List T) := match τs with
  | [x0, x1, x2, x3, x4, x5, x6, x7] => F12 n x0 x1 x2 x3 x4 x5 x6 x7
  | _ => none
noncomputable def code12 : List (Nat × Func) := [(12, Go.Proofs.Try.f12)]
def env12 : List (Nat × (Sig × Mean)) := [(73, sg73, ⟨M73⟩), (74, sg74, ⟨M74⟩)]
def ann12 (f i : Nat) : Ann := match f, i with
  | _, _ => ⟨[], [], []⟩
def lsl12 (n : Nat) : List ((Nat × Nat) × (Nat → List LoopM)) := []
noncomputable def cf12 (n : Nat) : Cfg := ⟨tiOf tab, lookup code12, lookup env12, ann12, n⟩
theorem ev12 (n : Nat) (x0 x1 x2 x3 x4 x5 x6 x7 : T) : evF (cf12 n) (drawK (cf12 n)) (lms2 (lsl12 n)) 3 12 sg12 [x0, x1, x2, x3, x4, x5, x6, x7] = F12 n x0 x1 x2 x3 x4 x5 x6 x7 := by kernel_rfl
theorem eo12 (n : Nat) : EnvOk Go.Proofs.Try.prog (tiOf tab) n 12 sg12 ⟨M12⟩ :=
  have hc : CodeOk Go.Proofs.Try.prog (cf12 n) := (code_cons Go.Proofs.Try.func12 (by kernel_rfl) code_nil)
  have he : EnvsOk Go.Proofs.Try.prog (cf12 n) := (env_cons (eo73 n) (env_cons (eo74 n) env_nil))
  have hl : LmsOk (R := List T) (cf12 n) (drawK (cf12 n)) (lms2 (lsl12 n)) (lsl12 n) := lms_nil
  envOk_of (cf := cf12 n) tabOk hc he (draw := drawK (cf12 n)) (fun _ => drawK_ok tabOk mixed hc he) (d := 3) (lms := lms2 (lsl12 n)) hl
    (fun τs rs h => by
      simp only [M12] at h
      split at h
      · exact (ev12 n _ _ _ _ _ _ _ _).trans h
      · cases h)
/-! ### 17: laws.toInt64S -/
def sg17 : Sig := ⟨[(false, [.slice 2])], [.leaf (.slice 2) false]⟩
def G17_17_3 {R : Type} (n : Nat) (v : List T) (self : List T → Option R) (ex : List (List T → Option R)) : Option R :=
  bif (decide ((v.getD 1 (.i 0)).I < ((((v.getD 0 (.i 0)).L).length : Nat) : Int))) then (if 0 ≤ (v.getD 1 (.i 0)).I ∧ (v.getD 1 (.i 0)).I < (((v.getD 0 (.i 0)).L).length : Int) then (if 0 ≤ (v.getD 1 (.i 0)).I ∧ (v.getD 1 (.i 0)).I < (((v.getD 2 (.i 0)).L).length : Int) then (if 2 = 2 ∧ ((v.getD 1 (.i 0)).I).toNat < ((v.getD 2 (.i 0)).L).length then (self [.l ((v.getD 0 (.i 0)).L), .i (IntKind.wrap .i64 ((v.getD 1 (.i 0)).I + 1)), .l (((v.getD 2 (.i 0)).L).set (((v.getD 1 (.i 0)).I).toNat) ((at_ ((v.getD 0 (.i 0)).L) ((v.getD 1 (.i 0)).I))))]) else none) else none) else none) else (exn ex 0 [.l ((v.getD 2 (.i 0)).L)])
def L17_17_3 (n : Nat) : LoopM := ⟨⟨[[.t (.slice 2) (.i 0), .un, .un, .own 2 0, .t (.int .i64) (.i 0), .un, .un, .un, .un, .un, .un, .un, .un, .un, .un, .un, .un, .un, .un, .un, .un, .un]], [.arr 2 []]⟩, [(.exit 0, ⟨[[.un, .un, .un, .own 2 0, .un, .un, .un, .un, .un, .un, .un, .un, .un, .un, .un, .un, .un, .un, .un, .un, .un, .un]], [.arr 2 []]⟩)], fun v self ex => G17_17_3 n v self ex⟩
def F17 (n : Nat) (x0 : T) : Option (List T) :=
  if 0 ≤ (x0.L.length : Int) ∧ (x0.L.length : Int) * 8 ≤ limB ∧ (x0.L.length : Int) < maxN then (loopR (L17_17_3 n).G n [.l x0.L, .i 0, .l (List.replicate ((x0.L.length : Int)).toNat (T.i 0))] [fun u1 => some [.l ((u1.getD 0 (.i 0)).L)]]) else none
def M17 (n : Nat) (τs : List T) : Option (List T) := match τs with
  | [x0] => F17 n x0
  | _ => none
noncomputable def code17 : List (Nat × Func) := [(17, Go.Proofs.Try.f17)]
def env17 : List (Nat × (Sig × Mean)) := []
def ann17 (f i : Nat) : Ann := match f, i with
  | 17, 3 => ⟨[(0, .any), (3, .any), (4, .any)], [], [(3, .any)]⟩
  | _, _ => ⟨[], [], []⟩
def lm17_17 (n : Nat) (i : Nat) : List LoopM := match i with
  | 3 => [L17_17_3 n]
  | _ => []
def lsl17 (n : Nat) : List ((Nat × Nat) × (Nat → List LoopM)) := [((3, 17), lm17_17 n)]
noncomputable def cf17 (n : Nat) : Cfg := ⟨tiOf tab, lookup code17, lookup env17, ann17, n⟩
theorem ev17 (n : Nat) (x0 : T) : evF (cf17 n) (drawK (cf17 n)) (lms2 (lsl17 n)) 3 17 sg17 [x0] = F17 n x0 := by kernel_rfl
theorem lp17_17_3 (n : Nat) (K : Ex → St → Option (List T)) (self : List T → Option (List T)) (v : List T) : evC (cf17 n) (callK (cf17 n) (drawK (cf17 n)) (lms2 (lsl17 n)) 3) (drawK (cf17 n) (callK (cf17 n) (drawK (cf17 n)) (lms2 (lsl17 n)) 3)) (ann17 17) (lm17_17 n) (bodyOf Go.Proofs.Try.f17 3) ((L17_17_3 n).sk.fill v) (roundK (ann17 17 3) K (selfK (L17_17_3 n) self)) = (L17_17_3 n).G v self (exitK (L17_17_3 n) K) := by kernel_rfl
theorem eo17 (n : Nat) : EnvOk Go.Proofs.Try.prog (tiOf tab) n 17 sg17 ⟨M17⟩ :=
  have hc : CodeOk Go.Proofs.Try.prog (cf17 n) := (code_cons Go.Proofs.Try.func17 (by kernel_rfl) code_nil)
  have he : EnvsOk Go.Proofs.Try.prog (cf17 n) := env_nil
  have hl : LmsOk (R := List T) (cf17 n) (drawK (cf17 n)) (lms2 (lsl17 n)) (lsl17 n) := (lms_cons (loops_of (cf := cf17 n) (fn0 := Go.Proofs.Try.f17) rfl (l := [bodyOf Go.Proofs.Try.f17 3]) (by kernel_rfl) (loops_cons (b := bodyOf Go.Proofs.Try.f17 3) (by kernel_rfl) (rfl : lm17_17 n 3 = [L17_17_3 n]) (List.forall_mem_cons.2 ⟨fun K self v => lp17_17_3 n K self v, fun _ h => by cases h⟩) loops_nil)) lms_nil)
  envOk_of (cf := cf17 n) tabOk hc he (draw := drawK (cf17 n)) (fun _ => drawK_ok tabOk mixed hc he) (d := 3) (lms := lms2 (lsl17 n)) hl
    (fun τs rs h => by
      simp only [M17] at h
      split at h
      · exact (ev17 n _).trans h
      · cases h)
/-! ### 124: laws.toByteS -/
def sg124 : Sig := ⟨[(false, [.slice 5])], [.leaf (.slice 5) false]⟩
def G124_124_3 {R : Type} (n : Nat) (v : List T) (self : List T → Option R) (ex : List (List T → Option R)) : Option R :=
  bif (decide ((v.getD 1 (.i 0)).I < ((((v.getD 0 (.i 0)).L).length : Nat) : Int))) then (if 0 ≤ (v.getD 1 (.i 0)).I ∧ (v.getD 1 (.i 0)).I < (((v.getD 0 (.i 0)).L).length : Int) then (if 0 ≤ (v.getD 1 (.i 0)).I ∧ (v.getD 1 (.i 0)).I < (((v.getD 2 (.i 0)).L).length : Int) then (if 5 = 5 ∧ ((v.getD 1 (.i 0)).I).toNat < ((v.getD 2 (.i 0)).L).length then (self [.l ((v.getD 0 (.i 0)).L), .i (IntKind.wrap .i64 ((v.getD 1 (.i 0)).I + 1)), .l (((v.getD 2 (.i 0)).L).set (((v.getD 1 (.i 0)).I).toNat) ((at_ ((v.getD 0 (.i 0)).L) ((v.getD 1 (.i 0)).I))))]) else none) else none) else none) else (exn ex 0 [.l ((v.getD 2 (.i 0)).L)])
def L124_124_3 (n : Nat) : LoopM := ⟨⟨[[.t (.slice 5) (.i 0), .un, .un, .own 5 0, .t (.int .i64) (.i 0), .un, .un, .un, .un, .un, .un, .un, .un, .un, .un, .un, .un, .un, .un, .un, .un, .un]], [.arr 5 []]⟩, [(.exit 0, ⟨[[.un, .un, .un, .own 5 0, .un, .un, .un, .un, .un, .un, .un, .un, .un, .un, .un, .un, .un, .un, .un, .un, .un, .un]], [.arr 5 []]⟩)], fun v self ex => G124_124_3 n v self ex⟩
def F124 (n : Nat) (x0 : T) : Option (List T) :=
  if 0 ≤ (x0.L.length : Int) ∧ (x0.L.length : Int) * 1 ≤ limB ∧ (x0.L.length : Int) < maxN then (loopR (L124_124_3 n).G n [.l x0.L, .i 0, .l (List.replicate ((x0.L.length : Int)).toNat (T.i 0))] [fun u1 => some [.l ((u1.getD 0 (.i 0)).L)]]) else none
def M124 (n : Nat) (τs : List T) : Option (List T) := match τs with
  | [x0] => F124 n x0
  | _ => none
noncomputable def code124 : List (Nat × Func) := [(124, Go.Proofs.Try.f124)]
def env124 : List (Nat × (Sig × Mean)) := []
def ann124 (f i : Nat) : Ann := match f, i with
  | 124, 3 => ⟨[(0, .any), (3, .any), (4, .any)], [], [(3, .any)]⟩
  | _, _ => ⟨[], [], []⟩
def lm124_124 (n : Nat) (i : Nat) : List LoopM := match i with
  | 3 => [L124_124_3 n]
  | _ => []
def lsl124 (n : Nat) : List ((Nat × Nat) × (Nat → List LoopM)) := [((3, 124), lm124_124 n)]
noncomputable def cf124 (n : Nat) : Cfg := ⟨tiOf tab, lookup code124, lookup env124, ann124, n⟩
theorem ev124 (n : Nat) (x0 : T) : evF (cf124 n) (drawK (cf124 n)) (lms2 (lsl124 n)) 3 124 sg124 [x0] = F124 n x0 := by kernel_rfl
theorem lp124_124_3 (n : Nat) (K : Ex → St → Option (List T)) (self : List T → Option (List T)) (v : List T) : evC (cf124 n) (callK (cf124 n) (drawK (cf124 n)) (lms2 (lsl124 n)) 3) (drawK (cf124 n) (callK (cf124 n) (drawK (cf124 n)) (lms2 (lsl124 n)) 3)) (ann124 124) (lm124_124 n) (bodyOf Go.Proofs.Try.f124 3) ((L124_124_3 n).sk.fill v) (roundK (ann124 124 3) K (selfK (L124_124_3 n) self)) = (L124_124_3 n).G v self (exitK (L124_124_3 n) K) := by kernel_rfl
theorem eo124 (n : Nat) : EnvOk Go.Proofs.Try.prog (tiOf tab) n 124 sg124 ⟨M124⟩ :=
  have hc : CodeOk Go.Proofs.Try.prog (cf124 n) := (code_cons Go.Proofs.Try.func124 (by kernel_rfl) code_nil)
  have he : EnvsOk Go.Proofs.Try.prog (cf124 n) := env_nil
  have hl : LmsOk (R := List T) (cf124 n) (drawK (cf124 n)) (lms2 (lsl124 n)) (lsl124 n) := (lms_cons (loops_of (cf := cf124 n) (fn0 := Go.Proofs.Try.f124) rfl (l := [bodyOf Go.Proofs.Try.f124 3]) (by kernel_rfl) (loops_cons (b := bodyOf Go.Proofs.Try.f124 3) (by kernel_rfl) (rfl : lm124_124 n 3 = [L124_124_3 n]) (List.forall_mem_cons.2 ⟨fun K self v => lp124_124_3 n K self v, fun _ h => by cases h⟩) loops_nil)) lms_nil)
  envOk_of (cf := cf124 n) tabOk hc he (draw := drawK (cf124 n)) (fun _ => drawK_ok tabOk mixed hc he) (d := 3) (lms := lms2 (lsl124 n)) hl
    (fun τs rs h => by
      simp only [M124] at h
      split at h
      · exact (ev124 n _).trans h
      · cases h)
/-! ### 152: laws.toData -/
def sg152 : Sig := ⟨[(true, [.int .i64, .int .i64, .int .i64, .bool, .bool, .bool, .slice 5])], [.agg [(.int .i64, false), (.int .i64, false), (.int .i64, false), (.bool, false), (.bool, false), (.bool, false), (.slice 5, false)]]⟩
def F152 (n : Nat) (x0 x1 x2 x3 x4 x5 x6 : T) : Option (List T) :=
  (F124 n x6).bind fun r1 => some [x0, x1, x2, x3, x4, x5, (r1.headD (.i 0))]
def M152 (n : Nat) (τs : List T) : Option (List T) := match τs with
  | [x0, x1, x2, x3, x4, x5, x6] => F152 n x0 x1 x2 x3 x4 x5 x6
  | _ => none
noncomputable def code152 : List (Nat × Func) := [(152, Go.Proofs.Try.f152)]
def env152 : List (Nat × (Sig × Mean)) := [(124, sg124, ⟨M124⟩)]
def ann152 (f i : Nat) : Ann := match f, i with
  | _, _ => ⟨[], [], []⟩
def lsl152 (n : Nat) : List ((Nat × Nat) × (Nat → List LoopM)) := []
noncomputable def cf152 (n : Nat) : Cfg := ⟨tiOf tab, lookup code152, lookup env152, ann152, n⟩
theorem ev152 (n : Nat) (x0 x1 x2 x3 x4 x5 x6 : T) : evF (cf152 n) (drawK (cf152 n)) (lms2 (lsl152 n)) 3 152 sg152 [x0, x1, x2, x3, x4, x5, x6] = F152 n x0 x1 x2 x3 x4 x5 x6 := by kernel_rfl
theorem eo152 (n : Nat) : EnvOk Go.Proofs.Try.prog (tiOf tab) n 152 sg152 ⟨M152⟩ :=
  have hc : CodeOk Go.Proofs.Try.prog (cf152 n) := (code_cons Go.Proofs.Try.func152 (by kernel_rfl) code_nil)
  have he : EnvsOk Go.Proofs.Try.prog (cf152 n) := (env_cons (eo124 n) env_nil)
  have hl : LmsOk (R := List T) (cf152 n) (drawK (cf152 n)) (lms2 (lsl152 n)) (lsl152 n) := lms_nil
  envOk_of (cf := cf152 n) tabOk hc he (draw := drawK (cf152 n)) (fun _ => drawK_ok tabOk mixed hc he) (d := 3) (lms := lms2 (lsl152 n)) hl
    (fun τs rs h => by
      simp only [M152] at h
      split at h
      · exact (ev152 n _ _ _ _ _ _ _).trans h
      · cases h)
/-! ### 75: laws.toDataS -/
def sg75 : Sig := ⟨[(false, [.slice 200])], [.leaf (.slice 142) false]⟩
def G75_75_3 {R : Type} (n : Nat) (v : List T) (self : List T → Option R) (ex : List (List T → Option R)) : Option R :=
  bif (decide ((v.getD 1 (.i 0)).I < ((((v.getD 0 (.i 0)).L).length : Nat) : Int))) then (if 0 ≤ (v.getD 1 (.i 0)).I ∧ (v.getD 1 (.i 0)).I < (((v.getD 0 (.i 0)).L).length : Int) then ((F152 n ((at_ ((v.getD 0 (.i 0)).L) ((v.getD 1 (.i 0)).I)).F 0) ((at_ ((v.getD 0 (.i 0)).L) ((v.getD 1 (.i 0)).I)).F 1) ((at_ ((v.getD 0 (.i 0)).L) ((v.getD 1 (.i 0)).I)).F 2) ((at_ ((v.getD 0 (.i 0)).L) ((v.getD 1 (.i 0)).I)).F 3) ((at_ ((v.getD 0 (.i 0)).L) ((v.getD 1 (.i 0)).I)).F 4) ((at_ ((v.getD 0 (.i 0)).L) ((v.getD 1 (.i 0)).I)).F 5) ((at_ ((v.getD 0 (.i 0)).L) ((v.getD 1 (.i 0)).I)).F 6)).bind fun r1 => if 0 ≤ (v.getD 1 (.i 0)).I ∧ (v.getD 1 (.i 0)).I < (((v.getD 2 (.i 0)).L).length : Int) then (if 142 = 142 ∧ ((v.getD 1 (.i 0)).I).toNat < ((v.getD 2 (.i 0)).L).length then (self [.l ((v.getD 0 (.i 0)).L), .i (IntKind.wrap .i64 ((v.getD 1 (.i 0)).I + 1)), .l (((v.getD 2 (.i 0)).L).set (((v.getD 1 (.i 0)).I).toNat) (.r [(r1.headD (.i 0)), (r1.tail.headD (.i 0)), (r1.tail.tail.headD (.i 0)), (r1.tail.tail.tail.headD (.i 0)), (r1.tail.tail.tail.tail.headD (.i 0)), (r1.tail.tail.tail.tail.tail.headD (.i 0)), (r1.tail.tail.tail.tail.tail.tail.headD (.i 0))]))]) else none) else none) else none) else (exn ex 0 [.l ((v.getD 2 (.i 0)).L)])
def L75_75_3 (n : Nat) : LoopM := ⟨⟨[[.t (.slice 200) (.i 0), .un, .un, .own 142 0, .t (.int .i64) (.i 0), .un, .un, .un, .un, .un, .un, .un, .un, .un, .un, .un, .un, .un, .un, .un, .un, .un, .un]], [.arr 142 []]⟩, [(.exit 0, ⟨[[.un, .un, .un, .own 142 0, .un, .un, .un, .un, .un, .un, .un, .un, .un, .un, .un, .un, .un, .un, .un, .un, .un, .un, .un]], [.arr 142 []]⟩)], fun v self ex => G75_75_3 n v self ex⟩
def F75 (n : Nat) (x0 : T) : Option (List T) :=
  if 0 ≤ (x0.L.length : Int) ∧ (x0.L.length : Int) * 56 ≤ limB ∧ (x0.L.length : Int) < maxN then (loopR (L75_75_3 n).G n [.l x0.L, .i 0, .l (List.replicate ((x0.L.length : Int)).toNat (T.r [.i 0, .i 0, .i 0, .b false, .b false, .b false, .l []]))] [fun u2 => some [.l ((u2.getD 0 (.i 0)).L)]]) else none
def M75 (n : Nat) (τs : List T) : Option (List T) := match τs with
  | [x0] => F75 n x0
  | _ => none
noncomputable def code75 : List (Nat × Func) := [(75, Go.Proofs.Try.f75)]
def env75 : List (Nat × (Sig × Mean)) := [(152, sg152, ⟨M152⟩)]
def ann75 (f i : Nat) : Ann := match f, i with
  | 75, 3 => ⟨[(0, .any), (3, .any), (4, .any)], [], [(3, .any)]⟩
  | _, _ => ⟨[], [], []⟩
def lm75_75 (n : Nat) (i : Nat) : List LoopM := match i with
  | 3 => [L75_75_3 n]
  | _ => []
def lsl75 (n : Nat) : List ((Nat × Nat) × (Nat → List LoopM)) := [((3, 75), lm75_75 n)]
noncomputable def cf75 (n : Nat) : Cfg := ⟨tiOf tab, lookup code75, lookup env75, ann75, n⟩
theorem ev75 (n : Nat) (x0 : T) : evF (cf75 n) (drawK (cf75 n)) (lms2 (lsl75 n)) 3 75 sg75 [x0] = F75 n x0 := by kernel_rfl
theorem lp75_75_3 (n : Nat) (K : Ex → St → Option (List T)) (self : List T → Option (List T)) (v : List T) : evC (cf75 n) (callK (cf75 n) (drawK (cf75 n)) (lms2 (lsl75 n)) 3) (drawK (cf75 n) (callK (cf75 n) (drawK (cf75 n)) (lms2 (lsl75 n)) 3)) (ann75 75) (lm75_75 n) (bodyOf Go.Proofs.Try.f75 3) ((L75_75_3 n).sk.fill v) (roundK (ann75 75 3) K (selfK (L75_75_3 n) self)) = (L75_75_3 n).G v self (exitK (L75_75_3 n) K) := by kernel_rfl
theorem eo75 (n : Nat) : EnvOk Go.Proofs.Try.prog (tiOf tab) n 75 sg75 ⟨M75⟩ :=
  have hc : CodeOk Go.Proofs.Try.prog (cf75 n) := (code_cons Go.Proofs.Try.func75 (by kernel_rfl) code_nil)
  have he : EnvsOk Go.Proofs.Try.prog (cf75 n) := (env_cons (eo152 n) env_nil)
  have hl : LmsOk (R := List T) (cf75 n) (drawK (cf75 n)) (lms2 (lsl75 n)) (lsl75 n) := (lms_cons (loops_of (cf := cf75 n) (fn0 := Go.Proofs.Try.f75) rfl (l := [bodyOf Go.Proofs.Try.f75 3]) (by kernel_rfl) (loops_cons (b := bodyOf Go.Proofs.Try.f75 3) (by kernel_rfl) (rfl : lm75_75 n 3 = [L75_75_3 n]) (List.forall_mem_cons.2 ⟨fun K self v => lp75_75_3 n K self v, fun _ h => by cases h⟩) loops_nil)) lms_nil)
  envOk_of (cf := cf75 n) tabOk hc he (draw := drawK (cf75 n)) (fun _ => drawK_ok tabOk mixed hc he) (d := 3) (lms := lms2 (lsl75 n)) hl
    (fun τs rs h => by
      simp only [M75] at h
      split at h
      · exact (ev75 n _).trans h
      · cases h)
/-! ### 13: laws.toRecv -/
def sg13 : Sig := ⟨[(true, [.int .i64, .slice 2, .slice 200, .slice 2])], [.agg [(.int .i64, false), (.slice 2, false), (.slice 142, false), (.slice 2, false)]]⟩
def F13 (n : Nat) (x0 x1 x2 x3 : T) : Option (List T) :=
  (F17 n x1).bind fun r1 => (F75 n x2).bind fun r2 => (F17 n x3).bind fun r3 => some [x0, (r1.headD (.i 0)), (r2.headD (.i 0)), (r3.headD (.i 0))]
def M13 (n : Nat) (τs : List T) : Option (List T) := match τs with
  | [x0, x1, x2, x3] => F13 n x0 x1 x2 x3
  | _ => none
noncomputable def code13 : List (Nat × Func) := [(13, Go.Proofs.Try.f13)]
def env13 : List (Nat × (Sig × Mean)) := [(17, sg17, ⟨M17⟩), (75, sg75, ⟨M75⟩)]
def ann13 (f i : Nat) : Ann := match f, i with
  | _, _ => ⟨[], [], []⟩
def lsl13 (n : Nat) : List ((Nat × Nat) × (Nat → List LoopM)) := []
noncomputable def cf13 (n : Nat) : Cfg := ⟨tiOf tab, lookup code13, lookup env13, ann13, n⟩
theorem ev13 (n : Nat) (x0 x1 x2 x3 : T) : evF (cf13 n) (drawK (cf13 n)) (lms2 (lsl13 n)) 3 13 sg13 [x0, x1, x2, x3] = F13 n x0 x1 x2 x3 := by kernel_rfl
theorem eo13 (n : Nat) : EnvOk Go.Proofs.Try.prog (tiOf tab) n 13 sg13 ⟨M13⟩ :=
  have hc : CodeOk Go.Proofs.Try.prog (cf13 n) := (code_cons Go.Proofs.Try.func13 (by kernel_rfl) code_nil)
  have he : EnvsOk Go.Proofs.Try.prog (cf13 n) := (env_cons (eo17 n) (env_cons (eo75 n) env_nil))
  have hl : LmsOk (R := List T) (cf13 n) (drawK (cf13 n)) (lms2 (lsl13 n)) (lsl13 n) := lms_nil
  envOk_of (cf := cf13 n) tabOk hc he (draw := drawK (cf13 n)) (fun _ => drawK_ok tabOk mixed hc he) (d := 3) (lms := lms2 (lsl13 n)) hl
    (fun τs rs h => by
      simp only [M13] at h
      split at h
      · exact (ev13 n _ _ _ _).trans h
      · cases h)
/-! ### 76: slices.Equal[[]int64,int64] -/
def sg76 : Sig := ⟨[(false, [.slice 2]), (false, [.slice 2])], [.leaf .bool false]⟩
def G76_76_4 {R : Type} (n : Nat) (v : List T) (self : List T → Option R) (ex : List (List T → Option R)) : Option R :=
  bif (decide ((v.getD 3 (.i 0)).I < (v.getD 2 (.i 0)).I)) then (if 0 ≤ (v.getD 3 (.i 0)).I ∧ (v.getD 3 (.i 0)).I < (((v.getD 0 (.i 0)).L).length : Int) then (if 0 ≤ (v.getD 3 (.i 0)).I ∧ (v.getD 3 (.i 0)).I < (((v.getD 1 (.i 0)).L).length : Int) then (bif ((at_ ((v.getD 0 (.i 0)).L) ((v.getD 3 (.i 0)).I)).I != (at_ ((v.getD 1 (.i 0)).L) ((v.getD 3 (.i 0)).I)).I) then (exn ex 0 [.b false]) else (self [.l ((v.getD 0 (.i 0)).L), .l ((v.getD 1 (.i 0)).L), .i ((v.getD 2 (.i 0)).I), .i (IntKind.wrap .i64 ((v.getD 3 (.i 0)).I + 1))])) else none) else none) else (exn ex 1 [])
def L76_76_4 (n : Nat) : LoopM := ⟨⟨[[.t (.slice 2) (.i 0), .t (.slice 2) (.i 0), .un, .un, .un, .un, .un, .un, .un, .un, .un, .un, .t (.int .i64) (.i 0), .t (.int .i64) (.i 0), .un, .un, .un, .un, .un, .un, .un, .un, .un, .un, .un, .un]], []⟩, [(.ret, ⟨[[.un, .un, .un, .un, .t .bool (.i 0), .un, .un, .un, .un, .un, .un, .un, .un, .un, .un, .un, .un, .un, .un, .un, .un, .un, .un, .un, .un, .un]], []⟩), (.exit 0, ⟨[[.un, .un, .un, .un, .un, .un, .un, .un, .un, .un, .un, .un, .un, .un, .un, .un, .un, .un, .un, .un, .un, .un, .un, .un, .un, .un]], []⟩)], fun v self ex => G76_76_4 n v self ex⟩
def F76 (n : Nat) (x0 x1 : T) : Option (List T) :=
  bif ((x0.L.length : Int) != (x1.L.length : Int)) then (some [.b false]) else (loopR (L76_76_4 n).G n [.l x0.L, .l x1.L, .i (x0.L.length : Int), .i 0] [fun u1 => some [.b ((u1.getD 0 (.i 0)).B)], fun u2 => some [.b true]])
def M76 (n : Nat) (τs : List T) : Option (List T) := match τs with
  | [x0, x1] => F76 n x0 x1
  | _ => none
noncomputable def code76 : List (Nat × Func) := [(76, Go.Proofs.Try.f76)]
def env76 : List (Nat × (Sig × Mean)) := []
def ann76 (f i : Nat) : Ann := match f, i with
  | 76, 4 => ⟨[(0, .any), (1, .any), (12, .any), (13, .any)], [], [(4, .any)]⟩
  | _, _ => ⟨[], [], []⟩
def lm76_76 (n : Nat) (i : Nat) : List LoopM := match i with
  | 4 => [L76_76_4 n]
  | _ => []
def lsl76 (n : Nat) : List ((Nat × Nat) × (Nat → List LoopM)) := [((3, 76), lm76_76 n)]
noncomputable def cf76 (n : Nat) : Cfg := ⟨tiOf tab, lookup code76, lookup env76, ann76, n⟩
theorem ev76 (n : Nat) (x0 x1 : T) : evF (cf76 n) (drawK (cf76 n)) (lms2 (lsl76 n)) 3 76 sg76 [x0, x1] = F76 n x0 x1 := by kernel_rfl
theorem lp76_76_4 (n : Nat) (K : Ex → St → Option (List T)) (self : List T → Option (List T)) (v : List T) : evC (cf76 n) (callK (cf76 n) (drawK (cf76 n)) (lms2 (lsl76 n)) 3) (drawK (cf76 n) (callK (cf76 n) (drawK (cf76 n)) (lms2 (lsl76 n)) 3)) (ann76 76) (lm76_76 n) (bodyOf Go.Proofs.Try.f76 4) ((L76_76_4 n).sk.fill v) (roundK (ann76 76 4) K (selfK (L76_76_4 n) self)) = (L76_76_4 n).G v self (exitK (L76_76_4 n) K) := by kernel_rfl
theorem eo76 (n : Nat) : EnvOk Go.Proofs.Try.prog (tiOf tab) n 76 sg76 ⟨M76⟩ :=
  have hc : CodeOk Go.Proofs.Try.prog (cf76 n) := (code_cons Go.Proofs.Try.func76 (by kernel_rfl) code_nil)
  have he : EnvsOk Go.Proofs.Try.prog (cf76 n) := env_nil
  have hl : LmsOk (R := List T) (cf76 n) (drawK (cf76 n)) (lms2 (lsl76 n)) (lsl76 n) := (lms_cons (loops_of (cf := cf76 n) (fn0 := Go.Proofs.Try.f76) rfl (l := [bodyOf Go.Proofs.Try.f76 4]) (by kernel_rfl) (loops_cons (b := bodyOf Go.Proofs.Try.f76 4) (by kernel_rfl) (rfl : lm76_76 n 4 = [L76_76_4 n]) (List.forall_mem_cons.2 ⟨fun K self v => lp76_76_4 n K self v, fun _ h => by cases h⟩) loops_nil)) lms_nil)
  envOk_of (cf := cf76 n) tabOk hc he (draw := drawK (cf76 n)) (fun _ => drawK_ok tabOk mixed hc he) (d := 3) (lms := lms2 (lsl76 n)) hl
    (fun τs rs h => by
      simp only [M76] at h
      split at h
      · exact (ev76 n _ _).trans h
      · cases h)
/-! ### 162: slices.Equal[[]byte,byte] -/
def sg162 : Sig := ⟨[(false, [.slice 5]), (false, [.slice 5])], [.leaf .bool false]⟩
def G162_162_4 {R : Type} (n : Nat) (v : List T) (self : List T → Option R) (ex : List (List T → Option R)) : Option R :=
  bif (decide ((v.getD 3 (.i 0)).I < (v.getD 2 (.i 0)).I)) then (if 0 ≤ (v.getD 3 (.i 0)).I ∧ (v.getD 3 (.i 0)).I < (((v.getD 0 (.i 0)).L).length : Int) then (if 0 ≤ (v.getD 3 (.i 0)).I ∧ (v.getD 3 (.i 0)).I < (((v.getD 1 (.i 0)).L).length : Int) then (bif ((at_ ((v.getD 0 (.i 0)).L) ((v.getD 3 (.i 0)).I)).I != (at_ ((v.getD 1 (.i 0)).L) ((v.getD 3 (.i 0)).I)).I) then (exn ex 0 [.b false]) else (self [.l ((v.getD 0 (.i 0)).L), .l ((v.getD 1 (.i 0)).L), .i ((v.getD 2 (.i 0)).I), .i (IntKind.wrap .i64 ((v.getD 3 (.i 0)).I + 1))])) else none) else none) else (exn ex 1 [])
def L162_162_4 (n : Nat) : LoopM := ⟨⟨[[.t (.slice 5) (.i 0), .t (.slice 5) (.i 0), .un, .un, .un, .un, .un, .un, .un, .un, .un, .un, .t (.int .i64) (.i 0), .t (.int .i64) (.i 0), .un, .un, .un, .un, .un, .un, .un, .un, .un, .un, .un, .un]], []⟩, [(.ret, ⟨[[.un, .un, .un, .un, .t .bool (.i 0), .un, .un, .un, .un, .un, .un, .un, .un, .un, .un, .un, .un, .un, .un, .un, .un, .un, .un, .un, .un, .un]], []⟩), (.exit 0, ⟨[[.un, .un, .un, .un, .un, .un, .un, .un, .un, .un, .un, .un, .un, .un, .un, .un, .un, .un, .un, .un, .un, .un, .un, .un, .un, .un]], []⟩)], fun v self ex => G162_162_4 n v self ex⟩
def F162 (n : Nat) (x0 x1 : T) : Option (List T) :=
  bif ((x0.L.length : Int) != (x1.L.length : Int)) then (some [.b false]) else (loopR (L162_162_4 n).G n [.l x0.L, .l x1.L, .i (x0.L.length : Int), .i 0] [fun u1 => some [.b ((u1.getD 0 (.i 0)).B)], fun u2 => some [.b true]])
def M162 (n : Nat) (τs : List T) : Option (List T) := match τs with
  | [x0, x1] => F162 n x0 x1
  | _ => none
noncomputable def code162 : List (Nat × Func) := [(162, Go.Proofs.Try.f162)]
def env162 : List (Nat × (Sig × Mean)) := []
def ann162 (f i : Nat) : Ann := match f, i with
  | 162, 4 => ⟨[(0, .any), (1, .any), (12, .any), (13, .any)], [], [(4, .any)]⟩
  | _, _ => ⟨[], [], []⟩
def lm162_162 (n : Nat) (i : Nat) : List LoopM := match i with
  | 4 => [L162_162_4 n]
  | _ => []
def lsl162 (n : Nat) : List ((Nat × Nat) × (Nat → List LoopM)) := [((3, 162), lm162_162 n)]
noncomputable def cf162 (n : Nat) : Cfg := ⟨tiOf tab, lookup code162, lookup env162, ann162, n⟩
theorem ev162 (n : Nat) (x0 x1 : T) : evF (cf162 n) (drawK (cf162 n)) (lms2 (lsl162 n)) 3 162 sg162 [x0, x1] = F162 n x0 x1 := by kernel_rfl
theorem lp162_162_4 (n : Nat) (K : Ex → St → Option (List T)) (self : List T → Option (List T)) (v : List T) : evC (cf162 n) (callK (cf162 n) (drawK (cf162 n)) (lms2 (lsl162 n)) 3) (drawK (cf162 n) (callK (cf162 n) (drawK (cf162 n)) (lms2 (lsl162 n)) 3)) (ann162 162) (lm162_162 n) (bodyOf Go.Proofs.Try.f162 4) ((L162_162_4 n).sk.fill v) (roundK (ann162 162 4) K (selfK (L162_162_4 n) self)) = (L162_162_4 n).G v self (exitK (L162_162_4 n) K) := by kernel_rfl
theorem eo162 (n : Nat) : EnvOk Go.Proofs.Try.prog (tiOf tab) n 162 sg162 ⟨M162⟩ :=
  have hc : CodeOk Go.Proofs.Try.prog (cf162 n) := (code_cons Go.Proofs.Try.func162 (by kernel_rfl) code_nil)
  have he : EnvsOk Go.Proofs.Try.prog (cf162 n) := env_nil
  have hl : LmsOk (R := List T) (cf162 n) (drawK (cf162 n)) (lms2 (lsl162 n)) (lsl162 n) := (lms_cons (loops_of (cf := cf162 n) (fn0 := Go.Proofs.Try.f162) rfl (l := [bodyOf Go.Proofs.Try.f162 4]) (by kernel_rfl) (loops_cons (b := bodyOf Go.Proofs.Try.f162 4) (by kernel_rfl) (rfl : lm162_162 n 4 = [L162_162_4 n]) (List.forall_mem_cons.2 ⟨fun K self v => lp162_162_4 n K self v, fun _ h => by cases h⟩) loops_nil)) lms_nil)
  envOk_of (cf := cf162 n) tabOk hc he (draw := drawK (cf162 n)) (fun _ => drawK_ok tabOk mixed hc he) (d := 3) (lms := lms2 (lsl162 n)) hl
    (fun τs rs h => by
      simp only [M162] at h
      split at h
      · exact (ev162 n _ _).trans h
      · cases h)
/-! ### 96: impl.sameData -/
def sg96 : Sig := ⟨[(true, [.int .i64, .int .i64, .int .i64, .bool, .bool, .bool, .slice 5]), (true, [.int .i64, .int .i64, .int .i64, .bool, .bool, .bool, .slice 5])], [.leaf .bool false]⟩
def F96 (n : Nat) (x0 x1 x2 x3 x4 x5 x6 x7 x8 x9 x10 x11 x12 x13 : T) : Option (List T) :=
  bif (x0.I == x7.I) then (bif (x1.I == x8.I) then (bif (x2.I == x9.I) then (bif (x3.B == x10.B) then (bif (x4.B == x11.B) then (bif (x5.B == x12.B) then ((F162 n x6 x13).bind fun r1 => some [(r1.headD (.i 0))]) else (some [.b false])) else (some [.b false])) else (some [.b false])) else (some [.b false])) else (some [.b false])) else (some [.b false])
def M96 (n : Nat) (τs : List T) : Option (List T) := match τs with
  | [x0, x1, x2, x3, x4, x5, x6, x7, x8, x9, x10, x11, x12, x13] => F96 n x0 x1 x2 x3 x4 x5 x6 x7 x8 x9 x10 x11 x12 x13
  | _ => none
noncomputable def code96 : List (Nat × Func) := [(96, Go.Proofs.Try.f96)]
def env96 : List (Nat × (Sig × Mean)) := [(162, sg162, ⟨M162⟩)]
def ann96 (f i : Nat) : Ann := match f, i with
  | _, _ => ⟨[], [], []⟩
def lsl96 (n : Nat) : List ((Nat × Nat) × (Nat → List LoopM)) := []
noncomputable def cf96 (n : Nat) : Cfg := ⟨tiOf tab, lookup code96, lookup env96, ann96, n⟩
theorem ev96 (n : Nat) (x0 x1 x2 x3 x4 x5 x6 x7 x8 x9 x10 x11 x12 x13 : T) : evF (cf96 n) (drawK (cf96 n)) (lms2 (lsl96 n)) 3 96 sg96 [x0, x1, x2, x3, x4, x5, x6, x7, x8, x9, x10, x11, x12, x13] = F96 n x0 x1 x2 x3 x4 x5 x6 x7 x8 x9 x10 x11 x12 x13 := by kernel_rfl
theorem eo96 (n : Nat) : EnvOk Go.Proofs.Try.prog (tiOf tab) n 96 sg96 ⟨M96⟩ :=
  have hc : CodeOk Go.Proofs.Try.prog (cf96 n) := (code_cons Go.Proofs.Try.func96 (by kernel_rfl) code_nil)
  have he : EnvsOk Go.Proofs.Try.prog (cf96 n) := (env_cons (eo162 n) env_nil)
  have hl : LmsOk (R := List T) (cf96 n) (drawK (cf96 n)) (lms2 (lsl96 n)) (lsl96 n) := lms_nil
  envOk_of (cf := cf96 n) tabOk hc he (draw := drawK (cf96 n)) (fun _ => drawK_ok tabOk mixed hc he) (d := 3) (lms := lms2 (lsl96 n)) hl
    (fun τs rs h => by
      simp only [M96] at h
      split at h
      · exact (ev96 n _ _ _ _ _ _ _ _ _ _ _ _ _ _).trans h
      · cases h)
/-! ### 77: impl.SameDatas -/
def sg77 : Sig := ⟨[(false, [.slice 142]), (false, [.slice 142])], [.leaf .bool false]⟩
def G77_153_4 {R : Type} (n : Nat) (v : List T) (self : List T → Option R) (ex : List (List T → Option R)) : Option R :=
  bif (decide ((v.getD 3 (.i 0)).I < (v.getD 2 (.i 0)).I)) then (if 0 ≤ (v.getD 3 (.i 0)).I ∧ (v.getD 3 (.i 0)).I < (((v.getD 1 (.i 0)).L).length : Int) then (if 0 ≤ (v.getD 3 (.i 0)).I ∧ (v.getD 3 (.i 0)).I < (((v.getD 0 (.i 0)).L).length : Int) then ((F96 n ((at_ ((v.getD 1 (.i 0)).L) ((v.getD 3 (.i 0)).I)).F 0) ((at_ ((v.getD 1 (.i 0)).L) ((v.getD 3 (.i 0)).I)).F 1) ((at_ ((v.getD 1 (.i 0)).L) ((v.getD 3 (.i 0)).I)).F 2) ((at_ ((v.getD 1 (.i 0)).L) ((v.getD 3 (.i 0)).I)).F 3) ((at_ ((v.getD 1 (.i 0)).L) ((v.getD 3 (.i 0)).I)).F 4) ((at_ ((v.getD 1 (.i 0)).L) ((v.getD 3 (.i 0)).I)).F 5) ((at_ ((v.getD 1 (.i 0)).L) ((v.getD 3 (.i 0)).I)).F 6) ((at_ ((v.getD 0 (.i 0)).L) ((v.getD 3 (.i 0)).I)).F 0) ((at_ ((v.getD 0 (.i 0)).L) ((v.getD 3 (.i 0)).I)).F 1) ((at_ ((v.getD 0 (.i 0)).L) ((v.getD 3 (.i 0)).I)).F 2) ((at_ ((v.getD 0 (.i 0)).L) ((v.getD 3 (.i 0)).I)).F 3) ((at_ ((v.getD 0 (.i 0)).L) ((v.getD 3 (.i 0)).I)).F 4) ((at_ ((v.getD 0 (.i 0)).L) ((v.getD 3 (.i 0)).I)).F 5) ((at_ ((v.getD 0 (.i 0)).L) ((v.getD 3 (.i 0)).I)).F 6)).bind fun r1 => bif (!(r1.headD (.i 0)).B) then (exn ex 0 [.b false, .l ((v.getD 4 (.i 0)).L), .l ((v.getD 5 (.i 0)).L), .b ((v.getD 6 (.i 0)).B), .l ((v.getD 7 (.i 0)).L), .l ((v.getD 8 (.i 0)).L)]) else (self [.l ((v.getD 0 (.i 0)).L), .l ((v.getD 1 (.i 0)).L), .i ((v.getD 2 (.i 0)).I), .i (IntKind.wrap .i64 ((v.getD 3 (.i 0)).I + 1)), .l ((v.getD 4 (.i 0)).L), .l ((v.getD 5 (.i 0)).L), .b ((v.getD 6 (.i 0)).B), .l ((v.getD 7 (.i 0)).L), .l ((v.getD 8 (.i 0)).L)])) else none) else none) else (exn ex 1 [.l ((v.getD 4 (.i 0)).L), .l ((v.getD 5 (.i 0)).L), .b ((v.getD 6 (.i 0)).B), .l ((v.getD 7 (.i 0)).L), .l ((v.getD 8 (.i 0)).L)])
def L77_153_4 (n : Nat) : LoopM := ⟨⟨[[.un, .t (.slice 142) (.i 0), .fn 96 [], .un, .un, .un, .un, .un, .un, .un, .un, .un, .un, .un, .un, .t (.slice 142) (.i 0), .t (.int .i64) (.i 0), .t (.int .i64) (.i 0), .un, .un, .un, .un, .un, .un, .un, .un, .un, .un, .un, .un, .un, .un], [.t (.slice 142) (.i 0), .t (.slice 142) (.i 0), .tup [], .tup [], .t .bool (.i 0), .t (.slice 142) (.i 0), .t (.slice 142) (.i 0), .tup []]], []⟩, [(.ret, ⟨[[.un, .un, .un, .un, .un, .un, .t .bool (.i 0), .un, .un, .un, .un, .un, .un, .un, .un, .un, .un, .un, .un, .un, .un, .un, .un, .un, .un, .un, .un, .un, .un, .un, .un, .un], [.t (.slice 142) (.i 0), .t (.slice 142) (.i 0), .tup [], .tup [], .t .bool (.i 0), .t (.slice 142) (.i 0), .t (.slice 142) (.i 0), .tup []]], []⟩), (.exit 0, ⟨[[.un, .un, .un, .un, .un, .un, .un, .un, .un, .un, .un, .un, .un, .un, .un, .un, .un, .un, .un, .un, .un, .un, .un, .un, .un, .un, .un, .un, .un, .un, .un, .un], [.t (.slice 142) (.i 0), .t (.slice 142) (.i 0), .tup [], .tup [], .t .bool (.i 0), .t (.slice 142) (.i 0), .t (.slice 142) (.i 0), .tup []]], []⟩)], fun v self ex => G77_153_4 n v self ex⟩
def F77 (n : Nat) (x0 x1 : T) : Option (List T) :=
  bif ((x0.L.length : Int) != (x1.L.length : Int)) then (some [.b false]) else (loopR (L77_153_4 n).G n [.l x1.L, .l x0.L, .i (x0.L.length : Int), .i 0, .l x0.L, .l x1.L, .b false, .l x0.L, .l x1.L] [fun u2 => some [.b ((u2.getD 0 (.i 0)).B)], fun u3 => some [.b true]])
def M77 (n : Nat) (τs : List T) : Option (List T) := match τs with
  | [x0, x1] => F77 n x0 x1
  | _ => none
noncomputable def code77 : List (Nat × Func) := [(77, Go.Proofs.Try.f77), (153, Go.Proofs.Try.f153)]
def env77 : List (Nat × (Sig × Mean)) := [(96, sg96, ⟨M96⟩)]
def ann77 (f i : Nat) : Ann := match f, i with
  | 153, 4 => ⟨[(1, .any), (2, .any), (15, .any), (16, .any), (17, .any)], [], [(6, .any)]⟩
  | _, _ => ⟨[], [], []⟩
def lm77_153 (n : Nat) (i : Nat) : List LoopM := match i with
  | 4 => [L77_153_4 n]
  | _ => []
def lsl77 (n : Nat) : List ((Nat × Nat) × (Nat → List LoopM)) := [((2, 153), lm77_153 n)]
noncomputable def cf77 (n : Nat) : Cfg := ⟨tiOf tab, lookup code77, lookup env77, ann77, n⟩
theorem ev77 (n : Nat) (x0 x1 : T) : evF (cf77 n) (drawK (cf77 n)) (lms2 (lsl77 n)) 3 77 sg77 [x0, x1] = F77 n x0 x1 := by kernel_rfl
theorem lp77_153_4 (n : Nat) (K : Ex → St → Option (List T)) (self : List T → Option (List T)) (v : List T) : evC (cf77 n) (callK (cf77 n) (drawK (cf77 n)) (lms2 (lsl77 n)) 2) (drawK (cf77 n) (callK (cf77 n) (drawK (cf77 n)) (lms2 (lsl77 n)) 2)) (ann77 153) (lm77_153 n) (bodyOf Go.Proofs.Try.f153 4) ((L77_153_4 n).sk.fill v) (roundK (ann77 153 4) K (selfK (L77_153_4 n) self)) = (L77_153_4 n).G v self (exitK (L77_153_4 n) K) := by kernel_rfl
theorem eo77 (n : Nat) : EnvOk Go.Proofs.Try.prog (tiOf tab) n 77 sg77 ⟨M77⟩ :=
  have hc : CodeOk Go.Proofs.Try.prog (cf77 n) := (code_cons Go.Proofs.Try.func77 (by kernel_rfl) (code_cons Go.Proofs.Try.func153 (by kernel_rfl) code_nil))
  have he : EnvsOk Go.Proofs.Try.prog (cf77 n) := (env_cons (eo96 n) env_nil)
  have hl : LmsOk (R := List T) (cf77 n) (drawK (cf77 n)) (lms2 (lsl77 n)) (lsl77 n) := (lms_cons (loops_of (cf := cf77 n) (fn0 := Go.Proofs.Try.f153) rfl (l := [bodyOf Go.Proofs.Try.f153 4]) (by kernel_rfl) (loops_cons (b := bodyOf Go.Proofs.Try.f153 4) (by kernel_rfl) (rfl : lm77_153 n 4 = [L77_153_4 n]) (List.forall_mem_cons.2 ⟨fun K self v => lp77_153_4 n K self v, fun _ h => by cases h⟩) loops_nil)) lms_nil)
  envOk_of (cf := cf77 n) tabOk hc he (draw := drawK (cf77 n)) (fun _ => drawK_ok tabOk mixed hc he) (d := 3) (lms := lms2 (lsl77 n)) hl
    (fun τs rs h => by
      simp only [M77] at h
      split at h
      · exact (ev77 n _ _).trans h
      · cases h)
/-! ### 14: impl.SameRecvs -/
def sg14 : Sig := ⟨[(true, [.int .i64, .slice 2, .slice 142, .slice 2]), (true, [.int .i64, .slice 2, .slice 142, .slice 2])], [.leaf .bool false]⟩
def F14 (n : Nat) (x0 x1 x2 x3 x4 x5 x6 x7 : T) : Option (List T) :=
  bif (x0.I == x4.I) then ((F76 n x1 x5).bind fun r1 => bif (r1.headD (.i 0)).B then ((F77 n x2 x6).bind fun r2 => bif (r2.headD (.i 0)).B then ((F76 n x3 x7).bind fun r3 => some [(r3.headD (.i 0))]) else (some [.b false])) else (some [.b false])) else (some [.b false])
def M14 (n : Nat) (τs : List T) : Option (List T) := match τs with
  | [x0, x1, x2, x3, x4, x5, x6, x7] => F14 n x0 x1 x2 x3 x4 x5 x6 x7
  | _ => none
noncomputable def code14 : List (Nat × Func) := [(14, Go.Proofs.Try.f14)]
def env14 : List (Nat × (Sig × Mean)) := [(76, sg76, ⟨M76⟩), (77, sg77, ⟨M77⟩)]
def ann14 (f i : Nat) : Ann := match f, i with
  | _, _ => ⟨[], [], []⟩
def lsl14 (n : Nat) : List ((Nat × Nat) × (Nat → List LoopM)) := []
noncomputable def cf14 (n : Nat) : Cfg := ⟨tiOf tab, lookup code14, lookup env14, ann14, n⟩
theorem ev14 (n : Nat) (x0 x1 x2 x3 x4 x5 x6 x7 : T) : evF (cf14 n) (drawK (cf14 n)) (lms2 (lsl14 n)) 3 14 sg14 [x0, x1, x2, x3, x4, x5, x6, x7] = F14 n x0 x1 x2 x3 x4 x5 x6 x7 := by kernel_rfl
theorem eo14 (n : Nat) : EnvOk Go.Proofs.Try.prog (tiOf tab) n 14 sg14 ⟨M14⟩ :=
  have hc : CodeOk Go.Proofs.Try.prog (cf14 n) := (code_cons Go.Proofs.Try.func14 (by kernel_rfl) code_nil)
  have he : EnvsOk Go.Proofs.Try.prog (cf14 n) := (env_cons (eo76 n) (env_cons (eo77 n) env_nil))
  have hl : LmsOk (R := List T) (cf14 n) (drawK (cf14 n)) (lms2 (lsl14 n)) (lsl14 n) := lms_nil
  envOk_of (cf := cf14 n) tabOk hc he (draw := drawK (cf14 n)) (fun _ => drawK_ok tabOk mixed hc he) (d := 3) (lms := lms2 (lsl14 n)) hl
    (fun τs rs h => by
      simp only [M14] at h
      split at h
      · exact (ev14 n _ _ _ _ _ _ _ _).trans h
      · cases h)
/-! ### 20: laws.eqInt64S -/
def sg20 : Sig := ⟨[(false, [.slice 2]), (false, [.slice 2])], [.leaf .bool false]⟩
def G20_20_4 {R : Type} (n : Nat) (v : List T) (self : List T → Option R) (ex : List (List T → Option R)) : Option R :=
  bif (decide ((v.getD 2 (.i 0)).I < ((((v.getD 0 (.i 0)).L).length : Nat) : Int))) then (if 0 ≤ (v.getD 2 (.i 0)).I ∧ (v.getD 2 (.i 0)).I < (((v.getD 0 (.i 0)).L).length : Int) then (if 0 ≤ (v.getD 2 (.i 0)).I ∧ (v.getD 2 (.i 0)).I < (((v.getD 1 (.i 0)).L).length : Int) then (bif ((at_ ((v.getD 0 (.i 0)).L) ((v.getD 2 (.i 0)).I)).I != (at_ ((v.getD 1 (.i 0)).L) ((v.getD 2 (.i 0)).I)).I) then (exn ex 0 [.b false]) else (self [.l ((v.getD 0 (.i 0)).L), .l ((v.getD 1 (.i 0)).L), .i (IntKind.wrap .i64 ((v.getD 2 (.i 0)).I + 1))])) else none) else none) else (exn ex 1 [])
def L20_20_4 (n : Nat) : LoopM := ⟨⟨[[.t (.slice 2) (.i 0), .t (.slice 2) (.i 0), .un, .un, .un, .t (.int .i64) (.i 0), .un, .un, .un, .un, .un, .un, .un, .un, .un, .un, .un, .un, .un, .un, .un, .un, .un, .un, .un, .un]], []⟩, [(.ret, ⟨[[.un, .un, .un, .un, .t .bool (.i 0), .un, .un, .un, .un, .un, .un, .un, .un, .un, .un, .un, .un, .un, .un, .un, .un, .un, .un, .un, .un, .un]], []⟩), (.exit 0, ⟨[[.un, .un, .un, .un, .un, .un, .un, .un, .un, .un, .un, .un, .un, .un, .un, .un, .un, .un, .un, .un, .un, .un, .un, .un, .un, .un]], []⟩)], fun v self ex => G20_20_4 n v self ex⟩
def F20 (n : Nat) (x0 x1 : T) : Option (List T) :=
  bif ((x0.L.length : Int) != (x1.L.length : Int)) then (some [.b false]) else (loopR (L20_20_4 n).G n [.l x0.L, .l x1.L, .i 0] [fun u1 => some [.b ((u1.getD 0 (.i 0)).B)], fun u2 => some [.b true]])
def M20 (n : Nat) (τs : List T) : Option (List T) := match τs with
  | [x0, x1] => F20 n x0 x1
  | _ => none
noncomputable def code20 : List (Nat × Func) := [(20, Go.Proofs.Try.f20)]
def env20 : List (Nat × (Sig × Mean)) := []
def ann20 (f i : Nat) : Ann := match f, i with
  | 20, 4 => ⟨[(0, .any), (1, .any), (5, .any)], [], [(4, .any)]⟩
  | _, _ => ⟨[], [], []⟩
def lm20_20 (n : Nat) (i : Nat) : List LoopM := match i with
  | 4 => [L20_20_4 n]
  | _ => []
def lsl20 (n : Nat) : List ((Nat × Nat) × (Nat → List LoopM)) := [((3, 20), lm20_20 n)]
noncomputable def cf20 (n : Nat) : Cfg := ⟨tiOf tab, lookup code20, lookup env20, ann20, n⟩
theorem ev20 (n : Nat) (x0 x1 : T) : evF (cf20 n) (drawK (cf20 n)) (lms2 (lsl20 n)) 3 20 sg20 [x0, x1] = F20 n x0 x1 := by kernel_rfl
theorem lp20_20_4 (n : Nat) (K : Ex → St → Option (List T)) (self : List T → Option (List T)) (v : List T) : evC (cf20 n) (callK (cf20 n) (drawK (cf20 n)) (lms2 (lsl20 n)) 3) (drawK (cf20 n) (callK (cf20 n) (drawK (cf20 n)) (lms2 (lsl20 n)) 3)) (ann20 20) (lm20_20 n) (bodyOf Go.Proofs.Try.f20 4) ((L20_20_4 n).sk.fill v) (roundK (ann20 20 4) K (selfK (L20_20_4 n) self)) = (L20_20_4 n).G v self (exitK (L20_20_4 n) K) := by kernel_rfl
theorem eo20 (n : Nat) : EnvOk Go.Proofs.Try.prog (tiOf tab) n 20 sg20 ⟨M20⟩ :=
  have hc : CodeOk Go.Proofs.Try.prog (cf20 n) := (code_cons Go.Proofs.Try.func20 (by kernel_rfl) code_nil)
  have he : EnvsOk Go.Proofs.Try.prog (cf20 n) := env_nil
  have hl : LmsOk (R := List T) (cf20 n) (drawK (cf20 n)) (lms2 (lsl20 n)) (lsl20 n) := (lms_cons (loops_of (cf := cf20 n) (fn0 := Go.Proofs.Try.f20) rfl (l := [bodyOf Go.Proofs.Try.f20 4]) (by kernel_rfl) (loops_cons (b := bodyOf Go.Proofs.Try.f20 4) (by kernel_rfl) (rfl : lm20_20 n 4 = [L20_20_4 n]) (List.forall_mem_cons.2 ⟨fun K self v => lp20_20_4 n K self v, fun _ h => by cases h⟩) loops_nil)) lms_nil)
  envOk_of (cf := cf20 n) tabOk hc he (draw := drawK (cf20 n)) (fun _ => drawK_ok tabOk mixed hc he) (d := 3) (lms := lms2 (lsl20 n)) hl
    (fun τs rs h => by
      simp only [M20] at h
      split at h
      · exact (ev20 n _ _).trans h
      · cases h)
/-! ### 131: laws.eqByteS -/
def sg131 : Sig := ⟨[(false, [.slice 5]), (false, [.slice 5])], [.leaf .bool false]⟩
def G131_131_4 {R : Type} (n : Nat) (v : List T) (self : List T → Option R) (ex : List (List T → Option R)) : Option R :=
  bif (decide ((v.getD 2 (.i 0)).I < ((((v.getD 0 (.i 0)).L).length : Nat) : Int))) then (if 0 ≤ (v.getD 2 (.i 0)).I ∧ (v.getD 2 (.i 0)).I < (((v.getD 0 (.i 0)).L).length : Int) then (if 0 ≤ (v.getD 2 (.i 0)).I ∧ (v.getD 2 (.i 0)).I < (((v.getD 1 (.i 0)).L).length : Int) then (bif ((at_ ((v.getD 0 (.i 0)).L) ((v.getD 2 (.i 0)).I)).I != (at_ ((v.getD 1 (.i 0)).L) ((v.getD 2 (.i 0)).I)).I) then (exn ex 0 [.b false]) else (self [.l ((v.getD 0 (.i 0)).L), .l ((v.getD 1 (.i 0)).L), .i (IntKind.wrap .i64 ((v.getD 2 (.i 0)).I + 1))])) else none) else none) else (exn ex 1 [])
def L131_131_4 (n : Nat) : LoopM := ⟨⟨[[.t (.slice 5) (.i 0), .t (.slice 5) (.i 0), .un, .un, .un, .t (.int .i64) (.i 0), .un, .un, .un, .un, .un, .un, .un, .un, .un, .un, .un, .un, .un, .un, .un, .un, .un, .un, .un, .un]], []⟩, [(.ret, ⟨[[.un, .un, .un, .un, .t .bool (.i 0), .un, .un, .un, .un, .un, .un, .un, .un, .un, .un, .un, .un, .un, .un, .un, .un, .un, .un, .un, .un, .un]], []⟩), (.exit 0, ⟨[[.un, .un, .un, .un, .un, .un, .un, .un, .un, .un, .un, .un, .un, .un, .un, .un, .un, .un, .un, .un, .un, .un, .un, .un, .un, .un]], []⟩)], fun v self ex => G131_131_4 n v self ex⟩
def F131 (n : Nat) (x0 x1 : T) : Option (List T) :=
  bif ((x0.L.length : Int) != (x1.L.length : Int)) then (some [.b false]) else (loopR (L131_131_4 n).G n [.l x0.L, .l x1.L, .i 0] [fun u1 => some [.b ((u1.getD 0 (.i 0)).B)], fun u2 => some [.b true]])
def M131 (n : Nat) (τs : List T) : Option (List T) := match τs with
  | [x0, x1] => F131 n x0 x1
  | _ => none
noncomputable def code131 : List (Nat × Func) := [(131, Go.Proofs.Try.f131)]
def env131 : List (Nat × (Sig × Mean)) := []
def ann131 (f i : Nat) : Ann := match f, i with
  | 131, 4 => ⟨[(0, .any), (1, .any), (5, .any)], [], [(4, .any)]⟩
  | _, _ => ⟨[], [], []⟩
def lm131_131 (n : Nat) (i : Nat) : List LoopM := match i with
  | 4 => [L131_131_4 n]
  | _ => []
def lsl131 (n : Nat) : List ((Nat × Nat) × (Nat → List LoopM)) := [((3, 131), lm131_131 n)]
noncomputable def cf131 (n : Nat) : Cfg := ⟨tiOf tab, lookup code131, lookup env131, ann131, n⟩
theorem ev131 (n : Nat) (x0 x1 : T) : evF (cf131 n) (drawK (cf131 n)) (lms2 (lsl131 n)) 3 131 sg131 [x0, x1] = F131 n x0 x1 := by kernel_rfl
theorem lp131_131_4 (n : Nat) (K : Ex → St → Option (List T)) (self : List T → Option (List T)) (v : List T) : evC (cf131 n) (callK (cf131 n) (drawK (cf131 n)) (lms2 (lsl131 n)) 3) (drawK (cf131 n) (callK (cf131 n) (drawK (cf131 n)) (lms2 (lsl131 n)) 3)) (ann131 131) (lm131_131 n) (bodyOf Go.Proofs.Try.f131 4) ((L131_131_4 n).sk.fill v) (roundK (ann131 131 4) K (selfK (L131_131_4 n) self)) = (L131_131_4 n).G v self (exitK (L131_131_4 n) K) := by kernel_rfl
theorem eo131 (n : Nat) : EnvOk Go.Proofs.Try.prog (tiOf tab) n 131 sg131 ⟨M131⟩ :=
  have hc : CodeOk Go.Proofs.Try.prog (cf131 n) := (code_cons Go.Proofs.Try.func131 (by kernel_rfl) code_nil)
  have he : EnvsOk Go.Proofs.Try.prog (cf131 n) := env_nil
  have hl : LmsOk (R := List T) (cf131 n) (drawK (cf131 n)) (lms2 (lsl131 n)) (lsl131 n) := (lms_cons (loops_of (cf := cf131 n) (fn0 := Go.Proofs.Try.f131) rfl (l := [bodyOf Go.Proofs.Try.f131 4]) (by kernel_rfl) (loops_cons (b := bodyOf Go.Proofs.Try.f131 4) (by kernel_rfl) (rfl : lm131_131 n 4 = [L131_131_4 n]) (List.forall_mem_cons.2 ⟨fun K self v => lp131_131_4 n K self v, fun _ h => by cases h⟩) loops_nil)) lms_nil)
  envOk_of (cf := cf131 n) tabOk hc he (draw := drawK (cf131 n)) (fun _ => drawK_ok tabOk mixed hc he) (d := 3) (lms := lms2 (lsl131 n)) hl
    (fun τs rs h => by
      simp only [M131] at h
      split at h
      · exact (ev131 n _ _).trans h
      · cases h)
/-! ### 154: laws.eqData -/
def sg154 : Sig := ⟨[(true, [.int .i64, .int .i64, .int .i64, .bool, .bool, .bool, .slice 5]), (true, [.int .i64, .int .i64, .int .i64, .bool, .bool, .bool, .slice 5])], [.leaf .bool false]⟩
def F154 (n : Nat) (x0 x1 x2 x3 x4 x5 x6 x7 x8 x9 x10 x11 x12 x13 : T) : Option (List T) :=
  bif (x0.I != x7.I) then (some [.b false]) else (bif (x1.I != x8.I) then (some [.b false]) else (bif (x2.I != x9.I) then (some [.b false]) else (bif (!(x3.B == x10.B)) then (some [.b false]) else (bif (!(x4.B == x11.B)) then (some [.b false]) else (bif (!(x5.B == x12.B)) then (some [.b false]) else ((F131 n x6 x13).bind fun r1 => bif (!(r1.headD (.i 0)).B) then (some [.b false]) else (some [.b true])))))))
def M154 (n : Nat) (τs : List T) : Option (List T) := match τs with
  | [x0, x1, x2, x3, x4, x5, x6, x7, x8, x9, x10, x11, x12, x13] => F154 n x0 x1 x2 x3 x4 x5 x6 x7 x8 x9 x10 x11 x12 x13
  | _ => none
noncomputable def code154 : List (Nat × Func) := [(154, Go.Proofs.Try.f154)]
def env154 : List (Nat × (Sig × Mean)) := [(131, sg131, ⟨M131⟩)]
def ann154 (f i : Nat) : Ann := match f, i with
  | _, _ => ⟨[], [], []⟩
def lsl154 (n : Nat) : List ((Nat × Nat) × (Nat → List LoopM)) := []
noncomputable def cf154 (n : Nat) : Cfg := ⟨tiOf tab, lookup code154, lookup env154, ann154, n⟩
theorem ev154 (n : Nat) (x0 x1 x2 x3 x4 x5 x6 x7 x8 x9 x10 x11 x12 x13 : T) : evF (cf154 n) (drawK (cf154 n)) (lms2 (lsl154 n)) 3 154 sg154 [x0, x1, x2, x3, x4, x5, x6, x7, x8, x9, x10, x11, x12, x13] = F154 n x0 x1 x2 x3 x4 x5 x6 x7 x8 x9 x10 x11 x12 x13 := by kernel_rfl
theorem eo154 (n : Nat) : EnvOk Go.Proofs.Try.prog (tiOf tab) n 154 sg154 ⟨M154⟩ :=
  have hc : CodeOk Go.Proofs.Try.prog (cf154 n) := (code_cons Go.Proofs.Try.func154 (by kernel_rfl) code_nil)
  have he : EnvsOk Go.Proofs.Try.prog (cf154 n) := (env_cons (eo131 n) env_nil)
  have hl : LmsOk (R := List T) (cf154 n) (drawK (cf154 n)) (lms2 (lsl154 n)) (lsl154 n) := lms_nil
  envOk_of (cf := cf154 n) tabOk hc he (draw := drawK (cf154 n)) (fun _ => drawK_ok tabOk mixed hc he) (d := 3) (lms := lms2 (lsl154 n)) hl
    (fun τs rs h => by
      simp only [M154] at h
      split at h
      · exact (ev154 n _ _ _ _ _ _ _ _ _ _ _ _ _ _).trans h
      · cases h)
/-! ### 78: laws.eqDataS -/
def sg78 : Sig := ⟨[(false, [.slice 142]), (false, [.slice 142])], [.leaf .bool false]⟩
def G78_78_4 {R : Type} (n : Nat) (v : List T) (self : List T → Option R) (ex : List (List T → Option R)) : Option R :=
  bif (decide ((v.getD 2 (.i 0)).I < ((((v.getD 0 (.i 0)).L).length : Nat) : Int))) then (if 0 ≤ (v.getD 2 (.i 0)).I ∧ (v.getD 2 (.i 0)).I < (((v.getD 0 (.i 0)).L).length : Int) then (if 0 ≤ (v.getD 2 (.i 0)).I ∧ (v.getD 2 (.i 0)).I < (((v.getD 1 (.i 0)).L).length : Int) then ((F154 n ((at_ ((v.getD 0 (.i 0)).L) ((v.getD 2 (.i 0)).I)).F 0) ((at_ ((v.getD 0 (.i 0)).L) ((v.getD 2 (.i 0)).I)).F 1) ((at_ ((v.getD 0 (.i 0)).L) ((v.getD 2 (.i 0)).I)).F 2) ((at_ ((v.getD 0 (.i 0)).L) ((v.getD 2 (.i 0)).I)).F 3) ((at_ ((v.getD 0 (.i 0)).L) ((v.getD 2 (.i 0)).I)).F 4) ((at_ ((v.getD 0 (.i 0)).L) ((v.getD 2 (.i 0)).I)).F 5) ((at_ ((v.getD 0 (.i 0)).L) ((v.getD 2 (.i 0)).I)).F 6) ((at_ ((v.getD 1 (.i 0)).L) ((v.getD 2 (.i 0)).I)).F 0) ((at_ ((v.getD 1 (.i 0)).L) ((v.getD 2 (.i 0)).I)).F 1) ((at_ ((v.getD 1 (.i 0)).L) ((v.getD 2 (.i 0)).I)).F 2) ((at_ ((v.getD 1 (.i 0)).L) ((v.getD 2 (.i 0)).I)).F 3) ((at_ ((v.getD 1 (.i 0)).L) ((v.getD 2 (.i 0)).I)).F 4) ((at_ ((v.getD 1 (.i 0)).L) ((v.getD 2 (.i 0)).I)).F 5) ((at_ ((v.getD 1 (.i 0)).L) ((v.getD 2 (.i 0)).I)).F 6)).bind fun r1 => bif (!(r1.headD (.i 0)).B) then (exn ex 0 [.b false]) else (self [.l ((v.getD 0 (.i 0)).L), .l ((v.getD 1 (.i 0)).L), .i (IntKind.wrap .i64 ((v.getD 2 (.i 0)).I + 1))])) else none) else none) else (exn ex 1 [])
def L78_78_4 (n : Nat) : LoopM := ⟨⟨[[.t (.slice 142) (.i 0), .t (.slice 142) (.i 0), .un, .un, .un, .t (.int .i64) (.i 0), .un, .un, .un, .un, .un, .un, .un, .un, .un, .un, .un, .un, .un, .un, .un, .un, .un, .un, .un, .un, .un]], []⟩, [(.ret, ⟨[[.un, .un, .un, .un, .t .bool (.i 0), .un, .un, .un, .un, .un, .un, .un, .un, .un, .un, .un, .un, .un, .un, .un, .un, .un, .un, .un, .un, .un, .un]], []⟩), (.exit 0, ⟨[[.un, .un, .un, .un, .un, .un, .un, .un, .un, .un, .un, .un, .un, .un, .un, .un, .un, .un, .un, .un, .un, .un, .un, .un, .un, .un, .un]], []⟩)], fun v self ex => G78_78_4 n v self ex⟩
def F78 (n : Nat) (x0 x1 : T) : Option (List T) :=
  bif ((x0.L.length : Int) != (x1.L.length : Int)) then (some [.b false]) else (loopR (L78_78_4 n).G n [.l x0.L, .l x1.L, .i 0] [fun u2 => some [.b ((u2.getD 0 (.i 0)).B)], fun u3 => some [.b true]])
def M78 (n : Nat) (τs : List T) : Option (List T) := match τs with
  | [x0, x1] => F78 n x0 x1
  | _ => none
noncomputable def code78 : List (Nat × Func) := [(78, Go.Proofs.Try.f78)]
def env78 : List (Nat × (Sig × Mean)) := [(154, sg154, ⟨M154⟩)]
def ann78 (f i : Nat) : Ann := match f, i with
  | 78, 4 => ⟨[(0, .any), (1, .any), (5, .any)], [], [(4, .any)]⟩
  | _, _ => ⟨[], [], []⟩
def lm78_78 (n : Nat) (i : Nat) : List LoopM := match i with
  | 4 => [L78_78_4 n]
  | _ => []
def lsl78 (n : Nat) : List ((Nat × Nat) × (Nat → List LoopM)) := [((3, 78), lm78_78 n)]
noncomputable def cf78 (n : Nat) : Cfg := ⟨tiOf tab, lookup code78, lookup env78, ann78, n⟩
theorem ev78 (n : Nat) (x0 x1 : T) : evF (cf78 n) (drawK (cf78 n)) (lms2 (lsl78 n)) 3 78 sg78 [x0, x1] = F78 n x0 x1 := by kernel_rfl
theorem lp78_78_4 (n : Nat) (K : Ex → St → Option (List T)) (self : List T → Option (List T)) (v : List T) : evC (cf78 n) (callK (cf78 n) (drawK (cf78 n)) (lms2 (lsl78 n)) 3) (drawK (cf78 n) (callK (cf78 n) (drawK (cf78 n)) (lms2 (lsl78 n)) 3)) (ann78 78) (lm78_78 n) (bodyOf Go.Proofs.Try.f78 4) ((L78_78_4 n).sk.fill v) (roundK (ann78 78 4) K (selfK (L78_78_4 n) self)) = (L78_78_4 n).G v self (exitK (L78_78_4 n) K) := by kernel_rfl
theorem eo78 (n : Nat) : EnvOk Go.Proofs.Try.prog (tiOf tab) n 78 sg78 ⟨M78⟩ :=
  have hc : CodeOk Go.Proofs.Try.prog (cf78 n) := (code_cons Go.Proofs.Try.func78 (by kernel_rfl) code_nil)
  have he : EnvsOk Go.Proofs.Try.prog (cf78 n) := (env_cons (eo154 n) env_nil)
  have hl : LmsOk (R := List T) (cf78 n) (drawK (cf78 n)) (lms2 (lsl78 n)) (lsl78 n) := (lms_cons (loops_of (cf := cf78 n) (fn0 := Go.Proofs.Try.f78) rfl (l := [bodyOf Go.Proofs.Try.f78 4]) (by kernel_rfl) (loops_cons (b := bodyOf Go.Proofs.Try.f78 4) (by kernel_rfl) (rfl : lm78_78 n 4 = [L78_78_4 n]) (List.forall_mem_cons.2 ⟨fun K self v => lp78_78_4 n K self v, fun _ h => by cases h⟩) loops_nil)) lms_nil)
  envOk_of (cf := cf78 n) tabOk hc he (draw := drawK (cf78 n)) (fun _ => drawK_ok tabOk mixed hc he) (d := 3) (lms := lms2 (lsl78 n)) hl
    (fun τs rs h => by
      simp only [M78] at h
      split at h
      · exact (ev78 n _ _).trans h
      · cases h)
/-! ### 15: laws.eqRecv -/
def sg15 : Sig := ⟨[(true, [.int .i64, .slice 2, .slice 142, .slice 2]), (true, [.int .i64, .slice 2, .slice 142, .slice 2])], [.leaf .bool false]⟩
def F15 (n : Nat) (x0 x1 x2 x3 x4 x5 x6 x7 : T) : Option (List T) :=
  bif (x0.I != x4.I) then (some [.b false]) else ((F20 n x1 x5).bind fun r1 => bif (!(r1.headD (.i 0)).B) then (some [.b false]) else ((F78 n x2 x6).bind fun r2 => bif (!(r2.headD (.i 0)).B) then (some [.b false]) else ((F20 n x3 x7).bind fun r3 => bif (!(r3.headD (.i 0)).B) then (some [.b false]) else (some [.b true]))))
def M15 (n : Nat) (τs : List T) : Option (List T) := match τs with
  | [x0, x1, x2, x3, x4, x5, x6, x7] => F15 n x0 x1 x2 x3 x4 x5 x6 x7
  | _ => none
noncomputable def code15 : List (Nat × Func) := [(15, Go.Proofs.Try.f15)]
def env15 : List (Nat × (Sig × Mean)) := [(20, sg20, ⟨M20⟩), (78, sg78, ⟨M78⟩)]
def ann15 (f i : Nat) : Ann := match f, i with
  | _, _ => ⟨[], [], []⟩
def lsl15 (n : Nat) : List ((Nat × Nat) × (Nat → List LoopM)) := []
noncomputable def cf15 (n : Nat) : Cfg := ⟨tiOf tab, lookup code15, lookup env15, ann15, n⟩
theorem ev15 (n : Nat) (x0 x1 x2 x3 x4 x5 x6 x7 : T) : evF (cf15 n) (drawK (cf15 n)) (lms2 (lsl15 n)) 3 15 sg15 [x0, x1, x2, x3, x4, x5, x6, x7] = F15 n x0 x1 x2 x3 x4 x5 x6 x7 := by kernel_rfl
theorem eo15 (n : Nat) : EnvOk Go.Proofs.Try.prog (tiOf tab) n 15 sg15 ⟨M15⟩ :=
  have hc : CodeOk Go.Proofs.Try.prog (cf15 n) := (code_cons Go.Proofs.Try.func15 (by kernel_rfl) code_nil)
  have he : EnvsOk Go.Proofs.Try.prog (cf15 n) := (env_cons (eo20 n) (env_cons (eo78 n) env_nil))
  have hl : LmsOk (R := List T) (cf15 n) (drawK (cf15 n)) (lms2 (lsl15 n)) (lsl15 n) := lms_nil
  envOk_of (cf := cf15 n) tabOk hc he (draw := drawK (cf15 n)) (fun _ => drawK_ok tabOk mixed hc he) (d := 3) (lms := lms2 (lsl15 n)) hl
    (fun τs rs h => by
      simp only [M15] at h
      split at h
      · exact (ev15 n _ _ _ _ _ _ _ _).trans h
      · cases h)
/-! ### 3: laws.FnExactSameRecvs -/
def sg3 : Sig := ⟨[(true, [.int .i64, .slice 2, .slice 200, .slice 2]), (true, [.int .i64, .slice 2, .slice 200, .slice 2])], [.leaf .bool false]⟩
def F3 (n : Nat) (x0 x1 x2 x3 x4 x5 x6 x7 : T) : Option (List T) :=
  (F11 n x0 x1 x2 x3 (.i 1048576)).bind fun r1 => bif (decide ((r1.headD (.i 0)).I < 0)) then (some [.b true]) else ((F11 n x4 x5 x6 x7 (r1.headD (.i 0))).bind fun r2 => bif (decide ((r2.headD (.i 0)).I < 0)) then (some [.b true]) else ((F13 n x0 x1 x2 x3).bind fun r3 => (F13 n x4 x5 x6 x7).bind fun r4 => (F12 n (r3.headD (.i 0)) (r3.tail.headD (.i 0)) (r3.tail.tail.headD (.i 0)) (r3.tail.tail.tail.headD (.i 0)) (r4.headD (.i 0)) (r4.tail.headD (.i 0)) (r4.tail.tail.headD (.i 0)) (r4.tail.tail.tail.headD (.i 0))).bind fun r5 => (F13 n x0 x1 x2 x3).bind fun r6 => (F13 n x4 x5 x6 x7).bind fun r7 => (F14 n (r6.headD (.i 0)) (r6.tail.headD (.i 0)) (r6.tail.tail.headD (.i 0)) (r6.tail.tail.tail.headD (.i 0)) (r7.headD (.i 0)) (r7.tail.headD (.i 0)) (r7.tail.tail.headD (.i 0)) (r7.tail.tail.tail.headD (.i 0))).bind fun r8 => bif (!((r8.headD (.i 0)).B == (r5.headD (.i 0)).B)) then (some [.b false]) else ((F13 n x0 x1 x2 x3).bind fun r9 => (F15 n (r6.headD (.i 0)) (r6.tail.headD (.i 0)) (r6.tail.tail.headD (.i 0)) (r6.tail.tail.tail.headD (.i 0)) (r9.headD (.i 0)) (r9.tail.headD (.i 0)) (r9.tail.tail.headD (.i 0)) (r9.tail.tail.tail.headD (.i 0))).bind fun r10 => bif (!(r10.headD (.i 0)).B) then (some [.b false]) else ((F13 n x4 x5 x6 x7).bind fun r11 => (F15 n (r7.headD (.i 0)) (r7.tail.headD (.i 0)) (r7.tail.tail.headD (.i 0)) (r7.tail.tail.tail.headD (.i 0)) (r11.headD (.i 0)) (r11.tail.headD (.i 0)) (r11.tail.tail.headD (.i 0)) (r11.tail.tail.tail.headD (.i 0))).bind fun r12 => bif (!(r12.headD (.i 0)).B) then (some [.b false]) else (some [.b true])))))
def M3 (n : Nat) (τs : List T) : Option (List T) := match τs with
  | [x0, x1, x2, x3, x4, x5, x6, x7] => F3 n x0 x1 x2 x3 x4 x5 x6 x7
  | _ => none
noncomputable def code3 : List (Nat × Func) := [(3, Go.Proofs.Try.f3)]
def env3 : List (Nat × (Sig × Mean)) := [(11, sg11, ⟨M11⟩), (12, sg12, ⟨M12⟩), (13, sg13, ⟨M13⟩), (14, sg14, ⟨M14⟩), (15, sg15, ⟨M15⟩)]
def ann3 (f i : Nat) : Ann := match f, i with
  | _, _ => ⟨[], [], []⟩
def lsl3 (n : Nat) : List ((Nat × Nat) × (Nat → List LoopM)) := []
noncomputable def cf3 (n : Nat) : Cfg := ⟨tiOf tab, lookup code3, lookup env3, ann3, n⟩
theorem ev3 (n : Nat) (x0 x1 x2 x3 x4 x5 x6 x7 : T) : evF (cf3 n) (drawK (cf3 n)) (lms2 (lsl3 n)) 3 3 sg3 [x0, x1, x2, x3, x4, x5, x6, x7] = F3 n x0 x1 x2 x3 x4 x5 x6 x7 := by kernel_rfl
theorem eo3 (n : Nat) : EnvOk Go.Proofs.Try.prog (tiOf tab) n 3 sg3 ⟨M3⟩ :=
  have hc : CodeOk Go.Proofs.Try.prog (cf3 n) := (code_cons Go.Proofs.Try.func3 (by kernel_rfl) code_nil)
  have he : EnvsOk Go.Proofs.Try.prog (cf3 n) := (env_cons (eo11 n) (env_cons (eo12 n) (env_cons (eo13 n) (env_cons (eo14 n) (env_cons (eo15 n) env_nil)))))
  have hl : LmsOk (R := List T) (cf3 n) (drawK (cf3 n)) (lms2 (lsl3 n)) (lsl3 n) := lms_nil
  envOk_of (cf := cf3 n) tabOk hc he (draw := drawK (cf3 n)) (fun _ => drawK_ok tabOk mixed hc he) (d := 3) (lms := lms2 (lsl3 n)) hl
    (fun τs rs h => by
      simp only [M3] at h
      split at h
      · exact (ev3 n _ _ _ _ _ _ _ _).trans h
      · cases h)
end Go.KX.Sb
