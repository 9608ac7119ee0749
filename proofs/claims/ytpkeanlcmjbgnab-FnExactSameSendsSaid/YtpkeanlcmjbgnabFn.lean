import Derived.Test.YtpkeanlcmjbgnabProg
import Derived.KernelRfl
import Derived.Test.YtpkeanlcmjbgnabKxC
namespace Go.KX.Sb
open Go
set_option linter.unusedVariables false
def tab : List (Nat × TyI) := [
  (2, ⟨true, false, [.int .i64], 8, .leaf, false⟩),
  (3, ⟨true, false, [.int .i64], 8, .leaf, false⟩),
  (4, ⟨true, false, [.bool], 1, .leaf, false⟩),
  (5, ⟨true, false, [.int .u8], 1, .leaf, false⟩),
  (9, ⟨true, false, [.str], 16, .leaf, false⟩),
  (22, ⟨true, false, [.slice 2], 24, .slice 2, false⟩),
  (58, ⟨true, false, [.slice 209], 24, .slice 209, false⟩),
  (60, ⟨true, true, [.int .i64, .int .i64, .slice 2, .slice 209], 64, .struct [(2, 0), (2, 1), (22, 2), (58, 3)], false⟩),
  (63, ⟨true, false, [.slice 144], 24, .slice 144, false⟩),
  (65, ⟨true, true, [.int .i64, .int .i64, .slice 2, .slice 144], 64, .struct [(2, 0), (2, 1), (22, 2), (63, 3)], false⟩),
  (68, ⟨true, false, [.slice 5], 24, .slice 5, false⟩),
  (142, ⟨true, true, [.int .i64, .int .i64, .int .i64, .bool, .bool, .bool, .slice 5], 56, .struct [(2, 0), (2, 1), (2, 2), (4, 3), (4, 4), (4, 5), (68, 6)], false⟩),
  (144, ⟨true, true, [.int .i64, .int .i64, .int .i64, .bool, .bool, .bool, .slice 5, .int .i64, .int .i64], 72, .struct [(142, 0), (2, 7), (2, 8)], false⟩),
  (200, ⟨true, true, [.int .i64, .int .i64, .int .i64, .bool, .bool, .bool, .slice 5], 56, .struct [(2, 0), (2, 1), (2, 2), (4, 3), (4, 4), (4, 5), (68, 6)], false⟩),
  (209, ⟨true, true, [.int .i64, .int .i64, .int .i64, .bool, .bool, .bool, .slice 5, .int .i64, .int .i64], 72, .struct [(200, 0), (2, 7), (2, 8)], false⟩)]
theorem tabOk : TabOk Go.Proofs.Try.prog (tiOf tab) := tab_ok (by kernel_rfl)
theorem mixed : Go.Proofs.Try.prog.follows .mixedOrders = true := by kernel_rfl
/-! ### 71: laws.szInt64S -/
def sg71 : Sig := ⟨[(false, [.slice 2]), (false, [.int .i64])], [.leaf (.int .i64) false]⟩
def F71 (n : Nat) (x0 x1 : T) : Option (List T) :=
  bif (decide ((IntKind.wrap .i64 (x1.I - (x0.L.length : Int))) < 0)) then (some [.i (-1)]) else (some [.i (IntKind.wrap .i64 (x1.I - (x0.L.length : Int)))])
def M71 (n : Nat) (τs : List T) : Option (List T) := match τs with
  | [x0, x1] => F71 n x0 x1
  | _ => none
noncomputable def code71 : List (Nat × Func) := [(71, Go.Proofs.Try.f71)]
def env71 : List (Nat × (Sig × Mean)) := []
def ann71 (f i : Nat) : Ann := match f, i with
  | _, _ => ⟨[], [], []⟩
def lsl71 (n : Nat) : List ((Nat × Nat) × (Nat → List LoopM)) := []
noncomputable def cf71 (n : Nat) : Cfg := ⟨tiOf tab, lookup code71, lookup env71, ann71, n⟩
theorem ev71 (n : Nat) (x0 x1 : T) : evF (cf71 n) (drawK (cf71 n)) (lms2 (lsl71 n)) 3 71 sg71 [x0, x1] = F71 n x0 x1 := by kernel_rfl
theorem eo71 (n : Nat) : EnvOk Go.Proofs.Try.prog (tiOf tab) n 71 sg71 ⟨M71⟩ :=
  have hc : CodeOk Go.Proofs.Try.prog (cf71 n) := (code_cons Go.Proofs.Try.func71 (by kernel_rfl) code_nil)
  have he : EnvsOk Go.Proofs.Try.prog (cf71 n) := env_nil
  have hl : LmsOk (R := List T) (cf71 n) (drawK (cf71 n)) (lms2 (lsl71 n)) (lsl71 n) := lms_nil
  envOk_of (cf := cf71 n) tabOk hc he (draw := drawK (cf71 n)) (fun _ => drawK_ok tabOk mixed hc he) (d := 3) (lms := lms2 (lsl71 n)) hl
    (fun τs rs h => by
      simp only [M71] at h
      split at h
      · exact (ev71 n _ _).trans h
      · cases h)
/-! ### 118: laws.szByteS -/
def sg118 : Sig := ⟨[(false, [.slice 5]), (false, [.int .i64])], [.leaf (.int .i64) false]⟩
def F118 (n : Nat) (x0 x1 : T) : Option (List T) :=
  bif (decide ((IntKind.wrap .i64 (x1.I - (x0.L.length : Int))) < 0)) then (some [.i (-1)]) else (some [.i (IntKind.wrap .i64 (x1.I - (x0.L.length : Int)))])
def M118 (n : Nat) (τs : List T) : Option (List T) := match τs with
  | [x0, x1] => F118 n x0 x1
  | _ => none
noncomputable def code118 : List (Nat × Func) := [(118, Go.Proofs.Try.f118)]
def env118 : List (Nat × (Sig × Mean)) := []
def ann118 (f i : Nat) : Ann := match f, i with
  | _, _ => ⟨[], [], []⟩
def lsl118 (n : Nat) : List ((Nat × Nat) × (Nat → List LoopM)) := []
noncomputable def cf118 (n : Nat) : Cfg := ⟨tiOf tab, lookup code118, lookup env118, ann118, n⟩
theorem ev118 (n : Nat) (x0 x1 : T) : evF (cf118 n) (drawK (cf118 n)) (lms2 (lsl118 n)) 3 118 sg118 [x0, x1] = F118 n x0 x1 := by kernel_rfl
theorem eo118 (n : Nat) : EnvOk Go.Proofs.Try.prog (tiOf tab) n 118 sg118 ⟨M118⟩ :=
  have hc : CodeOk Go.Proofs.Try.prog (cf118 n) := (code_cons Go.Proofs.Try.func118 (by kernel_rfl) code_nil)
  have he : EnvsOk Go.Proofs.Try.prog (cf118 n) := env_nil
  have hl : LmsOk (R := List T) (cf118 n) (drawK (cf118 n)) (lms2 (lsl118 n)) (lsl118 n) := lms_nil
  envOk_of (cf := cf118 n) tabOk hc he (draw := drawK (cf118 n)) (fun _ => drawK_ok tabOk mixed hc he) (d := 3) (lms := lms2 (lsl118 n)) hl
    (fun τs rs h => by
      simp only [M118] at h
      split at h
      · exact (ev118 n _ _).trans h
      · cases h)
/-! ### 151: laws.szData -/
def sg151 : Sig := ⟨[(true, [.int .i64, .int .i64, .int .i64, .bool, .bool, .bool, .slice 5]), (false, [.int .i64])], [.leaf (.int .i64) false]⟩
def F151 (n : Nat) (x0 x1 x2 x3 x4 x5 x6 x7 : T) : Option (List T) :=
  (F118 n x6 x7).bind fun r1 => bif (decide ((r1.headD (.i 0)).I < 0)) then (some [.i (-1)]) else (some [(r1.headD (.i 0))])
def M151 (n : Nat) (τs : List T) : Option (List T) := match τs with
  | [x0, x1, x2, x3, x4, x5, x6, x7] => F151 n x0 x1 x2 x3 x4 x5 x6 x7
  | _ => none
noncomputable def code151 : List (Nat × Func) := [(151, Go.Proofs.Try.f151)]
def env151 : List (Nat × (Sig × Mean)) := [(118, sg118, ⟨M118⟩)]
def ann151 (f i : Nat) : Ann := match f, i with
  | _, _ => ⟨[], [], []⟩
def lsl151 (n : Nat) : List ((Nat × Nat) × (Nat → List LoopM)) := []
noncomputable def cf151 (n : Nat) : Cfg := ⟨tiOf tab, lookup code151, lookup env151, ann151, n⟩
theorem ev151 (n : Nat) (x0 x1 x2 x3 x4 x5 x6 x7 : T) : evF (cf151 n) (drawK (cf151 n)) (lms2 (lsl151 n)) 3 151 sg151 [x0, x1, x2, x3, x4, x5, x6, x7] = F151 n x0 x1 x2 x3 x4 x5 x6 x7 := by kernel_rfl
theorem eo151 (n : Nat) : EnvOk Go.Proofs.Try.prog (tiOf tab) n 151 sg151 ⟨M151⟩ :=
  have hc : CodeOk Go.Proofs.Try.prog (cf151 n) := (code_cons Go.Proofs.Try.func151 (by kernel_rfl) code_nil)
  have he : EnvsOk Go.Proofs.Try.prog (cf151 n) := (env_cons (eo118 n) env_nil)
  have hl : LmsOk (R := List T) (cf151 n) (drawK (cf151 n)) (lms2 (lsl151 n)) (lsl151 n) := lms_nil
  envOk_of (cf := cf151 n) tabOk hc he (draw := drawK (cf151 n)) (fun _ => drawK_ok tabOk mixed hc he) (d := 3) (lms := lms2 (lsl151 n)) hl
    (fun τs rs h => by
      simp only [M151] at h
      split at h
      · exact (ev151 n _ _ _ _ _ _ _ _).trans h
      · cases h)
/-! ### 160: laws.szSendItem -/
def sg160 : Sig := ⟨[(true, [.int .i64, .int .i64, .int .i64, .bool, .bool, .bool, .slice 5, .int .i64, .int .i64]), (false, [.int .i64])], [.leaf (.int .i64) false]⟩
def F160 (n : Nat) (x0 x1 x2 x3 x4 x5 x6 x7 x8 x9 : T) : Option (List T) :=
  (F151 n x0 x1 x2 x3 x4 x5 x6 x9).bind fun r1 => bif (decide ((r1.headD (.i 0)).I < 0)) then (some [.i (-1)]) else (some [(r1.headD (.i 0))])
def M160 (n : Nat) (τs : List T) : Option (List T) := match τs with
  | [x0, x1, x2, x3, x4, x5, x6, x7, x8, x9] => F160 n x0 x1 x2 x3 x4 x5 x6 x7 x8 x9
  | _ => none
noncomputable def code160 : List (Nat × Func) := [(160, Go.Proofs.Try.f160)]
def env160 : List (Nat × (Sig × Mean)) := [(151, sg151, ⟨M151⟩)]
def ann160 (f i : Nat) : Ann := match f, i with
  | _, _ => ⟨[], [], []⟩
def lsl160 (n : Nat) : List ((Nat × Nat) × (Nat → List LoopM)) := []
noncomputable def cf160 (n : Nat) : Cfg := ⟨tiOf tab, lookup code160, lookup env160, ann160, n⟩
theorem ev160 (n : Nat) (x0 x1 x2 x3 x4 x5 x6 x7 x8 x9 : T) : evF (cf160 n) (drawK (cf160 n)) (lms2 (lsl160 n)) 3 160 sg160 [x0, x1, x2, x3, x4, x5, x6, x7, x8, x9] = F160 n x0 x1 x2 x3 x4 x5 x6 x7 x8 x9 := by kernel_rfl
theorem eo160 (n : Nat) : EnvOk Go.Proofs.Try.prog (tiOf tab) n 160 sg160 ⟨M160⟩ :=
  have hc : CodeOk Go.Proofs.Try.prog (cf160 n) := (code_cons Go.Proofs.Try.func160 (by kernel_rfl) code_nil)
  have he : EnvsOk Go.Proofs.Try.prog (cf160 n) := (env_cons (eo151 n) env_nil)
  have hl : LmsOk (R := List T) (cf160 n) (drawK (cf160 n)) (lms2 (lsl160 n)) (lsl160 n) := lms_nil
  envOk_of (cf := cf160 n) tabOk hc he (draw := drawK (cf160 n)) (fun _ => drawK_ok tabOk mixed hc he) (d := 3) (lms := lms2 (lsl160 n)) hl
    (fun τs rs h => by
      simp only [M160] at h
      split at h
      · exact (ev160 n _ _ _ _ _ _ _ _ _ _).trans h
      · cases h)
/-! ### 91: laws.szSendItemS -/
def sg91 : Sig := ⟨[(false, [.slice 209]), (false, [.int .i64])], [.leaf (.int .i64) false]⟩
def G91_91_5 {R : Type} (n : Nat) (v : List T) (self : List T → Option R) (ex : List (List T → Option R)) : Option R :=
  bif (decide ((v.getD 2 (.i 0)).I < ((((v.getD 0 (.i 0)).L).length : Nat) : Int))) then (if 0 ≤ (v.getD 2 (.i 0)).I ∧ (v.getD 2 (.i 0)).I < (((v.getD 0 (.i 0)).L).length : Int) then ((F160 n ((at_ ((v.getD 0 (.i 0)).L) ((v.getD 2 (.i 0)).I)).F 0) ((at_ ((v.getD 0 (.i 0)).L) ((v.getD 2 (.i 0)).I)).F 1) ((at_ ((v.getD 0 (.i 0)).L) ((v.getD 2 (.i 0)).I)).F 2) ((at_ ((v.getD 0 (.i 0)).L) ((v.getD 2 (.i 0)).I)).F 3) ((at_ ((v.getD 0 (.i 0)).L) ((v.getD 2 (.i 0)).I)).F 4) ((at_ ((v.getD 0 (.i 0)).L) ((v.getD 2 (.i 0)).I)).F 5) ((at_ ((v.getD 0 (.i 0)).L) ((v.getD 2 (.i 0)).I)).F 6) ((at_ ((v.getD 0 (.i 0)).L) ((v.getD 2 (.i 0)).I)).F 7) ((at_ ((v.getD 0 (.i 0)).L) ((v.getD 2 (.i 0)).I)).F 8) (.i ((v.getD 1 (.i 0)).I))).bind fun r1 => bif (decide ((r1.headD (.i 0)).I < 0)) then (exn ex 0 [.i ((r1.headD (.i 0)).I), .i (-1)]) else (self [.l ((v.getD 0 (.i 0)).L), .i ((r1.headD (.i 0)).I), .i (IntKind.wrap .i64 ((v.getD 2 (.i 0)).I + 1))])) else none) else (exn ex 1 [.i ((v.getD 1 (.i 0)).I)])
def L91_91_5 (n : Nat) : LoopM := ⟨⟨[[.t (.slice 209) (.i 0), .t (.int .i64) (.i 0), .un, .un, .un, .t (.int .i64) (.i 0), .un, .un, .un, .un, .un, .un, .un, .un, .un, .un, .un, .un, .un, .un, .un, .un, .un, .un, .un, .un, .un]], []⟩, [(.ret, ⟨[[.un, .t (.int .i64) (.i 0), .un, .un, .t (.int .i64) (.i 0), .un, .un, .un, .un, .un, .un, .un, .un, .un, .un, .un, .un, .un, .un, .un, .un, .un, .un, .un, .un, .un, .un]], []⟩), (.exit 0, ⟨[[.un, .t (.int .i64) (.i 0), .un, .un, .un, .un, .un, .un, .un, .un, .un, .un, .un, .un, .un, .un, .un, .un, .un, .un, .un, .un, .un, .un, .un, .un, .un]], []⟩)], fun v self ex => G91_91_5 n v self ex⟩
def F91 (n : Nat) (x0 x1 : T) : Option (List T) :=
  bif (decide ((IntKind.wrap .i64 (x1.I - (x0.L.length : Int))) < 0)) then (some [.i (-1)]) else (loopR (L91_91_5 n).G n [.l x0.L, .i (IntKind.wrap .i64 (x1.I - (x0.L.length : Int))), .i 0] [fun u2 => some [.i ((u2.getD 1 (.i 0)).I)], fun u3 => some [.i ((u3.getD 0 (.i 0)).I)]])
def M91 (n : Nat) (τs : List T) : Option (List T) := match τs with
  | [x0, x1] => F91 n x0 x1
  | _ => none
noncomputable def code91 : List (Nat × Func) := [(91, Go.Proofs.Try.f91)]
def env91 : List (Nat × (Sig × Mean)) := [(160, sg160, ⟨M160⟩)]
def ann91 (f i : Nat) : Ann := match f, i with
  | 91, 5 => ⟨[(0, .any), (1, .any), (5, .any)], [], [(1, .any), (4, .any)]⟩
  | _, _ => ⟨[], [], []⟩
def lm91_91 (n : Nat) (i : Nat) : List LoopM := match i with
  | 5 => [L91_91_5 n]
  | _ => []
def lsl91 (n : Nat) : List ((Nat × Nat) × (Nat → List LoopM)) := [((3, 91), lm91_91 n)]
noncomputable def cf91 (n : Nat) : Cfg := ⟨tiOf tab, lookup code91, lookup env91, ann91, n⟩
theorem ev91 (n : Nat) (x0 x1 : T) : evF (cf91 n) (drawK (cf91 n)) (lms2 (lsl91 n)) 3 91 sg91 [x0, x1] = F91 n x0 x1 := by kernel_rfl
theorem lp91_91_5 (n : Nat) (K : Ex → St → Option (List T)) (self : List T → Option (List T)) (v : List T) : evC (cf91 n) (callK (cf91 n) (drawK (cf91 n)) (lms2 (lsl91 n)) 3) (drawK (cf91 n) (callK (cf91 n) (drawK (cf91 n)) (lms2 (lsl91 n)) 3)) (ann91 91) (lm91_91 n) (bodyOf Go.Proofs.Try.f91 5) ((L91_91_5 n).sk.fill v) (roundK (ann91 91 5) K (selfK (L91_91_5 n) self)) = (L91_91_5 n).G v self (exitK (L91_91_5 n) K) := by kernel_rfl
theorem eo91 (n : Nat) : EnvOk Go.Proofs.Try.prog (tiOf tab) n 91 sg91 ⟨M91⟩ :=
  have hc : CodeOk Go.Proofs.Try.prog (cf91 n) := (code_cons Go.Proofs.Try.func91 (by kernel_rfl) code_nil)
  have he : EnvsOk Go.Proofs.Try.prog (cf91 n) := (env_cons (eo160 n) env_nil)
  have hl : LmsOk (R := List T) (cf91 n) (drawK (cf91 n)) (lms2 (lsl91 n)) (lsl91 n) := (lms_cons (loops_of (cf := cf91 n) (fn0 := Go.Proofs.Try.f91) rfl (l := [bodyOf Go.Proofs.Try.f91 5]) (by kernel_rfl) (loops_cons (b := bodyOf Go.Proofs.Try.f91 5) (by kernel_rfl) (rfl : lm91_91 n 5 = [L91_91_5 n]) (List.forall_mem_cons.2 ⟨fun K self v => lp91_91_5 n K self v, fun _ h => by cases h⟩) loops_nil)) lms_nil)
  envOk_of (cf := cf91 n) tabOk hc he (draw := drawK (cf91 n)) (fun _ => drawK_ok tabOk mixed hc he) (d := 3) (lms := lms2 (lsl91 n)) hl
    (fun τs rs h => by
      simp only [M91] at h
      split at h
      · exact (ev91 n _ _).trans h
      · cases h)
/-! ### 33: laws.szSend -/
def sg33 : Sig := ⟨[(true, [.int .i64, .int .i64, .slice 2, .slice 209]), (false, [.int .i64])], [.leaf (.int .i64) false]⟩
def F33 (n : Nat) (x0 x1 x2 x3 x4 : T) : Option (List T) :=
  (F71 n x2 x4).bind fun r1 => bif (decide ((r1.headD (.i 0)).I < 0)) then (some [.i (-1)]) else ((F91 n x3 (r1.headD (.i 0))).bind fun r2 => bif (decide ((r2.headD (.i 0)).I < 0)) then (some [.i (-1)]) else (some [(r2.headD (.i 0))]))
def M33 (n : Nat) (τs : List T) : Option (List T) := match τs with
  | [x0, x1, x2, x3, x4] => F33 n x0 x1 x2 x3 x4
  | _ => none
noncomputable def code33 : List (Nat × Func) := [(33, Go.Proofs.Try.f33)]
def env33 : List (Nat × (Sig × Mean)) := [(71, sg71, ⟨M71⟩), (91, sg91, ⟨M91⟩)]
def ann33 (f i : Nat) : Ann := match f, i with
  | _, _ => ⟨[], [], []⟩
def lsl33 (n : Nat) : List ((Nat × Nat) × (Nat → List LoopM)) := []
noncomputable def cf33 (n : Nat) : Cfg := ⟨tiOf tab, lookup code33, lookup env33, ann33, n⟩
theorem ev33 (n : Nat) (x0 x1 x2 x3 x4 : T) : evF (cf33 n) (drawK (cf33 n)) (lms2 (lsl33 n)) 3 33 sg33 [x0, x1, x2, x3, x4] = F33 n x0 x1 x2 x3 x4 := by kernel_rfl
theorem eo33 (n : Nat) : EnvOk Go.Proofs.Try.prog (tiOf tab) n 33 sg33 ⟨M33⟩ :=
  have hc : CodeOk Go.Proofs.Try.prog (cf33 n) := (code_cons Go.Proofs.Try.func33 (by kernel_rfl) code_nil)
  have he : EnvsOk Go.Proofs.Try.prog (cf33 n) := (env_cons (eo71 n) (env_cons (eo91 n) env_nil))
  have hl : LmsOk (R := List T) (cf33 n) (drawK (cf33 n)) (lms2 (lsl33 n)) (lsl33 n) := lms_nil
  envOk_of (cf := cf33 n) tabOk hc he (draw := drawK (cf33 n)) (fun _ => drawK_ok tabOk mixed hc he) (d := 3) (lms := lms2 (lsl33 n)) hl
    (fun τs rs h => by
      simp only [M33] at h
      split at h
      · exact (ev33 n _ _ _ _ _).trans h
      · cases h)
/-! ### 73: spec.l1Same -/
def sg73 : Sig := ⟨[(false, [.slice 2]), (false, [.slice 2])], [.leaf .bool false]⟩
def G73_73_4 {R : Type} (n : Nat) (v : List T) (self : List T → Option R) (ex : List (List T → Option R)) : Option R :=
  bif (decide ((v.getD 2 (.i 0)).I < ((((v.getD 0 (.i 0)).L).length : Nat) : Int))) then (if 0 ≤ (v.getD 2 (.i 0)).I ∧ (v.getD 2 (.i 0)).I < (((v.getD 0 (.i 0)).L).length : Int) then (if 0 ≤ (v.getD 2 (.i 0)).I ∧ (v.getD 2 (.i 0)).I < (((v.getD 1 (.i 0)).L).length : Int) then (bif ((at_ ((v.getD 0 (.i 0)).L) ((v.getD 2 (.i 0)).I)).I != (at_ ((v.getD 1 (.i 0)).L) ((v.getD 2 (.i 0)).I)).I) then (exn ex 0 [.b false]) else (self [.l ((v.getD 0 (.i 0)).L), .l ((v.getD 1 (.i 0)).L), .i (IntKind.wrap .i64 ((v.getD 2 (.i 0)).I + 1))])) else none) else none) else (exn ex 1 [])
def L73_73_4 (n : Nat) : LoopM := ⟨⟨[[.t (.slice 2) (.i 0), .t (.slice 2) (.i 0), .un, .un, .un, .t (.int .i64) (.i 0), .un, .un, .un, .un, .un, .un, .un, .un, .un, .un, .un, .un, .un, .un, .un, .un, .un, .un, .un, .un]], []⟩, [(.ret, ⟨[[.un, .un, .un, .un, .t .bool (.i 0), .un, .un, .un, .un, .un, .un, .un, .un, .un, .un, .un, .un, .un, .un, .un, .un, .un, .un, .un, .un, .un]], []⟩), (.exit 0, ⟨[[.un, .un, .un, .un, .un, .un, .un, .un, .un, .un, .un, .un, .un, .un, .un, .un, .un, .un, .un, .un, .un, .un, .un, .un, .un, .un]], []⟩)], fun v self ex => G73_73_4 n v self ex⟩
def F73 (n : Nat) (x0 x1 : T) : Option (List T) :=
  bif ((x0.L.length : Int) != (x1.L.length : Int)) then (some [.b false]) else (loopR (L73_73_4 n).G n [.l x0.L, .l x1.L, .i 0] [fun u1 => some [.b ((u1.getD 0 (.i 0)).B)], fun u2 => some [.b true]])
def M73 (n : Nat) (τs : List T) : Option (List T) := match τs with
  | [x0, x1] => F73 n x0 x1
  | _ => none
noncomputable def code73 : List (Nat × Func) := [(73, Go.Proofs.Try.f73)]
def env73 : List (Nat × (Sig × Mean)) := []
def ann73 (f i : Nat) : Ann := match f, i with
  | 73, 4 => ⟨[(0, .any), (1, .any), (5, .any)], [], [(4, .any)]⟩
  | _, _ => ⟨[], [], []⟩
def lm73_73 (n : Nat) (i : Nat) : List LoopM := match i with
  | 4 => [L73_73_4 n]
  | _ => []
def lsl73 (n : Nat) : List ((Nat × Nat) × (Nat → List LoopM)) := [((3, 73), lm73_73 n)]
noncomputable def cf73 (n : Nat) : Cfg := ⟨tiOf tab, lookup code73, lookup env73, ann73, n⟩
theorem ev73 (n : Nat) (x0 x1 : T) : evF (cf73 n) (drawK (cf73 n)) (lms2 (lsl73 n)) 3 73 sg73 [x0, x1] = F73 n x0 x1 := by kernel_rfl
theorem lp73_73_4 (n : Nat) (K : Ex → St → Option (List T)) (self : List T → Option (List T)) (v : List T) : evC (cf73 n) (callK (cf73 n) (drawK (cf73 n)) (lms2 (lsl73 n)) 3) (drawK (cf73 n) (callK (cf73 n) (drawK (cf73 n)) (lms2 (lsl73 n)) 3)) (ann73 73) (lm73_73 n) (bodyOf Go.Proofs.Try.f73 4) ((L73_73_4 n).sk.fill v) (roundK (ann73 73 4) K (selfK (L73_73_4 n) self)) = (L73_73_4 n).G v self (exitK (L73_73_4 n) K) := by kernel_rfl
theorem eo73 (n : Nat) : EnvOk Go.Proofs.Try.prog (tiOf tab) n 73 sg73 ⟨M73⟩ :=
  have hc : CodeOk Go.Proofs.Try.prog (cf73 n) := (code_cons Go.Proofs.Try.func73 (by kernel_rfl) code_nil)
  have he : EnvsOk Go.Proofs.Try.prog (cf73 n) := env_nil
  have hl : LmsOk (R := List T) (cf73 n) (drawK (cf73 n)) (lms2 (lsl73 n)) (lsl73 n) := (lms_cons (loops_of (cf := cf73 n) (fn0 := Go.Proofs.Try.f73) rfl (l := [bodyOf Go.Proofs.Try.f73 4]) (by kernel_rfl) (loops_cons (b := bodyOf Go.Proofs.Try.f73 4) (by kernel_rfl) (rfl : lm73_73 n 4 = [L73_73_4 n]) (List.forall_mem_cons.2 ⟨fun K self v => lp73_73_4 n K self v, fun _ h => by cases h⟩) loops_nil)) lms_nil)
  envOk_of (cf := cf73 n) tabOk hc he (draw := drawK (cf73 n)) (fun _ => drawK_ok tabOk mixed hc he) (d := 3) (lms := lms2 (lsl73 n)) hl
    (fun τs rs h => by
      simp only [M73] at h
      split at h
      · exact (ev73 n _ _).trans h
      · cases h)
/-! ### 92: spec.l8Same -/
def sg92 : Sig := ⟨[(false, [.box 142]), (false, [.box 142])], [.leaf .bool false]⟩
def F92 (n : Nat) (x0 x1 : T) : Option (List T) :=
  bif ((x0.F 0).I == (x1.F 0).I) then (bif ((x0.F 0).I == (x1.F 0).I) then (bif ((x0.F 1).I == (x1.F 1).I) then (bif ((x0.F 1).I == (x1.F 1).I) then (bif ((x0.F 2).I == (x1.F 2).I) then (bif ((x0.F 2).I == (x1.F 2).I) then (bif ((x0.F 3).B == (x1.F 3).B) then (bif ((x0.F 3).B == (x1.F 3).B) then (bif ((x0.F 4).B == (x1.F 4).B) then (bif ((x0.F 4).B == (x1.F 4).B) then (bif ((x0.F 5).B == (x1.F 5).B) then (bif ((x0.F 5).B == (x1.F 5).B) then (some [.b ((((x0.F 6).L).map fun τ => UInt8.ofNat τ.I.toNat) == (((x1.F 6).L).map fun τ => UInt8.ofNat τ.I.toNat))]) else (some [.b false])) else (bif ((x0.F 5).B == (x1.F 5).B) then none else (some [.b false]))) else (some [.b false])) else (bif ((x0.F 4).B == (x1.F 4).B) then none else (some [.b false]))) else (some [.b false])) else (bif ((x0.F 3).B == (x1.F 3).B) then none else (some [.b false]))) else (some [.b false])) else (bif ((x0.F 2).I == (x1.F 2).I) then none else (some [.b false]))) else (some [.b false])) else (bif ((x0.F 1).I == (x1.F 1).I) then none else (some [.b false]))) else (some [.b false])) else (bif ((x0.F 0).I == (x1.F 0).I) then none else (some [.b false]))
def M92 (n : Nat) (τs : List T) : Option (List T) := match τs with
  | [x0, x1] => F92 n x0 x1
  | _ => none
noncomputable def code92 : List (Nat × Func) := [(92, Go.Proofs.Try.f92)]
def env92 : List (Nat × (Sig × Mean)) := []
def ann92 (f i : Nat) : Ann := match f, i with
  | _, _ => ⟨[], [], []⟩
def lsl92 (n : Nat) : List ((Nat × Nat) × (Nat → List LoopM)) := []
noncomputable def cf92 (n : Nat) : Cfg := ⟨tiOf tab, lookup code92, lookup env92, ann92, n⟩
theorem ev92 (n : Nat) (x0 x1 : T) : evF (cf92 n) (drawK (cf92 n)) (lms2 (lsl92 n)) 3 92 sg92 [x0, x1] = F92 n x0 x1 := by kernel_rfl
theorem eo92 (n : Nat) : EnvOk Go.Proofs.Try.prog (tiOf tab) n 92 sg92 ⟨M92⟩ :=
  have hc : CodeOk Go.Proofs.Try.prog (cf92 n) := (code_cons Go.Proofs.Try.func92 (by kernel_rfl) code_nil)
  have he : EnvsOk Go.Proofs.Try.prog (cf92 n) := env_nil
  have hl : LmsOk (R := List T) (cf92 n) (drawK (cf92 n)) (lms2 (lsl92 n)) (lsl92 n) := lms_nil
  envOk_of (cf := cf92 n) tabOk hc he (draw := drawK (cf92 n)) (fun _ => drawK_ok tabOk mixed hc he) (d := 3) (lms := lms2 (lsl92 n)) hl
    (fun τs rs h => by
      simp only [M92] at h
      split at h
      · exact (ev92 n _ _).trans h
      · cases h)
/-! ### 34: spec.SameSends -/
def sg34 : Sig := ⟨[(true, [.int .i64, .int .i64, .slice 2, .slice 144]), (true, [.int .i64, .int .i64, .slice 2, .slice 144])], [.leaf .bool false]⟩
def G34_34_4 {R : Type} (n : Nat) (v : List T) (self : List T → Option R) (ex : List (List T → Option R)) : Option R :=
  bif (decide ((v.getD 0 (.i 0)).I < ((((v.getD 4 (.i 0)).L).length : Nat) : Int))) then (if 0 ≤ (v.getD 0 (.i 0)).I ∧ (v.getD 0 (.i 0)).I < (((v.getD 4 (.i 0)).L).length : Int) then (if 0 ≤ (v.getD 0 (.i 0)).I ∧ (v.getD 0 (.i 0)).I < (((v.getD 8 (.i 0)).L).length : Int) then ((F92 n (.r [((at_ ((v.getD 4 (.i 0)).L) ((v.getD 0 (.i 0)).I)).F 0), ((at_ ((v.getD 4 (.i 0)).L) ((v.getD 0 (.i 0)).I)).F 1), ((at_ ((v.getD 4 (.i 0)).L) ((v.getD 0 (.i 0)).I)).F 2), ((at_ ((v.getD 4 (.i 0)).L) ((v.getD 0 (.i 0)).I)).F 3), ((at_ ((v.getD 4 (.i 0)).L) ((v.getD 0 (.i 0)).I)).F 4), ((at_ ((v.getD 4 (.i 0)).L) ((v.getD 0 (.i 0)).I)).F 5), ((at_ ((v.getD 4 (.i 0)).L) ((v.getD 0 (.i 0)).I)).F 6)]) (.r [((at_ ((v.getD 8 (.i 0)).L) ((v.getD 0 (.i 0)).I)).F 0), ((at_ ((v.getD 8 (.i 0)).L) ((v.getD 0 (.i 0)).I)).F 1), ((at_ ((v.getD 8 (.i 0)).L) ((v.getD 0 (.i 0)).I)).F 2), ((at_ ((v.getD 8 (.i 0)).L) ((v.getD 0 (.i 0)).I)).F 3), ((at_ ((v.getD 8 (.i 0)).L) ((v.getD 0 (.i 0)).I)).F 4), ((at_ ((v.getD 8 (.i 0)).L) ((v.getD 0 (.i 0)).I)).F 5), ((at_ ((v.getD 8 (.i 0)).L) ((v.getD 0 (.i 0)).I)).F 6)])).bind fun r2 => bif (!(r2.headD (.i 0)).B) then (bif (!(r2.headD (.i 0)).B) then (exn ex 0 [.b false]) else none) else (if 0 ≤ (v.getD 0 (.i 0)).I ∧ (v.getD 0 (.i 0)).I < (((v.getD 4 (.i 0)).L).length : Int) then (if 0 ≤ (v.getD 0 (.i 0)).I ∧ (v.getD 0 (.i 0)).I < (((v.getD 8 (.i 0)).L).length : Int) then (bif (!(r2.headD (.i 0)).B) then (exn ex 0 [.b false]) else (bif (((at_ ((v.getD 4 (.i 0)).L) ((v.getD 0 (.i 0)).I)).F 7).I != ((at_ ((v.getD 8 (.i 0)).L) ((v.getD 0 (.i 0)).I)).F 7).I) then (bif (((at_ ((v.getD 4 (.i 0)).L) ((v.getD 0 (.i 0)).I)).F 7).I != ((at_ ((v.getD 8 (.i 0)).L) ((v.getD 0 (.i 0)).I)).F 7).I) then (exn ex 0 [.b false]) else none) else (if 0 ≤ (v.getD 0 (.i 0)).I ∧ (v.getD 0 (.i 0)).I < (((v.getD 4 (.i 0)).L).length : Int) then (if 0 ≤ (v.getD 0 (.i 0)).I ∧ (v.getD 0 (.i 0)).I < (((v.getD 8 (.i 0)).L).length : Int) then (bif (((at_ ((v.getD 4 (.i 0)).L) ((v.getD 0 (.i 0)).I)).F 7).I != ((at_ ((v.getD 8 (.i 0)).L) ((v.getD 0 (.i 0)).I)).F 7).I) then (exn ex 0 [.b false]) else (bif (((at_ ((v.getD 4 (.i 0)).L) ((v.getD 0 (.i 0)).I)).F 8).I != ((at_ ((v.getD 8 (.i 0)).L) ((v.getD 0 (.i 0)).I)).F 8).I) then (exn ex 0 [.b false]) else (self [.i (IntKind.wrap .i64 ((v.getD 0 (.i 0)).I + 1)), .i ((v.getD 1 (.i 0)).I), .i ((v.getD 2 (.i 0)).I), .l ((v.getD 3 (.i 0)).L), .l ((v.getD 4 (.i 0)).L), .i ((v.getD 5 (.i 0)).I), .i ((v.getD 6 (.i 0)).I), .l ((v.getD 7 (.i 0)).L), .l ((v.getD 8 (.i 0)).L)]))) else none) else none))) else none) else none)) else none) else none) else (exn ex 1 [])
def L34_34_4 (n : Nat) : LoopM := ⟨⟨[[.un, .un, .pb 0 0, .pb 1 0, .un, .t (.int .i64) (.i 0), .un, .un, .un, .un, .un, .un, .un, .un, .un, .un, .un, .un, .un, .un, .un, .un, .un, .un, .un, .un, .un, .un, .un, .un, .un, .un, .un, .un, .un, .un, .un, .un, .un, .un, .un, .un, .un, .un, .un, .un, .un, .un, .un, .un, .un, .un, .un, .un, .un, .un, .un, .un, .un, .un, .un, .un, .un, .un, .un, .un, .un, .un, .un, .un, .un, .un, .un, .un, .un, .un, .un, .un, .un, .un, .un, .un, .un, .un]], [.box [.t (.int .i64) (.i 0), .t (.int .i64) (.i 0), .t (.slice 2) (.i 0), .t (.slice 144) (.i 0)], .box [.t (.int .i64) (.i 0), .t (.int .i64) (.i 0), .t (.slice 2) (.i 0), .t (.slice 144) (.i 0)]]⟩, [(.ret, ⟨[[.un, .un, .un, .un, .t .bool (.i 0), .un, .un, .un, .un, .un, .un, .un, .un, .un, .un, .un, .un, .un, .un, .un, .un, .un, .un, .un, .un, .un, .un, .un, .un, .un, .un, .un, .un, .un, .un, .un, .un, .un, .un, .un, .un, .un, .un, .un, .un, .un, .un, .un, .un, .un, .un, .un, .un, .un, .un, .un, .un, .un, .un, .un, .un, .un, .un, .un, .un, .un, .un, .un, .un, .un, .un, .un, .un, .un, .un, .un, .un, .un, .un, .un, .un, .un, .un, .un]], []⟩), (.exit 0, ⟨[[.un, .un, .un, .un, .un, .un, .un, .un, .un, .un, .un, .un, .un, .un, .un, .un, .un, .un, .un, .un, .un, .un, .un, .un, .un, .un, .un, .un, .un, .un, .un, .un, .un, .un, .un, .un, .un, .un, .un, .un, .un, .un, .un, .un, .un, .un, .un, .un, .un, .un, .un, .un, .un, .un, .un, .un, .un, .un, .un, .un, .un, .un, .un, .un, .un, .un, .un, .un, .un, .un, .un, .un, .un, .un, .un, .un, .un, .un, .un, .un, .un, .un, .un, .un]], []⟩)], fun v self ex => G34_34_4 n v self ex⟩
def F34 (n : Nat) (x0 x1 x2 x3 x4 x5 x6 x7 : T) : Option (List T) :=
  bif (x0.I != x4.I) then (some [.b false]) else (bif (x1.I != x5.I) then (some [.b false]) else ((F73 n x2 x6).bind fun r1 => bif (!(r1.headD (.i 0)).B) then (some [.b false]) else (bif ((x3.L.length : Int) != (x7.L.length : Int)) then (some [.b false]) else (loopR (L34_34_4 n).G n [.i 0, .i x0.I, .i x1.I, .l x2.L, .l x3.L, .i x4.I, .i x5.I, .l x6.L, .l x7.L] [fun u3 => some [.b ((u3.getD 0 (.i 0)).B)], fun u4 => some [.b true]]))))
def M34 (n : Nat) (τs : List T) : Option (List T) := match τs with
  | [x0, x1, x2, x3, x4, x5, x6, x7] => F34 n x0 x1 x2 x3 x4 x5 x6 x7
  | _ => none
noncomputable def code34 : List (Nat × Func) := [(34, Go.Proofs.Try.f34)]
def env34 : List (Nat × (Sig × Mean)) := [(73, sg73, ⟨M73⟩), (92, sg92, ⟨M92⟩)]
def ann34 (f i : Nat) : Ann := match f, i with
  | 34, 4 => ⟨[(2, .any), (3, .any), (5, .any)], [], [(4, .any)]⟩
  | _, _ => ⟨[], [], []⟩
def lm34_34 (n : Nat) (i : Nat) : List LoopM := match i with
  | 4 => [L34_34_4 n]
  | _ => []
def lsl34 (n : Nat) : List ((Nat × Nat) × (Nat → List LoopM)) := [((3, 34), lm34_34 n)]
noncomputable def cf34 (n : Nat) : Cfg := ⟨tiOf tab, lookup code34, lookup env34, ann34, n⟩
theorem ev34 (n : Nat) (x0 x1 x2 x3 x4 x5 x6 x7 : T) : evF (cf34 n) (drawK (cf34 n)) (lms2 (lsl34 n)) 3 34 sg34 [x0, x1, x2, x3, x4, x5, x6, x7] = F34 n x0 x1 x2 x3 x4 x5 x6 x7 := by kernel_rfl
theorem lp34_34_4 (n : Nat) (K : Ex → St → Option (List T)) (self : List T → Option (List T)) (v : List T) : evC (cf34 n) (callK (cf34 n) (drawK (cf34 n)) (lms2 (lsl34 n)) 3) (drawK (cf34 n) (callK (cf34 n) (drawK (cf34 n)) (lms2 (lsl34 n)) 3)) (ann34 34) (lm34_34 n) (bodyOf Go.Proofs.Try.f34 4) ((L34_34_4 n).sk.fill v) (roundK (ann34 34 4) K (selfK (L34_34_4 n) self)) = (L34_34_4 n).G v self (exitK (L34_34_4 n) K) := by kernel_rfl
theorem eo34 (n : Nat) : EnvOk Go.Proofs.Try.prog (tiOf tab) n 34 sg34 ⟨M34⟩ :=
  have hc : CodeOk Go.Proofs.Try.prog (cf34 n) := (code_cons Go.Proofs.Try.func34 (by kernel_rfl) code_nil)
  have he : EnvsOk Go.Proofs.Try.prog (cf34 n) := (env_cons (eo73 n) (env_cons (eo92 n) env_nil))
  have hl : LmsOk (R := List T) (cf34 n) (drawK (cf34 n)) (lms2 (lsl34 n)) (lsl34 n) := (lms_cons (loops_of (cf := cf34 n) (fn0 := Go.Proofs.Try.f34) rfl (l := [bodyOf Go.Proofs.Try.f34 4]) (by kernel_rfl) (loops_cons (b := bodyOf Go.Proofs.Try.f34 4) (by kernel_rfl) (rfl : lm34_34 n 4 = [L34_34_4 n]) (List.forall_mem_cons.2 ⟨fun K self v => lp34_34_4 n K self v, fun _ h => by cases h⟩) loops_nil)) lms_nil)
  envOk_of (cf := cf34 n) tabOk hc he (draw := drawK (cf34 n)) (fun _ => drawK_ok tabOk mixed hc he) (d := 3) (lms := lms2 (lsl34 n)) hl
    (fun τs rs h => by
      simp only [M34] at h
      split at h
      · exact (ev34 n _ _ _ _ _ _ _ _).trans h
      · cases h)
/-! ### 17: laws.toInt64S -/
def sg17 : Sig := ⟨[(false, [.slice 2])], [.leaf (.slice 2) false]⟩
def G17_17_3 {R : Type} (n : Nat) (v : List T) (self : List T → Option R) (ex : List (List T → Option R)) : Option R :=
  bif (decide ((v.getD 1 (.i 0)).I < ((((v.getD 0 (.i 0)).L).length : Nat) : Int))) then (if 0 ≤ (v.getD 1 (.i 0)).I ∧ (v.getD 1 (.i 0)).I < (((v.getD 0 (.i 0)).L).length : Int) then (if 0 ≤ (v.getD 1 (.i 0)).I ∧ (v.getD 1 (.i 0)).I < (((v.getD 2 (.i 0)).L).length : Int) then (if 2 = 2 ∧ ((v.getD 1 (.i 0)).I).toNat < ((v.getD 2 (.i 0)).L).length then (self [.l ((v.getD 0 (.i 0)).L), .i (IntKind.wrap .i64 ((v.getD 1 (.i 0)).I + 1)), .l (((v.getD 2 (.i 0)).L).set (((v.getD 1 (.i 0)).I).toNat) ((at_ ((v.getD 0 (.i 0)).L) ((v.getD 1 (.i 0)).I))))]) else none) else none) else none) else (exn ex 0 [.l ((v.getD 2 (.i 0)).L)])
def L17_17_3 (n : Nat) : LoopM := ⟨⟨[[.t (.slice 2) (.i 0), .un, .un, .own 2 0, .t (.int .i64) (.i 0), .un, .un, .un, .un, .un, .un, .un, .un, .un, .un, .un, .un, .un, .un, .un, .un, .un]], [.arr 2 []]⟩, [(.exit 0, ⟨[[.un, .un, .un, .own 2 0, .un, .un, .un, .un, .un, .un, .un, .un, .un, .un, .un, .un, .un, .un, .un, .un, .un, .un]], [.arr 2 []]⟩)], fun v self ex => G17_17_3 n v self ex⟩
def F17 (n : Nat) (x0 : T) : Option (List T) :=
  if 0 ≤ (x0.L.length : Int) ∧ (x0.L.length : Int) * 8 ≤ limB ∧ (x0.L.length : Int) < maxN then (loopR (L17_17_3 n).G n [.l x0.L, .i 0, .l (List.replicate ((x0.L.length : Int)).toNat (T.i 0))] [fun u1 => some [.l ((u1.getD 0 (.i 0)).L)]]) else none
def M17 (n : Nat) (τs : List T) : Option (List T) := match τs with
  | [x0] => F17 n x0
  | _ => none
noncomputable def code17 : List (Nat × Func) := [(17, Go.Proofs.Try.f17)]
def env17 : List (Nat × (Sig × Mean)) := []
def ann17 (f i : Nat) : Ann := match f, i with
  | 17, 3 => ⟨[(0, .any), (3, .any), (4, .any)], [], [(3, .any)]⟩
  | _, _ => ⟨[], [], []⟩
def lm17_17 (n : Nat) (i : Nat) : List LoopM := match i with
  | 3 => [L17_17_3 n]
  | _ => []
def lsl17 (n : Nat) : List ((Nat × Nat) × (Nat → List LoopM)) := [((3, 17), lm17_17 n)]
noncomputable def cf17 (n : Nat) : Cfg := ⟨tiOf tab, lookup code17, lookup env17, ann17, n⟩
theorem ev17 (n : Nat) (x0 : T) : evF (cf17 n) (drawK (cf17 n)) (lms2 (lsl17 n)) 3 17 sg17 [x0] = F17 n x0 := by kernel_rfl
theorem lp17_17_3 (n : Nat) (K : Ex → St → Option (List T)) (self : List T → Option (List T)) (v : List T) : evC (cf17 n) (callK (cf17 n) (drawK (cf17 n)) (lms2 (lsl17 n)) 3) (drawK (cf17 n) (callK (cf17 n) (drawK (cf17 n)) (lms2 (lsl17 n)) 3)) (ann17 17) (lm17_17 n) (bodyOf Go.Proofs.Try.f17 3) ((L17_17_3 n).sk.fill v) (roundK (ann17 17 3) K (selfK (L17_17_3 n) self)) = (L17_17_3 n).G v self (exitK (L17_17_3 n) K) := by kernel_rfl
theorem eo17 (n : Nat) : EnvOk Go.Proofs.Try.prog (tiOf tab) n 17 sg17 ⟨M17⟩ :=
  have hc : CodeOk Go.Proofs.Try.prog (cf17 n) := (code_cons Go.Proofs.Try.func17 (by kernel_rfl) code_nil)
  have he : EnvsOk Go.Proofs.Try.prog (cf17 n) := env_nil
  have hl : LmsOk (R := List T) (cf17 n) (drawK (cf17 n)) (lms2 (lsl17 n)) (lsl17 n) := (lms_cons (loops_of (cf := cf17 n) (fn0 := Go.Proofs.Try.f17) rfl (l := [bodyOf Go.Proofs.Try.f17 3]) (by kernel_rfl) (loops_cons (b := bodyOf Go.Proofs.Try.f17 3) (by kernel_rfl) (rfl : lm17_17 n 3 = [L17_17_3 n]) (List.forall_mem_cons.2 ⟨fun K self v => lp17_17_3 n K self v, fun _ h => by cases h⟩) loops_nil)) lms_nil)
  envOk_of (cf := cf17 n) tabOk hc he (draw := drawK (cf17 n)) (fun _ => drawK_ok tabOk mixed hc he) (d := 3) (lms := lms2 (lsl17 n)) hl
    (fun τs rs h => by
      simp only [M17] at h
      split at h
      · exact (ev17 n _).trans h
      · cases h)
/-! ### 124: laws.toByteS -/
def sg124 : Sig := ⟨[(false, [.slice 5])], [.leaf (.slice 5) false]⟩
def G124_124_3 {R : Type} (n : Nat) (v : List T) (self : List T → Option R) (ex : List (List T → Option R)) : Option R :=
  bif (decide ((v.getD 1 (.i 0)).I < ((((v.getD 0 (.i 0)).L).length : Nat) : Int))) then (if 0 ≤ (v.getD 1 (.i 0)).I ∧ (v.getD 1 (.i 0)).I < (((v.getD 0 (.i 0)).L).length : Int) then (if 0 ≤ (v.getD 1 (.i 0)).I ∧ (v.getD 1 (.i 0)).I < (((v.getD 2 (.i 0)).L).length : Int) then (if 5 = 5 ∧ ((v.getD 1 (.i 0)).I).toNat < ((v.getD 2 (.i 0)).L).length then (self [.l ((v.getD 0 (.i 0)).L), .i (IntKind.wrap .i64 ((v.getD 1 (.i 0)).I + 1)), .l (((v.getD 2 (.i 0)).L).set (((v.getD 1 (.i 0)).I).toNat) ((at_ ((v.getD 0 (.i 0)).L) ((v.getD 1 (.i 0)).I))))]) else none) else none) else none) else (exn ex 0 [.l ((v.getD 2 (.i 0)).L)])
def L124_124_3 (n : Nat) : LoopM := ⟨⟨[[.t (.slice 5) (.i 0), .un, .un, .own 5 0, .t (.int .i64) (.i 0), .un, .un, .un, .un, .un, .un, .un, .un, .un, .un, .un, .un, .un, .un, .un, .un, .un]], [.arr 5 []]⟩, [(.exit 0, ⟨[[.un, .un, .un, .own 5 0, .un, .un, .un, .un, .un, .un, .un, .un, .un, .un, .un, .un, .un, .un, .un, .un, .un, .un]], [.arr 5 []]⟩)], fun v self ex => G124_124_3 n v self ex⟩
def F124 (n : Nat) (x0 : T) : Option (List T) :=
  if 0 ≤ (x0.L.length : Int) ∧ (x0.L.length : Int) * 1 ≤ limB ∧ (x0.L.length : Int) < maxN then (loopR (L124_124_3 n).G n [.l x0.L, .i 0, .l (List.replicate ((x0.L.length : Int)).toNat (T.i 0))] [fun u1 => some [.l ((u1.getD 0 (.i 0)).L)]]) else none
def M124 (n : Nat) (τs : List T) : Option (List T) := match τs with
  | [x0] => F124 n x0
  | _ => none
noncomputable def code124 : List (Nat × Func) := [(124, Go.Proofs.Try.f124)]
def env124 : List (Nat × (Sig × Mean)) := []
def ann124 (f i : Nat) : Ann := match f, i with
  | 124, 3 => ⟨[(0, .any), (3, .any), (4, .any)], [], [(3, .any)]⟩
  | _, _ => ⟨[], [], []⟩
def lm124_124 (n : Nat) (i : Nat) : List LoopM := match i with
  | 3 => [L124_124_3 n]
  | _ => []
def lsl124 (n : Nat) : List ((Nat × Nat) × (Nat → List LoopM)) := [((3, 124), lm124_124 n)]
noncomputable def cf124 (n : Nat) : Cfg := ⟨tiOf tab, lookup code124, lookup env124, ann124, n⟩
theorem ev124 (n : Nat) (x0 : T) : evF (cf124 n) (drawK (cf124 n)) (lms2 (lsl124 n)) 3 124 sg124 [x0] = F124 n x0 := by kernel_rfl
theorem lp124_124_3 (n : Nat) (K : Ex → St → Option (List T)) (self : List T → Option (List T)) (v : List T) : evC (cf124 n) (callK (cf124 n) (drawK (cf124 n)) (lms2 (lsl124 n)) 3) (drawK (cf124 n) (callK (cf124 n) (drawK (cf124 n)) (lms2 (lsl124 n)) 3)) (ann124 124) (lm124_124 n) (bodyOf Go.Proofs.Try.f124 3) ((L124_124_3 n).sk.fill v) (roundK (ann124 124 3) K (selfK (L124_124_3 n) self)) = (L124_124_3 n).G v self (exitK (L124_124_3 n) K) := by kernel_rfl
theorem eo124 (n : Nat) : EnvOk Go.Proofs.Try.prog (tiOf tab) n 124 sg124 ⟨M124⟩ :=
  have hc : CodeOk Go.Proofs.Try.prog (cf124 n) := (code_cons Go.Proofs.Try.func124 (by kernel_rfl) code_nil)
  have he : EnvsOk Go.Proofs.Try.prog (cf124 n) := env_nil
  have hl : LmsOk (R := List T) (cf124 n) (drawK (cf124 n)) (lms2 (lsl124 n)) (lsl124 n) := (lms_cons (loops_of (cf := cf124 n) (fn0 := Go.Proofs.Try.f124) rfl (l := [bodyOf Go.Proofs.Try.f124 3]) (by kernel_rfl) (loops_cons (b := bodyOf Go.Proofs.Try.f124 3) (by kernel_rfl) (rfl : lm124_124 n 3 = [L124_124_3 n]) (List.forall_mem_cons.2 ⟨fun K self v => lp124_124_3 n K self v, fun _ h => by cases h⟩) loops_nil)) lms_nil)
  envOk_of (cf := cf124 n) tabOk hc he (draw := drawK (cf124 n)) (fun _ => drawK_ok tabOk mixed hc he) (d := 3) (lms := lms2 (lsl124 n)) hl
    (fun τs rs h => by
      simp only [M124] at h
      split at h
      · exact (ev124 n _).trans h
      · cases h)
/-! ### 152: laws.toData -/
def sg152 : Sig := ⟨[(true, [.int .i64, .int .i64, .int .i64, .bool, .bool, .bool, .slice 5])], [.agg [(.int .i64, false), (.int .i64, false), (.int .i64, false), (.bool, false), (.bool, false), (.bool, false), (.slice 5, false)]]⟩
def F152 (n : Nat) (x0 x1 x2 x3 x4 x5 x6 : T) : Option (List T) :=
  (F124 n x6).bind fun r1 => some [x0, x1, x2, x3, x4, x5, (r1.headD (.i 0))]
def M152 (n : Nat) (τs : List T) : Option (List T) := match τs with
  | [x0, x1, x2, x3, x4, x5, x6] => F152 n x0 x1 x2 x3 x4 x5 x6
  | _ => none
noncomputable def code152 : List (Nat × Func) := [(152, Go.Proofs.Try.f152)]
def env152 : List (Nat × (Sig × Mean)) := [(124, sg124, ⟨M124⟩)]
def ann152 (f i : Nat) : Ann := match f, i with
  | _, _ => ⟨[], [], []⟩
def lsl152 (n : Nat) : List ((Nat × Nat) × (Nat → List LoopM)) := []
noncomputable def cf152 (n : Nat) : Cfg := ⟨tiOf tab, lookup code152, lookup env152, ann152, n⟩
theorem ev152 (n : Nat) (x0 x1 x2 x3 x4 x5 x6 : T) : evF (cf152 n) (drawK (cf152 n)) (lms2 (lsl152 n)) 3 152 sg152 [x0, x1, x2, x3, x4, x5, x6] = F152 n x0 x1 x2 x3 x4 x5 x6 := by kernel_rfl
theorem eo152 (n : Nat) : EnvOk Go.Proofs.Try.prog (tiOf tab) n 152 sg152 ⟨M152⟩ :=
  have hc : CodeOk Go.Proofs.Try.prog (cf152 n) := (code_cons Go.Proofs.Try.func152 (by kernel_rfl) code_nil)
  have he : EnvsOk Go.Proofs.Try.prog (cf152 n) := (env_cons (eo124 n) env_nil)
  have hl : LmsOk (R := List T) (cf152 n) (drawK (cf152 n)) (lms2 (lsl152 n)) (lsl152 n) := lms_nil
  envOk_of (cf := cf152 n) tabOk hc he (draw := drawK (cf152 n)) (fun _ => drawK_ok tabOk mixed hc he) (d := 3) (lms := lms2 (lsl152 n)) hl
    (fun τs rs h => by
      simp only [M152] at h
      split at h
      · exact (ev152 n _ _ _ _ _ _ _).trans h
      · cases h)
/-! ### 161: laws.toSendItem -/
def sg161 : Sig := ⟨[(true, [.int .i64, .int .i64, .int .i64, .bool, .bool, .bool, .slice 5, .int .i64, .int .i64])], [.agg [(.int .i64, false), (.int .i64, false), (.int .i64, false), (.bool, false), (.bool, false), (.bool, false), (.slice 5, false), (.int .i64, false), (.int .i64, false)]]⟩
def F161 (n : Nat) (x0 x1 x2 x3 x4 x5 x6 x7 x8 : T) : Option (List T) :=
  (F152 n x0 x1 x2 x3 x4 x5 x6).bind fun r1 => some [(r1.headD (.i 0)), (r1.tail.headD (.i 0)), (r1.tail.tail.headD (.i 0)), (r1.tail.tail.tail.headD (.i 0)), (r1.tail.tail.tail.tail.headD (.i 0)), (r1.tail.tail.tail.tail.tail.headD (.i 0)), (r1.tail.tail.tail.tail.tail.tail.headD (.i 0)), x7, x8]
def M161 (n : Nat) (τs : List T) : Option (List T) := match τs with
  | [x0, x1, x2, x3, x4, x5, x6, x7, x8] => F161 n x0 x1 x2 x3 x4 x5 x6 x7 x8
  | _ => none
noncomputable def code161 : List (Nat × Func) := [(161, Go.Proofs.Try.f161)]
def env161 : List (Nat × (Sig × Mean)) := [(152, sg152, ⟨M152⟩)]
def ann161 (f i : Nat) : Ann := match f, i with
  | _, _ => ⟨[], [], []⟩
def lsl161 (n : Nat) : List ((Nat × Nat) × (Nat → List LoopM)) := []
noncomputable def cf161 (n : Nat) : Cfg := ⟨tiOf tab, lookup code161, lookup env161, ann161, n⟩
theorem ev161 (n : Nat) (x0 x1 x2 x3 x4 x5 x6 x7 x8 : T) : evF (cf161 n) (drawK (cf161 n)) (lms2 (lsl161 n)) 3 161 sg161 [x0, x1, x2, x3, x4, x5, x6, x7, x8] = F161 n x0 x1 x2 x3 x4 x5 x6 x7 x8 := by kernel_rfl
theorem eo161 (n : Nat) : EnvOk Go.Proofs.Try.prog (tiOf tab) n 161 sg161 ⟨M161⟩ :=
  have hc : CodeOk Go.Proofs.Try.prog (cf161 n) := (code_cons Go.Proofs.Try.func161 (by kernel_rfl) code_nil)
  have he : EnvsOk Go.Proofs.Try.prog (cf161 n) := (env_cons (eo152 n) env_nil)
  have hl : LmsOk (R := List T) (cf161 n) (drawK (cf161 n)) (lms2 (lsl161 n)) (lsl161 n) := lms_nil
  envOk_of (cf := cf161 n) tabOk hc he (draw := drawK (cf161 n)) (fun _ => drawK_ok tabOk mixed hc he) (d := 3) (lms := lms2 (lsl161 n)) hl
    (fun τs rs h => by
      simp only [M161] at h
      split at h
      · exact (ev161 n _ _ _ _ _ _ _ _ _).trans h
      · cases h)
/-! ### 93: laws.toSendItemS -/
def sg93 : Sig := ⟨[(false, [.slice 209])], [.leaf (.slice 144) false]⟩
def G93_93_3 {R : Type} (n : Nat) (v : List T) (self : List T → Option R) (ex : List (List T → Option R)) : Option R :=
  bif (decide ((v.getD 1 (.i 0)).I < ((((v.getD 0 (.i 0)).L).length : Nat) : Int))) then (if 0 ≤ (v.getD 1 (.i 0)).I ∧ (v.getD 1 (.i 0)).I < (((v.getD 0 (.i 0)).L).length : Int) then ((F161 n ((at_ ((v.getD 0 (.i 0)).L) ((v.getD 1 (.i 0)).I)).F 0) ((at_ ((v.getD 0 (.i 0)).L) ((v.getD 1 (.i 0)).I)).F 1) ((at_ ((v.getD 0 (.i 0)).L) ((v.getD 1 (.i 0)).I)).F 2) ((at_ ((v.getD 0 (.i 0)).L) ((v.getD 1 (.i 0)).I)).F 3) ((at_ ((v.getD 0 (.i 0)).L) ((v.getD 1 (.i 0)).I)).F 4) ((at_ ((v.getD 0 (.i 0)).L) ((v.getD 1 (.i 0)).I)).F 5) ((at_ ((v.getD 0 (.i 0)).L) ((v.getD 1 (.i 0)).I)).F 6) ((at_ ((v.getD 0 (.i 0)).L) ((v.getD 1 (.i 0)).I)).F 7) ((at_ ((v.getD 0 (.i 0)).L) ((v.getD 1 (.i 0)).I)).F 8)).bind fun r1 => if 0 ≤ (v.getD 1 (.i 0)).I ∧ (v.getD 1 (.i 0)).I < (((v.getD 2 (.i 0)).L).length : Int) then (if 144 = 144 ∧ ((v.getD 1 (.i 0)).I).toNat < ((v.getD 2 (.i 0)).L).length then (self [.l ((v.getD 0 (.i 0)).L), .i (IntKind.wrap .i64 ((v.getD 1 (.i 0)).I + 1)), .l (((v.getD 2 (.i 0)).L).set (((v.getD 1 (.i 0)).I).toNat) (.r [(r1.headD (.i 0)), (r1.tail.headD (.i 0)), (r1.tail.tail.headD (.i 0)), (r1.tail.tail.tail.headD (.i 0)), (r1.tail.tail.tail.tail.headD (.i 0)), (r1.tail.tail.tail.tail.tail.headD (.i 0)), (r1.tail.tail.tail.tail.tail.tail.headD (.i 0)), (r1.tail.tail.tail.tail.tail.tail.tail.headD (.i 0)), (r1.tail.tail.tail.tail.tail.tail.tail.tail.headD (.i 0))]))]) else none) else none) else none) else (exn ex 0 [.l ((v.getD 2 (.i 0)).L)])
def L93_93_3 (n : Nat) : LoopM := ⟨⟨[[.t (.slice 209) (.i 0), .un, .un, .own 144 0, .t (.int .i64) (.i 0), .un, .un, .un, .un, .un, .un, .un, .un, .un, .un, .un, .un, .un, .un, .un, .un, .un, .un]], [.arr 144 []]⟩, [(.exit 0, ⟨[[.un, .un, .un, .own 144 0, .un, .un, .un, .un, .un, .un, .un, .un, .un, .un, .un, .un, .un, .un, .un, .un, .un, .un, .un]], [.arr 144 []]⟩)], fun v self ex => G93_93_3 n v self ex⟩
def F93 (n : Nat) (x0 : T) : Option (List T) :=
  if 0 ≤ (x0.L.length : Int) ∧ (x0.L.length : Int) * 72 ≤ limB ∧ (x0.L.length : Int) < maxN then (loopR (L93_93_3 n).G n [.l x0.L, .i 0, .l (List.replicate ((x0.L.length : Int)).toNat (T.r [.i 0, .i 0, .i 0, .b false, .b false, .b false, .l [], .i 0, .i 0]))] [fun u2 => some [.l ((u2.getD 0 (.i 0)).L)]]) else none
def M93 (n : Nat) (τs : List T) : Option (List T) := match τs with
  | [x0] => F93 n x0
  | _ => none
noncomputable def code93 : List (Nat × Func) := [(93, Go.Proofs.Try.f93)]
def env93 : List (Nat × (Sig × Mean)) := [(161, sg161, ⟨M161⟩)]
def ann93 (f i : Nat) : Ann := match f, i with
  | 93, 3 => ⟨[(0, .any), (3, .any), (4, .any)], [], [(3, .any)]⟩
  | _, _ => ⟨[], [], []⟩
def lm93_93 (n : Nat) (i : Nat) : List LoopM := match i with
  | 3 => [L93_93_3 n]
  | _ => []
def lsl93 (n : Nat) : List ((Nat × Nat) × (Nat → List LoopM)) := [((3, 93), lm93_93 n)]
noncomputable def cf93 (n : Nat) : Cfg := ⟨tiOf tab, lookup code93, lookup env93, ann93, n⟩
theorem ev93 (n : Nat) (x0 : T) : evF (cf93 n) (drawK (cf93 n)) (lms2 (lsl93 n)) 3 93 sg93 [x0] = F93 n x0 := by kernel_rfl
theorem lp93_93_3 (n : Nat) (K : Ex → St → Option (List T)) (self : List T → Option (List T)) (v : List T) : evC (cf93 n) (callK (cf93 n) (drawK (cf93 n)) (lms2 (lsl93 n)) 3) (drawK (cf93 n) (callK (cf93 n) (drawK (cf93 n)) (lms2 (lsl93 n)) 3)) (ann93 93) (lm93_93 n) (bodyOf Go.Proofs.Try.f93 3) ((L93_93_3 n).sk.fill v) (roundK (ann93 93 3) K (selfK (L93_93_3 n) self)) = (L93_93_3 n).G v self (exitK (L93_93_3 n) K) := by kernel_rfl
theorem eo93 (n : Nat) : EnvOk Go.Proofs.Try.prog (tiOf tab) n 93 sg93 ⟨M93⟩ :=
  have hc : CodeOk Go.Proofs.Try.prog (cf93 n) := (code_cons Go.Proofs.Try.func93 (by kernel_rfl) code_nil)
  have he : EnvsOk Go.Proofs.Try.prog (cf93 n) := (env_cons (eo161 n) env_nil)
  have hl : LmsOk (R := List T) (cf93 n) (drawK (cf93 n)) (lms2 (lsl93 n)) (lsl93 n) := (lms_cons (loops_of (cf := cf93 n) (fn0 := Go.Proofs.Try.f93) rfl (l := [bodyOf Go.Proofs.Try.f93 3]) (by kernel_rfl) (loops_cons (b := bodyOf Go.Proofs.Try.f93 3) (by kernel_rfl) (rfl : lm93_93 n 3 = [L93_93_3 n]) (List.forall_mem_cons.2 ⟨fun K self v => lp93_93_3 n K self v, fun _ h => by cases h⟩) loops_nil)) lms_nil)
  envOk_of (cf := cf93 n) tabOk hc he (draw := drawK (cf93 n)) (fun _ => drawK_ok tabOk mixed hc he) (d := 3) (lms := lms2 (lsl93 n)) hl
    (fun τs rs h => by
      simp only [M93] at h
      split at h
      · exact (ev93 n _).trans h
      · cases h)
/-! ### 35: laws.toSend -/
def sg35 : Sig := ⟨[(true, [.int .i64, .int .i64, .slice 2, .slice 209])], [.agg [(.int .i64, false), (.int .i64, false), (.slice 2, false), (.slice 144, false)]]⟩
def F35 (n : Nat) (x0 x1 x2 x3 : T) : Option (List T) :=
  (F17 n x2).bind fun r1 => (F93 n x3).bind fun r2 => some [x0, x1, (r1.headD (.i 0)), (r2.headD (.i 0))]
def M35 (n : Nat) (τs : List T) : Option (List T) := match τs with
  | [x0, x1, x2, x3] => F35 n x0 x1 x2 x3
  | _ => none
noncomputable def code35 : List (Nat × Func) := [(35, Go.Proofs.Try.f35)]
def env35 : List (Nat × (Sig × Mean)) := [(17, sg17, ⟨M17⟩), (93, sg93, ⟨M93⟩)]
def ann35 (f i : Nat) : Ann := match f, i with
  | _, _ => ⟨[], [], []⟩
def lsl35 (n : Nat) : List ((Nat × Nat) × (Nat → List LoopM)) := []
noncomputable def cf35 (n : Nat) : Cfg := ⟨tiOf tab, lookup code35, lookup env35, ann35, n⟩
theorem ev35 (n : Nat) (x0 x1 x2 x3 : T) : evF (cf35 n) (drawK (cf35 n)) (lms2 (lsl35 n)) 3 35 sg35 [x0, x1, x2, x3] = F35 n x0 x1 x2 x3 := by kernel_rfl
theorem eo35 (n : Nat) : EnvOk Go.Proofs.Try.prog (tiOf tab) n 35 sg35 ⟨M35⟩ :=
  have hc : CodeOk Go.Proofs.Try.prog (cf35 n) := (code_cons Go.Proofs.Try.func35 (by kernel_rfl) code_nil)
  have he : EnvsOk Go.Proofs.Try.prog (cf35 n) := (env_cons (eo17 n) (env_cons (eo93 n) env_nil))
  have hl : LmsOk (R := List T) (cf35 n) (drawK (cf35 n)) (lms2 (lsl35 n)) (lsl35 n) := lms_nil
  envOk_of (cf := cf35 n) tabOk hc he (draw := drawK (cf35 n)) (fun _ => drawK_ok tabOk mixed hc he) (d := 3) (lms := lms2 (lsl35 n)) hl
    (fun τs rs h => by
      simp only [M35] at h
      split at h
      · exact (ev35 n _ _ _ _).trans h
      · cases h)
/-! ### 76: slices.Equal[[]int64,int64] -/
def sg76 : Sig := ⟨[(false, [.slice 2]), (false, [.slice 2])], [.leaf .bool false]⟩
def G76_76_4 {R : Type} (n : Nat) (v : List T) (self : List T → Option R) (ex : List (List T → Option R)) : Option R :=
  bif (decide ((v.getD 3 (.i 0)).I < (v.getD 2 (.i 0)).I)) then (if 0 ≤ (v.getD 3 (.i 0)).I ∧ (v.getD 3 (.i 0)).I < (((v.getD 0 (.i 0)).L).length : Int) then (if 0 ≤ (v.getD 3 (.i 0)).I ∧ (v.getD 3 (.i 0)).I < (((v.getD 1 (.i 0)).L).length : Int) then (bif ((at_ ((v.getD 0 (.i 0)).L) ((v.getD 3 (.i 0)).I)).I != (at_ ((v.getD 1 (.i 0)).L) ((v.getD 3 (.i 0)).I)).I) then (exn ex 0 [.b false]) else (self [.l ((v.getD 0 (.i 0)).L), .l ((v.getD 1 (.i 0)).L), .i ((v.getD 2 (.i 0)).I), .i (IntKind.wrap .i64 ((v.getD 3 (.i 0)).I + 1))])) else none) else none) else (exn ex 1 [])
def L76_76_4 (n : Nat) : LoopM := ⟨⟨[[.t (.slice 2) (.i 0), .t (.slice 2) (.i 0), .un, .un, .un, .un, .un, .un, .un, .un, .un, .un, .t (.int .i64) (.i 0), .t (.int .i64) (.i 0), .un, .un, .un, .un, .un, .un, .un, .un, .un, .un, .un, .un]], []⟩, [(.ret, ⟨[[.un, .un, .un, .un, .t .bool (.i 0), .un, .un, .un, .un, .un, .un, .un, .un, .un, .un, .un, .un, .un, .un, .un, .un, .un, .un, .un, .un, .un]], []⟩), (.exit 0, ⟨[[.un, .un, .un, .un, .un, .un, .un, .un, .un, .un, .un, .un, .un, .un, .un, .un, .un, .un, .un, .un, .un, .un, .un, .un, .un, .un]], []⟩)], fun v self ex => G76_76_4 n v self ex⟩
def F76 (n : Nat) (x0 x1 : T) : Option (List T) :=
  bif ((x0.L.length : Int) != (x1.L.length : Int)) then (some [.b false]) else (loopR (L76_76_4 n).G n [.l x0.L, .l x1.L, .i (x0.L.length : Int), .i 0] [fun u1 => some [.b ((u1.getD 0 (.i 0)).B)], fun u2 => some [.b true]])
def M76 (n : Nat) (τs : List T) : Option (List T) := match τs with
  | [x0, x1] => F76 n x0 x1
  | _ => none
noncomputable def code76 : List (Nat × Func) := [(76, Go.Proofs.Try.f76)]
def env76 : List (Nat × (Sig × Mean)) := []
def ann76 (f i : Nat) : Ann := match f, i with
  | 76, 4 => ⟨[(0, .any), (1, .any), (12, .any), (13, .any)], [], [(4, .any)]⟩
  | _, _ => ⟨[], [], []⟩
def lm76_76 (n : Nat) (i : Nat) : List LoopM := match i with
  | 4 => [L76_76_4 n]
  | _ => []
def lsl76 (n : Nat) : List ((Nat × Nat) × (Nat → List LoopM)) := [((3, 76), lm76_76 n)]
noncomputable def cf76 (n : Nat) : Cfg := ⟨tiOf tab, lookup code76, lookup env76, ann76, n⟩
theorem ev76 (n : Nat) (x0 x1 : T) : evF (cf76 n) (drawK (cf76 n)) (lms2 (lsl76 n)) 3 76 sg76 [x0, x1] = F76 n x0 x1 := by kernel_rfl
theorem lp76_76_4 (n : Nat) (K : Ex → St → Option (List T)) (self : List T → Option (List T)) (v : List T) : evC (cf76 n) (callK (cf76 n) (drawK (cf76 n)) (lms2 (lsl76 n)) 3) (drawK (cf76 n) (callK (cf76 n) (drawK (cf76 n)) (lms2 (lsl76 n)) 3)) (ann76 76) (lm76_76 n) (bodyOf Go.Proofs.Try.f76 4) ((L76_76_4 n).sk.fill v) (roundK (ann76 76 4) K (selfK (L76_76_4 n) self)) = (L76_76_4 n).G v self (exitK (L76_76_4 n) K) := by kernel_rfl
theorem eo76 (n : Nat) : EnvOk Go.Proofs.Try.prog (tiOf tab) n 76 sg76 ⟨M76⟩ :=
  have hc : CodeOk Go.Proofs.Try.prog (cf76 n) := (code_cons Go.Proofs.Try.func76 (by kernel_rfl) code_nil)
  have he : EnvsOk Go.Proofs.Try.prog (cf76 n) := env_nil
  have hl : LmsOk (R := List T) (cf76 n) (drawK (cf76 n)) (lms2 (lsl76 n)) (lsl76 n) := (lms_cons (loops_of (cf := cf76 n) (fn0 := Go.Proofs.Try.f76) rfl (l := [bodyOf Go.Proofs.Try.f76 4]) (by kernel_rfl) (loops_cons (b := bodyOf Go.Proofs.Try.f76 4) (by kernel_rfl) (rfl : lm76_76 n 4 = [L76_76_4 n]) (List.forall_mem_cons.2 ⟨fun K self v => lp76_76_4 n K self v, fun _ h => by cases h⟩) loops_nil)) lms_nil)
  envOk_of (cf := cf76 n) tabOk hc he (draw := drawK (cf76 n)) (fun _ => drawK_ok tabOk mixed hc he) (d := 3) (lms := lms2 (lsl76 n)) hl
    (fun τs rs h => by
      simp only [M76] at h
      split at h
      · exact (ev76 n _ _).trans h
      · cases h)
/-! ### 162: slices.Equal[[]byte,byte] -/
def sg162 : Sig := ⟨[(false, [.slice 5]), (false, [.slice 5])], [.leaf .bool false]⟩
def G162_162_4 {R : Type} (n : Nat) (v : List T) (self : List T → Option R) (ex : List (List T → Option R)) : Option R :=
  bif (decide ((v.getD 3 (.i 0)).I < (v.getD 2 (.i 0)).I)) then (if 0 ≤ (v.getD 3 (.i 0)).I ∧ (v.getD 3 (.i 0)).I < (((v.getD 0 (.i 0)).L).length : Int) then (if 0 ≤ (v.getD 3 (.i 0)).I ∧ (v.getD 3 (.i 0)).I < (((v.getD 1 (.i 0)).L).length : Int) then (bif ((at_ ((v.getD 0 (.i 0)).L) ((v.getD 3 (.i 0)).I)).I != (at_ ((v.getD 1 (.i 0)).L) ((v.getD 3 (.i 0)).I)).I) then (exn ex 0 [.b false]) else (self [.l ((v.getD 0 (.i 0)).L), .l ((v.getD 1 (.i 0)).L), .i ((v.getD 2 (.i 0)).I), .i (IntKind.wrap .i64 ((v.getD 3 (.i 0)).I + 1))])) else none) else none) else (exn ex 1 [])
def L162_162_4 (n : Nat) : LoopM := ⟨⟨[[.t (.slice 5) (.i 0), .t (.slice 5) (.i 0), .un, .un, .un, .un, .un, .un, .un, .un, .un, .un, .t (.int .i64) (.i 0), .t (.int .i64) (.i 0), .un, .un, .un, .un, .un, .un, .un, .un, .un, .un, .un, .un]], []⟩, [(.ret, ⟨[[.un, .un, .un, .un, .t .bool (.i 0), .un, .un, .un, .un, .un, .un, .un, .un, .un, .un, .un, .un, .un, .un, .un, .un, .un, .un, .un, .un, .un]], []⟩), (.exit 0, ⟨[[.un, .un, .un, .un, .un, .un, .un, .un, .un, .un, .un, .un, .un, .un, .un, .un, .un, .un, .un, .un, .un, .un, .un, .un, .un, .un]], []⟩)], fun v self ex => G162_162_4 n v self ex⟩
def F162 (n : Nat) (x0 x1 : T) : Option (List T) :=
  bif ((x0.L.length : Int) != (x1.L.length : Int)) then (some [.b false]) else (loopR (L162_162_4 n).G n [.l x0.L, .l x1.L, .i (x0.L.length : Int), .i 0] [fun u1 => some [.b ((u1.getD 0 (.i 0)).B)], fun u2 => some [.b true]])
def M162 (n : Nat) (τs : List T) : Option (List T) := match τs with
  | [x0, x1] => F162 n x0 x1
  | _ => none
noncomputable def code162 : List (Nat × Func) := [(162, Go.Proofs.Try.f162)]
def env162 : List (Nat × (Sig × Mean)) := []
def ann162 (f i : Nat) : Ann := match f, i with
  | 162, 4 => ⟨[(0, .any), (1, .any), (12, .any), (13, .any)], [], [(4, .any)]⟩
  | _, _ => ⟨[], [], []⟩
def lm162_162 (n : Nat) (i : Nat) : List LoopM := match i with
  | 4 => [L162_162_4 n]
  | _ => []
def lsl162 (n : Nat) : List ((Nat × Nat) × (Nat → List LoopM)) := [((3, 162), lm162_162 n)]
noncomputable def cf162 (n : Nat) : Cfg := ⟨tiOf tab, lookup code162, lookup env162, ann162, n⟩
theorem ev162 (n : Nat) (x0 x1 : T) : evF (cf162 n) (drawK (cf162 n)) (lms2 (lsl162 n)) 3 162 sg162 [x0, x1] = F162 n x0 x1 := by kernel_rfl
theorem lp162_162_4 (n : Nat) (K : Ex → St → Option (List T)) (self : List T → Option (List T)) (v : List T) : evC (cf162 n) (callK (cf162 n) (drawK (cf162 n)) (lms2 (lsl162 n)) 3) (drawK (cf162 n) (callK (cf162 n) (drawK (cf162 n)) (lms2 (lsl162 n)) 3)) (ann162 162) (lm162_162 n) (bodyOf Go.Proofs.Try.f162 4) ((L162_162_4 n).sk.fill v) (roundK (ann162 162 4) K (selfK (L162_162_4 n) self)) = (L162_162_4 n).G v self (exitK (L162_162_4 n) K) := by kernel_rfl
theorem eo162 (n : Nat) : EnvOk Go.Proofs.Try.prog (tiOf tab) n 162 sg162 ⟨M162⟩ :=
  have hc : CodeOk Go.Proofs.Try.prog (cf162 n) := (code_cons Go.Proofs.Try.func162 (by kernel_rfl) code_nil)
  have he : EnvsOk Go.Proofs.Try.prog (cf162 n) := env_nil
  have hl : LmsOk (R := List T) (cf162 n) (drawK (cf162 n)) (lms2 (lsl162 n)) (lsl162 n) := (lms_cons (loops_of (cf := cf162 n) (fn0 := Go.Proofs.Try.f162) rfl (l := [bodyOf Go.Proofs.Try.f162 4]) (by kernel_rfl) (loops_cons (b := bodyOf Go.Proofs.Try.f162 4) (by kernel_rfl) (rfl : lm162_162 n 4 = [L162_162_4 n]) (List.forall_mem_cons.2 ⟨fun K self v => lp162_162_4 n K self v, fun _ h => by cases h⟩) loops_nil)) lms_nil)
  envOk_of (cf := cf162 n) tabOk hc he (draw := drawK (cf162 n)) (fun _ => drawK_ok tabOk mixed hc he) (d := 3) (lms := lms2 (lsl162 n)) hl
    (fun τs rs h => by
      simp only [M162] at h
      split at h
      · exact (ev162 n _ _).trans h
      · cases h)
/-! ### 96: impl.sameData -/
def sg96 : Sig := ⟨[(true, [.int .i64, .int .i64, .int .i64, .bool, .bool, .bool, .slice 5]), (true, [.int .i64, .int .i64, .int .i64, .bool, .bool, .bool, .slice 5])], [.leaf .bool false]⟩
def F96 (n : Nat) (x0 x1 x2 x3 x4 x5 x6 x7 x8 x9 x10 x11 x12 x13 : T) : Option (List T) :=
  bif (x0.I == x7.I) then (bif (x1.I == x8.I) then (bif (x2.I == x9.I) then (bif (x3.B == x10.B) then (bif (x4.B == x11.B) then (bif (x5.B == x12.B) then ((F162 n x6 x13).bind fun r1 => some [(r1.headD (.i 0))]) else (some [.b false])) else (some [.b false])) else (some [.b false])) else (some [.b false])) else (some [.b false])) else (some [.b false])
def M96 (n : Nat) (τs : List T) : Option (List T) := match τs with
  | [x0, x1, x2, x3, x4, x5, x6, x7, x8, x9, x10, x11, x12, x13] => F96 n x0 x1 x2 x3 x4 x5 x6 x7 x8 x9 x10 x11 x12 x13
  | _ => none
noncomputable def code96 : List (Nat × Func) := [(96, Go.Proofs.Try.f96)]
def env96 : List (Nat × (Sig × Mean)) := [(162, sg162, ⟨M162⟩)]
def ann96 (f i : Nat) : Ann := match f, i with
  | _, _ => ⟨[], [], []⟩
def lsl96 (n : Nat) : List ((Nat × Nat) × (Nat → List LoopM)) := []
noncomputable def cf96 (n : Nat) : Cfg := ⟨tiOf tab, lookup code96, lookup env96, ann96, n⟩
theorem ev96 (n : Nat) (x0 x1 x2 x3 x4 x5 x6 x7 x8 x9 x10 x11 x12 x13 : T) : evF (cf96 n) (drawK (cf96 n)) (lms2 (lsl96 n)) 3 96 sg96 [x0, x1, x2, x3, x4, x5, x6, x7, x8, x9, x10, x11, x12, x13] = F96 n x0 x1 x2 x3 x4 x5 x6 x7 x8 x9 x10 x11 x12 x13 := by kernel_rfl
theorem eo96 (n : Nat) : EnvOk Go.Proofs.Try.prog (tiOf tab) n 96 sg96 ⟨M96⟩ :=
  have hc : CodeOk Go.Proofs.Try.prog (cf96 n) := (code_cons Go.Proofs.Try.func96 (by kernel_rfl) code_nil)
  have he : EnvsOk Go.Proofs.Try.prog (cf96 n) := (env_cons (eo162 n) env_nil)
  have hl : LmsOk (R := List T) (cf96 n) (drawK (cf96 n)) (lms2 (lsl96 n)) (lsl96 n) := lms_nil
  envOk_of (cf := cf96 n) tabOk hc he (draw := drawK (cf96 n)) (fun _ => drawK_ok tabOk mixed hc he) (d := 3) (lms := lms2 (lsl96 n)) hl
    (fun τs rs h => by
      simp only [M96] at h
      split at h
      · exact (ev96 n _ _ _ _ _ _ _ _ _ _ _ _ _ _).trans h
      · cases h)
/-! ### 95: impl.SameSends$1 -/
def sg95 : Sig := ⟨[(true, [.int .i64, .int .i64, .int .i64, .bool, .bool, .bool, .slice 5, .int .i64, .int .i64]), (true, [.int .i64, .int .i64, .int .i64, .bool, .bool, .bool, .slice 5, .int .i64, .int .i64])], [.leaf .bool false]⟩
def F95 (n : Nat) (x0 x1 x2 x3 x4 x5 x6 x7 x8 x9 x10 x11 x12 x13 x14 x15 x16 x17 : T) : Option (List T) :=
  bif (x7.I == x16.I) then (bif (x8.I == x17.I) then ((F96 n x0 x1 x2 x3 x4 x5 x6 x9 x10 x11 x12 x13 x14 x15).bind fun r1 => some [(r1.headD (.i 0))]) else (some [.b false])) else (some [.b false])
def M95 (n : Nat) (τs : List T) : Option (List T) := match τs with
  | [x0, x1, x2, x3, x4, x5, x6, x7, x8, x9, x10, x11, x12, x13, x14, x15, x16, x17] => F95 n x0 x1 x2 x3 x4 x5 x6 x7 x8 x9 x10 x11 x12 x13 x14 x15 x16 x17
  | _ => none
noncomputable def code95 : List (Nat × Func) := [(95, Go.Proofs.Try.f95)]
def env95 : List (Nat × (Sig × Mean)) := [(96, sg96, ⟨M96⟩)]
def ann95 (f i : Nat) : Ann := match f, i with
  | _, _ => ⟨[], [], []⟩
def lsl95 (n : Nat) : List ((Nat × Nat) × (Nat → List LoopM)) := []
noncomputable def cf95 (n : Nat) : Cfg := ⟨tiOf tab, lookup code95, lookup env95, ann95, n⟩
theorem ev95 (n : Nat) (x0 x1 x2 x3 x4 x5 x6 x7 x8 x9 x10 x11 x12 x13 x14 x15 x16 x17 : T) : evF (cf95 n) (drawK (cf95 n)) (lms2 (lsl95 n)) 3 95 sg95 [x0, x1, x2, x3, x4, x5, x6, x7, x8, x9, x10, x11, x12, x13, x14, x15, x16, x17] = F95 n x0 x1 x2 x3 x4 x5 x6 x7 x8 x9 x10 x11 x12 x13 x14 x15 x16 x17 := by kernel_rfl
theorem eo95 (n : Nat) : EnvOk Go.Proofs.Try.prog (tiOf tab) n 95 sg95 ⟨M95⟩ :=
  have hc : CodeOk Go.Proofs.Try.prog (cf95 n) := (code_cons Go.Proofs.Try.func95 (by kernel_rfl) code_nil)
  have he : EnvsOk Go.Proofs.Try.prog (cf95 n) := (env_cons (eo96 n) env_nil)
  have hl : LmsOk (R := List T) (cf95 n) (drawK (cf95 n)) (lms2 (lsl95 n)) (lsl95 n) := lms_nil
  envOk_of (cf := cf95 n) tabOk hc he (draw := drawK (cf95 n)) (fun _ => drawK_ok tabOk mixed hc he) (d := 3) (lms := lms2 (lsl95 n)) hl
    (fun τs rs h => by
      simp only [M95] at h
      split at h
      · exact (ev95 n _ _ _ _ _ _ _ _ _ _ _ _ _ _ _ _ _ _).trans h
      · cases h)
/-! ### 36: impl.SameSends -/
def sg36 : Sig := ⟨[(true, [.int .i64, .int .i64, .slice 2, .slice 144]), (true, [.int .i64, .int .i64, .slice 2, .slice 144])], [.leaf .bool false]⟩
def G36_94_4 {R : Type} (n : Nat) (v : List T) (self : List T → Option R) (ex : List (List T → Option R)) : Option R :=
  bif (decide ((v.getD 3 (.i 0)).I < (v.getD 2 (.i 0)).I)) then (if 0 ≤ (v.getD 3 (.i 0)).I ∧ (v.getD 3 (.i 0)).I < (((v.getD 1 (.i 0)).L).length : Int) then (if 0 ≤ (v.getD 3 (.i 0)).I ∧ (v.getD 3 (.i 0)).I < (((v.getD 0 (.i 0)).L).length : Int) then ((F95 n ((at_ ((v.getD 1 (.i 0)).L) ((v.getD 3 (.i 0)).I)).F 0) ((at_ ((v.getD 1 (.i 0)).L) ((v.getD 3 (.i 0)).I)).F 1) ((at_ ((v.getD 1 (.i 0)).L) ((v.getD 3 (.i 0)).I)).F 2) ((at_ ((v.getD 1 (.i 0)).L) ((v.getD 3 (.i 0)).I)).F 3) ((at_ ((v.getD 1 (.i 0)).L) ((v.getD 3 (.i 0)).I)).F 4) ((at_ ((v.getD 1 (.i 0)).L) ((v.getD 3 (.i 0)).I)).F 5) ((at_ ((v.getD 1 (.i 0)).L) ((v.getD 3 (.i 0)).I)).F 6) ((at_ ((v.getD 1 (.i 0)).L) ((v.getD 3 (.i 0)).I)).F 7) ((at_ ((v.getD 1 (.i 0)).L) ((v.getD 3 (.i 0)).I)).F 8) ((at_ ((v.getD 0 (.i 0)).L) ((v.getD 3 (.i 0)).I)).F 0) ((at_ ((v.getD 0 (.i 0)).L) ((v.getD 3 (.i 0)).I)).F 1) ((at_ ((v.getD 0 (.i 0)).L) ((v.getD 3 (.i 0)).I)).F 2) ((at_ ((v.getD 0 (.i 0)).L) ((v.getD 3 (.i 0)).I)).F 3) ((at_ ((v.getD 0 (.i 0)).L) ((v.getD 3 (.i 0)).I)).F 4) ((at_ ((v.getD 0 (.i 0)).L) ((v.getD 3 (.i 0)).I)).F 5) ((at_ ((v.getD 0 (.i 0)).L) ((v.getD 3 (.i 0)).I)).F 6) ((at_ ((v.getD 0 (.i 0)).L) ((v.getD 3 (.i 0)).I)).F 7) ((at_ ((v.getD 0 (.i 0)).L) ((v.getD 3 (.i 0)).I)).F 8)).bind fun r2 => bif (!(r2.headD (.i 0)).B) then (exn ex 0 [.b false, .i ((v.getD 4 (.i 0)).I), .i ((v.getD 5 (.i 0)).I), .l ((v.getD 6 (.i 0)).L), .l ((v.getD 7 (.i 0)).L), .i ((v.getD 8 (.i 0)).I), .i ((v.getD 9 (.i 0)).I), .l ((v.getD 10 (.i 0)).L), .l ((v.getD 11 (.i 0)).L), .b ((v.getD 12 (.i 0)).B), .i ((v.getD 13 (.i 0)).I), .i ((v.getD 14 (.i 0)).I), .b ((v.getD 15 (.i 0)).B), .b ((v.getD 16 (.i 0)).B), .i ((v.getD 17 (.i 0)).I), .i ((v.getD 18 (.i 0)).I), .b ((v.getD 19 (.i 0)).B), .b ((v.getD 20 (.i 0)).B), .b ((v.getD 21 (.i 0)).B), .l ((v.getD 22 (.i 0)).L), .l ((v.getD 23 (.i 0)).L), .b ((v.getD 24 (.i 0)).B), .b ((v.getD 25 (.i 0)).B), .b ((v.getD 26 (.i 0)).B), .l ((v.getD 27 (.i 0)).L), .l ((v.getD 28 (.i 0)).L), .i ((v.getD 29 (.i 0)).I), .i ((v.getD 30 (.i 0)).I), .l ((v.getD 31 (.i 0)).L), .l ((v.getD 32 (.i 0)).L), .i ((v.getD 33 (.i 0)).I), .i ((v.getD 34 (.i 0)).I), .l ((v.getD 35 (.i 0)).L), .l ((v.getD 36 (.i 0)).L)]) else (self [.l ((v.getD 0 (.i 0)).L), .l ((v.getD 1 (.i 0)).L), .i ((v.getD 2 (.i 0)).I), .i (IntKind.wrap .i64 ((v.getD 3 (.i 0)).I + 1)), .i ((v.getD 4 (.i 0)).I), .i ((v.getD 5 (.i 0)).I), .l ((v.getD 6 (.i 0)).L), .l ((v.getD 7 (.i 0)).L), .i ((v.getD 8 (.i 0)).I), .i ((v.getD 9 (.i 0)).I), .l ((v.getD 10 (.i 0)).L), .l ((v.getD 11 (.i 0)).L), .b ((v.getD 12 (.i 0)).B), .i ((v.getD 13 (.i 0)).I), .i ((v.getD 14 (.i 0)).I), .b ((v.getD 15 (.i 0)).B), .b ((v.getD 16 (.i 0)).B), .i ((v.getD 17 (.i 0)).I), .i ((v.getD 18 (.i 0)).I), .b ((v.getD 19 (.i 0)).B), .b ((v.getD 20 (.i 0)).B), .b ((v.getD 21 (.i 0)).B), .l ((v.getD 22 (.i 0)).L), .l ((v.getD 23 (.i 0)).L), .b ((v.getD 24 (.i 0)).B), .b ((v.getD 25 (.i 0)).B), .b ((v.getD 26 (.i 0)).B), .l ((v.getD 27 (.i 0)).L), .l ((v.getD 28 (.i 0)).L), .i ((v.getD 29 (.i 0)).I), .i ((v.getD 30 (.i 0)).I), .l ((v.getD 31 (.i 0)).L), .l ((v.getD 32 (.i 0)).L), .i ((v.getD 33 (.i 0)).I), .i ((v.getD 34 (.i 0)).I), .l ((v.getD 35 (.i 0)).L), .l ((v.getD 36 (.i 0)).L)])) else none) else none) else (exn ex 1 [.i ((v.getD 4 (.i 0)).I), .i ((v.getD 5 (.i 0)).I), .l ((v.getD 6 (.i 0)).L), .l ((v.getD 7 (.i 0)).L), .i ((v.getD 8 (.i 0)).I), .i ((v.getD 9 (.i 0)).I), .l ((v.getD 10 (.i 0)).L), .l ((v.getD 11 (.i 0)).L), .b ((v.getD 12 (.i 0)).B), .i ((v.getD 13 (.i 0)).I), .i ((v.getD 14 (.i 0)).I), .b ((v.getD 15 (.i 0)).B), .b ((v.getD 16 (.i 0)).B), .i ((v.getD 17 (.i 0)).I), .i ((v.getD 18 (.i 0)).I), .b ((v.getD 19 (.i 0)).B), .b ((v.getD 20 (.i 0)).B), .b ((v.getD 21 (.i 0)).B), .l ((v.getD 22 (.i 0)).L), .l ((v.getD 23 (.i 0)).L), .b ((v.getD 24 (.i 0)).B), .b ((v.getD 25 (.i 0)).B), .b ((v.getD 26 (.i 0)).B), .l ((v.getD 27 (.i 0)).L), .l ((v.getD 28 (.i 0)).L), .i ((v.getD 29 (.i 0)).I), .i ((v.getD 30 (.i 0)).I), .l ((v.getD 31 (.i 0)).L), .l ((v.getD 32 (.i 0)).L), .i ((v.getD 33 (.i 0)).I), .i ((v.getD 34 (.i 0)).I), .l ((v.getD 35 (.i 0)).L), .l ((v.getD 36 (.i 0)).L)])
def L36_94_4 (n : Nat) : LoopM := ⟨⟨[[.un, .t (.slice 144) (.i 0), .fn 95 [], .un, .un, .un, .un, .un, .un, .un, .un, .un, .un, .un, .un, .t (.slice 144) (.i 0), .t (.int .i64) (.i 0), .t (.int .i64) (.i 0), .un, .un, .un, .un, .un, .un, .un, .un, .un, .un, .un, .un, .un, .un], [.agg [.t (.int .i64) (.i 0), .t (.int .i64) (.i 0), .t (.slice 2) (.i 0), .t (.slice 144) (.i 0)], .agg [.t (.int .i64) (.i 0), .t (.int .i64) (.i 0), .t (.slice 2) (.i 0), .t (.slice 144) (.i 0)], .pb 0 0, .pb 1 0, .t .bool (.i 0), .pb 0 0, .t (.int .i64) (.i 0), .pb 1 0, .t (.int .i64) (.i 0), .t .bool (.i 0), .t .bool (.i 0), .pb 0 1, .t (.int .i64) (.i 0), .pb 1 1, .t (.int .i64) (.i 0), .t .bool (.i 0), .t .bool (.i 0), .t .bool (.i 0), .pb 0 2, .t (.slice 2) (.i 0), .pb 1 2, .t (.slice 2) (.i 0), .t .bool (.i 0), .t .bool (.i 0), .t .bool (.i 0), .pb 0 3, .t (.slice 144) (.i 0), .pb 1 3, .t (.slice 144) (.i 0), .tup [], .tup []]], [.box [.t (.int .i64) (.i 0), .t (.int .i64) (.i 0), .t (.slice 2) (.i 0), .t (.slice 144) (.i 0)], .box [.t (.int .i64) (.i 0), .t (.int .i64) (.i 0), .t (.slice 2) (.i 0), .t (.slice 144) (.i 0)]]⟩, [(.ret, ⟨[[.un, .un, .un, .un, .un, .un, .t .bool (.i 0), .un, .un, .un, .un, .un, .un, .un, .un, .un, .un, .un, .un, .un, .un, .un, .un, .un, .un, .un, .un, .un, .un, .un, .un, .un], [.agg [.t (.int .i64) (.i 0), .t (.int .i64) (.i 0), .t (.slice 2) (.i 0), .t (.slice 144) (.i 0)], .agg [.t (.int .i64) (.i 0), .t (.int .i64) (.i 0), .t (.slice 2) (.i 0), .t (.slice 144) (.i 0)], .pb 0 0, .pb 1 0, .t .bool (.i 0), .pb 0 0, .t (.int .i64) (.i 0), .pb 1 0, .t (.int .i64) (.i 0), .t .bool (.i 0), .t .bool (.i 0), .pb 0 1, .t (.int .i64) (.i 0), .pb 1 1, .t (.int .i64) (.i 0), .t .bool (.i 0), .t .bool (.i 0), .t .bool (.i 0), .pb 0 2, .t (.slice 2) (.i 0), .pb 1 2, .t (.slice 2) (.i 0), .t .bool (.i 0), .t .bool (.i 0), .t .bool (.i 0), .pb 0 3, .t (.slice 144) (.i 0), .pb 1 3, .t (.slice 144) (.i 0), .tup [], .tup []]], [.box [.t (.int .i64) (.i 0), .t (.int .i64) (.i 0), .t (.slice 2) (.i 0), .t (.slice 144) (.i 0)], .box [.t (.int .i64) (.i 0), .t (.int .i64) (.i 0), .t (.slice 2) (.i 0), .t (.slice 144) (.i 0)]]⟩), (.exit 0, ⟨[[.un, .un, .un, .un, .un, .un, .un, .un, .un, .un, .un, .un, .un, .un, .un, .un, .un, .un, .un, .un, .un, .un, .un, .un, .un, .un, .un, .un, .un, .un, .un, .un], [.agg [.t (.int .i64) (.i 0), .t (.int .i64) (.i 0), .t (.slice 2) (.i 0), .t (.slice 144) (.i 0)], .agg [.t (.int .i64) (.i 0), .t (.int .i64) (.i 0), .t (.slice 2) (.i 0), .t (.slice 144) (.i 0)], .pb 0 0, .pb 1 0, .t .bool (.i 0), .pb 0 0, .t (.int .i64) (.i 0), .pb 1 0, .t (.int .i64) (.i 0), .t .bool (.i 0), .t .bool (.i 0), .pb 0 1, .t (.int .i64) (.i 0), .pb 1 1, .t (.int .i64) (.i 0), .t .bool (.i 0), .t .bool (.i 0), .t .bool (.i 0), .pb 0 2, .t (.slice 2) (.i 0), .pb 1 2, .t (.slice 2) (.i 0), .t .bool (.i 0), .t .bool (.i 0), .t .bool (.i 0), .pb 0 3, .t (.slice 144) (.i 0), .pb 1 3, .t (.slice 144) (.i 0), .tup [], .tup []]], [.box [.t (.int .i64) (.i 0), .t (.int .i64) (.i 0), .t (.slice 2) (.i 0), .t (.slice 144) (.i 0)], .box [.t (.int .i64) (.i 0), .t (.int .i64) (.i 0), .t (.slice 2) (.i 0), .t (.slice 144) (.i 0)]]⟩)], fun v self ex => G36_94_4 n v self ex⟩
def F36 (n : Nat) (x0 x1 x2 x3 x4 x5 x6 x7 : T) : Option (List T) :=
  bif (x0.I == x4.I) then (bif (x1.I == x5.I) then ((F76 n x2 x6).bind fun r1 => bif (r1.headD (.i 0)).B then (bif ((x3.L.length : Int) != (x7.L.length : Int)) then (some [.b false]) else (loopR (L36_94_4 n).G n [.l x7.L, .l x3.L, .i (x3.L.length : Int), .i 0, .i x0.I, .i x1.I, .l x2.L, .l x3.L, .i x4.I, .i x5.I, .l x6.L, .l x7.L, .b false, .i x0.I, .i x4.I, .b (x0.I == x4.I), .b true, .i x1.I, .i x5.I, .b (x1.I == x5.I), .b (x1.I == x5.I), .b true, .l x2.L, .l x6.L, .b ((r1.headD (.i 0)).B), .b ((r1.headD (.i 0)).B), .b true, .l x3.L, .l x7.L, .i x0.I, .i x1.I, .l x2.L, .l x3.L, .i x4.I, .i x5.I, .l x6.L, .l x7.L] [fun u3 => bif (u3.getD 23 (.i 0)).B then (some [.b ((u3.getD 0 (.i 0)).B)]) else (some [.b false]), fun u4 => bif (u4.getD 22 (.i 0)).B then (some [.b true]) else (some [.b false])])) else (some [.b false])) else (some [.b false])) else (some [.b false])
def M36 (n : Nat) (τs : List T) : Option (List T) := match τs with
  | [x0, x1, x2, x3, x4, x5, x6, x7] => F36 n x0 x1 x2 x3 x4 x5 x6 x7
  | _ => none
noncomputable def code36 : List (Nat × Func) := [(36, Go.Proofs.Try.f36), (94, Go.Proofs.Try.f94)]
def env36 : List (Nat × (Sig × Mean)) := [(76, sg76, ⟨M76⟩), (95, sg95, ⟨M95⟩)]
def ann36 (f i : Nat) : Ann := match f, i with
  | 94, 4 => ⟨[(1, .any), (2, .any), (15, .any), (16, .any), (17, .any)], [], [(6, .any)]⟩
  | _, _ => ⟨[], [], []⟩
def lm36_94 (n : Nat) (i : Nat) : List LoopM := match i with
  | 4 => [L36_94_4 n]
  | _ => []
def lsl36 (n : Nat) : List ((Nat × Nat) × (Nat → List LoopM)) := [((2, 94), lm36_94 n)]
noncomputable def cf36 (n : Nat) : Cfg := ⟨tiOf tab, lookup code36, lookup env36, ann36, n⟩
theorem ev36 (n : Nat) (x0 x1 x2 x3 x4 x5 x6 x7 : T) : evF (cf36 n) (drawK (cf36 n)) (lms2 (lsl36 n)) 3 36 sg36 [x0, x1, x2, x3, x4, x5, x6, x7] = F36 n x0 x1 x2 x3 x4 x5 x6 x7 := by kernel_rfl
theorem lp36_94_4 (n : Nat) (K : Ex → St → Option (List T)) (self : List T → Option (List T)) (v : List T) : evC (cf36 n) (callK (cf36 n) (drawK (cf36 n)) (lms2 (lsl36 n)) 2) (drawK (cf36 n) (callK (cf36 n) (drawK (cf36 n)) (lms2 (lsl36 n)) 2)) (ann36 94) (lm36_94 n) (bodyOf Go.Proofs.Try.f94 4) ((L36_94_4 n).sk.fill v) (roundK (ann36 94 4) K (selfK (L36_94_4 n) self)) = (L36_94_4 n).G v self (exitK (L36_94_4 n) K) := by kernel_rfl
theorem eo36 (n : Nat) : EnvOk Go.Proofs.Try.prog (tiOf tab) n 36 sg36 ⟨M36⟩ :=
  have hc : CodeOk Go.Proofs.Try.prog (cf36 n) := (code_cons Go.Proofs.Try.func36 (by kernel_rfl) (code_cons Go.Proofs.Try.func94 (by kernel_rfl) code_nil))
  have he : EnvsOk Go.Proofs.Try.prog (cf36 n) := (env_cons (eo76 n) (env_cons (eo95 n) env_nil))
  have hl : LmsOk (R := List T) (cf36 n) (drawK (cf36 n)) (lms2 (lsl36 n)) (lsl36 n) := (lms_cons (loops_of (cf := cf36 n) (fn0 := Go.Proofs.Try.f94) rfl (l := [bodyOf Go.Proofs.Try.f94 4]) (by kernel_rfl) (loops_cons (b := bodyOf Go.Proofs.Try.f94 4) (by kernel_rfl) (rfl : lm36_94 n 4 = [L36_94_4 n]) (List.forall_mem_cons.2 ⟨fun K self v => lp36_94_4 n K self v, fun _ h => by cases h⟩) loops_nil)) lms_nil)
  envOk_of (cf := cf36 n) tabOk hc he (draw := drawK (cf36 n)) (fun _ => drawK_ok tabOk mixed hc he) (d := 3) (lms := lms2 (lsl36 n)) hl
    (fun τs rs h => by
      simp only [M36] at h
      split at h
      · exact (ev36 n _ _ _ _ _ _ _ _).trans h
      · cases h)
/-! ### 20: laws.eqInt64S -/
def sg20 : Sig := ⟨[(false, [.slice 2]), (false, [.slice 2])], [.leaf .bool false]⟩
def G20_20_4 {R : Type} (n : Nat) (v : List T) (self : List T → Option R) (ex : List (List T → Option R)) : Option R :=
  bif (decide ((v.getD 2 (.i 0)).I < ((((v.getD 0 (.i 0)).L).length : Nat) : Int))) then (if 0 ≤ (v.getD 2 (.i 0)).I ∧ (v.getD 2 (.i 0)).I < (((v.getD 0 (.i 0)).L).length : Int) then (if 0 ≤ (v.getD 2 (.i 0)).I ∧ (v.getD 2 (.i 0)).I < (((v.getD 1 (.i 0)).L).length : Int) then (bif ((at_ ((v.getD 0 (.i 0)).L) ((v.getD 2 (.i 0)).I)).I != (at_ ((v.getD 1 (.i 0)).L) ((v.getD 2 (.i 0)).I)).I) then (exn ex 0 [.b false]) else (self [.l ((v.getD 0 (.i 0)).L), .l ((v.getD 1 (.i 0)).L), .i (IntKind.wrap .i64 ((v.getD 2 (.i 0)).I + 1))])) else none) else none) else (exn ex 1 [])
def L20_20_4 (n : Nat) : LoopM := ⟨⟨[[.t (.slice 2) (.i 0), .t (.slice 2) (.i 0), .un, .un, .un, .t (.int .i64) (.i 0), .un, .un, .un, .un, .un, .un, .un, .un, .un, .un, .un, .un, .un, .un, .un, .un, .un, .un, .un, .un]], []⟩, [(.ret, ⟨[[.un, .un, .un, .un, .t .bool (.i 0), .un, .un, .un, .un, .un, .un, .un, .un, .un, .un, .un, .un, .un, .un, .un, .un, .un, .un, .un, .un, .un]], []⟩), (.exit 0, ⟨[[.un, .un, .un, .un, .un, .un, .un, .un, .un, .un, .un, .un, .un, .un, .un, .un, .un, .un, .un, .un, .un, .un, .un, .un, .un, .un]], []⟩)], fun v self ex => G20_20_4 n v self ex⟩
def F20 (n : Nat) (x0 x1 : T) : Option (List T) :=
  bif ((x0.L.length : Int) != (x1.L.length : Int)) then (some [.b false]) else (loopR (L20_20_4 n).G n [.l x0.L, .l x1.L, .i 0] [fun u1 => some [.b ((u1.getD 0 (.i 0)).B)], fun u2 => some [.b true]])
def M20 (n : Nat) (τs : List T) : Option (List T) := match τs with
  | [x0, x1] => F20 n x0 x1
  | _ => none
noncomputable def code20 : List (Nat × Func) := [(20, Go.Proofs.Try.f20)]
def env20 : List (Nat × (Sig × Mean)) := []
def ann20 (f i : Nat) : Ann := match f, i with
  | 20, 4 => ⟨[(0, .any), (1, .any), (5, .any)], [], [(4, .any)]⟩
  | _, _ => ⟨[], [], []⟩
def lm20_20 (n : Nat) (i : Nat) : List LoopM := match i with
  | 4 => [L20_20_4 n]
  | _ => []
def lsl20 (n : Nat) : List ((Nat × Nat) × (Nat → List LoopM)) := [((3, 20), lm20_20 n)]
noncomputable def cf20 (n : Nat) : Cfg := ⟨tiOf tab, lookup code20, lookup env20, ann20, n⟩
theorem ev20 (n : Nat) (x0 x1 : T) : evF (cf20 n) (drawK (cf20 n)) (lms2 (lsl20 n)) 3 20 sg20 [x0, x1] = F20 n x0 x1 := by kernel_rfl
theorem lp20_20_4 (n : Nat) (K : Ex → St → Option (List T)) (self : List T → Option (List T)) (v : List T) : evC (cf20 n) (callK (cf20 n) (drawK (cf20 n)) (lms2 (lsl20 n)) 3) (drawK (cf20 n) (callK (cf20 n) (drawK (cf20 n)) (lms2 (lsl20 n)) 3)) (ann20 20) (lm20_20 n) (bodyOf Go.Proofs.Try.f20 4) ((L20_20_4 n).sk.fill v) (roundK (ann20 20 4) K (selfK (L20_20_4 n) self)) = (L20_20_4 n).G v self (exitK (L20_20_4 n) K) := by kernel_rfl
theorem eo20 (n : Nat) : EnvOk Go.Proofs.Try.prog (tiOf tab) n 20 sg20 ⟨M20⟩ :=
  have hc : CodeOk Go.Proofs.Try.prog (cf20 n) := (code_cons Go.Proofs.Try.func20 (by kernel_rfl) code_nil)
  have he : EnvsOk Go.Proofs.Try.prog (cf20 n) := env_nil
  have hl : LmsOk (R := List T) (cf20 n) (drawK (cf20 n)) (lms2 (lsl20 n)) (lsl20 n) := (lms_cons (loops_of (cf := cf20 n) (fn0 := Go.Proofs.Try.f20) rfl (l := [bodyOf Go.Proofs.Try.f20 4]) (by kernel_rfl) (loops_cons (b := bodyOf Go.Proofs.Try.f20 4) (by kernel_rfl) (rfl : lm20_20 n 4 = [L20_20_4 n]) (List.forall_mem_cons.2 ⟨fun K self v => lp20_20_4 n K self v, fun _ h => by cases h⟩) loops_nil)) lms_nil)
  envOk_of (cf := cf20 n) tabOk hc he (draw := drawK (cf20 n)) (fun _ => drawK_ok tabOk mixed hc he) (d := 3) (lms := lms2 (lsl20 n)) hl
    (fun τs rs h => by
      simp only [M20] at h
      split at h
      · exact (ev20 n _ _).trans h
      · cases h)
/-! ### 131: laws.eqByteS -/
def sg131 : Sig := ⟨[(false, [.slice 5]), (false, [.slice 5])], [.leaf .bool false]⟩
def G131_131_4 {R : Type} (n : Nat) (v : List T) (self : List T → Option R) (ex : List (List T → Option R)) : Option R :=
  bif (decide ((v.getD 2 (.i 0)).I < ((((v.getD 0 (.i 0)).L).length : Nat) : Int))) then (if 0 ≤ (v.getD 2 (.i 0)).I ∧ (v.getD 2 (.i 0)).I < (((v.getD 0 (.i 0)).L).length : Int) then (if 0 ≤ (v.getD 2 (.i 0)).I ∧ (v.getD 2 (.i 0)).I < (((v.getD 1 (.i 0)).L).length : Int) then (bif ((at_ ((v.getD 0 (.i 0)).L) ((v.getD 2 (.i 0)).I)).I != (at_ ((v.getD 1 (.i 0)).L) ((v.getD 2 (.i 0)).I)).I) then (exn ex 0 [.b false]) else (self [.l ((v.getD 0 (.i 0)).L), .l ((v.getD 1 (.i 0)).L), .i (IntKind.wrap .i64 ((v.getD 2 (.i 0)).I + 1))])) else none) else none) else (exn ex 1 [])
def L131_131_4 (n : Nat) : LoopM := ⟨⟨[[.t (.slice 5) (.i 0), .t (.slice 5) (.i 0), .un, .un, .un, .t (.int .i64) (.i 0), .un, .un, .un, .un, .un, .un, .un, .un, .un, .un, .un, .un, .un, .un, .un, .un, .un, .un, .un, .un]], []⟩, [(.ret, ⟨[[.un, .un, .un, .un, .t .bool (.i 0), .un, .un, .un, .un, .un, .un, .un, .un, .un, .un, .un, .un, .un, .un, .un, .un, .un, .un, .un, .un, .un]], []⟩), (.exit 0, ⟨[[.un, .un, .un, .un, .un, .un, .un, .un, .un, .un, .un, .un, .un, .un, .un, .un, .un, .un, .un, .un, .un, .un, .un, .un, .un, .un]], []⟩)], fun v self ex => G131_131_4 n v self ex⟩
def F131 (n : Nat) (x0 x1 : T) : Option (List T) :=
  bif ((x0.L.length : Int) != (x1.L.length : Int)) then (some [.b false]) else (loopR (L131_131_4 n).G n [.l x0.L, .l x1.L, .i 0] [fun u1 => some [.b ((u1.getD 0 (.i 0)).B)], fun u2 => some [.b true]])
def M131 (n : Nat) (τs : List T) : Option (List T) := match τs with
  | [x0, x1] => F131 n x0 x1
  | _ => none
noncomputable def code131 : List (Nat × Func) := [(131, Go.Proofs.Try.f131)]
def env131 : List (Nat × (Sig × Mean)) := []
def ann131 (f i : Nat) : Ann := match f, i with
  | 131, 4 => ⟨[(0, .any), (1, .any), (5, .any)], [], [(4, .any)]⟩
  | _, _ => ⟨[], [], []⟩
def lm131_131 (n : Nat) (i : Nat) : List LoopM := match i with
  | 4 => [L131_131_4 n]
  | _ => []
def lsl131 (n : Nat) : List ((Nat × Nat) × (Nat → List LoopM)) := [((3, 131), lm131_131 n)]
noncomputable def cf131 (n : Nat) : Cfg := ⟨tiOf tab, lookup code131, lookup env131, ann131, n⟩
theorem ev131 (n : Nat) (x0 x1 : T) : evF (cf131 n) (drawK (cf131 n)) (lms2 (lsl131 n)) 3 131 sg131 [x0, x1] = F131 n x0 x1 := by kernel_rfl
theorem lp131_131_4 (n : Nat) (K : Ex → St → Option (List T)) (self : List T → Option (List T)) (v : List T) : evC (cf131 n) (callK (cf131 n) (drawK (cf131 n)) (lms2 (lsl131 n)) 3) (drawK (cf131 n) (callK (cf131 n) (drawK (cf131 n)) (lms2 (lsl131 n)) 3)) (ann131 131) (lm131_131 n) (bodyOf Go.Proofs.Try.f131 4) ((L131_131_4 n).sk.fill v) (roundK (ann131 131 4) K (selfK (L131_131_4 n) self)) = (L131_131_4 n).G v self (exitK (L131_131_4 n) K) := by kernel_rfl
theorem eo131 (n : Nat) : EnvOk Go.Proofs.Try.prog (tiOf tab) n 131 sg131 ⟨M131⟩ :=
  have hc : CodeOk Go.Proofs.Try.prog (cf131 n) := (code_cons Go.Proofs.Try.func131 (by kernel_rfl) code_nil)
  have he : EnvsOk Go.Proofs.Try.prog (cf131 n) := env_nil
  have hl : LmsOk (R := List T) (cf131 n) (drawK (cf131 n)) (lms2 (lsl131 n)) (lsl131 n) := (lms_cons (loops_of (cf := cf131 n) (fn0 := Go.Proofs.Try.f131) rfl (l := [bodyOf Go.Proofs.Try.f131 4]) (by kernel_rfl) (loops_cons (b := bodyOf Go.Proofs.Try.f131 4) (by kernel_rfl) (rfl : lm131_131 n 4 = [L131_131_4 n]) (List.forall_mem_cons.2 ⟨fun K self v => lp131_131_4 n K self v, fun _ h => by cases h⟩) loops_nil)) lms_nil)
  envOk_of (cf := cf131 n) tabOk hc he (draw := drawK (cf131 n)) (fun _ => drawK_ok tabOk mixed hc he) (d := 3) (lms := lms2 (lsl131 n)) hl
    (fun τs rs h => by
      simp only [M131] at h
      split at h
      · exact (ev131 n _ _).trans h
      · cases h)
/-! ### 154: laws.eqData -/
def sg154 : Sig := ⟨[(true, [.int .i64, .int .i64, .int .i64, .bool, .bool, .bool, .slice 5]), (true, [.int .i64, .int .i64, .int .i64, .bool, .bool, .bool, .slice 5])], [.leaf .bool false]⟩
def F154 (n : Nat) (x0 x1 x2 x3 x4 x5 x6 x7 x8 x9 x10 x11 x12 x13 : T) : Option (List T) :=
  bif (x0.I != x7.I) then (some [.b false]) else (bif (x1.I != x8.I) then (some [.b false]) else (bif (x2.I != x9.I) then (some [.b false]) else (bif (!(x3.B == x10.B)) then (some [.b false]) else (bif (!(x4.B == x11.B)) then (some [.b false]) else (bif (!(x5.B == x12.B)) then (some [.b false]) else ((F131 n x6 x13).bind fun r1 => bif (!(r1.headD (.i 0)).B) then (some [.b false]) else (some [.b true])))))))
def M154 (n : Nat) (τs : List T) : Option (List T) := match τs with
  | [x0, x1, x2, x3, x4, x5, x6, x7, x8, x9, x10, x11, x12, x13] => F154 n x0 x1 x2 x3 x4 x5 x6 x7 x8 x9 x10 x11 x12 x13
  | _ => none
noncomputable def code154 : List (Nat × Func) := [(154, Go.Proofs.Try.f154)]
def env154 : List (Nat × (Sig × Mean)) := [(131, sg131, ⟨M131⟩)]
def ann154 (f i : Nat) : Ann := match f, i with
  | _, _ => ⟨[], [], []⟩
def lsl154 (n : Nat) : List ((Nat × Nat) × (Nat → List LoopM)) := []
noncomputable def cf154 (n : Nat) : Cfg := ⟨tiOf tab, lookup code154, lookup env154, ann154, n⟩
theorem ev154 (n : Nat) (x0 x1 x2 x3 x4 x5 x6 x7 x8 x9 x10 x11 x12 x13 : T) : evF (cf154 n) (drawK (cf154 n)) (lms2 (lsl154 n)) 3 154 sg154 [x0, x1, x2, x3, x4, x5, x6, x7, x8, x9, x10, x11, x12, x13] = F154 n x0 x1 x2 x3 x4 x5 x6 x7 x8 x9 x10 x11 x12 x13 := by kernel_rfl
theorem eo154 (n : Nat) : EnvOk Go.Proofs.Try.prog (tiOf tab) n 154 sg154 ⟨M154⟩ :=
  have hc : CodeOk Go.Proofs.Try.prog (cf154 n) := (code_cons Go.Proofs.Try.func154 (by kernel_rfl) code_nil)
  have he : EnvsOk Go.Proofs.Try.prog (cf154 n) := (env_cons (eo131 n) env_nil)
  have hl : LmsOk (R := List T) (cf154 n) (drawK (cf154 n)) (lms2 (lsl154 n)) (lsl154 n) := lms_nil
  envOk_of (cf := cf154 n) tabOk hc he (draw := drawK (cf154 n)) (fun _ => drawK_ok tabOk mixed hc he) (d := 3) (lms := lms2 (lsl154 n)) hl
    (fun τs rs h => by
      simp only [M154] at h
      split at h
      · exact (ev154 n _ _ _ _ _ _ _ _ _ _ _ _ _ _).trans h
      · cases h)
/-! ### 163: laws.eqSendItem -/
def sg163 : Sig := ⟨[(true, [.int .i64, .int .i64, .int .i64, .bool, .bool, .bool, .slice 5, .int .i64, .int .i64]), (true, [.int .i64, .int .i64, .int .i64, .bool, .bool, .bool, .slice 5, .int .i64, .int .i64])], [.leaf .bool false]⟩
def F163 (n : Nat) (x0 x1 x2 x3 x4 x5 x6 x7 x8 x9 x10 x11 x12 x13 x14 x15 x16 x17 : T) : Option (List T) :=
  (F154 n x0 x1 x2 x3 x4 x5 x6 x9 x10 x11 x12 x13 x14 x15).bind fun r1 => bif (!(r1.headD (.i 0)).B) then (some [.b false]) else (bif (x7.I != x16.I) then (some [.b false]) else (bif (x8.I != x17.I) then (some [.b false]) else (some [.b true])))
def M163 (n : Nat) (τs : List T) : Option (List T) := match τs with
  | [x0, x1, x2, x3, x4, x5, x6, x7, x8, x9, x10, x11, x12, x13, x14, x15, x16, x17] => F163 n x0 x1 x2 x3 x4 x5 x6 x7 x8 x9 x10 x11 x12 x13 x14 x15 x16 x17
  | _ => none
noncomputable def code163 : List (Nat × Func) := [(163, Go.Proofs.Try.f163)]
def env163 : List (Nat × (Sig × Mean)) := [(154, sg154, ⟨M154⟩)]
def ann163 (f i : Nat) : Ann := match f, i with
  | _, _ => ⟨[], [], []⟩
def lsl163 (n : Nat) : List ((Nat × Nat) × (Nat → List LoopM)) := []
noncomputable def cf163 (n : Nat) : Cfg := ⟨tiOf tab, lookup code163, lookup env163, ann163, n⟩
theorem ev163 (n : Nat) (x0 x1 x2 x3 x4 x5 x6 x7 x8 x9 x10 x11 x12 x13 x14 x15 x16 x17 : T) : evF (cf163 n) (drawK (cf163 n)) (lms2 (lsl163 n)) 3 163 sg163 [x0, x1, x2, x3, x4, x5, x6, x7, x8, x9, x10, x11, x12, x13, x14, x15, x16, x17] = F163 n x0 x1 x2 x3 x4 x5 x6 x7 x8 x9 x10 x11 x12 x13 x14 x15 x16 x17 := by kernel_rfl
theorem eo163 (n : Nat) : EnvOk Go.Proofs.Try.prog (tiOf tab) n 163 sg163 ⟨M163⟩ :=
  have hc : CodeOk Go.Proofs.Try.prog (cf163 n) := (code_cons Go.Proofs.Try.func163 (by kernel_rfl) code_nil)
  have he : EnvsOk Go.Proofs.Try.prog (cf163 n) := (env_cons (eo154 n) env_nil)
  have hl : LmsOk (R := List T) (cf163 n) (drawK (cf163 n)) (lms2 (lsl163 n)) (lsl163 n) := lms_nil
  envOk_of (cf := cf163 n) tabOk hc he (draw := drawK (cf163 n)) (fun _ => drawK_ok tabOk mixed hc he) (d := 3) (lms := lms2 (lsl163 n)) hl
    (fun τs rs h => by
      simp only [M163] at h
      split at h
      · exact (ev163 n _ _ _ _ _ _ _ _ _ _ _ _ _ _ _ _ _ _).trans h
      · cases h)
/-! ### 97: laws.eqSendItemS -/
def sg97 : Sig := ⟨[(false, [.slice 144]), (false, [.slice 144])], [.leaf .bool false]⟩
def G97_97_4 {R : Type} (n : Nat) (v : List T) (self : List T → Option R) (ex : List (List T → Option R)) : Option R :=
  bif (decide ((v.getD 2 (.i 0)).I < ((((v.getD 0 (.i 0)).L).length : Nat) : Int))) then (if 0 ≤ (v.getD 2 (.i 0)).I ∧ (v.getD 2 (.i 0)).I < (((v.getD 0 (.i 0)).L).length : Int) then (if 0 ≤ (v.getD 2 (.i 0)).I ∧ (v.getD 2 (.i 0)).I < (((v.getD 1 (.i 0)).L).length : Int) then ((F163 n ((at_ ((v.getD 0 (.i 0)).L) ((v.getD 2 (.i 0)).I)).F 0) ((at_ ((v.getD 0 (.i 0)).L) ((v.getD 2 (.i 0)).I)).F 1) ((at_ ((v.getD 0 (.i 0)).L) ((v.getD 2 (.i 0)).I)).F 2) ((at_ ((v.getD 0 (.i 0)).L) ((v.getD 2 (.i 0)).I)).F 3) ((at_ ((v.getD 0 (.i 0)).L) ((v.getD 2 (.i 0)).I)).F 4) ((at_ ((v.getD 0 (.i 0)).L) ((v.getD 2 (.i 0)).I)).F 5) ((at_ ((v.getD 0 (.i 0)).L) ((v.getD 2 (.i 0)).I)).F 6) ((at_ ((v.getD 0 (.i 0)).L) ((v.getD 2 (.i 0)).I)).F 7) ((at_ ((v.getD 0 (.i 0)).L) ((v.getD 2 (.i 0)).I)).F 8) ((at_ ((v.getD 1 (.i 0)).L) ((v.getD 2 (.i 0)).I)).F 0) ((at_ ((v.getD 1 (.i 0)).L) ((v.getD 2 (.i 0)).I)).F 1) ((at_ ((v.getD 1 (.i 0)).L) ((v.getD 2 (.i 0)).I)).F 2) ((at_ ((v.getD 1 (.i 0)).L) ((v.getD 2 (.i 0)).I)).F 3) ((at_ ((v.getD 1 (.i 0)).L) ((v.getD 2 (.i 0)).I)).F 4) ((at_ ((v.getD 1 (.i 0)).L) ((v.getD 2 (.i 0)).I)).F 5) ((at_ ((v.getD 1 (.i 0)).L) ((v.getD 2 (.i 0)).I)).F 6) ((at_ ((v.getD 1 (.i 0)).L) ((v.getD 2 (.i 0)).I)).F 7) ((at_ ((v.getD 1 (.i 0)).L) ((v.getD 2 (.i 0)).I)).F 8)).bind fun r1 => bif (!(r1.headD (.i 0)).B) then (exn ex 0 [.b false]) else (self [.l ((v.getD 0 (.i 0)).L), .l ((v.getD 1 (.i 0)).L), .i (IntKind.wrap .i64 ((v.getD 2 (.i 0)).I + 1))])) else none) else none) else (exn ex 1 [])
def L97_97_4 (n : Nat) : LoopM := ⟨⟨[[.t (.slice 144) (.i 0), .t (.slice 144) (.i 0), .un, .un, .un, .t (.int .i64) (.i 0), .un, .un, .un, .un, .un, .un, .un, .un, .un, .un, .un, .un, .un, .un, .un, .un, .un, .un, .un, .un, .un]], []⟩, [(.ret, ⟨[[.un, .un, .un, .un, .t .bool (.i 0), .un, .un, .un, .un, .un, .un, .un, .un, .un, .un, .un, .un, .un, .un, .un, .un, .un, .un, .un, .un, .un, .un]], []⟩), (.exit 0, ⟨[[.un, .un, .un, .un, .un, .un, .un, .un, .un, .un, .un, .un, .un, .un, .un, .un, .un, .un, .un, .un, .un, .un, .un, .un, .un, .un, .un]], []⟩)], fun v self ex => G97_97_4 n v self ex⟩
def F97 (n : Nat) (x0 x1 : T) : Option (List T) :=
  bif ((x0.L.length : Int) != (x1.L.length : Int)) then (some [.b false]) else (loopR (L97_97_4 n).G n [.l x0.L, .l x1.L, .i 0] [fun u2 => some [.b ((u2.getD 0 (.i 0)).B)], fun u3 => some [.b true]])
def M97 (n : Nat) (τs : List T) : Option (List T) := match τs with
  | [x0, x1] => F97 n x0 x1
  | _ => none
noncomputable def code97 : List (Nat × Func) := [(97, Go.Proofs.Try.f97)]
def env97 : List (Nat × (Sig × Mean)) := [(163, sg163, ⟨M163⟩)]
def ann97 (f i : Nat) : Ann := match f, i with
  | 97, 4 => ⟨[(0, .any), (1, .any), (5, .any)], [], [(4, .any)]⟩
  | _, _ => ⟨[], [], []⟩
def lm97_97 (n : Nat) (i : Nat) : List LoopM := match i with
  | 4 => [L97_97_4 n]
  | _ => []
def lsl97 (n : Nat) : List ((Nat × Nat) × (Nat → List LoopM)) := [((3, 97), lm97_97 n)]
noncomputable def cf97 (n : Nat) : Cfg := ⟨tiOf tab, lookup code97, lookup env97, ann97, n⟩
theorem ev97 (n : Nat) (x0 x1 : T) : evF (cf97 n) (drawK (cf97 n)) (lms2 (lsl97 n)) 3 97 sg97 [x0, x1] = F97 n x0 x1 := by kernel_rfl
theorem lp97_97_4 (n : Nat) (K : Ex → St → Option (List T)) (self : List T → Option (List T)) (v : List T) : evC (cf97 n) (callK (cf97 n) (drawK (cf97 n)) (lms2 (lsl97 n)) 3) (drawK (cf97 n) (callK (cf97 n) (drawK (cf97 n)) (lms2 (lsl97 n)) 3)) (ann97 97) (lm97_97 n) (bodyOf Go.Proofs.Try.f97 4) ((L97_97_4 n).sk.fill v) (roundK (ann97 97 4) K (selfK (L97_97_4 n) self)) = (L97_97_4 n).G v self (exitK (L97_97_4 n) K) := by kernel_rfl
theorem eo97 (n : Nat) : EnvOk Go.Proofs.Try.prog (tiOf tab) n 97 sg97 ⟨M97⟩ :=
  have hc : CodeOk Go.Proofs.Try.prog (cf97 n) := (code_cons Go.Proofs.Try.func97 (by kernel_rfl) code_nil)
  have he : EnvsOk Go.Proofs.Try.prog (cf97 n) := (env_cons (eo163 n) env_nil)
  have hl : LmsOk (R := List T) (cf97 n) (drawK (cf97 n)) (lms2 (lsl97 n)) (lsl97 n) := (lms_cons (loops_of (cf := cf97 n) (fn0 := Go.Proofs.Try.f97) rfl (l := [bodyOf Go.Proofs.Try.f97 4]) (by kernel_rfl) (loops_cons (b := bodyOf Go.Proofs.Try.f97 4) (by kernel_rfl) (rfl : lm97_97 n 4 = [L97_97_4 n]) (List.forall_mem_cons.2 ⟨fun K self v => lp97_97_4 n K self v, fun _ h => by cases h⟩) loops_nil)) lms_nil)
  envOk_of (cf := cf97 n) tabOk hc he (draw := drawK (cf97 n)) (fun _ => drawK_ok tabOk mixed hc he) (d := 3) (lms := lms2 (lsl97 n)) hl
    (fun τs rs h => by
      simp only [M97] at h
      split at h
      · exact (ev97 n _ _).trans h
      · cases h)
/-! ### 37: laws.eqSend -/
def sg37 : Sig := ⟨[(true, [.int .i64, .int .i64, .slice 2, .slice 144]), (true, [.int .i64, .int .i64, .slice 2, .slice 144])], [.leaf .bool false]⟩
def F37 (n : Nat) (x0 x1 x2 x3 x4 x5 x6 x7 : T) : Option (List T) :=
  bif (x0.I != x4.I) then (some [.b false]) else (bif (x1.I != x5.I) then (some [.b false]) else ((F20 n x2 x6).bind fun r1 => bif (!(r1.headD (.i 0)).B) then (some [.b false]) else ((F97 n x3 x7).bind fun r2 => bif (!(r2.headD (.i 0)).B) then (some [.b false]) else (some [.b true]))))
def M37 (n : Nat) (τs : List T) : Option (List T) := match τs with
  | [x0, x1, x2, x3, x4, x5, x6, x7] => F37 n x0 x1 x2 x3 x4 x5 x6 x7
  | _ => none
noncomputable def code37 : List (Nat × Func) := [(37, Go.Proofs.Try.f37)]
def env37 : List (Nat × (Sig × Mean)) := [(20, sg20, ⟨M20⟩), (97, sg97, ⟨M97⟩)]
def ann37 (f i : Nat) : Ann := match f, i with
  | _, _ => ⟨[], [], []⟩
def lsl37 (n : Nat) : List ((Nat × Nat) × (Nat → List LoopM)) := []
noncomputable def cf37 (n : Nat) : Cfg := ⟨tiOf tab, lookup code37, lookup env37, ann37, n⟩
theorem ev37 (n : Nat) (x0 x1 x2 x3 x4 x5 x6 x7 : T) : evF (cf37 n) (drawK (cf37 n)) (lms2 (lsl37 n)) 3 37 sg37 [x0, x1, x2, x3, x4, x5, x6, x7] = F37 n x0 x1 x2 x3 x4 x5 x6 x7 := by kernel_rfl
theorem eo37 (n : Nat) : EnvOk Go.Proofs.Try.prog (tiOf tab) n 37 sg37 ⟨M37⟩ :=
  have hc : CodeOk Go.Proofs.Try.prog (cf37 n) := (code_cons Go.Proofs.Try.func37 (by kernel_rfl) code_nil)
  have he : EnvsOk Go.Proofs.Try.prog (cf37 n) := (env_cons (eo20 n) (env_cons (eo97 n) env_nil))
  have hl : LmsOk (R := List T) (cf37 n) (drawK (cf37 n)) (lms2 (lsl37 n)) (lsl37 n) := lms_nil
  envOk_of (cf := cf37 n) tabOk hc he (draw := drawK (cf37 n)) (fun _ => drawK_ok tabOk mixed hc he) (d := 3) (lms := lms2 (lsl37 n)) hl
    (fun τs rs h => by
      simp only [M37] at h
      split at h
      · exact (ev37 n _ _ _ _ _ _ _ _).trans h
      · cases h)
/-! ### 6: laws.FnExactSameSends -/
def sg6 : Sig := ⟨[(true, [.int .i64, .int .i64, .slice 2, .slice 209]), (true, [.int .i64, .int .i64, .slice 2, .slice 209])], [.leaf .bool false]⟩
def F6 (n : Nat) (x0 x1 x2 x3 x4 x5 x6 x7 : T) : Option (List T) :=
  (F33 n x0 x1 x2 x3 (.i 1048576)).bind fun r1 => bif (decide ((r1.headD (.i 0)).I < 0)) then (some [.b true]) else ((F33 n x4 x5 x6 x7 (r1.headD (.i 0))).bind fun r2 => bif (decide ((r2.headD (.i 0)).I < 0)) then (some [.b true]) else ((F35 n x0 x1 x2 x3).bind fun r3 => (F35 n x4 x5 x6 x7).bind fun r4 => (F34 n (r3.headD (.i 0)) (r3.tail.headD (.i 0)) (r3.tail.tail.headD (.i 0)) (r3.tail.tail.tail.headD (.i 0)) (r4.headD (.i 0)) (r4.tail.headD (.i 0)) (r4.tail.tail.headD (.i 0)) (r4.tail.tail.tail.headD (.i 0))).bind fun r5 => (F35 n x0 x1 x2 x3).bind fun r6 => (F35 n x4 x5 x6 x7).bind fun r7 => (F36 n (r6.headD (.i 0)) (r6.tail.headD (.i 0)) (r6.tail.tail.headD (.i 0)) (r6.tail.tail.tail.headD (.i 0)) (r7.headD (.i 0)) (r7.tail.headD (.i 0)) (r7.tail.tail.headD (.i 0)) (r7.tail.tail.tail.headD (.i 0))).bind fun r8 => bif (!((r8.headD (.i 0)).B == (r5.headD (.i 0)).B)) then (some [.b false]) else ((F35 n x0 x1 x2 x3).bind fun r9 => (F37 n (r6.headD (.i 0)) (r6.tail.headD (.i 0)) (r6.tail.tail.headD (.i 0)) (r6.tail.tail.tail.headD (.i 0)) (r9.headD (.i 0)) (r9.tail.headD (.i 0)) (r9.tail.tail.headD (.i 0)) (r9.tail.tail.tail.headD (.i 0))).bind fun r10 => bif (!(r10.headD (.i 0)).B) then (some [.b false]) else ((F35 n x4 x5 x6 x7).bind fun r11 => (F37 n (r7.headD (.i 0)) (r7.tail.headD (.i 0)) (r7.tail.tail.headD (.i 0)) (r7.tail.tail.tail.headD (.i 0)) (r11.headD (.i 0)) (r11.tail.headD (.i 0)) (r11.tail.tail.headD (.i 0)) (r11.tail.tail.tail.headD (.i 0))).bind fun r12 => bif (!(r12.headD (.i 0)).B) then (some [.b false]) else (some [.b true])))))
def M6 (n : Nat) (τs : List T) : Option (List T) := match τs with
  | [x0, x1, x2, x3, x4, x5, x6, x7] => F6 n x0 x1 x2 x3 x4 x5 x6 x7
  | _ => none
noncomputable def code6 : List (Nat × Func) := [(6, Go.Proofs.Try.f6)]
def env6 : List (Nat × (Sig × Mean)) := [(33, sg33, ⟨M33⟩), (34, sg34, ⟨M34⟩), (35, sg35, ⟨M35⟩), (36, sg36, ⟨M36⟩), (37, sg37, ⟨M37⟩)]
def ann6 (f i : Nat) : Ann := match f, i with
  | _, _ => ⟨[], [], []⟩
def lsl6 (n : Nat) : List ((Nat × Nat) × (Nat → List LoopM)) := []
noncomputable def cf6 (n : Nat) : Cfg := ⟨tiOf tab, lookup code6, lookup env6, ann6, n⟩
theorem ev6 (n : Nat) (x0 x1 x2 x3 x4 x5 x6 x7 : T) : evF (cf6 n) (drawK (cf6 n)) (lms2 (lsl6 n)) 3 6 sg6 [x0, x1, x2, x3, x4, x5, x6, x7] = F6 n x0 x1 x2 x3 x4 x5 x6 x7 := by kernel_rfl
theorem eo6 (n : Nat) : EnvOk Go.Proofs.Try.prog (tiOf tab) n 6 sg6 ⟨M6⟩ :=
  have hc : CodeOk Go.Proofs.Try.prog (cf6 n) := (code_cons Go.Proofs.Try.func6 (by kernel_rfl) code_nil)
  have he : EnvsOk Go.Proofs.Try.prog (cf6 n) := (env_cons (eo33 n) (env_cons (eo34 n) (env_cons (eo35 n) (env_cons (eo36 n) (env_cons (eo37 n) env_nil)))))
  have hl : LmsOk (R := List T) (cf6 n) (drawK (cf6 n)) (lms2 (lsl6 n)) (lsl6 n) := lms_nil
  envOk_of (cf := cf6 n) tabOk hc he (draw := drawK (cf6 n)) (fun _ => drawK_ok tabOk mixed hc he) (d := 3) (lms := lms2 (lsl6 n)) hl
    (fun τs rs h => by
      simp only [M6] at h
      split at h
      · exact (ev6 n _ _ _ _ _ _ _ _).trans h
      · cases h)
end Go.KX.Sb
