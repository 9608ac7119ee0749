import Derived.Test.YtpkeanlcmjbgnabProg
import Derived.KernelRfl
import Derived.Test.YtpkeanlcmjbgnabKxC
namespace Go.KX.Sb
open Go
set_option linter.unusedVariables false
def tab : List (Nat × TyI) := [
  (2, ⟨true, false, [.int .i64], 8, .leaf, false⟩),
  (3, ⟨true, false, [.int .i64], 8, .leaf, false⟩),
  (4, ⟨true, false, [.bool], 1, .leaf, false⟩),
  (5, ⟨true, false, [.int .u8], 1, .leaf, false⟩),
  (68, ⟨true, false, [.slice 5], 24, .slice 5, false⟩),
  (74, ⟨true, true, [.int .i64, .int .i64], 16, .struct [(2, 0), (2, 1)], true⟩),
  (92, ⟨true, true, [.int .i64, .bool, .slice 5], 40, .struct [(2, 0), (4, 1), (68, 2)], false⟩),
  (93, ⟨true, true, [.int .i64, .int .i64], 16, .struct [(2, 0), (2, 1)], true⟩),
  (95, ⟨true, true, [.int .i64, .slice 5], 32, .struct [(2, 0), (68, 1)], false⟩),
  (97, ⟨true, true, [.int .i64, .int .i64, .int .i64, .int .i64, .int .i64, .bool, .slice 5, .int .i64, .int .i64, .int .i64, .slice 5, .slice 5], 144, .struct [(2, 0), (2, 1), (2, 2), (2, 3), (92, 4), (93, 7), (95, 9), (68, 11)], false⟩),
  (100, ⟨true, true, [.int .i64, .bool, .slice 5], 40, .struct [(2, 0), (4, 1), (68, 2)], false⟩),
  (101, ⟨true, true, [.int .i64, .slice 5], 32, .struct [(2, 0), (68, 1)], false⟩),
  (103, ⟨true, true, [.int .i64, .int .i64, .int .i64, .int .i64, .int .i64, .bool, .slice 5, .int .i64, .int .i64, .int .i64, .slice 5, .slice 5], 144, .struct [(2, 0), (2, 1), (2, 2), (2, 3), (100, 4), (74, 7), (101, 9), (68, 11)], false⟩)]
theorem tabOk : TabOk Go.Proofs.Try.prog (tiOf tab) := tab_ok (by kernel_rfl)
theorem mixed : Go.Proofs.Try.prog.follows .mixedOrders = true := by kernel_rfl
/-! ### 118: laws.szByteS -/
def sg118 : Sig := ⟨[(false, [.slice 5]), (false, [.int .i64])], [.leaf (.int .i64) false]⟩
def F118 (n : Nat) (x0 x1 : T) : Option (List T) :=
  bif (decide ((IntKind.wrap .i64 (x1.I - (x0.L.length : Int))) < 0)) then (some [.i (-1)]) else (some [.i (IntKind.wrap .i64 (x1.I - (x0.L.length : Int)))])
def M118 (n : Nat) (τs : List T) : Option (List T) := match τs with
  | [x0, x1] => F118 n x0 x1
  | _ => none
noncomputable def code118 : List (Nat × Func) := [(118, Go.Proofs.Try.f118)]
def env118 : List (Nat × (Sig × Mean)) := []
def ann118 (f i : Nat) : Ann := match f, i with
  | _, _ => ⟨[], [], []⟩
def lsl118 (n : Nat) : List ((Nat × Nat) × (Nat → List LoopM)) := []
noncomputable def cf118 (n : Nat) : Cfg := ⟨tiOf tab, lookup code118, lookup env118, ann118, n⟩
theorem ev118 (n : Nat) (x0 x1 : T) : evF (cf118 n) (drawK (cf118 n)) (lms2 (lsl118 n)) 3 118 sg118 [x0, x1] = F118 n x0 x1 := by kernel_rfl
theorem eo118 (n : Nat) : EnvOk Go.Proofs.Try.prog (tiOf tab) n 118 sg118 ⟨M118⟩ :=
  have hc : CodeOk Go.Proofs.Try.prog (cf118 n) := (code_cons Go.Proofs.Try.func118 (by kernel_rfl) code_nil)
  have he : EnvsOk Go.Proofs.Try.prog (cf118 n) := env_nil
  have hl : LmsOk (R := List T) (cf118 n) (drawK (cf118 n)) (lms2 (lsl118 n)) (lsl118 n) := lms_nil
  envOk_of (cf := cf118 n) tabOk hc he (draw := drawK (cf118 n)) (fun _ => drawK_ok tabOk mixed hc he) (d := 3) (lms := lms2 (lsl118 n)) hl
    (fun τs rs h => by
      simp only [M118] at h
      split at h
      · exact (ev118 n _ _).trans h
      · cases h)
/-! ### 54: laws.szMessage -/
def sg54 : Sig := ⟨[(true, [.int .i64, .bool, .slice 5]), (false, [.int .i64])], [.leaf (.int .i64) false]⟩
def F54 (n : Nat) (x0 x1 x2 x3 : T) : Option (List T) :=
  (F118 n x2 x3).bind fun r1 => bif (decide ((r1.headD (.i 0)).I < 0)) then (some [.i (-1)]) else (some [(r1.headD (.i 0))])
def M54 (n : Nat) (τs : List T) : Option (List T) := match τs with
  | [x0, x1, x2, x3] => F54 n x0 x1 x2 x3
  | _ => none
noncomputable def code54 : List (Nat × Func) := [(54, Go.Proofs.Try.f54)]
def env54 : List (Nat × (Sig × Mean)) := [(118, sg118, ⟨M118⟩)]
def ann54 (f i : Nat) : Ann := match f, i with
  | _, _ => ⟨[], [], []⟩
def lsl54 (n : Nat) : List ((Nat × Nat) × (Nat → List LoopM)) := []
noncomputable def cf54 (n : Nat) : Cfg := ⟨tiOf tab, lookup code54, lookup env54, ann54, n⟩
theorem ev54 (n : Nat) (x0 x1 x2 x3 : T) : evF (cf54 n) (drawK (cf54 n)) (lms2 (lsl54 n)) 3 54 sg54 [x0, x1, x2, x3] = F54 n x0 x1 x2 x3 := by kernel_rfl
theorem eo54 (n : Nat) : EnvOk Go.Proofs.Try.prog (tiOf tab) n 54 sg54 ⟨M54⟩ :=
  have hc : CodeOk Go.Proofs.Try.prog (cf54 n) := (code_cons Go.Proofs.Try.func54 (by kernel_rfl) code_nil)
  have he : EnvsOk Go.Proofs.Try.prog (cf54 n) := (env_cons (eo118 n) env_nil)
  have hl : LmsOk (R := List T) (cf54 n) (drawK (cf54 n)) (lms2 (lsl54 n)) (lsl54 n) := lms_nil
  envOk_of (cf := cf54 n) tabOk hc he (draw := drawK (cf54 n)) (fun _ => drawK_ok tabOk mixed hc he) (d := 3) (lms := lms2 (lsl54 n)) hl
    (fun τs rs h => by
      simp only [M54] at h
      split at h
      · exact (ev54 n _ _ _ _).trans h
      · cases h)
/-! ### 117: laws.szSecret -/
def sg117 : Sig := ⟨[(true, [.int .i64, .slice 5]), (false, [.int .i64])], [.leaf (.int .i64) false]⟩
def F117 (n : Nat) (x0 x1 x2 : T) : Option (List T) :=
  (F118 n x1 x2).bind fun r1 => bif (decide ((r1.headD (.i 0)).I < 0)) then (some [.i (-1)]) else (some [(r1.headD (.i 0))])
def M117 (n : Nat) (τs : List T) : Option (List T) := match τs with
  | [x0, x1, x2] => F117 n x0 x1 x2
  | _ => none
noncomputable def code117 : List (Nat × Func) := [(117, Go.Proofs.Try.f117)]
def env117 : List (Nat × (Sig × Mean)) := [(118, sg118, ⟨M118⟩)]
def ann117 (f i : Nat) : Ann := match f, i with
  | _, _ => ⟨[], [], []⟩
def lsl117 (n : Nat) : List ((Nat × Nat) × (Nat → List LoopM)) := []
noncomputable def cf117 (n : Nat) : Cfg := ⟨tiOf tab, lookup code117, lookup env117, ann117, n⟩
theorem ev117 (n : Nat) (x0 x1 x2 : T) : evF (cf117 n) (drawK (cf117 n)) (lms2 (lsl117 n)) 3 117 sg117 [x0, x1, x2] = F117 n x0 x1 x2 := by kernel_rfl
theorem eo117 (n : Nat) : EnvOk Go.Proofs.Try.prog (tiOf tab) n 117 sg117 ⟨M117⟩ :=
  have hc : CodeOk Go.Proofs.Try.prog (cf117 n) := (code_cons Go.Proofs.Try.func117 (by kernel_rfl) code_nil)
  have he : EnvsOk Go.Proofs.Try.prog (cf117 n) := (env_cons (eo118 n) env_nil)
  have hl : LmsOk (R := List T) (cf117 n) (drawK (cf117 n)) (lms2 (lsl117 n)) (lsl117 n) := lms_nil
  envOk_of (cf := cf117 n) tabOk hc he (draw := drawK (cf117 n)) (fun _ => drawK_ok tabOk mixed hc he) (d := 3) (lms := lms2 (lsl117 n)) hl
    (fun τs rs h => by
      simp only [M117] at h
      split at h
      · exact (ev117 n _ _ _).trans h
      · cases h)
/-! ### 49: laws.szStep -/
def sg49 : Sig := ⟨[(true, [.int .i64, .int .i64, .int .i64, .int .i64, .int .i64, .bool, .slice 5, .int .i64, .int .i64, .int .i64, .slice 5, .slice 5]), (false, [.int .i64])], [.leaf (.int .i64) false]⟩
def F49 (n : Nat) (x0 x1 x2 x3 x4 x5 x6 x7 x8 x9 x10 x11 x12 : T) : Option (List T) :=
  (F54 n x4 x5 x6 x12).bind fun r1 => bif (decide ((r1.headD (.i 0)).I < 0)) then (some [.i (-1)]) else ((F117 n x9 x10 (r1.headD (.i 0))).bind fun r2 => bif (decide ((r2.headD (.i 0)).I < 0)) then (some [.i (-1)]) else ((F118 n x11 (r2.headD (.i 0))).bind fun r3 => bif (decide ((r3.headD (.i 0)).I < 0)) then (some [.i (-1)]) else (some [(r3.headD (.i 0))])))
def M49 (n : Nat) (τs : List T) : Option (List T) := match τs with
  | [x0, x1, x2, x3, x4, x5, x6, x7, x8, x9, x10, x11, x12] => F49 n x0 x1 x2 x3 x4 x5 x6 x7 x8 x9 x10 x11 x12
  | _ => none
noncomputable def code49 : List (Nat × Func) := [(49, Go.Proofs.Try.f49)]
def env49 : List (Nat × (Sig × Mean)) := [(54, sg54, ⟨M54⟩), (117, sg117, ⟨M117⟩), (118, sg118, ⟨M118⟩)]
def ann49 (f i : Nat) : Ann := match f, i with
  | _, _ => ⟨[], [], []⟩
def lsl49 (n : Nat) : List ((Nat × Nat) × (Nat → List LoopM)) := []
noncomputable def cf49 (n : Nat) : Cfg := ⟨tiOf tab, lookup code49, lookup env49, ann49, n⟩
theorem ev49 (n : Nat) (x0 x1 x2 x3 x4 x5 x6 x7 x8 x9 x10 x11 x12 : T) : evF (cf49 n) (drawK (cf49 n)) (lms2 (lsl49 n)) 3 49 sg49 [x0, x1, x2, x3, x4, x5, x6, x7, x8, x9, x10, x11, x12] = F49 n x0 x1 x2 x3 x4 x5 x6 x7 x8 x9 x10 x11 x12 := by kernel_rfl
theorem eo49 (n : Nat) : EnvOk Go.Proofs.Try.prog (tiOf tab) n 49 sg49 ⟨M49⟩ :=
  have hc : CodeOk Go.Proofs.Try.prog (cf49 n) := (code_cons Go.Proofs.Try.func49 (by kernel_rfl) code_nil)
  have he : EnvsOk Go.Proofs.Try.prog (cf49 n) := (env_cons (eo54 n) (env_cons (eo117 n) (env_cons (eo118 n) env_nil)))
  have hl : LmsOk (R := List T) (cf49 n) (drawK (cf49 n)) (lms2 (lsl49 n)) (lsl49 n) := lms_nil
  envOk_of (cf := cf49 n) tabOk hc he (draw := drawK (cf49 n)) (fun _ => drawK_ok tabOk mixed hc he) (d := 3) (lms := lms2 (lsl49 n)) hl
    (fun τs rs h => by
      simp only [M49] at h
      split at h
      · exact (ev49 n _ _ _ _ _ _ _ _ _ _ _ _ _).trans h
      · cases h)
/-! ### 119: spec.l15Form -/
def sg119 : Sig := ⟨[(false, [.box 103])], [.leaf .bool false]⟩
def F119 (n : Nat) (x0 : T) : Option (List T) :=
  bif ((x0.F 0).I == 1) then (bif ((x0.F 4).I != 0) then (some [.b false]) else (bif (x0.F 5).B then (some [.b false]) else (bif (decide (((((x0.F 6).L).length : Nat) : Int) > 0)) then (some [.b false]) else (bif (!(((x0.F 7).I == 0) && (((x0.F 8).I == 0) && true))) then (some [.b false]) else (bif ((x0.F 9).I != 0) then (some [.b false]) else (bif (decide (((((x0.F 10).L).length : Nat) : Int) > 0)) then (some [.b false]) else (bif (decide (((((x0.F 11).L).length : Nat) : Int) > 0)) then (some [.b false]) else (bif ((x0.F 2).I == 0) then (some [.b ((x0.F 3).I == 0)]) else (some [.b false]))))))))) else (bif ((x0.F 0).I == 5) then (bif ((x0.F 4).I != 0) then (some [.b false]) else (bif (x0.F 5).B then (some [.b false]) else (bif (decide (((((x0.F 6).L).length : Nat) : Int) > 0)) then (some [.b false]) else (bif (!(((x0.F 7).I == 0) && (((x0.F 8).I == 0) && true))) then (some [.b false]) else (bif ((x0.F 9).I != 0) then (some [.b false]) else (bif (decide (((((x0.F 10).L).length : Nat) : Int) > 0)) then (some [.b false]) else (bif (decide (((((x0.F 11).L).length : Nat) : Int) > 0)) then (some [.b false]) else (bif ((x0.F 2).I == 0) then (some [.b ((x0.F 3).I == 0)]) else (some [.b false]))))))))) else (bif ((x0.F 0).I == 6) then (bif ((x0.F 4).I != 0) then (some [.b false]) else (bif (x0.F 5).B then (some [.b false]) else (bif (decide (((((x0.F 6).L).length : Nat) : Int) > 0)) then (some [.b false]) else (bif (!(((x0.F 7).I == 0) && (((x0.F 8).I == 0) && true))) then (some [.b false]) else (bif ((x0.F 9).I != 0) then (some [.b false]) else (bif (decide (((((x0.F 10).L).length : Nat) : Int) > 0)) then (some [.b false]) else (bif (decide (((((x0.F 11).L).length : Nat) : Int) > 0)) then (some [.b false]) else (bif ((x0.F 2).I == 0) then (some [.b ((x0.F 3).I == 0)]) else (some [.b false]))))))))) else (bif ((x0.F 0).I == 2) then (bif ((x0.F 4).I != 0) then (some [.b false]) else (bif (x0.F 5).B then (some [.b false]) else (bif (decide (((((x0.F 6).L).length : Nat) : Int) > 0)) then (some [.b false]) else (bif (!(((x0.F 7).I == 0) && (((x0.F 8).I == 0) && true))) then (some [.b false]) else (bif ((x0.F 9).I != 0) then (some [.b false]) else (bif (decide (((((x0.F 10).L).length : Nat) : Int) > 0)) then (some [.b false]) else (bif (decide (((((x0.F 11).L).length : Nat) : Int) > 0)) then (some [.b false]) else (bif ((x0.F 1).I == 0) then (some [.b ((x0.F 3).I == 0)]) else (some [.b false]))))))))) else (bif ((x0.F 0).I == 8) then (bif ((x0.F 4).I != 0) then (some [.b false]) else (bif (x0.F 5).B then (some [.b false]) else (bif (decide (((((x0.F 6).L).length : Nat) : Int) > 0)) then (some [.b false]) else (bif (!(((x0.F 7).I == 0) && (((x0.F 8).I == 0) && true))) then (some [.b false]) else (bif ((x0.F 9).I != 0) then (some [.b false]) else (bif (decide (((((x0.F 10).L).length : Nat) : Int) > 0)) then (some [.b false]) else (bif (decide (((((x0.F 11).L).length : Nat) : Int) > 0)) then (some [.b false]) else (bif ((x0.F 1).I == 0) then (some [.b ((x0.F 3).I == 0)]) else (some [.b false]))))))))) else (bif ((x0.F 0).I == 9) then (bif ((x0.F 4).I != 0) then (some [.b false]) else (bif (x0.F 5).B then (some [.b false]) else (bif (decide (((((x0.F 6).L).length : Nat) : Int) > 0)) then (some [.b false]) else (bif (!(((x0.F 7).I == 0) && (((x0.F 8).I == 0) && true))) then (some [.b false]) else (bif ((x0.F 9).I != 0) then (some [.b false]) else (bif (decide (((((x0.F 10).L).length : Nat) : Int) > 0)) then (some [.b false]) else (bif (decide (((((x0.F 11).L).length : Nat) : Int) > 0)) then (some [.b false]) else (bif ((x0.F 1).I == 0) then (some [.b ((x0.F 3).I == 0)]) else (some [.b false]))))))))) else (bif ((x0.F 0).I == 10) then (bif ((x0.F 4).I != 0) then (some [.b false]) else (bif (x0.F 5).B then (some [.b false]) else (bif (decide (((((x0.F 6).L).length : Nat) : Int) > 0)) then (some [.b false]) else (bif (!(((x0.F 7).I == 0) && (((x0.F 8).I == 0) && true))) then (some [.b false]) else (bif ((x0.F 9).I != 0) then (some [.b false]) else (bif (decide (((((x0.F 10).L).length : Nat) : Int) > 0)) then (some [.b false]) else (bif (decide (((((x0.F 11).L).length : Nat) : Int) > 0)) then (some [.b false]) else (bif ((x0.F 1).I == 0) then (some [.b ((x0.F 3).I == 0)]) else (some [.b false]))))))))) else (bif ((x0.F 0).I == 3) then (bif (!(((x0.F 7).I == 0) && (((x0.F 8).I == 0) && true))) then (some [.b false]) else (bif ((x0.F 9).I != 0) then (some [.b false]) else (bif (decide (((((x0.F 10).L).length : Nat) : Int) > 0)) then (some [.b false]) else (bif (decide (((((x0.F 11).L).length : Nat) : Int) > 0)) then (some [.b false]) else (bif ((x0.F 2).I == 0) then (some [.b ((x0.F 3).I == 0)]) else (some [.b false])))))) else (bif ((x0.F 0).I == 4) then (bif ((x0.F 4).I != 0) then (some [.b false]) else (bif (x0.F 5).B then (some [.b false]) else (bif (decide (((((x0.F 6).L).length : Nat) : Int) > 0)) then (some [.b false]) else (bif ((x0.F 9).I != 0) then (some [.b false]) else (bif (decide (((((x0.F 10).L).length : Nat) : Int) > 0)) then (some [.b false]) else (bif (decide (((((x0.F 11).L).length : Nat) : Int) > 0)) then (some [.b false]) else (bif ((x0.F 2).I == 0) then (some [.b ((x0.F 3).I == 0)]) else (some [.b false])))))))) else (bif ((x0.F 0).I == 7) then (bif ((x0.F 4).I != 0) then (some [.b false]) else (bif (x0.F 5).B then (some [.b false]) else (bif (decide (((((x0.F 6).L).length : Nat) : Int) > 0)) then (some [.b false]) else (bif (!(((x0.F 7).I == 0) && (((x0.F 8).I == 0) && true))) then (some [.b false]) else (bif (decide (((((x0.F 11).L).length : Nat) : Int) > 0)) then (some [.b false]) else (bif ((x0.F 2).I == 0) then (some [.b ((x0.F 3).I == 0)]) else (some [.b false]))))))) else (bif ((x0.F 0).I == 11) then (bif ((x0.F 4).I != 0) then (some [.b false]) else (bif (x0.F 5).B then (some [.b false]) else (bif (decide (((((x0.F 6).L).length : Nat) : Int) > 0)) then (some [.b false]) else (bif (!(((x0.F 7).I == 0) && (((x0.F 8).I == 0) && true))) then (some [.b false]) else (bif ((x0.F 9).I != 0) then (some [.b false]) else (bif (decide (((((x0.F 10).L).length : Nat) : Int) > 0)) then (some [.b false]) else (bif (decide (((((x0.F 11).L).length : Nat) : Int) > 0)) then (some [.b false]) else (some [.b true])))))))) else (bif ((x0.F 0).I == 12) then (bif ((x0.F 4).I != 0) then (some [.b false]) else (bif (x0.F 5).B then (some [.b false]) else (bif (decide (((((x0.F 6).L).length : Nat) : Int) > 0)) then (some [.b false]) else (bif (!(((x0.F 7).I == 0) && (((x0.F 8).I == 0) && true))) then (some [.b false]) else (bif ((x0.F 9).I != 0) then (some [.b false]) else (bif (decide (((((x0.F 10).L).length : Nat) : Int) > 0)) then (some [.b false]) else (bif ((x0.F 2).I == 0) then (some [.b ((x0.F 3).I == 0)]) else (some [.b false])))))))) else (some [.b false]))))))))))))
def M119 (n : Nat) (τs : List T) : Option (List T) := match τs with
  | [x0] => F119 n x0
  | _ => none
noncomputable def code119 : List (Nat × Func) := [(119, Go.Proofs.Try.f119), (169, Go.Proofs.Try.f169)]
def env119 : List (Nat × (Sig × Mean)) := []
def ann119 (f i : Nat) : Ann := match f, i with
  | _, _ => ⟨[], [], []⟩
def lsl119 (n : Nat) : List ((Nat × Nat) × (Nat → List LoopM)) := []
noncomputable def cf119 (n : Nat) : Cfg := ⟨tiOf tab, lookup code119, lookup env119, ann119, n⟩
theorem ev119 (n : Nat) (x0 : T) : evF (cf119 n) (drawK (cf119 n)) (lms2 (lsl119 n)) 3 119 sg119 [x0] = F119 n x0 := by kernel_rfl
theorem eo119 (n : Nat) : EnvOk Go.Proofs.Try.prog (tiOf tab) n 119 sg119 ⟨M119⟩ :=
  have hc : CodeOk Go.Proofs.Try.prog (cf119 n) := (code_cons Go.Proofs.Try.func119 (by kernel_rfl) (code_cons Go.Proofs.Try.func169 (by kernel_rfl) code_nil))
  have he : EnvsOk Go.Proofs.Try.prog (cf119 n) := env_nil
  have hl : LmsOk (R := List T) (cf119 n) (drawK (cf119 n)) (lms2 (lsl119 n)) (lsl119 n) := lms_nil
  envOk_of (cf := cf119 n) tabOk hc he (draw := drawK (cf119 n)) (fun _ => drawK_ok tabOk mixed hc he) (d := 3) (lms := lms2 (lsl119 n)) hl
    (fun τs rs h => by
      simp only [M119] at h
      split at h
      · exact (ev119 n _).trans h
      · cases h)
/-! ### 120: spec.l1In -/
def sg120 : Sig := ⟨[(false, [.int .i64]), (false, [.int .i64]), (false, [.int .i64])], [.leaf .bool false]⟩
def F120 (n : Nat) (x0 x1 x2 : T) : Option (List T) :=
  bif (decide (x0.I ≥ x1.I)) then (some [.b (decide (x0.I ≤ x2.I))]) else (some [.b false])
def M120 (n : Nat) (τs : List T) : Option (List T) := match τs with
  | [x0, x1, x2] => F120 n x0 x1 x2
  | _ => none
noncomputable def code120 : List (Nat × Func) := [(120, Go.Proofs.Try.f120)]
def env120 : List (Nat × (Sig × Mean)) := []
def ann120 (f i : Nat) : Ann := match f, i with
  | _, _ => ⟨[], [], []⟩
def lsl120 (n : Nat) : List ((Nat × Nat) × (Nat → List LoopM)) := []
noncomputable def cf120 (n : Nat) : Cfg := ⟨tiOf tab, lookup code120, lookup env120, ann120, n⟩
theorem ev120 (n : Nat) (x0 x1 x2 : T) : evF (cf120 n) (drawK (cf120 n)) (lms2 (lsl120 n)) 3 120 sg120 [x0, x1, x2] = F120 n x0 x1 x2 := by kernel_rfl
theorem eo120 (n : Nat) : EnvOk Go.Proofs.Try.prog (tiOf tab) n 120 sg120 ⟨M120⟩ :=
  have hc : CodeOk Go.Proofs.Try.prog (cf120 n) := (code_cons Go.Proofs.Try.func120 (by kernel_rfl) code_nil)
  have he : EnvsOk Go.Proofs.Try.prog (cf120 n) := env_nil
  have hl : LmsOk (R := List T) (cf120 n) (drawK (cf120 n)) (lms2 (lsl120 n)) (lsl120 n) := lms_nil
  envOk_of (cf := cf120 n) tabOk hc he (draw := drawK (cf120 n)) (fun _ => drawK_ok tabOk mixed hc he) (d := 3) (lms := lms2 (lsl120 n)) hl
    (fun τs rs h => by
      simp only [M120] at h
      split at h
      · exact (ev120 n _ _ _).trans h
      · cases h)
/-! ### 121: spec.MessageFault -/
def sg121 : Sig := ⟨[(true, [.int .i64, .bool, .slice 5])], [.leaf (.int .i64) false]⟩
def F121 (n : Nat) (x0 x1 x2 : T) : Option (List T) :=
  (F120 n x0 (.i 0) (.i 9)).bind fun r1 => bif (!(r1.headD (.i 0)).B) then (some [.i 3]) else (bif (decide ((x2.L.length : Int) < 1)) then (some [.i 2]) else (bif (decide ((x2.L.length : Int) > 400)) then (some [.i 2]) else (some [.i 0])))
def M121 (n : Nat) (τs : List T) : Option (List T) := match τs with
  | [x0, x1, x2] => F121 n x0 x1 x2
  | _ => none
noncomputable def code121 : List (Nat × Func) := [(121, Go.Proofs.Try.f121)]
def env121 : List (Nat × (Sig × Mean)) := [(120, sg120, ⟨M120⟩)]
def ann121 (f i : Nat) : Ann := match f, i with
  | _, _ => ⟨[], [], []⟩
def lsl121 (n : Nat) : List ((Nat × Nat) × (Nat → List LoopM)) := []
noncomputable def cf121 (n : Nat) : Cfg := ⟨tiOf tab, lookup code121, lookup env121, ann121, n⟩
theorem ev121 (n : Nat) (x0 x1 x2 : T) : evF (cf121 n) (drawK (cf121 n)) (lms2 (lsl121 n)) 3 121 sg121 [x0, x1, x2] = F121 n x0 x1 x2 := by kernel_rfl
theorem eo121 (n : Nat) : EnvOk Go.Proofs.Try.prog (tiOf tab) n 121 sg121 ⟨M121⟩ :=
  have hc : CodeOk Go.Proofs.Try.prog (cf121 n) := (code_cons Go.Proofs.Try.func121 (by kernel_rfl) code_nil)
  have he : EnvsOk Go.Proofs.Try.prog (cf121 n) := (env_cons (eo120 n) env_nil)
  have hl : LmsOk (R := List T) (cf121 n) (drawK (cf121 n)) (lms2 (lsl121 n)) (lsl121 n) := lms_nil
  envOk_of (cf := cf121 n) tabOk hc he (draw := drawK (cf121 n)) (fun _ => drawK_ok tabOk mixed hc he) (d := 3) (lms := lms2 (lsl121 n)) hl
    (fun τs rs h => by
      simp only [M121] at h
      split at h
      · exact (ev121 n _ _ _).trans h
      · cases h)
/-! ### 50: spec.StepFault -/
def sg50 : Sig := ⟨[(true, [.int .i64, .int .i64, .int .i64, .int .i64, .int .i64, .bool, .slice 5, .int .i64, .int .i64, .int .i64, .slice 5, .slice 5])], [.leaf (.int .i64) false]⟩
def F50 (n : Nat) (x0 x1 x2 x3 x4 x5 x6 x7 x8 x9 x10 x11 : T) : Option (List T) :=
  (F119 n (.r [x0, x1, x2, x3, x4, x5, x6, x7, x8, x9, x10, x11])).bind fun r1 => bif (!(r1.headD (.i 0)).B) then (some [.i 1]) else (bif (x0.I == 2) then (bif (x0.I == 11) then ((F120 n x2 (.i 0) (.i 1000000)).bind fun r2 => bif (!(r2.headD (.i 0)).B) then (some [.i 3]) else ((F120 n x1 (.i 0) (.i 499)).bind fun r3 => bif (!(r3.headD (.i 0)).B) then (some [.i 3]) else ((F120 n x3 (.i 1) (.i 255)).bind fun r4 => bif (!(r4.headD (.i 0)).B) then (some [.i 3]) else (bif (decide ((x11.L.length : Int) > 500)) then (some [.i 2]) else (bif (x0.I == 3) then ((F121 n x4 x5 x6).bind fun r5 => some [(r5.headD (.i 0))]) else (some [.i 0])))))) else ((F120 n x2 (.i 0) (.i 1000000)).bind fun r6 => bif (!(r6.headD (.i 0)).B) then (some [.i 3]) else ((F120 n x1 (.i 0) (.i 1)).bind fun r7 => bif (!(r7.headD (.i 0)).B) then (some [.i 3]) else ((F120 n x3 (.i 0) (.i 255)).bind fun r8 => bif (!(r8.headD (.i 0)).B) then (some [.i 3]) else (bif (decide ((x11.L.length : Int) > 500)) then (some [.i 2]) else (bif (x0.I == 3) then ((F121 n x4 x5 x6).bind fun r9 => some [(r9.headD (.i 0))]) else (some [.i 0]))))))) else (bif (x0.I == 11) then ((F120 n x2 (.i 0) (.i 59)).bind fun r10 => bif (!(r10.headD (.i 0)).B) then (some [.i 3]) else ((F120 n x1 (.i 0) (.i 499)).bind fun r11 => bif (!(r11.headD (.i 0)).B) then (some [.i 3]) else ((F120 n x3 (.i 1) (.i 255)).bind fun r12 => bif (!(r12.headD (.i 0)).B) then (some [.i 3]) else (bif (decide ((x11.L.length : Int) > 500)) then (some [.i 2]) else (bif (x0.I == 3) then ((F121 n x4 x5 x6).bind fun r13 => some [(r13.headD (.i 0))]) else (some [.i 0])))))) else ((F120 n x2 (.i 0) (.i 59)).bind fun r14 => bif (!(r14.headD (.i 0)).B) then (some [.i 3]) else ((F120 n x1 (.i 0) (.i 1)).bind fun r15 => bif (!(r15.headD (.i 0)).B) then (some [.i 3]) else ((F120 n x3 (.i 0) (.i 255)).bind fun r16 => bif (!(r16.headD (.i 0)).B) then (some [.i 3]) else (bif (decide ((x11.L.length : Int) > 500)) then (some [.i 2]) else (bif (x0.I == 3) then ((F121 n x4 x5 x6).bind fun r17 => some [(r17.headD (.i 0))]) else (some [.i 0]))))))))
def M50 (n : Nat) (τs : List T) : Option (List T) := match τs with
  | [x0, x1, x2, x3, x4, x5, x6, x7, x8, x9, x10, x11] => F50 n x0 x1 x2 x3 x4 x5 x6 x7 x8 x9 x10 x11
  | _ => none
noncomputable def code50 : List (Nat × Func) := [(50, Go.Proofs.Try.f50)]
def env50 : List (Nat × (Sig × Mean)) := [(119, sg119, ⟨M119⟩), (120, sg120, ⟨M120⟩), (121, sg121, ⟨M121⟩)]
def ann50 (f i : Nat) : Ann := match f, i with
  | _, _ => ⟨[], [], []⟩
def lsl50 (n : Nat) : List ((Nat × Nat) × (Nat → List LoopM)) := []
noncomputable def cf50 (n : Nat) : Cfg := ⟨tiOf tab, lookup code50, lookup env50, ann50, n⟩
theorem ev50 (n : Nat) (x0 x1 x2 x3 x4 x5 x6 x7 x8 x9 x10 x11 : T) : evF (cf50 n) (drawK (cf50 n)) (lms2 (lsl50 n)) 3 50 sg50 [x0, x1, x2, x3, x4, x5, x6, x7, x8, x9, x10, x11] = F50 n x0 x1 x2 x3 x4 x5 x6 x7 x8 x9 x10 x11 := by kernel_rfl
theorem eo50 (n : Nat) : EnvOk Go.Proofs.Try.prog (tiOf tab) n 50 sg50 ⟨M50⟩ :=
  have hc : CodeOk Go.Proofs.Try.prog (cf50 n) := (code_cons Go.Proofs.Try.func50 (by kernel_rfl) code_nil)
  have he : EnvsOk Go.Proofs.Try.prog (cf50 n) := (env_cons (eo119 n) (env_cons (eo120 n) (env_cons (eo121 n) env_nil)))
  have hl : LmsOk (R := List T) (cf50 n) (drawK (cf50 n)) (lms2 (lsl50 n)) (lsl50 n) := lms_nil
  envOk_of (cf := cf50 n) tabOk hc he (draw := drawK (cf50 n)) (fun _ => drawK_ok tabOk mixed hc he) (d := 3) (lms := lms2 (lsl50 n)) hl
    (fun τs rs h => by
      simp only [M50] at h
      split at h
      · exact (ev50 n _ _ _ _ _ _ _ _ _ _ _ _).trans h
      · cases h)
/-! ### 124: laws.toByteS -/
def sg124 : Sig := ⟨[(false, [.slice 5])], [.leaf (.slice 5) false]⟩
def G124_124_3 {R : Type} (n : Nat) (v : List T) (self : List T → Option R) (ex : List (List T → Option R)) : Option R :=
  bif (decide ((v.getD 1 (.i 0)).I < ((((v.getD 0 (.i 0)).L).length : Nat) : Int))) then (if 0 ≤ (v.getD 1 (.i 0)).I ∧ (v.getD 1 (.i 0)).I < (((v.getD 0 (.i 0)).L).length : Int) then (if 0 ≤ (v.getD 1 (.i 0)).I ∧ (v.getD 1 (.i 0)).I < (((v.getD 2 (.i 0)).L).length : Int) then (if 5 = 5 ∧ ((v.getD 1 (.i 0)).I).toNat < ((v.getD 2 (.i 0)).L).length then (self [.l ((v.getD 0 (.i 0)).L), .i (IntKind.wrap .i64 ((v.getD 1 (.i 0)).I + 1)), .l (((v.getD 2 (.i 0)).L).set (((v.getD 1 (.i 0)).I).toNat) ((at_ ((v.getD 0 (.i 0)).L) ((v.getD 1 (.i 0)).I))))]) else none) else none) else none) else (exn ex 0 [.l ((v.getD 2 (.i 0)).L)])
def L124_124_3 (n : Nat) : LoopM := ⟨⟨[[.t (.slice 5) (.i 0), .un, .un, .own 5 0, .t (.int .i64) (.i 0), .un, .un, .un, .un, .un, .un, .un, .un, .un, .un, .un, .un, .un, .un, .un, .un, .un]], [.arr 5 []]⟩, [(.exit 0, ⟨[[.un, .un, .un, .own 5 0, .un, .un, .un, .un, .un, .un, .un, .un, .un, .un, .un, .un, .un, .un, .un, .un, .un, .un]], [.arr 5 []]⟩)], fun v self ex => G124_124_3 n v self ex⟩
def F124 (n : Nat) (x0 : T) : Option (List T) :=
  if 0 ≤ (x0.L.length : Int) ∧ (x0.L.length : Int) * 1 ≤ limB ∧ (x0.L.length : Int) < maxN then (loopR (L124_124_3 n).G n [.l x0.L, .i 0, .l (List.replicate ((x0.L.length : Int)).toNat (T.i 0))] [fun u1 => some [.l ((u1.getD 0 (.i 0)).L)]]) else none
def M124 (n : Nat) (τs : List T) : Option (List T) := match τs with
  | [x0] => F124 n x0
  | _ => none
noncomputable def code124 : List (Nat × Func) := [(124, Go.Proofs.Try.f124)]
def env124 : List (Nat × (Sig × Mean)) := []
def ann124 (f i : Nat) : Ann := match f, i with
  | 124, 3 => ⟨[(0, .any), (3, .any), (4, .any)], [], [(3, .any)]⟩
  | _, _ => ⟨[], [], []⟩
def lm124_124 (n : Nat) (i : Nat) : List LoopM := match i with
  | 3 => [L124_124_3 n]
  | _ => []
def lsl124 (n : Nat) : List ((Nat × Nat) × (Nat → List LoopM)) := [((3, 124), lm124_124 n)]
noncomputable def cf124 (n : Nat) : Cfg := ⟨tiOf tab, lookup code124, lookup env124, ann124, n⟩
theorem ev124 (n : Nat) (x0 : T) : evF (cf124 n) (drawK (cf124 n)) (lms2 (lsl124 n)) 3 124 sg124 [x0] = F124 n x0 := by kernel_rfl
theorem lp124_124_3 (n : Nat) (K : Ex → St → Option (List T)) (self : List T → Option (List T)) (v : List T) : evC (cf124 n) (callK (cf124 n) (drawK (cf124 n)) (lms2 (lsl124 n)) 3) (drawK (cf124 n) (callK (cf124 n) (drawK (cf124 n)) (lms2 (lsl124 n)) 3)) (ann124 124) (lm124_124 n) (bodyOf Go.Proofs.Try.f124 3) ((L124_124_3 n).sk.fill v) (roundK (ann124 124 3) K (selfK (L124_124_3 n) self)) = (L124_124_3 n).G v self (exitK (L124_124_3 n) K) := by kernel_rfl
theorem eo124 (n : Nat) : EnvOk Go.Proofs.Try.prog (tiOf tab) n 124 sg124 ⟨M124⟩ :=
  have hc : CodeOk Go.Proofs.Try.prog (cf124 n) := (code_cons Go.Proofs.Try.func124 (by kernel_rfl) code_nil)
  have he : EnvsOk Go.Proofs.Try.prog (cf124 n) := env_nil
  have hl : LmsOk (R := List T) (cf124 n) (drawK (cf124 n)) (lms2 (lsl124 n)) (lsl124 n) := (lms_cons (loops_of (cf := cf124 n) (fn0 := Go.Proofs.Try.f124) rfl (l := [bodyOf Go.Proofs.Try.f124 3]) (by kernel_rfl) (loops_cons (b := bodyOf Go.Proofs.Try.f124 3) (by kernel_rfl) (rfl : lm124_124 n 3 = [L124_124_3 n]) (List.forall_mem_cons.2 ⟨fun K self v => lp124_124_3 n K self v, fun _ h => by cases h⟩) loops_nil)) lms_nil)
  envOk_of (cf := cf124 n) tabOk hc he (draw := drawK (cf124 n)) (fun _ => drawK_ok tabOk mixed hc he) (d := 3) (lms := lms2 (lsl124 n)) hl
    (fun τs rs h => by
      simp only [M124] at h
      split at h
      · exact (ev124 n _).trans h
      · cases h)
/-! ### 56: laws.toMessage -/
def sg56 : Sig := ⟨[(true, [.int .i64, .bool, .slice 5])], [.agg [(.int .i64, false), (.bool, false), (.slice 5, false)]]⟩
def F56 (n : Nat) (x0 x1 x2 : T) : Option (List T) :=
  (F124 n x2).bind fun r1 => some [x0, x1, (r1.headD (.i 0))]
def M56 (n : Nat) (τs : List T) : Option (List T) := match τs with
  | [x0, x1, x2] => F56 n x0 x1 x2
  | _ => none
noncomputable def code56 : List (Nat × Func) := [(56, Go.Proofs.Try.f56)]
def env56 : List (Nat × (Sig × Mean)) := [(124, sg124, ⟨M124⟩)]
def ann56 (f i : Nat) : Ann := match f, i with
  | _, _ => ⟨[], [], []⟩
def lsl56 (n : Nat) : List ((Nat × Nat) × (Nat → List LoopM)) := []
noncomputable def cf56 (n : Nat) : Cfg := ⟨tiOf tab, lookup code56, lookup env56, ann56, n⟩
theorem ev56 (n : Nat) (x0 x1 x2 : T) : evF (cf56 n) (drawK (cf56 n)) (lms2 (lsl56 n)) 3 56 sg56 [x0, x1, x2] = F56 n x0 x1 x2 := by kernel_rfl
theorem eo56 (n : Nat) : EnvOk Go.Proofs.Try.prog (tiOf tab) n 56 sg56 ⟨M56⟩ :=
  have hc : CodeOk Go.Proofs.Try.prog (cf56 n) := (code_cons Go.Proofs.Try.func56 (by kernel_rfl) code_nil)
  have he : EnvsOk Go.Proofs.Try.prog (cf56 n) := (env_cons (eo124 n) env_nil)
  have hl : LmsOk (R := List T) (cf56 n) (drawK (cf56 n)) (lms2 (lsl56 n)) (lsl56 n) := lms_nil
  envOk_of (cf := cf56 n) tabOk hc he (draw := drawK (cf56 n)) (fun _ => drawK_ok tabOk mixed hc he) (d := 3) (lms := lms2 (lsl56 n)) hl
    (fun τs rs h => by
      simp only [M56] at h
      split at h
      · exact (ev56 n _ _ _).trans h
      · cases h)
/-! ### 122: laws.toAddrOp -/
def sg122 : Sig := ⟨[(true, [.int .i64, .int .i64])], [.agg [(.int .i64, false), (.int .i64, false)]]⟩
def F122 (n : Nat) (x0 x1 : T) : Option (List T) :=
  some [x0, x1]
def M122 (n : Nat) (τs : List T) : Option (List T) := match τs with
  | [x0, x1] => F122 n x0 x1
  | _ => none
noncomputable def code122 : List (Nat × Func) := [(122, Go.Proofs.Try.f122)]
def env122 : List (Nat × (Sig × Mean)) := []
def ann122 (f i : Nat) : Ann := match f, i with
  | _, _ => ⟨[], [], []⟩
def lsl122 (n : Nat) : List ((Nat × Nat) × (Nat → List LoopM)) := []
noncomputable def cf122 (n : Nat) : Cfg := ⟨tiOf tab, lookup code122, lookup env122, ann122, n⟩
theorem ev122 (n : Nat) (x0 x1 : T) : evF (cf122 n) (drawK (cf122 n)) (lms2 (lsl122 n)) 3 122 sg122 [x0, x1] = F122 n x0 x1 := by kernel_rfl
theorem eo122 (n : Nat) : EnvOk Go.Proofs.Try.prog (tiOf tab) n 122 sg122 ⟨M122⟩ :=
  have hc : CodeOk Go.Proofs.Try.prog (cf122 n) := (code_cons Go.Proofs.Try.func122 (by kernel_rfl) code_nil)
  have he : EnvsOk Go.Proofs.Try.prog (cf122 n) := env_nil
  have hl : LmsOk (R := List T) (cf122 n) (drawK (cf122 n)) (lms2 (lsl122 n)) (lsl122 n) := lms_nil
  envOk_of (cf := cf122 n) tabOk hc he (draw := drawK (cf122 n)) (fun _ => drawK_ok tabOk mixed hc he) (d := 3) (lms := lms2 (lsl122 n)) hl
    (fun τs rs h => by
      simp only [M122] at h
      split at h
      · exact (ev122 n _ _).trans h
      · cases h)
/-! ### 123: laws.toSecret -/
def sg123 : Sig := ⟨[(true, [.int .i64, .slice 5])], [.agg [(.int .i64, false), (.slice 5, false)]]⟩
def F123 (n : Nat) (x0 x1 : T) : Option (List T) :=
  (F124 n x1).bind fun r1 => some [x0, (r1.headD (.i 0))]
def M123 (n : Nat) (τs : List T) : Option (List T) := match τs with
  | [x0, x1] => F123 n x0 x1
  | _ => none
noncomputable def code123 : List (Nat × Func) := [(123, Go.Proofs.Try.f123)]
def env123 : List (Nat × (Sig × Mean)) := [(124, sg124, ⟨M124⟩)]
def ann123 (f i : Nat) : Ann := match f, i with
  | _, _ => ⟨[], [], []⟩
def lsl123 (n : Nat) : List ((Nat × Nat) × (Nat → List LoopM)) := []
noncomputable def cf123 (n : Nat) : Cfg := ⟨tiOf tab, lookup code123, lookup env123, ann123, n⟩
theorem ev123 (n : Nat) (x0 x1 : T) : evF (cf123 n) (drawK (cf123 n)) (lms2 (lsl123 n)) 3 123 sg123 [x0, x1] = F123 n x0 x1 := by kernel_rfl
theorem eo123 (n : Nat) : EnvOk Go.Proofs.Try.prog (tiOf tab) n 123 sg123 ⟨M123⟩ :=
  have hc : CodeOk Go.Proofs.Try.prog (cf123 n) := (code_cons Go.Proofs.Try.func123 (by kernel_rfl) code_nil)
  have he : EnvsOk Go.Proofs.Try.prog (cf123 n) := (env_cons (eo124 n) env_nil)
  have hl : LmsOk (R := List T) (cf123 n) (drawK (cf123 n)) (lms2 (lsl123 n)) (lsl123 n) := lms_nil
  envOk_of (cf := cf123 n) tabOk hc he (draw := drawK (cf123 n)) (fun _ => drawK_ok tabOk mixed hc he) (d := 3) (lms := lms2 (lsl123 n)) hl
    (fun τs rs h => by
      simp only [M123] at h
      split at h
      · exact (ev123 n _ _).trans h
      · cases h)
/-! ### 51: laws.toStep -/
def sg51 : Sig := ⟨[(true, [.int .i64, .int .i64, .int .i64, .int .i64, .int .i64, .bool, .slice 5, .int .i64, .int .i64, .int .i64, .slice 5, .slice 5])], [.agg [(.int .i64, false), (.int .i64, false), (.int .i64, false), (.int .i64, false), (.int .i64, false), (.bool, false), (.slice 5, false), (.int .i64, false), (.int .i64, false), (.int .i64, false), (.slice 5, false), (.slice 5, false)]]⟩
def F51 (n : Nat) (x0 x1 x2 x3 x4 x5 x6 x7 x8 x9 x10 x11 : T) : Option (List T) :=
  (F56 n x4 x5 x6).bind fun r1 => (F122 n x7 x8).bind fun r2 => (F123 n x9 x10).bind fun r3 => (F124 n x11).bind fun r4 => some [x0, x1, x2, x3, (r1.headD (.i 0)), (r1.tail.headD (.i 0)), (r1.tail.tail.headD (.i 0)), (r2.headD (.i 0)), (r2.tail.headD (.i 0)), (r3.headD (.i 0)), (r3.tail.headD (.i 0)), (r4.headD (.i 0))]
def M51 (n : Nat) (τs : List T) : Option (List T) := match τs with
  | [x0, x1, x2, x3, x4, x5, x6, x7, x8, x9, x10, x11] => F51 n x0 x1 x2 x3 x4 x5 x6 x7 x8 x9 x10 x11
  | _ => none
noncomputable def code51 : List (Nat × Func) := [(51, Go.Proofs.Try.f51)]
def env51 : List (Nat × (Sig × Mean)) := [(56, sg56, ⟨M56⟩), (122, sg122, ⟨M122⟩), (123, sg123, ⟨M123⟩), (124, sg124, ⟨M124⟩)]
def ann51 (f i : Nat) : Ann := match f, i with
  | _, _ => ⟨[], [], []⟩
def lsl51 (n : Nat) : List ((Nat × Nat) × (Nat → List LoopM)) := []
noncomputable def cf51 (n : Nat) : Cfg := ⟨tiOf tab, lookup code51, lookup env51, ann51, n⟩
theorem ev51 (n : Nat) (x0 x1 x2 x3 x4 x5 x6 x7 x8 x9 x10 x11 : T) : evF (cf51 n) (drawK (cf51 n)) (lms2 (lsl51 n)) 3 51 sg51 [x0, x1, x2, x3, x4, x5, x6, x7, x8, x9, x10, x11] = F51 n x0 x1 x2 x3 x4 x5 x6 x7 x8 x9 x10 x11 := by kernel_rfl
theorem eo51 (n : Nat) : EnvOk Go.Proofs.Try.prog (tiOf tab) n 51 sg51 ⟨M51⟩ :=
  have hc : CodeOk Go.Proofs.Try.prog (cf51 n) := (code_cons Go.Proofs.Try.func51 (by kernel_rfl) code_nil)
  have he : EnvsOk Go.Proofs.Try.prog (cf51 n) := (env_cons (eo56 n) (env_cons (eo122 n) (env_cons (eo123 n) (env_cons (eo124 n) env_nil))))
  have hl : LmsOk (R := List T) (cf51 n) (drawK (cf51 n)) (lms2 (lsl51 n)) (lsl51 n) := lms_nil
  envOk_of (cf := cf51 n) tabOk hc he (draw := drawK (cf51 n)) (fun _ => drawK_ok tabOk mixed hc he) (d := 3) (lms := lms2 (lsl51 n)) hl
    (fun τs rs h => by
      simp only [M51] at h
      split at h
      · exact (ev51 n _ _ _ _ _ _ _ _ _ _ _ _).trans h
      · cases h)
/-! ### 81: impl.within -/
def sg81 : Sig := ⟨[(false, [.int .i64]), (false, [.int .i64]), (false, [.int .i64])], [.leaf .bool false]⟩
def F81 (n : Nat) (x0 x1 x2 : T) : Option (List T) :=
  bif (decide (x0.I ≥ x1.I)) then (some [.b (decide (x0.I ≤ x2.I))]) else (some [.b false])
def M81 (n : Nat) (τs : List T) : Option (List T) := match τs with
  | [x0, x1, x2] => F81 n x0 x1 x2
  | _ => none
noncomputable def code81 : List (Nat × Func) := [(81, Go.Proofs.Try.f81)]
def env81 : List (Nat × (Sig × Mean)) := []
def ann81 (f i : Nat) : Ann := match f, i with
  | _, _ => ⟨[], [], []⟩
def lsl81 (n : Nat) : List ((Nat × Nat) × (Nat → List LoopM)) := []
noncomputable def cf81 (n : Nat) : Cfg := ⟨tiOf tab, lookup code81, lookup env81, ann81, n⟩
theorem ev81 (n : Nat) (x0 x1 x2 : T) : evF (cf81 n) (drawK (cf81 n)) (lms2 (lsl81 n)) 3 81 sg81 [x0, x1, x2] = F81 n x0 x1 x2 := by kernel_rfl
theorem eo81 (n : Nat) : EnvOk Go.Proofs.Try.prog (tiOf tab) n 81 sg81 ⟨M81⟩ :=
  have hc : CodeOk Go.Proofs.Try.prog (cf81 n) := (code_cons Go.Proofs.Try.func81 (by kernel_rfl) code_nil)
  have he : EnvsOk Go.Proofs.Try.prog (cf81 n) := env_nil
  have hl : LmsOk (R := List T) (cf81 n) (drawK (cf81 n)) (lms2 (lsl81 n)) (lsl81 n) := lms_nil
  envOk_of (cf := cf81 n) tabOk hc he (draw := drawK (cf81 n)) (fun _ => drawK_ok tabOk mixed hc he) (d := 3) (lms := lms2 (lsl81 n)) hl
    (fun τs rs h => by
      simp only [M81] at h
      split at h
      · exact (ev81 n _ _ _).trans h
      · cases h)
/-! ### 125: impl.Step).bare -/
def sg125 : Sig := ⟨[(true, [.int .i64, .int .i64, .int .i64, .int .i64, .int .i64, .bool, .slice 5, .int .i64, .int .i64, .int .i64, .slice 5, .slice 5])], [.agg [(.int .i64, false), (.int .i64, false), (.int .i64, false), (.int .i64, false), (.int .i64, false), (.bool, false), (.slice 5, false), (.int .i64, false), (.int .i64, false), (.int .i64, false), (.slice 5, false), (.slice 5, false)]]⟩
def F125 (n : Nat) (x0 x1 x2 x3 x4 x5 x6 x7 x8 x9 x10 x11 : T) : Option (List T) :=
  bif (x0.I == 1) then (some [x0, .i 0, x2, x3, x4, x5, x6, x7, x8, x9, x10, x11]) else (bif (x0.I == 5) then (some [x0, .i 0, x2, x3, x4, x5, x6, x7, x8, x9, x10, x11]) else (bif (x0.I == 6) then (some [x0, .i 0, x2, x3, x4, x5, x6, x7, x8, x9, x10, x11]) else (bif (x0.I == 2) then (some [x0, x1, .i 0, x3, x4, x5, x6, x7, x8, x9, x10, x11]) else (bif (x0.I == 8) then (some [x0, x1, .i 0, x3, x4, x5, x6, x7, x8, x9, x10, x11]) else (bif (x0.I == 9) then (some [x0, x1, .i 0, x3, x4, x5, x6, x7, x8, x9, x10, x11]) else (bif (x0.I == 10) then (some [x0, x1, .i 0, x3, x4, x5, x6, x7, x8, x9, x10, x11]) else (bif (x0.I == 3) then (some [x0, .i 0, x2, x3, .i 0, .b false, .l [], x7, x8, x9, x10, x11]) else (bif (x0.I == 4) then (some [x0, .i 0, x2, x3, x4, x5, x6, .i 0, .i 0, x9, x10, x11]) else (bif (x0.I == 7) then (some [x0, .i 0, x2, x3, x4, x5, x6, x7, x8, .i 0, .l [], x11]) else (bif (x0.I == 11) then (some [x0, .i 0, .i 0, .i 0, x4, x5, x6, x7, x8, x9, x10, x11]) else (bif (x0.I == 12) then (some [x0, .i 0, x2, x3, x4, x5, x6, x7, x8, x9, x10, .l []]) else (some [x0, x1, x2, x3, x4, x5, x6, x7, x8, x9, x10, x11]))))))))))))
def M125 (n : Nat) (τs : List T) : Option (List T) := match τs with
  | [x0, x1, x2, x3, x4, x5, x6, x7, x8, x9, x10, x11] => F125 n x0 x1 x2 x3 x4 x5 x6 x7 x8 x9 x10 x11
  | _ => none
noncomputable def code125 : List (Nat × Func) := [(125, Go.Proofs.Try.f125)]
def env125 : List (Nat × (Sig × Mean)) := []
def ann125 (f i : Nat) : Ann := match f, i with
  | _, _ => ⟨[], [], []⟩
def lsl125 (n : Nat) : List ((Nat × Nat) × (Nat → List LoopM)) := []
noncomputable def cf125 (n : Nat) : Cfg := ⟨tiOf tab, lookup code125, lookup env125, ann125, n⟩
theorem ev125 (n : Nat) (x0 x1 x2 x3 x4 x5 x6 x7 x8 x9 x10 x11 : T) : evF (cf125 n) (drawK (cf125 n)) (lms2 (lsl125 n)) 3 125 sg125 [x0, x1, x2, x3, x4, x5, x6, x7, x8, x9, x10, x11] = F125 n x0 x1 x2 x3 x4 x5 x6 x7 x8 x9 x10 x11 := by kernel_rfl
theorem eo125 (n : Nat) : EnvOk Go.Proofs.Try.prog (tiOf tab) n 125 sg125 ⟨M125⟩ :=
  have hc : CodeOk Go.Proofs.Try.prog (cf125 n) := (code_cons Go.Proofs.Try.func125 (by kernel_rfl) code_nil)
  have he : EnvsOk Go.Proofs.Try.prog (cf125 n) := env_nil
  have hl : LmsOk (R := List T) (cf125 n) (drawK (cf125 n)) (lms2 (lsl125 n)) (lsl125 n) := lms_nil
  envOk_of (cf := cf125 n) tabOk hc he (draw := drawK (cf125 n)) (fun _ => drawK_ok tabOk mixed hc he) (d := 3) (lms := lms2 (lsl125 n)) hl
    (fun τs rs h => by
      simp only [M125] at h
      split at h
      · exact (ev125 n _ _ _ _ _ _ _ _ _ _ _ _).trans h
      · cases h)
/-! ### 126: impl.Step).isZero -/
def sg126 : Sig := ⟨[(true, [.int .i64, .int .i64, .int .i64, .int .i64, .int .i64, .bool, .slice 5, .int .i64, .int .i64, .int .i64, .slice 5, .slice 5])], [.leaf .bool false]⟩
def F126 (n : Nat) (x0 x1 x2 x3 x4 x5 x6 x7 x8 x9 x10 x11 : T) : Option (List T) :=
  bif (x1.I == 0) then (bif (x2.I == 0) then (bif (x3.I == 0) then (bif (x4.I == 0) then (bif (!x5.B) then (bif ((x6.L.length : Int) == 0) then (bif ((x7.I == 0) && ((x8.I == 0) && true)) then (bif (x9.I == 0) then (bif ((x10.L.length : Int) == 0) then (some [.b ((x11.L.length : Int) == 0)]) else (some [.b false])) else (some [.b false])) else (some [.b false])) else (some [.b false])) else (some [.b false])) else (some [.b false])) else (some [.b false])) else (some [.b false])) else (some [.b false])
def M126 (n : Nat) (τs : List T) : Option (List T) := match τs with
  | [x0, x1, x2, x3, x4, x5, x6, x7, x8, x9, x10, x11] => F126 n x0 x1 x2 x3 x4 x5 x6 x7 x8 x9 x10 x11
  | _ => none
noncomputable def code126 : List (Nat × Func) := [(126, Go.Proofs.Try.f126)]
def env126 : List (Nat × (Sig × Mean)) := []
def ann126 (f i : Nat) : Ann := match f, i with
  | _, _ => ⟨[], [], []⟩
def lsl126 (n : Nat) : List ((Nat × Nat) × (Nat → List LoopM)) := []
noncomputable def cf126 (n : Nat) : Cfg := ⟨tiOf tab, lookup code126, lookup env126, ann126, n⟩
theorem ev126 (n : Nat) (x0 x1 x2 x3 x4 x5 x6 x7 x8 x9 x10 x11 : T) : evF (cf126 n) (drawK (cf126 n)) (lms2 (lsl126 n)) 3 126 sg126 [x0, x1, x2, x3, x4, x5, x6, x7, x8, x9, x10, x11] = F126 n x0 x1 x2 x3 x4 x5 x6 x7 x8 x9 x10 x11 := by kernel_rfl
theorem eo126 (n : Nat) : EnvOk Go.Proofs.Try.prog (tiOf tab) n 126 sg126 ⟨M126⟩ :=
  have hc : CodeOk Go.Proofs.Try.prog (cf126 n) := (code_cons Go.Proofs.Try.func126 (by kernel_rfl) code_nil)
  have he : EnvsOk Go.Proofs.Try.prog (cf126 n) := env_nil
  have hl : LmsOk (R := List T) (cf126 n) (drawK (cf126 n)) (lms2 (lsl126 n)) (lsl126 n) := lms_nil
  envOk_of (cf := cf126 n) tabOk hc he (draw := drawK (cf126 n)) (fun _ => drawK_ok tabOk mixed hc he) (d := 3) (lms := lms2 (lsl126 n)) hl
    (fun τs rs h => by
      simp only [M126] at h
      split at h
      · exact (ev126 n _ _ _ _ _ _ _ _ _ _ _ _).trans h
      · cases h)
/-! ### 170: impl.isSide -/
def sg170 : Sig := ⟨[(false, [.int .i64])], [.leaf .bool false]⟩
def F170 (n : Nat) (x0 : T) : Option (List T) :=
  (F81 n x0 (.i 0) (.i 1)).bind fun r1 => some [(r1.headD (.i 0))]
def M170 (n : Nat) (τs : List T) : Option (List T) := match τs with
  | [x0] => F170 n x0
  | _ => none
noncomputable def code170 : List (Nat × Func) := [(170, Go.Proofs.Try.f170)]
def env170 : List (Nat × (Sig × Mean)) := [(81, sg81, ⟨M81⟩)]
def ann170 (f i : Nat) : Ann := match f, i with
  | _, _ => ⟨[], [], []⟩
def lsl170 (n : Nat) : List ((Nat × Nat) × (Nat → List LoopM)) := []
noncomputable def cf170 (n : Nat) : Cfg := ⟨tiOf tab, lookup code170, lookup env170, ann170, n⟩
theorem ev170 (n : Nat) (x0 : T) : evF (cf170 n) (drawK (cf170 n)) (lms2 (lsl170 n)) 3 170 sg170 [x0] = F170 n x0 := by kernel_rfl
theorem eo170 (n : Nat) : EnvOk Go.Proofs.Try.prog (tiOf tab) n 170 sg170 ⟨M170⟩ :=
  have hc : CodeOk Go.Proofs.Try.prog (cf170 n) := (code_cons Go.Proofs.Try.func170 (by kernel_rfl) code_nil)
  have he : EnvsOk Go.Proofs.Try.prog (cf170 n) := (env_cons (eo81 n) env_nil)
  have hl : LmsOk (R := List T) (cf170 n) (drawK (cf170 n)) (lms2 (lsl170 n)) (lsl170 n) := lms_nil
  envOk_of (cf := cf170 n) tabOk hc he (draw := drawK (cf170 n)) (fun _ => drawK_ok tabOk mixed hc he) (d := 3) (lms := lms2 (lsl170 n)) hl
    (fun τs rs h => by
      simp only [M170] at h
      split at h
      · exact (ev170 n _).trans h
      · cases h)
/-! ### 127: impl.Step).isBound -/
def sg127 : Sig := ⟨[(true, [.int .i64, .int .i64, .int .i64, .int .i64, .int .i64, .bool, .slice 5, .int .i64, .int .i64, .int .i64, .slice 5, .slice 5])], [.leaf .bool false]⟩
def F127 (n : Nat) (x0 x1 x2 x3 x4 x5 x6 x7 x8 x9 x10 x11 : T) : Option (List T) :=
  bif (x0.I == 2) then ((F81 n x2 (.i 0) (.i 1000000)).bind fun r1 => some [(r1.headD (.i 0))]) else (bif (x0.I == 8) then ((F81 n x2 (.i 0) (.i 59)).bind fun r2 => some [(r2.headD (.i 0))]) else (bif (x0.I == 9) then ((F81 n x2 (.i 0) (.i 59)).bind fun r3 => some [(r3.headD (.i 0))]) else (bif (x0.I == 10) then ((F81 n x2 (.i 0) (.i 59)).bind fun r4 => some [(r4.headD (.i 0))]) else (bif (x0.I == 11) then ((F81 n x2 (.i 0) (.i 59)).bind fun r5 => bif (r5.headD (.i 0)).B then ((F81 n x1 (.i 0) (.i 499)).bind fun r6 => bif (r6.headD (.i 0)).B then ((F81 n x3 (.i 1) (.i 255)).bind fun r7 => some [(r7.headD (.i 0))]) else (some [.b false])) else (some [.b false])) else ((F170 n x1).bind fun r8 => some [(r8.headD (.i 0))])))))
def M127 (n : Nat) (τs : List T) : Option (List T) := match τs with
  | [x0, x1, x2, x3, x4, x5, x6, x7, x8, x9, x10, x11] => F127 n x0 x1 x2 x3 x4 x5 x6 x7 x8 x9 x10 x11
  | _ => none
noncomputable def code127 : List (Nat × Func) := [(127, Go.Proofs.Try.f127)]
def env127 : List (Nat × (Sig × Mean)) := [(81, sg81, ⟨M81⟩), (170, sg170, ⟨M170⟩)]
def ann127 (f i : Nat) : Ann := match f, i with
  | _, _ => ⟨[], [], []⟩
def lsl127 (n : Nat) : List ((Nat × Nat) × (Nat → List LoopM)) := []
noncomputable def cf127 (n : Nat) : Cfg := ⟨tiOf tab, lookup code127, lookup env127, ann127, n⟩
theorem ev127 (n : Nat) (x0 x1 x2 x3 x4 x5 x6 x7 x8 x9 x10 x11 : T) : evF (cf127 n) (drawK (cf127 n)) (lms2 (lsl127 n)) 3 127 sg127 [x0, x1, x2, x3, x4, x5, x6, x7, x8, x9, x10, x11] = F127 n x0 x1 x2 x3 x4 x5 x6 x7 x8 x9 x10 x11 := by kernel_rfl
theorem eo127 (n : Nat) : EnvOk Go.Proofs.Try.prog (tiOf tab) n 127 sg127 ⟨M127⟩ :=
  have hc : CodeOk Go.Proofs.Try.prog (cf127 n) := (code_cons Go.Proofs.Try.func127 (by kernel_rfl) code_nil)
  have he : EnvsOk Go.Proofs.Try.prog (cf127 n) := (env_cons (eo81 n) (env_cons (eo170 n) env_nil))
  have hl : LmsOk (R := List T) (cf127 n) (drawK (cf127 n)) (lms2 (lsl127 n)) (lsl127 n) := lms_nil
  envOk_of (cf := cf127 n) tabOk hc he (draw := drawK (cf127 n)) (fun _ => drawK_ok tabOk mixed hc he) (d := 3) (lms := lms2 (lsl127 n)) hl
    (fun τs rs h => by
      simp only [M127] at h
      split at h
      · exact (ev127 n _ _ _ _ _ _ _ _ _ _ _ _).trans h
      · cases h)
/-! ### 171: impl.isStream -/
def sg171 : Sig := ⟨[(false, [.int .i64])], [.leaf .bool false]⟩
def F171 (n : Nat) (x0 : T) : Option (List T) :=
  (F81 n x0 (.i 0) (.i 9)).bind fun r1 => some [(r1.headD (.i 0))]
def M171 (n : Nat) (τs : List T) : Option (List T) := match τs with
  | [x0] => F171 n x0
  | _ => none
noncomputable def code171 : List (Nat × Func) := [(171, Go.Proofs.Try.f171)]
def env171 : List (Nat × (Sig × Mean)) := [(81, sg81, ⟨M81⟩)]
def ann171 (f i : Nat) : Ann := match f, i with
  | _, _ => ⟨[], [], []⟩
def lsl171 (n : Nat) : List ((Nat × Nat) × (Nat → List LoopM)) := []
noncomputable def cf171 (n : Nat) : Cfg := ⟨tiOf tab, lookup code171, lookup env171, ann171, n⟩
theorem ev171 (n : Nat) (x0 : T) : evF (cf171 n) (drawK (cf171 n)) (lms2 (lsl171 n)) 3 171 sg171 [x0] = F171 n x0 := by kernel_rfl
theorem eo171 (n : Nat) : EnvOk Go.Proofs.Try.prog (tiOf tab) n 171 sg171 ⟨M171⟩ :=
  have hc : CodeOk Go.Proofs.Try.prog (cf171 n) := (code_cons Go.Proofs.Try.func171 (by kernel_rfl) code_nil)
  have he : EnvsOk Go.Proofs.Try.prog (cf171 n) := (env_cons (eo81 n) env_nil)
  have hl : LmsOk (R := List T) (cf171 n) (drawK (cf171 n)) (lms2 (lsl171 n)) (lsl171 n) := lms_nil
  envOk_of (cf := cf171 n) tabOk hc he (draw := drawK (cf171 n)) (fun _ => drawK_ok tabOk mixed hc he) (d := 3) (lms := lms2 (lsl171 n)) hl
    (fun τs rs h => by
      simp only [M171] at h
      split at h
      · exact (ev171 n _).trans h
      · cases h)
/-! ### 128: impl.MessageFault -/
def sg128 : Sig := ⟨[(true, [.int .i64, .bool, .slice 5])], [.leaf (.int .i64) false]⟩
def F128 (n : Nat) (x0 x1 x2 : T) : Option (List T) :=
  (F171 n x0).bind fun r1 => bif (!(r1.headD (.i 0)).B) then (some [.i 3]) else ((F81 n (.i (x2.L.length : Int)) (.i 1) (.i 400)).bind fun r2 => bif (!(r2.headD (.i 0)).B) then (some [.i 2]) else (some [.i 0]))
def M128 (n : Nat) (τs : List T) : Option (List T) := match τs with
  | [x0, x1, x2] => F128 n x0 x1 x2
  | _ => none
noncomputable def code128 : List (Nat × Func) := [(128, Go.Proofs.Try.f128)]
def env128 : List (Nat × (Sig × Mean)) := [(81, sg81, ⟨M81⟩), (171, sg171, ⟨M171⟩)]
def ann128 (f i : Nat) : Ann := match f, i with
  | _, _ => ⟨[], [], []⟩
def lsl128 (n : Nat) : List ((Nat × Nat) × (Nat → List LoopM)) := []
noncomputable def cf128 (n : Nat) : Cfg := ⟨tiOf tab, lookup code128, lookup env128, ann128, n⟩
theorem ev128 (n : Nat) (x0 x1 x2 : T) : evF (cf128 n) (drawK (cf128 n)) (lms2 (lsl128 n)) 3 128 sg128 [x0, x1, x2] = F128 n x0 x1 x2 := by kernel_rfl
theorem eo128 (n : Nat) : EnvOk Go.Proofs.Try.prog (tiOf tab) n 128 sg128 ⟨M128⟩ :=
  have hc : CodeOk Go.Proofs.Try.prog (cf128 n) := (code_cons Go.Proofs.Try.func128 (by kernel_rfl) code_nil)
  have he : EnvsOk Go.Proofs.Try.prog (cf128 n) := (env_cons (eo81 n) (env_cons (eo171 n) env_nil))
  have hl : LmsOk (R := List T) (cf128 n) (drawK (cf128 n)) (lms2 (lsl128 n)) (lsl128 n) := lms_nil
  envOk_of (cf := cf128 n) tabOk hc he (draw := drawK (cf128 n)) (fun _ => drawK_ok tabOk mixed hc he) (d := 3) (lms := lms2 (lsl128 n)) hl
    (fun τs rs h => by
      simp only [M128] at h
      split at h
      · exact (ev128 n _ _ _).trans h
      · cases h)
/-! ### 52: impl.StepFault -/
def sg52 : Sig := ⟨[(true, [.int .i64, .int .i64, .int .i64, .int .i64, .int .i64, .bool, .slice 5, .int .i64, .int .i64, .int .i64, .slice 5, .slice 5])], [.leaf (.int .i64) false]⟩
def F52 (n : Nat) (x0 x1 x2 x3 x4 x5 x6 x7 x8 x9 x10 x11 : T) : Option (List T) :=
  (F81 n x0 (.i 1) (.i 12)).bind fun r1 => bif (!(r1.headD (.i 0)).B) then (some [.i 1]) else ((F125 n x0 x1 x2 x3 x4 x5 x6 x7 x8 x9 x10 x11).bind fun r2 => (F126 n (r2.headD (.i 0)) (r2.tail.headD (.i 0)) (r2.tail.tail.headD (.i 0)) (r2.tail.tail.tail.headD (.i 0)) (r2.tail.tail.tail.tail.headD (.i 0)) (r2.tail.tail.tail.tail.tail.headD (.i 0)) (r2.tail.tail.tail.tail.tail.tail.headD (.i 0)) (r2.tail.tail.tail.tail.tail.tail.tail.headD (.i 0)) (r2.tail.tail.tail.tail.tail.tail.tail.tail.headD (.i 0)) (r2.tail.tail.tail.tail.tail.tail.tail.tail.tail.headD (.i 0)) (r2.tail.tail.tail.tail.tail.tail.tail.tail.tail.tail.headD (.i 0)) (r2.tail.tail.tail.tail.tail.tail.tail.tail.tail.tail.tail.headD (.i 0))).bind fun r3 => bif (!(r3.headD (.i 0)).B) then (some [.i 1]) else ((F127 n x0 x1 x2 x3 x4 x5 x6 x7 x8 x9 x10 x11).bind fun r4 => bif (!(r4.headD (.i 0)).B) then (some [.i 3]) else (bif (decide ((x11.L.length : Int) > 500)) then (some [.i 2]) else (bif (x0.I == 3) then ((F128 n x4 x5 x6).bind fun r5 => some [(r5.headD (.i 0))]) else (some [.i 0])))))
def M52 (n : Nat) (τs : List T) : Option (List T) := match τs with
  | [x0, x1, x2, x3, x4, x5, x6, x7, x8, x9, x10, x11] => F52 n x0 x1 x2 x3 x4 x5 x6 x7 x8 x9 x10 x11
  | _ => none
noncomputable def code52 : List (Nat × Func) := [(52, Go.Proofs.Try.f52)]
def env52 : List (Nat × (Sig × Mean)) := [(81, sg81, ⟨M81⟩), (125, sg125, ⟨M125⟩), (126, sg126, ⟨M126⟩), (127, sg127, ⟨M127⟩), (128, sg128, ⟨M128⟩)]
def ann52 (f i : Nat) : Ann := match f, i with
  | _, _ => ⟨[], [], []⟩
def lsl52 (n : Nat) : List ((Nat × Nat) × (Nat → List LoopM)) := []
noncomputable def cf52 (n : Nat) : Cfg := ⟨tiOf tab, lookup code52, lookup env52, ann52, n⟩
theorem ev52 (n : Nat) (x0 x1 x2 x3 x4 x5 x6 x7 x8 x9 x10 x11 : T) : evF (cf52 n) (drawK (cf52 n)) (lms2 (lsl52 n)) 3 52 sg52 [x0, x1, x2, x3, x4, x5, x6, x7, x8, x9, x10, x11] = F52 n x0 x1 x2 x3 x4 x5 x6 x7 x8 x9 x10 x11 := by kernel_rfl
theorem eo52 (n : Nat) : EnvOk Go.Proofs.Try.prog (tiOf tab) n 52 sg52 ⟨M52⟩ :=
  have hc : CodeOk Go.Proofs.Try.prog (cf52 n) := (code_cons Go.Proofs.Try.func52 (by kernel_rfl) code_nil)
  have he : EnvsOk Go.Proofs.Try.prog (cf52 n) := (env_cons (eo81 n) (env_cons (eo125 n) (env_cons (eo126 n) (env_cons (eo127 n) (env_cons (eo128 n) env_nil)))))
  have hl : LmsOk (R := List T) (cf52 n) (drawK (cf52 n)) (lms2 (lsl52 n)) (lsl52 n) := lms_nil
  envOk_of (cf := cf52 n) tabOk hc he (draw := drawK (cf52 n)) (fun _ => drawK_ok tabOk mixed hc he) (d := 3) (lms := lms2 (lsl52 n)) hl
    (fun τs rs h => by
      simp only [M52] at h
      split at h
      · exact (ev52 n _ _ _ _ _ _ _ _ _ _ _ _).trans h
      · cases h)
/-! ### 131: laws.eqByteS -/
def sg131 : Sig := ⟨[(false, [.slice 5]), (false, [.slice 5])], [.leaf .bool false]⟩
def G131_131_4 {R : Type} (n : Nat) (v : List T) (self : List T → Option R) (ex : List (List T → Option R)) : Option R :=
  bif (decide ((v.getD 2 (.i 0)).I < ((((v.getD 0 (.i 0)).L).length : Nat) : Int))) then (if 0 ≤ (v.getD 2 (.i 0)).I ∧ (v.getD 2 (.i 0)).I < (((v.getD 0 (.i 0)).L).length : Int) then (if 0 ≤ (v.getD 2 (.i 0)).I ∧ (v.getD 2 (.i 0)).I < (((v.getD 1 (.i 0)).L).length : Int) then (bif ((at_ ((v.getD 0 (.i 0)).L) ((v.getD 2 (.i 0)).I)).I != (at_ ((v.getD 1 (.i 0)).L) ((v.getD 2 (.i 0)).I)).I) then (exn ex 0 [.b false]) else (self [.l ((v.getD 0 (.i 0)).L), .l ((v.getD 1 (.i 0)).L), .i (IntKind.wrap .i64 ((v.getD 2 (.i 0)).I + 1))])) else none) else none) else (exn ex 1 [])
def L131_131_4 (n : Nat) : LoopM := ⟨⟨[[.t (.slice 5) (.i 0), .t (.slice 5) (.i 0), .un, .un, .un, .t (.int .i64) (.i 0), .un, .un, .un, .un, .un, .un, .un, .un, .un, .un, .un, .un, .un, .un, .un, .un, .un, .un, .un, .un]], []⟩, [(.ret, ⟨[[.un, .un, .un, .un, .t .bool (.i 0), .un, .un, .un, .un, .un, .un, .un, .un, .un, .un, .un, .un, .un, .un, .un, .un, .un, .un, .un, .un, .un]], []⟩), (.exit 0, ⟨[[.un, .un, .un, .un, .un, .un, .un, .un, .un, .un, .un, .un, .un, .un, .un, .un, .un, .un, .un, .un, .un, .un, .un, .un, .un, .un]], []⟩)], fun v self ex => G131_131_4 n v self ex⟩
def F131 (n : Nat) (x0 x1 : T) : Option (List T) :=
  bif ((x0.L.length : Int) != (x1.L.length : Int)) then (some [.b false]) else (loopR (L131_131_4 n).G n [.l x0.L, .l x1.L, .i 0] [fun u1 => some [.b ((u1.getD 0 (.i 0)).B)], fun u2 => some [.b true]])
def M131 (n : Nat) (τs : List T) : Option (List T) := match τs with
  | [x0, x1] => F131 n x0 x1
  | _ => none
noncomputable def code131 : List (Nat × Func) := [(131, Go.Proofs.Try.f131)]
def env131 : List (Nat × (Sig × Mean)) := []
def ann131 (f i : Nat) : Ann := match f, i with
  | 131, 4 => ⟨[(0, .any), (1, .any), (5, .any)], [], [(4, .any)]⟩
  | _, _ => ⟨[], [], []⟩
def lm131_131 (n : Nat) (i : Nat) : List LoopM := match i with
  | 4 => [L131_131_4 n]
  | _ => []
def lsl131 (n : Nat) : List ((Nat × Nat) × (Nat → List LoopM)) := [((3, 131), lm131_131 n)]
noncomputable def cf131 (n : Nat) : Cfg := ⟨tiOf tab, lookup code131, lookup env131, ann131, n⟩
theorem ev131 (n : Nat) (x0 x1 : T) : evF (cf131 n) (drawK (cf131 n)) (lms2 (lsl131 n)) 3 131 sg131 [x0, x1] = F131 n x0 x1 := by kernel_rfl
theorem lp131_131_4 (n : Nat) (K : Ex → St → Option (List T)) (self : List T → Option (List T)) (v : List T) : evC (cf131 n) (callK (cf131 n) (drawK (cf131 n)) (lms2 (lsl131 n)) 3) (drawK (cf131 n) (callK (cf131 n) (drawK (cf131 n)) (lms2 (lsl131 n)) 3)) (ann131 131) (lm131_131 n) (bodyOf Go.Proofs.Try.f131 4) ((L131_131_4 n).sk.fill v) (roundK (ann131 131 4) K (selfK (L131_131_4 n) self)) = (L131_131_4 n).G v self (exitK (L131_131_4 n) K) := by kernel_rfl
theorem eo131 (n : Nat) : EnvOk Go.Proofs.Try.prog (tiOf tab) n 131 sg131 ⟨M131⟩ :=
  have hc : CodeOk Go.Proofs.Try.prog (cf131 n) := (code_cons Go.Proofs.Try.func131 (by kernel_rfl) code_nil)
  have he : EnvsOk Go.Proofs.Try.prog (cf131 n) := env_nil
  have hl : LmsOk (R := List T) (cf131 n) (drawK (cf131 n)) (lms2 (lsl131 n)) (lsl131 n) := (lms_cons (loops_of (cf := cf131 n) (fn0 := Go.Proofs.Try.f131) rfl (l := [bodyOf Go.Proofs.Try.f131 4]) (by kernel_rfl) (loops_cons (b := bodyOf Go.Proofs.Try.f131 4) (by kernel_rfl) (rfl : lm131_131 n 4 = [L131_131_4 n]) (List.forall_mem_cons.2 ⟨fun K self v => lp131_131_4 n K self v, fun _ h => by cases h⟩) loops_nil)) lms_nil)
  envOk_of (cf := cf131 n) tabOk hc he (draw := drawK (cf131 n)) (fun _ => drawK_ok tabOk mixed hc he) (d := 3) (lms := lms2 (lsl131 n)) hl
    (fun τs rs h => by
      simp only [M131] at h
      split at h
      · exact (ev131 n _ _).trans h
      · cases h)
/-! ### 59: laws.eqMessage -/
def sg59 : Sig := ⟨[(true, [.int .i64, .bool, .slice 5]), (true, [.int .i64, .bool, .slice 5])], [.leaf .bool false]⟩
def F59 (n : Nat) (x0 x1 x2 x3 x4 x5 : T) : Option (List T) :=
  bif (x0.I != x3.I) then (some [.b false]) else (bif (!(x1.B == x4.B)) then (some [.b false]) else ((F131 n x2 x5).bind fun r1 => bif (!(r1.headD (.i 0)).B) then (some [.b false]) else (some [.b true])))
def M59 (n : Nat) (τs : List T) : Option (List T) := match τs with
  | [x0, x1, x2, x3, x4, x5] => F59 n x0 x1 x2 x3 x4 x5
  | _ => none
noncomputable def code59 : List (Nat × Func) := [(59, Go.Proofs.Try.f59)]
def env59 : List (Nat × (Sig × Mean)) := [(131, sg131, ⟨M131⟩)]
def ann59 (f i : Nat) : Ann := match f, i with
  | _, _ => ⟨[], [], []⟩
def lsl59 (n : Nat) : List ((Nat × Nat) × (Nat → List LoopM)) := []
noncomputable def cf59 (n : Nat) : Cfg := ⟨tiOf tab, lookup code59, lookup env59, ann59, n⟩
theorem ev59 (n : Nat) (x0 x1 x2 x3 x4 x5 : T) : evF (cf59 n) (drawK (cf59 n)) (lms2 (lsl59 n)) 3 59 sg59 [x0, x1, x2, x3, x4, x5] = F59 n x0 x1 x2 x3 x4 x5 := by kernel_rfl
theorem eo59 (n : Nat) : EnvOk Go.Proofs.Try.prog (tiOf tab) n 59 sg59 ⟨M59⟩ :=
  have hc : CodeOk Go.Proofs.Try.prog (cf59 n) := (code_cons Go.Proofs.Try.func59 (by kernel_rfl) code_nil)
  have he : EnvsOk Go.Proofs.Try.prog (cf59 n) := (env_cons (eo131 n) env_nil)
  have hl : LmsOk (R := List T) (cf59 n) (drawK (cf59 n)) (lms2 (lsl59 n)) (lsl59 n) := lms_nil
  envOk_of (cf := cf59 n) tabOk hc he (draw := drawK (cf59 n)) (fun _ => drawK_ok tabOk mixed hc he) (d := 3) (lms := lms2 (lsl59 n)) hl
    (fun τs rs h => by
      simp only [M59] at h
      split at h
      · exact (ev59 n _ _ _ _ _ _).trans h
      · cases h)
/-! ### 129: laws.eqAddrOp -/
def sg129 : Sig := ⟨[(true, [.int .i64, .int .i64]), (true, [.int .i64, .int .i64])], [.leaf .bool false]⟩
def F129 (n : Nat) (x0 x1 x2 x3 : T) : Option (List T) :=
  bif (x0.I != x2.I) then (some [.b false]) else (bif (x1.I != x3.I) then (some [.b false]) else (some [.b true]))
def M129 (n : Nat) (τs : List T) : Option (List T) := match τs with
  | [x0, x1, x2, x3] => F129 n x0 x1 x2 x3
  | _ => none
noncomputable def code129 : List (Nat × Func) := [(129, Go.Proofs.Try.f129)]
def env129 : List (Nat × (Sig × Mean)) := []
def ann129 (f i : Nat) : Ann := match f, i with
  | _, _ => ⟨[], [], []⟩
def lsl129 (n : Nat) : List ((Nat × Nat) × (Nat → List LoopM)) := []
noncomputable def cf129 (n : Nat) : Cfg := ⟨tiOf tab, lookup code129, lookup env129, ann129, n⟩
theorem ev129 (n : Nat) (x0 x1 x2 x3 : T) : evF (cf129 n) (drawK (cf129 n)) (lms2 (lsl129 n)) 3 129 sg129 [x0, x1, x2, x3] = F129 n x0 x1 x2 x3 := by kernel_rfl
theorem eo129 (n : Nat) : EnvOk Go.Proofs.Try.prog (tiOf tab) n 129 sg129 ⟨M129⟩ :=
  have hc : CodeOk Go.Proofs.Try.prog (cf129 n) := (code_cons Go.Proofs.Try.func129 (by kernel_rfl) code_nil)
  have he : EnvsOk Go.Proofs.Try.prog (cf129 n) := env_nil
  have hl : LmsOk (R := List T) (cf129 n) (drawK (cf129 n)) (lms2 (lsl129 n)) (lsl129 n) := lms_nil
  envOk_of (cf := cf129 n) tabOk hc he (draw := drawK (cf129 n)) (fun _ => drawK_ok tabOk mixed hc he) (d := 3) (lms := lms2 (lsl129 n)) hl
    (fun τs rs h => by
      simp only [M129] at h
      split at h
      · exact (ev129 n _ _ _ _).trans h
      · cases h)
/-! ### 130: laws.eqSecret -/
def sg130 : Sig := ⟨[(true, [.int .i64, .slice 5]), (true, [.int .i64, .slice 5])], [.leaf .bool false]⟩
def F130 (n : Nat) (x0 x1 x2 x3 : T) : Option (List T) :=
  bif (x0.I != x2.I) then (some [.b false]) else ((F131 n x1 x3).bind fun r1 => bif (!(r1.headD (.i 0)).B) then (some [.b false]) else (some [.b true]))
def M130 (n : Nat) (τs : List T) : Option (List T) := match τs with
  | [x0, x1, x2, x3] => F130 n x0 x1 x2 x3
  | _ => none
noncomputable def code130 : List (Nat × Func) := [(130, Go.Proofs.Try.f130)]
def env130 : List (Nat × (Sig × Mean)) := [(131, sg131, ⟨M131⟩)]
def ann130 (f i : Nat) : Ann := match f, i with
  | _, _ => ⟨[], [], []⟩
def lsl130 (n : Nat) : List ((Nat × Nat) × (Nat → List LoopM)) := []
noncomputable def cf130 (n : Nat) : Cfg := ⟨tiOf tab, lookup code130, lookup env130, ann130, n⟩
theorem ev130 (n : Nat) (x0 x1 x2 x3 : T) : evF (cf130 n) (drawK (cf130 n)) (lms2 (lsl130 n)) 3 130 sg130 [x0, x1, x2, x3] = F130 n x0 x1 x2 x3 := by kernel_rfl
theorem eo130 (n : Nat) : EnvOk Go.Proofs.Try.prog (tiOf tab) n 130 sg130 ⟨M130⟩ :=
  have hc : CodeOk Go.Proofs.Try.prog (cf130 n) := (code_cons Go.Proofs.Try.func130 (by kernel_rfl) code_nil)
  have he : EnvsOk Go.Proofs.Try.prog (cf130 n) := (env_cons (eo131 n) env_nil)
  have hl : LmsOk (R := List T) (cf130 n) (drawK (cf130 n)) (lms2 (lsl130 n)) (lsl130 n) := lms_nil
  envOk_of (cf := cf130 n) tabOk hc he (draw := drawK (cf130 n)) (fun _ => drawK_ok tabOk mixed hc he) (d := 3) (lms := lms2 (lsl130 n)) hl
    (fun τs rs h => by
      simp only [M130] at h
      split at h
      · exact (ev130 n _ _ _ _).trans h
      · cases h)
/-! ### 53: laws.eqStep -/
def sg53 : Sig := ⟨[(true, [.int .i64, .int .i64, .int .i64, .int .i64, .int .i64, .bool, .slice 5, .int .i64, .int .i64, .int .i64, .slice 5, .slice 5]), (true, [.int .i64, .int .i64, .int .i64, .int .i64, .int .i64, .bool, .slice 5, .int .i64, .int .i64, .int .i64, .slice 5, .slice 5])], [.leaf .bool false]⟩
def F53 (n : Nat) (x0 x1 x2 x3 x4 x5 x6 x7 x8 x9 x10 x11 x12 x13 x14 x15 x16 x17 x18 x19 x20 x21 x22 x23 : T) : Option (List T) :=
  bif (x0.I != x12.I) then (some [.b false]) else (bif (x1.I != x13.I) then (some [.b false]) else (bif (x2.I != x14.I) then (some [.b false]) else (bif (x3.I != x15.I) then (some [.b false]) else ((F59 n x4 x5 x6 x16 x17 x18).bind fun r1 => bif (!(r1.headD (.i 0)).B) then (some [.b false]) else ((F129 n x7 x8 x19 x20).bind fun r2 => bif (!(r2.headD (.i 0)).B) then (some [.b false]) else ((F130 n x9 x10 x21 x22).bind fun r3 => bif (!(r3.headD (.i 0)).B) then (some [.b false]) else ((F131 n x11 x23).bind fun r4 => bif (!(r4.headD (.i 0)).B) then (some [.b false]) else (some [.b true]))))))))
def M53 (n : Nat) (τs : List T) : Option (List T) := match τs with
  | [x0, x1, x2, x3, x4, x5, x6, x7, x8, x9, x10, x11, x12, x13, x14, x15, x16, x17, x18, x19, x20, x21, x22, x23] => F53 n x0 x1 x2 x3 x4 x5 x6 x7 x8 x9 x10 x11 x12 x13 x14 x15 x16 x17 x18 x19 x20 x21 x22 x23
  | _ => none
noncomputable def code53 : List (Nat × Func) := [(53, Go.Proofs.Try.f53)]
def env53 : List (Nat × (Sig × Mean)) := [(59, sg59, ⟨M59⟩), (129, sg129, ⟨M129⟩), (130, sg130, ⟨M130⟩), (131, sg131, ⟨M131⟩)]
def ann53 (f i : Nat) : Ann := match f, i with
  | _, _ => ⟨[], [], []⟩
def lsl53 (n : Nat) : List ((Nat × Nat) × (Nat → List LoopM)) := []
noncomputable def cf53 (n : Nat) : Cfg := ⟨tiOf tab, lookup code53, lookup env53, ann53, n⟩
theorem ev53 (n : Nat) (x0 x1 x2 x3 x4 x5 x6 x7 x8 x9 x10 x11 x12 x13 x14 x15 x16 x17 x18 x19 x20 x21 x22 x23 : T) : evF (cf53 n) (drawK (cf53 n)) (lms2 (lsl53 n)) 3 53 sg53 [x0, x1, x2, x3, x4, x5, x6, x7, x8, x9, x10, x11, x12, x13, x14, x15, x16, x17, x18, x19, x20, x21, x22, x23] = F53 n x0 x1 x2 x3 x4 x5 x6 x7 x8 x9 x10 x11 x12 x13 x14 x15 x16 x17 x18 x19 x20 x21 x22 x23 := by kernel_rfl
theorem eo53 (n : Nat) : EnvOk Go.Proofs.Try.prog (tiOf tab) n 53 sg53 ⟨M53⟩ :=
  have hc : CodeOk Go.Proofs.Try.prog (cf53 n) := (code_cons Go.Proofs.Try.func53 (by kernel_rfl) code_nil)
  have he : EnvsOk Go.Proofs.Try.prog (cf53 n) := (env_cons (eo59 n) (env_cons (eo129 n) (env_cons (eo130 n) (env_cons (eo131 n) env_nil))))
  have hl : LmsOk (R := List T) (cf53 n) (drawK (cf53 n)) (lms2 (lsl53 n)) (lsl53 n) := lms_nil
  envOk_of (cf := cf53 n) tabOk hc he (draw := drawK (cf53 n)) (fun _ => drawK_ok tabOk mixed hc he) (d := 3) (lms := lms2 (lsl53 n)) hl
    (fun τs rs h => by
      simp only [M53] at h
      split at h
      · exact (ev53 n _ _ _ _ _ _ _ _ _ _ _ _ _ _ _ _ _ _ _ _ _ _ _ _).trans h
      · cases h)
/-! ### 8: laws.FnExactStepFault -/
def sg8 : Sig := ⟨[(true, [.int .i64, .int .i64, .int .i64, .int .i64, .int .i64, .bool, .slice 5, .int .i64, .int .i64, .int .i64, .slice 5, .slice 5])], [.leaf .bool false]⟩
def F8 (n : Nat) (x0 x1 x2 x3 x4 x5 x6 x7 x8 x9 x10 x11 : T) : Option (List T) :=
  (F49 n x0 x1 x2 x3 x4 x5 x6 x7 x8 x9 x10 x11 (.i 1048576)).bind fun r1 => bif (decide ((r1.headD (.i 0)).I < 0)) then (some [.b true]) else ((F51 n x0 x1 x2 x3 x4 x5 x6 x7 x8 x9 x10 x11).bind fun r2 => (F50 n (r2.headD (.i 0)) (r2.tail.headD (.i 0)) (r2.tail.tail.headD (.i 0)) (r2.tail.tail.tail.headD (.i 0)) (r2.tail.tail.tail.tail.headD (.i 0)) (r2.tail.tail.tail.tail.tail.headD (.i 0)) (r2.tail.tail.tail.tail.tail.tail.headD (.i 0)) (r2.tail.tail.tail.tail.tail.tail.tail.headD (.i 0)) (r2.tail.tail.tail.tail.tail.tail.tail.tail.headD (.i 0)) (r2.tail.tail.tail.tail.tail.tail.tail.tail.tail.headD (.i 0)) (r2.tail.tail.tail.tail.tail.tail.tail.tail.tail.tail.headD (.i 0)) (r2.tail.tail.tail.tail.tail.tail.tail.tail.tail.tail.tail.headD (.i 0))).bind fun r3 => (F51 n x0 x1 x2 x3 x4 x5 x6 x7 x8 x9 x10 x11).bind fun r4 => (F52 n (r4.headD (.i 0)) (r4.tail.headD (.i 0)) (r4.tail.tail.headD (.i 0)) (r4.tail.tail.tail.headD (.i 0)) (r4.tail.tail.tail.tail.headD (.i 0)) (r4.tail.tail.tail.tail.tail.headD (.i 0)) (r4.tail.tail.tail.tail.tail.tail.headD (.i 0)) (r4.tail.tail.tail.tail.tail.tail.tail.headD (.i 0)) (r4.tail.tail.tail.tail.tail.tail.tail.tail.headD (.i 0)) (r4.tail.tail.tail.tail.tail.tail.tail.tail.tail.headD (.i 0)) (r4.tail.tail.tail.tail.tail.tail.tail.tail.tail.tail.headD (.i 0)) (r4.tail.tail.tail.tail.tail.tail.tail.tail.tail.tail.tail.headD (.i 0))).bind fun r5 => bif ((r5.headD (.i 0)).I != (r3.headD (.i 0)).I) then (some [.b false]) else ((F51 n x0 x1 x2 x3 x4 x5 x6 x7 x8 x9 x10 x11).bind fun r6 => (F53 n (r4.headD (.i 0)) (r4.tail.headD (.i 0)) (r4.tail.tail.headD (.i 0)) (r4.tail.tail.tail.headD (.i 0)) (r4.tail.tail.tail.tail.headD (.i 0)) (r4.tail.tail.tail.tail.tail.headD (.i 0)) (r4.tail.tail.tail.tail.tail.tail.headD (.i 0)) (r4.tail.tail.tail.tail.tail.tail.tail.headD (.i 0)) (r4.tail.tail.tail.tail.tail.tail.tail.tail.headD (.i 0)) (r4.tail.tail.tail.tail.tail.tail.tail.tail.tail.headD (.i 0)) (r4.tail.tail.tail.tail.tail.tail.tail.tail.tail.tail.headD (.i 0)) (r4.tail.tail.tail.tail.tail.tail.tail.tail.tail.tail.tail.headD (.i 0)) (r6.headD (.i 0)) (r6.tail.headD (.i 0)) (r6.tail.tail.headD (.i 0)) (r6.tail.tail.tail.headD (.i 0)) (r6.tail.tail.tail.tail.headD (.i 0)) (r6.tail.tail.tail.tail.tail.headD (.i 0)) (r6.tail.tail.tail.tail.tail.tail.headD (.i 0)) (r6.tail.tail.tail.tail.tail.tail.tail.headD (.i 0)) (r6.tail.tail.tail.tail.tail.tail.tail.tail.headD (.i 0)) (r6.tail.tail.tail.tail.tail.tail.tail.tail.tail.headD (.i 0)) (r6.tail.tail.tail.tail.tail.tail.tail.tail.tail.tail.headD (.i 0)) (r6.tail.tail.tail.tail.tail.tail.tail.tail.tail.tail.tail.headD (.i 0))).bind fun r7 => bif (!(r7.headD (.i 0)).B) then (some [.b false]) else (some [.b true])))
def M8 (n : Nat) (τs : List T) : Option (List T) := match τs with
  | [x0, x1, x2, x3, x4, x5, x6, x7, x8, x9, x10, x11] => F8 n x0 x1 x2 x3 x4 x5 x6 x7 x8 x9 x10 x11
  | _ => none
noncomputable def code8 : List (Nat × Func) := [(8, Go.Proofs.Try.f8)]
def env8 : List (Nat × (Sig × Mean)) := [(49, sg49, ⟨M49⟩), (50, sg50, ⟨M50⟩), (51, sg51, ⟨M51⟩), (52, sg52, ⟨M52⟩), (53, sg53, ⟨M53⟩)]
def ann8 (f i : Nat) : Ann := match f, i with
  | _, _ => ⟨[], [], []⟩
def lsl8 (n : Nat) : List ((Nat × Nat) × (Nat → List LoopM)) := []
noncomputable def cf8 (n : Nat) : Cfg := ⟨tiOf tab, lookup code8, lookup env8, ann8, n⟩
theorem ev8 (n : Nat) (x0 x1 x2 x3 x4 x5 x6 x7 x8 x9 x10 x11 : T) : evF (cf8 n) (drawK (cf8 n)) (lms2 (lsl8 n)) 3 8 sg8 [x0, x1, x2, x3, x4, x5, x6, x7, x8, x9, x10, x11] = F8 n x0 x1 x2 x3 x4 x5 x6 x7 x8 x9 x10 x11 := by kernel_rfl
theorem eo8 (n : Nat) : EnvOk Go.Proofs.Try.prog (tiOf tab) n 8 sg8 ⟨M8⟩ :=
  have hc : CodeOk Go.Proofs.Try.prog (cf8 n) := (code_cons Go.Proofs.Try.func8 (by kernel_rfl) code_nil)
  have he : EnvsOk Go.Proofs.Try.prog (cf8 n) := (env_cons (eo49 n) (env_cons (eo50 n) (env_cons (eo51 n) (env_cons (eo52 n) (env_cons (eo53 n) env_nil)))))
  have hl : LmsOk (R := List T) (cf8 n) (drawK (cf8 n)) (lms2 (lsl8 n)) (lsl8 n) := lms_nil
  envOk_of (cf := cf8 n) tabOk hc he (draw := drawK (cf8 n)) (fun _ => drawK_ok tabOk mixed hc he) (d := 3) (lms := lms2 (lsl8 n)) hl
    (fun τs rs h => by
      simp only [M8] at h
      split at h
      · exact (ev8 n _ _ _ _ _ _ _ _ _ _ _ _).trans h
      · cases h)
end Go.KX.Sb
