import Derived.Test.YtpkeanlcmjbgnaaProg
import Derived.KernelRfl
import Derived.Test.YtpkeanlcmjbgnaaKxC
namespace Go.KX.Sa
open Go
set_option linter.unusedVariables false
def tab : List (Nat × TyI) := [
  (2, ⟨true, false, [.int .i64], 8, .leaf, false⟩),
  (3, ⟨true, false, [.int .i64], 8, .leaf, false⟩),
  (4, ⟨true, false, [.bool], 1, .leaf, false⟩),
  (50, ⟨true, false, [.slice 120], 24, .slice 120, false⟩),
  (52, ⟨true, true, [.int .i64, .slice 120, .slice 120], 56, .struct [(2, 0), (50, 1), (50, 2)], false⟩),
  (55, ⟨true, false, [.slice 97], 24, .slice 97, false⟩),
  (57, ⟨true, true, [.int .i64, .slice 97, .slice 97], 56, .struct [(2, 0), (55, 1), (55, 2)], false⟩),
  (97, ⟨true, true, [.int .i64, .int .i64], 16, .struct [(2, 0), (2, 1)], true⟩),
  (120, ⟨true, true, [.int .i64, .int .i64], 16, .struct [(2, 0), (2, 1)], true⟩)]
theorem tabOk : TabOk Go.Proofs.Try.prog (tiOf tab) := tab_ok (by kernel_rfl)
theorem mixed : Go.Proofs.Try.prog.follows .mixedOrders = true := by kernel_rfl
/-! ### 64: laws.szAddrOpS -/
def sg64 : Sig := ⟨[(false, [.slice 120]), (false, [.int .i64])], [.leaf (.int .i64) false]⟩
def F64 (n : Nat) (x0 x1 : T) : Option (List T) :=
  bif (decide ((IntKind.wrap .i64 (x1.I - (x0.L.length : Int))) < 0)) then (some [.i (-1)]) else (some [.i (IntKind.wrap .i64 (x1.I - (x0.L.length : Int)))])
def M64 (n : Nat) (τs : List T) : Option (List T) := match τs with
  | [x0, x1] => F64 n x0 x1
  | _ => none
noncomputable def code64 : List (Nat × Func) := [(64, Go.Proofs.Try.f64)]
def env64 : List (Nat × (Sig × Mean)) := []
def ann64 (f i : Nat) : Ann := match f, i with
  | _, _ => ⟨[], [], []⟩
def lsl64 (n : Nat) : List ((Nat × Nat) × (Nat → List LoopM)) := []
noncomputable def cf64 (n : Nat) : Cfg := ⟨tiOf tab, lookup code64, lookup env64, ann64, n⟩
theorem ev64 (n : Nat) (x0 x1 : T) : evF (cf64 n) (drawK (cf64 n)) (lms2 (lsl64 n)) 3 64 sg64 [x0, x1] = F64 n x0 x1 := by kernel_rfl
theorem eo64 (n : Nat) : EnvOk Go.Proofs.Try.prog (tiOf tab) n 64 sg64 ⟨M64⟩ :=
  have hc : CodeOk Go.Proofs.Try.prog (cf64 n) := (code_cons Go.Proofs.Try.func64 (by kernel_rfl) code_nil)
  have he : EnvsOk Go.Proofs.Try.prog (cf64 n) := env_nil
  have hl : LmsOk (R := List T) (cf64 n) (drawK (cf64 n)) (lms2 (lsl64 n)) (lsl64 n) := lms_nil
  envOk_of (cf := cf64 n) tabOk hc he (draw := drawK (cf64 n)) (fun _ => drawK_ok tabOk mixed hc he) (d := 3) (lms := lms2 (lsl64 n)) hl
    (fun τs rs h => by
      simp only [M64] at h
      split at h
      · exact (ev64 n _ _).trans h
      · cases h)
/-! ### 27: laws.szAsker -/
def sg27 : Sig := ⟨[(true, [.int .i64, .slice 120, .slice 120]), (false, [.int .i64])], [.leaf (.int .i64) false]⟩
def F27 (n : Nat) (x0 x1 x2 x3 : T) : Option (List T) :=
  (F64 n x1 x3).bind fun r1 => bif (decide ((r1.headD (.i 0)).I < 0)) then (some [.i (-1)]) else ((F64 n x2 (r1.headD (.i 0))).bind fun r2 => bif (decide ((r2.headD (.i 0)).I < 0)) then (some [.i (-1)]) else (some [(r2.headD (.i 0))]))
def M27 (n : Nat) (τs : List T) : Option (List T) := match τs with
  | [x0, x1, x2, x3] => F27 n x0 x1 x2 x3
  | _ => none
noncomputable def code27 : List (Nat × Func) := [(27, Go.Proofs.Try.f27)]
def env27 : List (Nat × (Sig × Mean)) := [(64, sg64, ⟨M64⟩)]
def ann27 (f i : Nat) : Ann := match f, i with
  | _, _ => ⟨[], [], []⟩
def lsl27 (n : Nat) : List ((Nat × Nat) × (Nat → List LoopM)) := []
noncomputable def cf27 (n : Nat) : Cfg := ⟨tiOf tab, lookup code27, lookup env27, ann27, n⟩
theorem ev27 (n : Nat) (x0 x1 x2 x3 : T) : evF (cf27 n) (drawK (cf27 n)) (lms2 (lsl27 n)) 3 27 sg27 [x0, x1, x2, x3] = F27 n x0 x1 x2 x3 := by kernel_rfl
theorem eo27 (n : Nat) : EnvOk Go.Proofs.Try.prog (tiOf tab) n 27 sg27 ⟨M27⟩ :=
  have hc : CodeOk Go.Proofs.Try.prog (cf27 n) := (code_cons Go.Proofs.Try.func27 (by kernel_rfl) code_nil)
  have he : EnvsOk Go.Proofs.Try.prog (cf27 n) := (env_cons (eo64 n) env_nil)
  have hl : LmsOk (R := List T) (cf27 n) (drawK (cf27 n)) (lms2 (lsl27 n)) (lsl27 n) := lms_nil
  envOk_of (cf := cf27 n) tabOk hc he (draw := drawK (cf27 n)) (fun _ => drawK_ok tabOk mixed hc he) (d := 3) (lms := lms2 (lsl27 n)) hl
    (fun τs rs h => by
      simp only [M27] at h
      split at h
      · exact (ev27 n _ _ _ _).trans h
      · cases h)
/-! ### 65: spec.l12SameOps -/
def sg65 : Sig := ⟨[(false, [.slice 97]), (false, [.slice 97])], [.leaf .bool false]⟩
def G65_65_4 {R : Type} (n : Nat) (v : List T) (self : List T → Option R) (ex : List (List T → Option R)) : Option R :=
  bif (decide ((v.getD 2 (.i 0)).I < ((((v.getD 0 (.i 0)).L).length : Nat) : Int))) then (if 0 ≤ (v.getD 2 (.i 0)).I ∧ (v.getD 2 (.i 0)).I < (((v.getD 0 (.i 0)).L).length : Int) then (if 0 ≤ (v.getD 2 (.i 0)).I ∧ (v.getD 2 (.i 0)).I < (((v.getD 1 (.i 0)).L).length : Int) then (bif (!((((at_ ((v.getD 0 (.i 0)).L) ((v.getD 2 (.i 0)).I)).F 0).I == ((at_ ((v.getD 1 (.i 0)).L) ((v.getD 2 (.i 0)).I)).F 0).I) && ((((at_ ((v.getD 0 (.i 0)).L) ((v.getD 2 (.i 0)).I)).F 1).I == ((at_ ((v.getD 1 (.i 0)).L) ((v.getD 2 (.i 0)).I)).F 1).I) && true))) then (exn ex 0 [.b false]) else (self [.l ((v.getD 0 (.i 0)).L), .l ((v.getD 1 (.i 0)).L), .i (IntKind.wrap .i64 ((v.getD 2 (.i 0)).I + 1))])) else none) else none) else (exn ex 1 [])
def L65_65_4 (n : Nat) : LoopM := ⟨⟨[[.t (.slice 97) (.i 0), .t (.slice 97) (.i 0), .un, .un, .un, .t (.int .i64) (.i 0), .un, .un, .un, .un, .un, .un, .un, .un, .un, .un, .un, .un, .un, .un, .un, .un, .un, .un, .un, .un]], []⟩, [(.ret, ⟨[[.un, .un, .un, .un, .t .bool (.i 0), .un, .un, .un, .un, .un, .un, .un, .un, .un, .un, .un, .un, .un, .un, .un, .un, .un, .un, .un, .un, .un]], []⟩), (.exit 0, ⟨[[.un, .un, .un, .un, .un, .un, .un, .un, .un, .un, .un, .un, .un, .un, .un, .un, .un, .un, .un, .un, .un, .un, .un, .un, .un, .un]], []⟩)], fun v self ex => G65_65_4 n v self ex⟩
def F65 (n : Nat) (x0 x1 : T) : Option (List T) :=
  bif ((x0.L.length : Int) != (x1.L.length : Int)) then (some [.b false]) else (loopR (L65_65_4 n).G n [.l x0.L, .l x1.L, .i 0] [fun u1 => some [.b ((u1.getD 0 (.i 0)).B)], fun u2 => some [.b true]])
def M65 (n : Nat) (τs : List T) : Option (List T) := match τs with
  | [x0, x1] => F65 n x0 x1
  | _ => none
noncomputable def code65 : List (Nat × Func) := [(65, Go.Proofs.Try.f65)]
def env65 : List (Nat × (Sig × Mean)) := []
def ann65 (f i : Nat) : Ann := match f, i with
  | 65, 4 => ⟨[(0, .any), (1, .any), (5, .any)], [], [(4, .any)]⟩
  | _, _ => ⟨[], [], []⟩
def lm65_65 (n : Nat) (i : Nat) : List LoopM := match i with
  | 4 => [L65_65_4 n]
  | _ => []
def lsl65 (n : Nat) : List ((Nat × Nat) × (Nat → List LoopM)) := [((3, 65), lm65_65 n)]
noncomputable def cf65 (n : Nat) : Cfg := ⟨tiOf tab, lookup code65, lookup env65, ann65, n⟩
theorem ev65 (n : Nat) (x0 x1 : T) : evF (cf65 n) (drawK (cf65 n)) (lms2 (lsl65 n)) 3 65 sg65 [x0, x1] = F65 n x0 x1 := by kernel_rfl
theorem lp65_65_4 (n : Nat) (K : Ex → St → Option (List T)) (self : List T → Option (List T)) (v : List T) : evC (cf65 n) (callK (cf65 n) (drawK (cf65 n)) (lms2 (lsl65 n)) 3) (drawK (cf65 n) (callK (cf65 n) (drawK (cf65 n)) (lms2 (lsl65 n)) 3)) (ann65 65) (lm65_65 n) (bodyOf Go.Proofs.Try.f65 4) ((L65_65_4 n).sk.fill v) (roundK (ann65 65 4) K (selfK (L65_65_4 n) self)) = (L65_65_4 n).G v self (exitK (L65_65_4 n) K) := by kernel_rfl
theorem eo65 (n : Nat) : EnvOk Go.Proofs.Try.prog (tiOf tab) n 65 sg65 ⟨M65⟩ :=
  have hc : CodeOk Go.Proofs.Try.prog (cf65 n) := (code_cons Go.Proofs.Try.func65 (by kernel_rfl) code_nil)
  have he : EnvsOk Go.Proofs.Try.prog (cf65 n) := env_nil
  have hl : LmsOk (R := List T) (cf65 n) (drawK (cf65 n)) (lms2 (lsl65 n)) (lsl65 n) := (lms_cons (loops_of (cf := cf65 n) (fn0 := Go.Proofs.Try.f65) rfl (l := [bodyOf Go.Proofs.Try.f65 4]) (by kernel_rfl) (loops_cons (b := bodyOf Go.Proofs.Try.f65 4) (by kernel_rfl) (rfl : lm65_65 n 4 = [L65_65_4 n]) (List.forall_mem_cons.2 ⟨fun K self v => lp65_65_4 n K self v, fun _ h => by cases h⟩) loops_nil)) lms_nil)
  envOk_of (cf := cf65 n) tabOk hc he (draw := drawK (cf65 n)) (fun _ => drawK_ok tabOk mixed hc he) (d := 3) (lms := lms2 (lsl65 n)) hl
    (fun τs rs h => by
      simp only [M65] at h
      split at h
      · exact (ev65 n _ _).trans h
      · cases h)
/-! ### 28: spec.SameAskers -/
def sg28 : Sig := ⟨[(true, [.int .i64, .slice 97, .slice 97]), (true, [.int .i64, .slice 97, .slice 97])], [.leaf .bool false]⟩
def F28 (n : Nat) (x0 x1 x2 x3 x4 x5 : T) : Option (List T) :=
  bif (x0.I == x3.I) then ((F65 n x1 x4).bind fun r1 => bif (r1.headD (.i 0)).B then ((F65 n x2 x5).bind fun r2 => some [(r2.headD (.i 0))]) else (some [.b false])) else (some [.b false])
def M28 (n : Nat) (τs : List T) : Option (List T) := match τs with
  | [x0, x1, x2, x3, x4, x5] => F28 n x0 x1 x2 x3 x4 x5
  | _ => none
noncomputable def code28 : List (Nat × Func) := [(28, Go.Proofs.Try.f28)]
def env28 : List (Nat × (Sig × Mean)) := [(65, sg65, ⟨M65⟩)]
def ann28 (f i : Nat) : Ann := match f, i with
  | _, _ => ⟨[], [], []⟩
def lsl28 (n : Nat) : List ((Nat × Nat) × (Nat → List LoopM)) := []
noncomputable def cf28 (n : Nat) : Cfg := ⟨tiOf tab, lookup code28, lookup env28, ann28, n⟩
theorem ev28 (n : Nat) (x0 x1 x2 x3 x4 x5 : T) : evF (cf28 n) (drawK (cf28 n)) (lms2 (lsl28 n)) 3 28 sg28 [x0, x1, x2, x3, x4, x5] = F28 n x0 x1 x2 x3 x4 x5 := by kernel_rfl
theorem eo28 (n : Nat) : EnvOk Go.Proofs.Try.prog (tiOf tab) n 28 sg28 ⟨M28⟩ :=
  have hc : CodeOk Go.Proofs.Try.prog (cf28 n) := (code_cons Go.Proofs.Try.func28 (by kernel_rfl) code_nil)
  have he : EnvsOk Go.Proofs.Try.prog (cf28 n) := (env_cons (eo65 n) env_nil)
  have hl : LmsOk (R := List T) (cf28 n) (drawK (cf28 n)) (lms2 (lsl28 n)) (lsl28 n) := lms_nil
  envOk_of (cf := cf28 n) tabOk hc he (draw := drawK (cf28 n)) (fun _ => drawK_ok tabOk mixed hc he) (d := 3) (lms := lms2 (lsl28 n)) hl
    (fun τs rs h => by
      simp only [M28] at h
      split at h
      · exact (ev28 n _ _ _ _ _ _).trans h
      · cases h)
/-! ### 89: laws.toAddrOp -/
def sg89 : Sig := ⟨[(true, [.int .i64, .int .i64])], [.agg [(.int .i64, false), (.int .i64, false)]]⟩
def F89 (n : Nat) (x0 x1 : T) : Option (List T) :=
  some [x0, x1]
def M89 (n : Nat) (τs : List T) : Option (List T) := match τs with
  | [x0, x1] => F89 n x0 x1
  | _ => none
noncomputable def code89 : List (Nat × Func) := [(89, Go.Proofs.Try.f89)]
def env89 : List (Nat × (Sig × Mean)) := []
def ann89 (f i : Nat) : Ann := match f, i with
  | _, _ => ⟨[], [], []⟩
def lsl89 (n : Nat) : List ((Nat × Nat) × (Nat → List LoopM)) := []
noncomputable def cf89 (n : Nat) : Cfg := ⟨tiOf tab, lookup code89, lookup env89, ann89, n⟩
theorem ev89 (n : Nat) (x0 x1 : T) : evF (cf89 n) (drawK (cf89 n)) (lms2 (lsl89 n)) 3 89 sg89 [x0, x1] = F89 n x0 x1 := by kernel_rfl
theorem eo89 (n : Nat) : EnvOk Go.Proofs.Try.prog (tiOf tab) n 89 sg89 ⟨M89⟩ :=
  have hc : CodeOk Go.Proofs.Try.prog (cf89 n) := (code_cons Go.Proofs.Try.func89 (by kernel_rfl) code_nil)
  have he : EnvsOk Go.Proofs.Try.prog (cf89 n) := env_nil
  have hl : LmsOk (R := List T) (cf89 n) (drawK (cf89 n)) (lms2 (lsl89 n)) (lsl89 n) := lms_nil
  envOk_of (cf := cf89 n) tabOk hc he (draw := drawK (cf89 n)) (fun _ => drawK_ok tabOk mixed hc he) (d := 3) (lms := lms2 (lsl89 n)) hl
    (fun τs rs h => by
      simp only [M89] at h
      split at h
      · exact (ev89 n _ _).trans h
      · cases h)
/-! ### 66: laws.toAddrOpS -/
def sg66 : Sig := ⟨[(false, [.slice 120])], [.leaf (.slice 97) false]⟩
def G66_66_3 {R : Type} (n : Nat) (v : List T) (self : List T → Option R) (ex : List (List T → Option R)) : Option R :=
  bif (decide ((v.getD 1 (.i 0)).I < ((((v.getD 0 (.i 0)).L).length : Nat) : Int))) then (if 0 ≤ (v.getD 1 (.i 0)).I ∧ (v.getD 1 (.i 0)).I < (((v.getD 0 (.i 0)).L).length : Int) then ((F89 n ((at_ ((v.getD 0 (.i 0)).L) ((v.getD 1 (.i 0)).I)).F 0) ((at_ ((v.getD 0 (.i 0)).L) ((v.getD 1 (.i 0)).I)).F 1)).bind fun r1 => if 0 ≤ (v.getD 1 (.i 0)).I ∧ (v.getD 1 (.i 0)).I < (((v.getD 2 (.i 0)).L).length : Int) then (if 97 = 97 ∧ ((v.getD 1 (.i 0)).I).toNat < ((v.getD 2 (.i 0)).L).length then (self [.l ((v.getD 0 (.i 0)).L), .i (IntKind.wrap .i64 ((v.getD 1 (.i 0)).I + 1)), .l (((v.getD 2 (.i 0)).L).set (((v.getD 1 (.i 0)).I).toNat) (.r [(r1.headD (.i 0)), (r1.tail.headD (.i 0))]))]) else none) else none) else none) else (exn ex 0 [.l ((v.getD 2 (.i 0)).L)])
def L66_66_3 (n : Nat) : LoopM := ⟨⟨[[.t (.slice 120) (.i 0), .un, .un, .own 97 0, .t (.int .i64) (.i 0), .un, .un, .un, .un, .un, .un, .un, .un, .un, .un, .un, .un, .un, .un, .un, .un, .un, .un]], [.arr 97 []]⟩, [(.exit 0, ⟨[[.un, .un, .un, .own 97 0, .un, .un, .un, .un, .un, .un, .un, .un, .un, .un, .un, .un, .un, .un, .un, .un, .un, .un, .un]], [.arr 97 []]⟩)], fun v self ex => G66_66_3 n v self ex⟩
def F66 (n : Nat) (x0 : T) : Option (List T) :=
  if 0 ≤ (x0.L.length : Int) ∧ (x0.L.length : Int) * 16 ≤ limB ∧ (x0.L.length : Int) < maxN then (loopR (L66_66_3 n).G n [.l x0.L, .i 0, .l (List.replicate ((x0.L.length : Int)).toNat (T.r [.i 0, .i 0]))] [fun u2 => some [.l ((u2.getD 0 (.i 0)).L)]]) else none
def M66 (n : Nat) (τs : List T) : Option (List T) := match τs with
  | [x0] => F66 n x0
  | _ => none
noncomputable def code66 : List (Nat × Func) := [(66, Go.Proofs.Try.f66)]
def env66 : List (Nat × (Sig × Mean)) := [(89, sg89, ⟨M89⟩)]
def ann66 (f i : Nat) : Ann := match f, i with
  | 66, 3 => ⟨[(0, .any), (3, .any), (4, .any)], [], [(3, .any)]⟩
  | _, _ => ⟨[], [], []⟩
def lm66_66 (n : Nat) (i : Nat) : List LoopM := match i with
  | 3 => [L66_66_3 n]
  | _ => []
def lsl66 (n : Nat) : List ((Nat × Nat) × (Nat → List LoopM)) := [((3, 66), lm66_66 n)]
noncomputable def cf66 (n : Nat) : Cfg := ⟨tiOf tab, lookup code66, lookup env66, ann66, n⟩
theorem ev66 (n : Nat) (x0 : T) : evF (cf66 n) (drawK (cf66 n)) (lms2 (lsl66 n)) 3 66 sg66 [x0] = F66 n x0 := by kernel_rfl
theorem lp66_66_3 (n : Nat) (K : Ex → St → Option (List T)) (self : List T → Option (List T)) (v : List T) : evC (cf66 n) (callK (cf66 n) (drawK (cf66 n)) (lms2 (lsl66 n)) 3) (drawK (cf66 n) (callK (cf66 n) (drawK (cf66 n)) (lms2 (lsl66 n)) 3)) (ann66 66) (lm66_66 n) (bodyOf Go.Proofs.Try.f66 3) ((L66_66_3 n).sk.fill v) (roundK (ann66 66 3) K (selfK (L66_66_3 n) self)) = (L66_66_3 n).G v self (exitK (L66_66_3 n) K) := by kernel_rfl
theorem eo66 (n : Nat) : EnvOk Go.Proofs.Try.prog (tiOf tab) n 66 sg66 ⟨M66⟩ :=
  have hc : CodeOk Go.Proofs.Try.prog (cf66 n) := (code_cons Go.Proofs.Try.func66 (by kernel_rfl) code_nil)
  have he : EnvsOk Go.Proofs.Try.prog (cf66 n) := (env_cons (eo89 n) env_nil)
  have hl : LmsOk (R := List T) (cf66 n) (drawK (cf66 n)) (lms2 (lsl66 n)) (lsl66 n) := (lms_cons (loops_of (cf := cf66 n) (fn0 := Go.Proofs.Try.f66) rfl (l := [bodyOf Go.Proofs.Try.f66 3]) (by kernel_rfl) (loops_cons (b := bodyOf Go.Proofs.Try.f66 3) (by kernel_rfl) (rfl : lm66_66 n 3 = [L66_66_3 n]) (List.forall_mem_cons.2 ⟨fun K self v => lp66_66_3 n K self v, fun _ h => by cases h⟩) loops_nil)) lms_nil)
  envOk_of (cf := cf66 n) tabOk hc he (draw := drawK (cf66 n)) (fun _ => drawK_ok tabOk mixed hc he) (d := 3) (lms := lms2 (lsl66 n)) hl
    (fun τs rs h => by
      simp only [M66] at h
      split at h
      · exact (ev66 n _).trans h
      · cases h)
/-! ### 29: laws.toAsker -/
def sg29 : Sig := ⟨[(true, [.int .i64, .slice 120, .slice 120])], [.agg [(.int .i64, false), (.slice 97, false), (.slice 97, false)]]⟩
def F29 (n : Nat) (x0 x1 x2 : T) : Option (List T) :=
  (F66 n x1).bind fun r1 => (F66 n x2).bind fun r2 => some [x0, (r1.headD (.i 0)), (r2.headD (.i 0))]
def M29 (n : Nat) (τs : List T) : Option (List T) := match τs with
  | [x0, x1, x2] => F29 n x0 x1 x2
  | _ => none
noncomputable def code29 : List (Nat × Func) := [(29, Go.Proofs.Try.f29)]
def env29 : List (Nat × (Sig × Mean)) := [(66, sg66, ⟨M66⟩)]
def ann29 (f i : Nat) : Ann := match f, i with
  | _, _ => ⟨[], [], []⟩
def lsl29 (n : Nat) : List ((Nat × Nat) × (Nat → List LoopM)) := []
noncomputable def cf29 (n : Nat) : Cfg := ⟨tiOf tab, lookup code29, lookup env29, ann29, n⟩
theorem ev29 (n : Nat) (x0 x1 x2 : T) : evF (cf29 n) (drawK (cf29 n)) (lms2 (lsl29 n)) 3 29 sg29 [x0, x1, x2] = F29 n x0 x1 x2 := by kernel_rfl
theorem eo29 (n : Nat) : EnvOk Go.Proofs.Try.prog (tiOf tab) n 29 sg29 ⟨M29⟩ :=
  have hc : CodeOk Go.Proofs.Try.prog (cf29 n) := (code_cons Go.Proofs.Try.func29 (by kernel_rfl) code_nil)
  have he : EnvsOk Go.Proofs.Try.prog (cf29 n) := (env_cons (eo66 n) env_nil)
  have hl : LmsOk (R := List T) (cf29 n) (drawK (cf29 n)) (lms2 (lsl29 n)) (lsl29 n) := lms_nil
  envOk_of (cf := cf29 n) tabOk hc he (draw := drawK (cf29 n)) (fun _ => drawK_ok tabOk mixed hc he) (d := 3) (lms := lms2 (lsl29 n)) hl
    (fun τs rs h => by
      simp only [M29] at h
      split at h
      · exact (ev29 n _ _ _).trans h
      · cases h)
/-! ### 67: impl.AddrOp] -/
def sg67 : Sig := ⟨[(false, [.slice 97]), (false, [.slice 97])], [.leaf .bool false]⟩
def G67_67_4 {R : Type} (n : Nat) (v : List T) (self : List T → Option R) (ex : List (List T → Option R)) : Option R :=
  bif (decide ((v.getD 3 (.i 0)).I < (v.getD 2 (.i 0)).I)) then (if 0 ≤ (v.getD 3 (.i 0)).I ∧ (v.getD 3 (.i 0)).I < (((v.getD 0 (.i 0)).L).length : Int) then (if 0 ≤ (v.getD 3 (.i 0)).I ∧ (v.getD 3 (.i 0)).I < (((v.getD 1 (.i 0)).L).length : Int) then (bif (!((((at_ ((v.getD 0 (.i 0)).L) ((v.getD 3 (.i 0)).I)).F 0).I == ((at_ ((v.getD 1 (.i 0)).L) ((v.getD 3 (.i 0)).I)).F 0).I) && ((((at_ ((v.getD 0 (.i 0)).L) ((v.getD 3 (.i 0)).I)).F 1).I == ((at_ ((v.getD 1 (.i 0)).L) ((v.getD 3 (.i 0)).I)).F 1).I) && true))) then (exn ex 0 [.b false]) else (self [.l ((v.getD 0 (.i 0)).L), .l ((v.getD 1 (.i 0)).L), .i ((v.getD 2 (.i 0)).I), .i (IntKind.wrap .i64 ((v.getD 3 (.i 0)).I + 1))])) else none) else none) else (exn ex 1 [])
def L67_67_4 (n : Nat) : LoopM := ⟨⟨[[.t (.slice 97) (.i 0), .t (.slice 97) (.i 0), .un, .un, .un, .un, .un, .un, .un, .un, .un, .un, .t (.int .i64) (.i 0), .t (.int .i64) (.i 0), .un, .un, .un, .un, .un, .un, .un, .un, .un, .un, .un, .un]], []⟩, [(.ret, ⟨[[.un, .un, .un, .un, .t .bool (.i 0), .un, .un, .un, .un, .un, .un, .un, .un, .un, .un, .un, .un, .un, .un, .un, .un, .un, .un, .un, .un, .un]], []⟩), (.exit 0, ⟨[[.un, .un, .un, .un, .un, .un, .un, .un, .un, .un, .un, .un, .un, .un, .un, .un, .un, .un, .un, .un, .un, .un, .un, .un, .un, .un]], []⟩)], fun v self ex => G67_67_4 n v self ex⟩
def F67 (n : Nat) (x0 x1 : T) : Option (List T) :=
  bif ((x0.L.length : Int) != (x1.L.length : Int)) then (some [.b false]) else (loopR (L67_67_4 n).G n [.l x0.L, .l x1.L, .i (x0.L.length : Int), .i 0] [fun u1 => some [.b ((u1.getD 0 (.i 0)).B)], fun u2 => some [.b true]])
def M67 (n : Nat) (τs : List T) : Option (List T) := match τs with
  | [x0, x1] => F67 n x0 x1
  | _ => none
noncomputable def code67 : List (Nat × Func) := [(67, Go.Proofs.Try.f67)]
def env67 : List (Nat × (Sig × Mean)) := []
def ann67 (f i : Nat) : Ann := match f, i with
  | 67, 4 => ⟨[(0, .any), (1, .any), (12, .any), (13, .any)], [], [(4, .any)]⟩
  | _, _ => ⟨[], [], []⟩
def lm67_67 (n : Nat) (i : Nat) : List LoopM := match i with
  | 4 => [L67_67_4 n]
  | _ => []
def lsl67 (n : Nat) : List ((Nat × Nat) × (Nat → List LoopM)) := [((3, 67), lm67_67 n)]
noncomputable def cf67 (n : Nat) : Cfg := ⟨tiOf tab, lookup code67, lookup env67, ann67, n⟩
theorem ev67 (n : Nat) (x0 x1 : T) : evF (cf67 n) (drawK (cf67 n)) (lms2 (lsl67 n)) 3 67 sg67 [x0, x1] = F67 n x0 x1 := by kernel_rfl
theorem lp67_67_4 (n : Nat) (K : Ex → St → Option (List T)) (self : List T → Option (List T)) (v : List T) : evC (cf67 n) (callK (cf67 n) (drawK (cf67 n)) (lms2 (lsl67 n)) 3) (drawK (cf67 n) (callK (cf67 n) (drawK (cf67 n)) (lms2 (lsl67 n)) 3)) (ann67 67) (lm67_67 n) (bodyOf Go.Proofs.Try.f67 4) ((L67_67_4 n).sk.fill v) (roundK (ann67 67 4) K (selfK (L67_67_4 n) self)) = (L67_67_4 n).G v self (exitK (L67_67_4 n) K) := by kernel_rfl
theorem eo67 (n : Nat) : EnvOk Go.Proofs.Try.prog (tiOf tab) n 67 sg67 ⟨M67⟩ :=
  have hc : CodeOk Go.Proofs.Try.prog (cf67 n) := (code_cons Go.Proofs.Try.func67 (by kernel_rfl) code_nil)
  have he : EnvsOk Go.Proofs.Try.prog (cf67 n) := env_nil
  have hl : LmsOk (R := List T) (cf67 n) (drawK (cf67 n)) (lms2 (lsl67 n)) (lsl67 n) := (lms_cons (loops_of (cf := cf67 n) (fn0 := Go.Proofs.Try.f67) rfl (l := [bodyOf Go.Proofs.Try.f67 4]) (by kernel_rfl) (loops_cons (b := bodyOf Go.Proofs.Try.f67 4) (by kernel_rfl) (rfl : lm67_67 n 4 = [L67_67_4 n]) (List.forall_mem_cons.2 ⟨fun K self v => lp67_67_4 n K self v, fun _ h => by cases h⟩) loops_nil)) lms_nil)
  envOk_of (cf := cf67 n) tabOk hc he (draw := drawK (cf67 n)) (fun _ => drawK_ok tabOk mixed hc he) (d := 3) (lms := lms2 (lsl67 n)) hl
    (fun τs rs h => by
      simp only [M67] at h
      split at h
      · exact (ev67 n _ _).trans h
      · cases h)
/-! ### 30: impl.SameAskers -/
def sg30 : Sig := ⟨[(true, [.int .i64, .slice 97, .slice 97]), (true, [.int .i64, .slice 97, .slice 97])], [.leaf .bool false]⟩
def F30 (n : Nat) (x0 x1 x2 x3 x4 x5 : T) : Option (List T) :=
  bif (x0.I == x3.I) then ((F67 n x1 x4).bind fun r1 => bif (r1.headD (.i 0)).B then ((F67 n x2 x5).bind fun r2 => some [(r2.headD (.i 0))]) else (some [.b false])) else (some [.b false])
def M30 (n : Nat) (τs : List T) : Option (List T) := match τs with
  | [x0, x1, x2, x3, x4, x5] => F30 n x0 x1 x2 x3 x4 x5
  | _ => none
noncomputable def code30 : List (Nat × Func) := [(30, Go.Proofs.Try.f30)]
def env30 : List (Nat × (Sig × Mean)) := [(67, sg67, ⟨M67⟩)]
def ann30 (f i : Nat) : Ann := match f, i with
  | _, _ => ⟨[], [], []⟩
def lsl30 (n : Nat) : List ((Nat × Nat) × (Nat → List LoopM)) := []
noncomputable def cf30 (n : Nat) : Cfg := ⟨tiOf tab, lookup code30, lookup env30, ann30, n⟩
theorem ev30 (n : Nat) (x0 x1 x2 x3 x4 x5 : T) : evF (cf30 n) (drawK (cf30 n)) (lms2 (lsl30 n)) 3 30 sg30 [x0, x1, x2, x3, x4, x5] = F30 n x0 x1 x2 x3 x4 x5 := by kernel_rfl
theorem eo30 (n : Nat) : EnvOk Go.Proofs.Try.prog (tiOf tab) n 30 sg30 ⟨M30⟩ :=
  have hc : CodeOk Go.Proofs.Try.prog (cf30 n) := (code_cons Go.Proofs.Try.func30 (by kernel_rfl) code_nil)
  have he : EnvsOk Go.Proofs.Try.prog (cf30 n) := (env_cons (eo67 n) env_nil)
  have hl : LmsOk (R := List T) (cf30 n) (drawK (cf30 n)) (lms2 (lsl30 n)) (lsl30 n) := lms_nil
  envOk_of (cf := cf30 n) tabOk hc he (draw := drawK (cf30 n)) (fun _ => drawK_ok tabOk mixed hc he) (d := 3) (lms := lms2 (lsl30 n)) hl
    (fun τs rs h => by
      simp only [M30] at h
      split at h
      · exact (ev30 n _ _ _ _ _ _).trans h
      · cases h)
/-! ### 90: laws.eqAddrOp -/
def sg90 : Sig := ⟨[(true, [.int .i64, .int .i64]), (true, [.int .i64, .int .i64])], [.leaf .bool false]⟩
def F90 (n : Nat) (x0 x1 x2 x3 : T) : Option (List T) :=
  bif (x0.I != x2.I) then (some [.b false]) else (bif (x1.I != x3.I) then (some [.b false]) else (some [.b true]))
def M90 (n : Nat) (τs : List T) : Option (List T) := match τs with
  | [x0, x1, x2, x3] => F90 n x0 x1 x2 x3
  | _ => none
noncomputable def code90 : List (Nat × Func) := [(90, Go.Proofs.Try.f90)]
def env90 : List (Nat × (Sig × Mean)) := []
def ann90 (f i : Nat) : Ann := match f, i with
  | _, _ => ⟨[], [], []⟩
def lsl90 (n : Nat) : List ((Nat × Nat) × (Nat → List LoopM)) := []
noncomputable def cf90 (n : Nat) : Cfg := ⟨tiOf tab, lookup code90, lookup env90, ann90, n⟩
theorem ev90 (n : Nat) (x0 x1 x2 x3 : T) : evF (cf90 n) (drawK (cf90 n)) (lms2 (lsl90 n)) 3 90 sg90 [x0, x1, x2, x3] = F90 n x0 x1 x2 x3 := by kernel_rfl
theorem eo90 (n : Nat) : EnvOk Go.Proofs.Try.prog (tiOf tab) n 90 sg90 ⟨M90⟩ :=
  have hc : CodeOk Go.Proofs.Try.prog (cf90 n) := (code_cons Go.Proofs.Try.func90 (by kernel_rfl) code_nil)
  have he : EnvsOk Go.Proofs.Try.prog (cf90 n) := env_nil
  have hl : LmsOk (R := List T) (cf90 n) (drawK (cf90 n)) (lms2 (lsl90 n)) (lsl90 n) := lms_nil
  envOk_of (cf := cf90 n) tabOk hc he (draw := drawK (cf90 n)) (fun _ => drawK_ok tabOk mixed hc he) (d := 3) (lms := lms2 (lsl90 n)) hl
    (fun τs rs h => by
      simp only [M90] at h
      split at h
      · exact (ev90 n _ _ _ _).trans h
      · cases h)
/-! ### 68: laws.eqAddrOpS -/
def sg68 : Sig := ⟨[(false, [.slice 97]), (false, [.slice 97])], [.leaf .bool false]⟩
def G68_68_4 {R : Type} (n : Nat) (v : List T) (self : List T → Option R) (ex : List (List T → Option R)) : Option R :=
  bif (decide ((v.getD 2 (.i 0)).I < ((((v.getD 0 (.i 0)).L).length : Nat) : Int))) then (if 0 ≤ (v.getD 2 (.i 0)).I ∧ (v.getD 2 (.i 0)).I < (((v.getD 0 (.i 0)).L).length : Int) then (if 0 ≤ (v.getD 2 (.i 0)).I ∧ (v.getD 2 (.i 0)).I < (((v.getD 1 (.i 0)).L).length : Int) then ((F90 n ((at_ ((v.getD 0 (.i 0)).L) ((v.getD 2 (.i 0)).I)).F 0) ((at_ ((v.getD 0 (.i 0)).L) ((v.getD 2 (.i 0)).I)).F 1) ((at_ ((v.getD 1 (.i 0)).L) ((v.getD 2 (.i 0)).I)).F 0) ((at_ ((v.getD 1 (.i 0)).L) ((v.getD 2 (.i 0)).I)).F 1)).bind fun r1 => bif (!(r1.headD (.i 0)).B) then (exn ex 0 [.b false]) else (self [.l ((v.getD 0 (.i 0)).L), .l ((v.getD 1 (.i 0)).L), .i (IntKind.wrap .i64 ((v.getD 2 (.i 0)).I + 1))])) else none) else none) else (exn ex 1 [])
def L68_68_4 (n : Nat) : LoopM := ⟨⟨[[.t (.slice 97) (.i 0), .t (.slice 97) (.i 0), .un, .un, .un, .t (.int .i64) (.i 0), .un, .un, .un, .un, .un, .un, .un, .un, .un, .un, .un, .un, .un, .un, .un, .un, .un, .un, .un, .un, .un]], []⟩, [(.ret, ⟨[[.un, .un, .un, .un, .t .bool (.i 0), .un, .un, .un, .un, .un, .un, .un, .un, .un, .un, .un, .un, .un, .un, .un, .un, .un, .un, .un, .un, .un, .un]], []⟩), (.exit 0, ⟨[[.un, .un, .un, .un, .un, .un, .un, .un, .un, .un, .un, .un, .un, .un, .un, .un, .un, .un, .un, .un, .un, .un, .un, .un, .un, .un, .un]], []⟩)], fun v self ex => G68_68_4 n v self ex⟩
def F68 (n : Nat) (x0 x1 : T) : Option (List T) :=
  bif ((x0.L.length : Int) != (x1.L.length : Int)) then (some [.b false]) else (loopR (L68_68_4 n).G n [.l x0.L, .l x1.L, .i 0] [fun u2 => some [.b ((u2.getD 0 (.i 0)).B)], fun u3 => some [.b true]])
def M68 (n : Nat) (τs : List T) : Option (List T) := match τs with
  | [x0, x1] => F68 n x0 x1
  | _ => none
noncomputable def code68 : List (Nat × Func) := [(68, Go.Proofs.Try.f68)]
def env68 : List (Nat × (Sig × Mean)) := [(90, sg90, ⟨M90⟩)]
def ann68 (f i : Nat) : Ann := match f, i with
  | 68, 4 => ⟨[(0, .any), (1, .any), (5, .any)], [], [(4, .any)]⟩
  | _, _ => ⟨[], [], []⟩
def lm68_68 (n : Nat) (i : Nat) : List LoopM := match i with
  | 4 => [L68_68_4 n]
  | _ => []
def lsl68 (n : Nat) : List ((Nat × Nat) × (Nat → List LoopM)) := [((3, 68), lm68_68 n)]
noncomputable def cf68 (n : Nat) : Cfg := ⟨tiOf tab, lookup code68, lookup env68, ann68, n⟩
theorem ev68 (n : Nat) (x0 x1 : T) : evF (cf68 n) (drawK (cf68 n)) (lms2 (lsl68 n)) 3 68 sg68 [x0, x1] = F68 n x0 x1 := by kernel_rfl
theorem lp68_68_4 (n : Nat) (K : Ex → St → Option (List T)) (self : List T → Option (List T)) (v : List T) : evC (cf68 n) (callK (cf68 n) (drawK (cf68 n)) (lms2 (lsl68 n)) 3) (drawK (cf68 n) (callK (cf68 n) (drawK (cf68 n)) (lms2 (lsl68 n)) 3)) (ann68 68) (lm68_68 n) (bodyOf Go.Proofs.Try.f68 4) ((L68_68_4 n).sk.fill v) (roundK (ann68 68 4) K (selfK (L68_68_4 n) self)) = (L68_68_4 n).G v self (exitK (L68_68_4 n) K) := by kernel_rfl
theorem eo68 (n : Nat) : EnvOk Go.Proofs.Try.prog (tiOf tab) n 68 sg68 ⟨M68⟩ :=
  have hc : CodeOk Go.Proofs.Try.prog (cf68 n) := (code_cons Go.Proofs.Try.func68 (by kernel_rfl) code_nil)
  have he : EnvsOk Go.Proofs.Try.prog (cf68 n) := (env_cons (eo90 n) env_nil)
  have hl : LmsOk (R := List T) (cf68 n) (drawK (cf68 n)) (lms2 (lsl68 n)) (lsl68 n) := (lms_cons (loops_of (cf := cf68 n) (fn0 := Go.Proofs.Try.f68) rfl (l := [bodyOf Go.Proofs.Try.f68 4]) (by kernel_rfl) (loops_cons (b := bodyOf Go.Proofs.Try.f68 4) (by kernel_rfl) (rfl : lm68_68 n 4 = [L68_68_4 n]) (List.forall_mem_cons.2 ⟨fun K self v => lp68_68_4 n K self v, fun _ h => by cases h⟩) loops_nil)) lms_nil)
  envOk_of (cf := cf68 n) tabOk hc he (draw := drawK (cf68 n)) (fun _ => drawK_ok tabOk mixed hc he) (d := 3) (lms := lms2 (lsl68 n)) hl
    (fun τs rs h => by
      simp only [M68] at h
      split at h
      · exact (ev68 n _ _).trans h
      · cases h)
/-! ### 31: laws.eqAsker -/
def sg31 : Sig := ⟨[(true, [.int .i64, .slice 97, .slice 97]), (true, [.int .i64, .slice 97, .slice 97])], [.leaf .bool false]⟩
def F31 (n : Nat) (x0 x1 x2 x3 x4 x5 : T) : Option (List T) :=
  bif (x0.I != x3.I) then (some [.b false]) else ((F68 n x1 x4).bind fun r1 => bif (!(r1.headD (.i 0)).B) then (some [.b false]) else ((F68 n x2 x5).bind fun r2 => bif (!(r2.headD (.i 0)).B) then (some [.b false]) else (some [.b true])))
def M31 (n : Nat) (τs : List T) : Option (List T) := match τs with
  | [x0, x1, x2, x3, x4, x5] => F31 n x0 x1 x2 x3 x4 x5
  | _ => none
noncomputable def code31 : List (Nat × Func) := [(31, Go.Proofs.Try.f31)]
def env31 : List (Nat × (Sig × Mean)) := [(68, sg68, ⟨M68⟩)]
def ann31 (f i : Nat) : Ann := match f, i with
  | _, _ => ⟨[], [], []⟩
def lsl31 (n : Nat) : List ((Nat × Nat) × (Nat → List LoopM)) := []
noncomputable def cf31 (n : Nat) : Cfg := ⟨tiOf tab, lookup code31, lookup env31, ann31, n⟩
theorem ev31 (n : Nat) (x0 x1 x2 x3 x4 x5 : T) : evF (cf31 n) (drawK (cf31 n)) (lms2 (lsl31 n)) 3 31 sg31 [x0, x1, x2, x3, x4, x5] = F31 n x0 x1 x2 x3 x4 x5 := by kernel_rfl
theorem eo31 (n : Nat) : EnvOk Go.Proofs.Try.prog (tiOf tab) n 31 sg31 ⟨M31⟩ :=
  have hc : CodeOk Go.Proofs.Try.prog (cf31 n) := (code_cons Go.Proofs.Try.func31 (by kernel_rfl) code_nil)
  have he : EnvsOk Go.Proofs.Try.prog (cf31 n) := (env_cons (eo68 n) env_nil)
  have hl : LmsOk (R := List T) (cf31 n) (drawK (cf31 n)) (lms2 (lsl31 n)) (lsl31 n) := lms_nil
  envOk_of (cf := cf31 n) tabOk hc he (draw := drawK (cf31 n)) (fun _ => drawK_ok tabOk mixed hc he) (d := 3) (lms := lms2 (lsl31 n)) hl
    (fun τs rs h => by
      simp only [M31] at h
      split at h
      · exact (ev31 n _ _ _ _ _ _).trans h
      · cases h)
/-! ### 6: laws.FnExactSameAskers -/
def sg6 : Sig := ⟨[(true, [.int .i64, .slice 120, .slice 120]), (true, [.int .i64, .slice 120, .slice 120])], [.leaf .bool false]⟩
def F6 (n : Nat) (x0 x1 x2 x3 x4 x5 : T) : Option (List T) :=
  (F27 n x0 x1 x2 (.i 1048576)).bind fun r1 => bif (decide ((r1.headD (.i 0)).I < 0)) then (some [.b true]) else ((F27 n x3 x4 x5 (r1.headD (.i 0))).bind fun r2 => bif (decide ((r2.headD (.i 0)).I < 0)) then (some [.b true]) else ((F29 n x0 x1 x2).bind fun r3 => (F29 n x3 x4 x5).bind fun r4 => (F28 n (r3.headD (.i 0)) (r3.tail.headD (.i 0)) (r3.tail.tail.headD (.i 0)) (r4.headD (.i 0)) (r4.tail.headD (.i 0)) (r4.tail.tail.headD (.i 0))).bind fun r5 => (F29 n x0 x1 x2).bind fun r6 => (F29 n x3 x4 x5).bind fun r7 => (F30 n (r6.headD (.i 0)) (r6.tail.headD (.i 0)) (r6.tail.tail.headD (.i 0)) (r7.headD (.i 0)) (r7.tail.headD (.i 0)) (r7.tail.tail.headD (.i 0))).bind fun r8 => bif (!((r8.headD (.i 0)).B == (r5.headD (.i 0)).B)) then (some [.b false]) else ((F29 n x0 x1 x2).bind fun r9 => (F31 n (r6.headD (.i 0)) (r6.tail.headD (.i 0)) (r6.tail.tail.headD (.i 0)) (r9.headD (.i 0)) (r9.tail.headD (.i 0)) (r9.tail.tail.headD (.i 0))).bind fun r10 => bif (!(r10.headD (.i 0)).B) then (some [.b false]) else ((F29 n x3 x4 x5).bind fun r11 => (F31 n (r7.headD (.i 0)) (r7.tail.headD (.i 0)) (r7.tail.tail.headD (.i 0)) (r11.headD (.i 0)) (r11.tail.headD (.i 0)) (r11.tail.tail.headD (.i 0))).bind fun r12 => bif (!(r12.headD (.i 0)).B) then (some [.b false]) else (some [.b true])))))
def M6 (n : Nat) (τs : List T) : Option (List T) := match τs with
  | [x0, x1, x2, x3, x4, x5] => F6 n x0 x1 x2 x3 x4 x5
  | _ => none
noncomputable def code6 : List (Nat × Func) := [(6, Go.Proofs.Try.f6)]
def env6 : List (Nat × (Sig × Mean)) := [(27, sg27, ⟨M27⟩), (28, sg28, ⟨M28⟩), (29, sg29, ⟨M29⟩), (30, sg30, ⟨M30⟩), (31, sg31, ⟨M31⟩)]
def ann6 (f i : Nat) : Ann := match f, i with
  | _, _ => ⟨[], [], []⟩
def lsl6 (n : Nat) : List ((Nat × Nat) × (Nat → List LoopM)) := []
noncomputable def cf6 (n : Nat) : Cfg := ⟨tiOf tab, lookup code6, lookup env6, ann6, n⟩
theorem ev6 (n : Nat) (x0 x1 x2 x3 x4 x5 : T) : evF (cf6 n) (drawK (cf6 n)) (lms2 (lsl6 n)) 3 6 sg6 [x0, x1, x2, x3, x4, x5] = F6 n x0 x1 x2 x3 x4 x5 := by kernel_rfl
theorem eo6 (n : Nat) : EnvOk Go.Proofs.Try.prog (tiOf tab) n 6 sg6 ⟨M6⟩ :=
  have hc : CodeOk Go.Proofs.Try.prog (cf6 n) := (code_cons Go.Proofs.Try.func6 (by kernel_rfl) code_nil)
  have he : EnvsOk Go.Proofs.Try.prog (cf6 n) := (env_cons (eo27 n) (env_cons (eo28 n) (env_cons (eo29 n) (env_cons (eo30 n) (env_cons (eo31 n) env_nil)))))
  have hl : LmsOk (R := List T) (cf6 n) (drawK (cf6 n)) (lms2 (lsl6 n)) (lsl6 n) := lms_nil
  envOk_of (cf := cf6 n) tabOk hc he (draw := drawK (cf6 n)) (fun _ => drawK_ok tabOk mixed hc he) (d := 3) (lms := lms2 (lsl6 n)) hl
    (fun τs rs h => by
      simp only [M6] at h
      split at h
      · exact (ev6 n _ _ _ _ _ _).trans h
      · cases h)
end Go.KX.Sa
