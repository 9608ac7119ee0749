import Derived.Test.YtpkeanlcmjbgnaaProg
import Derived.KernelRfl
import Derived.Test.YtpkeanlcmjbgnaaKxC
namespace Go.KX.Sa
open Go
set_option linter.unusedVariables false
def tab : List (Nat × TyI) := [
  (2, ⟨true, false, [.int .i64], 8, .leaf, false⟩),
  (3, ⟨true, false, [.int .i64], 8, .leaf, false⟩),
  (4, ⟨true, false, [.bool], 1, .leaf, false⟩),
  (50, ⟨true, false, [.slice 120], 24, .slice 120, false⟩),
  (52, ⟨true, true, [.int .i64, .slice 120, .slice 120], 56, .struct [(2, 0), (50, 1), (50, 2)], false⟩),
  (55, ⟨true, false, [.slice 97], 24, .slice 97, false⟩),
  (57, ⟨true, true, [.int .i64, .slice 97, .slice 97], 56, .struct [(2, 0), (55, 1), (55, 2)], false⟩),
  (97, ⟨true, true, [.int .i64, .int .i64], 16, .struct [(2, 0), (2, 1)], true⟩),
  (120, ⟨true, true, [.int .i64, .int .i64], 16, .struct [(2, 0), (2, 1)], true⟩),
  (126, ⟨true, false, [.slice 55], 24, .slice 55, false⟩)]
theorem tabOk : TabOk Go.Proofs.Try.prog (tiOf tab) := tab_ok (by kernel_rfl)
theorem mixed : Go.Proofs.Try.prog.follows .mixedOrders = true := by kernel_rfl
/-! ### 64: laws.szAddrOpS -/
def sg64 : Sig := ⟨[(false, [.slice 120]), (false, [.int .i64])], [.leaf (.int .i64) false]⟩
def F64 (n : Nat) (x0 x1 : T) : Option (List T) :=
  bif (decide ((IntKind.wrap .i64 (x1.I - (x0.L.length : Int))) < 0)) then (some [.i (-1)]) else (some [.i (IntKind.wrap .i64 (x1.I - (x0.L.length : Int)))])
def M64 (n : Nat) (τs : List T) : Option (List T) := match τs with
  | [x0, x1] => F64 n x0 x1
  | _ => none
noncomputable def code64 : List (Nat × Func) := [(64, Go.Proofs.Try.f64)]
def env64 : List (Nat × (Sig × Mean)) := []
def ann64 (f i : Nat) : Ann := match f, i with
  | _, _ => ⟨[], [], []⟩
def lsl64 (n : Nat) : List ((Nat × Nat) × (Nat → List LoopM)) := []
noncomputable def cf64 (n : Nat) : Cfg := ⟨tiOf tab, lookup code64, lookup env64, ann64, n⟩
theorem ev64 (n : Nat) (x0 x1 : T) : evF (cf64 n) (drawK (cf64 n)) (lms2 (lsl64 n)) 3 64 sg64 [x0, x1] = F64 n x0 x1 := by kernel_rfl
theorem eo64 (n : Nat) : EnvOk Go.Proofs.Try.prog (tiOf tab) n 64 sg64 ⟨M64⟩ :=
  have hc : CodeOk Go.Proofs.Try.prog (cf64 n) := (code_cons Go.Proofs.Try.func64 (by kernel_rfl) code_nil)
  have he : EnvsOk Go.Proofs.Try.prog (cf64 n) := env_nil
  have hl : LmsOk (R := List T) (cf64 n) (drawK (cf64 n)) (lms2 (lsl64 n)) (lsl64 n) := lms_nil
  envOk_of (cf := cf64 n) tabOk hc he (draw := drawK (cf64 n)) (fun _ => drawK_ok tabOk mixed hc he) (d := 3) (lms := lms2 (lsl64 n)) hl
    (fun τs rs h => by
      simp only [M64] at h
      split at h
      · exact (ev64 n _ _).trans h
      · cases h)
/-! ### 27: laws.szAsker -/
def sg27 : Sig := ⟨[(true, [.int .i64, .slice 120, .slice 120]), (false, [.int .i64])], [.leaf (.int .i64) false]⟩
def F27 (n : Nat) (x0 x1 x2 x3 : T) : Option (List T) :=
  (F64 n x1 x3).bind fun r1 => bif (decide ((r1.headD (.i 0)).I < 0)) then (some [.i (-1)]) else ((F64 n x2 (r1.headD (.i 0))).bind fun r2 => bif (decide ((r2.headD (.i 0)).I < 0)) then (some [.i (-1)]) else (some [(r2.headD (.i 0))]))
def M27 (n : Nat) (τs : List T) : Option (List T) := match τs with
  | [x0, x1, x2, x3] => F27 n x0 x1 x2 x3
  | _ => none
noncomputable def code27 : List (Nat × Func) := [(27, Go.Proofs.Try.f27)]
def env27 : List (Nat × (Sig × Mean)) := [(64, sg64, ⟨M64⟩)]
def ann27 (f i : Nat) : Ann := match f, i with
  | _, _ => ⟨[], [], []⟩
def lsl27 (n : Nat) : List ((Nat × Nat) × (Nat → List LoopM)) := []
noncomputable def cf27 (n : Nat) : Cfg := ⟨tiOf tab, lookup code27, lookup env27, ann27, n⟩
theorem ev27 (n : Nat) (x0 x1 x2 x3 : T) : evF (cf27 n) (drawK (cf27 n)) (lms2 (lsl27 n)) 3 27 sg27 [x0, x1, x2, x3] = F27 n x0 x1 x2 x3 := by kernel_rfl
theorem eo27 (n : Nat) : EnvOk Go.Proofs.Try.prog (tiOf tab) n 27 sg27 ⟨M27⟩ :=
  have hc : CodeOk Go.Proofs.Try.prog (cf27 n) := (code_cons Go.Proofs.Try.func27 (by kernel_rfl) code_nil)
  have he : EnvsOk Go.Proofs.Try.prog (cf27 n) := (env_cons (eo64 n) env_nil)
  have hl : LmsOk (R := List T) (cf27 n) (drawK (cf27 n)) (lms2 (lsl27 n)) (lsl27 n) := lms_nil
  envOk_of (cf := cf27 n) tabOk hc he (draw := drawK (cf27 n)) (fun _ => drawK_ok tabOk mixed hc he) (d := 3) (lms := lms2 (lsl27 n)) hl
    (fun τs rs h => by
      simp only [M27] at h
      split at h
      · exact (ev27 n _ _ _ _).trans h
      · cases h)
/-! ### 89: laws.toAddrOp -/
def sg89 : Sig := ⟨[(true, [.int .i64, .int .i64])], [.agg [(.int .i64, false), (.int .i64, false)]]⟩
def F89 (n : Nat) (x0 x1 : T) : Option (List T) :=
  some [x0, x1]
def M89 (n : Nat) (τs : List T) : Option (List T) := match τs with
  | [x0, x1] => F89 n x0 x1
  | _ => none
noncomputable def code89 : List (Nat × Func) := [(89, Go.Proofs.Try.f89)]
def env89 : List (Nat × (Sig × Mean)) := []
def ann89 (f i : Nat) : Ann := match f, i with
  | _, _ => ⟨[], [], []⟩
def lsl89 (n : Nat) : List ((Nat × Nat) × (Nat → List LoopM)) := []
noncomputable def cf89 (n : Nat) : Cfg := ⟨tiOf tab, lookup code89, lookup env89, ann89, n⟩
theorem ev89 (n : Nat) (x0 x1 : T) : evF (cf89 n) (drawK (cf89 n)) (lms2 (lsl89 n)) 3 89 sg89 [x0, x1] = F89 n x0 x1 := by kernel_rfl
theorem eo89 (n : Nat) : EnvOk Go.Proofs.Try.prog (tiOf tab) n 89 sg89 ⟨M89⟩ :=
  have hc : CodeOk Go.Proofs.Try.prog (cf89 n) := (code_cons Go.Proofs.Try.func89 (by kernel_rfl) code_nil)
  have he : EnvsOk Go.Proofs.Try.prog (cf89 n) := env_nil
  have hl : LmsOk (R := List T) (cf89 n) (drawK (cf89 n)) (lms2 (lsl89 n)) (lsl89 n) := lms_nil
  envOk_of (cf := cf89 n) tabOk hc he (draw := drawK (cf89 n)) (fun _ => drawK_ok tabOk mixed hc he) (d := 3) (lms := lms2 (lsl89 n)) hl
    (fun τs rs h => by
      simp only [M89] at h
      split at h
      · exact (ev89 n _ _).trans h
      · cases h)
/-! ### 66: laws.toAddrOpS -/
def sg66 : Sig := ⟨[(false, [.slice 120])], [.leaf (.slice 97) false]⟩
def G66_66_3 {R : Type} (n : Nat) (v : List T) (self : List T → Option R) (ex : List (List T → Option R)) : Option R :=
  bif (decide ((v.getD 1 (.i 0)).I < ((((v.getD 0 (.i 0)).L).length : Nat) : Int))) then (if 0 ≤ (v.getD 1 (.i 0)).I ∧ (v.getD 1 (.i 0)).I < (((v.getD 0 (.i 0)).L).length : Int) then ((F89 n ((at_ ((v.getD 0 (.i 0)).L) ((v.getD 1 (.i 0)).I)).F 0) ((at_ ((v.getD 0 (.i 0)).L) ((v.getD 1 (.i 0)).I)).F 1)).bind fun r1 => if 0 ≤ (v.getD 1 (.i 0)).I ∧ (v.getD 1 (.i 0)).I < (((v.getD 2 (.i 0)).L).length : Int) then (if 97 = 97 ∧ ((v.getD 1 (.i 0)).I).toNat < ((v.getD 2 (.i 0)).L).length then (self [.l ((v.getD 0 (.i 0)).L), .i (IntKind.wrap .i64 ((v.getD 1 (.i 0)).I + 1)), .l (((v.getD 2 (.i 0)).L).set (((v.getD 1 (.i 0)).I).toNat) (.r [(r1.headD (.i 0)), (r1.tail.headD (.i 0))]))]) else none) else none) else none) else (exn ex 0 [.l ((v.getD 2 (.i 0)).L)])
def L66_66_3 (n : Nat) : LoopM := ⟨⟨[[.t (.slice 120) (.i 0), .un, .un, .own 97 0, .t (.int .i64) (.i 0), .un, .un, .un, .un, .un, .un, .un, .un, .un, .un, .un, .un, .un, .un, .un, .un, .un, .un]], [.arr 97 []]⟩, [(.exit 0, ⟨[[.un, .un, .un, .own 97 0, .un, .un, .un, .un, .un, .un, .un, .un, .un, .un, .un, .un, .un, .un, .un, .un, .un, .un, .un]], [.arr 97 []]⟩)], fun v self ex => G66_66_3 n v self ex⟩
def F66 (n : Nat) (x0 : T) : Option (List T) :=
  if 0 ≤ (x0.L.length : Int) ∧ (x0.L.length : Int) * 16 ≤ limB ∧ (x0.L.length : Int) < maxN then (loopR (L66_66_3 n).G n [.l x0.L, .i 0, .l (List.replicate ((x0.L.length : Int)).toNat (T.r [.i 0, .i 0]))] [fun u2 => some [.l ((u2.getD 0 (.i 0)).L)]]) else none
def M66 (n : Nat) (τs : List T) : Option (List T) := match τs with
  | [x0] => F66 n x0
  | _ => none
noncomputable def code66 : List (Nat × Func) := [(66, Go.Proofs.Try.f66)]
def env66 : List (Nat × (Sig × Mean)) := [(89, sg89, ⟨M89⟩)]
def ann66 (f i : Nat) : Ann := match f, i with
  | 66, 3 => ⟨[(0, .any), (3, .any), (4, .any)], [], [(3, .any)]⟩
  | _, _ => ⟨[], [], []⟩
def lm66_66 (n : Nat) (i : Nat) : List LoopM := match i with
  | 3 => [L66_66_3 n]
  | _ => []
def lsl66 (n : Nat) : List ((Nat × Nat) × (Nat → List LoopM)) := [((3, 66), lm66_66 n)]
noncomputable def cf66 (n : Nat) : Cfg := ⟨tiOf tab, lookup code66, lookup env66, ann66, n⟩
theorem ev66 (n : Nat) (x0 : T) : evF (cf66 n) (drawK (cf66 n)) (lms2 (lsl66 n)) 3 66 sg66 [x0] = F66 n x0 := by kernel_rfl
theorem lp66_66_3 (n : Nat) (K : Ex → St → Option (List T)) (self : List T → Option (List T)) (v : List T) : evC (cf66 n) (callK (cf66 n) (drawK (cf66 n)) (lms2 (lsl66 n)) 3) (drawK (cf66 n) (callK (cf66 n) (drawK (cf66 n)) (lms2 (lsl66 n)) 3)) (ann66 66) (lm66_66 n) (bodyOf Go.Proofs.Try.f66 3) ((L66_66_3 n).sk.fill v) (roundK (ann66 66 3) K (selfK (L66_66_3 n) self)) = (L66_66_3 n).G v self (exitK (L66_66_3 n) K) := by kernel_rfl
theorem eo66 (n : Nat) : EnvOk Go.Proofs.Try.prog (tiOf tab) n 66 sg66 ⟨M66⟩ :=
  have hc : CodeOk Go.Proofs.Try.prog (cf66 n) := (code_cons Go.Proofs.Try.func66 (by kernel_rfl) code_nil)
  have he : EnvsOk Go.Proofs.Try.prog (cf66 n) := (env_cons (eo89 n) env_nil)
  have hl : LmsOk (R := List T) (cf66 n) (drawK (cf66 n)) (lms2 (lsl66 n)) (lsl66 n) := (lms_cons (loops_of (cf := cf66 n) (fn0 := Go.Proofs.Try.f66) rfl (l := [bodyOf Go.Proofs.Try.f66 3]) (by kernel_rfl) (loops_cons (b := bodyOf Go.Proofs.Try.f66 3) (by kernel_rfl) (rfl : lm66_66 n 3 = [L66_66_3 n]) (List.forall_mem_cons.2 ⟨fun K self v => lp66_66_3 n K self v, fun _ h => by cases h⟩) loops_nil)) lms_nil)
  envOk_of (cf := cf66 n) tabOk hc he (draw := drawK (cf66 n)) (fun _ => drawK_ok tabOk mixed hc he) (d := 3) (lms := lms2 (lsl66 n)) hl
    (fun τs rs h => by
      simp only [M66] at h
      split at h
      · exact (ev66 n _).trans h
      · cases h)
/-! ### 29: laws.toAsker -/
def sg29 : Sig := ⟨[(true, [.int .i64, .slice 120, .slice 120])], [.agg [(.int .i64, false), (.slice 97, false), (.slice 97, false)]]⟩
def F29 (n : Nat) (x0 x1 x2 : T) : Option (List T) :=
  (F66 n x1).bind fun r1 => (F66 n x2).bind fun r2 => some [x0, (r1.headD (.i 0)), (r2.headD (.i 0))]
def M29 (n : Nat) (τs : List T) : Option (List T) := match τs with
  | [x0, x1, x2] => F29 n x0 x1 x2
  | _ => none
noncomputable def code29 : List (Nat × Func) := [(29, Go.Proofs.Try.f29)]
def env29 : List (Nat × (Sig × Mean)) := [(66, sg66, ⟨M66⟩)]
def ann29 (f i : Nat) : Ann := match f, i with
  | _, _ => ⟨[], [], []⟩
def lsl29 (n : Nat) : List ((Nat × Nat) × (Nat → List LoopM)) := []
noncomputable def cf29 (n : Nat) : Cfg := ⟨tiOf tab, lookup code29, lookup env29, ann29, n⟩
theorem ev29 (n : Nat) (x0 x1 x2 : T) : evF (cf29 n) (drawK (cf29 n)) (lms2 (lsl29 n)) 3 29 sg29 [x0, x1, x2] = F29 n x0 x1 x2 := by kernel_rfl
theorem eo29 (n : Nat) : EnvOk Go.Proofs.Try.prog (tiOf tab) n 29 sg29 ⟨M29⟩ :=
  have hc : CodeOk Go.Proofs.Try.prog (cf29 n) := (code_cons Go.Proofs.Try.func29 (by kernel_rfl) code_nil)
  have he : EnvsOk Go.Proofs.Try.prog (cf29 n) := (env_cons (eo66 n) env_nil)
  have hl : LmsOk (R := List T) (cf29 n) (drawK (cf29 n)) (lms2 (lsl29 n)) (lsl29 n) := lms_nil
  envOk_of (cf := cf29 n) tabOk hc he (draw := drawK (cf29 n)) (fun _ => drawK_ok tabOk mixed hc he) (d := 3) (lms := lms2 (lsl29 n)) hl
    (fun τs rs h => by
      simp only [M29] at h
      split at h
      · exact (ev29 n _ _ _).trans h
      · cases h)
/-! ### 90: laws.eqAddrOp -/
def sg90 : Sig := ⟨[(true, [.int .i64, .int .i64]), (true, [.int .i64, .int .i64])], [.leaf .bool false]⟩
def F90 (n : Nat) (x0 x1 x2 x3 : T) : Option (List T) :=
  bif (x0.I != x2.I) then (some [.b false]) else (bif (x1.I != x3.I) then (some [.b false]) else (some [.b true]))
def M90 (n : Nat) (τs : List T) : Option (List T) := match τs with
  | [x0, x1, x2, x3] => F90 n x0 x1 x2 x3
  | _ => none
noncomputable def code90 : List (Nat × Func) := [(90, Go.Proofs.Try.f90)]
def env90 : List (Nat × (Sig × Mean)) := []
def ann90 (f i : Nat) : Ann := match f, i with
  | _, _ => ⟨[], [], []⟩
def lsl90 (n : Nat) : List ((Nat × Nat) × (Nat → List LoopM)) := []
noncomputable def cf90 (n : Nat) : Cfg := ⟨tiOf tab, lookup code90, lookup env90, ann90, n⟩
theorem ev90 (n : Nat) (x0 x1 x2 x3 : T) : evF (cf90 n) (drawK (cf90 n)) (lms2 (lsl90 n)) 3 90 sg90 [x0, x1, x2, x3] = F90 n x0 x1 x2 x3 := by kernel_rfl
theorem eo90 (n : Nat) : EnvOk Go.Proofs.Try.prog (tiOf tab) n 90 sg90 ⟨M90⟩ :=
  have hc : CodeOk Go.Proofs.Try.prog (cf90 n) := (code_cons Go.Proofs.Try.func90 (by kernel_rfl) code_nil)
  have he : EnvsOk Go.Proofs.Try.prog (cf90 n) := env_nil
  have hl : LmsOk (R := List T) (cf90 n) (drawK (cf90 n)) (lms2 (lsl90 n)) (lsl90 n) := lms_nil
  envOk_of (cf := cf90 n) tabOk hc he (draw := drawK (cf90 n)) (fun _ => drawK_ok tabOk mixed hc he) (d := 3) (lms := lms2 (lsl90 n)) hl
    (fun τs rs h => by
      simp only [M90] at h
      split at h
      · exact (ev90 n _ _ _ _).trans h
      · cases h)
/-! ### 68: laws.eqAddrOpS -/
def sg68 : Sig := ⟨[(false, [.slice 97]), (false, [.slice 97])], [.leaf .bool false]⟩
def G68_68_4 {R : Type} (n : Nat) (v : List T) (self : List T → Option R) (ex : List (List T → Option R)) : Option R :=
  bif (decide ((v.getD 2 (.i 0)).I < ((((v.getD 0 (.i 0)).L).length : Nat) : Int))) then (if 0 ≤ (v.getD 2 (.i 0)).I ∧ (v.getD 2 (.i 0)).I < (((v.getD 0 (.i 0)).L).length : Int) then (if 0 ≤ (v.getD 2 (.i 0)).I ∧ (v.getD 2 (.i 0)).I < (((v.getD 1 (.i 0)).L).length : Int) then ((F90 n ((at_ ((v.getD 0 (.i 0)).L) ((v.getD 2 (.i 0)).I)).F 0) ((at_ ((v.getD 0 (.i 0)).L) ((v.getD 2 (.i 0)).I)).F 1) ((at_ ((v.getD 1 (.i 0)).L) ((v.getD 2 (.i 0)).I)).F 0) ((at_ ((v.getD 1 (.i 0)).L) ((v.getD 2 (.i 0)).I)).F 1)).bind fun r1 => bif (!(r1.headD (.i 0)).B) then (exn ex 0 [.b false]) else (self [.l ((v.getD 0 (.i 0)).L), .l ((v.getD 1 (.i 0)).L), .i (IntKind.wrap .i64 ((v.getD 2 (.i 0)).I + 1))])) else none) else none) else (exn ex 1 [])
def L68_68_4 (n : Nat) : LoopM := ⟨⟨[[.t (.slice 97) (.i 0), .t (.slice 97) (.i 0), .un, .un, .un, .t (.int .i64) (.i 0), .un, .un, .un, .un, .un, .un, .un, .un, .un, .un, .un, .un, .un, .un, .un, .un, .un, .un, .un, .un, .un]], []⟩, [(.ret, ⟨[[.un, .un, .un, .un, .t .bool (.i 0), .un, .un, .un, .un, .un, .un, .un, .un, .un, .un, .un, .un, .un, .un, .un, .un, .un, .un, .un, .un, .un, .un]], []⟩), (.exit 0, ⟨[[.un, .un, .un, .un, .un, .un, .un, .un, .un, .un, .un, .un, .un, .un, .un, .un, .un, .un, .un, .un, .un, .un, .un, .un, .un, .un, .un]], []⟩)], fun v self ex => G68_68_4 n v self ex⟩
def F68 (n : Nat) (x0 x1 : T) : Option (List T) :=
  bif ((x0.L.length : Int) != (x1.L.length : Int)) then (some [.b false]) else (loopR (L68_68_4 n).G n [.l x0.L, .l x1.L, .i 0] [fun u2 => some [.b ((u2.getD 0 (.i 0)).B)], fun u3 => some [.b true]])
def M68 (n : Nat) (τs : List T) : Option (List T) := match τs with
  | [x0, x1] => F68 n x0 x1
  | _ => none
noncomputable def code68 : List (Nat × Func) := [(68, Go.Proofs.Try.f68)]
def env68 : List (Nat × (Sig × Mean)) := [(90, sg90, ⟨M90⟩)]
def ann68 (f i : Nat) : Ann := match f, i with
  | 68, 4 => ⟨[(0, .any), (1, .any), (5, .any)], [], [(4, .any)]⟩
  | _, _ => ⟨[], [], []⟩
def lm68_68 (n : Nat) (i : Nat) : List LoopM := match i with
  | 4 => [L68_68_4 n]
  | _ => []
def lsl68 (n : Nat) : List ((Nat × Nat) × (Nat → List LoopM)) := [((3, 68), lm68_68 n)]
noncomputable def cf68 (n : Nat) : Cfg := ⟨tiOf tab, lookup code68, lookup env68, ann68, n⟩
theorem ev68 (n : Nat) (x0 x1 : T) : evF (cf68 n) (drawK (cf68 n)) (lms2 (lsl68 n)) 3 68 sg68 [x0, x1] = F68 n x0 x1 := by kernel_rfl
theorem lp68_68_4 (n : Nat) (K : Ex → St → Option (List T)) (self : List T → Option (List T)) (v : List T) : evC (cf68 n) (callK (cf68 n) (drawK (cf68 n)) (lms2 (lsl68 n)) 3) (drawK (cf68 n) (callK (cf68 n) (drawK (cf68 n)) (lms2 (lsl68 n)) 3)) (ann68 68) (lm68_68 n) (bodyOf Go.Proofs.Try.f68 4) ((L68_68_4 n).sk.fill v) (roundK (ann68 68 4) K (selfK (L68_68_4 n) self)) = (L68_68_4 n).G v self (exitK (L68_68_4 n) K) := by kernel_rfl
theorem eo68 (n : Nat) : EnvOk Go.Proofs.Try.prog (tiOf tab) n 68 sg68 ⟨M68⟩ :=
  have hc : CodeOk Go.Proofs.Try.prog (cf68 n) := (code_cons Go.Proofs.Try.func68 (by kernel_rfl) code_nil)
  have he : EnvsOk Go.Proofs.Try.prog (cf68 n) := (env_cons (eo90 n) env_nil)
  have hl : LmsOk (R := List T) (cf68 n) (drawK (cf68 n)) (lms2 (lsl68 n)) (lsl68 n) := (lms_cons (loops_of (cf := cf68 n) (fn0 := Go.Proofs.Try.f68) rfl (l := [bodyOf Go.Proofs.Try.f68 4]) (by kernel_rfl) (loops_cons (b := bodyOf Go.Proofs.Try.f68 4) (by kernel_rfl) (rfl : lm68_68 n 4 = [L68_68_4 n]) (List.forall_mem_cons.2 ⟨fun K self v => lp68_68_4 n K self v, fun _ h => by cases h⟩) loops_nil)) lms_nil)
  envOk_of (cf := cf68 n) tabOk hc he (draw := drawK (cf68 n)) (fun _ => drawK_ok tabOk mixed hc he) (d := 3) (lms := lms2 (lsl68 n)) hl
    (fun τs rs h => by
      simp only [M68] at h
      split at h
      · exact (ev68 n _ _).trans h
      · cases h)
/-! ### 31: laws.eqAsker -/
def sg31 : Sig := ⟨[(true, [.int .i64, .slice 97, .slice 97]), (true, [.int .i64, .slice 97, .slice 97])], [.leaf .bool false]⟩
def F31 (n : Nat) (x0 x1 x2 x3 x4 x5 : T) : Option (List T) :=
  bif (x0.I != x3.I) then (some [.b false]) else ((F68 n x1 x4).bind fun r1 => bif (!(r1.headD (.i 0)).B) then (some [.b false]) else ((F68 n x2 x5).bind fun r2 => bif (!(r2.headD (.i 0)).B) then (some [.b false]) else (some [.b true])))
def M31 (n : Nat) (τs : List T) : Option (List T) := match τs with
  | [x0, x1, x2, x3, x4, x5] => F31 n x0 x1 x2 x3 x4 x5
  | _ => none
noncomputable def code31 : List (Nat × Func) := [(31, Go.Proofs.Try.f31)]
def env31 : List (Nat × (Sig × Mean)) := [(68, sg68, ⟨M68⟩)]
def ann31 (f i : Nat) : Ann := match f, i with
  | _, _ => ⟨[], [], []⟩
def lsl31 (n : Nat) : List ((Nat × Nat) × (Nat → List LoopM)) := []
noncomputable def cf31 (n : Nat) : Cfg := ⟨tiOf tab, lookup code31, lookup env31, ann31, n⟩
theorem ev31 (n : Nat) (x0 x1 x2 x3 x4 x5 : T) : evF (cf31 n) (drawK (cf31 n)) (lms2 (lsl31 n)) 3 31 sg31 [x0, x1, x2, x3, x4, x5] = F31 n x0 x1 x2 x3 x4 x5 := by kernel_rfl
theorem eo31 (n : Nat) : EnvOk Go.Proofs.Try.prog (tiOf tab) n 31 sg31 ⟨M31⟩ :=
  have hc : CodeOk Go.Proofs.Try.prog (cf31 n) := (code_cons Go.Proofs.Try.func31 (by kernel_rfl) code_nil)
  have he : EnvsOk Go.Proofs.Try.prog (cf31 n) := (env_cons (eo68 n) env_nil)
  have hl : LmsOk (R := List T) (cf31 n) (drawK (cf31 n)) (lms2 (lsl31 n)) (lsl31 n) := lms_nil
  envOk_of (cf := cf31 n) tabOk hc he (draw := drawK (cf31 n)) (fun _ => drawK_ok tabOk mixed hc he) (d := 3) (lms := lms2 (lsl31 n)) hl
    (fun τs rs h => by
      simp only [M31] at h
      split at h
      · exact (ev31 n _ _ _ _ _ _).trans h
      · cases h)
/-! ### 50: spec.l1In -/
def sg50 : Sig := ⟨[(false, [.int .i64]), (false, [.int .i64]), (false, [.int .i64])], [.leaf .bool false]⟩
def F50 (n : Nat) (x0 x1 x2 : T) : Option (List T) :=
  bif (decide (x0.I ≥ x1.I)) then (some [.b (decide (x0.I ≤ x2.I))]) else (some [.b false])
def M50 (n : Nat) (τs : List T) : Option (List T) := match τs with
  | [x0, x1, x2] => F50 n x0 x1 x2
  | _ => none
noncomputable def code50 : List (Nat × Func) := [(50, Go.Proofs.Try.f50)]
def env50 : List (Nat × (Sig × Mean)) := []
def ann50 (f i : Nat) : Ann := match f, i with
  | _, _ => ⟨[], [], []⟩
def lsl50 (n : Nat) : List ((Nat × Nat) × (Nat → List LoopM)) := []
noncomputable def cf50 (n : Nat) : Cfg := ⟨tiOf tab, lookup code50, lookup env50, ann50, n⟩
theorem ev50 (n : Nat) (x0 x1 x2 : T) : evF (cf50 n) (drawK (cf50 n)) (lms2 (lsl50 n)) 3 50 sg50 [x0, x1, x2] = F50 n x0 x1 x2 := by kernel_rfl
theorem eo50 (n : Nat) : EnvOk Go.Proofs.Try.prog (tiOf tab) n 50 sg50 ⟨M50⟩ :=
  have hc : CodeOk Go.Proofs.Try.prog (cf50 n) := (code_cons Go.Proofs.Try.func50 (by kernel_rfl) code_nil)
  have he : EnvsOk Go.Proofs.Try.prog (cf50 n) := env_nil
  have hl : LmsOk (R := List T) (cf50 n) (drawK (cf50 n)) (lms2 (lsl50 n)) (lsl50 n) := lms_nil
  envOk_of (cf := cf50 n) tabOk hc he (draw := drawK (cf50 n)) (fun _ => drawK_ok tabOk mixed hc he) (d := 3) (lms := lms2 (lsl50 n)) hl
    (fun τs rs h => by
      simp only [M50] at h
      split at h
      · exact (ev50 n _ _ _).trans h
      · cases h)
/-! ### 56: spec.l1Word32 -/
def sg56 : Sig := ⟨[(false, [.int .i64])], [.leaf .bool false]⟩
def F56 (n : Nat) (x0 : T) : Option (List T) :=
  (F50 n x0 (.i 0) (.i 4294967295)).bind fun r1 => some [(r1.headD (.i 0))]
def M56 (n : Nat) (τs : List T) : Option (List T) := match τs with
  | [x0] => F56 n x0
  | _ => none
noncomputable def code56 : List (Nat × Func) := [(56, Go.Proofs.Try.f56)]
def env56 : List (Nat × (Sig × Mean)) := [(50, sg50, ⟨M50⟩)]
def ann56 (f i : Nat) : Ann := match f, i with
  | _, _ => ⟨[], [], []⟩
def lsl56 (n : Nat) : List ((Nat × Nat) × (Nat → List LoopM)) := []
noncomputable def cf56 (n : Nat) : Cfg := ⟨tiOf tab, lookup code56, lookup env56, ann56, n⟩
theorem ev56 (n : Nat) (x0 : T) : evF (cf56 n) (drawK (cf56 n)) (lms2 (lsl56 n)) 3 56 sg56 [x0] = F56 n x0 := by kernel_rfl
theorem eo56 (n : Nat) : EnvOk Go.Proofs.Try.prog (tiOf tab) n 56 sg56 ⟨M56⟩ :=
  have hc : CodeOk Go.Proofs.Try.prog (cf56 n) := (code_cons Go.Proofs.Try.func56 (by kernel_rfl) code_nil)
  have he : EnvsOk Go.Proofs.Try.prog (cf56 n) := (env_cons (eo50 n) env_nil)
  have hl : LmsOk (R := List T) (cf56 n) (drawK (cf56 n)) (lms2 (lsl56 n)) (lsl56 n) := lms_nil
  envOk_of (cf := cf56 n) tabOk hc he (draw := drawK (cf56 n)) (fun _ => drawK_ok tabOk mixed hc he) (d := 3) (lms := lms2 (lsl56 n)) hl
    (fun τs rs h => by
      simp only [M56] at h
      split at h
      · exact (ev56 n _).trans h
      · cases h)
/-! ### 72: spec.l5Addr -/
def sg72 : Sig := ⟨[(false, [.int .i64])], [.leaf .bool false]⟩
def F72 (n : Nat) (x0 : T) : Option (List T) :=
  (F50 n x0 (.i 1) (.i 255)).bind fun r1 => some [(r1.headD (.i 0))]
def M72 (n : Nat) (τs : List T) : Option (List T) := match τs with
  | [x0] => F72 n x0
  | _ => none
noncomputable def code72 : List (Nat × Func) := [(72, Go.Proofs.Try.f72)]
def env72 : List (Nat × (Sig × Mean)) := [(50, sg50, ⟨M50⟩)]
def ann72 (f i : Nat) : Ann := match f, i with
  | _, _ => ⟨[], [], []⟩
def lsl72 (n : Nat) : List ((Nat × Nat) × (Nat → List LoopM)) := []
noncomputable def cf72 (n : Nat) : Cfg := ⟨tiOf tab, lookup code72, lookup env72, ann72, n⟩
theorem ev72 (n : Nat) (x0 : T) : evF (cf72 n) (drawK (cf72 n)) (lms2 (lsl72 n)) 3 72 sg72 [x0] = F72 n x0 := by kernel_rfl
theorem eo72 (n : Nat) : EnvOk Go.Proofs.Try.prog (tiOf tab) n 72 sg72 ⟨M72⟩ :=
  have hc : CodeOk Go.Proofs.Try.prog (cf72 n) := (code_cons Go.Proofs.Try.func72 (by kernel_rfl) code_nil)
  have he : EnvsOk Go.Proofs.Try.prog (cf72 n) := (env_cons (eo50 n) env_nil)
  have hl : LmsOk (R := List T) (cf72 n) (drawK (cf72 n)) (lms2 (lsl72 n)) (lsl72 n) := lms_nil
  envOk_of (cf := cf72 n) tabOk hc he (draw := drawK (cf72 n)) (fun _ => drawK_ok tabOk mixed hc he) (d := 3) (lms := lms2 (lsl72 n)) hl
    (fun τs rs h => by
      simp only [M72] at h
      split at h
      · exact (ev72 n _).trans h
      · cases h)
/-! ### 93: spec.l12Op -/
def sg93 : Sig := ⟨[(false, [.box 97])], [.leaf .bool false]⟩
def F93 (n : Nat) (x0 : T) : Option (List T) :=
  (F50 n (x0.F 0) (.i 1) (.i 3)).bind fun r1 => bif (r1.headD (.i 0)).B then ((F72 n (x0.F 1)).bind fun r2 => some [(r2.headD (.i 0))]) else (some [.b false])
def M93 (n : Nat) (τs : List T) : Option (List T) := match τs with
  | [x0] => F93 n x0
  | _ => none
noncomputable def code93 : List (Nat × Func) := [(93, Go.Proofs.Try.f93)]
def env93 : List (Nat × (Sig × Mean)) := [(50, sg50, ⟨M50⟩), (72, sg72, ⟨M72⟩)]
def ann93 (f i : Nat) : Ann := match f, i with
  | _, _ => ⟨[], [], []⟩
def lsl93 (n : Nat) : List ((Nat × Nat) × (Nat → List LoopM)) := []
noncomputable def cf93 (n : Nat) : Cfg := ⟨tiOf tab, lookup code93, lookup env93, ann93, n⟩
theorem ev93 (n : Nat) (x0 : T) : evF (cf93 n) (drawK (cf93 n)) (lms2 (lsl93 n)) 3 93 sg93 [x0] = F93 n x0 := by kernel_rfl
theorem eo93 (n : Nat) : EnvOk Go.Proofs.Try.prog (tiOf tab) n 93 sg93 ⟨M93⟩ :=
  have hc : CodeOk Go.Proofs.Try.prog (cf93 n) := (code_cons Go.Proofs.Try.func93 (by kernel_rfl) code_nil)
  have he : EnvsOk Go.Proofs.Try.prog (cf93 n) := (env_cons (eo50 n) (env_cons (eo72 n) env_nil))
  have hl : LmsOk (R := List T) (cf93 n) (drawK (cf93 n)) (lms2 (lsl93 n)) (lsl93 n) := lms_nil
  envOk_of (cf := cf93 n) tabOk hc he (draw := drawK (cf93 n)) (fun _ => drawK_ok tabOk mixed hc he) (d := 3) (lms := lms2 (lsl93 n)) hl
    (fun τs rs h => by
      simp only [M93] at h
      split at h
      · exact (ev93 n _).trans h
      · cases h)
/-! ### 82: spec.l12Ops -/
def sg82 : Sig := ⟨[(false, [.slice 97])], [.leaf .bool false]⟩
def G82_82_2 {R : Type} (n : Nat) (v : List T) (self : List T → Option R) (ex : List (List T → Option R)) : Option R :=
  bif (decide ((v.getD 1 (.i 0)).I < ((((v.getD 0 (.i 0)).L).length : Nat) : Int))) then (if 0 ≤ (v.getD 1 (.i 0)).I ∧ (v.getD 1 (.i 0)).I < (((v.getD 0 (.i 0)).L).length : Int) then ((F93 n (at_ ((v.getD 0 (.i 0)).L) ((v.getD 1 (.i 0)).I))).bind fun r1 => bif (!(r1.headD (.i 0)).B) then (exn ex 0 [.b false]) else (self [.l ((v.getD 0 (.i 0)).L), .i (IntKind.wrap .i64 ((v.getD 1 (.i 0)).I + 1))])) else none) else (exn ex 1 [])
def L82_82_2 (n : Nat) : LoopM := ⟨⟨[[.t (.slice 97) (.i 0), .un, .un, .t (.int .i64) (.i 0), .un, .un, .un, .un, .un, .un, .un, .un, .un, .un, .un]], []⟩, [(.ret, ⟨[[.un, .un, .t .bool (.i 0), .un, .un, .un, .un, .un, .un, .un, .un, .un, .un, .un, .un]], []⟩), (.exit 0, ⟨[[.un, .un, .un, .un, .un, .un, .un, .un, .un, .un, .un, .un, .un, .un, .un]], []⟩)], fun v self ex => G82_82_2 n v self ex⟩
def F82 (n : Nat) (x0 : T) : Option (List T) :=
  loopR (L82_82_2 n).G n [.l x0.L, .i 0] [fun u2 => some [.b ((u2.getD 0 (.i 0)).B)], fun u3 => some [.b true]]
def M82 (n : Nat) (τs : List T) : Option (List T) := match τs with
  | [x0] => F82 n x0
  | _ => none
noncomputable def code82 : List (Nat × Func) := [(82, Go.Proofs.Try.f82)]
def env82 : List (Nat × (Sig × Mean)) := [(93, sg93, ⟨M93⟩)]
def ann82 (f i : Nat) : Ann := match f, i with
  | 82, 2 => ⟨[(0, .any), (3, .any)], [], [(2, .any)]⟩
  | _, _ => ⟨[], [], []⟩
def lm82_82 (n : Nat) (i : Nat) : List LoopM := match i with
  | 2 => [L82_82_2 n]
  | _ => []
def lsl82 (n : Nat) : List ((Nat × Nat) × (Nat → List LoopM)) := [((3, 82), lm82_82 n)]
noncomputable def cf82 (n : Nat) : Cfg := ⟨tiOf tab, lookup code82, lookup env82, ann82, n⟩
theorem ev82 (n : Nat) (x0 : T) : evF (cf82 n) (drawK (cf82 n)) (lms2 (lsl82 n)) 3 82 sg82 [x0] = F82 n x0 := by kernel_rfl
theorem lp82_82_2 (n : Nat) (K : Ex → St → Option (List T)) (self : List T → Option (List T)) (v : List T) : evC (cf82 n) (callK (cf82 n) (drawK (cf82 n)) (lms2 (lsl82 n)) 3) (drawK (cf82 n) (callK (cf82 n) (drawK (cf82 n)) (lms2 (lsl82 n)) 3)) (ann82 82) (lm82_82 n) (bodyOf Go.Proofs.Try.f82 2) ((L82_82_2 n).sk.fill v) (roundK (ann82 82 2) K (selfK (L82_82_2 n) self)) = (L82_82_2 n).G v self (exitK (L82_82_2 n) K) := by kernel_rfl
theorem eo82 (n : Nat) : EnvOk Go.Proofs.Try.prog (tiOf tab) n 82 sg82 ⟨M82⟩ :=
  have hc : CodeOk Go.Proofs.Try.prog (cf82 n) := (code_cons Go.Proofs.Try.func82 (by kernel_rfl) code_nil)
  have he : EnvsOk Go.Proofs.Try.prog (cf82 n) := (env_cons (eo93 n) env_nil)
  have hl : LmsOk (R := List T) (cf82 n) (drawK (cf82 n)) (lms2 (lsl82 n)) (lsl82 n) := (lms_cons (loops_of (cf := cf82 n) (fn0 := Go.Proofs.Try.f82) rfl (l := [bodyOf Go.Proofs.Try.f82 2]) (by kernel_rfl) (loops_cons (b := bodyOf Go.Proofs.Try.f82 2) (by kernel_rfl) (rfl : lm82_82 n 2 = [L82_82_2 n]) (List.forall_mem_cons.2 ⟨fun K self v => lp82_82_2 n K self v, fun _ h => by cases h⟩) loops_nil)) lms_nil)
  envOk_of (cf := cf82 n) tabOk hc he (draw := drawK (cf82 n)) (fun _ => drawK_ok tabOk mixed hc he) (d := 3) (lms := lms2 (lsl82 n)) hl
    (fun τs rs h => by
      simp only [M82] at h
      split at h
      · exact (ev82 n _).trans h
      · cases h)
/-! ### 44: spec.AskerFault -/
def sg44 : Sig := ⟨[(true, [.int .i64, .slice 97, .slice 97])], [.leaf (.int .i64) false]⟩
def F44 (n : Nat) (x0 x1 x2 : T) : Option (List T) :=
  (F56 n x0).bind fun r1 => bif (!(r1.headD (.i 0)).B) then (some [.i 3]) else (bif (decide ((x1.L.length : Int) > 20)) then (some [.i 2]) else (bif (decide ((x2.L.length : Int) > 4)) then (some [.i 2]) else ((F82 n x1).bind fun r2 => bif (!(r2.headD (.i 0)).B) then (some [.i 3]) else ((F82 n x2).bind fun r3 => bif (!(r3.headD (.i 0)).B) then (some [.i 3]) else (some [.i 0])))))
def M44 (n : Nat) (τs : List T) : Option (List T) := match τs with
  | [x0, x1, x2] => F44 n x0 x1 x2
  | _ => none
noncomputable def code44 : List (Nat × Func) := [(44, Go.Proofs.Try.f44)]
def env44 : List (Nat × (Sig × Mean)) := [(56, sg56, ⟨M56⟩), (82, sg82, ⟨M82⟩)]
def ann44 (f i : Nat) : Ann := match f, i with
  | _, _ => ⟨[], [], []⟩
def lsl44 (n : Nat) : List ((Nat × Nat) × (Nat → List LoopM)) := []
noncomputable def cf44 (n : Nat) : Cfg := ⟨tiOf tab, lookup code44, lookup env44, ann44, n⟩
theorem ev44 (n : Nat) (x0 x1 x2 : T) : evF (cf44 n) (drawK (cf44 n)) (lms2 (lsl44 n)) 3 44 sg44 [x0, x1, x2] = F44 n x0 x1 x2 := by kernel_rfl
theorem eo44 (n : Nat) : EnvOk Go.Proofs.Try.prog (tiOf tab) n 44 sg44 ⟨M44⟩ :=
  have hc : CodeOk Go.Proofs.Try.prog (cf44 n) := (code_cons Go.Proofs.Try.func44 (by kernel_rfl) code_nil)
  have he : EnvsOk Go.Proofs.Try.prog (cf44 n) := (env_cons (eo56 n) (env_cons (eo82 n) env_nil))
  have hl : LmsOk (R := List T) (cf44 n) (drawK (cf44 n)) (lms2 (lsl44 n)) (lsl44 n) := lms_nil
  envOk_of (cf := cf44 n) tabOk hc he (draw := drawK (cf44 n)) (fun _ => drawK_ok tabOk mixed hc he) (d := 3) (lms := lms2 (lsl44 n)) hl
    (fun τs rs h => by
      simp only [M44] at h
      split at h
      · exact (ev44 n _ _ _).trans h
      · cases h)
/-! ### 53: impl.within -/
def sg53 : Sig := ⟨[(false, [.int .i64]), (false, [.int .i64]), (false, [.int .i64])], [.leaf .bool false]⟩
def F53 (n : Nat) (x0 x1 x2 : T) : Option (List T) :=
  bif (decide (x0.I ≥ x1.I)) then (some [.b (decide (x0.I ≤ x2.I))]) else (some [.b false])
def M53 (n : Nat) (τs : List T) : Option (List T) := match τs with
  | [x0, x1, x2] => F53 n x0 x1 x2
  | _ => none
noncomputable def code53 : List (Nat × Func) := [(53, Go.Proofs.Try.f53)]
def env53 : List (Nat × (Sig × Mean)) := []
def ann53 (f i : Nat) : Ann := match f, i with
  | _, _ => ⟨[], [], []⟩
def lsl53 (n : Nat) : List ((Nat × Nat) × (Nat → List LoopM)) := []
noncomputable def cf53 (n : Nat) : Cfg := ⟨tiOf tab, lookup code53, lookup env53, ann53, n⟩
theorem ev53 (n : Nat) (x0 x1 x2 : T) : evF (cf53 n) (drawK (cf53 n)) (lms2 (lsl53 n)) 3 53 sg53 [x0, x1, x2] = F53 n x0 x1 x2 := by kernel_rfl
theorem eo53 (n : Nat) : EnvOk Go.Proofs.Try.prog (tiOf tab) n 53 sg53 ⟨M53⟩ :=
  have hc : CodeOk Go.Proofs.Try.prog (cf53 n) := (code_cons Go.Proofs.Try.func53 (by kernel_rfl) code_nil)
  have he : EnvsOk Go.Proofs.Try.prog (cf53 n) := env_nil
  have hl : LmsOk (R := List T) (cf53 n) (drawK (cf53 n)) (lms2 (lsl53 n)) (lsl53 n) := lms_nil
  envOk_of (cf := cf53 n) tabOk hc he (draw := drawK (cf53 n)) (fun _ => drawK_ok tabOk mixed hc he) (d := 3) (lms := lms2 (lsl53 n)) hl
    (fun τs rs h => by
      simp only [M53] at h
      split at h
      · exact (ev53 n _ _ _).trans h
      · cases h)
/-! ### 58: impl.isWord -/
def sg58 : Sig := ⟨[(false, [.int .i64])], [.leaf .bool false]⟩
def F58 (n : Nat) (x0 : T) : Option (List T) :=
  (F53 n x0 (.i 0) (.i 4294967295)).bind fun r1 => some [(r1.headD (.i 0))]
def M58 (n : Nat) (τs : List T) : Option (List T) := match τs with
  | [x0] => F58 n x0
  | _ => none
noncomputable def code58 : List (Nat × Func) := [(58, Go.Proofs.Try.f58)]
def env58 : List (Nat × (Sig × Mean)) := [(53, sg53, ⟨M53⟩)]
def ann58 (f i : Nat) : Ann := match f, i with
  | _, _ => ⟨[], [], []⟩
def lsl58 (n : Nat) : List ((Nat × Nat) × (Nat → List LoopM)) := []
noncomputable def cf58 (n : Nat) : Cfg := ⟨tiOf tab, lookup code58, lookup env58, ann58, n⟩
theorem ev58 (n : Nat) (x0 : T) : evF (cf58 n) (drawK (cf58 n)) (lms2 (lsl58 n)) 3 58 sg58 [x0] = F58 n x0 := by kernel_rfl
theorem eo58 (n : Nat) : EnvOk Go.Proofs.Try.prog (tiOf tab) n 58 sg58 ⟨M58⟩ :=
  have hc : CodeOk Go.Proofs.Try.prog (cf58 n) := (code_cons Go.Proofs.Try.func58 (by kernel_rfl) code_nil)
  have he : EnvsOk Go.Proofs.Try.prog (cf58 n) := (env_cons (eo53 n) env_nil)
  have hl : LmsOk (R := List T) (cf58 n) (drawK (cf58 n)) (lms2 (lsl58 n)) (lsl58 n) := lms_nil
  envOk_of (cf := cf58 n) tabOk hc he (draw := drawK (cf58 n)) (fun _ => drawK_ok tabOk mixed hc he) (d := 3) (lms := lms2 (lsl58 n)) hl
    (fun τs rs h => by
      simp only [M58] at h
      split at h
      · exact (ev58 n _).trans h
      · cases h)
/-! ### 83: impl.AddrOp] -/
def sg83 : Sig := ⟨[(false, [.slice 55])], [.leaf (.slice 97) false]⟩
def G83_83_11 {R : Type} (n : Nat) (v : List T) (self : List T → Option R) (ex : List (List T → Option R)) : Option R :=
  bif (decide ((v.getD 2 (.i 0)).I < (v.getD 1 (.i 0)).I)) then (if 0 ≤ (v.getD 2 (.i 0)).I ∧ (v.getD 2 (.i 0)).I < (((v.getD 0 (.i 0)).L).length : Int) then (if ((((v.getD 3 (.i 0)).L).length + ((at_ ((v.getD 0 (.i 0)).L) ((v.getD 2 (.i 0)).I)).L).length : Nat) : Int) * 16 ≤ limB then (self [.l ((v.getD 0 (.i 0)).L), .i ((v.getD 1 (.i 0)).I), .i (IntKind.wrap .i64 ((v.getD 2 (.i 0)).I + 1)), .l ((v.getD 3 (.i 0)).L ++ (at_ ((v.getD 0 (.i 0)).L) ((v.getD 2 (.i 0)).I)).L)]) else none) else none) else (exn ex 0 [.l ((v.getD 3 (.i 0)).L)])
def L83_83_11 (n : Nat) : LoopM := ⟨⟨[[.un, .un, .un, .un, .un, .un, .own 97 0, .un, .un, .un, .un, .un, .un, .un, .un, .un, .un, .un, .un, .un, .un, .un, .un, .un, .un, .t (.slice 55) (.i 0), .t (.int .i64) (.i 0), .t (.int .i64) (.i 0), .un, .un, .un, .un, .un, .un, .un, .un]], [.arr 97 []]⟩, [(.exit 2, ⟨[[.un, .un, .un, .un, .un, .un, .own 97 0, .un, .un, .un, .un, .un, .un, .un, .un, .un, .un, .un, .un, .un, .un, .un, .un, .un, .un, .un, .un, .un, .un, .un, .un, .un, .un, .un, .un, .un]], [.arr 97 []]⟩)], fun v self ex => G83_83_11 n v self ex⟩
def G83_83_3 {R : Type} (n : Nat) (v : List T) (self : List T → Option R) (ex : List (List T → Option R)) : Option R :=
  bif (decide ((v.getD 4 (.i 0)).I < (v.getD 3 (.i 0)).I)) then (if 0 ≤ (v.getD 4 (.i 0)).I ∧ (v.getD 4 (.i 0)).I < (((v.getD 2 (.i 0)).L).length : Int) then (bif (decide ((IntKind.wrap .i64 ((v.getD 1 (.i 0)).I + ((((at_ ((v.getD 2 (.i 0)).L) ((v.getD 4 (.i 0)).I)).L).length : Nat) : Int))) < 0)) then none else (self [.l ((v.getD 0 (.i 0)).L), .i (IntKind.wrap .i64 ((v.getD 1 (.i 0)).I + ((((at_ ((v.getD 2 (.i 0)).L) ((v.getD 4 (.i 0)).I)).L).length : Nat) : Int))), .l ((v.getD 2 (.i 0)).L), .i ((v.getD 3 (.i 0)).I), .i (IntKind.wrap .i64 ((v.getD 4 (.i 0)).I + 1))])) else none) else (exn ex 0 [.l ((v.getD 0 (.i 0)).L), .i ((v.getD 1 (.i 0)).I)])
def L83_83_3 (n : Nat) : LoopM := ⟨⟨[[.t (.slice 55) (.i 0), .un, .un, .t (.int .i64) (.i 0), .un, .un, .un, .un, .un, .t (.slice 55) (.i 0), .t (.int .i64) (.i 0), .t (.int .i64) (.i 0), .un, .un, .un, .un, .un, .un, .un, .un, .un, .un, .un, .un, .un, .un, .un, .un, .un, .un, .un, .un, .un, .un, .un, .un]], []⟩, [(.exit 0, ⟨[[.t (.slice 55) (.i 0), .un, .un, .t (.int .i64) (.i 0), .un, .un, .un, .un, .un, .un, .un, .un, .un, .un, .un, .un, .un, .un, .un, .un, .un, .un, .un, .un, .un, .un, .un, .un, .un, .un, .un, .un, .un, .un, .un, .un]], []⟩)], fun v self ex => G83_83_3 n v self ex⟩
def F83 (n : Nat) (x0 : T) : Option (List T) :=
  loopR (L83_83_3 n).G n [.l x0.L, .i 0, .l x0.L, .i (x0.L.length : Int), .i 0] [fun u1 => bif (decide ((u1.getD 1 (.i 0)).I < 0)) then none else (bif (decide ((IntKind.wrap .i64 ((u1.getD 1 (.i 0)).I - 0)) > 0)) then (if 0 ≤ (IntKind.wrap .i64 ((u1.getD 1 (.i 0)).I - 0)) ∧ (IntKind.wrap .i64 ((u1.getD 1 (.i 0)).I - 0)) * 16 ≤ limB then (if ((List.replicate ((IntKind.wrap .i64 ((u1.getD 1 (.i 0)).I - 0))).toNat (T.r [.i 0, .i 0])).length : Int) * 16 ≤ limB then (if 0 ≤ 0 ∧ 0 ≤ 0 ∧ 0 ≤ ((List.replicate ((IntKind.wrap .i64 ((u1.getD 1 (.i 0)).I - 0))).toNat (T.r [.i 0, .i 0])).length : Int) then (loopR (L83_83_11 n).G n [.l ((u1.getD 0 (.i 0)).L), .i ((((u1.getD 0 (.i 0)).L).length : Nat) : Int), .i 0, .l ((List.replicate ((IntKind.wrap .i64 ((u1.getD 1 (.i 0)).I - 0))).toNat (T.r [.i 0, .i 0])).take 0)] [fun u2 => some [.l ((u2.getD 0 (.i 0)).L)]]) else none) else none) else none) else (loopR (L83_83_11 n).G n [.l ((u1.getD 0 (.i 0)).L), .i ((((u1.getD 0 (.i 0)).L).length : Nat) : Int), .i 0, .l []] [fun u3 => some [.l ((u3.getD 0 (.i 0)).L)]]))]
def M83 (n : Nat) (τs : List T) : Option (List T) := match τs with
  | [x0] => F83 n x0
  | _ => none
noncomputable def code83 : List (Nat × Func) := [(83, Go.Proofs.Try.f83), (94, Go.Proofs.Try.f94)]
def env83 : List (Nat × (Sig × Mean)) := []
def ann83 (f i : Nat) : Ann := match f, i with
  | 83, 3 => ⟨[(0, .any), (3, .any), (9, .any), (10, .any), (11, .any)], [], [(0, .any), (3, .any)]⟩
  | 83, 11 => ⟨[(6, .own 97), (25, .any), (26, .any), (27, .any)], [], [(6, .any)]⟩
  | _, _ => ⟨[], [], []⟩
def lm83_83 (n : Nat) (i : Nat) : List LoopM := match i with
  | 3 => [L83_83_3 n]
  | 11 => [L83_83_11 n]
  | _ => []
def lsl83 (n : Nat) : List ((Nat × Nat) × (Nat → List LoopM)) := [((3, 83), lm83_83 n)]
noncomputable def cf83 (n : Nat) : Cfg := ⟨tiOf tab, lookup code83, lookup env83, ann83, n⟩
theorem ev83 (n : Nat) (x0 : T) : evF (cf83 n) (drawK (cf83 n)) (lms2 (lsl83 n)) 3 83 sg83 [x0] = F83 n x0 := by kernel_rfl
theorem lp83_83_11 (n : Nat) (K : Ex → St → Option (List T)) (self : List T → Option (List T)) (v : List T) : evC (cf83 n) (callK (cf83 n) (drawK (cf83 n)) (lms2 (lsl83 n)) 3) (drawK (cf83 n) (callK (cf83 n) (drawK (cf83 n)) (lms2 (lsl83 n)) 3)) (ann83 83) (lm83_83 n) (bodyOf Go.Proofs.Try.f83 11) ((L83_83_11 n).sk.fill v) (roundK (ann83 83 11) K (selfK (L83_83_11 n) self)) = (L83_83_11 n).G v self (exitK (L83_83_11 n) K) := by kernel_rfl
theorem lp83_83_3 (n : Nat) (K : Ex → St → Option (List T)) (self : List T → Option (List T)) (v : List T) : evC (cf83 n) (callK (cf83 n) (drawK (cf83 n)) (lms2 (lsl83 n)) 3) (drawK (cf83 n) (callK (cf83 n) (drawK (cf83 n)) (lms2 (lsl83 n)) 3)) (ann83 83) (lm83_83 n) (bodyOf Go.Proofs.Try.f83 3) ((L83_83_3 n).sk.fill v) (roundK (ann83 83 3) K (selfK (L83_83_3 n) self)) = (L83_83_3 n).G v self (exitK (L83_83_3 n) K) := by kernel_rfl
theorem eo83 (n : Nat) : EnvOk Go.Proofs.Try.prog (tiOf tab) n 83 sg83 ⟨M83⟩ :=
  have hc : CodeOk Go.Proofs.Try.prog (cf83 n) := (code_cons Go.Proofs.Try.func83 (by kernel_rfl) (code_cons Go.Proofs.Try.func94 (by kernel_rfl) code_nil))
  have he : EnvsOk Go.Proofs.Try.prog (cf83 n) := env_nil
  have hl : LmsOk (R := List T) (cf83 n) (drawK (cf83 n)) (lms2 (lsl83 n)) (lsl83 n) := (lms_cons (loops_of (cf := cf83 n) (fn0 := Go.Proofs.Try.f83) rfl (l := [bodyOf Go.Proofs.Try.f83 3, bodyOf Go.Proofs.Try.f83 11]) (by kernel_rfl) (loops_cons (b := bodyOf Go.Proofs.Try.f83 3) (by kernel_rfl) (rfl : lm83_83 n 3 = [L83_83_3 n]) (List.forall_mem_cons.2 ⟨fun K self v => lp83_83_3 n K self v, fun _ h => by cases h⟩) (loops_cons (b := bodyOf Go.Proofs.Try.f83 11) (by kernel_rfl) (rfl : lm83_83 n 11 = [L83_83_11 n]) (List.forall_mem_cons.2 ⟨fun K self v => lp83_83_11 n K self v, fun _ h => by cases h⟩) loops_nil))) lms_nil)
  envOk_of (cf := cf83 n) tabOk hc he (draw := drawK (cf83 n)) (fun _ => drawK_ok tabOk mixed hc he) (d := 3) (lms := lms2 (lsl83 n)) hl
    (fun τs rs h => by
      simp only [M83] at h
      split at h
      · exact (ev83 n _).trans h
      · cases h)
/-! ### 74: impl.isAddr -/
def sg74 : Sig := ⟨[(false, [.int .i64])], [.leaf .bool false]⟩
def F74 (n : Nat) (x0 : T) : Option (List T) :=
  (F53 n x0 (.i 1) (.i 255)).bind fun r1 => some [(r1.headD (.i 0))]
def M74 (n : Nat) (τs : List T) : Option (List T) := match τs with
  | [x0] => F74 n x0
  | _ => none
noncomputable def code74 : List (Nat × Func) := [(74, Go.Proofs.Try.f74)]
def env74 : List (Nat × (Sig × Mean)) := [(53, sg53, ⟨M53⟩)]
def ann74 (f i : Nat) : Ann := match f, i with
  | _, _ => ⟨[], [], []⟩
def lsl74 (n : Nat) : List ((Nat × Nat) × (Nat → List LoopM)) := []
noncomputable def cf74 (n : Nat) : Cfg := ⟨tiOf tab, lookup code74, lookup env74, ann74, n⟩
theorem ev74 (n : Nat) (x0 : T) : evF (cf74 n) (drawK (cf74 n)) (lms2 (lsl74 n)) 3 74 sg74 [x0] = F74 n x0 := by kernel_rfl
theorem eo74 (n : Nat) : EnvOk Go.Proofs.Try.prog (tiOf tab) n 74 sg74 ⟨M74⟩ :=
  have hc : CodeOk Go.Proofs.Try.prog (cf74 n) := (code_cons Go.Proofs.Try.func74 (by kernel_rfl) code_nil)
  have he : EnvsOk Go.Proofs.Try.prog (cf74 n) := (env_cons (eo53 n) env_nil)
  have hl : LmsOk (R := List T) (cf74 n) (drawK (cf74 n)) (lms2 (lsl74 n)) (lsl74 n) := lms_nil
  envOk_of (cf := cf74 n) tabOk hc he (draw := drawK (cf74 n)) (fun _ => drawK_ok tabOk mixed hc he) (d := 3) (lms := lms2 (lsl74 n)) hl
    (fun τs rs h => by
      simp only [M74] at h
      split at h
      · exact (ev74 n _).trans h
      · cases h)
/-! ### 84: impl.isOp -/
def sg84 : Sig := ⟨[(true, [.int .i64, .int .i64])], [.leaf .bool false]⟩
def F84 (n : Nat) (x0 x1 : T) : Option (List T) :=
  (F53 n x0 (.i 1) (.i 3)).bind fun r1 => bif (r1.headD (.i 0)).B then ((F74 n x1).bind fun r2 => some [(r2.headD (.i 0))]) else (some [.b false])
def M84 (n : Nat) (τs : List T) : Option (List T) := match τs with
  | [x0, x1] => F84 n x0 x1
  | _ => none
noncomputable def code84 : List (Nat × Func) := [(84, Go.Proofs.Try.f84)]
def env84 : List (Nat × (Sig × Mean)) := [(53, sg53, ⟨M53⟩), (74, sg74, ⟨M74⟩)]
def ann84 (f i : Nat) : Ann := match f, i with
  | _, _ => ⟨[], [], []⟩
def lsl84 (n : Nat) : List ((Nat × Nat) × (Nat → List LoopM)) := []
noncomputable def cf84 (n : Nat) : Cfg := ⟨tiOf tab, lookup code84, lookup env84, ann84, n⟩
theorem ev84 (n : Nat) (x0 x1 : T) : evF (cf84 n) (drawK (cf84 n)) (lms2 (lsl84 n)) 3 84 sg84 [x0, x1] = F84 n x0 x1 := by kernel_rfl
theorem eo84 (n : Nat) : EnvOk Go.Proofs.Try.prog (tiOf tab) n 84 sg84 ⟨M84⟩ :=
  have hc : CodeOk Go.Proofs.Try.prog (cf84 n) := (code_cons Go.Proofs.Try.func84 (by kernel_rfl) code_nil)
  have he : EnvsOk Go.Proofs.Try.prog (cf84 n) := (env_cons (eo53 n) (env_cons (eo74 n) env_nil))
  have hl : LmsOk (R := List T) (cf84 n) (drawK (cf84 n)) (lms2 (lsl84 n)) (lsl84 n) := lms_nil
  envOk_of (cf := cf84 n) tabOk hc he (draw := drawK (cf84 n)) (fun _ => drawK_ok tabOk mixed hc he) (d := 3) (lms := lms2 (lsl84 n)) hl
    (fun τs rs h => by
      simp only [M84] at h
      split at h
      · exact (ev84 n _ _).trans h
      · cases h)
/-! ### 45: impl.AskerFault -/
def sg45 : Sig := ⟨[(true, [.int .i64, .slice 97, .slice 97])], [.leaf (.int .i64) false]⟩
def G45_45_6 {R : Type} (n : Nat) (v : List T) (self : List T → Option R) (ex : List (List T → Option R)) : Option R :=
  bif (decide ((v.getD 2 (.i 0)).I < (v.getD 1 (.i 0)).I)) then (if 0 ≤ (v.getD 2 (.i 0)).I ∧ (v.getD 2 (.i 0)).I < (((v.getD 0 (.i 0)).L).length : Int) then ((F84 n ((at_ ((v.getD 0 (.i 0)).L) ((v.getD 2 (.i 0)).I)).F 0) ((at_ ((v.getD 0 (.i 0)).L) ((v.getD 2 (.i 0)).I)).F 1)).bind fun r3 => bif (!(r3.headD (.i 0)).B) then (exn ex 0 [.i 3]) else (self [.l ((v.getD 0 (.i 0)).L), .i ((v.getD 1 (.i 0)).I), .i (IntKind.wrap .i64 ((v.getD 2 (.i 0)).I + 1))])) else none) else (exn ex 1 [])
def L45_45_6 (n : Nat) : LoopM := ⟨⟨[[.un, .un, .un, .un, .un, .un, .un, .un, .un, .un, .un, .un, .un, .un, .un, .un, .un, .un, .un, .un, .un, .un, .un, .un, .un, .un, .t (.slice 97) (.i 0), .t (.int .i64) (.i 0), .t (.int .i64) (.i 0), .un, .un, .un, .un, .un, .un, .un]], []⟩, [(.ret, ⟨[[.un, .un, .t (.int .i64) (.i 0), .un, .un, .un, .un, .un, .un, .un, .un, .un, .un, .un, .un, .un, .un, .un, .un, .un, .un, .un, .un, .un, .un, .un, .un, .un, .un, .un, .un, .un, .un, .un, .un, .un]], []⟩), (.exit 1, ⟨[[.un, .un, .un, .un, .un, .un, .un, .un, .un, .un, .un, .un, .un, .un, .un, .un, .un, .un, .un, .un, .un, .un, .un, .un, .un, .un, .un, .un, .un, .un, .un, .un, .un, .un, .un, .un]], []⟩)], fun v self ex => G45_45_6 n v self ex⟩
def F45 (n : Nat) (x0 x1 x2 : T) : Option (List T) :=
  (F58 n x0).bind fun r1 => bif (!(r1.headD (.i 0)).B) then (some [.i 3]) else (bif (decide ((x1.L.length : Int) > 20)) then (some [.i 2]) else (bif (decide ((x2.L.length : Int) > 4)) then (some [.i 2]) else ((F83 n (.l [x1, x2])).bind fun r2 => loopR (L45_45_6 n).G n [.l ((r2.headD (.i 0)).L), .i ((((r2.headD (.i 0)).L).length : Nat) : Int), .i 0] [fun u4 => some [.i ((u4.getD 0 (.i 0)).I)], fun u5 => some [.i 0]])))
def M45 (n : Nat) (τs : List T) : Option (List T) := match τs with
  | [x0, x1, x2] => F45 n x0 x1 x2
  | _ => none
noncomputable def code45 : List (Nat × Func) := [(45, Go.Proofs.Try.f45)]
def env45 : List (Nat × (Sig × Mean)) := [(58, sg58, ⟨M58⟩), (83, sg83, ⟨M83⟩), (84, sg84, ⟨M84⟩)]
def ann45 (f i : Nat) : Ann := match f, i with
  | 45, 6 => ⟨[(26, .any), (27, .any), (28, .any)], [], [(2, .any)]⟩
  | _, _ => ⟨[], [], []⟩
def lm45_45 (n : Nat) (i : Nat) : List LoopM := match i with
  | 6 => [L45_45_6 n]
  | _ => []
def lsl45 (n : Nat) : List ((Nat × Nat) × (Nat → List LoopM)) := [((3, 45), lm45_45 n)]
noncomputable def cf45 (n : Nat) : Cfg := ⟨tiOf tab, lookup code45, lookup env45, ann45, n⟩
theorem ev45 (n : Nat) (x0 x1 x2 : T) : evF (cf45 n) (drawK (cf45 n)) (lms2 (lsl45 n)) 3 45 sg45 [x0, x1, x2] = F45 n x0 x1 x2 := by kernel_rfl
theorem lp45_45_6 (n : Nat) (K : Ex → St → Option (List T)) (self : List T → Option (List T)) (v : List T) : evC (cf45 n) (callK (cf45 n) (drawK (cf45 n)) (lms2 (lsl45 n)) 3) (drawK (cf45 n) (callK (cf45 n) (drawK (cf45 n)) (lms2 (lsl45 n)) 3)) (ann45 45) (lm45_45 n) (bodyOf Go.Proofs.Try.f45 6) ((L45_45_6 n).sk.fill v) (roundK (ann45 45 6) K (selfK (L45_45_6 n) self)) = (L45_45_6 n).G v self (exitK (L45_45_6 n) K) := by kernel_rfl
theorem eo45 (n : Nat) : EnvOk Go.Proofs.Try.prog (tiOf tab) n 45 sg45 ⟨M45⟩ :=
  have hc : CodeOk Go.Proofs.Try.prog (cf45 n) := (code_cons Go.Proofs.Try.func45 (by kernel_rfl) code_nil)
  have he : EnvsOk Go.Proofs.Try.prog (cf45 n) := (env_cons (eo58 n) (env_cons (eo83 n) (env_cons (eo84 n) env_nil)))
  have hl : LmsOk (R := List T) (cf45 n) (drawK (cf45 n)) (lms2 (lsl45 n)) (lsl45 n) := (lms_cons (loops_of (cf := cf45 n) (fn0 := Go.Proofs.Try.f45) rfl (l := [bodyOf Go.Proofs.Try.f45 6]) (by kernel_rfl) (loops_cons (b := bodyOf Go.Proofs.Try.f45 6) (by kernel_rfl) (rfl : lm45_45 n 6 = [L45_45_6 n]) (List.forall_mem_cons.2 ⟨fun K self v => lp45_45_6 n K self v, fun _ h => by cases h⟩) loops_nil)) lms_nil)
  envOk_of (cf := cf45 n) tabOk hc he (draw := drawK (cf45 n)) (fun _ => drawK_ok tabOk mixed hc he) (d := 3) (lms := lms2 (lsl45 n)) hl
    (fun τs rs h => by
      simp only [M45] at h
      split at h
      · exact (ev45 n _ _ _).trans h
      · cases h)
/-! ### 10: laws.FnExactAskerFault -/
def sg10 : Sig := ⟨[(true, [.int .i64, .slice 120, .slice 120])], [.leaf .bool false]⟩
def F10 (n : Nat) (x0 x1 x2 : T) : Option (List T) :=
  (F27 n x0 x1 x2 (.i 1048576)).bind fun r1 => bif (decide ((r1.headD (.i 0)).I < 0)) then (some [.b true]) else ((F29 n x0 x1 x2).bind fun r2 => (F44 n (r2.headD (.i 0)) (r2.tail.headD (.i 0)) (r2.tail.tail.headD (.i 0))).bind fun r3 => (F29 n x0 x1 x2).bind fun r4 => (F45 n (r4.headD (.i 0)) (r4.tail.headD (.i 0)) (r4.tail.tail.headD (.i 0))).bind fun r5 => bif ((r5.headD (.i 0)).I != (r3.headD (.i 0)).I) then (some [.b false]) else ((F29 n x0 x1 x2).bind fun r6 => (F31 n (r4.headD (.i 0)) (r4.tail.headD (.i 0)) (r4.tail.tail.headD (.i 0)) (r6.headD (.i 0)) (r6.tail.headD (.i 0)) (r6.tail.tail.headD (.i 0))).bind fun r7 => bif (!(r7.headD (.i 0)).B) then (some [.b false]) else (some [.b true])))
def M10 (n : Nat) (τs : List T) : Option (List T) := match τs with
  | [x0, x1, x2] => F10 n x0 x1 x2
  | _ => none
noncomputable def code10 : List (Nat × Func) := [(10, Go.Proofs.Try.f10)]
def env10 : List (Nat × (Sig × Mean)) := [(27, sg27, ⟨M27⟩), (29, sg29, ⟨M29⟩), (31, sg31, ⟨M31⟩), (44, sg44, ⟨M44⟩), (45, sg45, ⟨M45⟩)]
def ann10 (f i : Nat) : Ann := match f, i with
  | _, _ => ⟨[], [], []⟩
def lsl10 (n : Nat) : List ((Nat × Nat) × (Nat → List LoopM)) := []
noncomputable def cf10 (n : Nat) : Cfg := ⟨tiOf tab, lookup code10, lookup env10, ann10, n⟩
theorem ev10 (n : Nat) (x0 x1 x2 : T) : evF (cf10 n) (drawK (cf10 n)) (lms2 (lsl10 n)) 3 10 sg10 [x0, x1, x2] = F10 n x0 x1 x2 := by kernel_rfl
theorem eo10 (n : Nat) : EnvOk Go.Proofs.Try.prog (tiOf tab) n 10 sg10 ⟨M10⟩ :=
  have hc : CodeOk Go.Proofs.Try.prog (cf10 n) := (code_cons Go.Proofs.Try.func10 (by kernel_rfl) code_nil)
  have he : EnvsOk Go.Proofs.Try.prog (cf10 n) := (env_cons (eo27 n) (env_cons (eo29 n) (env_cons (eo31 n) (env_cons (eo44 n) (env_cons (eo45 n) env_nil)))))
  have hl : LmsOk (R := List T) (cf10 n) (drawK (cf10 n)) (lms2 (lsl10 n)) (lsl10 n) := lms_nil
  envOk_of (cf := cf10 n) tabOk hc he (draw := drawK (cf10 n)) (fun _ => drawK_ok tabOk mixed hc he) (d := 3) (lms := lms2 (lsl10 n)) hl
    (fun τs rs h => by
      simp only [M10] at h
      split at h
      · exact (ev10 n _ _ _).trans h
      · cases h)
end Go.KX.Sa
