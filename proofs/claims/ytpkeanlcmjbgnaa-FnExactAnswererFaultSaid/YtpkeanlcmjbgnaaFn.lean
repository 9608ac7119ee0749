import Derived.Test.YtpkeanlcmjbgnaaProg
import Derived.KernelRfl
import Derived.Test.YtpkeanlcmjbgnaaKxC
namespace Go.KX.Sa
open Go
set_option linter.unusedVariables false
def tab : List (Nat × TyI) := [
  (2, ⟨true, false, [.int .i64], 8, .leaf, false⟩),
  (3, ⟨true, false, [.int .i64], 8, .leaf, false⟩),
  (4, ⟨true, false, [.bool], 1, .leaf, false⟩),
  (5, ⟨true, false, [.int .u8], 1, .leaf, false⟩),
  (22, ⟨true, false, [.slice 5], 24, .slice 5, false⟩),
  (24, ⟨true, true, [.int .i64, .bool, .slice 5], 40, .struct [(2, 0), (4, 1), (22, 2)], false⟩),
  (27, ⟨true, true, [.int .i64, .bool, .slice 5], 40, .struct [(2, 0), (4, 1), (22, 2)], false⟩),
  (31, ⟨true, false, [.slice 2], 24, .slice 2, false⟩),
  (33, ⟨true, true, [.int .i64, .slice 2], 32, .struct [(2, 0), (31, 1)], false⟩),
  (36, ⟨true, true, [.int .i64, .slice 2], 32, .struct [(2, 0), (31, 1)], false⟩)]
theorem tabOk : TabOk Go.Proofs.Try.prog (tiOf tab) := tab_ok (by kernel_rfl)
theorem mixed : Go.Proofs.Try.prog.follows .mixedOrders = true := by kernel_rfl
/-! ### 49: laws.szByteS -/
def sg49 : Sig := ⟨[(false, [.slice 5]), (false, [.int .i64])], [.leaf (.int .i64) false]⟩
def F49 (n : Nat) (x0 x1 : T) : Option (List T) :=
  bif (decide ((IntKind.wrap .i64 (x1.I - (x0.L.length : Int))) < 0)) then (some [.i (-1)]) else (some [.i (IntKind.wrap .i64 (x1.I - (x0.L.length : Int)))])
def M49 (n : Nat) (τs : List T) : Option (List T) := match τs with
  | [x0, x1] => F49 n x0 x1
  | _ => none
noncomputable def code49 : List (Nat × Func) := [(49, Go.Proofs.Try.f49)]
def env49 : List (Nat × (Sig × Mean)) := []
def ann49 (f i : Nat) : Ann := match f, i with
  | _, _ => ⟨[], [], []⟩
def lsl49 (n : Nat) : List ((Nat × Nat) × (Nat → Option LoopM)) := []
noncomputable def cf49 (n : Nat) : Cfg := ⟨tiOf tab, lookup code49, lookup env49, ann49, n⟩
theorem ev49 (n : Nat) (x0 x1 : T) : evF (cf49 n) (drawK (cf49 n)) (lms2 (lsl49 n)) 3 49 sg49 [x0, x1] = F49 n x0 x1 := by kernel_rfl
theorem eo49 (n : Nat) : EnvOk Go.Proofs.Try.prog (tiOf tab) n 49 sg49 ⟨M49⟩ :=
  have hc : CodeOk Go.Proofs.Try.prog (cf49 n) := (code_cons Go.Proofs.Try.func49 (by kernel_rfl) code_nil)
  have he : EnvsOk Go.Proofs.Try.prog (cf49 n) := env_nil
  have hl : LmsOk (R := List T) (cf49 n) (drawK (cf49 n)) (lms2 (lsl49 n)) (lsl49 n) := lms_nil
  envOk_of (cf := cf49 n) tabOk hc he (draw := drawK (cf49 n)) (fun _ => drawK_ok tabOk mixed hc he) (d := 3) (lms := lms2 (lsl49 n)) hl
    (fun τs rs h => by
      simp only [M49] at h
      split at h
      · exact (ev49 n _ _).trans h
      · cases h)
/-! ### 12: laws.szMessage -/
def sg12 : Sig := ⟨[(true, [.int .i64, .bool, .slice 5]), (false, [.int .i64])], [.leaf (.int .i64) false]⟩
def F12 (n : Nat) (x0 x1 x2 x3 : T) : Option (List T) :=
  (F49 n x2 x3).bind fun r1 => bif (decide ((r1.headD (.i 0)).I < 0)) then (some [.i (-1)]) else (some [(r1.headD (.i 0))])
def M12 (n : Nat) (τs : List T) : Option (List T) := match τs with
  | [x0, x1, x2, x3] => F12 n x0 x1 x2 x3
  | _ => none
noncomputable def code12 : List (Nat × Func) := [(12, Go.Proofs.Try.f12)]
def env12 : List (Nat × (Sig × Mean)) := [(49, sg49, ⟨M49⟩)]
def ann12 (f i : Nat) : Ann := match f, i with
  | _, _ => ⟨[], [], []⟩
def lsl12 (n : Nat) : List ((Nat × Nat) × (Nat → Option LoopM)) := []
noncomputable def cf12 (n : Nat) : Cfg := ⟨tiOf tab, lookup code12, lookup env12, ann12, n⟩
theorem ev12 (n : Nat) (x0 x1 x2 x3 : T) : evF (cf12 n) (drawK (cf12 n)) (lms2 (lsl12 n)) 3 12 sg12 [x0, x1, x2, x3] = F12 n x0 x1 x2 x3 := by kernel_rfl
theorem eo12 (n : Nat) : EnvOk Go.Proofs.Try.prog (tiOf tab) n 12 sg12 ⟨M12⟩ :=
  have hc : CodeOk Go.Proofs.Try.prog (cf12 n) := (code_cons Go.Proofs.Try.func12 (by kernel_rfl) code_nil)
  have he : EnvsOk Go.Proofs.Try.prog (cf12 n) := (env_cons (eo49 n) env_nil)
  have hl : LmsOk (R := List T) (cf12 n) (drawK (cf12 n)) (lms2 (lsl12 n)) (lsl12 n) := lms_nil
  envOk_of (cf := cf12 n) tabOk hc he (draw := drawK (cf12 n)) (fun _ => drawK_ok tabOk mixed hc he) (d := 3) (lms := lms2 (lsl12 n)) hl
    (fun τs rs h => by
      simp only [M12] at h
      split at h
      · exact (ev12 n _ _ _ _).trans h
      · cases h)
/-! ### 50: spec.l1In -/
def sg50 : Sig := ⟨[(false, [.int .i64]), (false, [.int .i64]), (false, [.int .i64])], [.leaf .bool false]⟩
def F50 (n : Nat) (x0 x1 x2 : T) : Option (List T) :=
  bif (decide (x0.I ≥ x1.I)) then (some [.b (decide (x0.I ≤ x2.I))]) else (some [.b false])
def M50 (n : Nat) (τs : List T) : Option (List T) := match τs with
  | [x0, x1, x2] => F50 n x0 x1 x2
  | _ => none
noncomputable def code50 : List (Nat × Func) := [(50, Go.Proofs.Try.f50)]
def env50 : List (Nat × (Sig × Mean)) := []
def ann50 (f i : Nat) : Ann := match f, i with
  | _, _ => ⟨[], [], []⟩
def lsl50 (n : Nat) : List ((Nat × Nat) × (Nat → Option LoopM)) := []
noncomputable def cf50 (n : Nat) : Cfg := ⟨tiOf tab, lookup code50, lookup env50, ann50, n⟩
theorem ev50 (n : Nat) (x0 x1 x2 : T) : evF (cf50 n) (drawK (cf50 n)) (lms2 (lsl50 n)) 3 50 sg50 [x0, x1, x2] = F50 n x0 x1 x2 := by kernel_rfl
theorem eo50 (n : Nat) : EnvOk Go.Proofs.Try.prog (tiOf tab) n 50 sg50 ⟨M50⟩ :=
  have hc : CodeOk Go.Proofs.Try.prog (cf50 n) := (code_cons Go.Proofs.Try.func50 (by kernel_rfl) code_nil)
  have he : EnvsOk Go.Proofs.Try.prog (cf50 n) := env_nil
  have hl : LmsOk (R := List T) (cf50 n) (drawK (cf50 n)) (lms2 (lsl50 n)) (lsl50 n) := lms_nil
  envOk_of (cf := cf50 n) tabOk hc he (draw := drawK (cf50 n)) (fun _ => drawK_ok tabOk mixed hc he) (d := 3) (lms := lms2 (lsl50 n)) hl
    (fun τs rs h => by
      simp only [M50] at h
      split at h
      · exact (ev50 n _ _ _).trans h
      · cases h)
/-! ### 13: spec.MessageFault -/
def sg13 : Sig := ⟨[(true, [.int .i64, .bool, .slice 5])], [.leaf (.int .i64) false]⟩
def F13 (n : Nat) (x0 x1 x2 : T) : Option (List T) :=
  (F50 n x0 (.i 0) (.i 9)).bind fun r1 => bif (!(r1.headD (.i 0)).B) then (some [.i 3]) else (bif (decide ((x2.L.length : Int) < 1)) then (some [.i 2]) else (bif (decide ((x2.L.length : Int) > 400)) then (some [.i 2]) else (some [.i 0])))
def M13 (n : Nat) (τs : List T) : Option (List T) := match τs with
  | [x0, x1, x2] => F13 n x0 x1 x2
  | _ => none
noncomputable def code13 : List (Nat × Func) := [(13, Go.Proofs.Try.f13)]
def env13 : List (Nat × (Sig × Mean)) := [(50, sg50, ⟨M50⟩)]
def ann13 (f i : Nat) : Ann := match f, i with
  | _, _ => ⟨[], [], []⟩
def lsl13 (n : Nat) : List ((Nat × Nat) × (Nat → Option LoopM)) := []
noncomputable def cf13 (n : Nat) : Cfg := ⟨tiOf tab, lookup code13, lookup env13, ann13, n⟩
theorem ev13 (n : Nat) (x0 x1 x2 : T) : evF (cf13 n) (drawK (cf13 n)) (lms2 (lsl13 n)) 3 13 sg13 [x0, x1, x2] = F13 n x0 x1 x2 := by kernel_rfl
theorem eo13 (n : Nat) : EnvOk Go.Proofs.Try.prog (tiOf tab) n 13 sg13 ⟨M13⟩ :=
  have hc : CodeOk Go.Proofs.Try.prog (cf13 n) := (code_cons Go.Proofs.Try.func13 (by kernel_rfl) code_nil)
  have he : EnvsOk Go.Proofs.Try.prog (cf13 n) := (env_cons (eo50 n) env_nil)
  have hl : LmsOk (R := List T) (cf13 n) (drawK (cf13 n)) (lms2 (lsl13 n)) (lsl13 n) := lms_nil
  envOk_of (cf := cf13 n) tabOk hc he (draw := drawK (cf13 n)) (fun _ => drawK_ok tabOk mixed hc he) (d := 3) (lms := lms2 (lsl13 n)) hl
    (fun τs rs h => by
      simp only [M13] at h
      split at h
      · exact (ev13 n _ _ _).trans h
      · cases h)
/-! ### 51: laws.toByteS -/
def sg51 : Sig := ⟨[(false, [.slice 5])], [.leaf (.slice 5) false]⟩
def G51_51_3 {R : Type} (n : Nat) (v : List T) (self : List T → Option R) (ex : List (List T → Option R)) : Option R :=
  bif (decide ((v.getD 1 (.i 0)).I < ((((v.getD 0 (.i 0)).L).length : Nat) : Int))) then (if 0 ≤ (v.getD 1 (.i 0)).I ∧ (v.getD 1 (.i 0)).I < (((v.getD 0 (.i 0)).L).length : Int) then (if 0 ≤ (v.getD 1 (.i 0)).I ∧ (v.getD 1 (.i 0)).I < (((v.getD 2 (.i 0)).L).length : Int) then (if 5 = 5 ∧ ((v.getD 1 (.i 0)).I).toNat < ((v.getD 2 (.i 0)).L).length then (self [.l ((v.getD 0 (.i 0)).L), .i (IntKind.wrap .i64 ((v.getD 1 (.i 0)).I + 1)), .l (((v.getD 2 (.i 0)).L).set (((v.getD 1 (.i 0)).I).toNat) ((at_ ((v.getD 0 (.i 0)).L) ((v.getD 1 (.i 0)).I))))]) else none) else none) else none) else (exn ex 0 [.l ((v.getD 2 (.i 0)).L)])
def L51_51_3 (n : Nat) : LoopM := ⟨⟨[[.t (.slice 5) (.i 0), .un, .un, .own 5 0, .t (.int .i64) (.i 0), .un, .un, .un, .un, .un, .un, .un, .un, .un, .un, .un, .un, .un, .un, .un, .un, .un]], [.arr 5 []]⟩, [(.exit 0, ⟨[[.un, .un, .un, .own 5 0, .un, .un, .un, .un, .un, .un, .un, .un, .un, .un, .un, .un, .un, .un, .un, .un, .un, .un]], [.arr 5 []]⟩)], fun v self ex => G51_51_3 n v self ex⟩
def F51 (n : Nat) (x0 : T) : Option (List T) :=
  if 0 ≤ (x0.L.length : Int) ∧ (x0.L.length : Int) * 1 ≤ limB ∧ (x0.L.length : Int) < maxN then (loopR (L51_51_3 n).G n [.l x0.L, .i 0, .l (List.replicate ((x0.L.length : Int)).toNat (.i 0))] [fun u1 => some [.l ((u1.getD 0 (.i 0)).L)]]) else none
def M51 (n : Nat) (τs : List T) : Option (List T) := match τs with
  | [x0] => F51 n x0
  | _ => none
noncomputable def code51 : List (Nat × Func) := [(51, Go.Proofs.Try.f51)]
def env51 : List (Nat × (Sig × Mean)) := []
def ann51 (f i : Nat) : Ann := match f, i with
  | 51, 3 => ⟨[(0, .any), (3, .any), (4, .any)], [], [(3, .any)]⟩
  | _, _ => ⟨[], [], []⟩
def lm51_51 (n : Nat) (i : Nat) : Option LoopM := match i with
  | 3 => some (L51_51_3 n)
  | _ => none
def lsl51 (n : Nat) : List ((Nat × Nat) × (Nat → Option LoopM)) := [((3, 51), lm51_51 n)]
noncomputable def cf51 (n : Nat) : Cfg := ⟨tiOf tab, lookup code51, lookup env51, ann51, n⟩
theorem ev51 (n : Nat) (x0 : T) : evF (cf51 n) (drawK (cf51 n)) (lms2 (lsl51 n)) 3 51 sg51 [x0] = F51 n x0 := by kernel_rfl
theorem lp51_51_3 (n : Nat) (K : Ex → St → Option (List T)) (self : List T → Option (List T)) (v : List T) : evC (cf51 n) (callK (cf51 n) (drawK (cf51 n)) (lms2 (lsl51 n)) 3) (drawK (cf51 n) (callK (cf51 n) (drawK (cf51 n)) (lms2 (lsl51 n)) 3)) (ann51 51) (lm51_51 n) (bodyOf Go.Proofs.Try.f51 3) ((L51_51_3 n).sk.fill v) (roundK (ann51 51 3) K (selfK (L51_51_3 n) self)) = (L51_51_3 n).G v self (exitK (L51_51_3 n) K) := by kernel_rfl
theorem eo51 (n : Nat) : EnvOk Go.Proofs.Try.prog (tiOf tab) n 51 sg51 ⟨M51⟩ :=
  have hc : CodeOk Go.Proofs.Try.prog (cf51 n) := (code_cons Go.Proofs.Try.func51 (by kernel_rfl) code_nil)
  have he : EnvsOk Go.Proofs.Try.prog (cf51 n) := env_nil
  have hl : LmsOk (R := List T) (cf51 n) (drawK (cf51 n)) (lms2 (lsl51 n)) (lsl51 n) := (lms_cons (loops_of (cf := cf51 n) (fn0 := Go.Proofs.Try.f51) rfl (l := [bodyOf Go.Proofs.Try.f51 3]) (by kernel_rfl) (loops_cons (b := bodyOf Go.Proofs.Try.f51 3) (by kernel_rfl) (rfl : lm51_51 n 3 = some (L51_51_3 n)) (fun K self v => lp51_51_3 n K self v) loops_nil)) lms_nil)
  envOk_of (cf := cf51 n) tabOk hc he (draw := drawK (cf51 n)) (fun _ => drawK_ok tabOk mixed hc he) (d := 3) (lms := lms2 (lsl51 n)) hl
    (fun τs rs h => by
      simp only [M51] at h
      split at h
      · exact (ev51 n _).trans h
      · cases h)
/-! ### 14: laws.toMessage -/
def sg14 : Sig := ⟨[(true, [.int .i64, .bool, .slice 5])], [.agg [(.int .i64, false), (.bool, false), (.slice 5, false)]]⟩
def F14 (n : Nat) (x0 x1 x2 : T) : Option (List T) :=
  (F51 n x2).bind fun r1 => some [x0, x1, (r1.headD (.i 0))]
def M14 (n : Nat) (τs : List T) : Option (List T) := match τs with
  | [x0, x1, x2] => F14 n x0 x1 x2
  | _ => none
noncomputable def code14 : List (Nat × Func) := [(14, Go.Proofs.Try.f14)]
def env14 : List (Nat × (Sig × Mean)) := [(51, sg51, ⟨M51⟩)]
def ann14 (f i : Nat) : Ann := match f, i with
  | _, _ => ⟨[], [], []⟩
def lsl14 (n : Nat) : List ((Nat × Nat) × (Nat → Option LoopM)) := []
noncomputable def cf14 (n : Nat) : Cfg := ⟨tiOf tab, lookup code14, lookup env14, ann14, n⟩
theorem ev14 (n : Nat) (x0 x1 x2 : T) : evF (cf14 n) (drawK (cf14 n)) (lms2 (lsl14 n)) 3 14 sg14 [x0, x1, x2] = F14 n x0 x1 x2 := by kernel_rfl
theorem eo14 (n : Nat) : EnvOk Go.Proofs.Try.prog (tiOf tab) n 14 sg14 ⟨M14⟩ :=
  have hc : CodeOk Go.Proofs.Try.prog (cf14 n) := (code_cons Go.Proofs.Try.func14 (by kernel_rfl) code_nil)
  have he : EnvsOk Go.Proofs.Try.prog (cf14 n) := (env_cons (eo51 n) env_nil)
  have hl : LmsOk (R := List T) (cf14 n) (drawK (cf14 n)) (lms2 (lsl14 n)) (lsl14 n) := lms_nil
  envOk_of (cf := cf14 n) tabOk hc he (draw := drawK (cf14 n)) (fun _ => drawK_ok tabOk mixed hc he) (d := 3) (lms := lms2 (lsl14 n)) hl
    (fun τs rs h => by
      simp only [M14] at h
      split at h
      · exact (ev14 n _ _ _).trans h
      · cases h)
/-! ### 53: impl.within -/
def sg53 : Sig := ⟨[(false, [.int .i64]), (false, [.int .i64]), (false, [.int .i64])], [.leaf .bool false]⟩
def F53 (n : Nat) (x0 x1 x2 : T) : Option (List T) :=
  bif (decide (x0.I ≥ x1.I)) then (some [.b (decide (x0.I ≤ x2.I))]) else (some [.b false])
def M53 (n : Nat) (τs : List T) : Option (List T) := match τs with
  | [x0, x1, x2] => F53 n x0 x1 x2
  | _ => none
noncomputable def code53 : List (Nat × Func) := [(53, Go.Proofs.Try.f53)]
def env53 : List (Nat × (Sig × Mean)) := []
def ann53 (f i : Nat) : Ann := match f, i with
  | _, _ => ⟨[], [], []⟩
def lsl53 (n : Nat) : List ((Nat × Nat) × (Nat → Option LoopM)) := []
noncomputable def cf53 (n : Nat) : Cfg := ⟨tiOf tab, lookup code53, lookup env53, ann53, n⟩
theorem ev53 (n : Nat) (x0 x1 x2 : T) : evF (cf53 n) (drawK (cf53 n)) (lms2 (lsl53 n)) 3 53 sg53 [x0, x1, x2] = F53 n x0 x1 x2 := by kernel_rfl
theorem eo53 (n : Nat) : EnvOk Go.Proofs.Try.prog (tiOf tab) n 53 sg53 ⟨M53⟩ :=
  have hc : CodeOk Go.Proofs.Try.prog (cf53 n) := (code_cons Go.Proofs.Try.func53 (by kernel_rfl) code_nil)
  have he : EnvsOk Go.Proofs.Try.prog (cf53 n) := env_nil
  have hl : LmsOk (R := List T) (cf53 n) (drawK (cf53 n)) (lms2 (lsl53 n)) (lsl53 n) := lms_nil
  envOk_of (cf := cf53 n) tabOk hc he (draw := drawK (cf53 n)) (fun _ => drawK_ok tabOk mixed hc he) (d := 3) (lms := lms2 (lsl53 n)) hl
    (fun τs rs h => by
      simp only [M53] at h
      split at h
      · exact (ev53 n _ _ _).trans h
      · cases h)
/-! ### 52: impl.isStream -/
def sg52 : Sig := ⟨[(false, [.int .i64])], [.leaf .bool false]⟩
def F52 (n : Nat) (x0 : T) : Option (List T) :=
  (F53 n x0 (.i 0) (.i 9)).bind fun r1 => some [(r1.headD (.i 0))]
def M52 (n : Nat) (τs : List T) : Option (List T) := match τs with
  | [x0] => F52 n x0
  | _ => none
noncomputable def code52 : List (Nat × Func) := [(52, Go.Proofs.Try.f52)]
def env52 : List (Nat × (Sig × Mean)) := [(53, sg53, ⟨M53⟩)]
def ann52 (f i : Nat) : Ann := match f, i with
  | _, _ => ⟨[], [], []⟩
def lsl52 (n : Nat) : List ((Nat × Nat) × (Nat → Option LoopM)) := []
noncomputable def cf52 (n : Nat) : Cfg := ⟨tiOf tab, lookup code52, lookup env52, ann52, n⟩
theorem ev52 (n : Nat) (x0 : T) : evF (cf52 n) (drawK (cf52 n)) (lms2 (lsl52 n)) 3 52 sg52 [x0] = F52 n x0 := by kernel_rfl
theorem eo52 (n : Nat) : EnvOk Go.Proofs.Try.prog (tiOf tab) n 52 sg52 ⟨M52⟩ :=
  have hc : CodeOk Go.Proofs.Try.prog (cf52 n) := (code_cons Go.Proofs.Try.func52 (by kernel_rfl) code_nil)
  have he : EnvsOk Go.Proofs.Try.prog (cf52 n) := (env_cons (eo53 n) env_nil)
  have hl : LmsOk (R := List T) (cf52 n) (drawK (cf52 n)) (lms2 (lsl52 n)) (lsl52 n) := lms_nil
  envOk_of (cf := cf52 n) tabOk hc he (draw := drawK (cf52 n)) (fun _ => drawK_ok tabOk mixed hc he) (d := 3) (lms := lms2 (lsl52 n)) hl
    (fun τs rs h => by
      simp only [M52] at h
      split at h
      · exact (ev52 n _).trans h
      · cases h)
/-! ### 15: impl.MessageFault -/
def sg15 : Sig := ⟨[(true, [.int .i64, .bool, .slice 5])], [.leaf (.int .i64) false]⟩
def F15 (n : Nat) (x0 x1 x2 : T) : Option (List T) :=
  (F52 n x0).bind fun r1 => bif (!(r1.headD (.i 0)).B) then (some [.i 3]) else ((F53 n (.i (x2.L.length : Int)) (.i 1) (.i 400)).bind fun r2 => bif (!(r2.headD (.i 0)).B) then (some [.i 2]) else (some [.i 0]))
def M15 (n : Nat) (τs : List T) : Option (List T) := match τs with
  | [x0, x1, x2] => F15 n x0 x1 x2
  | _ => none
noncomputable def code15 : List (Nat × Func) := [(15, Go.Proofs.Try.f15)]
def env15 : List (Nat × (Sig × Mean)) := [(52, sg52, ⟨M52⟩), (53, sg53, ⟨M53⟩)]
def ann15 (f i : Nat) : Ann := match f, i with
  | _, _ => ⟨[], [], []⟩
def lsl15 (n : Nat) : List ((Nat × Nat) × (Nat → Option LoopM)) := []
noncomputable def cf15 (n : Nat) : Cfg := ⟨tiOf tab, lookup code15, lookup env15, ann15, n⟩
theorem ev15 (n : Nat) (x0 x1 x2 : T) : evF (cf15 n) (drawK (cf15 n)) (lms2 (lsl15 n)) 3 15 sg15 [x0, x1, x2] = F15 n x0 x1 x2 := by kernel_rfl
theorem eo15 (n : Nat) : EnvOk Go.Proofs.Try.prog (tiOf tab) n 15 sg15 ⟨M15⟩ :=
  have hc : CodeOk Go.Proofs.Try.prog (cf15 n) := (code_cons Go.Proofs.Try.func15 (by kernel_rfl) code_nil)
  have he : EnvsOk Go.Proofs.Try.prog (cf15 n) := (env_cons (eo52 n) (env_cons (eo53 n) env_nil))
  have hl : LmsOk (R := List T) (cf15 n) (drawK (cf15 n)) (lms2 (lsl15 n)) (lsl15 n) := lms_nil
  envOk_of (cf := cf15 n) tabOk hc he (draw := drawK (cf15 n)) (fun _ => drawK_ok tabOk mixed hc he) (d := 3) (lms := lms2 (lsl15 n)) hl
    (fun τs rs h => by
      simp only [M15] at h
      split at h
      · exact (ev15 n _ _ _).trans h
      · cases h)
/-! ### 54: laws.eqByteS -/
def sg54 : Sig := ⟨[(false, [.slice 5]), (false, [.slice 5])], [.leaf .bool false]⟩
def G54_54_4 {R : Type} (n : Nat) (v : List T) (self : List T → Option R) (ex : List (List T → Option R)) : Option R :=
  bif (decide ((v.getD 2 (.i 0)).I < ((((v.getD 0 (.i 0)).L).length : Nat) : Int))) then (if 0 ≤ (v.getD 2 (.i 0)).I ∧ (v.getD 2 (.i 0)).I < (((v.getD 0 (.i 0)).L).length : Int) then (if 0 ≤ (v.getD 2 (.i 0)).I ∧ (v.getD 2 (.i 0)).I < (((v.getD 1 (.i 0)).L).length : Int) then (bif ((at_ ((v.getD 0 (.i 0)).L) ((v.getD 2 (.i 0)).I)).I != (at_ ((v.getD 1 (.i 0)).L) ((v.getD 2 (.i 0)).I)).I) then (exn ex 0 [.b false]) else (self [.l ((v.getD 0 (.i 0)).L), .l ((v.getD 1 (.i 0)).L), .i (IntKind.wrap .i64 ((v.getD 2 (.i 0)).I + 1))])) else none) else none) else (exn ex 1 [])
def L54_54_4 (n : Nat) : LoopM := ⟨⟨[[.t (.slice 5) (.i 0), .t (.slice 5) (.i 0), .un, .un, .un, .t (.int .i64) (.i 0), .un, .un, .un, .un, .un, .un, .un, .un, .un, .un, .un, .un, .un, .un, .un, .un, .un, .un, .un, .un]], []⟩, [(.ret, ⟨[[.un, .un, .un, .un, .t .bool (.i 0), .un, .un, .un, .un, .un, .un, .un, .un, .un, .un, .un, .un, .un, .un, .un, .un, .un, .un, .un, .un, .un]], []⟩), (.exit 0, ⟨[[.un, .un, .un, .un, .un, .un, .un, .un, .un, .un, .un, .un, .un, .un, .un, .un, .un, .un, .un, .un, .un, .un, .un, .un, .un, .un]], []⟩)], fun v self ex => G54_54_4 n v self ex⟩
def F54 (n : Nat) (x0 x1 : T) : Option (List T) :=
  bif ((x0.L.length : Int) != (x1.L.length : Int)) then (some [.b false]) else (loopR (L54_54_4 n).G n [.l x0.L, .l x1.L, .i 0] [fun u1 => some [.b ((u1.getD 0 (.i 0)).B)], fun u2 => some [.b true]])
def M54 (n : Nat) (τs : List T) : Option (List T) := match τs with
  | [x0, x1] => F54 n x0 x1
  | _ => none
noncomputable def code54 : List (Nat × Func) := [(54, Go.Proofs.Try.f54)]
def env54 : List (Nat × (Sig × Mean)) := []
def ann54 (f i : Nat) : Ann := match f, i with
  | 54, 4 => ⟨[(0, .any), (1, .any), (5, .any)], [], [(4, .any)]⟩
  | _, _ => ⟨[], [], []⟩
def lm54_54 (n : Nat) (i : Nat) : Option LoopM := match i with
  | 4 => some (L54_54_4 n)
  | _ => none
def lsl54 (n : Nat) : List ((Nat × Nat) × (Nat → Option LoopM)) := [((3, 54), lm54_54 n)]
noncomputable def cf54 (n : Nat) : Cfg := ⟨tiOf tab, lookup code54, lookup env54, ann54, n⟩
theorem ev54 (n : Nat) (x0 x1 : T) : evF (cf54 n) (drawK (cf54 n)) (lms2 (lsl54 n)) 3 54 sg54 [x0, x1] = F54 n x0 x1 := by kernel_rfl
theorem lp54_54_4 (n : Nat) (K : Ex → St → Option (List T)) (self : List T → Option (List T)) (v : List T) : evC (cf54 n) (callK (cf54 n) (drawK (cf54 n)) (lms2 (lsl54 n)) 3) (drawK (cf54 n) (callK (cf54 n) (drawK (cf54 n)) (lms2 (lsl54 n)) 3)) (ann54 54) (lm54_54 n) (bodyOf Go.Proofs.Try.f54 4) ((L54_54_4 n).sk.fill v) (roundK (ann54 54 4) K (selfK (L54_54_4 n) self)) = (L54_54_4 n).G v self (exitK (L54_54_4 n) K) := by kernel_rfl
theorem eo54 (n : Nat) : EnvOk Go.Proofs.Try.prog (tiOf tab) n 54 sg54 ⟨M54⟩ :=
  have hc : CodeOk Go.Proofs.Try.prog (cf54 n) := (code_cons Go.Proofs.Try.func54 (by kernel_rfl) code_nil)
  have he : EnvsOk Go.Proofs.Try.prog (cf54 n) := env_nil
  have hl : LmsOk (R := List T) (cf54 n) (drawK (cf54 n)) (lms2 (lsl54 n)) (lsl54 n) := (lms_cons (loops_of (cf := cf54 n) (fn0 := Go.Proofs.Try.f54) rfl (l := [bodyOf Go.Proofs.Try.f54 4]) (by kernel_rfl) (loops_cons (b := bodyOf Go.Proofs.Try.f54 4) (by kernel_rfl) (rfl : lm54_54 n 4 = some (L54_54_4 n)) (fun K self v => lp54_54_4 n K self v) loops_nil)) lms_nil)
  envOk_of (cf := cf54 n) tabOk hc he (draw := drawK (cf54 n)) (fun _ => drawK_ok tabOk mixed hc he) (d := 3) (lms := lms2 (lsl54 n)) hl
    (fun τs rs h => by
      simp only [M54] at h
      split at h
      · exact (ev54 n _ _).trans h
      · cases h)
/-! ### 16: laws.eqMessage -/
def sg16 : Sig := ⟨[(true, [.int .i64, .bool, .slice 5]), (true, [.int .i64, .bool, .slice 5])], [.leaf .bool false]⟩
def F16 (n : Nat) (x0 x1 x2 x3 x4 x5 : T) : Option (List T) :=
  bif (x0.I != x3.I) then (some [.b false]) else (bif (!(x1.B == x4.B)) then (some [.b false]) else ((F54 n x2 x5).bind fun r1 => bif (!(r1.headD (.i 0)).B) then (some [.b false]) else (some [.b true])))
def M16 (n : Nat) (τs : List T) : Option (List T) := match τs with
  | [x0, x1, x2, x3, x4, x5] => F16 n x0 x1 x2 x3 x4 x5
  | _ => none
noncomputable def code16 : List (Nat × Func) := [(16, Go.Proofs.Try.f16)]
def env16 : List (Nat × (Sig × Mean)) := [(54, sg54, ⟨M54⟩)]
def ann16 (f i : Nat) : Ann := match f, i with
  | _, _ => ⟨[], [], []⟩
def lsl16 (n : Nat) : List ((Nat × Nat) × (Nat → Option LoopM)) := []
noncomputable def cf16 (n : Nat) : Cfg := ⟨tiOf tab, lookup code16, lookup env16, ann16, n⟩
theorem ev16 (n : Nat) (x0 x1 x2 x3 x4 x5 : T) : evF (cf16 n) (drawK (cf16 n)) (lms2 (lsl16 n)) 3 16 sg16 [x0, x1, x2, x3, x4, x5] = F16 n x0 x1 x2 x3 x4 x5 := by kernel_rfl
theorem eo16 (n : Nat) : EnvOk Go.Proofs.Try.prog (tiOf tab) n 16 sg16 ⟨M16⟩ :=
  have hc : CodeOk Go.Proofs.Try.prog (cf16 n) := (code_cons Go.Proofs.Try.func16 (by kernel_rfl) code_nil)
  have he : EnvsOk Go.Proofs.Try.prog (cf16 n) := (env_cons (eo54 n) env_nil)
  have hl : LmsOk (R := List T) (cf16 n) (drawK (cf16 n)) (lms2 (lsl16 n)) (lsl16 n) := lms_nil
  envOk_of (cf := cf16 n) tabOk hc he (draw := drawK (cf16 n)) (fun _ => drawK_ok tabOk mixed hc he) (d := 3) (lms := lms2 (lsl16 n)) hl
    (fun τs rs h => by
      simp only [M16] at h
      split at h
      · exact (ev16 n _ _ _ _ _ _).trans h
      · cases h)
/-! ### 3: laws.FnExactMessageFault -/
def sg3 : Sig := ⟨[(true, [.int .i64, .bool, .slice 5])], [.leaf .bool false]⟩
def F3 (n : Nat) (x0 x1 x2 : T) : Option (List T) :=
  (F12 n x0 x1 x2 (.i 1048576)).bind fun r1 => bif (decide ((r1.headD (.i 0)).I < 0)) then (some [.b true]) else ((F14 n x0 x1 x2).bind fun r2 => (F13 n (r2.headD (.i 0)) (r2.tail.headD (.i 0)) (r2.tail.tail.headD (.i 0))).bind fun r3 => (F14 n x0 x1 x2).bind fun r4 => (F15 n (r4.headD (.i 0)) (r4.tail.headD (.i 0)) (r4.tail.tail.headD (.i 0))).bind fun r5 => bif ((r5.headD (.i 0)).I != (r3.headD (.i 0)).I) then (some [.b false]) else ((F14 n x0 x1 x2).bind fun r6 => (F16 n (r4.headD (.i 0)) (r4.tail.headD (.i 0)) (r4.tail.tail.headD (.i 0)) (r6.headD (.i 0)) (r6.tail.headD (.i 0)) (r6.tail.tail.headD (.i 0))).bind fun r7 => bif (!(r7.headD (.i 0)).B) then (some [.b false]) else (some [.b true])))
def M3 (n : Nat) (τs : List T) : Option (List T) := match τs with
  | [x0, x1, x2] => F3 n x0 x1 x2
  | _ => none
noncomputable def code3 : List (Nat × Func) := [(3, Go.Proofs.Try.f3)]
def env3 : List (Nat × (Sig × Mean)) := [(12, sg12, ⟨M12⟩), (13, sg13, ⟨M13⟩), (14, sg14, ⟨M14⟩), (15, sg15, ⟨M15⟩), (16, sg16, ⟨M16⟩)]
def ann3 (f i : Nat) : Ann := match f, i with
  | _, _ => ⟨[], [], []⟩
def lsl3 (n : Nat) : List ((Nat × Nat) × (Nat → Option LoopM)) := []
noncomputable def cf3 (n : Nat) : Cfg := ⟨tiOf tab, lookup code3, lookup env3, ann3, n⟩
theorem ev3 (n : Nat) (x0 x1 x2 : T) : evF (cf3 n) (drawK (cf3 n)) (lms2 (lsl3 n)) 3 3 sg3 [x0, x1, x2] = F3 n x0 x1 x2 := by kernel_rfl
theorem eo3 (n : Nat) : EnvOk Go.Proofs.Try.prog (tiOf tab) n 3 sg3 ⟨M3⟩ :=
  have hc : CodeOk Go.Proofs.Try.prog (cf3 n) := (code_cons Go.Proofs.Try.func3 (by kernel_rfl) code_nil)
  have he : EnvsOk Go.Proofs.Try.prog (cf3 n) := (env_cons (eo12 n) (env_cons (eo13 n) (env_cons (eo14 n) (env_cons (eo15 n) (env_cons (eo16 n) env_nil)))))
  have hl : LmsOk (R := List T) (cf3 n) (drawK (cf3 n)) (lms2 (lsl3 n)) (lsl3 n) := lms_nil
  envOk_of (cf := cf3 n) tabOk hc he (draw := drawK (cf3 n)) (fun _ => drawK_ok tabOk mixed hc he) (d := 3) (lms := lms2 (lsl3 n)) hl
    (fun τs rs h => by
      simp only [M3] at h
      split at h
      · exact (ev3 n _ _ _).trans h
      · cases h)
/-! ### 55: laws.szInt64S -/
def sg55 : Sig := ⟨[(false, [.slice 2]), (false, [.int .i64])], [.leaf (.int .i64) false]⟩
def F55 (n : Nat) (x0 x1 : T) : Option (List T) :=
  bif (decide ((IntKind.wrap .i64 (x1.I - (x0.L.length : Int))) < 0)) then (some [.i (-1)]) else (some [.i (IntKind.wrap .i64 (x1.I - (x0.L.length : Int)))])
def M55 (n : Nat) (τs : List T) : Option (List T) := match τs with
  | [x0, x1] => F55 n x0 x1
  | _ => none
noncomputable def code55 : List (Nat × Func) := [(55, Go.Proofs.Try.f55)]
def env55 : List (Nat × (Sig × Mean)) := []
def ann55 (f i : Nat) : Ann := match f, i with
  | _, _ => ⟨[], [], []⟩
def lsl55 (n : Nat) : List ((Nat × Nat) × (Nat → Option LoopM)) := []
noncomputable def cf55 (n : Nat) : Cfg := ⟨tiOf tab, lookup code55, lookup env55, ann55, n⟩
theorem ev55 (n : Nat) (x0 x1 : T) : evF (cf55 n) (drawK (cf55 n)) (lms2 (lsl55 n)) 3 55 sg55 [x0, x1] = F55 n x0 x1 := by kernel_rfl
theorem eo55 (n : Nat) : EnvOk Go.Proofs.Try.prog (tiOf tab) n 55 sg55 ⟨M55⟩ :=
  have hc : CodeOk Go.Proofs.Try.prog (cf55 n) := (code_cons Go.Proofs.Try.func55 (by kernel_rfl) code_nil)
  have he : EnvsOk Go.Proofs.Try.prog (cf55 n) := env_nil
  have hl : LmsOk (R := List T) (cf55 n) (drawK (cf55 n)) (lms2 (lsl55 n)) (lsl55 n) := lms_nil
  envOk_of (cf := cf55 n) tabOk hc he (draw := drawK (cf55 n)) (fun _ => drawK_ok tabOk mixed hc he) (d := 3) (lms := lms2 (lsl55 n)) hl
    (fun τs rs h => by
      simp only [M55] at h
      split at h
      · exact (ev55 n _ _).trans h
      · cases h)
/-! ### 17: laws.szAnswerer -/
def sg17 : Sig := ⟨[(true, [.int .i64, .slice 2]), (false, [.int .i64])], [.leaf (.int .i64) false]⟩
def F17 (n : Nat) (x0 x1 x2 : T) : Option (List T) :=
  (F55 n x1 x2).bind fun r1 => bif (decide ((r1.headD (.i 0)).I < 0)) then (some [.i (-1)]) else (some [(r1.headD (.i 0))])
def M17 (n : Nat) (τs : List T) : Option (List T) := match τs with
  | [x0, x1, x2] => F17 n x0 x1 x2
  | _ => none
noncomputable def code17 : List (Nat × Func) := [(17, Go.Proofs.Try.f17)]
def env17 : List (Nat × (Sig × Mean)) := [(55, sg55, ⟨M55⟩)]
def ann17 (f i : Nat) : Ann := match f, i with
  | _, _ => ⟨[], [], []⟩
def lsl17 (n : Nat) : List ((Nat × Nat) × (Nat → Option LoopM)) := []
noncomputable def cf17 (n : Nat) : Cfg := ⟨tiOf tab, lookup code17, lookup env17, ann17, n⟩
theorem ev17 (n : Nat) (x0 x1 x2 : T) : evF (cf17 n) (drawK (cf17 n)) (lms2 (lsl17 n)) 3 17 sg17 [x0, x1, x2] = F17 n x0 x1 x2 := by kernel_rfl
theorem eo17 (n : Nat) : EnvOk Go.Proofs.Try.prog (tiOf tab) n 17 sg17 ⟨M17⟩ :=
  have hc : CodeOk Go.Proofs.Try.prog (cf17 n) := (code_cons Go.Proofs.Try.func17 (by kernel_rfl) code_nil)
  have he : EnvsOk Go.Proofs.Try.prog (cf17 n) := (env_cons (eo55 n) env_nil)
  have hl : LmsOk (R := List T) (cf17 n) (drawK (cf17 n)) (lms2 (lsl17 n)) (lsl17 n) := lms_nil
  envOk_of (cf := cf17 n) tabOk hc he (draw := drawK (cf17 n)) (fun _ => drawK_ok tabOk mixed hc he) (d := 3) (lms := lms2 (lsl17 n)) hl
    (fun τs rs h => by
      simp only [M17] at h
      split at h
      · exact (ev17 n _ _ _).trans h
      · cases h)
/-! ### 56: spec.l1Word32 -/
def sg56 : Sig := ⟨[(false, [.int .i64])], [.leaf .bool false]⟩
def F56 (n : Nat) (x0 : T) : Option (List T) :=
  (F50 n x0 (.i 0) (.i 4294967295)).bind fun r1 => some [(r1.headD (.i 0))]
def M56 (n : Nat) (τs : List T) : Option (List T) := match τs with
  | [x0] => F56 n x0
  | _ => none
noncomputable def code56 : List (Nat × Func) := [(56, Go.Proofs.Try.f56)]
def env56 : List (Nat × (Sig × Mean)) := [(50, sg50, ⟨M50⟩)]
def ann56 (f i : Nat) : Ann := match f, i with
  | _, _ => ⟨[], [], []⟩
def lsl56 (n : Nat) : List ((Nat × Nat) × (Nat → Option LoopM)) := []
noncomputable def cf56 (n : Nat) : Cfg := ⟨tiOf tab, lookup code56, lookup env56, ann56, n⟩
theorem ev56 (n : Nat) (x0 : T) : evF (cf56 n) (drawK (cf56 n)) (lms2 (lsl56 n)) 3 56 sg56 [x0] = F56 n x0 := by kernel_rfl
theorem eo56 (n : Nat) : EnvOk Go.Proofs.Try.prog (tiOf tab) n 56 sg56 ⟨M56⟩ :=
  have hc : CodeOk Go.Proofs.Try.prog (cf56 n) := (code_cons Go.Proofs.Try.func56 (by kernel_rfl) code_nil)
  have he : EnvsOk Go.Proofs.Try.prog (cf56 n) := (env_cons (eo50 n) env_nil)
  have hl : LmsOk (R := List T) (cf56 n) (drawK (cf56 n)) (lms2 (lsl56 n)) (lsl56 n) := lms_nil
  envOk_of (cf := cf56 n) tabOk hc he (draw := drawK (cf56 n)) (fun _ => drawK_ok tabOk mixed hc he) (d := 3) (lms := lms2 (lsl56 n)) hl
    (fun τs rs h => by
      simp only [M56] at h
      split at h
      · exact (ev56 n _).trans h
      · cases h)
/-! ### 18: spec.AnswererFault -/
def sg18 : Sig := ⟨[(true, [.int .i64, .slice 2])], [.leaf (.int .i64) false]⟩
def G18_18_6 {R : Type} (n : Nat) (v : List T) (self : List T → Option R) (ex : List (List T → Option R)) : Option R :=
  bif (decide ((v.getD 0 (.i 0)).I < ((((v.getD 2 (.i 0)).L).length : Nat) : Int))) then (if 0 ≤ (v.getD 0 (.i 0)).I ∧ (v.getD 0 (.i 0)).I < (((v.getD 2 (.i 0)).L).length : Int) then ((F50 n (at_ ((v.getD 2 (.i 0)).L) ((v.getD 0 (.i 0)).I)) (.i 0) (.i 20)).bind fun r2 => bif (!(r2.headD (.i 0)).B) then (exn ex 0 [.i 3]) else (self [.i (IntKind.wrap .i64 ((v.getD 0 (.i 0)).I + 1)), .i ((v.getD 1 (.i 0)).I), .l ((v.getD 2 (.i 0)).L)])) else none) else (exn ex 1 [])
def L18_18_6 (n : Nat) : LoopM := ⟨⟨[[.un, .pb 0 0, .un, .t (.int .i64) (.i 0), .un, .un, .un, .un, .un, .un, .un, .un, .un, .un, .un, .un, .un, .un, .un, .un, .un, .un, .un, .un, .un, .un]], [.box [.t (.int .i64) (.i 0), .t (.slice 2) (.i 0)]]⟩, [(.ret, ⟨[[.un, .un, .t (.int .i64) (.i 0), .un, .un, .un, .un, .un, .un, .un, .un, .un, .un, .un, .un, .un, .un, .un, .un, .un, .un, .un, .un, .un, .un, .un]], []⟩), (.exit 0, ⟨[[.un, .un, .un, .un, .un, .un, .un, .un, .un, .un, .un, .un, .un, .un, .un, .un, .un, .un, .un, .un, .un, .un, .un, .un, .un, .un]], []⟩)], fun v self ex => G18_18_6 n v self ex⟩
def F18 (n : Nat) (x0 x1 : T) : Option (List T) :=
  (F56 n x0).bind fun r1 => bif (!(r1.headD (.i 0)).B) then (some [.i 3]) else (bif (decide ((x1.L.length : Int) > 4)) then (some [.i 2]) else (loopR (L18_18_6 n).G n [.i 0, .i x0.I, .l x1.L] [fun u3 => some [.i ((u3.getD 0 (.i 0)).I)], fun u4 => some [.i 0]]))
def M18 (n : Nat) (τs : List T) : Option (List T) := match τs with
  | [x0, x1] => F18 n x0 x1
  | _ => none
noncomputable def code18 : List (Nat × Func) := [(18, Go.Proofs.Try.f18)]
def env18 : List (Nat × (Sig × Mean)) := [(50, sg50, ⟨M50⟩), (56, sg56, ⟨M56⟩)]
def ann18 (f i : Nat) : Ann := match f, i with
  | 18, 6 => ⟨[(1, .any), (3, .any)], [], [(2, .any)]⟩
  | _, _ => ⟨[], [], []⟩
def lm18_18 (n : Nat) (i : Nat) : Option LoopM := match i with
  | 6 => some (L18_18_6 n)
  | _ => none
def lsl18 (n : Nat) : List ((Nat × Nat) × (Nat → Option LoopM)) := [((3, 18), lm18_18 n)]
noncomputable def cf18 (n : Nat) : Cfg := ⟨tiOf tab, lookup code18, lookup env18, ann18, n⟩
theorem ev18 (n : Nat) (x0 x1 : T) : evF (cf18 n) (drawK (cf18 n)) (lms2 (lsl18 n)) 3 18 sg18 [x0, x1] = F18 n x0 x1 := by kernel_rfl
theorem lp18_18_6 (n : Nat) (K : Ex → St → Option (List T)) (self : List T → Option (List T)) (v : List T) : evC (cf18 n) (callK (cf18 n) (drawK (cf18 n)) (lms2 (lsl18 n)) 3) (drawK (cf18 n) (callK (cf18 n) (drawK (cf18 n)) (lms2 (lsl18 n)) 3)) (ann18 18) (lm18_18 n) (bodyOf Go.Proofs.Try.f18 6) ((L18_18_6 n).sk.fill v) (roundK (ann18 18 6) K (selfK (L18_18_6 n) self)) = (L18_18_6 n).G v self (exitK (L18_18_6 n) K) := by kernel_rfl
theorem eo18 (n : Nat) : EnvOk Go.Proofs.Try.prog (tiOf tab) n 18 sg18 ⟨M18⟩ :=
  have hc : CodeOk Go.Proofs.Try.prog (cf18 n) := (code_cons Go.Proofs.Try.func18 (by kernel_rfl) code_nil)
  have he : EnvsOk Go.Proofs.Try.prog (cf18 n) := (env_cons (eo50 n) (env_cons (eo56 n) env_nil))
  have hl : LmsOk (R := List T) (cf18 n) (drawK (cf18 n)) (lms2 (lsl18 n)) (lsl18 n) := (lms_cons (loops_of (cf := cf18 n) (fn0 := Go.Proofs.Try.f18) rfl (l := [bodyOf Go.Proofs.Try.f18 6]) (by kernel_rfl) (loops_cons (b := bodyOf Go.Proofs.Try.f18 6) (by kernel_rfl) (rfl : lm18_18 n 6 = some (L18_18_6 n)) (fun K self v => lp18_18_6 n K self v) loops_nil)) lms_nil)
  envOk_of (cf := cf18 n) tabOk hc he (draw := drawK (cf18 n)) (fun _ => drawK_ok tabOk mixed hc he) (d := 3) (lms := lms2 (lsl18 n)) hl
    (fun τs rs h => by
      simp only [M18] at h
      split at h
      · exact (ev18 n _ _).trans h
      · cases h)
/-! ### 57: laws.toInt64S -/
def sg57 : Sig := ⟨[(false, [.slice 2])], [.leaf (.slice 2) false]⟩
def G57_57_3 {R : Type} (n : Nat) (v : List T) (self : List T → Option R) (ex : List (List T → Option R)) : Option R :=
  bif (decide ((v.getD 1 (.i 0)).I < ((((v.getD 0 (.i 0)).L).length : Nat) : Int))) then (if 0 ≤ (v.getD 1 (.i 0)).I ∧ (v.getD 1 (.i 0)).I < (((v.getD 0 (.i 0)).L).length : Int) then (if 0 ≤ (v.getD 1 (.i 0)).I ∧ (v.getD 1 (.i 0)).I < (((v.getD 2 (.i 0)).L).length : Int) then (if 2 = 2 ∧ ((v.getD 1 (.i 0)).I).toNat < ((v.getD 2 (.i 0)).L).length then (self [.l ((v.getD 0 (.i 0)).L), .i (IntKind.wrap .i64 ((v.getD 1 (.i 0)).I + 1)), .l (((v.getD 2 (.i 0)).L).set (((v.getD 1 (.i 0)).I).toNat) ((at_ ((v.getD 0 (.i 0)).L) ((v.getD 1 (.i 0)).I))))]) else none) else none) else none) else (exn ex 0 [.l ((v.getD 2 (.i 0)).L)])
def L57_57_3 (n : Nat) : LoopM := ⟨⟨[[.t (.slice 2) (.i 0), .un, .un, .own 2 0, .t (.int .i64) (.i 0), .un, .un, .un, .un, .un, .un, .un, .un, .un, .un, .un, .un, .un, .un, .un, .un, .un]], [.arr 2 []]⟩, [(.exit 0, ⟨[[.un, .un, .un, .own 2 0, .un, .un, .un, .un, .un, .un, .un, .un, .un, .un, .un, .un, .un, .un, .un, .un, .un, .un]], [.arr 2 []]⟩)], fun v self ex => G57_57_3 n v self ex⟩
def F57 (n : Nat) (x0 : T) : Option (List T) :=
  if 0 ≤ (x0.L.length : Int) ∧ (x0.L.length : Int) * 8 ≤ limB ∧ (x0.L.length : Int) < maxN then (loopR (L57_57_3 n).G n [.l x0.L, .i 0, .l (List.replicate ((x0.L.length : Int)).toNat (.i 0))] [fun u1 => some [.l ((u1.getD 0 (.i 0)).L)]]) else none
def M57 (n : Nat) (τs : List T) : Option (List T) := match τs with
  | [x0] => F57 n x0
  | _ => none
noncomputable def code57 : List (Nat × Func) := [(57, Go.Proofs.Try.f57)]
def env57 : List (Nat × (Sig × Mean)) := []
def ann57 (f i : Nat) : Ann := match f, i with
  | 57, 3 => ⟨[(0, .any), (3, .any), (4, .any)], [], [(3, .any)]⟩
  | _, _ => ⟨[], [], []⟩
def lm57_57 (n : Nat) (i : Nat) : Option LoopM := match i with
  | 3 => some (L57_57_3 n)
  | _ => none
def lsl57 (n : Nat) : List ((Nat × Nat) × (Nat → Option LoopM)) := [((3, 57), lm57_57 n)]
noncomputable def cf57 (n : Nat) : Cfg := ⟨tiOf tab, lookup code57, lookup env57, ann57, n⟩
theorem ev57 (n : Nat) (x0 : T) : evF (cf57 n) (drawK (cf57 n)) (lms2 (lsl57 n)) 3 57 sg57 [x0] = F57 n x0 := by kernel_rfl
theorem lp57_57_3 (n : Nat) (K : Ex → St → Option (List T)) (self : List T → Option (List T)) (v : List T) : evC (cf57 n) (callK (cf57 n) (drawK (cf57 n)) (lms2 (lsl57 n)) 3) (drawK (cf57 n) (callK (cf57 n) (drawK (cf57 n)) (lms2 (lsl57 n)) 3)) (ann57 57) (lm57_57 n) (bodyOf Go.Proofs.Try.f57 3) ((L57_57_3 n).sk.fill v) (roundK (ann57 57 3) K (selfK (L57_57_3 n) self)) = (L57_57_3 n).G v self (exitK (L57_57_3 n) K) := by kernel_rfl
theorem eo57 (n : Nat) : EnvOk Go.Proofs.Try.prog (tiOf tab) n 57 sg57 ⟨M57⟩ :=
  have hc : CodeOk Go.Proofs.Try.prog (cf57 n) := (code_cons Go.Proofs.Try.func57 (by kernel_rfl) code_nil)
  have he : EnvsOk Go.Proofs.Try.prog (cf57 n) := env_nil
  have hl : LmsOk (R := List T) (cf57 n) (drawK (cf57 n)) (lms2 (lsl57 n)) (lsl57 n) := (lms_cons (loops_of (cf := cf57 n) (fn0 := Go.Proofs.Try.f57) rfl (l := [bodyOf Go.Proofs.Try.f57 3]) (by kernel_rfl) (loops_cons (b := bodyOf Go.Proofs.Try.f57 3) (by kernel_rfl) (rfl : lm57_57 n 3 = some (L57_57_3 n)) (fun K self v => lp57_57_3 n K self v) loops_nil)) lms_nil)
  envOk_of (cf := cf57 n) tabOk hc he (draw := drawK (cf57 n)) (fun _ => drawK_ok tabOk mixed hc he) (d := 3) (lms := lms2 (lsl57 n)) hl
    (fun τs rs h => by
      simp only [M57] at h
      split at h
      · exact (ev57 n _).trans h
      · cases h)
/-! ### 19: laws.toAnswerer -/
def sg19 : Sig := ⟨[(true, [.int .i64, .slice 2])], [.agg [(.int .i64, false), (.slice 2, false)]]⟩
def F19 (n : Nat) (x0 x1 : T) : Option (List T) :=
  (F57 n x1).bind fun r1 => some [x0, (r1.headD (.i 0))]
def M19 (n : Nat) (τs : List T) : Option (List T) := match τs with
  | [x0, x1] => F19 n x0 x1
  | _ => none
noncomputable def code19 : List (Nat × Func) := [(19, Go.Proofs.Try.f19)]
def env19 : List (Nat × (Sig × Mean)) := [(57, sg57, ⟨M57⟩)]
def ann19 (f i : Nat) : Ann := match f, i with
  | _, _ => ⟨[], [], []⟩
def lsl19 (n : Nat) : List ((Nat × Nat) × (Nat → Option LoopM)) := []
noncomputable def cf19 (n : Nat) : Cfg := ⟨tiOf tab, lookup code19, lookup env19, ann19, n⟩
theorem ev19 (n : Nat) (x0 x1 : T) : evF (cf19 n) (drawK (cf19 n)) (lms2 (lsl19 n)) 3 19 sg19 [x0, x1] = F19 n x0 x1 := by kernel_rfl
theorem eo19 (n : Nat) : EnvOk Go.Proofs.Try.prog (tiOf tab) n 19 sg19 ⟨M19⟩ :=
  have hc : CodeOk Go.Proofs.Try.prog (cf19 n) := (code_cons Go.Proofs.Try.func19 (by kernel_rfl) code_nil)
  have he : EnvsOk Go.Proofs.Try.prog (cf19 n) := (env_cons (eo57 n) env_nil)
  have hl : LmsOk (R := List T) (cf19 n) (drawK (cf19 n)) (lms2 (lsl19 n)) (lsl19 n) := lms_nil
  envOk_of (cf := cf19 n) tabOk hc he (draw := drawK (cf19 n)) (fun _ => drawK_ok tabOk mixed hc he) (d := 3) (lms := lms2 (lsl19 n)) hl
    (fun τs rs h => by
      simp only [M19] at h
      split at h
      · exact (ev19 n _ _).trans h
      · cases h)
/-! ### 58: impl.isWord -/
def sg58 : Sig := ⟨[(false, [.int .i64])], [.leaf .bool false]⟩
def F58 (n : Nat) (x0 : T) : Option (List T) :=
  (F53 n x0 (.i 0) (.i 4294967295)).bind fun r1 => some [(r1.headD (.i 0))]
def M58 (n : Nat) (τs : List T) : Option (List T) := match τs with
  | [x0] => F58 n x0
  | _ => none
noncomputable def code58 : List (Nat × Func) := [(58, Go.Proofs.Try.f58)]
def env58 : List (Nat × (Sig × Mean)) := [(53, sg53, ⟨M53⟩)]
def ann58 (f i : Nat) : Ann := match f, i with
  | _, _ => ⟨[], [], []⟩
def lsl58 (n : Nat) : List ((Nat × Nat) × (Nat → Option LoopM)) := []
noncomputable def cf58 (n : Nat) : Cfg := ⟨tiOf tab, lookup code58, lookup env58, ann58, n⟩
theorem ev58 (n : Nat) (x0 : T) : evF (cf58 n) (drawK (cf58 n)) (lms2 (lsl58 n)) 3 58 sg58 [x0] = F58 n x0 := by kernel_rfl
theorem eo58 (n : Nat) : EnvOk Go.Proofs.Try.prog (tiOf tab) n 58 sg58 ⟨M58⟩ :=
  have hc : CodeOk Go.Proofs.Try.prog (cf58 n) := (code_cons Go.Proofs.Try.func58 (by kernel_rfl) code_nil)
  have he : EnvsOk Go.Proofs.Try.prog (cf58 n) := (env_cons (eo53 n) env_nil)
  have hl : LmsOk (R := List T) (cf58 n) (drawK (cf58 n)) (lms2 (lsl58 n)) (lsl58 n) := lms_nil
  envOk_of (cf := cf58 n) tabOk hc he (draw := drawK (cf58 n)) (fun _ => drawK_ok tabOk mixed hc he) (d := 3) (lms := lms2 (lsl58 n)) hl
    (fun τs rs h => by
      simp only [M58] at h
      split at h
      · exact (ev58 n _).trans h
      · cases h)
/-! ### 20: impl.AnswererFault -/
def sg20 : Sig := ⟨[(true, [.int .i64, .slice 2])], [.leaf (.int .i64) false]⟩
def G20_20_6 {R : Type} (n : Nat) (v : List T) (self : List T → Option R) (ex : List (List T → Option R)) : Option R :=
  bif (decide ((v.getD 2 (.i 0)).I < (v.getD 1 (.i 0)).I)) then (if 0 ≤ (v.getD 2 (.i 0)).I ∧ (v.getD 2 (.i 0)).I < (((v.getD 0 (.i 0)).L).length : Int) then ((F53 n (at_ ((v.getD 0 (.i 0)).L) ((v.getD 2 (.i 0)).I)) (.i 0) (.i 20)).bind fun r2 => bif (!(r2.headD (.i 0)).B) then (exn ex 0 [.i 3]) else (self [.l ((v.getD 0 (.i 0)).L), .i ((v.getD 1 (.i 0)).I), .i (IntKind.wrap .i64 ((v.getD 2 (.i 0)).I + 1))])) else none) else (exn ex 1 [])
def L20_20_6 (n : Nat) : LoopM := ⟨⟨[[.un, .un, .un, .un, .un, .un, .un, .un, .un, .un, .un, .un, .un, .un, .un, .un, .t (.slice 2) (.i 0), .t (.int .i64) (.i 0), .t (.int .i64) (.i 0), .un, .un, .un, .un, .un, .un, .un]], []⟩, [(.ret, ⟨[[.un, .un, .t (.int .i64) (.i 0), .un, .un, .un, .un, .un, .un, .un, .un, .un, .un, .un, .un, .un, .un, .un, .un, .un, .un, .un, .un, .un, .un, .un]], []⟩), (.exit 1, ⟨[[.un, .un, .un, .un, .un, .un, .un, .un, .un, .un, .un, .un, .un, .un, .un, .un, .un, .un, .un, .un, .un, .un, .un, .un, .un, .un]], []⟩)], fun v self ex => G20_20_6 n v self ex⟩
def F20 (n : Nat) (x0 x1 : T) : Option (List T) :=
  (F58 n x0).bind fun r1 => bif (!(r1.headD (.i 0)).B) then (some [.i 3]) else (bif (decide ((x1.L.length : Int) > 4)) then (some [.i 2]) else (loopR (L20_20_6 n).G n [.l x1.L, .i (x1.L.length : Int), .i 0] [fun u3 => some [.i ((u3.getD 0 (.i 0)).I)], fun u4 => some [.i 0]]))
def M20 (n : Nat) (τs : List T) : Option (List T) := match τs with
  | [x0, x1] => F20 n x0 x1
  | _ => none
noncomputable def code20 : List (Nat × Func) := [(20, Go.Proofs.Try.f20)]
def env20 : List (Nat × (Sig × Mean)) := [(53, sg53, ⟨M53⟩), (58, sg58, ⟨M58⟩)]
def ann20 (f i : Nat) : Ann := match f, i with
  | 20, 6 => ⟨[(16, .any), (17, .any), (18, .any)], [], [(2, .any)]⟩
  | _, _ => ⟨[], [], []⟩
def lm20_20 (n : Nat) (i : Nat) : Option LoopM := match i with
  | 6 => some (L20_20_6 n)
  | _ => none
def lsl20 (n : Nat) : List ((Nat × Nat) × (Nat → Option LoopM)) := [((3, 20), lm20_20 n)]
noncomputable def cf20 (n : Nat) : Cfg := ⟨tiOf tab, lookup code20, lookup env20, ann20, n⟩
theorem ev20 (n : Nat) (x0 x1 : T) : evF (cf20 n) (drawK (cf20 n)) (lms2 (lsl20 n)) 3 20 sg20 [x0, x1] = F20 n x0 x1 := by kernel_rfl
theorem lp20_20_6 (n : Nat) (K : Ex → St → Option (List T)) (self : List T → Option (List T)) (v : List T) : evC (cf20 n) (callK (cf20 n) (drawK (cf20 n)) (lms2 (lsl20 n)) 3) (drawK (cf20 n) (callK (cf20 n) (drawK (cf20 n)) (lms2 (lsl20 n)) 3)) (ann20 20) (lm20_20 n) (bodyOf Go.Proofs.Try.f20 6) ((L20_20_6 n).sk.fill v) (roundK (ann20 20 6) K (selfK (L20_20_6 n) self)) = (L20_20_6 n).G v self (exitK (L20_20_6 n) K) := by kernel_rfl
theorem eo20 (n : Nat) : EnvOk Go.Proofs.Try.prog (tiOf tab) n 20 sg20 ⟨M20⟩ :=
  have hc : CodeOk Go.Proofs.Try.prog (cf20 n) := (code_cons Go.Proofs.Try.func20 (by kernel_rfl) code_nil)
  have he : EnvsOk Go.Proofs.Try.prog (cf20 n) := (env_cons (eo53 n) (env_cons (eo58 n) env_nil))
  have hl : LmsOk (R := List T) (cf20 n) (drawK (cf20 n)) (lms2 (lsl20 n)) (lsl20 n) := (lms_cons (loops_of (cf := cf20 n) (fn0 := Go.Proofs.Try.f20) rfl (l := [bodyOf Go.Proofs.Try.f20 6]) (by kernel_rfl) (loops_cons (b := bodyOf Go.Proofs.Try.f20 6) (by kernel_rfl) (rfl : lm20_20 n 6 = some (L20_20_6 n)) (fun K self v => lp20_20_6 n K self v) loops_nil)) lms_nil)
  envOk_of (cf := cf20 n) tabOk hc he (draw := drawK (cf20 n)) (fun _ => drawK_ok tabOk mixed hc he) (d := 3) (lms := lms2 (lsl20 n)) hl
    (fun τs rs h => by
      simp only [M20] at h
      split at h
      · exact (ev20 n _ _).trans h
      · cases h)
/-! ### 59: laws.eqInt64S -/
def sg59 : Sig := ⟨[(false, [.slice 2]), (false, [.slice 2])], [.leaf .bool false]⟩
def G59_59_4 {R : Type} (n : Nat) (v : List T) (self : List T → Option R) (ex : List (List T → Option R)) : Option R :=
  bif (decide ((v.getD 2 (.i 0)).I < ((((v.getD 0 (.i 0)).L).length : Nat) : Int))) then (if 0 ≤ (v.getD 2 (.i 0)).I ∧ (v.getD 2 (.i 0)).I < (((v.getD 0 (.i 0)).L).length : Int) then (if 0 ≤ (v.getD 2 (.i 0)).I ∧ (v.getD 2 (.i 0)).I < (((v.getD 1 (.i 0)).L).length : Int) then (bif ((at_ ((v.getD 0 (.i 0)).L) ((v.getD 2 (.i 0)).I)).I != (at_ ((v.getD 1 (.i 0)).L) ((v.getD 2 (.i 0)).I)).I) then (exn ex 0 [.b false]) else (self [.l ((v.getD 0 (.i 0)).L), .l ((v.getD 1 (.i 0)).L), .i (IntKind.wrap .i64 ((v.getD 2 (.i 0)).I + 1))])) else none) else none) else (exn ex 1 [])
def L59_59_4 (n : Nat) : LoopM := ⟨⟨[[.t (.slice 2) (.i 0), .t (.slice 2) (.i 0), .un, .un, .un, .t (.int .i64) (.i 0), .un, .un, .un, .un, .un, .un, .un, .un, .un, .un, .un, .un, .un, .un, .un, .un, .un, .un, .un, .un]], []⟩, [(.ret, ⟨[[.un, .un, .un, .un, .t .bool (.i 0), .un, .un, .un, .un, .un, .un, .un, .un, .un, .un, .un, .un, .un, .un, .un, .un, .un, .un, .un, .un, .un]], []⟩), (.exit 0, ⟨[[.un, .un, .un, .un, .un, .un, .un, .un, .un, .un, .un, .un, .un, .un, .un, .un, .un, .un, .un, .un, .un, .un, .un, .un, .un, .un]], []⟩)], fun v self ex => G59_59_4 n v self ex⟩
def F59 (n : Nat) (x0 x1 : T) : Option (List T) :=
  bif ((x0.L.length : Int) != (x1.L.length : Int)) then (some [.b false]) else (loopR (L59_59_4 n).G n [.l x0.L, .l x1.L, .i 0] [fun u1 => some [.b ((u1.getD 0 (.i 0)).B)], fun u2 => some [.b true]])
def M59 (n : Nat) (τs : List T) : Option (List T) := match τs with
  | [x0, x1] => F59 n x0 x1
  | _ => none
noncomputable def code59 : List (Nat × Func) := [(59, Go.Proofs.Try.f59)]
def env59 : List (Nat × (Sig × Mean)) := []
def ann59 (f i : Nat) : Ann := match f, i with
  | 59, 4 => ⟨[(0, .any), (1, .any), (5, .any)], [], [(4, .any)]⟩
  | _, _ => ⟨[], [], []⟩
def lm59_59 (n : Nat) (i : Nat) : Option LoopM := match i with
  | 4 => some (L59_59_4 n)
  | _ => none
def lsl59 (n : Nat) : List ((Nat × Nat) × (Nat → Option LoopM)) := [((3, 59), lm59_59 n)]
noncomputable def cf59 (n : Nat) : Cfg := ⟨tiOf tab, lookup code59, lookup env59, ann59, n⟩
theorem ev59 (n : Nat) (x0 x1 : T) : evF (cf59 n) (drawK (cf59 n)) (lms2 (lsl59 n)) 3 59 sg59 [x0, x1] = F59 n x0 x1 := by kernel_rfl
theorem lp59_59_4 (n : Nat) (K : Ex → St → Option (List T)) (self : List T → Option (List T)) (v : List T) : evC (cf59 n) (callK (cf59 n) (drawK (cf59 n)) (lms2 (lsl59 n)) 3) (drawK (cf59 n) (callK (cf59 n) (drawK (cf59 n)) (lms2 (lsl59 n)) 3)) (ann59 59) (lm59_59 n) (bodyOf Go.Proofs.Try.f59 4) ((L59_59_4 n).sk.fill v) (roundK (ann59 59 4) K (selfK (L59_59_4 n) self)) = (L59_59_4 n).G v self (exitK (L59_59_4 n) K) := by kernel_rfl
theorem eo59 (n : Nat) : EnvOk Go.Proofs.Try.prog (tiOf tab) n 59 sg59 ⟨M59⟩ :=
  have hc : CodeOk Go.Proofs.Try.prog (cf59 n) := (code_cons Go.Proofs.Try.func59 (by kernel_rfl) code_nil)
  have he : EnvsOk Go.Proofs.Try.prog (cf59 n) := env_nil
  have hl : LmsOk (R := List T) (cf59 n) (drawK (cf59 n)) (lms2 (lsl59 n)) (lsl59 n) := (lms_cons (loops_of (cf := cf59 n) (fn0 := Go.Proofs.Try.f59) rfl (l := [bodyOf Go.Proofs.Try.f59 4]) (by kernel_rfl) (loops_cons (b := bodyOf Go.Proofs.Try.f59 4) (by kernel_rfl) (rfl : lm59_59 n 4 = some (L59_59_4 n)) (fun K self v => lp59_59_4 n K self v) loops_nil)) lms_nil)
  envOk_of (cf := cf59 n) tabOk hc he (draw := drawK (cf59 n)) (fun _ => drawK_ok tabOk mixed hc he) (d := 3) (lms := lms2 (lsl59 n)) hl
    (fun τs rs h => by
      simp only [M59] at h
      split at h
      · exact (ev59 n _ _).trans h
      · cases h)
/-! ### 21: laws.eqAnswerer -/
def sg21 : Sig := ⟨[(true, [.int .i64, .slice 2]), (true, [.int .i64, .slice 2])], [.leaf .bool false]⟩
def F21 (n : Nat) (x0 x1 x2 x3 : T) : Option (List T) :=
  bif (x0.I != x2.I) then (some [.b false]) else ((F59 n x1 x3).bind fun r1 => bif (!(r1.headD (.i 0)).B) then (some [.b false]) else (some [.b true]))
def M21 (n : Nat) (τs : List T) : Option (List T) := match τs with
  | [x0, x1, x2, x3] => F21 n x0 x1 x2 x3
  | _ => none
noncomputable def code21 : List (Nat × Func) := [(21, Go.Proofs.Try.f21)]
def env21 : List (Nat × (Sig × Mean)) := [(59, sg59, ⟨M59⟩)]
def ann21 (f i : Nat) : Ann := match f, i with
  | _, _ => ⟨[], [], []⟩
def lsl21 (n : Nat) : List ((Nat × Nat) × (Nat → Option LoopM)) := []
noncomputable def cf21 (n : Nat) : Cfg := ⟨tiOf tab, lookup code21, lookup env21, ann21, n⟩
theorem ev21 (n : Nat) (x0 x1 x2 x3 : T) : evF (cf21 n) (drawK (cf21 n)) (lms2 (lsl21 n)) 3 21 sg21 [x0, x1, x2, x3] = F21 n x0 x1 x2 x3 := by kernel_rfl
theorem eo21 (n : Nat) : EnvOk Go.Proofs.Try.prog (tiOf tab) n 21 sg21 ⟨M21⟩ :=
  have hc : CodeOk Go.Proofs.Try.prog (cf21 n) := (code_cons Go.Proofs.Try.func21 (by kernel_rfl) code_nil)
  have he : EnvsOk Go.Proofs.Try.prog (cf21 n) := (env_cons (eo59 n) env_nil)
  have hl : LmsOk (R := List T) (cf21 n) (drawK (cf21 n)) (lms2 (lsl21 n)) (lsl21 n) := lms_nil
  envOk_of (cf := cf21 n) tabOk hc he (draw := drawK (cf21 n)) (fun _ => drawK_ok tabOk mixed hc he) (d := 3) (lms := lms2 (lsl21 n)) hl
    (fun τs rs h => by
      simp only [M21] at h
      split at h
      · exact (ev21 n _ _ _ _).trans h
      · cases h)
/-! ### 4: laws.FnExactAnswererFault -/
def sg4 : Sig := ⟨[(true, [.int .i64, .slice 2])], [.leaf .bool false]⟩
def F4 (n : Nat) (x0 x1 : T) : Option (List T) :=
  (F17 n x0 x1 (.i 1048576)).bind fun r1 => bif (decide ((r1.headD (.i 0)).I < 0)) then (some [.b true]) else ((F19 n x0 x1).bind fun r2 => (F18 n (r2.headD (.i 0)) (r2.tail.headD (.i 0))).bind fun r3 => (F19 n x0 x1).bind fun r4 => (F20 n (r4.headD (.i 0)) (r4.tail.headD (.i 0))).bind fun r5 => bif ((r5.headD (.i 0)).I != (r3.headD (.i 0)).I) then (some [.b false]) else ((F19 n x0 x1).bind fun r6 => (F21 n (r4.headD (.i 0)) (r4.tail.headD (.i 0)) (r6.headD (.i 0)) (r6.tail.headD (.i 0))).bind fun r7 => bif (!(r7.headD (.i 0)).B) then (some [.b false]) else (some [.b true])))
def M4 (n : Nat) (τs : List T) : Option (List T) := match τs with
  | [x0, x1] => F4 n x0 x1
  | _ => none
noncomputable def code4 : List (Nat × Func) := [(4, Go.Proofs.Try.f4)]
def env4 : List (Nat × (Sig × Mean)) := [(17, sg17, ⟨M17⟩), (18, sg18, ⟨M18⟩), (19, sg19, ⟨M19⟩), (20, sg20, ⟨M20⟩), (21, sg21, ⟨M21⟩)]
def ann4 (f i : Nat) : Ann := match f, i with
  | _, _ => ⟨[], [], []⟩
def lsl4 (n : Nat) : List ((Nat × Nat) × (Nat → Option LoopM)) := []
noncomputable def cf4 (n : Nat) : Cfg := ⟨tiOf tab, lookup code4, lookup env4, ann4, n⟩
theorem ev4 (n : Nat) (x0 x1 : T) : evF (cf4 n) (drawK (cf4 n)) (lms2 (lsl4 n)) 3 4 sg4 [x0, x1] = F4 n x0 x1 := by kernel_rfl
theorem eo4 (n : Nat) : EnvOk Go.Proofs.Try.prog (tiOf tab) n 4 sg4 ⟨M4⟩ :=
  have hc : CodeOk Go.Proofs.Try.prog (cf4 n) := (code_cons Go.Proofs.Try.func4 (by kernel_rfl) code_nil)
  have he : EnvsOk Go.Proofs.Try.prog (cf4 n) := (env_cons (eo17 n) (env_cons (eo18 n) (env_cons (eo19 n) (env_cons (eo20 n) (env_cons (eo21 n) env_nil)))))
  have hl : LmsOk (R := List T) (cf4 n) (drawK (cf4 n)) (lms2 (lsl4 n)) (lsl4 n) := lms_nil
  envOk_of (cf := cf4 n) tabOk hc he (draw := drawK (cf4 n)) (fun _ => drawK_ok tabOk mixed hc he) (d := 3) (lms := lms2 (lsl4 n)) hl
    (fun τs rs h => by
      simp only [M4] at h
      split at h
      · exact (ev4 n _ _).trans h
      · cases h)
end Go.KX.Sa
