import Derived.Test.YtpkeanlcmjbgnadProg
import Derived.KernelRfl
import Derived.Test.YtpkeanlcmjbgnadKxC
namespace Go.KX.Sd
open Go
set_option linter.unusedVariables false
def tab : List (Nat × TyI) := [
  (2, ⟨true, false, [.int .i64], 8, .leaf, false⟩),
  (3, ⟨true, false, [.int .i64], 8, .leaf, false⟩),
  (4, ⟨true, false, [.bool], 1, .leaf, false⟩),
  (5, ⟨true, false, [.int .u8], 1, .leaf, false⟩),
  (22, ⟨true, false, [.slice 2], 24, .slice 2, false⟩),
  (23, ⟨true, false, [.slice 259], 24, .slice 259, false⟩),
  (25, ⟨true, true, [.int .i64, .slice 2, .slice 259, .slice 2], 80, .struct [(2, 0), (22, 1), (23, 2), (22, 3)], false⟩),
  (28, ⟨true, false, [.slice 132], 24, .slice 132, false⟩),
  (30, ⟨true, true, [.int .i64, .slice 2, .slice 132, .slice 2], 80, .struct [(2, 0), (22, 1), (28, 2), (22, 3)], false⟩),
  (93, ⟨true, false, [.slice 5], 24, .slice 5, false⟩),
  (106, ⟨true, true, [.int .i64, .int .i64, .slice 5], 40, .struct [(2, 0), (2, 1), (93, 2)], false⟩),
  (108, ⟨true, true, [.int .i64, .int .i64, .int .i64, .slice 5], 48, .struct [(2, 0), (106, 1)], false⟩),
  (132, ⟨true, true, [.int .i64, .int .i64, .int .i64, .bool, .bool, .bool, .slice 5], 56, .struct [(2, 0), (2, 1), (2, 2), (4, 3), (4, 4), (4, 5), (93, 6)], false⟩),
  (259, ⟨true, true, [.int .i64, .int .i64, .int .i64, .bool, .bool, .bool, .slice 5], 56, .struct [(2, 0), (2, 1), (2, 2), (4, 3), (4, 4), (4, 5), (93, 6)], false⟩),
  (283, ⟨true, false, [.slice 93], 24, .slice 93, false⟩)]
theorem tabOk : TabOk Go.Proofs.Try.prog (tiOf tab) := tab_ok (by kernel_rfl)
theorem mixed : Go.Proofs.Try.prog.follows .mixedOrders = true := by kernel_rfl
/-! ### 93: laws.szInt64S -/
def sg93 : Sig := ⟨[(false, [.slice 2]), (false, [.int .i64])], [.leaf (.int .i64) false]⟩
def F93 (n : Nat) (x0 x1 : T) : Option (List T) :=
  bif (decide ((IntKind.wrap .i64 (x1.I - (x0.L.length : Int))) < 0)) then (some [.i (-1)]) else (some [.i (IntKind.wrap .i64 (x1.I - (x0.L.length : Int)))])
def M93 (n : Nat) (τs : List T) : Option (List T) := match τs with
  | [x0, x1] => F93 n x0 x1
  | _ => none
noncomputable def code93 : List (Nat × Func) := [(93, Go.Proofs.Try.f93)]
def env93 : List (Nat × (Sig × Mean)) := []
def ann93 (f i : Nat) : Ann := match f, i with
  | _, _ => ⟨[], [], []⟩
def lsl93 (n : Nat) : List ((Nat × Nat) × (Nat → List LoopM)) := []
noncomputable def cf93 (n : Nat) : Cfg := ⟨tiOf tab, lookup code93, lookup env93, ann93, n⟩
theorem ev93 (n : Nat) (x0 x1 : T) : evF (cf93 n) (drawK (cf93 n)) (lms2 (lsl93 n)) 3 93 sg93 [x0, x1] = F93 n x0 x1 := by kernel_rfl
theorem eo93 (n : Nat) : EnvOk Go.Proofs.Try.prog (tiOf tab) n 93 sg93 ⟨M93⟩ :=
  have hc : CodeOk Go.Proofs.Try.prog (cf93 n) := (code_cons Go.Proofs.Try.func93 (by kernel_rfl) code_nil)
  have he : EnvsOk Go.Proofs.Try.prog (cf93 n) := env_nil
  have hl : LmsOk (R := List T) (cf93 n) (drawK (cf93 n)) (lms2 (lsl93 n)) (lsl93 n) := lms_nil
  envOk_of (cf := cf93 n) tabOk hc he (draw := drawK (cf93 n)) (fun _ => drawK_ok tabOk mixed hc he) (d := 3) (lms := lms2 (lsl93 n)) hl
    (fun τs rs h => by
      simp only [M93] at h
      split at h
      · exact (ev93 n _ _).trans h
      · cases h)
/-! ### 249: laws.szByteS -/
def sg249 : Sig := ⟨[(false, [.slice 5]), (false, [.int .i64])], [.leaf (.int .i64) false]⟩
def F249 (n : Nat) (x0 x1 : T) : Option (List T) :=
  bif (decide ((IntKind.wrap .i64 (x1.I - (x0.L.length : Int))) < 0)) then (some [.i (-1)]) else (some [.i (IntKind.wrap .i64 (x1.I - (x0.L.length : Int)))])
def M249 (n : Nat) (τs : List T) : Option (List T) := match τs with
  | [x0, x1] => F249 n x0 x1
  | _ => none
noncomputable def code249 : List (Nat × Func) := [(249, Go.Proofs.Try.f249)]
def env249 : List (Nat × (Sig × Mean)) := []
def ann249 (f i : Nat) : Ann := match f, i with
  | _, _ => ⟨[], [], []⟩
def lsl249 (n : Nat) : List ((Nat × Nat) × (Nat → List LoopM)) := []
noncomputable def cf249 (n : Nat) : Cfg := ⟨tiOf tab, lookup code249, lookup env249, ann249, n⟩
theorem ev249 (n : Nat) (x0 x1 : T) : evF (cf249 n) (drawK (cf249 n)) (lms2 (lsl249 n)) 3 249 sg249 [x0, x1] = F249 n x0 x1 := by kernel_rfl
theorem eo249 (n : Nat) : EnvOk Go.Proofs.Try.prog (tiOf tab) n 249 sg249 ⟨M249⟩ :=
  have hc : CodeOk Go.Proofs.Try.prog (cf249 n) := (code_cons Go.Proofs.Try.func249 (by kernel_rfl) code_nil)
  have he : EnvsOk Go.Proofs.Try.prog (cf249 n) := env_nil
  have hl : LmsOk (R := List T) (cf249 n) (drawK (cf249 n)) (lms2 (lsl249 n)) (lsl249 n) := lms_nil
  envOk_of (cf := cf249 n) tabOk hc he (draw := drawK (cf249 n)) (fun _ => drawK_ok tabOk mixed hc he) (d := 3) (lms := lms2 (lsl249 n)) hl
    (fun τs rs h => by
      simp only [M249] at h
      split at h
      · exact (ev249 n _ _).trans h
      · cases h)
/-! ### 200: laws.szData -/
def sg200 : Sig := ⟨[(true, [.int .i64, .int .i64, .int .i64, .bool, .bool, .bool, .slice 5]), (false, [.int .i64])], [.leaf (.int .i64) false]⟩
def F200 (n : Nat) (x0 x1 x2 x3 x4 x5 x6 x7 : T) : Option (List T) :=
  (F249 n x6 x7).bind fun r1 => bif (decide ((r1.headD (.i 0)).I < 0)) then (some [.i (-1)]) else (some [(r1.headD (.i 0))])
def M200 (n : Nat) (τs : List T) : Option (List T) := match τs with
  | [x0, x1, x2, x3, x4, x5, x6, x7] => F200 n x0 x1 x2 x3 x4 x5 x6 x7
  | _ => none
noncomputable def code200 : List (Nat × Func) := [(200, Go.Proofs.Try.f200)]
def env200 : List (Nat × (Sig × Mean)) := [(249, sg249, ⟨M249⟩)]
def ann200 (f i : Nat) : Ann := match f, i with
  | _, _ => ⟨[], [], []⟩
def lsl200 (n : Nat) : List ((Nat × Nat) × (Nat → List LoopM)) := []
noncomputable def cf200 (n : Nat) : Cfg := ⟨tiOf tab, lookup code200, lookup env200, ann200, n⟩
theorem ev200 (n : Nat) (x0 x1 x2 x3 x4 x5 x6 x7 : T) : evF (cf200 n) (drawK (cf200 n)) (lms2 (lsl200 n)) 3 200 sg200 [x0, x1, x2, x3, x4, x5, x6, x7] = F200 n x0 x1 x2 x3 x4 x5 x6 x7 := by kernel_rfl
theorem eo200 (n : Nat) : EnvOk Go.Proofs.Try.prog (tiOf tab) n 200 sg200 ⟨M200⟩ :=
  have hc : CodeOk Go.Proofs.Try.prog (cf200 n) := (code_cons Go.Proofs.Try.func200 (by kernel_rfl) code_nil)
  have he : EnvsOk Go.Proofs.Try.prog (cf200 n) := (env_cons (eo249 n) env_nil)
  have hl : LmsOk (R := List T) (cf200 n) (drawK (cf200 n)) (lms2 (lsl200 n)) (lsl200 n) := lms_nil
  envOk_of (cf := cf200 n) tabOk hc he (draw := drawK (cf200 n)) (fun _ => drawK_ok tabOk mixed hc he) (d := 3) (lms := lms2 (lsl200 n)) hl
    (fun τs rs h => by
      simp only [M200] at h
      split at h
      · exact (ev200 n _ _ _ _ _ _ _ _).trans h
      · cases h)
/-! ### 94: laws.szDataS -/
def sg94 : Sig := ⟨[(false, [.slice 259]), (false, [.int .i64])], [.leaf (.int .i64) false]⟩
def G94_94_5 {R : Type} (n : Nat) (v : List T) (self : List T → Option R) (ex : List (List T → Option R)) : Option R :=
  bif (decide ((v.getD 2 (.i 0)).I < ((((v.getD 0 (.i 0)).L).length : Nat) : Int))) then (if 0 ≤ (v.getD 2 (.i 0)).I ∧ (v.getD 2 (.i 0)).I < (((v.getD 0 (.i 0)).L).length : Int) then ((F200 n ((at_ ((v.getD 0 (.i 0)).L) ((v.getD 2 (.i 0)).I)).F 0) ((at_ ((v.getD 0 (.i 0)).L) ((v.getD 2 (.i 0)).I)).F 1) ((at_ ((v.getD 0 (.i 0)).L) ((v.getD 2 (.i 0)).I)).F 2) ((at_ ((v.getD 0 (.i 0)).L) ((v.getD 2 (.i 0)).I)).F 3) ((at_ ((v.getD 0 (.i 0)).L) ((v.getD 2 (.i 0)).I)).F 4) ((at_ ((v.getD 0 (.i 0)).L) ((v.getD 2 (.i 0)).I)).F 5) ((at_ ((v.getD 0 (.i 0)).L) ((v.getD 2 (.i 0)).I)).F 6) (.i ((v.getD 1 (.i 0)).I))).bind fun r1 => bif (decide ((r1.headD (.i 0)).I < 0)) then (exn ex 0 [.i ((r1.headD (.i 0)).I), .i (-1)]) else (self [.l ((v.getD 0 (.i 0)).L), .i ((r1.headD (.i 0)).I), .i (IntKind.wrap .i64 ((v.getD 2 (.i 0)).I + 1))])) else none) else (exn ex 1 [.i ((v.getD 1 (.i 0)).I)])
def L94_94_5 (n : Nat) : LoopM := ⟨⟨[[.t (.slice 259) (.i 0), .t (.int .i64) (.i 0), .un, .un, .un, .t (.int .i64) (.i 0), .un, .un, .un, .un, .un, .un, .un, .un, .un, .un, .un, .un, .un, .un, .un, .un, .un, .un, .un, .un, .un]], []⟩, [(.ret, ⟨[[.un, .t (.int .i64) (.i 0), .un, .un, .t (.int .i64) (.i 0), .un, .un, .un, .un, .un, .un, .un, .un, .un, .un, .un, .un, .un, .un, .un, .un, .un, .un, .un, .un, .un, .un]], []⟩), (.exit 0, ⟨[[.un, .t (.int .i64) (.i 0), .un, .un, .un, .un, .un, .un, .un, .un, .un, .un, .un, .un, .un, .un, .un, .un, .un, .un, .un, .un, .un, .un, .un, .un, .un]], []⟩)], fun v self ex => G94_94_5 n v self ex⟩
def F94 (n : Nat) (x0 x1 : T) : Option (List T) :=
  bif (decide ((IntKind.wrap .i64 (x1.I - (x0.L.length : Int))) < 0)) then (some [.i (-1)]) else (loopR (L94_94_5 n).G n [.l x0.L, .i (IntKind.wrap .i64 (x1.I - (x0.L.length : Int))), .i 0] [fun u2 => some [.i ((u2.getD 1 (.i 0)).I)], fun u3 => some [.i ((u3.getD 0 (.i 0)).I)]])
def M94 (n : Nat) (τs : List T) : Option (List T) := match τs with
  | [x0, x1] => F94 n x0 x1
  | _ => none
noncomputable def code94 : List (Nat × Func) := [(94, Go.Proofs.Try.f94)]
def env94 : List (Nat × (Sig × Mean)) := [(200, sg200, ⟨M200⟩)]
def ann94 (f i : Nat) : Ann := match f, i with
  | 94, 5 => ⟨[(0, .any), (1, .any), (5, .any)], [], [(1, .any), (4, .any)]⟩
  | _, _ => ⟨[], [], []⟩
def lm94_94 (n : Nat) (i : Nat) : List LoopM := match i with
  | 5 => [L94_94_5 n]
  | _ => []
def lsl94 (n : Nat) : List ((Nat × Nat) × (Nat → List LoopM)) := [((3, 94), lm94_94 n)]
noncomputable def cf94 (n : Nat) : Cfg := ⟨tiOf tab, lookup code94, lookup env94, ann94, n⟩
theorem ev94 (n : Nat) (x0 x1 : T) : evF (cf94 n) (drawK (cf94 n)) (lms2 (lsl94 n)) 3 94 sg94 [x0, x1] = F94 n x0 x1 := by kernel_rfl
theorem lp94_94_5 (n : Nat) (K : Ex → St → Option (List T)) (self : List T → Option (List T)) (v : List T) : evC (cf94 n) (callK (cf94 n) (drawK (cf94 n)) (lms2 (lsl94 n)) 3) (drawK (cf94 n) (callK (cf94 n) (drawK (cf94 n)) (lms2 (lsl94 n)) 3)) (ann94 94) (lm94_94 n) (bodyOf Go.Proofs.Try.f94 5) ((L94_94_5 n).sk.fill v) (roundK (ann94 94 5) K (selfK (L94_94_5 n) self)) = (L94_94_5 n).G v self (exitK (L94_94_5 n) K) := by kernel_rfl
theorem eo94 (n : Nat) : EnvOk Go.Proofs.Try.prog (tiOf tab) n 94 sg94 ⟨M94⟩ :=
  have hc : CodeOk Go.Proofs.Try.prog (cf94 n) := (code_cons Go.Proofs.Try.func94 (by kernel_rfl) code_nil)
  have he : EnvsOk Go.Proofs.Try.prog (cf94 n) := (env_cons (eo200 n) env_nil)
  have hl : LmsOk (R := List T) (cf94 n) (drawK (cf94 n)) (lms2 (lsl94 n)) (lsl94 n) := (lms_cons (loops_of (cf := cf94 n) (fn0 := Go.Proofs.Try.f94) rfl (l := [bodyOf Go.Proofs.Try.f94 5]) (by kernel_rfl) (loops_cons (b := bodyOf Go.Proofs.Try.f94 5) (by kernel_rfl) (rfl : lm94_94 n 5 = [L94_94_5 n]) (List.forall_mem_cons.2 ⟨fun K self v => lp94_94_5 n K self v, fun _ h => by cases h⟩) loops_nil)) lms_nil)
  envOk_of (cf := cf94 n) tabOk hc he (draw := drawK (cf94 n)) (fun _ => drawK_ok tabOk mixed hc he) (d := 3) (lms := lms2 (lsl94 n)) hl
    (fun τs rs h => by
      simp only [M94] at h
      split at h
      · exact (ev94 n _ _).trans h
      · cases h)
/-! ### 13: laws.szRecv -/
def sg13 : Sig := ⟨[(true, [.int .i64, .slice 2, .slice 259, .slice 2]), (false, [.int .i64])], [.leaf (.int .i64) false]⟩
def F13 (n : Nat) (x0 x1 x2 x3 x4 : T) : Option (List T) :=
  (F93 n x1 x4).bind fun r1 => bif (decide ((r1.headD (.i 0)).I < 0)) then (some [.i (-1)]) else ((F94 n x2 (r1.headD (.i 0))).bind fun r2 => bif (decide ((r2.headD (.i 0)).I < 0)) then (some [.i (-1)]) else ((F93 n x3 (r2.headD (.i 0))).bind fun r3 => bif (decide ((r3.headD (.i 0)).I < 0)) then (some [.i (-1)]) else (some [(r3.headD (.i 0))])))
def M13 (n : Nat) (τs : List T) : Option (List T) := match τs with
  | [x0, x1, x2, x3, x4] => F13 n x0 x1 x2 x3 x4
  | _ => none
noncomputable def code13 : List (Nat × Func) := [(13, Go.Proofs.Try.f13)]
def env13 : List (Nat × (Sig × Mean)) := [(93, sg93, ⟨M93⟩), (94, sg94, ⟨M94⟩)]
def ann13 (f i : Nat) : Ann := match f, i with
  | _, _ => ⟨[], [], []⟩
def lsl13 (n : Nat) : List ((Nat × Nat) × (Nat → List LoopM)) := []
noncomputable def cf13 (n : Nat) : Cfg := ⟨tiOf tab, lookup code13, lookup env13, ann13, n⟩
theorem ev13 (n : Nat) (x0 x1 x2 x3 x4 : T) : evF (cf13 n) (drawK (cf13 n)) (lms2 (lsl13 n)) 3 13 sg13 [x0, x1, x2, x3, x4] = F13 n x0 x1 x2 x3 x4 := by kernel_rfl
theorem eo13 (n : Nat) : EnvOk Go.Proofs.Try.prog (tiOf tab) n 13 sg13 ⟨M13⟩ :=
  have hc : CodeOk Go.Proofs.Try.prog (cf13 n) := (code_cons Go.Proofs.Try.func13 (by kernel_rfl) code_nil)
  have he : EnvsOk Go.Proofs.Try.prog (cf13 n) := (env_cons (eo93 n) (env_cons (eo94 n) env_nil))
  have hl : LmsOk (R := List T) (cf13 n) (drawK (cf13 n)) (lms2 (lsl13 n)) (lsl13 n) := lms_nil
  envOk_of (cf := cf13 n) tabOk hc he (draw := drawK (cf13 n)) (fun _ => drawK_ok tabOk mixed hc he) (d := 3) (lms := lms2 (lsl13 n)) hl
    (fun τs rs h => by
      simp only [M13] at h
      split at h
      · exact (ev13 n _ _ _ _ _).trans h
      · cases h)
/-! ### 100: spec.l1In -/
def sg100 : Sig := ⟨[(false, [.int .i64]), (false, [.int .i64]), (false, [.int .i64])], [.leaf .bool false]⟩
def F100 (n : Nat) (x0 x1 x2 : T) : Option (List T) :=
  bif (decide (x0.I ≥ x1.I)) then (some [.b (decide (x0.I ≤ x2.I))]) else (some [.b false])
def M100 (n : Nat) (τs : List T) : Option (List T) := match τs with
  | [x0, x1, x2] => F100 n x0 x1 x2
  | _ => none
noncomputable def code100 : List (Nat × Func) := [(100, Go.Proofs.Try.f100)]
def env100 : List (Nat × (Sig × Mean)) := []
def ann100 (f i : Nat) : Ann := match f, i with
  | _, _ => ⟨[], [], []⟩
def lsl100 (n : Nat) : List ((Nat × Nat) × (Nat → List LoopM)) := []
noncomputable def cf100 (n : Nat) : Cfg := ⟨tiOf tab, lookup code100, lookup env100, ann100, n⟩
theorem ev100 (n : Nat) (x0 x1 x2 : T) : evF (cf100 n) (drawK (cf100 n)) (lms2 (lsl100 n)) 3 100 sg100 [x0, x1, x2] = F100 n x0 x1 x2 := by kernel_rfl
theorem eo100 (n : Nat) : EnvOk Go.Proofs.Try.prog (tiOf tab) n 100 sg100 ⟨M100⟩ :=
  have hc : CodeOk Go.Proofs.Try.prog (cf100 n) := (code_cons Go.Proofs.Try.func100 (by kernel_rfl) code_nil)
  have he : EnvsOk Go.Proofs.Try.prog (cf100 n) := env_nil
  have hl : LmsOk (R := List T) (cf100 n) (drawK (cf100 n)) (lms2 (lsl100 n)) (lsl100 n) := lms_nil
  envOk_of (cf := cf100 n) tabOk hc he (draw := drawK (cf100 n)) (fun _ => drawK_ok tabOk mixed hc he) (d := 3) (lms := lms2 (lsl100 n)) hl
    (fun τs rs h => by
      simp only [M100] at h
      split at h
      · exact (ev100 n _ _ _).trans h
      · cases h)
/-! ### 95: spec.l1Word32 -/
def sg95 : Sig := ⟨[(false, [.int .i64])], [.leaf .bool false]⟩
def F95 (n : Nat) (x0 : T) : Option (List T) :=
  (F100 n x0 (.i 0) (.i 4294967295)).bind fun r1 => some [(r1.headD (.i 0))]
def M95 (n : Nat) (τs : List T) : Option (List T) := match τs with
  | [x0] => F95 n x0
  | _ => none
noncomputable def code95 : List (Nat × Func) := [(95, Go.Proofs.Try.f95)]
def env95 : List (Nat × (Sig × Mean)) := [(100, sg100, ⟨M100⟩)]
def ann95 (f i : Nat) : Ann := match f, i with
  | _, _ => ⟨[], [], []⟩
def lsl95 (n : Nat) : List ((Nat × Nat) × (Nat → List LoopM)) := []
noncomputable def cf95 (n : Nat) : Cfg := ⟨tiOf tab, lookup code95, lookup env95, ann95, n⟩
theorem ev95 (n : Nat) (x0 : T) : evF (cf95 n) (drawK (cf95 n)) (lms2 (lsl95 n)) 3 95 sg95 [x0] = F95 n x0 := by kernel_rfl
theorem eo95 (n : Nat) : EnvOk Go.Proofs.Try.prog (tiOf tab) n 95 sg95 ⟨M95⟩ :=
  have hc : CodeOk Go.Proofs.Try.prog (cf95 n) := (code_cons Go.Proofs.Try.func95 (by kernel_rfl) code_nil)
  have he : EnvsOk Go.Proofs.Try.prog (cf95 n) := (env_cons (eo100 n) env_nil)
  have hl : LmsOk (R := List T) (cf95 n) (drawK (cf95 n)) (lms2 (lsl95 n)) (lsl95 n) := lms_nil
  envOk_of (cf := cf95 n) tabOk hc he (draw := drawK (cf95 n)) (fun _ => drawK_ok tabOk mixed hc he) (d := 3) (lms := lms2 (lsl95 n)) hl
    (fun τs rs h => by
      simp only [M95] at h
      split at h
      · exact (ev95 n _).trans h
      · cases h)
/-! ### 96: spec.l1Gap -/
def sg96 : Sig := ⟨[(false, [.int .i64]), (false, [.int .i64])], [.leaf (.int .i64) false]⟩
def F96 (n : Nat) (x0 x1 : T) : Option (List T) :=
  some [.i ((IntKind.wrap .i64 ((IntKind.wrap .i64 (x1.I - x0.I)) + 4294967296)).tmod 4294967296)]
def M96 (n : Nat) (τs : List T) : Option (List T) := match τs with
  | [x0, x1] => F96 n x0 x1
  | _ => none
noncomputable def code96 : List (Nat × Func) := [(96, Go.Proofs.Try.f96)]
def env96 : List (Nat × (Sig × Mean)) := []
def ann96 (f i : Nat) : Ann := match f, i with
  | _, _ => ⟨[], [], []⟩
def lsl96 (n : Nat) : List ((Nat × Nat) × (Nat → List LoopM)) := []
noncomputable def cf96 (n : Nat) : Cfg := ⟨tiOf tab, lookup code96, lookup env96, ann96, n⟩
theorem ev96 (n : Nat) (x0 x1 : T) : evF (cf96 n) (drawK (cf96 n)) (lms2 (lsl96 n)) 3 96 sg96 [x0, x1] = F96 n x0 x1 := by kernel_rfl
theorem eo96 (n : Nat) : EnvOk Go.Proofs.Try.prog (tiOf tab) n 96 sg96 ⟨M96⟩ :=
  have hc : CodeOk Go.Proofs.Try.prog (cf96 n) := (code_cons Go.Proofs.Try.func96 (by kernel_rfl) code_nil)
  have he : EnvsOk Go.Proofs.Try.prog (cf96 n) := env_nil
  have hl : LmsOk (R := List T) (cf96 n) (drawK (cf96 n)) (lms2 (lsl96 n)) (lsl96 n) := lms_nil
  envOk_of (cf := cf96 n) tabOk hc he (draw := drawK (cf96 n)) (fun _ => drawK_ok tabOk mixed hc he) (d := 3) (lms := lms2 (lsl96 n)) hl
    (fun τs rs h => by
      simp only [M96] at h
      split at h
      · exact (ev96 n _ _).trans h
      · cases h)
/-! ### 97: spec.l5DataFault -/
def sg97 : Sig := ⟨[(false, [.box 132])], [.leaf (.int .i64) false]⟩
def F97 (n : Nat) (x0 : T) : Option (List T) :=
  (F95 n (x0.F 0)).bind fun r1 => bif (!(r1.headD (.i 0)).B) then (some [.i 3]) else ((F100 n (x0.F 1) (.i 0) (.i 9)).bind fun r2 => bif (!(r2.headD (.i 0)).B) then (some [.i 3]) else ((F100 n (x0.F 2) (.i 0) (.i 65535)).bind fun r3 => bif (!(r3.headD (.i 0)).B) then (some [.i 3]) else (bif (decide (((((x0.F 6).L).length : Nat) : Int) < 1)) then (some [.i 2]) else (bif (decide (((((x0.F 6).L).length : Nat) : Int) > 100)) then (some [.i 2]) else (bif (x0.F 5).B then (bif ((x0.F 2).I != 0) then (some [.i 1]) else (some [.i 0])) else (some [.i 0]))))))
def M97 (n : Nat) (τs : List T) : Option (List T) := match τs with
  | [x0] => F97 n x0
  | _ => none
noncomputable def code97 : List (Nat × Func) := [(97, Go.Proofs.Try.f97)]
def env97 : List (Nat × (Sig × Mean)) := [(95, sg95, ⟨M95⟩), (100, sg100, ⟨M100⟩)]
def ann97 (f i : Nat) : Ann := match f, i with
  | _, _ => ⟨[], [], []⟩
def lsl97 (n : Nat) : List ((Nat × Nat) × (Nat → List LoopM)) := []
noncomputable def cf97 (n : Nat) : Cfg := ⟨tiOf tab, lookup code97, lookup env97, ann97, n⟩
theorem ev97 (n : Nat) (x0 : T) : evF (cf97 n) (drawK (cf97 n)) (lms2 (lsl97 n)) 3 97 sg97 [x0] = F97 n x0 := by kernel_rfl
theorem eo97 (n : Nat) : EnvOk Go.Proofs.Try.prog (tiOf tab) n 97 sg97 ⟨M97⟩ :=
  have hc : CodeOk Go.Proofs.Try.prog (cf97 n) := (code_cons Go.Proofs.Try.func97 (by kernel_rfl) code_nil)
  have he : EnvsOk Go.Proofs.Try.prog (cf97 n) := (env_cons (eo95 n) (env_cons (eo100 n) env_nil))
  have hl : LmsOk (R := List T) (cf97 n) (drawK (cf97 n)) (lms2 (lsl97 n)) (lsl97 n) := lms_nil
  envOk_of (cf := cf97 n) tabOk hc he (draw := drawK (cf97 n)) (fun _ => drawK_ok tabOk mixed hc he) (d := 3) (lms := lms2 (lsl97 n)) hl
    (fun τs rs h => by
      simp only [M97] at h
      split at h
      · exact (ev97 n _).trans h
      · cases h)
/-! ### 98: spec.l1Less -/
def sg98 : Sig := ⟨[(false, [.int .i64]), (false, [.int .i64])], [.leaf .bool false]⟩
def F98 (n : Nat) (x0 x1 : T) : Option (List T) :=
  (F96 n x0 x1).bind fun r1 => (F100 n (r1.headD (.i 0)) (.i 1) (.i 2147483647)).bind fun r2 => some [(r2.headD (.i 0))]
def M98 (n : Nat) (τs : List T) : Option (List T) := match τs with
  | [x0, x1] => F98 n x0 x1
  | _ => none
noncomputable def code98 : List (Nat × Func) := [(98, Go.Proofs.Try.f98)]
def env98 : List (Nat × (Sig × Mean)) := [(96, sg96, ⟨M96⟩), (100, sg100, ⟨M100⟩)]
def ann98 (f i : Nat) : Ann := match f, i with
  | _, _ => ⟨[], [], []⟩
def lsl98 (n : Nat) : List ((Nat × Nat) × (Nat → List LoopM)) := []
noncomputable def cf98 (n : Nat) : Cfg := ⟨tiOf tab, lookup code98, lookup env98, ann98, n⟩
theorem ev98 (n : Nat) (x0 x1 : T) : evF (cf98 n) (drawK (cf98 n)) (lms2 (lsl98 n)) 3 98 sg98 [x0, x1] = F98 n x0 x1 := by kernel_rfl
theorem eo98 (n : Nat) : EnvOk Go.Proofs.Try.prog (tiOf tab) n 98 sg98 ⟨M98⟩ :=
  have hc : CodeOk Go.Proofs.Try.prog (cf98 n) := (code_cons Go.Proofs.Try.func98 (by kernel_rfl) code_nil)
  have he : EnvsOk Go.Proofs.Try.prog (cf98 n) := (env_cons (eo96 n) (env_cons (eo100 n) env_nil))
  have hl : LmsOk (R := List T) (cf98 n) (drawK (cf98 n)) (lms2 (lsl98 n)) (lsl98 n) := lms_nil
  envOk_of (cf := cf98 n) tabOk hc he (draw := drawK (cf98 n)) (fun _ => drawK_ok tabOk mixed hc he) (d := 3) (lms := lms2 (lsl98 n)) hl
    (fun τs rs h => by
      simp only [M98] at h
      split at h
      · exact (ev98 n _ _).trans h
      · cases h)
/-! ### 99: spec.l1Has -/
def sg99 : Sig := ⟨[(false, [.slice 2]), (false, [.int .i64])], [.leaf .bool false]⟩
def G99_99_2 {R : Type} (n : Nat) (v : List T) (self : List T → Option R) (ex : List (List T → Option R)) : Option R :=
  bif (decide ((v.getD 2 (.i 0)).I < ((((v.getD 0 (.i 0)).L).length : Nat) : Int))) then (if 0 ≤ (v.getD 2 (.i 0)).I ∧ (v.getD 2 (.i 0)).I < (((v.getD 0 (.i 0)).L).length : Int) then (bif ((at_ ((v.getD 0 (.i 0)).L) ((v.getD 2 (.i 0)).I)).I == (v.getD 1 (.i 0)).I) then (exn ex 0 [.b true]) else (self [.l ((v.getD 0 (.i 0)).L), .i ((v.getD 1 (.i 0)).I), .i (IntKind.wrap .i64 ((v.getD 2 (.i 0)).I + 1))])) else none) else (exn ex 1 [])
def L99_99_2 (n : Nat) : LoopM := ⟨⟨[[.t (.slice 2) (.i 0), .t (.int .i64) (.i 0), .un, .un, .un, .t (.int .i64) (.i 0), .un, .un, .un, .un, .un, .un, .un, .un, .un, .un, .un, .un]], []⟩, [(.ret, ⟨[[.un, .un, .un, .un, .t .bool (.i 0), .un, .un, .un, .un, .un, .un, .un, .un, .un, .un, .un, .un, .un]], []⟩), (.exit 0, ⟨[[.un, .un, .un, .un, .un, .un, .un, .un, .un, .un, .un, .un, .un, .un, .un, .un, .un, .un]], []⟩)], fun v self ex => G99_99_2 n v self ex⟩
def F99 (n : Nat) (x0 x1 : T) : Option (List T) :=
  loopR (L99_99_2 n).G n [.l x0.L, .i x1.I, .i 0] [fun u1 => some [.b ((u1.getD 0 (.i 0)).B)], fun u2 => some [.b false]]
def M99 (n : Nat) (τs : List T) : Option (List T) := match τs with
  | [x0, x1] => F99 n x0 x1
  | _ => none
noncomputable def code99 : List (Nat × Func) := [(99, Go.Proofs.Try.f99)]
def env99 : List (Nat × (Sig × Mean)) := []
def ann99 (f i : Nat) : Ann := match f, i with
  | 99, 2 => ⟨[(0, .any), (1, .any), (5, .any)], [], [(4, .any)]⟩
  | _, _ => ⟨[], [], []⟩
def lm99_99 (n : Nat) (i : Nat) : List LoopM := match i with
  | 2 => [L99_99_2 n]
  | _ => []
def lsl99 (n : Nat) : List ((Nat × Nat) × (Nat → List LoopM)) := [((3, 99), lm99_99 n)]
noncomputable def cf99 (n : Nat) : Cfg := ⟨tiOf tab, lookup code99, lookup env99, ann99, n⟩
theorem ev99 (n : Nat) (x0 x1 : T) : evF (cf99 n) (drawK (cf99 n)) (lms2 (lsl99 n)) 3 99 sg99 [x0, x1] = F99 n x0 x1 := by kernel_rfl
theorem lp99_99_2 (n : Nat) (K : Ex → St → Option (List T)) (self : List T → Option (List T)) (v : List T) : evC (cf99 n) (callK (cf99 n) (drawK (cf99 n)) (lms2 (lsl99 n)) 3) (drawK (cf99 n) (callK (cf99 n) (drawK (cf99 n)) (lms2 (lsl99 n)) 3)) (ann99 99) (lm99_99 n) (bodyOf Go.Proofs.Try.f99 2) ((L99_99_2 n).sk.fill v) (roundK (ann99 99 2) K (selfK (L99_99_2 n) self)) = (L99_99_2 n).G v self (exitK (L99_99_2 n) K) := by kernel_rfl
theorem eo99 (n : Nat) : EnvOk Go.Proofs.Try.prog (tiOf tab) n 99 sg99 ⟨M99⟩ :=
  have hc : CodeOk Go.Proofs.Try.prog (cf99 n) := (code_cons Go.Proofs.Try.func99 (by kernel_rfl) code_nil)
  have he : EnvsOk Go.Proofs.Try.prog (cf99 n) := env_nil
  have hl : LmsOk (R := List T) (cf99 n) (drawK (cf99 n)) (lms2 (lsl99 n)) (lsl99 n) := (lms_cons (loops_of (cf := cf99 n) (fn0 := Go.Proofs.Try.f99) rfl (l := [bodyOf Go.Proofs.Try.f99 2]) (by kernel_rfl) (loops_cons (b := bodyOf Go.Proofs.Try.f99 2) (by kernel_rfl) (rfl : lm99_99 n 2 = [L99_99_2 n]) (List.forall_mem_cons.2 ⟨fun K self v => lp99_99_2 n K self v, fun _ h => by cases h⟩) loops_nil)) lms_nil)
  envOk_of (cf := cf99 n) tabOk hc he (draw := drawK (cf99 n)) (fun _ => drawK_ok tabOk mixed hc he) (d := 3) (lms := lms2 (lsl99 n)) hl
    (fun τs rs h => by
      simp only [M99] at h
      split at h
      · exact (ev99 n _ _).trans h
      · cases h)
/-! ### 14: spec.RecvFault -/
def sg14 : Sig := ⟨[(true, [.int .i64, .slice 2, .slice 132, .slice 2])], [.leaf (.int .i64) false]⟩
def G14_14_26 {R : Type} (n : Nat) (v : List T) (self : List T → Option R) (ex : List (List T → Option R)) : Option R :=
  bif (decide ((v.getD 0 (.i 0)).I < ((((v.getD 4 (.i 0)).L).length : Nat) : Int))) then (if 0 ≤ (v.getD 0 (.i 0)).I ∧ (v.getD 0 (.i 0)).I < (((v.getD 4 (.i 0)).L).length : Int) then ((F100 n (at_ ((v.getD 4 (.i 0)).L) ((v.getD 0 (.i 0)).I)) (.i 0) (.i 65535)).bind fun r16 => bif (!(r16.headD (.i 0)).B) then (exn ex 0 [.i 3]) else (self [.i (IntKind.wrap .i64 ((v.getD 0 (.i 0)).I + 1)), .i ((v.getD 1 (.i 0)).I), .l ((v.getD 2 (.i 0)).L), .l ((v.getD 3 (.i 0)).L), .l ((v.getD 4 (.i 0)).L)])) else none) else (exn ex 1 [])
def L14_14_26 (n : Nat) : LoopM := ⟨⟨[[.un, .pb 0 0, .un, .un, .un, .un, .un, .un, .t (.int .i64) (.i 0), .un, .un, .un, .un, .un, .un, .un, .un, .un, .un, .un, .un, .un, .un, .un, .un, .un, .un, .un, .un, .un, .un, .un, .un, .un, .un, .un, .un, .un, .un, .un, .un, .un, .un, .un, .un, .un, .un, .un, .un, .un, .un, .un, .un, .un, .un, .un, .un, .un, .un, .un, .un, .un, .un, .un, .un, .un, .un, .un, .un, .un, .un, .un, .un, .un, .un, .un, .un, .un, .un, .un, .un, .un, .un, .un, .un, .un, .un, .un, .un, .un, .un, .un, .un, .un, .un, .un, .un, .un, .un, .un, .un, .un, .un, .un, .un, .un, .un, .un, .un, .un, .un, .un, .un, .un, .un, .un, .un, .un, .un, .un, .un, .un, .un, .un, .un, .un, .un, .un]], [.box [.t (.int .i64) (.i 0), .t (.slice 2) (.i 0), .t (.slice 132) (.i 0), .t (.slice 2) (.i 0)]]⟩, [(.ret, ⟨[[.un, .un, .t (.int .i64) (.i 0), .un, .un, .un, .un, .un, .un, .un, .un, .un, .un, .un, .un, .un, .un, .un, .un, .un, .un, .un, .un, .un, .un, .un, .un, .un, .un, .un, .un, .un, .un, .un, .un, .un, .un, .un, .un, .un, .un, .un, .un, .un, .un, .un, .un, .un, .un, .un, .un, .un, .un, .un, .un, .un, .un, .un, .un, .un, .un, .un, .un, .un, .un, .un, .un, .un, .un, .un, .un, .un, .un, .un, .un, .un, .un, .un, .un, .un, .un, .un, .un, .un, .un, .un, .un, .un, .un, .un, .un, .un, .un, .un, .un, .un, .un, .un, .un, .un, .un, .un, .un, .un, .un, .un, .un, .un, .un, .un, .un, .un, .un, .un, .un, .un, .un, .un, .un, .un, .un, .un, .un, .un, .un, .un, .un, .un]], []⟩), (.exit 4, ⟨[[.un, .un, .un, .un, .un, .un, .un, .un, .un, .un, .un, .un, .un, .un, .un, .un, .un, .un, .un, .un, .un, .un, .un, .un, .un, .un, .un, .un, .un, .un, .un, .un, .un, .un, .un, .un, .un, .un, .un, .un, .un, .un, .un, .un, .un, .un, .un, .un, .un, .un, .un, .un, .un, .un, .un, .un, .un, .un, .un, .un, .un, .un, .un, .un, .un, .un, .un, .un, .un, .un, .un, .un, .un, .un, .un, .un, .un, .un, .un, .un, .un, .un, .un, .un, .un, .un, .un, .un, .un, .un, .un, .un, .un, .un, .un, .un, .un, .un, .un, .un, .un, .un, .un, .un, .un, .un, .un, .un, .un, .un, .un, .un, .un, .un, .un, .un, .un, .un, .un, .un, .un, .un, .un, .un, .un, .un, .un, .un]], []⟩)], fun v self ex => G14_14_26 n v self ex⟩
def G14_14_7 {R : Type} (n : Nat) (v : List T) (self : List T → Option R) (ex : List (List T → Option R)) : Option R :=
  bif (decide ((v.getD 1 (.i 0)).I < ((((v.getD 3 (.i 0)).L).length : Nat) : Int))) then (if 0 ≤ (v.getD 1 (.i 0)).I ∧ (v.getD 1 (.i 0)).I < (((v.getD 3 (.i 0)).L).length : Int) then ((F95 n (at_ ((v.getD 3 (.i 0)).L) ((v.getD 1 (.i 0)).I))).bind fun r2 => bif (!(r2.headD (.i 0)).B) then (exn ex 0 [.i 3, .i ((v.getD 2 (.i 0)).I), .l ((v.getD 3 (.i 0)).L), .l ((v.getD 4 (.i 0)).L), .l ((v.getD 5 (.i 0)).L)]) else (if 0 ≤ (v.getD 1 (.i 0)).I ∧ (v.getD 1 (.i 0)).I < (((v.getD 3 (.i 0)).L).length : Int) then ((F96 n (.i ((v.getD 2 (.i 0)).I)) (at_ ((v.getD 3 (.i 0)).L) ((v.getD 1 (.i 0)).I))).bind fun r3 => bif (decide ((r3.headD (.i 0)).I > 16)) then (exn ex 0 [.i 1, .i ((v.getD 2 (.i 0)).I), .l ((v.getD 3 (.i 0)).L), .l ((v.getD 4 (.i 0)).L), .l ((v.getD 5 (.i 0)).L)]) else (bif (decide ((r3.headD (.i 0)).I ≤ (v.getD 0 (.i 0)).I)) then (exn ex 0 [.i 1, .i ((v.getD 2 (.i 0)).I), .l ((v.getD 3 (.i 0)).L), .l ((v.getD 4 (.i 0)).L), .l ((v.getD 5 (.i 0)).L)]) else (self [.i ((r3.headD (.i 0)).I), .i (IntKind.wrap .i64 ((v.getD 1 (.i 0)).I + 1)), .i ((v.getD 2 (.i 0)).I), .l ((v.getD 3 (.i 0)).L), .l ((v.getD 4 (.i 0)).L), .l ((v.getD 5 (.i 0)).L)]))) else none)) else none) else (exn ex 1 [.i ((v.getD 2 (.i 0)).I), .l ((v.getD 3 (.i 0)).L), .l ((v.getD 4 (.i 0)).L), .l ((v.getD 5 (.i 0)).L)])
def L14_14_7 (n : Nat) : LoopM := ⟨⟨[[.un, .pb 0 0, .un, .t (.int .i64) (.i 0), .t (.int .i64) (.i 0), .un, .un, .un, .un, .un, .un, .un, .un, .un, .un, .un, .un, .un, .un, .un, .un, .un, .un, .un, .un, .un, .un, .un, .un, .un, .un, .un, .un, .un, .un, .un, .un, .un, .un, .un, .un, .un, .un, .un, .un, .un, .un, .un, .un, .un, .un, .un, .un, .un, .un, .un, .un, .un, .un, .un, .un, .un, .un, .un, .un, .un, .un, .un, .un, .un, .un, .un, .un, .un, .un, .un, .un, .un, .un, .un, .un, .un, .un, .un, .un, .un, .un, .un, .un, .un, .un, .un, .un, .un, .un, .un, .un, .un, .un, .un, .un, .un, .un, .un, .un, .un, .un, .un, .un, .un, .un, .un, .un, .un, .un, .un, .un, .un, .un, .un, .un, .un, .un, .un, .un, .un, .un, .un]], [.box [.t (.int .i64) (.i 0), .t (.slice 2) (.i 0), .t (.slice 132) (.i 0), .t (.slice 2) (.i 0)]]⟩, [(.ret, ⟨[[.un, .pb 0 0, .t (.int .i64) (.i 0), .un, .un, .un, .un, .un, .un, .un, .un, .un, .un, .un, .un, .un, .un, .un, .un, .un, .un, .un, .un, .un, .un, .un, .un, .un, .un, .un, .un, .un, .un, .un, .un, .un, .un, .un, .un, .un, .un, .un, .un, .un, .un, .un, .un, .un, .un, .un, .un, .un, .un, .un, .un, .un, .un, .un, .un, .un, .un, .un, .un, .un, .un, .un, .un, .un, .un, .un, .un, .un, .un, .un, .un, .un, .un, .un, .un, .un, .un, .un, .un, .un, .un, .un, .un, .un, .un, .un, .un, .un, .un, .un, .un, .un, .un, .un, .un, .un, .un, .un, .un, .un, .un, .un, .un, .un, .un, .un, .un, .un, .un, .un, .un, .un, .un, .un, .un, .un, .un, .un, .un, .un, .un, .un, .un, .un]], [.box [.t (.int .i64) (.i 0), .t (.slice 2) (.i 0), .t (.slice 132) (.i 0), .t (.slice 2) (.i 0)]]⟩), (.exit 0, ⟨[[.un, .pb 0 0, .un, .un, .un, .un, .un, .un, .un, .un, .un, .un, .un, .un, .un, .un, .un, .un, .un, .un, .un, .un, .un, .un, .un, .un, .un, .un, .un, .un, .un, .un, .un, .un, .un, .un, .un, .un, .un, .un, .un, .un, .un, .un, .un, .un, .un, .un, .un, .un, .un, .un, .un, .un, .un, .un, .un, .un, .un, .un, .un, .un, .un, .un, .un, .un, .un, .un, .un, .un, .un, .un, .un, .un, .un, .un, .un, .un, .un, .un, .un, .un, .un, .un, .un, .un, .un, .un, .un, .un, .un, .un, .un, .un, .un, .un, .un, .un, .un, .un, .un, .un, .un, .un, .un, .un, .un, .un, .un, .un, .un, .un, .un, .un, .un, .un, .un, .un, .un, .un, .un, .un, .un, .un, .un, .un, .un, .un]], [.box [.t (.int .i64) (.i 0), .t (.slice 2) (.i 0), .t (.slice 132) (.i 0), .t (.slice 2) (.i 0)]]⟩)], fun v self ex => G14_14_7 n v self ex⟩
def G14_14_16 {R : Type} (n : Nat) (v : List T) (self : List T → Option R) (ex : List (List T → Option R)) : Option R :=
  bif (decide ((v.getD 0 (.i 0)).I < ((((v.getD 3 (.i 0)).L).length : Nat) : Int))) then (if 0 ≤ (v.getD 0 (.i 0)).I ∧ (v.getD 0 (.i 0)).I < (((v.getD 3 (.i 0)).L).length : Int) then ((F97 n (at_ ((v.getD 3 (.i 0)).L) ((v.getD 0 (.i 0)).I))).bind fun r6 => bif ((r6.headD (.i 0)).I != 0) then (exn ex 0 [.i ((r6.headD (.i 0)).I), .i ((v.getD 1 (.i 0)).I), .l ((v.getD 2 (.i 0)).L), .l ((v.getD 3 (.i 0)).L), .l ((v.getD 4 (.i 0)).L)]) else (bif (decide ((v.getD 0 (.i 0)).I > 0)) then (if 0 ≤ (IntKind.wrap .i64 ((v.getD 0 (.i 0)).I - 1)) ∧ (IntKind.wrap .i64 ((v.getD 0 (.i 0)).I - 1)) < (((v.getD 3 (.i 0)).L).length : Int) then (if 0 ≤ (v.getD 0 (.i 0)).I ∧ (v.getD 0 (.i 0)).I < (((v.getD 3 (.i 0)).L).length : Int) then ((F98 n ((at_ ((v.getD 3 (.i 0)).L) (IntKind.wrap .i64 ((v.getD 0 (.i 0)).I - 1))).F 0) ((at_ ((v.getD 3 (.i 0)).L) ((v.getD 0 (.i 0)).I)).F 0)).bind fun r7 => bif (decide ((v.getD 0 (.i 0)).I > 0)) then (bif (!(r7.headD (.i 0)).B) then (exn ex 0 [.i 1, .i ((v.getD 1 (.i 0)).I), .l ((v.getD 2 (.i 0)).L), .l ((v.getD 3 (.i 0)).L), .l ((v.getD 4 (.i 0)).L)]) else (if 0 ≤ (v.getD 0 (.i 0)).I ∧ (v.getD 0 (.i 0)).I < (((v.getD 3 (.i 0)).L).length : Int) then ((F98 n (.i ((v.getD 1 (.i 0)).I)) ((at_ ((v.getD 3 (.i 0)).L) ((v.getD 0 (.i 0)).I)).F 0)).bind fun r8 => bif (r8.headD (.i 0)).B then (if 0 ≤ (v.getD 0 (.i 0)).I ∧ (v.getD 0 (.i 0)).I < (((v.getD 3 (.i 0)).L).length : Int) then ((F99 n (.l ((v.getD 2 (.i 0)).L)) ((at_ ((v.getD 3 (.i 0)).L) ((v.getD 0 (.i 0)).I)).F 0)).bind fun r9 => bif (r8.headD (.i 0)).B then (bif (!(r9.headD (.i 0)).B) then (exn ex 0 [.i 8, .i ((v.getD 1 (.i 0)).I), .l ((v.getD 2 (.i 0)).L), .l ((v.getD 3 (.i 0)).L), .l ((v.getD 4 (.i 0)).L)]) else (self [.i (IntKind.wrap .i64 ((v.getD 0 (.i 0)).I + 1)), .i ((v.getD 1 (.i 0)).I), .l ((v.getD 2 (.i 0)).L), .l ((v.getD 3 (.i 0)).L), .l ((v.getD 4 (.i 0)).L)])) else (self [.i (IntKind.wrap .i64 ((v.getD 0 (.i 0)).I + 1)), .i ((v.getD 1 (.i 0)).I), .l ((v.getD 2 (.i 0)).L), .l ((v.getD 3 (.i 0)).L), .l ((v.getD 4 (.i 0)).L)])) else none) else (bif (r8.headD (.i 0)).B then none else (self [.i (IntKind.wrap .i64 ((v.getD 0 (.i 0)).I + 1)), .i ((v.getD 1 (.i 0)).I), .l ((v.getD 2 (.i 0)).L), .l ((v.getD 3 (.i 0)).L), .l ((v.getD 4 (.i 0)).L)]))) else none)) else (if 0 ≤ (v.getD 0 (.i 0)).I ∧ (v.getD 0 (.i 0)).I < (((v.getD 3 (.i 0)).L).length : Int) then ((F98 n (.i ((v.getD 1 (.i 0)).I)) ((at_ ((v.getD 3 (.i 0)).L) ((v.getD 0 (.i 0)).I)).F 0)).bind fun r10 => bif (r10.headD (.i 0)).B then (if 0 ≤ (v.getD 0 (.i 0)).I ∧ (v.getD 0 (.i 0)).I < (((v.getD 3 (.i 0)).L).length : Int) then ((F99 n (.l ((v.getD 2 (.i 0)).L)) ((at_ ((v.getD 3 (.i 0)).L) ((v.getD 0 (.i 0)).I)).F 0)).bind fun r11 => bif (r10.headD (.i 0)).B then (bif (!(r11.headD (.i 0)).B) then (exn ex 0 [.i 8, .i ((v.getD 1 (.i 0)).I), .l ((v.getD 2 (.i 0)).L), .l ((v.getD 3 (.i 0)).L), .l ((v.getD 4 (.i 0)).L)]) else (self [.i (IntKind.wrap .i64 ((v.getD 0 (.i 0)).I + 1)), .i ((v.getD 1 (.i 0)).I), .l ((v.getD 2 (.i 0)).L), .l ((v.getD 3 (.i 0)).L), .l ((v.getD 4 (.i 0)).L)])) else (self [.i (IntKind.wrap .i64 ((v.getD 0 (.i 0)).I + 1)), .i ((v.getD 1 (.i 0)).I), .l ((v.getD 2 (.i 0)).L), .l ((v.getD 3 (.i 0)).L), .l ((v.getD 4 (.i 0)).L)])) else none) else (bif (r10.headD (.i 0)).B then none else (self [.i (IntKind.wrap .i64 ((v.getD 0 (.i 0)).I + 1)), .i ((v.getD 1 (.i 0)).I), .l ((v.getD 2 (.i 0)).L), .l ((v.getD 3 (.i 0)).L), .l ((v.getD 4 (.i 0)).L)]))) else none)) else none) else none) else (bif (decide ((v.getD 0 (.i 0)).I > 0)) then none else (if 0 ≤ (v.getD 0 (.i 0)).I ∧ (v.getD 0 (.i 0)).I < (((v.getD 3 (.i 0)).L).length : Int) then ((F98 n (.i ((v.getD 1 (.i 0)).I)) ((at_ ((v.getD 3 (.i 0)).L) ((v.getD 0 (.i 0)).I)).F 0)).bind fun r12 => bif (r12.headD (.i 0)).B then (if 0 ≤ (v.getD 0 (.i 0)).I ∧ (v.getD 0 (.i 0)).I < (((v.getD 3 (.i 0)).L).length : Int) then ((F99 n (.l ((v.getD 2 (.i 0)).L)) ((at_ ((v.getD 3 (.i 0)).L) ((v.getD 0 (.i 0)).I)).F 0)).bind fun r13 => bif (r12.headD (.i 0)).B then (bif (!(r13.headD (.i 0)).B) then (exn ex 0 [.i 8, .i ((v.getD 1 (.i 0)).I), .l ((v.getD 2 (.i 0)).L), .l ((v.getD 3 (.i 0)).L), .l ((v.getD 4 (.i 0)).L)]) else (self [.i (IntKind.wrap .i64 ((v.getD 0 (.i 0)).I + 1)), .i ((v.getD 1 (.i 0)).I), .l ((v.getD 2 (.i 0)).L), .l ((v.getD 3 (.i 0)).L), .l ((v.getD 4 (.i 0)).L)])) else (self [.i (IntKind.wrap .i64 ((v.getD 0 (.i 0)).I + 1)), .i ((v.getD 1 (.i 0)).I), .l ((v.getD 2 (.i 0)).L), .l ((v.getD 3 (.i 0)).L), .l ((v.getD 4 (.i 0)).L)])) else none) else (bif (r12.headD (.i 0)).B then none else (self [.i (IntKind.wrap .i64 ((v.getD 0 (.i 0)).I + 1)), .i ((v.getD 1 (.i 0)).I), .l ((v.getD 2 (.i 0)).L), .l ((v.getD 3 (.i 0)).L), .l ((v.getD 4 (.i 0)).L)]))) else none)))) else none) else (exn ex 1 [.i ((v.getD 1 (.i 0)).I), .l ((v.getD 2 (.i 0)).L), .l ((v.getD 3 (.i 0)).L), .l ((v.getD 4 (.i 0)).L)])
def L14_14_16 (n : Nat) : LoopM := ⟨⟨[[.un, .pb 0 0, .un, .un, .un, .un, .t (.int .i64) (.i 0), .un, .un, .un, .un, .un, .un, .un, .un, .un, .un, .un, .un, .un, .un, .un, .un, .un, .un, .un, .un, .un, .un, .un, .un, .un, .un, .un, .un, .un, .un, .un, .un, .un, .un, .un, .un, .un, .un, .un, .un, .un, .un, .un, .un, .un, .un, .un, .un, .un, .un, .un, .un, .un, .un, .un, .un, .un, .un, .un, .un, .un, .un, .un, .un, .un, .un, .un, .un, .un, .un, .un, .un, .un, .un, .un, .un, .un, .un, .un, .un, .un, .un, .un, .un, .un, .un, .un, .un, .un, .un, .un, .un, .un, .un, .un, .un, .un, .un, .un, .un, .un, .un, .un, .un, .un, .un, .un, .un, .un, .un, .un, .un, .un, .un, .un, .un, .un, .un, .un, .un, .un]], [.box [.t (.int .i64) (.i 0), .t (.slice 2) (.i 0), .t (.slice 132) (.i 0), .t (.slice 2) (.i 0)]]⟩, [(.ret, ⟨[[.un, .pb 0 0, .t (.int .i64) (.i 0), .un, .un, .un, .un, .un, .un, .un, .un, .un, .un, .un, .un, .un, .un, .un, .un, .un, .un, .un, .un, .un, .un, .un, .un, .un, .un, .un, .un, .un, .un, .un, .un, .un, .un, .un, .un, .un, .un, .un, .un, .un, .un, .un, .un, .un, .un, .un, .un, .un, .un, .un, .un, .un, .un, .un, .un, .un, .un, .un, .un, .un, .un, .un, .un, .un, .un, .un, .un, .un, .un, .un, .un, .un, .un, .un, .un, .un, .un, .un, .un, .un, .un, .un, .un, .un, .un, .un, .un, .un, .un, .un, .un, .un, .un, .un, .un, .un, .un, .un, .un, .un, .un, .un, .un, .un, .un, .un, .un, .un, .un, .un, .un, .un, .un, .un, .un, .un, .un, .un, .un, .un, .un, .un, .un, .un]], [.box [.t (.int .i64) (.i 0), .t (.slice 2) (.i 0), .t (.slice 132) (.i 0), .t (.slice 2) (.i 0)]]⟩), (.exit 2, ⟨[[.un, .pb 0 0, .un, .un, .un, .un, .un, .un, .un, .un, .un, .un, .un, .un, .un, .un, .un, .un, .un, .un, .un, .un, .un, .un, .un, .un, .un, .un, .un, .un, .un, .un, .un, .un, .un, .un, .un, .un, .un, .un, .un, .un, .un, .un, .un, .un, .un, .un, .un, .un, .un, .un, .un, .un, .un, .un, .un, .un, .un, .un, .un, .un, .un, .un, .un, .un, .un, .un, .un, .un, .un, .un, .un, .un, .un, .un, .un, .un, .un, .un, .un, .un, .un, .un, .un, .un, .un, .un, .un, .un, .un, .un, .un, .un, .un, .un, .un, .un, .un, .un, .un, .un, .un, .un, .un, .un, .un, .un, .un, .un, .un, .un, .un, .un, .un, .un, .un, .un, .un, .un, .un, .un, .un, .un, .un, .un, .un, .un]], [.box [.t (.int .i64) (.i 0), .t (.slice 2) (.i 0), .t (.slice 132) (.i 0), .t (.slice 2) (.i 0)]]⟩)], fun v self ex => G14_14_16 n v self ex⟩
def F14 (n : Nat) (x0 x1 x2 x3 : T) : Option (List T) :=
  (F95 n x0).bind fun r1 => bif (!(r1.headD (.i 0)).B) then (some [.i 3]) else (bif (decide ((x1.L.length : Int) > 16)) then (some [.i 2]) else (bif (decide ((x2.L.length : Int) > 64)) then (some [.i 2]) else (bif ((x3.L.length : Int) != 10) then (some [.i 2]) else (loopR (L14_14_7 n).G n [.i 1, .i 0, .i x0.I, .l x1.L, .l x2.L, .l x3.L] [fun u4 => some [.i ((u4.getD 0 (.i 0)).I)], fun u5 => loopR (L14_14_16 n).G n [.i 0, .i ((u5.getD 0 (.i 0)).I), .l ((u5.getD 1 (.i 0)).L), .l ((u5.getD 2 (.i 0)).L), .l ((u5.getD 3 (.i 0)).L)] [fun u14 => some [.i ((u14.getD 0 (.i 0)).I)], fun u15 => loopR (L14_14_26 n).G n [.i 0, .i ((u15.getD 0 (.i 0)).I), .l ((u15.getD 1 (.i 0)).L), .l ((u15.getD 2 (.i 0)).L), .l ((u15.getD 3 (.i 0)).L)] [fun u17 => some [.i ((u17.getD 0 (.i 0)).I)], fun u18 => some [.i 0]]]]))))
def M14 (n : Nat) (τs : List T) : Option (List T) := match τs with
  | [x0, x1, x2, x3] => F14 n x0 x1 x2 x3
  | _ => none
noncomputable def code14 : List (Nat × Func) := [(14, Go.Proofs.Try.f14)]
def env14 : List (Nat × (Sig × Mean)) := [(95, sg95, ⟨M95⟩), (96, sg96, ⟨M96⟩), (97, sg97, ⟨M97⟩), (98, sg98, ⟨M98⟩), (99, sg99, ⟨M99⟩), (100, sg100, ⟨M100⟩)]
def ann14 (f i : Nat) : Ann := match f, i with
  | 14, 7 => ⟨[(1, .any), (3, .any), (4, .any)], [], [(1, .any), (2, .any)]⟩
  | 14, 16 => ⟨[(1, .any), (6, .any)], [], [(1, .any), (2, .any)]⟩
  | 14, 26 => ⟨[(1, .any), (8, .any)], [], [(2, .any)]⟩
  | _, _ => ⟨[], [], []⟩
def lm14_14 (n : Nat) (i : Nat) : List LoopM := match i with
  | 7 => [L14_14_7 n]
  | 16 => [L14_14_16 n]
  | 26 => [L14_14_26 n]
  | _ => []
def lsl14 (n : Nat) : List ((Nat × Nat) × (Nat → List LoopM)) := [((3, 14), lm14_14 n)]
noncomputable def cf14 (n : Nat) : Cfg := ⟨tiOf tab, lookup code14, lookup env14, ann14, n⟩
theorem ev14 (n : Nat) (x0 x1 x2 x3 : T) : evF (cf14 n) (drawK (cf14 n)) (lms2 (lsl14 n)) 3 14 sg14 [x0, x1, x2, x3] = F14 n x0 x1 x2 x3 := by kernel_rfl
theorem lp14_14_26 (n : Nat) (K : Ex → St → Option (List T)) (self : List T → Option (List T)) (v : List T) : evC (cf14 n) (callK (cf14 n) (drawK (cf14 n)) (lms2 (lsl14 n)) 3) (drawK (cf14 n) (callK (cf14 n) (drawK (cf14 n)) (lms2 (lsl14 n)) 3)) (ann14 14) (lm14_14 n) (bodyOf Go.Proofs.Try.f14 26) ((L14_14_26 n).sk.fill v) (roundK (ann14 14 26) K (selfK (L14_14_26 n) self)) = (L14_14_26 n).G v self (exitK (L14_14_26 n) K) := by kernel_rfl
theorem lp14_14_7 (n : Nat) (K : Ex → St → Option (List T)) (self : List T → Option (List T)) (v : List T) : evC (cf14 n) (callK (cf14 n) (drawK (cf14 n)) (lms2 (lsl14 n)) 3) (drawK (cf14 n) (callK (cf14 n) (drawK (cf14 n)) (lms2 (lsl14 n)) 3)) (ann14 14) (lm14_14 n) (bodyOf Go.Proofs.Try.f14 7) ((L14_14_7 n).sk.fill v) (roundK (ann14 14 7) K (selfK (L14_14_7 n) self)) = (L14_14_7 n).G v self (exitK (L14_14_7 n) K) := by kernel_rfl
theorem lp14_14_16 (n : Nat) (K : Ex → St → Option (List T)) (self : List T → Option (List T)) (v : List T) : evC (cf14 n) (callK (cf14 n) (drawK (cf14 n)) (lms2 (lsl14 n)) 3) (drawK (cf14 n) (callK (cf14 n) (drawK (cf14 n)) (lms2 (lsl14 n)) 3)) (ann14 14) (lm14_14 n) (bodyOf Go.Proofs.Try.f14 16) ((L14_14_16 n).sk.fill v) (roundK (ann14 14 16) K (selfK (L14_14_16 n) self)) = (L14_14_16 n).G v self (exitK (L14_14_16 n) K) := by kernel_rfl
theorem eo14 (n : Nat) : EnvOk Go.Proofs.Try.prog (tiOf tab) n 14 sg14 ⟨M14⟩ :=
  have hc : CodeOk Go.Proofs.Try.prog (cf14 n) := (code_cons Go.Proofs.Try.func14 (by kernel_rfl) code_nil)
  have he : EnvsOk Go.Proofs.Try.prog (cf14 n) := (env_cons (eo95 n) (env_cons (eo96 n) (env_cons (eo97 n) (env_cons (eo98 n) (env_cons (eo99 n) (env_cons (eo100 n) env_nil))))))
  have hl : LmsOk (R := List T) (cf14 n) (drawK (cf14 n)) (lms2 (lsl14 n)) (lsl14 n) := (lms_cons (loops_of (cf := cf14 n) (fn0 := Go.Proofs.Try.f14) rfl (l := [bodyOf Go.Proofs.Try.f14 7, bodyOf Go.Proofs.Try.f14 16, bodyOf Go.Proofs.Try.f14 26]) (by kernel_rfl) (loops_cons (b := bodyOf Go.Proofs.Try.f14 7) (by kernel_rfl) (rfl : lm14_14 n 7 = [L14_14_7 n]) (List.forall_mem_cons.2 ⟨fun K self v => lp14_14_7 n K self v, fun _ h => by cases h⟩) (loops_cons (b := bodyOf Go.Proofs.Try.f14 16) (by kernel_rfl) (rfl : lm14_14 n 16 = [L14_14_16 n]) (List.forall_mem_cons.2 ⟨fun K self v => lp14_14_16 n K self v, fun _ h => by cases h⟩) (loops_cons (b := bodyOf Go.Proofs.Try.f14 26) (by kernel_rfl) (rfl : lm14_14 n 26 = [L14_14_26 n]) (List.forall_mem_cons.2 ⟨fun K self v => lp14_14_26 n K self v, fun _ h => by cases h⟩) loops_nil)))) lms_nil)
  envOk_of (cf := cf14 n) tabOk hc he (draw := drawK (cf14 n)) (fun _ => drawK_ok tabOk mixed hc he) (d := 3) (lms := lms2 (lsl14 n)) hl
    (fun τs rs h => by
      simp only [M14] at h
      split at h
      · exact (ev14 n _ _ _ _).trans h
      · cases h)
/-! ### 101: laws.toInt64S -/
def sg101 : Sig := ⟨[(false, [.slice 2])], [.leaf (.slice 2) false]⟩
def G101_101_3 {R : Type} (n : Nat) (v : List T) (self : List T → Option R) (ex : List (List T → Option R)) : Option R :=
  bif (decide ((v.getD 1 (.i 0)).I < ((((v.getD 0 (.i 0)).L).length : Nat) : Int))) then (if 0 ≤ (v.getD 1 (.i 0)).I ∧ (v.getD 1 (.i 0)).I < (((v.getD 0 (.i 0)).L).length : Int) then (if 0 ≤ (v.getD 1 (.i 0)).I ∧ (v.getD 1 (.i 0)).I < (((v.getD 2 (.i 0)).L).length : Int) then (if 2 = 2 ∧ ((v.getD 1 (.i 0)).I).toNat < ((v.getD 2 (.i 0)).L).length then (self [.l ((v.getD 0 (.i 0)).L), .i (IntKind.wrap .i64 ((v.getD 1 (.i 0)).I + 1)), .l (((v.getD 2 (.i 0)).L).set (((v.getD 1 (.i 0)).I).toNat) ((at_ ((v.getD 0 (.i 0)).L) ((v.getD 1 (.i 0)).I))))]) else none) else none) else none) else (exn ex 0 [.l ((v.getD 2 (.i 0)).L)])
def L101_101_3 (n : Nat) : LoopM := ⟨⟨[[.t (.slice 2) (.i 0), .un, .un, .own 2 0, .t (.int .i64) (.i 0), .un, .un, .un, .un, .un, .un, .un, .un, .un, .un, .un, .un, .un, .un, .un, .un, .un]], [.arr 2 []]⟩, [(.exit 0, ⟨[[.un, .un, .un, .own 2 0, .un, .un, .un, .un, .un, .un, .un, .un, .un, .un, .un, .un, .un, .un, .un, .un, .un, .un]], [.arr 2 []]⟩)], fun v self ex => G101_101_3 n v self ex⟩
def F101 (n : Nat) (x0 : T) : Option (List T) :=
  if 0 ≤ (x0.L.length : Int) ∧ (x0.L.length : Int) * 8 ≤ limB ∧ (x0.L.length : Int) < maxN then (loopR (L101_101_3 n).G n [.l x0.L, .i 0, .l (List.replicate ((x0.L.length : Int)).toNat (T.i 0))] [fun u1 => some [.l ((u1.getD 0 (.i 0)).L)]]) else none
def M101 (n : Nat) (τs : List T) : Option (List T) := match τs with
  | [x0] => F101 n x0
  | _ => none
noncomputable def code101 : List (Nat × Func) := [(101, Go.Proofs.Try.f101)]
def env101 : List (Nat × (Sig × Mean)) := []
def ann101 (f i : Nat) : Ann := match f, i with
  | 101, 3 => ⟨[(0, .any), (3, .any), (4, .any)], [], [(3, .any)]⟩
  | _, _ => ⟨[], [], []⟩
def lm101_101 (n : Nat) (i : Nat) : List LoopM := match i with
  | 3 => [L101_101_3 n]
  | _ => []
def lsl101 (n : Nat) : List ((Nat × Nat) × (Nat → List LoopM)) := [((3, 101), lm101_101 n)]
noncomputable def cf101 (n : Nat) : Cfg := ⟨tiOf tab, lookup code101, lookup env101, ann101, n⟩
theorem ev101 (n : Nat) (x0 : T) : evF (cf101 n) (drawK (cf101 n)) (lms2 (lsl101 n)) 3 101 sg101 [x0] = F101 n x0 := by kernel_rfl
theorem lp101_101_3 (n : Nat) (K : Ex → St → Option (List T)) (self : List T → Option (List T)) (v : List T) : evC (cf101 n) (callK (cf101 n) (drawK (cf101 n)) (lms2 (lsl101 n)) 3) (drawK (cf101 n) (callK (cf101 n) (drawK (cf101 n)) (lms2 (lsl101 n)) 3)) (ann101 101) (lm101_101 n) (bodyOf Go.Proofs.Try.f101 3) ((L101_101_3 n).sk.fill v) (roundK (ann101 101 3) K (selfK (L101_101_3 n) self)) = (L101_101_3 n).G v self (exitK (L101_101_3 n) K) := by kernel_rfl
theorem eo101 (n : Nat) : EnvOk Go.Proofs.Try.prog (tiOf tab) n 101 sg101 ⟨M101⟩ :=
  have hc : CodeOk Go.Proofs.Try.prog (cf101 n) := (code_cons Go.Proofs.Try.func101 (by kernel_rfl) code_nil)
  have he : EnvsOk Go.Proofs.Try.prog (cf101 n) := env_nil
  have hl : LmsOk (R := List T) (cf101 n) (drawK (cf101 n)) (lms2 (lsl101 n)) (lsl101 n) := (lms_cons (loops_of (cf := cf101 n) (fn0 := Go.Proofs.Try.f101) rfl (l := [bodyOf Go.Proofs.Try.f101 3]) (by kernel_rfl) (loops_cons (b := bodyOf Go.Proofs.Try.f101 3) (by kernel_rfl) (rfl : lm101_101 n 3 = [L101_101_3 n]) (List.forall_mem_cons.2 ⟨fun K self v => lp101_101_3 n K self v, fun _ h => by cases h⟩) loops_nil)) lms_nil)
  envOk_of (cf := cf101 n) tabOk hc he (draw := drawK (cf101 n)) (fun _ => drawK_ok tabOk mixed hc he) (d := 3) (lms := lms2 (lsl101 n)) hl
    (fun τs rs h => by
      simp only [M101] at h
      split at h
      · exact (ev101 n _).trans h
      · cases h)
/-! ### 250: laws.toByteS -/
def sg250 : Sig := ⟨[(false, [.slice 5])], [.leaf (.slice 5) false]⟩
def G250_250_3 {R : Type} (n : Nat) (v : List T) (self : List T → Option R) (ex : List (List T → Option R)) : Option R :=
  bif (decide ((v.getD 1 (.i 0)).I < ((((v.getD 0 (.i 0)).L).length : Nat) : Int))) then (if 0 ≤ (v.getD 1 (.i 0)).I ∧ (v.getD 1 (.i 0)).I < (((v.getD 0 (.i 0)).L).length : Int) then (if 0 ≤ (v.getD 1 (.i 0)).I ∧ (v.getD 1 (.i 0)).I < (((v.getD 2 (.i 0)).L).length : Int) then (if 5 = 5 ∧ ((v.getD 1 (.i 0)).I).toNat < ((v.getD 2 (.i 0)).L).length then (self [.l ((v.getD 0 (.i 0)).L), .i (IntKind.wrap .i64 ((v.getD 1 (.i 0)).I + 1)), .l (((v.getD 2 (.i 0)).L).set (((v.getD 1 (.i 0)).I).toNat) ((at_ ((v.getD 0 (.i 0)).L) ((v.getD 1 (.i 0)).I))))]) else none) else none) else none) else (exn ex 0 [.l ((v.getD 2 (.i 0)).L)])
def L250_250_3 (n : Nat) : LoopM := ⟨⟨[[.t (.slice 5) (.i 0), .un, .un, .own 5 0, .t (.int .i64) (.i 0), .un, .un, .un, .un, .un, .un, .un, .un, .un, .un, .un, .un, .un, .un, .un, .un, .un]], [.arr 5 []]⟩, [(.exit 0, ⟨[[.un, .un, .un, .own 5 0, .un, .un, .un, .un, .un, .un, .un, .un, .un, .un, .un, .un, .un, .un, .un, .un, .un, .un]], [.arr 5 []]⟩)], fun v self ex => G250_250_3 n v self ex⟩
def F250 (n : Nat) (x0 : T) : Option (List T) :=
  if 0 ≤ (x0.L.length : Int) ∧ (x0.L.length : Int) * 1 ≤ limB ∧ (x0.L.length : Int) < maxN then (loopR (L250_250_3 n).G n [.l x0.L, .i 0, .l (List.replicate ((x0.L.length : Int)).toNat (T.i 0))] [fun u1 => some [.l ((u1.getD 0 (.i 0)).L)]]) else none
def M250 (n : Nat) (τs : List T) : Option (List T) := match τs with
  | [x0] => F250 n x0
  | _ => none
noncomputable def code250 : List (Nat × Func) := [(250, Go.Proofs.Try.f250)]
def env250 : List (Nat × (Sig × Mean)) := []
def ann250 (f i : Nat) : Ann := match f, i with
  | 250, 3 => ⟨[(0, .any), (3, .any), (4, .any)], [], [(3, .any)]⟩
  | _, _ => ⟨[], [], []⟩
def lm250_250 (n : Nat) (i : Nat) : List LoopM := match i with
  | 3 => [L250_250_3 n]
  | _ => []
def lsl250 (n : Nat) : List ((Nat × Nat) × (Nat → List LoopM)) := [((3, 250), lm250_250 n)]
noncomputable def cf250 (n : Nat) : Cfg := ⟨tiOf tab, lookup code250, lookup env250, ann250, n⟩
theorem ev250 (n : Nat) (x0 : T) : evF (cf250 n) (drawK (cf250 n)) (lms2 (lsl250 n)) 3 250 sg250 [x0] = F250 n x0 := by kernel_rfl
theorem lp250_250_3 (n : Nat) (K : Ex → St → Option (List T)) (self : List T → Option (List T)) (v : List T) : evC (cf250 n) (callK (cf250 n) (drawK (cf250 n)) (lms2 (lsl250 n)) 3) (drawK (cf250 n) (callK (cf250 n) (drawK (cf250 n)) (lms2 (lsl250 n)) 3)) (ann250 250) (lm250_250 n) (bodyOf Go.Proofs.Try.f250 3) ((L250_250_3 n).sk.fill v) (roundK (ann250 250 3) K (selfK (L250_250_3 n) self)) = (L250_250_3 n).G v self (exitK (L250_250_3 n) K) := by kernel_rfl
theorem eo250 (n : Nat) : EnvOk Go.Proofs.Try.prog (tiOf tab) n 250 sg250 ⟨M250⟩ :=
  have hc : CodeOk Go.Proofs.Try.prog (cf250 n) := (code_cons Go.Proofs.Try.func250 (by kernel_rfl) code_nil)
  have he : EnvsOk Go.Proofs.Try.prog (cf250 n) := env_nil
  have hl : LmsOk (R := List T) (cf250 n) (drawK (cf250 n)) (lms2 (lsl250 n)) (lsl250 n) := (lms_cons (loops_of (cf := cf250 n) (fn0 := Go.Proofs.Try.f250) rfl (l := [bodyOf Go.Proofs.Try.f250 3]) (by kernel_rfl) (loops_cons (b := bodyOf Go.Proofs.Try.f250 3) (by kernel_rfl) (rfl : lm250_250 n 3 = [L250_250_3 n]) (List.forall_mem_cons.2 ⟨fun K self v => lp250_250_3 n K self v, fun _ h => by cases h⟩) loops_nil)) lms_nil)
  envOk_of (cf := cf250 n) tabOk hc he (draw := drawK (cf250 n)) (fun _ => drawK_ok tabOk mixed hc he) (d := 3) (lms := lms2 (lsl250 n)) hl
    (fun τs rs h => by
      simp only [M250] at h
      split at h
      · exact (ev250 n _).trans h
      · cases h)
/-! ### 201: laws.toData -/
def sg201 : Sig := ⟨[(true, [.int .i64, .int .i64, .int .i64, .bool, .bool, .bool, .slice 5])], [.agg [(.int .i64, false), (.int .i64, false), (.int .i64, false), (.bool, false), (.bool, false), (.bool, false), (.slice 5, false)]]⟩
def F201 (n : Nat) (x0 x1 x2 x3 x4 x5 x6 : T) : Option (List T) :=
  (F250 n x6).bind fun r1 => some [x0, x1, x2, x3, x4, x5, (r1.headD (.i 0))]
def M201 (n : Nat) (τs : List T) : Option (List T) := match τs with
  | [x0, x1, x2, x3, x4, x5, x6] => F201 n x0 x1 x2 x3 x4 x5 x6
  | _ => none
noncomputable def code201 : List (Nat × Func) := [(201, Go.Proofs.Try.f201)]
def env201 : List (Nat × (Sig × Mean)) := [(250, sg250, ⟨M250⟩)]
def ann201 (f i : Nat) : Ann := match f, i with
  | _, _ => ⟨[], [], []⟩
def lsl201 (n : Nat) : List ((Nat × Nat) × (Nat → List LoopM)) := []
noncomputable def cf201 (n : Nat) : Cfg := ⟨tiOf tab, lookup code201, lookup env201, ann201, n⟩
theorem ev201 (n : Nat) (x0 x1 x2 x3 x4 x5 x6 : T) : evF (cf201 n) (drawK (cf201 n)) (lms2 (lsl201 n)) 3 201 sg201 [x0, x1, x2, x3, x4, x5, x6] = F201 n x0 x1 x2 x3 x4 x5 x6 := by kernel_rfl
theorem eo201 (n : Nat) : EnvOk Go.Proofs.Try.prog (tiOf tab) n 201 sg201 ⟨M201⟩ :=
  have hc : CodeOk Go.Proofs.Try.prog (cf201 n) := (code_cons Go.Proofs.Try.func201 (by kernel_rfl) code_nil)
  have he : EnvsOk Go.Proofs.Try.prog (cf201 n) := (env_cons (eo250 n) env_nil)
  have hl : LmsOk (R := List T) (cf201 n) (drawK (cf201 n)) (lms2 (lsl201 n)) (lsl201 n) := lms_nil
  envOk_of (cf := cf201 n) tabOk hc he (draw := drawK (cf201 n)) (fun _ => drawK_ok tabOk mixed hc he) (d := 3) (lms := lms2 (lsl201 n)) hl
    (fun τs rs h => by
      simp only [M201] at h
      split at h
      · exact (ev201 n _ _ _ _ _ _ _).trans h
      · cases h)
/-! ### 102: laws.toDataS -/
def sg102 : Sig := ⟨[(false, [.slice 259])], [.leaf (.slice 132) false]⟩
def G102_102_3 {R : Type} (n : Nat) (v : List T) (self : List T → Option R) (ex : List (List T → Option R)) : Option R :=
  bif (decide ((v.getD 1 (.i 0)).I < ((((v.getD 0 (.i 0)).L).length : Nat) : Int))) then (if 0 ≤ (v.getD 1 (.i 0)).I ∧ (v.getD 1 (.i 0)).I < (((v.getD 0 (.i 0)).L).length : Int) then ((F201 n ((at_ ((v.getD 0 (.i 0)).L) ((v.getD 1 (.i 0)).I)).F 0) ((at_ ((v.getD 0 (.i 0)).L) ((v.getD 1 (.i 0)).I)).F 1) ((at_ ((v.getD 0 (.i 0)).L) ((v.getD 1 (.i 0)).I)).F 2) ((at_ ((v.getD 0 (.i 0)).L) ((v.getD 1 (.i 0)).I)).F 3) ((at_ ((v.getD 0 (.i 0)).L) ((v.getD 1 (.i 0)).I)).F 4) ((at_ ((v.getD 0 (.i 0)).L) ((v.getD 1 (.i 0)).I)).F 5) ((at_ ((v.getD 0 (.i 0)).L) ((v.getD 1 (.i 0)).I)).F 6)).bind fun r1 => if 0 ≤ (v.getD 1 (.i 0)).I ∧ (v.getD 1 (.i 0)).I < (((v.getD 2 (.i 0)).L).length : Int) then (if 132 = 132 ∧ ((v.getD 1 (.i 0)).I).toNat < ((v.getD 2 (.i 0)).L).length then (self [.l ((v.getD 0 (.i 0)).L), .i (IntKind.wrap .i64 ((v.getD 1 (.i 0)).I + 1)), .l (((v.getD 2 (.i 0)).L).set (((v.getD 1 (.i 0)).I).toNat) (.r [(r1.headD (.i 0)), (r1.tail.headD (.i 0)), (r1.tail.tail.headD (.i 0)), (r1.tail.tail.tail.headD (.i 0)), (r1.tail.tail.tail.tail.headD (.i 0)), (r1.tail.tail.tail.tail.tail.headD (.i 0)), (r1.tail.tail.tail.tail.tail.tail.headD (.i 0))]))]) else none) else none) else none) else (exn ex 0 [.l ((v.getD 2 (.i 0)).L)])
def L102_102_3 (n : Nat) : LoopM := ⟨⟨[[.t (.slice 259) (.i 0), .un, .un, .own 132 0, .t (.int .i64) (.i 0), .un, .un, .un, .un, .un, .un, .un, .un, .un, .un, .un, .un, .un, .un, .un, .un, .un, .un]], [.arr 132 []]⟩, [(.exit 0, ⟨[[.un, .un, .un, .own 132 0, .un, .un, .un, .un, .un, .un, .un, .un, .un, .un, .un, .un, .un, .un, .un, .un, .un, .un, .un]], [.arr 132 []]⟩)], fun v self ex => G102_102_3 n v self ex⟩
def F102 (n : Nat) (x0 : T) : Option (List T) :=
  if 0 ≤ (x0.L.length : Int) ∧ (x0.L.length : Int) * 56 ≤ limB ∧ (x0.L.length : Int) < maxN then (loopR (L102_102_3 n).G n [.l x0.L, .i 0, .l (List.replicate ((x0.L.length : Int)).toNat (T.r [.i 0, .i 0, .i 0, .b false, .b false, .b false, .l []]))] [fun u2 => some [.l ((u2.getD 0 (.i 0)).L)]]) else none
def M102 (n : Nat) (τs : List T) : Option (List T) := match τs with
  | [x0] => F102 n x0
  | _ => none
noncomputable def code102 : List (Nat × Func) := [(102, Go.Proofs.Try.f102)]
def env102 : List (Nat × (Sig × Mean)) := [(201, sg201, ⟨M201⟩)]
def ann102 (f i : Nat) : Ann := match f, i with
  | 102, 3 => ⟨[(0, .any), (3, .any), (4, .any)], [], [(3, .any)]⟩
  | _, _ => ⟨[], [], []⟩
def lm102_102 (n : Nat) (i : Nat) : List LoopM := match i with
  | 3 => [L102_102_3 n]
  | _ => []
def lsl102 (n : Nat) : List ((Nat × Nat) × (Nat → List LoopM)) := [((3, 102), lm102_102 n)]
noncomputable def cf102 (n : Nat) : Cfg := ⟨tiOf tab, lookup code102, lookup env102, ann102, n⟩
theorem ev102 (n : Nat) (x0 : T) : evF (cf102 n) (drawK (cf102 n)) (lms2 (lsl102 n)) 3 102 sg102 [x0] = F102 n x0 := by kernel_rfl
theorem lp102_102_3 (n : Nat) (K : Ex → St → Option (List T)) (self : List T → Option (List T)) (v : List T) : evC (cf102 n) (callK (cf102 n) (drawK (cf102 n)) (lms2 (lsl102 n)) 3) (drawK (cf102 n) (callK (cf102 n) (drawK (cf102 n)) (lms2 (lsl102 n)) 3)) (ann102 102) (lm102_102 n) (bodyOf Go.Proofs.Try.f102 3) ((L102_102_3 n).sk.fill v) (roundK (ann102 102 3) K (selfK (L102_102_3 n) self)) = (L102_102_3 n).G v self (exitK (L102_102_3 n) K) := by kernel_rfl
theorem eo102 (n : Nat) : EnvOk Go.Proofs.Try.prog (tiOf tab) n 102 sg102 ⟨M102⟩ :=
  have hc : CodeOk Go.Proofs.Try.prog (cf102 n) := (code_cons Go.Proofs.Try.func102 (by kernel_rfl) code_nil)
  have he : EnvsOk Go.Proofs.Try.prog (cf102 n) := (env_cons (eo201 n) env_nil)
  have hl : LmsOk (R := List T) (cf102 n) (drawK (cf102 n)) (lms2 (lsl102 n)) (lsl102 n) := (lms_cons (loops_of (cf := cf102 n) (fn0 := Go.Proofs.Try.f102) rfl (l := [bodyOf Go.Proofs.Try.f102 3]) (by kernel_rfl) (loops_cons (b := bodyOf Go.Proofs.Try.f102 3) (by kernel_rfl) (rfl : lm102_102 n 3 = [L102_102_3 n]) (List.forall_mem_cons.2 ⟨fun K self v => lp102_102_3 n K self v, fun _ h => by cases h⟩) loops_nil)) lms_nil)
  envOk_of (cf := cf102 n) tabOk hc he (draw := drawK (cf102 n)) (fun _ => drawK_ok tabOk mixed hc he) (d := 3) (lms := lms2 (lsl102 n)) hl
    (fun τs rs h => by
      simp only [M102] at h
      split at h
      · exact (ev102 n _).trans h
      · cases h)
/-! ### 15: laws.toRecv -/
def sg15 : Sig := ⟨[(true, [.int .i64, .slice 2, .slice 259, .slice 2])], [.agg [(.int .i64, false), (.slice 2, false), (.slice 132, false), (.slice 2, false)]]⟩
def F15 (n : Nat) (x0 x1 x2 x3 : T) : Option (List T) :=
  (F101 n x1).bind fun r1 => (F102 n x2).bind fun r2 => (F101 n x3).bind fun r3 => some [x0, (r1.headD (.i 0)), (r2.headD (.i 0)), (r3.headD (.i 0))]
def M15 (n : Nat) (τs : List T) : Option (List T) := match τs with
  | [x0, x1, x2, x3] => F15 n x0 x1 x2 x3
  | _ => none
noncomputable def code15 : List (Nat × Func) := [(15, Go.Proofs.Try.f15)]
def env15 : List (Nat × (Sig × Mean)) := [(101, sg101, ⟨M101⟩), (102, sg102, ⟨M102⟩)]
def ann15 (f i : Nat) : Ann := match f, i with
  | _, _ => ⟨[], [], []⟩
def lsl15 (n : Nat) : List ((Nat × Nat) × (Nat → List LoopM)) := []
noncomputable def cf15 (n : Nat) : Cfg := ⟨tiOf tab, lookup code15, lookup env15, ann15, n⟩
theorem ev15 (n : Nat) (x0 x1 x2 x3 : T) : evF (cf15 n) (drawK (cf15 n)) (lms2 (lsl15 n)) 3 15 sg15 [x0, x1, x2, x3] = F15 n x0 x1 x2 x3 := by kernel_rfl
theorem eo15 (n : Nat) : EnvOk Go.Proofs.Try.prog (tiOf tab) n 15 sg15 ⟨M15⟩ :=
  have hc : CodeOk Go.Proofs.Try.prog (cf15 n) := (code_cons Go.Proofs.Try.func15 (by kernel_rfl) code_nil)
  have he : EnvsOk Go.Proofs.Try.prog (cf15 n) := (env_cons (eo101 n) (env_cons (eo102 n) env_nil))
  have hl : LmsOk (R := List T) (cf15 n) (drawK (cf15 n)) (lms2 (lsl15 n)) (lsl15 n) := lms_nil
  envOk_of (cf := cf15 n) tabOk hc he (draw := drawK (cf15 n)) (fun _ => drawK_ok tabOk mixed hc he) (d := 3) (lms := lms2 (lsl15 n)) hl
    (fun τs rs h => by
      simp only [M15] at h
      split at h
      · exact (ev15 n _ _ _ _).trans h
      · cases h)
/-! ### 167: impl.within -/
def sg167 : Sig := ⟨[(false, [.int .i64]), (false, [.int .i64]), (false, [.int .i64])], [.leaf .bool false]⟩
def F167 (n : Nat) (x0 x1 x2 : T) : Option (List T) :=
  bif (decide (x0.I ≥ x1.I)) then (some [.b (decide (x0.I ≤ x2.I))]) else (some [.b false])
def M167 (n : Nat) (τs : List T) : Option (List T) := match τs with
  | [x0, x1, x2] => F167 n x0 x1 x2
  | _ => none
noncomputable def code167 : List (Nat × Func) := [(167, Go.Proofs.Try.f167)]
def env167 : List (Nat × (Sig × Mean)) := []
def ann167 (f i : Nat) : Ann := match f, i with
  | _, _ => ⟨[], [], []⟩
def lsl167 (n : Nat) : List ((Nat × Nat) × (Nat → List LoopM)) := []
noncomputable def cf167 (n : Nat) : Cfg := ⟨tiOf tab, lookup code167, lookup env167, ann167, n⟩
theorem ev167 (n : Nat) (x0 x1 x2 : T) : evF (cf167 n) (drawK (cf167 n)) (lms2 (lsl167 n)) 3 167 sg167 [x0, x1, x2] = F167 n x0 x1 x2 := by kernel_rfl
theorem eo167 (n : Nat) : EnvOk Go.Proofs.Try.prog (tiOf tab) n 167 sg167 ⟨M167⟩ :=
  have hc : CodeOk Go.Proofs.Try.prog (cf167 n) := (code_cons Go.Proofs.Try.func167 (by kernel_rfl) code_nil)
  have he : EnvsOk Go.Proofs.Try.prog (cf167 n) := env_nil
  have hl : LmsOk (R := List T) (cf167 n) (drawK (cf167 n)) (lms2 (lsl167 n)) (lsl167 n) := lms_nil
  envOk_of (cf := cf167 n) tabOk hc he (draw := drawK (cf167 n)) (fun _ => drawK_ok tabOk mixed hc he) (d := 3) (lms := lms2 (lsl167 n)) hl
    (fun τs rs h => by
      simp only [M167] at h
      split at h
      · exact (ev167 n _ _ _).trans h
      · cases h)
/-! ### 103: impl.isWord -/
def sg103 : Sig := ⟨[(false, [.int .i64])], [.leaf .bool false]⟩
def F103 (n : Nat) (x0 : T) : Option (List T) :=
  (F167 n x0 (.i 0) (.i 4294967295)).bind fun r1 => some [(r1.headD (.i 0))]
def M103 (n : Nat) (τs : List T) : Option (List T) := match τs with
  | [x0] => F103 n x0
  | _ => none
noncomputable def code103 : List (Nat × Func) := [(103, Go.Proofs.Try.f103)]
def env103 : List (Nat × (Sig × Mean)) := [(167, sg167, ⟨M167⟩)]
def ann103 (f i : Nat) : Ann := match f, i with
  | _, _ => ⟨[], [], []⟩
def lsl103 (n : Nat) : List ((Nat × Nat) × (Nat → List LoopM)) := []
noncomputable def cf103 (n : Nat) : Cfg := ⟨tiOf tab, lookup code103, lookup env103, ann103, n⟩
theorem ev103 (n : Nat) (x0 : T) : evF (cf103 n) (drawK (cf103 n)) (lms2 (lsl103 n)) 3 103 sg103 [x0] = F103 n x0 := by kernel_rfl
theorem eo103 (n : Nat) : EnvOk Go.Proofs.Try.prog (tiOf tab) n 103 sg103 ⟨M103⟩ :=
  have hc : CodeOk Go.Proofs.Try.prog (cf103 n) := (code_cons Go.Proofs.Try.func103 (by kernel_rfl) code_nil)
  have he : EnvsOk Go.Proofs.Try.prog (cf103 n) := (env_cons (eo167 n) env_nil)
  have hl : LmsOk (R := List T) (cf103 n) (drawK (cf103 n)) (lms2 (lsl103 n)) (lsl103 n) := lms_nil
  envOk_of (cf := cf103 n) tabOk hc he (draw := drawK (cf103 n)) (fun _ => drawK_ok tabOk mixed hc he) (d := 3) (lms := lms2 (lsl103 n)) hl
    (fun τs rs h => by
      simp only [M103] at h
      split at h
      · exact (ev103 n _).trans h
      · cases h)
/-! ### 142: impl.serialGap -/
def sg142 : Sig := ⟨[(false, [.int .i64]), (false, [.int .i64])], [.leaf (.int .i64) false]⟩
def F142 (n : Nat) (x0 x1 : T) : Option (List T) :=
  some [.i (IntKind.wrap .i64 (((BitVec.ofInt 64 (IntKind.wrap .i64 (x1.I - x0.I)) &&& BitVec.ofInt 64 4294967295).toNat : Int)))]
def M142 (n : Nat) (τs : List T) : Option (List T) := match τs with
  | [x0, x1] => F142 n x0 x1
  | _ => none
noncomputable def code142 : List (Nat × Func) := [(142, Go.Proofs.Try.f142)]
def env142 : List (Nat × (Sig × Mean)) := []
def ann142 (f i : Nat) : Ann := match f, i with
  | _, _ => ⟨[], [], []⟩
def lsl142 (n : Nat) : List ((Nat × Nat) × (Nat → List LoopM)) := []
noncomputable def cf142 (n : Nat) : Cfg := ⟨tiOf tab, lookup code142, lookup env142, ann142, n⟩
theorem ev142 (n : Nat) (x0 x1 : T) : evF (cf142 n) (drawK (cf142 n)) (lms2 (lsl142 n)) 3 142 sg142 [x0, x1] = F142 n x0 x1 := by kernel_rfl
theorem eo142 (n : Nat) : EnvOk Go.Proofs.Try.prog (tiOf tab) n 142 sg142 ⟨M142⟩ :=
  have hc : CodeOk Go.Proofs.Try.prog (cf142 n) := (code_cons Go.Proofs.Try.func142 (by kernel_rfl) code_nil)
  have he : EnvsOk Go.Proofs.Try.prog (cf142 n) := env_nil
  have hl : LmsOk (R := List T) (cf142 n) (drawK (cf142 n)) (lms2 (lsl142 n)) (lsl142 n) := lms_nil
  envOk_of (cf := cf142 n) tabOk hc he (draw := drawK (cf142 n)) (fun _ => drawK_ok tabOk mixed hc he) (d := 3) (lms := lms2 (lsl142 n)) hl
    (fun τs rs h => by
      simp only [M142] at h
      split at h
      · exact (ev142 n _ _).trans h
      · cases h)
/-! ### 104: impl.Recv).beyondCode -/
def sg104 : Sig := ⟨[(true, [.int .i64, .slice 2, .slice 132, .slice 2])], [.leaf (.int .i64) false]⟩
def G104_104_3 {R : Type} (n : Nat) (v : List T) (self : List T → Option R) (ex : List (List T → Option R)) : Option R :=
  bif (decide ((v.getD 3 (.i 0)).I < (v.getD 2 (.i 0)).I)) then (if 0 ≤ (v.getD 3 (.i 0)).I ∧ (v.getD 3 (.i 0)).I < (((v.getD 1 (.i 0)).L).length : Int) then ((F103 n (at_ ((v.getD 1 (.i 0)).L) ((v.getD 3 (.i 0)).I))).bind fun r1 => bif (!(r1.headD (.i 0)).B) then (exn ex 0 [.i 3]) else ((F142 n (.i ((v.getD 4 (.i 0)).I)) (at_ ((v.getD 1 (.i 0)).L) ((v.getD 3 (.i 0)).I))).bind fun r2 => bif (decide ((r2.headD (.i 0)).I ≤ (v.getD 0 (.i 0)).I)) then (exn ex 0 [.i 1]) else (bif (decide ((r2.headD (.i 0)).I > 16)) then (exn ex 0 [.i 1]) else (self [.i ((r2.headD (.i 0)).I), .l ((v.getD 1 (.i 0)).L), .i ((v.getD 2 (.i 0)).I), .i (IntKind.wrap .i64 ((v.getD 3 (.i 0)).I + 1)), .i ((v.getD 4 (.i 0)).I), .l ((v.getD 5 (.i 0)).L), .l ((v.getD 6 (.i 0)).L), .l ((v.getD 7 (.i 0)).L)])))) else none) else (exn ex 1 [])
def L104_104_3 (n : Nat) : LoopM := ⟨⟨[[.un, .pb 0 0, .un, .t (.int .i64) (.i 0), .un, .un, .un, .un, .t (.slice 2) (.i 0), .t (.int .i64) (.i 0), .t (.int .i64) (.i 0), .un, .un, .un, .un, .un, .un, .un, .un, .un, .un, .un, .un, .un, .un, .un, .un, .un, .un, .un]], [.box [.t (.int .i64) (.i 0), .t (.slice 2) (.i 0), .t (.slice 132) (.i 0), .t (.slice 2) (.i 0)]]⟩, [(.ret, ⟨[[.un, .un, .t (.int .i64) (.i 0), .un, .un, .un, .un, .un, .un, .un, .un, .un, .un, .un, .un, .un, .un, .un, .un, .un, .un, .un, .un, .un, .un, .un, .un, .un, .un, .un]], []⟩), (.exit 0, ⟨[[.un, .un, .un, .un, .un, .un, .un, .un, .un, .un, .un, .un, .un, .un, .un, .un, .un, .un, .un, .un, .un, .un, .un, .un, .un, .un, .un, .un, .un, .un]], []⟩)], fun v self ex => G104_104_3 n v self ex⟩
def F104 (n : Nat) (x0 x1 x2 x3 : T) : Option (List T) :=
  loopR (L104_104_3 n).G n [.i 1, .l x1.L, .i (x1.L.length : Int), .i 0, .i x0.I, .l x1.L, .l x2.L, .l x3.L] [fun u3 => some [.i ((u3.getD 0 (.i 0)).I)], fun u4 => some [.i 0]]
def M104 (n : Nat) (τs : List T) : Option (List T) := match τs with
  | [x0, x1, x2, x3] => F104 n x0 x1 x2 x3
  | _ => none
noncomputable def code104 : List (Nat × Func) := [(104, Go.Proofs.Try.f104)]
def env104 : List (Nat × (Sig × Mean)) := [(103, sg103, ⟨M103⟩), (142, sg142, ⟨M142⟩)]
def ann104 (f i : Nat) : Ann := match f, i with
  | 104, 3 => ⟨[(1, .any), (3, .any), (8, .any), (9, .any), (10, .any)], [], [(2, .any)]⟩
  | _, _ => ⟨[], [], []⟩
def lm104_104 (n : Nat) (i : Nat) : List LoopM := match i with
  | 3 => [L104_104_3 n]
  | _ => []
def lsl104 (n : Nat) : List ((Nat × Nat) × (Nat → List LoopM)) := [((3, 104), lm104_104 n)]
noncomputable def cf104 (n : Nat) : Cfg := ⟨tiOf tab, lookup code104, lookup env104, ann104, n⟩
theorem ev104 (n : Nat) (x0 x1 x2 x3 : T) : evF (cf104 n) (drawK (cf104 n)) (lms2 (lsl104 n)) 3 104 sg104 [x0, x1, x2, x3] = F104 n x0 x1 x2 x3 := by kernel_rfl
theorem lp104_104_3 (n : Nat) (K : Ex → St → Option (List T)) (self : List T → Option (List T)) (v : List T) : evC (cf104 n) (callK (cf104 n) (drawK (cf104 n)) (lms2 (lsl104 n)) 3) (drawK (cf104 n) (callK (cf104 n) (drawK (cf104 n)) (lms2 (lsl104 n)) 3)) (ann104 104) (lm104_104 n) (bodyOf Go.Proofs.Try.f104 3) ((L104_104_3 n).sk.fill v) (roundK (ann104 104 3) K (selfK (L104_104_3 n) self)) = (L104_104_3 n).G v self (exitK (L104_104_3 n) K) := by kernel_rfl
theorem eo104 (n : Nat) : EnvOk Go.Proofs.Try.prog (tiOf tab) n 104 sg104 ⟨M104⟩ :=
  have hc : CodeOk Go.Proofs.Try.prog (cf104 n) := (code_cons Go.Proofs.Try.func104 (by kernel_rfl) code_nil)
  have he : EnvsOk Go.Proofs.Try.prog (cf104 n) := (env_cons (eo103 n) (env_cons (eo142 n) env_nil))
  have hl : LmsOk (R := List T) (cf104 n) (drawK (cf104 n)) (lms2 (lsl104 n)) (lsl104 n) := (lms_cons (loops_of (cf := cf104 n) (fn0 := Go.Proofs.Try.f104) rfl (l := [bodyOf Go.Proofs.Try.f104 3]) (by kernel_rfl) (loops_cons (b := bodyOf Go.Proofs.Try.f104 3) (by kernel_rfl) (rfl : lm104_104 n 3 = [L104_104_3 n]) (List.forall_mem_cons.2 ⟨fun K self v => lp104_104_3 n K self v, fun _ h => by cases h⟩) loops_nil)) lms_nil)
  envOk_of (cf := cf104 n) tabOk hc he (draw := drawK (cf104 n)) (fun _ => drawK_ok tabOk mixed hc he) (d := 3) (lms := lms2 (lsl104 n)) hl
    (fun τs rs h => by
      simp only [M104] at h
      split at h
      · exact (ev104 n _ _ _ _).trans h
      · cases h)
/-! ### 144: impl.four -/
def sg144 : Sig := ⟨[(false, [.int .i64])], [.leaf (.slice 5) false]⟩
def F144 (n : Nat) (x0 : T) : Option (List T) :=
  some [.l [.i (IntKind.wrap .u8 ((x0.I.fdiv (2 ^ 24)))), .i (IntKind.wrap .u8 ((x0.I.fdiv (2 ^ 16)))), .i (IntKind.wrap .u8 ((x0.I.fdiv (2 ^ 8)))), .i (IntKind.wrap .u8 (x0.I))]]
def M144 (n : Nat) (τs : List T) : Option (List T) := match τs with
  | [x0] => F144 n x0
  | _ => none
noncomputable def code144 : List (Nat × Func) := [(144, Go.Proofs.Try.f144)]
def env144 : List (Nat × (Sig × Mean)) := []
def ann144 (f i : Nat) : Ann := match f, i with
  | _, _ => ⟨[], [], []⟩
def lsl144 (n : Nat) : List ((Nat × Nat) × (Nat → List LoopM)) := []
noncomputable def cf144 (n : Nat) : Cfg := ⟨tiOf tab, lookup code144, lookup env144, ann144, n⟩
theorem ev144 (n : Nat) (x0 : T) : evF (cf144 n) (drawK (cf144 n)) (lms2 (lsl144 n)) 3 144 sg144 [x0] = F144 n x0 := by kernel_rfl
theorem eo144 (n : Nat) : EnvOk Go.Proofs.Try.prog (tiOf tab) n 144 sg144 ⟨M144⟩ :=
  have hc : CodeOk Go.Proofs.Try.prog (cf144 n) := (code_cons Go.Proofs.Try.func144 (by kernel_rfl) code_nil)
  have he : EnvsOk Go.Proofs.Try.prog (cf144 n) := env_nil
  have hl : LmsOk (R := List T) (cf144 n) (drawK (cf144 n)) (lms2 (lsl144 n)) (lsl144 n) := lms_nil
  envOk_of (cf := cf144 n) tabOk hc he (draw := drawK (cf144 n)) (fun _ => drawK_ok tabOk mixed hc he) (d := 3) (lms := lms2 (lsl144 n)) hl
    (fun τs rs h => by
      simp only [M144] at h
      split at h
      · exact (ev144 n _).trans h
      · cases h)
/-! ### 146: impl.two -/
def sg146 : Sig := ⟨[(false, [.int .i64])], [.leaf (.slice 5) false]⟩
def F146 (n : Nat) (x0 : T) : Option (List T) :=
  some [.l [.i (IntKind.wrap .u8 ((x0.I.fdiv (2 ^ 8)))), .i (IntKind.wrap .u8 (x0.I))]]
def M146 (n : Nat) (τs : List T) : Option (List T) := match τs with
  | [x0] => F146 n x0
  | _ => none
noncomputable def code146 : List (Nat × Func) := [(146, Go.Proofs.Try.f146)]
def env146 : List (Nat × (Sig × Mean)) := []
def ann146 (f i : Nat) : Ann := match f, i with
  | _, _ => ⟨[], [], []⟩
def lsl146 (n : Nat) : List ((Nat × Nat) × (Nat → List LoopM)) := []
noncomputable def cf146 (n : Nat) : Cfg := ⟨tiOf tab, lookup code146, lookup env146, ann146, n⟩
theorem ev146 (n : Nat) (x0 : T) : evF (cf146 n) (drawK (cf146 n)) (lms2 (lsl146 n)) 3 146 sg146 [x0] = F146 n x0 := by kernel_rfl
theorem eo146 (n : Nat) : EnvOk Go.Proofs.Try.prog (tiOf tab) n 146 sg146 ⟨M146⟩ :=
  have hc : CodeOk Go.Proofs.Try.prog (cf146 n) := (code_cons Go.Proofs.Try.func146 (by kernel_rfl) code_nil)
  have he : EnvsOk Go.Proofs.Try.prog (cf146 n) := env_nil
  have hl : LmsOk (R := List T) (cf146 n) (drawK (cf146 n)) (lms2 (lsl146 n)) (lsl146 n) := lms_nil
  envOk_of (cf := cf146 n) tabOk hc he (draw := drawK (cf146 n)) (fun _ => drawK_ok tabOk mixed hc he) (d := 3) (lms := lms2 (lsl146 n)) hl
    (fun τs rs h => by
      simp only [M146] at h
      split at h
      · exact (ev146 n _).trans h
      · cases h)
/-! ### 145: slices.Concat[[]byte,byte] -/
def sg145 : Sig := ⟨[(false, [.slice 93])], [.leaf (.slice 5) false]⟩
def G145_145_11 {R : Type} (n : Nat) (v : List T) (self : List T → Option R) (ex : List (List T → Option R)) : Option R :=
  bif (decide ((v.getD 2 (.i 0)).I < (v.getD 1 (.i 0)).I)) then (if 0 ≤ (v.getD 2 (.i 0)).I ∧ (v.getD 2 (.i 0)).I < (((v.getD 0 (.i 0)).L).length : Int) then (if ((((v.getD 3 (.i 0)).L).length + ((at_ ((v.getD 0 (.i 0)).L) ((v.getD 2 (.i 0)).I)).L).length : Nat) : Int) * 1 ≤ limB then (self [.l ((v.getD 0 (.i 0)).L), .i ((v.getD 1 (.i 0)).I), .i (IntKind.wrap .i64 ((v.getD 2 (.i 0)).I + 1)), .l ((v.getD 3 (.i 0)).L ++ (at_ ((v.getD 0 (.i 0)).L) ((v.getD 2 (.i 0)).I)).L)]) else none) else none) else (exn ex 0 [.l ((v.getD 3 (.i 0)).L)])
def L145_145_11 (n : Nat) : LoopM := ⟨⟨[[.un, .un, .un, .un, .un, .un, .own 5 0, .un, .un, .un, .un, .un, .un, .un, .un, .un, .un, .un, .un, .un, .un, .un, .un, .un, .un, .t (.slice 93) (.i 0), .t (.int .i64) (.i 0), .t (.int .i64) (.i 0), .un, .un, .un, .un, .un, .un, .un, .un]], [.arr 5 []]⟩, [(.exit 2, ⟨[[.un, .un, .un, .un, .un, .un, .own 5 0, .un, .un, .un, .un, .un, .un, .un, .un, .un, .un, .un, .un, .un, .un, .un, .un, .un, .un, .un, .un, .un, .un, .un, .un, .un, .un, .un, .un, .un]], [.arr 5 []]⟩)], fun v self ex => G145_145_11 n v self ex⟩
def G145_145_3 {R : Type} (n : Nat) (v : List T) (self : List T → Option R) (ex : List (List T → Option R)) : Option R :=
  bif (decide ((v.getD 4 (.i 0)).I < (v.getD 3 (.i 0)).I)) then (if 0 ≤ (v.getD 4 (.i 0)).I ∧ (v.getD 4 (.i 0)).I < (((v.getD 2 (.i 0)).L).length : Int) then (bif (decide ((IntKind.wrap .i64 ((v.getD 1 (.i 0)).I + ((((at_ ((v.getD 2 (.i 0)).L) ((v.getD 4 (.i 0)).I)).L).length : Nat) : Int))) < 0)) then none else (self [.l ((v.getD 0 (.i 0)).L), .i (IntKind.wrap .i64 ((v.getD 1 (.i 0)).I + ((((at_ ((v.getD 2 (.i 0)).L) ((v.getD 4 (.i 0)).I)).L).length : Nat) : Int))), .l ((v.getD 2 (.i 0)).L), .i ((v.getD 3 (.i 0)).I), .i (IntKind.wrap .i64 ((v.getD 4 (.i 0)).I + 1))])) else none) else (exn ex 0 [.l ((v.getD 0 (.i 0)).L), .i ((v.getD 1 (.i 0)).I)])
def L145_145_3 (n : Nat) : LoopM := ⟨⟨[[.t (.slice 93) (.i 0), .un, .un, .t (.int .i64) (.i 0), .un, .un, .un, .un, .un, .t (.slice 93) (.i 0), .t (.int .i64) (.i 0), .t (.int .i64) (.i 0), .un, .un, .un, .un, .un, .un, .un, .un, .un, .un, .un, .un, .un, .un, .un, .un, .un, .un, .un, .un, .un, .un, .un, .un]], []⟩, [(.exit 0, ⟨[[.t (.slice 93) (.i 0), .un, .un, .t (.int .i64) (.i 0), .un, .un, .un, .un, .un, .un, .un, .un, .un, .un, .un, .un, .un, .un, .un, .un, .un, .un, .un, .un, .un, .un, .un, .un, .un, .un, .un, .un, .un, .un, .un, .un]], []⟩)], fun v self ex => G145_145_3 n v self ex⟩
def F145 (n : Nat) (x0 : T) : Option (List T) :=
  loopR (L145_145_3 n).G n [.l x0.L, .i 0, .l x0.L, .i (x0.L.length : Int), .i 0] [fun u1 => bif (decide ((u1.getD 1 (.i 0)).I < 0)) then none else (bif (decide ((IntKind.wrap .i64 ((u1.getD 1 (.i 0)).I - 0)) > 0)) then (if 0 ≤ (IntKind.wrap .i64 ((u1.getD 1 (.i 0)).I - 0)) ∧ (IntKind.wrap .i64 ((u1.getD 1 (.i 0)).I - 0)) * 1 ≤ limB then (if ((List.replicate ((IntKind.wrap .i64 ((u1.getD 1 (.i 0)).I - 0))).toNat (T.i 0)).length : Int) * 1 ≤ limB then (if 0 ≤ 0 ∧ 0 ≤ 0 ∧ 0 ≤ ((List.replicate ((IntKind.wrap .i64 ((u1.getD 1 (.i 0)).I - 0))).toNat (T.i 0)).length : Int) then (loopR (L145_145_11 n).G n [.l ((u1.getD 0 (.i 0)).L), .i ((((u1.getD 0 (.i 0)).L).length : Nat) : Int), .i 0, .l ((List.replicate ((IntKind.wrap .i64 ((u1.getD 1 (.i 0)).I - 0))).toNat (T.i 0)).take 0)] [fun u2 => some [.l ((u2.getD 0 (.i 0)).L)]]) else none) else none) else none) else (loopR (L145_145_11 n).G n [.l ((u1.getD 0 (.i 0)).L), .i ((((u1.getD 0 (.i 0)).L).length : Nat) : Int), .i 0, .l []] [fun u3 => some [.l ((u3.getD 0 (.i 0)).L)]]))]
def M145 (n : Nat) (τs : List T) : Option (List T) := match τs with
  | [x0] => F145 n x0
  | _ => none
noncomputable def code145 : List (Nat × Func) := [(145, Go.Proofs.Try.f145), (227, Go.Proofs.Try.f227)]
def env145 : List (Nat × (Sig × Mean)) := []
def ann145 (f i : Nat) : Ann := match f, i with
  | 145, 3 => ⟨[(0, .any), (3, .any), (9, .any), (10, .any), (11, .any)], [], [(0, .any), (3, .any)]⟩
  | 145, 11 => ⟨[(6, .own 5), (25, .any), (26, .any), (27, .any)], [], [(6, .any)]⟩
  | _, _ => ⟨[], [], []⟩
def lm145_145 (n : Nat) (i : Nat) : List LoopM := match i with
  | 3 => [L145_145_3 n]
  | 11 => [L145_145_11 n]
  | _ => []
def lsl145 (n : Nat) : List ((Nat × Nat) × (Nat → List LoopM)) := [((3, 145), lm145_145 n)]
noncomputable def cf145 (n : Nat) : Cfg := ⟨tiOf tab, lookup code145, lookup env145, ann145, n⟩
theorem ev145 (n : Nat) (x0 : T) : evF (cf145 n) (drawK (cf145 n)) (lms2 (lsl145 n)) 3 145 sg145 [x0] = F145 n x0 := by kernel_rfl
theorem lp145_145_11 (n : Nat) (K : Ex → St → Option (List T)) (self : List T → Option (List T)) (v : List T) : evC (cf145 n) (callK (cf145 n) (drawK (cf145 n)) (lms2 (lsl145 n)) 3) (drawK (cf145 n) (callK (cf145 n) (drawK (cf145 n)) (lms2 (lsl145 n)) 3)) (ann145 145) (lm145_145 n) (bodyOf Go.Proofs.Try.f145 11) ((L145_145_11 n).sk.fill v) (roundK (ann145 145 11) K (selfK (L145_145_11 n) self)) = (L145_145_11 n).G v self (exitK (L145_145_11 n) K) := by kernel_rfl
theorem lp145_145_3 (n : Nat) (K : Ex → St → Option (List T)) (self : List T → Option (List T)) (v : List T) : evC (cf145 n) (callK (cf145 n) (drawK (cf145 n)) (lms2 (lsl145 n)) 3) (drawK (cf145 n) (callK (cf145 n) (drawK (cf145 n)) (lms2 (lsl145 n)) 3)) (ann145 145) (lm145_145 n) (bodyOf Go.Proofs.Try.f145 3) ((L145_145_3 n).sk.fill v) (roundK (ann145 145 3) K (selfK (L145_145_3 n) self)) = (L145_145_3 n).G v self (exitK (L145_145_3 n) K) := by kernel_rfl
theorem eo145 (n : Nat) : EnvOk Go.Proofs.Try.prog (tiOf tab) n 145 sg145 ⟨M145⟩ :=
  have hc : CodeOk Go.Proofs.Try.prog (cf145 n) := (code_cons Go.Proofs.Try.func145 (by kernel_rfl) (code_cons Go.Proofs.Try.func227 (by kernel_rfl) code_nil))
  have he : EnvsOk Go.Proofs.Try.prog (cf145 n) := env_nil
  have hl : LmsOk (R := List T) (cf145 n) (drawK (cf145 n)) (lms2 (lsl145 n)) (lsl145 n) := (lms_cons (loops_of (cf := cf145 n) (fn0 := Go.Proofs.Try.f145) rfl (l := [bodyOf Go.Proofs.Try.f145 3, bodyOf Go.Proofs.Try.f145 11]) (by kernel_rfl) (loops_cons (b := bodyOf Go.Proofs.Try.f145 3) (by kernel_rfl) (rfl : lm145_145 n 3 = [L145_145_3 n]) (List.forall_mem_cons.2 ⟨fun K self v => lp145_145_3 n K self v, fun _ h => by cases h⟩) (loops_cons (b := bodyOf Go.Proofs.Try.f145 11) (by kernel_rfl) (rfl : lm145_145 n 11 = [L145_145_11 n]) (List.forall_mem_cons.2 ⟨fun K self v => lp145_145_11 n K self v, fun _ h => by cases h⟩) loops_nil))) lms_nil)
  envOk_of (cf := cf145 n) tabOk hc he (draw := drawK (cf145 n)) (fun _ => drawK_ok tabOk mixed hc he) (d := 3) (lms := lms2 (lsl145 n)) hl
    (fun τs rs h => by
      simp only [M145] at h
      split at h
      · exact (ev145 n _).trans h
      · cases h)
/-! ### 147: impl.chunk -/
def sg147 : Sig := ⟨[(false, [.int .i64]), (false, [.int .i64]), (false, [.slice 93])], [.agg [(.int .i64, false), (.int .i64, false), (.int .i64, false), (.slice 5, false)]]⟩
def F147 (n : Nat) (x0 x1 x2 : T) : Option (List T) :=
  (F145 n x2).bind fun r1 => some [.i 0, x0, x1, (r1.headD (.i 0))]
def M147 (n : Nat) (τs : List T) : Option (List T) := match τs with
  | [x0, x1, x2] => F147 n x0 x1 x2
  | _ => none
noncomputable def code147 : List (Nat × Func) := [(147, Go.Proofs.Try.f147)]
def env147 : List (Nat × (Sig × Mean)) := [(145, sg145, ⟨M145⟩)]
def ann147 (f i : Nat) : Ann := match f, i with
  | _, _ => ⟨[], [], []⟩
def lsl147 (n : Nat) : List ((Nat × Nat) × (Nat → List LoopM)) := []
noncomputable def cf147 (n : Nat) : Cfg := ⟨tiOf tab, lookup code147, lookup env147, ann147, n⟩
theorem ev147 (n : Nat) (x0 x1 x2 : T) : evF (cf147 n) (drawK (cf147 n)) (lms2 (lsl147 n)) 3 147 sg147 [x0, x1, x2] = F147 n x0 x1 x2 := by kernel_rfl
theorem eo147 (n : Nat) : EnvOk Go.Proofs.Try.prog (tiOf tab) n 147 sg147 ⟨M147⟩ :=
  have hc : CodeOk Go.Proofs.Try.prog (cf147 n) := (code_cons Go.Proofs.Try.func147 (by kernel_rfl) code_nil)
  have he : EnvsOk Go.Proofs.Try.prog (cf147 n) := (env_cons (eo145 n) env_nil)
  have hl : LmsOk (R := List T) (cf147 n) (drawK (cf147 n)) (lms2 (lsl147 n)) (lsl147 n) := lms_nil
  envOk_of (cf := cf147 n) tabOk hc he (draw := drawK (cf147 n)) (fun _ => drawK_ok tabOk mixed hc he) (d := 3) (lms := lms2 (lsl147 n)) hl
    (fun τs rs h => by
      simp only [M147] at h
      split at h
      · exact (ev147 n _ _ _).trans h
      · cases h)
/-! ### 176: impl.isStream -/
def sg176 : Sig := ⟨[(false, [.int .i64])], [.leaf .bool false]⟩
def F176 (n : Nat) (x0 : T) : Option (List T) :=
  (F167 n x0 (.i 0) (.i 9)).bind fun r1 => some [(r1.headD (.i 0))]
def M176 (n : Nat) (τs : List T) : Option (List T) := match τs with
  | [x0] => F176 n x0
  | _ => none
noncomputable def code176 : List (Nat × Func) := [(176, Go.Proofs.Try.f176)]
def env176 : List (Nat × (Sig × Mean)) := [(167, sg167, ⟨M167⟩)]
def ann176 (f i : Nat) : Ann := match f, i with
  | _, _ => ⟨[], [], []⟩
def lsl176 (n : Nat) : List ((Nat × Nat) × (Nat → List LoopM)) := []
noncomputable def cf176 (n : Nat) : Cfg := ⟨tiOf tab, lookup code176, lookup env176, ann176, n⟩
theorem ev176 (n : Nat) (x0 : T) : evF (cf176 n) (drawK (cf176 n)) (lms2 (lsl176 n)) 3 176 sg176 [x0] = F176 n x0 := by kernel_rfl
theorem eo176 (n : Nat) : EnvOk Go.Proofs.Try.prog (tiOf tab) n 176 sg176 ⟨M176⟩ :=
  have hc : CodeOk Go.Proofs.Try.prog (cf176 n) := (code_cons Go.Proofs.Try.func176 (by kernel_rfl) code_nil)
  have he : EnvsOk Go.Proofs.Try.prog (cf176 n) := (env_cons (eo167 n) env_nil)
  have hl : LmsOk (R := List T) (cf176 n) (drawK (cf176 n)) (lms2 (lsl176 n)) (lsl176 n) := lms_nil
  envOk_of (cf := cf176 n) tabOk hc he (draw := drawK (cf176 n)) (fun _ => drawK_ok tabOk mixed hc he) (d := 3) (lms := lms2 (lsl176 n)) hl
    (fun τs rs h => by
      simp only [M176] at h
      split at h
      · exact (ev176 n _).trans h
      · cases h)
/-! ### 206: impl.isPair -/
def sg206 : Sig := ⟨[(false, [.int .i64])], [.leaf .bool false]⟩
def F206 (n : Nat) (x0 : T) : Option (List T) :=
  (F167 n x0 (.i 0) (.i 65535)).bind fun r1 => some [(r1.headD (.i 0))]
def M206 (n : Nat) (τs : List T) : Option (List T) := match τs with
  | [x0] => F206 n x0
  | _ => none
noncomputable def code206 : List (Nat × Func) := [(206, Go.Proofs.Try.f206)]
def env206 : List (Nat × (Sig × Mean)) := [(167, sg167, ⟨M167⟩)]
def ann206 (f i : Nat) : Ann := match f, i with
  | _, _ => ⟨[], [], []⟩
def lsl206 (n : Nat) : List ((Nat × Nat) × (Nat → List LoopM)) := []
noncomputable def cf206 (n : Nat) : Cfg := ⟨tiOf tab, lookup code206, lookup env206, ann206, n⟩
theorem ev206 (n : Nat) (x0 : T) : evF (cf206 n) (drawK (cf206 n)) (lms2 (lsl206 n)) 3 206 sg206 [x0] = F206 n x0 := by kernel_rfl
theorem eo206 (n : Nat) : EnvOk Go.Proofs.Try.prog (tiOf tab) n 206 sg206 ⟨M206⟩ :=
  have hc : CodeOk Go.Proofs.Try.prog (cf206 n) := (code_cons Go.Proofs.Try.func206 (by kernel_rfl) code_nil)
  have he : EnvsOk Go.Proofs.Try.prog (cf206 n) := (env_cons (eo167 n) env_nil)
  have hl : LmsOk (R := List T) (cf206 n) (drawK (cf206 n)) (lms2 (lsl206 n)) (lsl206 n) := lms_nil
  envOk_of (cf := cf206 n) tabOk hc he (draw := drawK (cf206 n)) (fun _ => drawK_ok tabOk mixed hc he) (d := 3) (lms := lms2 (lsl206 n)) hl
    (fun τs rs h => by
      simp only [M206] at h
      split at h
      · exact (ev206 n _).trans h
      · cases h)
/-! ### 246: impl.flagged -/
def sg246 : Sig := ⟨[(false, [.bool]), (false, [.int .i64])], [.leaf (.int .i64) false]⟩
def F246 (n : Nat) (x0 x1 : T) : Option (List T) :=
  bif x0.B then (some [x1]) else (some [.i 0])
def M246 (n : Nat) (τs : List T) : Option (List T) := match τs with
  | [x0, x1] => F246 n x0 x1
  | _ => none
noncomputable def code246 : List (Nat × Func) := [(246, Go.Proofs.Try.f246)]
def env246 : List (Nat × (Sig × Mean)) := []
def ann246 (f i : Nat) : Ann := match f, i with
  | _, _ => ⟨[], [], []⟩
def lsl246 (n : Nat) : List ((Nat × Nat) × (Nat → List LoopM)) := []
noncomputable def cf246 (n : Nat) : Cfg := ⟨tiOf tab, lookup code246, lookup env246, ann246, n⟩
theorem ev246 (n : Nat) (x0 x1 : T) : evF (cf246 n) (drawK (cf246 n)) (lms2 (lsl246 n)) 3 246 sg246 [x0, x1] = F246 n x0 x1 := by kernel_rfl
theorem eo246 (n : Nat) : EnvOk Go.Proofs.Try.prog (tiOf tab) n 246 sg246 ⟨M246⟩ :=
  have hc : CodeOk Go.Proofs.Try.prog (cf246 n) := (code_cons Go.Proofs.Try.func246 (by kernel_rfl) code_nil)
  have he : EnvsOk Go.Proofs.Try.prog (cf246 n) := env_nil
  have hl : LmsOk (R := List T) (cf246 n) (drawK (cf246 n)) (lms2 (lsl246 n)) (lsl246 n) := lms_nil
  envOk_of (cf := cf246 n) tabOk hc he (draw := drawK (cf246 n)) (fun _ => drawK_ok tabOk mixed hc he) (d := 3) (lms := lms2 (lsl246 n)) hl
    (fun τs rs h => by
      simp only [M246] at h
      split at h
      · exact (ev246 n _ _).trans h
      · cases h)
/-! ### 184: impl.PackData -/
def sg184 : Sig := ⟨[(true, [.int .i64, .int .i64, .int .i64, .bool, .bool, .bool, .slice 5])], [.agg [(.int .i64, false), (.int .i64, false), (.int .i64, false), (.slice 5, false)]]⟩
def F184 (n : Nat) (x0 x1 x2 x3 x4 x5 x6 : T) : Option (List T) :=
  (F103 n x0).bind fun r1 => bif (!(r1.headD (.i 0)).B) then (some [.i 3, .i 0, .i 0, .l []]) else ((F176 n x1).bind fun r2 => bif (!(r2.headD (.i 0)).B) then (some [.i 3, .i 0, .i 0, .l []]) else ((F206 n x2).bind fun r3 => bif (!(r3.headD (.i 0)).B) then (some [.i 3, .i 0, .i 0, .l []]) else ((F167 n (.i (x6.L.length : Int)) (.i 1) (.i 100)).bind fun r4 => bif (!(r4.headD (.i 0)).B) then (some [.i 2, .i 0, .i 0, .l []]) else (bif x5.B then (bif (x2.I != 0) then (some [.i 1, .i 0, .i 0, .l []]) else ((F246 n x4 (.i 1)).bind fun r5 => (F246 n x3 (.i 2)).bind fun r6 => (F246 n x5 (.i 4)).bind fun r7 => (F144 n x0).bind fun r8 => (F146 n x1).bind fun r9 => (F146 n x2).bind fun r10 => (F147 n (.i 0) (.i (IntKind.wrap .i64 ((IntKind.wrap .i64 ((r5.headD (.i 0)).I + (r6.headD (.i 0)).I)) + (r7.headD (.i 0)).I))) (.l [(r8.headD (.i 0)), (r9.headD (.i 0)), (r10.headD (.i 0)), x6])).bind fun r11 => some [(r11.headD (.i 0)), (r11.tail.headD (.i 0)), (r11.tail.tail.headD (.i 0)), (r11.tail.tail.tail.headD (.i 0))])) else ((F246 n x4 (.i 1)).bind fun r12 => (F246 n x3 (.i 2)).bind fun r13 => (F246 n x5 (.i 4)).bind fun r14 => (F144 n x0).bind fun r15 => (F146 n x1).bind fun r16 => (F146 n x2).bind fun r17 => (F147 n (.i 0) (.i (IntKind.wrap .i64 ((IntKind.wrap .i64 ((r12.headD (.i 0)).I + (r13.headD (.i 0)).I)) + (r14.headD (.i 0)).I))) (.l [(r15.headD (.i 0)), (r16.headD (.i 0)), (r17.headD (.i 0)), x6])).bind fun r18 => some [(r18.headD (.i 0)), (r18.tail.headD (.i 0)), (r18.tail.tail.headD (.i 0)), (r18.tail.tail.tail.headD (.i 0))])))))
def M184 (n : Nat) (τs : List T) : Option (List T) := match τs with
  | [x0, x1, x2, x3, x4, x5, x6] => F184 n x0 x1 x2 x3 x4 x5 x6
  | _ => none
noncomputable def code184 : List (Nat × Func) := [(184, Go.Proofs.Try.f184)]
def env184 : List (Nat × (Sig × Mean)) := [(103, sg103, ⟨M103⟩), (144, sg144, ⟨M144⟩), (146, sg146, ⟨M146⟩), (147, sg147, ⟨M147⟩), (167, sg167, ⟨M167⟩), (176, sg176, ⟨M176⟩), (206, sg206, ⟨M206⟩), (246, sg246, ⟨M246⟩)]
def ann184 (f i : Nat) : Ann := match f, i with
  | _, _ => ⟨[], [], []⟩
def lsl184 (n : Nat) : List ((Nat × Nat) × (Nat → List LoopM)) := []
noncomputable def cf184 (n : Nat) : Cfg := ⟨tiOf tab, lookup code184, lookup env184, ann184, n⟩
theorem ev184 (n : Nat) (x0 x1 x2 x3 x4 x5 x6 : T) : evF (cf184 n) (drawK (cf184 n)) (lms2 (lsl184 n)) 3 184 sg184 [x0, x1, x2, x3, x4, x5, x6] = F184 n x0 x1 x2 x3 x4 x5 x6 := by kernel_rfl
theorem eo184 (n : Nat) : EnvOk Go.Proofs.Try.prog (tiOf tab) n 184 sg184 ⟨M184⟩ :=
  have hc : CodeOk Go.Proofs.Try.prog (cf184 n) := (code_cons Go.Proofs.Try.func184 (by kernel_rfl) code_nil)
  have he : EnvsOk Go.Proofs.Try.prog (cf184 n) := (env_cons (eo103 n) (env_cons (eo144 n) (env_cons (eo146 n) (env_cons (eo147 n) (env_cons (eo167 n) (env_cons (eo176 n) (env_cons (eo206 n) (env_cons (eo246 n) env_nil))))))))
  have hl : LmsOk (R := List T) (cf184 n) (drawK (cf184 n)) (lms2 (lsl184 n)) (lsl184 n) := lms_nil
  envOk_of (cf := cf184 n) tabOk hc he (draw := drawK (cf184 n)) (fun _ => drawK_ok tabOk mixed hc he) (d := 3) (lms := lms2 (lsl184 n)) hl
    (fun τs rs h => by
      simp only [M184] at h
      split at h
      · exact (ev184 n _ _ _ _ _ _ _).trans h
      · cases h)
/-! ### 202: impl.serialLess -/
def sg202 : Sig := ⟨[(false, [.int .i64]), (false, [.int .i64])], [.leaf .bool false]⟩
def F202 (n : Nat) (x0 x1 : T) : Option (List T) :=
  (F142 n x0 x1).bind fun r1 => (F167 n (r1.headD (.i 0)) (.i 1) (.i 2147483647)).bind fun r2 => some [(r2.headD (.i 0))]
def M202 (n : Nat) (τs : List T) : Option (List T) := match τs with
  | [x0, x1] => F202 n x0 x1
  | _ => none
noncomputable def code202 : List (Nat × Func) := [(202, Go.Proofs.Try.f202)]
def env202 : List (Nat × (Sig × Mean)) := [(142, sg142, ⟨M142⟩), (167, sg167, ⟨M167⟩)]
def ann202 (f i : Nat) : Ann := match f, i with
  | _, _ => ⟨[], [], []⟩
def lsl202 (n : Nat) : List ((Nat × Nat) × (Nat → List LoopM)) := []
noncomputable def cf202 (n : Nat) : Cfg := ⟨tiOf tab, lookup code202, lookup env202, ann202, n⟩
theorem ev202 (n : Nat) (x0 x1 : T) : evF (cf202 n) (drawK (cf202 n)) (lms2 (lsl202 n)) 3 202 sg202 [x0, x1] = F202 n x0 x1 := by kernel_rfl
theorem eo202 (n : Nat) : EnvOk Go.Proofs.Try.prog (tiOf tab) n 202 sg202 ⟨M202⟩ :=
  have hc : CodeOk Go.Proofs.Try.prog (cf202 n) := (code_cons Go.Proofs.Try.func202 (by kernel_rfl) code_nil)
  have he : EnvsOk Go.Proofs.Try.prog (cf202 n) := (env_cons (eo142 n) (env_cons (eo167 n) env_nil))
  have hl : LmsOk (R := List T) (cf202 n) (drawK (cf202 n)) (lms2 (lsl202 n)) (lsl202 n) := lms_nil
  envOk_of (cf := cf202 n) tabOk hc he (draw := drawK (cf202 n)) (fun _ => drawK_ok tabOk mixed hc he) (d := 3) (lms := lms2 (lsl202 n)) hl
    (fun τs rs h => by
      simp only [M202] at h
      split at h
      · exact (ev202 n _ _).trans h
      · cases h)
/-! ### 251: slices.Index[[]int64,int64] -/
def sg251 : Sig := ⟨[(false, [.slice 2]), (false, [.int .i64])], [.leaf (.int .i64) false]⟩
def G251_251_2 {R : Type} (n : Nat) (v : List T) (self : List T → Option R) (ex : List (List T → Option R)) : Option R :=
  bif (decide ((v.getD 3 (.i 0)).I < (v.getD 2 (.i 0)).I)) then (if 0 ≤ (v.getD 3 (.i 0)).I ∧ (v.getD 3 (.i 0)).I < (((v.getD 0 (.i 0)).L).length : Int) then (bif ((v.getD 1 (.i 0)).I == (at_ ((v.getD 0 (.i 0)).L) ((v.getD 3 (.i 0)).I)).I) then (exn ex 0 [.i ((v.getD 3 (.i 0)).I)]) else (self [.l ((v.getD 0 (.i 0)).L), .i ((v.getD 1 (.i 0)).I), .i ((v.getD 2 (.i 0)).I), .i (IntKind.wrap .i64 ((v.getD 3 (.i 0)).I + 1))])) else none) else (exn ex 1 [])
def L251_251_2 (n : Nat) : LoopM := ⟨⟨[[.t (.slice 2) (.i 0), .t (.int .i64) (.i 0), .un, .un, .un, .un, .un, .t (.int .i64) (.i 0), .t (.int .i64) (.i 0), .un, .un, .un, .un, .un, .un, .un, .un, .un, .un]], []⟩, [(.ret, ⟨[[.un, .un, .un, .un, .t (.int .i64) (.i 0), .un, .un, .un, .un, .un, .un, .un, .un, .un, .un, .un, .un, .un, .un]], []⟩), (.exit 0, ⟨[[.un, .un, .un, .un, .un, .un, .un, .un, .un, .un, .un, .un, .un, .un, .un, .un, .un, .un, .un]], []⟩)], fun v self ex => G251_251_2 n v self ex⟩
def F251 (n : Nat) (x0 x1 : T) : Option (List T) :=
  loopR (L251_251_2 n).G n [.l x0.L, .i x1.I, .i (x0.L.length : Int), .i 0] [fun u1 => some [.i ((u1.getD 0 (.i 0)).I)], fun u2 => some [.i (-1)]]
def M251 (n : Nat) (τs : List T) : Option (List T) := match τs with
  | [x0, x1] => F251 n x0 x1
  | _ => none
noncomputable def code251 : List (Nat × Func) := [(251, Go.Proofs.Try.f251)]
def env251 : List (Nat × (Sig × Mean)) := []
def ann251 (f i : Nat) : Ann := match f, i with
  | 251, 2 => ⟨[(0, .any), (1, .any), (7, .any), (8, .any)], [], [(4, .any)]⟩
  | _, _ => ⟨[], [], []⟩
def lm251_251 (n : Nat) (i : Nat) : List LoopM := match i with
  | 2 => [L251_251_2 n]
  | _ => []
def lsl251 (n : Nat) : List ((Nat × Nat) × (Nat → List LoopM)) := [((3, 251), lm251_251 n)]
noncomputable def cf251 (n : Nat) : Cfg := ⟨tiOf tab, lookup code251, lookup env251, ann251, n⟩
theorem ev251 (n : Nat) (x0 x1 : T) : evF (cf251 n) (drawK (cf251 n)) (lms2 (lsl251 n)) 3 251 sg251 [x0, x1] = F251 n x0 x1 := by kernel_rfl
theorem lp251_251_2 (n : Nat) (K : Ex → St → Option (List T)) (self : List T → Option (List T)) (v : List T) : evC (cf251 n) (callK (cf251 n) (drawK (cf251 n)) (lms2 (lsl251 n)) 3) (drawK (cf251 n) (callK (cf251 n) (drawK (cf251 n)) (lms2 (lsl251 n)) 3)) (ann251 251) (lm251_251 n) (bodyOf Go.Proofs.Try.f251 2) ((L251_251_2 n).sk.fill v) (roundK (ann251 251 2) K (selfK (L251_251_2 n) self)) = (L251_251_2 n).G v self (exitK (L251_251_2 n) K) := by kernel_rfl
theorem eo251 (n : Nat) : EnvOk Go.Proofs.Try.prog (tiOf tab) n 251 sg251 ⟨M251⟩ :=
  have hc : CodeOk Go.Proofs.Try.prog (cf251 n) := (code_cons Go.Proofs.Try.func251 (by kernel_rfl) code_nil)
  have he : EnvsOk Go.Proofs.Try.prog (cf251 n) := env_nil
  have hl : LmsOk (R := List T) (cf251 n) (drawK (cf251 n)) (lms2 (lsl251 n)) (lsl251 n) := (lms_cons (loops_of (cf := cf251 n) (fn0 := Go.Proofs.Try.f251) rfl (l := [bodyOf Go.Proofs.Try.f251 2]) (by kernel_rfl) (loops_cons (b := bodyOf Go.Proofs.Try.f251 2) (by kernel_rfl) (rfl : lm251_251 n 2 = [L251_251_2 n]) (List.forall_mem_cons.2 ⟨fun K self v => lp251_251_2 n K self v, fun _ h => by cases h⟩) loops_nil)) lms_nil)
  envOk_of (cf := cf251 n) tabOk hc he (draw := drawK (cf251 n)) (fun _ => drawK_ok tabOk mixed hc he) (d := 3) (lms := lms2 (lsl251 n)) hl
    (fun τs rs h => by
      simp only [M251] at h
      split at h
      · exact (ev251 n _ _).trans h
      · cases h)
/-! ### 203: slices.Contains[[]int64,int64] -/
def sg203 : Sig := ⟨[(false, [.slice 2]), (false, [.int .i64])], [.leaf .bool false]⟩
def F203 (n : Nat) (x0 x1 : T) : Option (List T) :=
  (F251 n x0 x1).bind fun r1 => some [.b (decide ((r1.headD (.i 0)).I ≥ 0))]
def M203 (n : Nat) (τs : List T) : Option (List T) := match τs with
  | [x0, x1] => F203 n x0 x1
  | _ => none
noncomputable def code203 : List (Nat × Func) := [(203, Go.Proofs.Try.f203)]
def env203 : List (Nat × (Sig × Mean)) := [(251, sg251, ⟨M251⟩)]
def ann203 (f i : Nat) : Ann := match f, i with
  | _, _ => ⟨[], [], []⟩
def lsl203 (n : Nat) : List ((Nat × Nat) × (Nat → List LoopM)) := []
noncomputable def cf203 (n : Nat) : Cfg := ⟨tiOf tab, lookup code203, lookup env203, ann203, n⟩
theorem ev203 (n : Nat) (x0 x1 : T) : evF (cf203 n) (drawK (cf203 n)) (lms2 (lsl203 n)) 3 203 sg203 [x0, x1] = F203 n x0 x1 := by kernel_rfl
theorem eo203 (n : Nat) : EnvOk Go.Proofs.Try.prog (tiOf tab) n 203 sg203 ⟨M203⟩ :=
  have hc : CodeOk Go.Proofs.Try.prog (cf203 n) := (code_cons Go.Proofs.Try.func203 (by kernel_rfl) code_nil)
  have he : EnvsOk Go.Proofs.Try.prog (cf203 n) := (env_cons (eo251 n) env_nil)
  have hl : LmsOk (R := List T) (cf203 n) (drawK (cf203 n)) (lms2 (lsl203 n)) (lsl203 n) := lms_nil
  envOk_of (cf := cf203 n) tabOk hc he (draw := drawK (cf203 n)) (fun _ => drawK_ok tabOk mixed hc he) (d := 3) (lms := lms2 (lsl203 n)) hl
    (fun τs rs h => by
      simp only [M203] at h
      split at h
      · exact (ev203 n _ _).trans h
      · cases h)
/-! ### 105: impl.Recv).piecesCode -/
def sg105 : Sig := ⟨[(true, [.int .i64, .slice 2, .slice 132, .slice 2])], [.leaf (.int .i64) false]⟩
def G105_105_2 {R : Type} (n : Nat) (v : List T) (self : List T → Option R) (ex : List (List T → Option R)) : Option R :=
  bif (decide ((v.getD 2 (.i 0)).I < (v.getD 1 (.i 0)).I)) then (if 0 ≤ (v.getD 2 (.i 0)).I ∧ (v.getD 2 (.i 0)).I < (((v.getD 0 (.i 0)).L).length : Int) then ((F184 n ((at_ ((v.getD 0 (.i 0)).L) ((v.getD 2 (.i 0)).I)).F 0) ((at_ ((v.getD 0 (.i 0)).L) ((v.getD 2 (.i 0)).I)).F 1) ((at_ ((v.getD 0 (.i 0)).L) ((v.getD 2 (.i 0)).I)).F 2) ((at_ ((v.getD 0 (.i 0)).L) ((v.getD 2 (.i 0)).I)).F 3) ((at_ ((v.getD 0 (.i 0)).L) ((v.getD 2 (.i 0)).I)).F 4) ((at_ ((v.getD 0 (.i 0)).L) ((v.getD 2 (.i 0)).I)).F 5) ((at_ ((v.getD 0 (.i 0)).L) ((v.getD 2 (.i 0)).I)).F 6)).bind fun r1 => bif ((r1.headD (.i 0)).I != 0) then (exn ex 0 [.i ((r1.headD (.i 0)).I)]) else (bif (decide ((v.getD 2 (.i 0)).I > 0)) then (if 0 ≤ (IntKind.wrap .i64 ((v.getD 2 (.i 0)).I - 1)) ∧ (IntKind.wrap .i64 ((v.getD 2 (.i 0)).I - 1)) < (((v.getD 5 (.i 0)).L).length : Int) then ((F202 n ((at_ ((v.getD 5 (.i 0)).L) (IntKind.wrap .i64 ((v.getD 2 (.i 0)).I - 1))).F 0) ((at_ ((v.getD 0 (.i 0)).L) ((v.getD 2 (.i 0)).I)).F 0)).bind fun r2 => bif (decide ((v.getD 2 (.i 0)).I > 0)) then (bif (!(r2.headD (.i 0)).B) then (exn ex 0 [.i 1]) else ((F142 n (.i ((v.getD 3 (.i 0)).I)) ((at_ ((v.getD 0 (.i 0)).L) ((v.getD 2 (.i 0)).I)).F 0)).bind fun r3 => (F167 n (r3.headD (.i 0)) (.i 1) (.i 2147483647)).bind fun r4 => bif (r4.headD (.i 0)).B then ((F203 n (.l ((v.getD 4 (.i 0)).L)) ((at_ ((v.getD 0 (.i 0)).L) ((v.getD 2 (.i 0)).I)).F 0)).bind fun r5 => bif (!(r5.headD (.i 0)).B) then (exn ex 0 [.i 8]) else (self [.l ((v.getD 0 (.i 0)).L), .i ((v.getD 1 (.i 0)).I), .i (IntKind.wrap .i64 ((v.getD 2 (.i 0)).I + 1)), .i ((v.getD 3 (.i 0)).I), .l ((v.getD 4 (.i 0)).L), .l ((v.getD 5 (.i 0)).L), .l ((v.getD 6 (.i 0)).L)])) else (self [.l ((v.getD 0 (.i 0)).L), .i ((v.getD 1 (.i 0)).I), .i (IntKind.wrap .i64 ((v.getD 2 (.i 0)).I + 1)), .i ((v.getD 3 (.i 0)).I), .l ((v.getD 4 (.i 0)).L), .l ((v.getD 5 (.i 0)).L), .l ((v.getD 6 (.i 0)).L)]))) else ((F142 n (.i ((v.getD 3 (.i 0)).I)) ((at_ ((v.getD 0 (.i 0)).L) ((v.getD 2 (.i 0)).I)).F 0)).bind fun r6 => (F167 n (r6.headD (.i 0)) (.i 1) (.i 2147483647)).bind fun r7 => bif (r7.headD (.i 0)).B then ((F203 n (.l ((v.getD 4 (.i 0)).L)) ((at_ ((v.getD 0 (.i 0)).L) ((v.getD 2 (.i 0)).I)).F 0)).bind fun r8 => bif (!(r8.headD (.i 0)).B) then (exn ex 0 [.i 8]) else (self [.l ((v.getD 0 (.i 0)).L), .i ((v.getD 1 (.i 0)).I), .i (IntKind.wrap .i64 ((v.getD 2 (.i 0)).I + 1)), .i ((v.getD 3 (.i 0)).I), .l ((v.getD 4 (.i 0)).L), .l ((v.getD 5 (.i 0)).L), .l ((v.getD 6 (.i 0)).L)])) else (self [.l ((v.getD 0 (.i 0)).L), .i ((v.getD 1 (.i 0)).I), .i (IntKind.wrap .i64 ((v.getD 2 (.i 0)).I + 1)), .i ((v.getD 3 (.i 0)).I), .l ((v.getD 4 (.i 0)).L), .l ((v.getD 5 (.i 0)).L), .l ((v.getD 6 (.i 0)).L)]))) else none) else (bif (decide ((v.getD 2 (.i 0)).I > 0)) then none else ((F142 n (.i ((v.getD 3 (.i 0)).I)) ((at_ ((v.getD 0 (.i 0)).L) ((v.getD 2 (.i 0)).I)).F 0)).bind fun r9 => (F167 n (r9.headD (.i 0)) (.i 1) (.i 2147483647)).bind fun r10 => bif (r10.headD (.i 0)).B then ((F203 n (.l ((v.getD 4 (.i 0)).L)) ((at_ ((v.getD 0 (.i 0)).L) ((v.getD 2 (.i 0)).I)).F 0)).bind fun r11 => bif (!(r11.headD (.i 0)).B) then (exn ex 0 [.i 8]) else (self [.l ((v.getD 0 (.i 0)).L), .i ((v.getD 1 (.i 0)).I), .i (IntKind.wrap .i64 ((v.getD 2 (.i 0)).I + 1)), .i ((v.getD 3 (.i 0)).I), .l ((v.getD 4 (.i 0)).L), .l ((v.getD 5 (.i 0)).L), .l ((v.getD 6 (.i 0)).L)])) else (self [.l ((v.getD 0 (.i 0)).L), .i ((v.getD 1 (.i 0)).I), .i (IntKind.wrap .i64 ((v.getD 2 (.i 0)).I + 1)), .i ((v.getD 3 (.i 0)).I), .l ((v.getD 4 (.i 0)).L), .l ((v.getD 5 (.i 0)).L), .l ((v.getD 6 (.i 0)).L)]))))) else none) else (exn ex 1 [])
def L105_105_2 (n : Nat) : LoopM := ⟨⟨[[.un, .pb 0 0, .un, .un, .un, .un, .un, .t (.slice 132) (.i 0), .t (.int .i64) (.i 0), .t (.int .i64) (.i 0), .un, .un, .un, .un, .un, .un, .un, .un, .un, .un, .un, .un, .un, .un, .un, .un, .un, .un, .un, .un, .un, .un, .un, .un, .un, .un, .un, .un, .un, .un, .un, .un, .un, .un, .un, .un, .un, .un, .un, .un, .un]], [.box [.t (.int .i64) (.i 0), .t (.slice 2) (.i 0), .t (.slice 132) (.i 0), .t (.slice 2) (.i 0)]]⟩, [(.ret, ⟨[[.un, .un, .t (.int .i64) (.i 0), .un, .un, .un, .un, .un, .un, .un, .un, .un, .un, .un, .un, .un, .un, .un, .un, .un, .un, .un, .un, .un, .un, .un, .un, .un, .un, .un, .un, .un, .un, .un, .un, .un, .un, .un, .un, .un, .un, .un, .un, .un, .un, .un, .un, .un, .un, .un, .un]], []⟩), (.exit 0, ⟨[[.un, .un, .un, .un, .un, .un, .un, .un, .un, .un, .un, .un, .un, .un, .un, .un, .un, .un, .un, .un, .un, .un, .un, .un, .un, .un, .un, .un, .un, .un, .un, .un, .un, .un, .un, .un, .un, .un, .un, .un, .un, .un, .un, .un, .un, .un, .un, .un, .un, .un, .un]], []⟩)], fun v self ex => G105_105_2 n v self ex⟩
def F105 (n : Nat) (x0 x1 x2 x3 : T) : Option (List T) :=
  loopR (L105_105_2 n).G n [.l x2.L, .i (x2.L.length : Int), .i 0, .i x0.I, .l x1.L, .l x2.L, .l x3.L] [fun u12 => some [.i ((u12.getD 0 (.i 0)).I)], fun u13 => some [.i 0]]
def M105 (n : Nat) (τs : List T) : Option (List T) := match τs with
  | [x0, x1, x2, x3] => F105 n x0 x1 x2 x3
  | _ => none
noncomputable def code105 : List (Nat × Func) := [(105, Go.Proofs.Try.f105)]
def env105 : List (Nat × (Sig × Mean)) := [(142, sg142, ⟨M142⟩), (167, sg167, ⟨M167⟩), (184, sg184, ⟨M184⟩), (202, sg202, ⟨M202⟩), (203, sg203, ⟨M203⟩)]
def ann105 (f i : Nat) : Ann := match f, i with
  | 105, 2 => ⟨[(1, .any), (7, .any), (8, .any), (9, .any)], [], [(2, .any)]⟩
  | _, _ => ⟨[], [], []⟩
def lm105_105 (n : Nat) (i : Nat) : List LoopM := match i with
  | 2 => [L105_105_2 n]
  | _ => []
def lsl105 (n : Nat) : List ((Nat × Nat) × (Nat → List LoopM)) := [((3, 105), lm105_105 n)]
noncomputable def cf105 (n : Nat) : Cfg := ⟨tiOf tab, lookup code105, lookup env105, ann105, n⟩
theorem ev105 (n : Nat) (x0 x1 x2 x3 : T) : evF (cf105 n) (drawK (cf105 n)) (lms2 (lsl105 n)) 3 105 sg105 [x0, x1, x2, x3] = F105 n x0 x1 x2 x3 := by kernel_rfl
theorem lp105_105_2 (n : Nat) (K : Ex → St → Option (List T)) (self : List T → Option (List T)) (v : List T) : evC (cf105 n) (callK (cf105 n) (drawK (cf105 n)) (lms2 (lsl105 n)) 3) (drawK (cf105 n) (callK (cf105 n) (drawK (cf105 n)) (lms2 (lsl105 n)) 3)) (ann105 105) (lm105_105 n) (bodyOf Go.Proofs.Try.f105 2) ((L105_105_2 n).sk.fill v) (roundK (ann105 105 2) K (selfK (L105_105_2 n) self)) = (L105_105_2 n).G v self (exitK (L105_105_2 n) K) := by kernel_rfl
theorem eo105 (n : Nat) : EnvOk Go.Proofs.Try.prog (tiOf tab) n 105 sg105 ⟨M105⟩ :=
  have hc : CodeOk Go.Proofs.Try.prog (cf105 n) := (code_cons Go.Proofs.Try.func105 (by kernel_rfl) code_nil)
  have he : EnvsOk Go.Proofs.Try.prog (cf105 n) := (env_cons (eo142 n) (env_cons (eo167 n) (env_cons (eo184 n) (env_cons (eo202 n) (env_cons (eo203 n) env_nil)))))
  have hl : LmsOk (R := List T) (cf105 n) (drawK (cf105 n)) (lms2 (lsl105 n)) (lsl105 n) := (lms_cons (loops_of (cf := cf105 n) (fn0 := Go.Proofs.Try.f105) rfl (l := [bodyOf Go.Proofs.Try.f105 2]) (by kernel_rfl) (loops_cons (b := bodyOf Go.Proofs.Try.f105 2) (by kernel_rfl) (rfl : lm105_105 n 2 = [L105_105_2 n]) (List.forall_mem_cons.2 ⟨fun K self v => lp105_105_2 n K self v, fun _ h => by cases h⟩) loops_nil)) lms_nil)
  envOk_of (cf := cf105 n) tabOk hc he (draw := drawK (cf105 n)) (fun _ => drawK_ok tabOk mixed hc he) (d := 3) (lms := lms2 (lsl105 n)) hl
    (fun τs rs h => by
      simp only [M105] at h
      split at h
      · exact (ev105 n _ _ _ _).trans h
      · cases h)
/-! ### 205: impl.arePairs$1 -/
def sg205 : Sig := ⟨[(false, [.int .i64])], [.leaf .bool false]⟩
def F205 (n : Nat) (x0 : T) : Option (List T) :=
  (F206 n x0).bind fun r1 => some [.b (!(r1.headD (.i 0)).B)]
def M205 (n : Nat) (τs : List T) : Option (List T) := match τs with
  | [x0] => F205 n x0
  | _ => none
noncomputable def code205 : List (Nat × Func) := [(205, Go.Proofs.Try.f205)]
def env205 : List (Nat × (Sig × Mean)) := [(206, sg206, ⟨M206⟩)]
def ann205 (f i : Nat) : Ann := match f, i with
  | _, _ => ⟨[], [], []⟩
def lsl205 (n : Nat) : List ((Nat × Nat) × (Nat → List LoopM)) := []
noncomputable def cf205 (n : Nat) : Cfg := ⟨tiOf tab, lookup code205, lookup env205, ann205, n⟩
theorem ev205 (n : Nat) (x0 : T) : evF (cf205 n) (drawK (cf205 n)) (lms2 (lsl205 n)) 3 205 sg205 [x0] = F205 n x0 := by kernel_rfl
theorem eo205 (n : Nat) : EnvOk Go.Proofs.Try.prog (tiOf tab) n 205 sg205 ⟨M205⟩ :=
  have hc : CodeOk Go.Proofs.Try.prog (cf205 n) := (code_cons Go.Proofs.Try.func205 (by kernel_rfl) code_nil)
  have he : EnvsOk Go.Proofs.Try.prog (cf205 n) := (env_cons (eo206 n) env_nil)
  have hl : LmsOk (R := List T) (cf205 n) (drawK (cf205 n)) (lms2 (lsl205 n)) (lsl205 n) := lms_nil
  envOk_of (cf := cf205 n) tabOk hc he (draw := drawK (cf205 n)) (fun _ => drawK_ok tabOk mixed hc he) (d := 3) (lms := lms2 (lsl205 n)) hl
    (fun τs rs h => by
      simp only [M205] at h
      split at h
      · exact (ev205 n _).trans h
      · cases h)
/-! ### 106: impl.arePairs -/
def sg106 : Sig := ⟨[(false, [.slice 2])], [.leaf .bool false]⟩
def G106_252_2 {R : Type} (n : Nat) (v : List T) (self : List T → Option R) (ex : List (List T → Option R)) : Option R :=
  bif (decide ((v.getD 2 (.i 0)).I < (v.getD 1 (.i 0)).I)) then (if 0 ≤ (v.getD 2 (.i 0)).I ∧ (v.getD 2 (.i 0)).I < (((v.getD 0 (.i 0)).L).length : Int) then ((F205 n (at_ ((v.getD 0 (.i 0)).L) ((v.getD 2 (.i 0)).I))).bind fun r1 => bif (r1.headD (.i 0)).B then (exn ex 0 [.i ((v.getD 2 (.i 0)).I), .l ((v.getD 3 (.i 0)).L), .b ((v.getD 4 (.i 0)).B), .l ((v.getD 5 (.i 0)).L), .l ((v.getD 6 (.i 0)).L), .b ((v.getD 7 (.i 0)).B), .l ((v.getD 8 (.i 0)).L)]) else (self [.l ((v.getD 0 (.i 0)).L), .i ((v.getD 1 (.i 0)).I), .i (IntKind.wrap .i64 ((v.getD 2 (.i 0)).I + 1)), .l ((v.getD 3 (.i 0)).L), .b ((v.getD 4 (.i 0)).B), .l ((v.getD 5 (.i 0)).L), .l ((v.getD 6 (.i 0)).L), .b ((v.getD 7 (.i 0)).B), .l ((v.getD 8 (.i 0)).L)])) else none) else (exn ex 1 [.l ((v.getD 3 (.i 0)).L), .b ((v.getD 4 (.i 0)).B), .l ((v.getD 5 (.i 0)).L), .l ((v.getD 6 (.i 0)).L), .b ((v.getD 7 (.i 0)).B), .l ((v.getD 8 (.i 0)).L)])
def L106_252_2 (n : Nat) : LoopM := ⟨⟨[[.t (.slice 2) (.i 0), .fn 205 [], .un, .un, .un, .un, .un, .t (.int .i64) (.i 0), .t (.int .i64) (.i 0), .un, .un, .un, .un, .un, .un, .un, .un, .un, .un], [.t (.slice 2) (.i 0), .fn 205 [], .tup [], .tup [], .t .bool (.i 0), .t (.slice 2) (.i 0), .fn 205 [], .tup [], .tup []], [.t (.slice 2) (.i 0), .tup [], .t .bool (.i 0), .t (.slice 2) (.i 0), .tup [], .tup []]], []⟩, [(.ret, ⟨[[.un, .un, .un, .un, .t (.int .i64) (.i 0), .un, .un, .un, .un, .un, .un, .un, .un, .un, .un, .un, .un, .un, .un], [.t (.slice 2) (.i 0), .fn 205 [], .tup [], .tup [], .t .bool (.i 0), .t (.slice 2) (.i 0), .fn 205 [], .tup [], .tup []], [.t (.slice 2) (.i 0), .tup [], .t .bool (.i 0), .t (.slice 2) (.i 0), .tup [], .tup []]], []⟩), (.exit 0, ⟨[[.un, .un, .un, .un, .un, .un, .un, .un, .un, .un, .un, .un, .un, .un, .un, .un, .un, .un, .un], [.t (.slice 2) (.i 0), .fn 205 [], .tup [], .tup [], .t .bool (.i 0), .t (.slice 2) (.i 0), .fn 205 [], .tup [], .tup []], [.t (.slice 2) (.i 0), .tup [], .t .bool (.i 0), .t (.slice 2) (.i 0), .tup [], .tup []]], []⟩)], fun v self ex => G106_252_2 n v self ex⟩
def F106 (n : Nat) (x0 : T) : Option (List T) :=
  loopR (L106_252_2 n).G n [.l x0.L, .i (x0.L.length : Int), .i 0, .l x0.L, .b false, .l x0.L, .l x0.L, .b false, .l x0.L] [fun u2 => some [.b (!(decide ((u2.getD 0 (.i 0)).I ≥ 0)))], fun u3 => some [.b true]]
def M106 (n : Nat) (τs : List T) : Option (List T) := match τs with
  | [x0] => F106 n x0
  | _ => none
noncomputable def code106 : List (Nat × Func) := [(106, Go.Proofs.Try.f106), (204, Go.Proofs.Try.f204), (252, Go.Proofs.Try.f252)]
def env106 : List (Nat × (Sig × Mean)) := [(205, sg205, ⟨M205⟩)]
def ann106 (f i : Nat) : Ann := match f, i with
  | 252, 2 => ⟨[(0, .any), (1, .any), (7, .any), (8, .any)], [], [(4, .any)]⟩
  | _, _ => ⟨[], [], []⟩
def lm106_252 (n : Nat) (i : Nat) : List LoopM := match i with
  | 2 => [L106_252_2 n]
  | _ => []
def lsl106 (n : Nat) : List ((Nat × Nat) × (Nat → List LoopM)) := [((1, 252), lm106_252 n)]
noncomputable def cf106 (n : Nat) : Cfg := ⟨tiOf tab, lookup code106, lookup env106, ann106, n⟩
theorem ev106 (n : Nat) (x0 : T) : evF (cf106 n) (drawK (cf106 n)) (lms2 (lsl106 n)) 3 106 sg106 [x0] = F106 n x0 := by kernel_rfl
theorem lp106_252_2 (n : Nat) (K : Ex → St → Option (List T)) (self : List T → Option (List T)) (v : List T) : evC (cf106 n) (callK (cf106 n) (drawK (cf106 n)) (lms2 (lsl106 n)) 1) (drawK (cf106 n) (callK (cf106 n) (drawK (cf106 n)) (lms2 (lsl106 n)) 1)) (ann106 252) (lm106_252 n) (bodyOf Go.Proofs.Try.f252 2) ((L106_252_2 n).sk.fill v) (roundK (ann106 252 2) K (selfK (L106_252_2 n) self)) = (L106_252_2 n).G v self (exitK (L106_252_2 n) K) := by kernel_rfl
theorem eo106 (n : Nat) : EnvOk Go.Proofs.Try.prog (tiOf tab) n 106 sg106 ⟨M106⟩ :=
  have hc : CodeOk Go.Proofs.Try.prog (cf106 n) := (code_cons Go.Proofs.Try.func106 (by kernel_rfl) (code_cons Go.Proofs.Try.func204 (by kernel_rfl) (code_cons Go.Proofs.Try.func252 (by kernel_rfl) code_nil)))
  have he : EnvsOk Go.Proofs.Try.prog (cf106 n) := (env_cons (eo205 n) env_nil)
  have hl : LmsOk (R := List T) (cf106 n) (drawK (cf106 n)) (lms2 (lsl106 n)) (lsl106 n) := (lms_cons (loops_of (cf := cf106 n) (fn0 := Go.Proofs.Try.f252) rfl (l := [bodyOf Go.Proofs.Try.f252 2]) (by kernel_rfl) (loops_cons (b := bodyOf Go.Proofs.Try.f252 2) (by kernel_rfl) (rfl : lm106_252 n 2 = [L106_252_2 n]) (List.forall_mem_cons.2 ⟨fun K self v => lp106_252_2 n K self v, fun _ h => by cases h⟩) loops_nil)) lms_nil)
  envOk_of (cf := cf106 n) tabOk hc he (draw := drawK (cf106 n)) (fun _ => drawK_ok tabOk mixed hc he) (d := 3) (lms := lms2 (lsl106 n)) hl
    (fun τs rs h => by
      simp only [M106] at h
      split at h
      · exact (ev106 n _).trans h
      · cases h)
/-! ### 16: impl.RecvFault -/
def sg16 : Sig := ⟨[(true, [.int .i64, .slice 2, .slice 132, .slice 2])], [.leaf (.int .i64) false]⟩
def F16 (n : Nat) (x0 x1 x2 x3 : T) : Option (List T) :=
  (F103 n x0).bind fun r1 => bif (!(r1.headD (.i 0)).B) then (some [.i 3]) else (bif (decide ((x1.L.length : Int) > 16)) then (some [.i 2]) else (bif (decide ((x2.L.length : Int) > 64)) then (some [.i 2]) else (bif ((x3.L.length : Int) != 10) then (some [.i 2]) else ((F104 n x0 x1 x2 x3).bind fun r2 => bif ((r2.headD (.i 0)).I != 0) then (some [(r2.headD (.i 0))]) else ((F105 n x0 x1 x2 x3).bind fun r3 => bif ((r3.headD (.i 0)).I != 0) then (some [(r3.headD (.i 0))]) else ((F106 n x3).bind fun r4 => bif (!(r4.headD (.i 0)).B) then (some [.i 3]) else (some [.i 0])))))))
def M16 (n : Nat) (τs : List T) : Option (List T) := match τs with
  | [x0, x1, x2, x3] => F16 n x0 x1 x2 x3
  | _ => none
noncomputable def code16 : List (Nat × Func) := [(16, Go.Proofs.Try.f16)]
def env16 : List (Nat × (Sig × Mean)) := [(103, sg103, ⟨M103⟩), (104, sg104, ⟨M104⟩), (105, sg105, ⟨M105⟩), (106, sg106, ⟨M106⟩)]
def ann16 (f i : Nat) : Ann := match f, i with
  | _, _ => ⟨[], [], []⟩
def lsl16 (n : Nat) : List ((Nat × Nat) × (Nat → List LoopM)) := []
noncomputable def cf16 (n : Nat) : Cfg := ⟨tiOf tab, lookup code16, lookup env16, ann16, n⟩
theorem ev16 (n : Nat) (x0 x1 x2 x3 : T) : evF (cf16 n) (drawK (cf16 n)) (lms2 (lsl16 n)) 3 16 sg16 [x0, x1, x2, x3] = F16 n x0 x1 x2 x3 := by kernel_rfl
theorem eo16 (n : Nat) : EnvOk Go.Proofs.Try.prog (tiOf tab) n 16 sg16 ⟨M16⟩ :=
  have hc : CodeOk Go.Proofs.Try.prog (cf16 n) := (code_cons Go.Proofs.Try.func16 (by kernel_rfl) code_nil)
  have he : EnvsOk Go.Proofs.Try.prog (cf16 n) := (env_cons (eo103 n) (env_cons (eo104 n) (env_cons (eo105 n) (env_cons (eo106 n) env_nil))))
  have hl : LmsOk (R := List T) (cf16 n) (drawK (cf16 n)) (lms2 (lsl16 n)) (lsl16 n) := lms_nil
  envOk_of (cf := cf16 n) tabOk hc he (draw := drawK (cf16 n)) (fun _ => drawK_ok tabOk mixed hc he) (d := 3) (lms := lms2 (lsl16 n)) hl
    (fun τs rs h => by
      simp only [M16] at h
      split at h
      · exact (ev16 n _ _ _ _).trans h
      · cases h)
/-! ### 107: laws.eqInt64S -/
def sg107 : Sig := ⟨[(false, [.slice 2]), (false, [.slice 2])], [.leaf .bool false]⟩
def G107_107_4 {R : Type} (n : Nat) (v : List T) (self : List T → Option R) (ex : List (List T → Option R)) : Option R :=
  bif (decide ((v.getD 2 (.i 0)).I < ((((v.getD 0 (.i 0)).L).length : Nat) : Int))) then (if 0 ≤ (v.getD 2 (.i 0)).I ∧ (v.getD 2 (.i 0)).I < (((v.getD 0 (.i 0)).L).length : Int) then (if 0 ≤ (v.getD 2 (.i 0)).I ∧ (v.getD 2 (.i 0)).I < (((v.getD 1 (.i 0)).L).length : Int) then (bif ((at_ ((v.getD 0 (.i 0)).L) ((v.getD 2 (.i 0)).I)).I != (at_ ((v.getD 1 (.i 0)).L) ((v.getD 2 (.i 0)).I)).I) then (exn ex 0 [.b false]) else (self [.l ((v.getD 0 (.i 0)).L), .l ((v.getD 1 (.i 0)).L), .i (IntKind.wrap .i64 ((v.getD 2 (.i 0)).I + 1))])) else none) else none) else (exn ex 1 [])
def L107_107_4 (n : Nat) : LoopM := ⟨⟨[[.t (.slice 2) (.i 0), .t (.slice 2) (.i 0), .un, .un, .un, .t (.int .i64) (.i 0), .un, .un, .un, .un, .un, .un, .un, .un, .un, .un, .un, .un, .un, .un, .un, .un, .un, .un, .un, .un]], []⟩, [(.ret, ⟨[[.un, .un, .un, .un, .t .bool (.i 0), .un, .un, .un, .un, .un, .un, .un, .un, .un, .un, .un, .un, .un, .un, .un, .un, .un, .un, .un, .un, .un]], []⟩), (.exit 0, ⟨[[.un, .un, .un, .un, .un, .un, .un, .un, .un, .un, .un, .un, .un, .un, .un, .un, .un, .un, .un, .un, .un, .un, .un, .un, .un, .un]], []⟩)], fun v self ex => G107_107_4 n v self ex⟩
def F107 (n : Nat) (x0 x1 : T) : Option (List T) :=
  bif ((x0.L.length : Int) != (x1.L.length : Int)) then (some [.b false]) else (loopR (L107_107_4 n).G n [.l x0.L, .l x1.L, .i 0] [fun u1 => some [.b ((u1.getD 0 (.i 0)).B)], fun u2 => some [.b true]])
def M107 (n : Nat) (τs : List T) : Option (List T) := match τs with
  | [x0, x1] => F107 n x0 x1
  | _ => none
noncomputable def code107 : List (Nat × Func) := [(107, Go.Proofs.Try.f107)]
def env107 : List (Nat × (Sig × Mean)) := []
def ann107 (f i : Nat) : Ann := match f, i with
  | 107, 4 => ⟨[(0, .any), (1, .any), (5, .any)], [], [(4, .any)]⟩
  | _, _ => ⟨[], [], []⟩
def lm107_107 (n : Nat) (i : Nat) : List LoopM := match i with
  | 4 => [L107_107_4 n]
  | _ => []
def lsl107 (n : Nat) : List ((Nat × Nat) × (Nat → List LoopM)) := [((3, 107), lm107_107 n)]
noncomputable def cf107 (n : Nat) : Cfg := ⟨tiOf tab, lookup code107, lookup env107, ann107, n⟩
theorem ev107 (n : Nat) (x0 x1 : T) : evF (cf107 n) (drawK (cf107 n)) (lms2 (lsl107 n)) 3 107 sg107 [x0, x1] = F107 n x0 x1 := by kernel_rfl
theorem lp107_107_4 (n : Nat) (K : Ex → St → Option (List T)) (self : List T → Option (List T)) (v : List T) : evC (cf107 n) (callK (cf107 n) (drawK (cf107 n)) (lms2 (lsl107 n)) 3) (drawK (cf107 n) (callK (cf107 n) (drawK (cf107 n)) (lms2 (lsl107 n)) 3)) (ann107 107) (lm107_107 n) (bodyOf Go.Proofs.Try.f107 4) ((L107_107_4 n).sk.fill v) (roundK (ann107 107 4) K (selfK (L107_107_4 n) self)) = (L107_107_4 n).G v self (exitK (L107_107_4 n) K) := by kernel_rfl
theorem eo107 (n : Nat) : EnvOk Go.Proofs.Try.prog (tiOf tab) n 107 sg107 ⟨M107⟩ :=
  have hc : CodeOk Go.Proofs.Try.prog (cf107 n) := (code_cons Go.Proofs.Try.func107 (by kernel_rfl) code_nil)
  have he : EnvsOk Go.Proofs.Try.prog (cf107 n) := env_nil
  have hl : LmsOk (R := List T) (cf107 n) (drawK (cf107 n)) (lms2 (lsl107 n)) (lsl107 n) := (lms_cons (loops_of (cf := cf107 n) (fn0 := Go.Proofs.Try.f107) rfl (l := [bodyOf Go.Proofs.Try.f107 4]) (by kernel_rfl) (loops_cons (b := bodyOf Go.Proofs.Try.f107 4) (by kernel_rfl) (rfl : lm107_107 n 4 = [L107_107_4 n]) (List.forall_mem_cons.2 ⟨fun K self v => lp107_107_4 n K self v, fun _ h => by cases h⟩) loops_nil)) lms_nil)
  envOk_of (cf := cf107 n) tabOk hc he (draw := drawK (cf107 n)) (fun _ => drawK_ok tabOk mixed hc he) (d := 3) (lms := lms2 (lsl107 n)) hl
    (fun τs rs h => by
      simp only [M107] at h
      split at h
      · exact (ev107 n _ _).trans h
      · cases h)
/-! ### 253: laws.eqByteS -/
def sg253 : Sig := ⟨[(false, [.slice 5]), (false, [.slice 5])], [.leaf .bool false]⟩
def G253_253_4 {R : Type} (n : Nat) (v : List T) (self : List T → Option R) (ex : List (List T → Option R)) : Option R :=
  bif (decide ((v.getD 2 (.i 0)).I < ((((v.getD 0 (.i 0)).L).length : Nat) : Int))) then (if 0 ≤ (v.getD 2 (.i 0)).I ∧ (v.getD 2 (.i 0)).I < (((v.getD 0 (.i 0)).L).length : Int) then (if 0 ≤ (v.getD 2 (.i 0)).I ∧ (v.getD 2 (.i 0)).I < (((v.getD 1 (.i 0)).L).length : Int) then (bif ((at_ ((v.getD 0 (.i 0)).L) ((v.getD 2 (.i 0)).I)).I != (at_ ((v.getD 1 (.i 0)).L) ((v.getD 2 (.i 0)).I)).I) then (exn ex 0 [.b false]) else (self [.l ((v.getD 0 (.i 0)).L), .l ((v.getD 1 (.i 0)).L), .i (IntKind.wrap .i64 ((v.getD 2 (.i 0)).I + 1))])) else none) else none) else (exn ex 1 [])
def L253_253_4 (n : Nat) : LoopM := ⟨⟨[[.t (.slice 5) (.i 0), .t (.slice 5) (.i 0), .un, .un, .un, .t (.int .i64) (.i 0), .un, .un, .un, .un, .un, .un, .un, .un, .un, .un, .un, .un, .un, .un, .un, .un, .un, .un, .un, .un]], []⟩, [(.ret, ⟨[[.un, .un, .un, .un, .t .bool (.i 0), .un, .un, .un, .un, .un, .un, .un, .un, .un, .un, .un, .un, .un, .un, .un, .un, .un, .un, .un, .un, .un]], []⟩), (.exit 0, ⟨[[.un, .un, .un, .un, .un, .un, .un, .un, .un, .un, .un, .un, .un, .un, .un, .un, .un, .un, .un, .un, .un, .un, .un, .un, .un, .un]], []⟩)], fun v self ex => G253_253_4 n v self ex⟩
def F253 (n : Nat) (x0 x1 : T) : Option (List T) :=
  bif ((x0.L.length : Int) != (x1.L.length : Int)) then (some [.b false]) else (loopR (L253_253_4 n).G n [.l x0.L, .l x1.L, .i 0] [fun u1 => some [.b ((u1.getD 0 (.i 0)).B)], fun u2 => some [.b true]])
def M253 (n : Nat) (τs : List T) : Option (List T) := match τs with
  | [x0, x1] => F253 n x0 x1
  | _ => none
noncomputable def code253 : List (Nat × Func) := [(253, Go.Proofs.Try.f253)]
def env253 : List (Nat × (Sig × Mean)) := []
def ann253 (f i : Nat) : Ann := match f, i with
  | 253, 4 => ⟨[(0, .any), (1, .any), (5, .any)], [], [(4, .any)]⟩
  | _, _ => ⟨[], [], []⟩
def lm253_253 (n : Nat) (i : Nat) : List LoopM := match i with
  | 4 => [L253_253_4 n]
  | _ => []
def lsl253 (n : Nat) : List ((Nat × Nat) × (Nat → List LoopM)) := [((3, 253), lm253_253 n)]
noncomputable def cf253 (n : Nat) : Cfg := ⟨tiOf tab, lookup code253, lookup env253, ann253, n⟩
theorem ev253 (n : Nat) (x0 x1 : T) : evF (cf253 n) (drawK (cf253 n)) (lms2 (lsl253 n)) 3 253 sg253 [x0, x1] = F253 n x0 x1 := by kernel_rfl
theorem lp253_253_4 (n : Nat) (K : Ex → St → Option (List T)) (self : List T → Option (List T)) (v : List T) : evC (cf253 n) (callK (cf253 n) (drawK (cf253 n)) (lms2 (lsl253 n)) 3) (drawK (cf253 n) (callK (cf253 n) (drawK (cf253 n)) (lms2 (lsl253 n)) 3)) (ann253 253) (lm253_253 n) (bodyOf Go.Proofs.Try.f253 4) ((L253_253_4 n).sk.fill v) (roundK (ann253 253 4) K (selfK (L253_253_4 n) self)) = (L253_253_4 n).G v self (exitK (L253_253_4 n) K) := by kernel_rfl
theorem eo253 (n : Nat) : EnvOk Go.Proofs.Try.prog (tiOf tab) n 253 sg253 ⟨M253⟩ :=
  have hc : CodeOk Go.Proofs.Try.prog (cf253 n) := (code_cons Go.Proofs.Try.func253 (by kernel_rfl) code_nil)
  have he : EnvsOk Go.Proofs.Try.prog (cf253 n) := env_nil
  have hl : LmsOk (R := List T) (cf253 n) (drawK (cf253 n)) (lms2 (lsl253 n)) (lsl253 n) := (lms_cons (loops_of (cf := cf253 n) (fn0 := Go.Proofs.Try.f253) rfl (l := [bodyOf Go.Proofs.Try.f253 4]) (by kernel_rfl) (loops_cons (b := bodyOf Go.Proofs.Try.f253 4) (by kernel_rfl) (rfl : lm253_253 n 4 = [L253_253_4 n]) (List.forall_mem_cons.2 ⟨fun K self v => lp253_253_4 n K self v, fun _ h => by cases h⟩) loops_nil)) lms_nil)
  envOk_of (cf := cf253 n) tabOk hc he (draw := drawK (cf253 n)) (fun _ => drawK_ok tabOk mixed hc he) (d := 3) (lms := lms2 (lsl253 n)) hl
    (fun τs rs h => by
      simp only [M253] at h
      split at h
      · exact (ev253 n _ _).trans h
      · cases h)
/-! ### 207: laws.eqData -/
def sg207 : Sig := ⟨[(true, [.int .i64, .int .i64, .int .i64, .bool, .bool, .bool, .slice 5]), (true, [.int .i64, .int .i64, .int .i64, .bool, .bool, .bool, .slice 5])], [.leaf .bool false]⟩
def F207 (n : Nat) (x0 x1 x2 x3 x4 x5 x6 x7 x8 x9 x10 x11 x12 x13 : T) : Option (List T) :=
  bif (x0.I != x7.I) then (some [.b false]) else (bif (x1.I != x8.I) then (some [.b false]) else (bif (x2.I != x9.I) then (some [.b false]) else (bif (!(x3.B == x10.B)) then (some [.b false]) else (bif (!(x4.B == x11.B)) then (some [.b false]) else (bif (!(x5.B == x12.B)) then (some [.b false]) else ((F253 n x6 x13).bind fun r1 => bif (!(r1.headD (.i 0)).B) then (some [.b false]) else (some [.b true])))))))
def M207 (n : Nat) (τs : List T) : Option (List T) := match τs with
  | [x0, x1, x2, x3, x4, x5, x6, x7, x8, x9, x10, x11, x12, x13] => F207 n x0 x1 x2 x3 x4 x5 x6 x7 x8 x9 x10 x11 x12 x13
  | _ => none
noncomputable def code207 : List (Nat × Func) := [(207, Go.Proofs.Try.f207)]
def env207 : List (Nat × (Sig × Mean)) := [(253, sg253, ⟨M253⟩)]
def ann207 (f i : Nat) : Ann := match f, i with
  | _, _ => ⟨[], [], []⟩
def lsl207 (n : Nat) : List ((Nat × Nat) × (Nat → List LoopM)) := []
noncomputable def cf207 (n : Nat) : Cfg := ⟨tiOf tab, lookup code207, lookup env207, ann207, n⟩
theorem ev207 (n : Nat) (x0 x1 x2 x3 x4 x5 x6 x7 x8 x9 x10 x11 x12 x13 : T) : evF (cf207 n) (drawK (cf207 n)) (lms2 (lsl207 n)) 3 207 sg207 [x0, x1, x2, x3, x4, x5, x6, x7, x8, x9, x10, x11, x12, x13] = F207 n x0 x1 x2 x3 x4 x5 x6 x7 x8 x9 x10 x11 x12 x13 := by kernel_rfl
theorem eo207 (n : Nat) : EnvOk Go.Proofs.Try.prog (tiOf tab) n 207 sg207 ⟨M207⟩ :=
  have hc : CodeOk Go.Proofs.Try.prog (cf207 n) := (code_cons Go.Proofs.Try.func207 (by kernel_rfl) code_nil)
  have he : EnvsOk Go.Proofs.Try.prog (cf207 n) := (env_cons (eo253 n) env_nil)
  have hl : LmsOk (R := List T) (cf207 n) (drawK (cf207 n)) (lms2 (lsl207 n)) (lsl207 n) := lms_nil
  envOk_of (cf := cf207 n) tabOk hc he (draw := drawK (cf207 n)) (fun _ => drawK_ok tabOk mixed hc he) (d := 3) (lms := lms2 (lsl207 n)) hl
    (fun τs rs h => by
      simp only [M207] at h
      split at h
      · exact (ev207 n _ _ _ _ _ _ _ _ _ _ _ _ _ _).trans h
      · cases h)
/-! ### 108: laws.eqDataS -/
def sg108 : Sig := ⟨[(false, [.slice 132]), (false, [.slice 132])], [.leaf .bool false]⟩
def G108_108_4 {R : Type} (n : Nat) (v : List T) (self : List T → Option R) (ex : List (List T → Option R)) : Option R :=
  bif (decide ((v.getD 2 (.i 0)).I < ((((v.getD 0 (.i 0)).L).length : Nat) : Int))) then (if 0 ≤ (v.getD 2 (.i 0)).I ∧ (v.getD 2 (.i 0)).I < (((v.getD 0 (.i 0)).L).length : Int) then (if 0 ≤ (v.getD 2 (.i 0)).I ∧ (v.getD 2 (.i 0)).I < (((v.getD 1 (.i 0)).L).length : Int) then ((F207 n ((at_ ((v.getD 0 (.i 0)).L) ((v.getD 2 (.i 0)).I)).F 0) ((at_ ((v.getD 0 (.i 0)).L) ((v.getD 2 (.i 0)).I)).F 1) ((at_ ((v.getD 0 (.i 0)).L) ((v.getD 2 (.i 0)).I)).F 2) ((at_ ((v.getD 0 (.i 0)).L) ((v.getD 2 (.i 0)).I)).F 3) ((at_ ((v.getD 0 (.i 0)).L) ((v.getD 2 (.i 0)).I)).F 4) ((at_ ((v.getD 0 (.i 0)).L) ((v.getD 2 (.i 0)).I)).F 5) ((at_ ((v.getD 0 (.i 0)).L) ((v.getD 2 (.i 0)).I)).F 6) ((at_ ((v.getD 1 (.i 0)).L) ((v.getD 2 (.i 0)).I)).F 0) ((at_ ((v.getD 1 (.i 0)).L) ((v.getD 2 (.i 0)).I)).F 1) ((at_ ((v.getD 1 (.i 0)).L) ((v.getD 2 (.i 0)).I)).F 2) ((at_ ((v.getD 1 (.i 0)).L) ((v.getD 2 (.i 0)).I)).F 3) ((at_ ((v.getD 1 (.i 0)).L) ((v.getD 2 (.i 0)).I)).F 4) ((at_ ((v.getD 1 (.i 0)).L) ((v.getD 2 (.i 0)).I)).F 5) ((at_ ((v.getD 1 (.i 0)).L) ((v.getD 2 (.i 0)).I)).F 6)).bind fun r1 => bif (!(r1.headD (.i 0)).B) then (exn ex 0 [.b false]) else (self [.l ((v.getD 0 (.i 0)).L), .l ((v.getD 1 (.i 0)).L), .i (IntKind.wrap .i64 ((v.getD 2 (.i 0)).I + 1))])) else none) else none) else (exn ex 1 [])
def L108_108_4 (n : Nat) : LoopM := ⟨⟨[[.t (.slice 132) (.i 0), .t (.slice 132) (.i 0), .un, .un, .un, .t (.int .i64) (.i 0), .un, .un, .un, .un, .un, .un, .un, .un, .un, .un, .un, .un, .un, .un, .un, .un, .un, .un, .un, .un, .un]], []⟩, [(.ret, ⟨[[.un, .un, .un, .un, .t .bool (.i 0), .un, .un, .un, .un, .un, .un, .un, .un, .un, .un, .un, .un, .un, .un, .un, .un, .un, .un, .un, .un, .un, .un]], []⟩), (.exit 0, ⟨[[.un, .un, .un, .un, .un, .un, .un, .un, .un, .un, .un, .un, .un, .un, .un, .un, .un, .un, .un, .un, .un, .un, .un, .un, .un, .un, .un]], []⟩)], fun v self ex => G108_108_4 n v self ex⟩
def F108 (n : Nat) (x0 x1 : T) : Option (List T) :=
  bif ((x0.L.length : Int) != (x1.L.length : Int)) then (some [.b false]) else (loopR (L108_108_4 n).G n [.l x0.L, .l x1.L, .i 0] [fun u2 => some [.b ((u2.getD 0 (.i 0)).B)], fun u3 => some [.b true]])
def M108 (n : Nat) (τs : List T) : Option (List T) := match τs with
  | [x0, x1] => F108 n x0 x1
  | _ => none
noncomputable def code108 : List (Nat × Func) := [(108, Go.Proofs.Try.f108)]
def env108 : List (Nat × (Sig × Mean)) := [(207, sg207, ⟨M207⟩)]
def ann108 (f i : Nat) : Ann := match f, i with
  | 108, 4 => ⟨[(0, .any), (1, .any), (5, .any)], [], [(4, .any)]⟩
  | _, _ => ⟨[], [], []⟩
def lm108_108 (n : Nat) (i : Nat) : List LoopM := match i with
  | 4 => [L108_108_4 n]
  | _ => []
def lsl108 (n : Nat) : List ((Nat × Nat) × (Nat → List LoopM)) := [((3, 108), lm108_108 n)]
noncomputable def cf108 (n : Nat) : Cfg := ⟨tiOf tab, lookup code108, lookup env108, ann108, n⟩
theorem ev108 (n : Nat) (x0 x1 : T) : evF (cf108 n) (drawK (cf108 n)) (lms2 (lsl108 n)) 3 108 sg108 [x0, x1] = F108 n x0 x1 := by kernel_rfl
theorem lp108_108_4 (n : Nat) (K : Ex → St → Option (List T)) (self : List T → Option (List T)) (v : List T) : evC (cf108 n) (callK (cf108 n) (drawK (cf108 n)) (lms2 (lsl108 n)) 3) (drawK (cf108 n) (callK (cf108 n) (drawK (cf108 n)) (lms2 (lsl108 n)) 3)) (ann108 108) (lm108_108 n) (bodyOf Go.Proofs.Try.f108 4) ((L108_108_4 n).sk.fill v) (roundK (ann108 108 4) K (selfK (L108_108_4 n) self)) = (L108_108_4 n).G v self (exitK (L108_108_4 n) K) := by kernel_rfl
theorem eo108 (n : Nat) : EnvOk Go.Proofs.Try.prog (tiOf tab) n 108 sg108 ⟨M108⟩ :=
  have hc : CodeOk Go.Proofs.Try.prog (cf108 n) := (code_cons Go.Proofs.Try.func108 (by kernel_rfl) code_nil)
  have he : EnvsOk Go.Proofs.Try.prog (cf108 n) := (env_cons (eo207 n) env_nil)
  have hl : LmsOk (R := List T) (cf108 n) (drawK (cf108 n)) (lms2 (lsl108 n)) (lsl108 n) := (lms_cons (loops_of (cf := cf108 n) (fn0 := Go.Proofs.Try.f108) rfl (l := [bodyOf Go.Proofs.Try.f108 4]) (by kernel_rfl) (loops_cons (b := bodyOf Go.Proofs.Try.f108 4) (by kernel_rfl) (rfl : lm108_108 n 4 = [L108_108_4 n]) (List.forall_mem_cons.2 ⟨fun K self v => lp108_108_4 n K self v, fun _ h => by cases h⟩) loops_nil)) lms_nil)
  envOk_of (cf := cf108 n) tabOk hc he (draw := drawK (cf108 n)) (fun _ => drawK_ok tabOk mixed hc he) (d := 3) (lms := lms2 (lsl108 n)) hl
    (fun τs rs h => by
      simp only [M108] at h
      split at h
      · exact (ev108 n _ _).trans h
      · cases h)
/-! ### 17: laws.eqRecv -/
def sg17 : Sig := ⟨[(true, [.int .i64, .slice 2, .slice 132, .slice 2]), (true, [.int .i64, .slice 2, .slice 132, .slice 2])], [.leaf .bool false]⟩
def F17 (n : Nat) (x0 x1 x2 x3 x4 x5 x6 x7 : T) : Option (List T) :=
  bif (x0.I != x4.I) then (some [.b false]) else ((F107 n x1 x5).bind fun r1 => bif (!(r1.headD (.i 0)).B) then (some [.b false]) else ((F108 n x2 x6).bind fun r2 => bif (!(r2.headD (.i 0)).B) then (some [.b false]) else ((F107 n x3 x7).bind fun r3 => bif (!(r3.headD (.i 0)).B) then (some [.b false]) else (some [.b true]))))
def M17 (n : Nat) (τs : List T) : Option (List T) := match τs with
  | [x0, x1, x2, x3, x4, x5, x6, x7] => F17 n x0 x1 x2 x3 x4 x5 x6 x7
  | _ => none
noncomputable def code17 : List (Nat × Func) := [(17, Go.Proofs.Try.f17)]
def env17 : List (Nat × (Sig × Mean)) := [(107, sg107, ⟨M107⟩), (108, sg108, ⟨M108⟩)]
def ann17 (f i : Nat) : Ann := match f, i with
  | _, _ => ⟨[], [], []⟩
def lsl17 (n : Nat) : List ((Nat × Nat) × (Nat → List LoopM)) := []
noncomputable def cf17 (n : Nat) : Cfg := ⟨tiOf tab, lookup code17, lookup env17, ann17, n⟩
theorem ev17 (n : Nat) (x0 x1 x2 x3 x4 x5 x6 x7 : T) : evF (cf17 n) (drawK (cf17 n)) (lms2 (lsl17 n)) 3 17 sg17 [x0, x1, x2, x3, x4, x5, x6, x7] = F17 n x0 x1 x2 x3 x4 x5 x6 x7 := by kernel_rfl
theorem eo17 (n : Nat) : EnvOk Go.Proofs.Try.prog (tiOf tab) n 17 sg17 ⟨M17⟩ :=
  have hc : CodeOk Go.Proofs.Try.prog (cf17 n) := (code_cons Go.Proofs.Try.func17 (by kernel_rfl) code_nil)
  have he : EnvsOk Go.Proofs.Try.prog (cf17 n) := (env_cons (eo107 n) (env_cons (eo108 n) env_nil))
  have hl : LmsOk (R := List T) (cf17 n) (drawK (cf17 n)) (lms2 (lsl17 n)) (lsl17 n) := lms_nil
  envOk_of (cf := cf17 n) tabOk hc he (draw := drawK (cf17 n)) (fun _ => drawK_ok tabOk mixed hc he) (d := 3) (lms := lms2 (lsl17 n)) hl
    (fun τs rs h => by
      simp only [M17] at h
      split at h
      · exact (ev17 n _ _ _ _ _ _ _ _).trans h
      · cases h)
/-! ### 3: laws.FnExactRecvFault -/
def sg3 : Sig := ⟨[(true, [.int .i64, .slice 2, .slice 259, .slice 2])], [.leaf .bool false]⟩
def F3 (n : Nat) (x0 x1 x2 x3 : T) : Option (List T) :=
  (F13 n x0 x1 x2 x3 (.i 1048576)).bind fun r1 => bif (decide ((r1.headD (.i 0)).I < 0)) then (some [.b true]) else ((F15 n x0 x1 x2 x3).bind fun r2 => (F14 n (r2.headD (.i 0)) (r2.tail.headD (.i 0)) (r2.tail.tail.headD (.i 0)) (r2.tail.tail.tail.headD (.i 0))).bind fun r3 => (F15 n x0 x1 x2 x3).bind fun r4 => (F16 n (r4.headD (.i 0)) (r4.tail.headD (.i 0)) (r4.tail.tail.headD (.i 0)) (r4.tail.tail.tail.headD (.i 0))).bind fun r5 => bif ((r5.headD (.i 0)).I != (r3.headD (.i 0)).I) then (some [.b false]) else ((F15 n x0 x1 x2 x3).bind fun r6 => (F17 n (r4.headD (.i 0)) (r4.tail.headD (.i 0)) (r4.tail.tail.headD (.i 0)) (r4.tail.tail.tail.headD (.i 0)) (r6.headD (.i 0)) (r6.tail.headD (.i 0)) (r6.tail.tail.headD (.i 0)) (r6.tail.tail.tail.headD (.i 0))).bind fun r7 => bif (!(r7.headD (.i 0)).B) then (some [.b false]) else (some [.b true])))
def M3 (n : Nat) (τs : List T) : Option (List T) := match τs with
  | [x0, x1, x2, x3] => F3 n x0 x1 x2 x3
  | _ => none
noncomputable def code3 : List (Nat × Func) := [(3, Go.Proofs.Try.f3)]
def env3 : List (Nat × (Sig × Mean)) := [(13, sg13, ⟨M13⟩), (14, sg14, ⟨M14⟩), (15, sg15, ⟨M15⟩), (16, sg16, ⟨M16⟩), (17, sg17, ⟨M17⟩)]
def ann3 (f i : Nat) : Ann := match f, i with
  | _, _ => ⟨[], [], []⟩
def lsl3 (n : Nat) : List ((Nat × Nat) × (Nat → List LoopM)) := []
noncomputable def cf3 (n : Nat) : Cfg := ⟨tiOf tab, lookup code3, lookup env3, ann3, n⟩
theorem ev3 (n : Nat) (x0 x1 x2 x3 : T) : evF (cf3 n) (drawK (cf3 n)) (lms2 (lsl3 n)) 3 3 sg3 [x0, x1, x2, x3] = F3 n x0 x1 x2 x3 := by kernel_rfl
theorem eo3 (n : Nat) : EnvOk Go.Proofs.Try.prog (tiOf tab) n 3 sg3 ⟨M3⟩ :=
  have hc : CodeOk Go.Proofs.Try.prog (cf3 n) := (code_cons Go.Proofs.Try.func3 (by kernel_rfl) code_nil)
  have he : EnvsOk Go.Proofs.Try.prog (cf3 n) := (env_cons (eo13 n) (env_cons (eo14 n) (env_cons (eo15 n) (env_cons (eo16 n) (env_cons (eo17 n) env_nil)))))
  have hl : LmsOk (R := List T) (cf3 n) (drawK (cf3 n)) (lms2 (lsl3 n)) (lsl3 n) := lms_nil
  envOk_of (cf := cf3 n) tabOk hc he (draw := drawK (cf3 n)) (fun _ => drawK_ok tabOk mixed hc he) (d := 3) (lms := lms2 (lsl3 n)) hl
    (fun τs rs h => by
      simp only [M3] at h
      split at h
      · exact (ev3 n _ _ _ _).trans h
      · cases h)
end Go.KX.Sd
