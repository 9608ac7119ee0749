import Derived.Test.YtpkeanlcmjbgnaaProg
import Derived.KernelRfl
import Derived.Test.YtpkeanlcmjbgnaaKxC
namespace Go.KX.Sa
open Go
set_option linter.unusedVariables false
def tab : List (Nat × TyI) := [
  (2, ⟨true, false, [.int .i64], 8, .leaf, false⟩),
  (3, ⟨true, false, [.int .i64], 8, .leaf, false⟩),
  (4, ⟨true, false, [.bool], 1, .leaf, false⟩),
  (5, ⟨true, false, [.int .u8], 1, .leaf, false⟩),
  (9, ⟨true, false, [.str], 16, .leaf, false⟩),
  (22, ⟨true, false, [.slice 5], 24, .slice 5, false⟩),
  (24, ⟨true, true, [.int .i64, .bool, .slice 5], 40, .struct [(2, 0), (4, 1), (22, 2)], false⟩),
  (27, ⟨true, true, [.int .i64, .bool, .slice 5], 40, .struct [(2, 0), (4, 1), (22, 2)], false⟩),
  (60, ⟨true, false, [.slice 24], 24, .slice 24, false⟩),
  (63, ⟨true, false, [.slice 27], 24, .slice 27, false⟩)]
theorem tabOk : TabOk Go.Proofs.Try.prog (tiOf tab) := tab_ok (by kernel_rfl)
theorem mixed : Go.Proofs.Try.prog.follows .mixedOrders = true := by kernel_rfl
/-! ### 49: laws.szByteS -/
def sg49 : Sig := ⟨[(false, [.slice 5]), (false, [.int .i64])], [.leaf (.int .i64) false]⟩
def F49 (n : Nat) (x0 x1 : T) : Option (List T) :=
  bif (decide ((IntKind.wrap .i64 (x1.I - (x0.L.length : Int))) < 0)) then (some [.i (-1)]) else (some [.i (IntKind.wrap .i64 (x1.I - (x0.L.length : Int)))])
def M49 (n : Nat) (τs : List T) : Option (List T) := match τs with
  | [x0, x1] => F49 n x0 x1
  | _ => none
noncomputable def code49 : List (Nat × Func) := [(49, Go.Proofs.Try.f49)]
def env49 : List (Nat × (Sig × Mean)) := []
def ann49 (f i : Nat) : Ann := match f, i with
  | _, _ => ⟨[], [], []⟩
def lsl49 (n : Nat) : List ((Nat × Nat) × (Nat → List LoopM)) := []
noncomputable def cf49 (n : Nat) : Cfg := ⟨tiOf tab, lookup code49, lookup env49, ann49, n⟩
theorem ev49 (n : Nat) (x0 x1 : T) : evF (cf49 n) (drawK (cf49 n)) (lms2 (lsl49 n)) 3 49 sg49 [x0, x1] = F49 n x0 x1 := by kernel_rfl
theorem eo49 (n : Nat) : EnvOk Go.Proofs.Try.prog (tiOf tab) n 49 sg49 ⟨M49⟩ :=
  have hc : CodeOk Go.Proofs.Try.prog (cf49 n) := (code_cons Go.Proofs.Try.func49 (by kernel_rfl) code_nil)
  have he : EnvsOk Go.Proofs.Try.prog (cf49 n) := env_nil
  have hl : LmsOk (R := List T) (cf49 n) (drawK (cf49 n)) (lms2 (lsl49 n)) (lsl49 n) := lms_nil
  envOk_of (cf := cf49 n) tabOk hc he (draw := drawK (cf49 n)) (fun _ => drawK_ok tabOk mixed hc he) (d := 3) (lms := lms2 (lsl49 n)) hl
    (fun τs rs h => by
      simp only [M49] at h
      split at h
      · exact (ev49 n _ _).trans h
      · cases h)
/-! ### 12: laws.szMessage -/
def sg12 : Sig := ⟨[(true, [.int .i64, .bool, .slice 5]), (false, [.int .i64])], [.leaf (.int .i64) false]⟩
def F12 (n : Nat) (x0 x1 x2 x3 : T) : Option (List T) :=
  (F49 n x2 x3).bind fun r1 => bif (decide ((r1.headD (.i 0)).I < 0)) then (some [.i (-1)]) else (some [(r1.headD (.i 0))])
def M12 (n : Nat) (τs : List T) : Option (List T) := match τs with
  | [x0, x1, x2, x3] => F12 n x0 x1 x2 x3
  | _ => none
noncomputable def code12 : List (Nat × Func) := [(12, Go.Proofs.Try.f12)]
def env12 : List (Nat × (Sig × Mean)) := [(49, sg49, ⟨M49⟩)]
def ann12 (f i : Nat) : Ann := match f, i with
  | _, _ => ⟨[], [], []⟩
def lsl12 (n : Nat) : List ((Nat × Nat) × (Nat → List LoopM)) := []
noncomputable def cf12 (n : Nat) : Cfg := ⟨tiOf tab, lookup code12, lookup env12, ann12, n⟩
theorem ev12 (n : Nat) (x0 x1 x2 x3 : T) : evF (cf12 n) (drawK (cf12 n)) (lms2 (lsl12 n)) 3 12 sg12 [x0, x1, x2, x3] = F12 n x0 x1 x2 x3 := by kernel_rfl
theorem eo12 (n : Nat) : EnvOk Go.Proofs.Try.prog (tiOf tab) n 12 sg12 ⟨M12⟩ :=
  have hc : CodeOk Go.Proofs.Try.prog (cf12 n) := (code_cons Go.Proofs.Try.func12 (by kernel_rfl) code_nil)
  have he : EnvsOk Go.Proofs.Try.prog (cf12 n) := (env_cons (eo49 n) env_nil)
  have hl : LmsOk (R := List T) (cf12 n) (drawK (cf12 n)) (lms2 (lsl12 n)) (lsl12 n) := lms_nil
  envOk_of (cf := cf12 n) tabOk hc he (draw := drawK (cf12 n)) (fun _ => drawK_ok tabOk mixed hc he) (d := 3) (lms := lms2 (lsl12 n)) hl
    (fun τs rs h => by
      simp only [M12] at h
      split at h
      · exact (ev12 n _ _ _ _).trans h
      · cases h)
/-! ### 32: laws.szMessageS -/
def sg32 : Sig := ⟨[(false, [.slice 24]), (false, [.int .i64])], [.leaf (.int .i64) false]⟩
def G32_32_5 {R : Type} (n : Nat) (v : List T) (self : List T → Option R) (ex : List (List T → Option R)) : Option R :=
  bif (decide ((v.getD 2 (.i 0)).I < ((((v.getD 0 (.i 0)).L).length : Nat) : Int))) then (if 0 ≤ (v.getD 2 (.i 0)).I ∧ (v.getD 2 (.i 0)).I < (((v.getD 0 (.i 0)).L).length : Int) then ((F12 n ((at_ ((v.getD 0 (.i 0)).L) ((v.getD 2 (.i 0)).I)).F 0) ((at_ ((v.getD 0 (.i 0)).L) ((v.getD 2 (.i 0)).I)).F 1) ((at_ ((v.getD 0 (.i 0)).L) ((v.getD 2 (.i 0)).I)).F 2) (.i ((v.getD 1 (.i 0)).I))).bind fun r1 => bif (decide ((r1.headD (.i 0)).I < 0)) then (exn ex 0 [.i ((r1.headD (.i 0)).I), .i (-1)]) else (self [.l ((v.getD 0 (.i 0)).L), .i ((r1.headD (.i 0)).I), .i (IntKind.wrap .i64 ((v.getD 2 (.i 0)).I + 1))])) else none) else (exn ex 1 [.i ((v.getD 1 (.i 0)).I)])
def L32_32_5 (n : Nat) : LoopM := ⟨⟨[[.t (.slice 24) (.i 0), .t (.int .i64) (.i 0), .un, .un, .un, .t (.int .i64) (.i 0), .un, .un, .un, .un, .un, .un, .un, .un, .un, .un, .un, .un, .un, .un, .un, .un, .un, .un, .un, .un, .un]], []⟩, [(.ret, ⟨[[.un, .t (.int .i64) (.i 0), .un, .un, .t (.int .i64) (.i 0), .un, .un, .un, .un, .un, .un, .un, .un, .un, .un, .un, .un, .un, .un, .un, .un, .un, .un, .un, .un, .un, .un]], []⟩), (.exit 0, ⟨[[.un, .t (.int .i64) (.i 0), .un, .un, .un, .un, .un, .un, .un, .un, .un, .un, .un, .un, .un, .un, .un, .un, .un, .un, .un, .un, .un, .un, .un, .un, .un]], []⟩)], fun v self ex => G32_32_5 n v self ex⟩
def F32 (n : Nat) (x0 x1 : T) : Option (List T) :=
  bif (decide ((IntKind.wrap .i64 (x1.I - (x0.L.length : Int))) < 0)) then (some [.i (-1)]) else (loopR (L32_32_5 n).G n [.l x0.L, .i (IntKind.wrap .i64 (x1.I - (x0.L.length : Int))), .i 0] [fun u2 => some [.i ((u2.getD 1 (.i 0)).I)], fun u3 => some [.i ((u3.getD 0 (.i 0)).I)]])
def M32 (n : Nat) (τs : List T) : Option (List T) := match τs with
  | [x0, x1] => F32 n x0 x1
  | _ => none
noncomputable def code32 : List (Nat × Func) := [(32, Go.Proofs.Try.f32)]
def env32 : List (Nat × (Sig × Mean)) := [(12, sg12, ⟨M12⟩)]
def ann32 (f i : Nat) : Ann := match f, i with
  | 32, 5 => ⟨[(0, .any), (1, .any), (5, .any)], [], [(1, .any), (4, .any)]⟩
  | _, _ => ⟨[], [], []⟩
def lm32_32 (n : Nat) (i : Nat) : List LoopM := match i with
  | 5 => [L32_32_5 n]
  | _ => []
def lsl32 (n : Nat) : List ((Nat × Nat) × (Nat → List LoopM)) := [((3, 32), lm32_32 n)]
noncomputable def cf32 (n : Nat) : Cfg := ⟨tiOf tab, lookup code32, lookup env32, ann32, n⟩
theorem ev32 (n : Nat) (x0 x1 : T) : evF (cf32 n) (drawK (cf32 n)) (lms2 (lsl32 n)) 3 32 sg32 [x0, x1] = F32 n x0 x1 := by kernel_rfl
theorem lp32_32_5 (n : Nat) (K : Ex → St → Option (List T)) (self : List T → Option (List T)) (v : List T) : evC (cf32 n) (callK (cf32 n) (drawK (cf32 n)) (lms2 (lsl32 n)) 3) (drawK (cf32 n) (callK (cf32 n) (drawK (cf32 n)) (lms2 (lsl32 n)) 3)) (ann32 32) (lm32_32 n) (bodyOf Go.Proofs.Try.f32 5) ((L32_32_5 n).sk.fill v) (roundK (ann32 32 5) K (selfK (L32_32_5 n) self)) = (L32_32_5 n).G v self (exitK (L32_32_5 n) K) := by kernel_rfl
theorem eo32 (n : Nat) : EnvOk Go.Proofs.Try.prog (tiOf tab) n 32 sg32 ⟨M32⟩ :=
  have hc : CodeOk Go.Proofs.Try.prog (cf32 n) := (code_cons Go.Proofs.Try.func32 (by kernel_rfl) code_nil)
  have he : EnvsOk Go.Proofs.Try.prog (cf32 n) := (env_cons (eo12 n) env_nil)
  have hl : LmsOk (R := List T) (cf32 n) (drawK (cf32 n)) (lms2 (lsl32 n)) (lsl32 n) := (lms_cons (loops_of (cf := cf32 n) (fn0 := Go.Proofs.Try.f32) rfl (l := [bodyOf Go.Proofs.Try.f32 5]) (by kernel_rfl) (loops_cons (b := bodyOf Go.Proofs.Try.f32 5) (by kernel_rfl) (rfl : lm32_32 n 5 = [L32_32_5 n]) (List.forall_mem_cons.2 ⟨fun K self v => lp32_32_5 n K self v, fun _ h => by cases h⟩) loops_nil)) lms_nil)
  envOk_of (cf := cf32 n) tabOk hc he (draw := drawK (cf32 n)) (fun _ => drawK_ok tabOk mixed hc he) (d := 3) (lms := lms2 (lsl32 n)) hl
    (fun τs rs h => by
      simp only [M32] at h
      split at h
      · exact (ev32 n _ _).trans h
      · cases h)
/-! ### 33: spec.SameMessages -/
def sg33 : Sig := ⟨[(false, [.slice 27]), (false, [.slice 27])], [.leaf .bool false]⟩
def G33_33_4 {R : Type} (n : Nat) (v : List T) (self : List T → Option R) (ex : List (List T → Option R)) : Option R :=
  bif (decide ((v.getD 2 (.i 0)).I < ((((v.getD 0 (.i 0)).L).length : Nat) : Int))) then (if 0 ≤ (v.getD 2 (.i 0)).I ∧ (v.getD 2 (.i 0)).I < (((v.getD 0 (.i 0)).L).length : Int) then (if 0 ≤ (v.getD 2 (.i 0)).I ∧ (v.getD 2 (.i 0)).I < (((v.getD 1 (.i 0)).L).length : Int) then (bif (((at_ ((v.getD 0 (.i 0)).L) ((v.getD 2 (.i 0)).I)).F 0).I != ((at_ ((v.getD 1 (.i 0)).L) ((v.getD 2 (.i 0)).I)).F 0).I) then (bif (((at_ ((v.getD 0 (.i 0)).L) ((v.getD 2 (.i 0)).I)).F 0).I != ((at_ ((v.getD 1 (.i 0)).L) ((v.getD 2 (.i 0)).I)).F 0).I) then (exn ex 0 [.b false]) else none) else (if 0 ≤ (v.getD 2 (.i 0)).I ∧ (v.getD 2 (.i 0)).I < (((v.getD 0 (.i 0)).L).length : Int) then (if 0 ≤ (v.getD 2 (.i 0)).I ∧ (v.getD 2 (.i 0)).I < (((v.getD 1 (.i 0)).L).length : Int) then (bif (((at_ ((v.getD 0 (.i 0)).L) ((v.getD 2 (.i 0)).I)).F 0).I != ((at_ ((v.getD 1 (.i 0)).L) ((v.getD 2 (.i 0)).I)).F 0).I) then (exn ex 0 [.b false]) else (bif (!(((at_ ((v.getD 0 (.i 0)).L) ((v.getD 2 (.i 0)).I)).F 1).B == ((at_ ((v.getD 1 (.i 0)).L) ((v.getD 2 (.i 0)).I)).F 1).B)) then (bif (!(((at_ ((v.getD 0 (.i 0)).L) ((v.getD 2 (.i 0)).I)).F 1).B == ((at_ ((v.getD 1 (.i 0)).L) ((v.getD 2 (.i 0)).I)).F 1).B)) then (exn ex 0 [.b false]) else none) else (if 0 ≤ (v.getD 2 (.i 0)).I ∧ (v.getD 2 (.i 0)).I < (((v.getD 0 (.i 0)).L).length : Int) then (if 0 ≤ (v.getD 2 (.i 0)).I ∧ (v.getD 2 (.i 0)).I < (((v.getD 1 (.i 0)).L).length : Int) then (bif (!(((at_ ((v.getD 0 (.i 0)).L) ((v.getD 2 (.i 0)).I)).F 1).B == ((at_ ((v.getD 1 (.i 0)).L) ((v.getD 2 (.i 0)).I)).F 1).B)) then (exn ex 0 [.b false]) else (bif (!(((((at_ ((v.getD 0 (.i 0)).L) ((v.getD 2 (.i 0)).I)).F 2).L).map fun τ => UInt8.ofNat τ.I.toNat) == ((((at_ ((v.getD 1 (.i 0)).L) ((v.getD 2 (.i 0)).I)).F 2).L).map fun τ => UInt8.ofNat τ.I.toNat))) then (exn ex 0 [.b false]) else (self [.l ((v.getD 0 (.i 0)).L), .l ((v.getD 1 (.i 0)).L), .i (IntKind.wrap .i64 ((v.getD 2 (.i 0)).I + 1))]))) else none) else none))) else none) else none)) else none) else none) else (exn ex 1 [])
def L33_33_4 (n : Nat) : LoopM := ⟨⟨[[.t (.slice 27) (.i 0), .t (.slice 27) (.i 0), .un, .un, .un, .t (.int .i64) (.i 0), .un, .un, .un, .un, .un, .un, .un, .un, .un, .un, .un, .un, .un, .un, .un, .un, .un, .un, .un, .un, .un, .un, .un, .un, .un, .un, .un, .un, .un, .un, .un, .un, .un, .un, .un, .un, .un, .un, .un, .un, .un, .un, .un, .un, .un, .un, .un, .un, .un, .un]], []⟩, [(.ret, ⟨[[.un, .un, .un, .un, .t .bool (.i 0), .un, .un, .un, .un, .un, .un, .un, .un, .un, .un, .un, .un, .un, .un, .un, .un, .un, .un, .un, .un, .un, .un, .un, .un, .un, .un, .un, .un, .un, .un, .un, .un, .un, .un, .un, .un, .un, .un, .un, .un, .un, .un, .un, .un, .un, .un, .un, .un, .un, .un, .un]], []⟩), (.exit 0, ⟨[[.un, .un, .un, .un, .un, .un, .un, .un, .un, .un, .un, .un, .un, .un, .un, .un, .un, .un, .un, .un, .un, .un, .un, .un, .un, .un, .un, .un, .un, .un, .un, .un, .un, .un, .un, .un, .un, .un, .un, .un, .un, .un, .un, .un, .un, .un, .un, .un, .un, .un, .un, .un, .un, .un, .un, .un]], []⟩)], fun v self ex => G33_33_4 n v self ex⟩
def F33 (n : Nat) (x0 x1 : T) : Option (List T) :=
  bif ((x0.L.length : Int) != (x1.L.length : Int)) then (some [.b false]) else (loopR (L33_33_4 n).G n [.l x0.L, .l x1.L, .i 0] [fun u1 => some [.b ((u1.getD 0 (.i 0)).B)], fun u2 => some [.b true]])
def M33 (n : Nat) (τs : List T) : Option (List T) := match τs with
  | [x0, x1] => F33 n x0 x1
  | _ => none
noncomputable def code33 : List (Nat × Func) := [(33, Go.Proofs.Try.f33)]
def env33 : List (Nat × (Sig × Mean)) := []
def ann33 (f i : Nat) : Ann := match f, i with
  | 33, 4 => ⟨[(0, .any), (1, .any), (5, .any)], [], [(4, .any)]⟩
  | _, _ => ⟨[], [], []⟩
def lm33_33 (n : Nat) (i : Nat) : List LoopM := match i with
  | 4 => [L33_33_4 n]
  | _ => []
def lsl33 (n : Nat) : List ((Nat × Nat) × (Nat → List LoopM)) := [((3, 33), lm33_33 n)]
noncomputable def cf33 (n : Nat) : Cfg := ⟨tiOf tab, lookup code33, lookup env33, ann33, n⟩
theorem ev33 (n : Nat) (x0 x1 : T) : evF (cf33 n) (drawK (cf33 n)) (lms2 (lsl33 n)) 3 33 sg33 [x0, x1] = F33 n x0 x1 := by kernel_rfl
theorem lp33_33_4 (n : Nat) (K : Ex → St → Option (List T)) (self : List T → Option (List T)) (v : List T) : evC (cf33 n) (callK (cf33 n) (drawK (cf33 n)) (lms2 (lsl33 n)) 3) (drawK (cf33 n) (callK (cf33 n) (drawK (cf33 n)) (lms2 (lsl33 n)) 3)) (ann33 33) (lm33_33 n) (bodyOf Go.Proofs.Try.f33 4) ((L33_33_4 n).sk.fill v) (roundK (ann33 33 4) K (selfK (L33_33_4 n) self)) = (L33_33_4 n).G v self (exitK (L33_33_4 n) K) := by kernel_rfl
theorem eo33 (n : Nat) : EnvOk Go.Proofs.Try.prog (tiOf tab) n 33 sg33 ⟨M33⟩ :=
  have hc : CodeOk Go.Proofs.Try.prog (cf33 n) := (code_cons Go.Proofs.Try.func33 (by kernel_rfl) code_nil)
  have he : EnvsOk Go.Proofs.Try.prog (cf33 n) := env_nil
  have hl : LmsOk (R := List T) (cf33 n) (drawK (cf33 n)) (lms2 (lsl33 n)) (lsl33 n) := (lms_cons (loops_of (cf := cf33 n) (fn0 := Go.Proofs.Try.f33) rfl (l := [bodyOf Go.Proofs.Try.f33 4]) (by kernel_rfl) (loops_cons (b := bodyOf Go.Proofs.Try.f33 4) (by kernel_rfl) (rfl : lm33_33 n 4 = [L33_33_4 n]) (List.forall_mem_cons.2 ⟨fun K self v => lp33_33_4 n K self v, fun _ h => by cases h⟩) loops_nil)) lms_nil)
  envOk_of (cf := cf33 n) tabOk hc he (draw := drawK (cf33 n)) (fun _ => drawK_ok tabOk mixed hc he) (d := 3) (lms := lms2 (lsl33 n)) hl
    (fun τs rs h => by
      simp only [M33] at h
      split at h
      · exact (ev33 n _ _).trans h
      · cases h)
/-! ### 51: laws.toByteS -/
def sg51 : Sig := ⟨[(false, [.slice 5])], [.leaf (.slice 5) false]⟩
def G51_51_3 {R : Type} (n : Nat) (v : List T) (self : List T → Option R) (ex : List (List T → Option R)) : Option R :=
  bif (decide ((v.getD 1 (.i 0)).I < ((((v.getD 0 (.i 0)).L).length : Nat) : Int))) then (if 0 ≤ (v.getD 1 (.i 0)).I ∧ (v.getD 1 (.i 0)).I < (((v.getD 0 (.i 0)).L).length : Int) then (if 0 ≤ (v.getD 1 (.i 0)).I ∧ (v.getD 1 (.i 0)).I < (((v.getD 2 (.i 0)).L).length : Int) then (if 5 = 5 ∧ ((v.getD 1 (.i 0)).I).toNat < ((v.getD 2 (.i 0)).L).length then (self [.l ((v.getD 0 (.i 0)).L), .i (IntKind.wrap .i64 ((v.getD 1 (.i 0)).I + 1)), .l (((v.getD 2 (.i 0)).L).set (((v.getD 1 (.i 0)).I).toNat) ((at_ ((v.getD 0 (.i 0)).L) ((v.getD 1 (.i 0)).I))))]) else none) else none) else none) else (exn ex 0 [.l ((v.getD 2 (.i 0)).L)])
def L51_51_3 (n : Nat) : LoopM := ⟨⟨[[.t (.slice 5) (.i 0), .un, .un, .own 5 0, .t (.int .i64) (.i 0), .un, .un, .un, .un, .un, .un, .un, .un, .un, .un, .un, .un, .un, .un, .un, .un, .un]], [.arr 5 []]⟩, [(.exit 0, ⟨[[.un, .un, .un, .own 5 0, .un, .un, .un, .un, .un, .un, .un, .un, .un, .un, .un, .un, .un, .un, .un, .un, .un, .un]], [.arr 5 []]⟩)], fun v self ex => G51_51_3 n v self ex⟩
def F51 (n : Nat) (x0 : T) : Option (List T) :=
  if 0 ≤ (x0.L.length : Int) ∧ (x0.L.length : Int) * 1 ≤ limB ∧ (x0.L.length : Int) < maxN then (loopR (L51_51_3 n).G n [.l x0.L, .i 0, .l (List.replicate ((x0.L.length : Int)).toNat (T.i 0))] [fun u1 => some [.l ((u1.getD 0 (.i 0)).L)]]) else none
def M51 (n : Nat) (τs : List T) : Option (List T) := match τs with
  | [x0] => F51 n x0
  | _ => none
noncomputable def code51 : List (Nat × Func) := [(51, Go.Proofs.Try.f51)]
def env51 : List (Nat × (Sig × Mean)) := []
def ann51 (f i : Nat) : Ann := match f, i with
  | 51, 3 => ⟨[(0, .any), (3, .any), (4, .any)], [], [(3, .any)]⟩
  | _, _ => ⟨[], [], []⟩
def lm51_51 (n : Nat) (i : Nat) : List LoopM := match i with
  | 3 => [L51_51_3 n]
  | _ => []
def lsl51 (n : Nat) : List ((Nat × Nat) × (Nat → List LoopM)) := [((3, 51), lm51_51 n)]
noncomputable def cf51 (n : Nat) : Cfg := ⟨tiOf tab, lookup code51, lookup env51, ann51, n⟩
theorem ev51 (n : Nat) (x0 : T) : evF (cf51 n) (drawK (cf51 n)) (lms2 (lsl51 n)) 3 51 sg51 [x0] = F51 n x0 := by kernel_rfl
theorem lp51_51_3 (n : Nat) (K : Ex → St → Option (List T)) (self : List T → Option (List T)) (v : List T) : evC (cf51 n) (callK (cf51 n) (drawK (cf51 n)) (lms2 (lsl51 n)) 3) (drawK (cf51 n) (callK (cf51 n) (drawK (cf51 n)) (lms2 (lsl51 n)) 3)) (ann51 51) (lm51_51 n) (bodyOf Go.Proofs.Try.f51 3) ((L51_51_3 n).sk.fill v) (roundK (ann51 51 3) K (selfK (L51_51_3 n) self)) = (L51_51_3 n).G v self (exitK (L51_51_3 n) K) := by kernel_rfl
theorem eo51 (n : Nat) : EnvOk Go.Proofs.Try.prog (tiOf tab) n 51 sg51 ⟨M51⟩ :=
  have hc : CodeOk Go.Proofs.Try.prog (cf51 n) := (code_cons Go.Proofs.Try.func51 (by kernel_rfl) code_nil)
  have he : EnvsOk Go.Proofs.Try.prog (cf51 n) := env_nil
  have hl : LmsOk (R := List T) (cf51 n) (drawK (cf51 n)) (lms2 (lsl51 n)) (lsl51 n) := (lms_cons (loops_of (cf := cf51 n) (fn0 := Go.Proofs.Try.f51) rfl (l := [bodyOf Go.Proofs.Try.f51 3]) (by kernel_rfl) (loops_cons (b := bodyOf Go.Proofs.Try.f51 3) (by kernel_rfl) (rfl : lm51_51 n 3 = [L51_51_3 n]) (List.forall_mem_cons.2 ⟨fun K self v => lp51_51_3 n K self v, fun _ h => by cases h⟩) loops_nil)) lms_nil)
  envOk_of (cf := cf51 n) tabOk hc he (draw := drawK (cf51 n)) (fun _ => drawK_ok tabOk mixed hc he) (d := 3) (lms := lms2 (lsl51 n)) hl
    (fun τs rs h => by
      simp only [M51] at h
      split at h
      · exact (ev51 n _).trans h
      · cases h)
/-! ### 14: laws.toMessage -/
def sg14 : Sig := ⟨[(true, [.int .i64, .bool, .slice 5])], [.agg [(.int .i64, false), (.bool, false), (.slice 5, false)]]⟩
def F14 (n : Nat) (x0 x1 x2 : T) : Option (List T) :=
  (F51 n x2).bind fun r1 => some [x0, x1, (r1.headD (.i 0))]
def M14 (n : Nat) (τs : List T) : Option (List T) := match τs with
  | [x0, x1, x2] => F14 n x0 x1 x2
  | _ => none
noncomputable def code14 : List (Nat × Func) := [(14, Go.Proofs.Try.f14)]
def env14 : List (Nat × (Sig × Mean)) := [(51, sg51, ⟨M51⟩)]
def ann14 (f i : Nat) : Ann := match f, i with
  | _, _ => ⟨[], [], []⟩
def lsl14 (n : Nat) : List ((Nat × Nat) × (Nat → List LoopM)) := []
noncomputable def cf14 (n : Nat) : Cfg := ⟨tiOf tab, lookup code14, lookup env14, ann14, n⟩
theorem ev14 (n : Nat) (x0 x1 x2 : T) : evF (cf14 n) (drawK (cf14 n)) (lms2 (lsl14 n)) 3 14 sg14 [x0, x1, x2] = F14 n x0 x1 x2 := by kernel_rfl
theorem eo14 (n : Nat) : EnvOk Go.Proofs.Try.prog (tiOf tab) n 14 sg14 ⟨M14⟩ :=
  have hc : CodeOk Go.Proofs.Try.prog (cf14 n) := (code_cons Go.Proofs.Try.func14 (by kernel_rfl) code_nil)
  have he : EnvsOk Go.Proofs.Try.prog (cf14 n) := (env_cons (eo51 n) env_nil)
  have hl : LmsOk (R := List T) (cf14 n) (drawK (cf14 n)) (lms2 (lsl14 n)) (lsl14 n) := lms_nil
  envOk_of (cf := cf14 n) tabOk hc he (draw := drawK (cf14 n)) (fun _ => drawK_ok tabOk mixed hc he) (d := 3) (lms := lms2 (lsl14 n)) hl
    (fun τs rs h => by
      simp only [M14] at h
      split at h
      · exact (ev14 n _ _ _).trans h
      · cases h)
/-! ### 34: laws.toMessageS -/
def sg34 : Sig := ⟨[(false, [.slice 24])], [.leaf (.slice 27) false]⟩
def G34_34_3 {R : Type} (n : Nat) (v : List T) (self : List T → Option R) (ex : List (List T → Option R)) : Option R :=
  bif (decide ((v.getD 1 (.i 0)).I < ((((v.getD 0 (.i 0)).L).length : Nat) : Int))) then (if 0 ≤ (v.getD 1 (.i 0)).I ∧ (v.getD 1 (.i 0)).I < (((v.getD 0 (.i 0)).L).length : Int) then ((F14 n ((at_ ((v.getD 0 (.i 0)).L) ((v.getD 1 (.i 0)).I)).F 0) ((at_ ((v.getD 0 (.i 0)).L) ((v.getD 1 (.i 0)).I)).F 1) ((at_ ((v.getD 0 (.i 0)).L) ((v.getD 1 (.i 0)).I)).F 2)).bind fun r1 => if 0 ≤ (v.getD 1 (.i 0)).I ∧ (v.getD 1 (.i 0)).I < (((v.getD 2 (.i 0)).L).length : Int) then (if 27 = 27 ∧ ((v.getD 1 (.i 0)).I).toNat < ((v.getD 2 (.i 0)).L).length then (self [.l ((v.getD 0 (.i 0)).L), .i (IntKind.wrap .i64 ((v.getD 1 (.i 0)).I + 1)), .l (((v.getD 2 (.i 0)).L).set (((v.getD 1 (.i 0)).I).toNat) (.r [(r1.headD (.i 0)), (r1.tail.headD (.i 0)), (r1.tail.tail.headD (.i 0))]))]) else none) else none) else none) else (exn ex 0 [.l ((v.getD 2 (.i 0)).L)])
def L34_34_3 (n : Nat) : LoopM := ⟨⟨[[.t (.slice 24) (.i 0), .un, .un, .own 27 0, .t (.int .i64) (.i 0), .un, .un, .un, .un, .un, .un, .un, .un, .un, .un, .un, .un, .un, .un, .un, .un, .un, .un]], [.arr 27 []]⟩, [(.exit 0, ⟨[[.un, .un, .un, .own 27 0, .un, .un, .un, .un, .un, .un, .un, .un, .un, .un, .un, .un, .un, .un, .un, .un, .un, .un, .un]], [.arr 27 []]⟩)], fun v self ex => G34_34_3 n v self ex⟩
def F34 (n : Nat) (x0 : T) : Option (List T) :=
  if 0 ≤ (x0.L.length : Int) ∧ (x0.L.length : Int) * 40 ≤ limB ∧ (x0.L.length : Int) < maxN then (loopR (L34_34_3 n).G n [.l x0.L, .i 0, .l (List.replicate ((x0.L.length : Int)).toNat (T.r [.i 0, .b false, .l []]))] [fun u2 => some [.l ((u2.getD 0 (.i 0)).L)]]) else none
def M34 (n : Nat) (τs : List T) : Option (List T) := match τs with
  | [x0] => F34 n x0
  | _ => none
noncomputable def code34 : List (Nat × Func) := [(34, Go.Proofs.Try.f34)]
def env34 : List (Nat × (Sig × Mean)) := [(14, sg14, ⟨M14⟩)]
def ann34 (f i : Nat) : Ann := match f, i with
  | 34, 3 => ⟨[(0, .any), (3, .any), (4, .any)], [], [(3, .any)]⟩
  | _, _ => ⟨[], [], []⟩
def lm34_34 (n : Nat) (i : Nat) : List LoopM := match i with
  | 3 => [L34_34_3 n]
  | _ => []
def lsl34 (n : Nat) : List ((Nat × Nat) × (Nat → List LoopM)) := [((3, 34), lm34_34 n)]
noncomputable def cf34 (n : Nat) : Cfg := ⟨tiOf tab, lookup code34, lookup env34, ann34, n⟩
theorem ev34 (n : Nat) (x0 : T) : evF (cf34 n) (drawK (cf34 n)) (lms2 (lsl34 n)) 3 34 sg34 [x0] = F34 n x0 := by kernel_rfl
theorem lp34_34_3 (n : Nat) (K : Ex → St → Option (List T)) (self : List T → Option (List T)) (v : List T) : evC (cf34 n) (callK (cf34 n) (drawK (cf34 n)) (lms2 (lsl34 n)) 3) (drawK (cf34 n) (callK (cf34 n) (drawK (cf34 n)) (lms2 (lsl34 n)) 3)) (ann34 34) (lm34_34 n) (bodyOf Go.Proofs.Try.f34 3) ((L34_34_3 n).sk.fill v) (roundK (ann34 34 3) K (selfK (L34_34_3 n) self)) = (L34_34_3 n).G v self (exitK (L34_34_3 n) K) := by kernel_rfl
theorem eo34 (n : Nat) : EnvOk Go.Proofs.Try.prog (tiOf tab) n 34 sg34 ⟨M34⟩ :=
  have hc : CodeOk Go.Proofs.Try.prog (cf34 n) := (code_cons Go.Proofs.Try.func34 (by kernel_rfl) code_nil)
  have he : EnvsOk Go.Proofs.Try.prog (cf34 n) := (env_cons (eo14 n) env_nil)
  have hl : LmsOk (R := List T) (cf34 n) (drawK (cf34 n)) (lms2 (lsl34 n)) (lsl34 n) := (lms_cons (loops_of (cf := cf34 n) (fn0 := Go.Proofs.Try.f34) rfl (l := [bodyOf Go.Proofs.Try.f34 3]) (by kernel_rfl) (loops_cons (b := bodyOf Go.Proofs.Try.f34 3) (by kernel_rfl) (rfl : lm34_34 n 3 = [L34_34_3 n]) (List.forall_mem_cons.2 ⟨fun K self v => lp34_34_3 n K self v, fun _ h => by cases h⟩) loops_nil)) lms_nil)
  envOk_of (cf := cf34 n) tabOk hc he (draw := drawK (cf34 n)) (fun _ => drawK_ok tabOk mixed hc he) (d := 3) (lms := lms2 (lsl34 n)) hl
    (fun τs rs h => by
      simp only [M34] at h
      split at h
      · exact (ev34 n _).trans h
      · cases h)
/-! ### 71: slices.Equal[[]byte,byte] -/
def sg71 : Sig := ⟨[(false, [.slice 5]), (false, [.slice 5])], [.leaf .bool false]⟩
def G71_71_4 {R : Type} (n : Nat) (v : List T) (self : List T → Option R) (ex : List (List T → Option R)) : Option R :=
  bif (decide ((v.getD 3 (.i 0)).I < (v.getD 2 (.i 0)).I)) then (if 0 ≤ (v.getD 3 (.i 0)).I ∧ (v.getD 3 (.i 0)).I < (((v.getD 0 (.i 0)).L).length : Int) then (if 0 ≤ (v.getD 3 (.i 0)).I ∧ (v.getD 3 (.i 0)).I < (((v.getD 1 (.i 0)).L).length : Int) then (bif ((at_ ((v.getD 0 (.i 0)).L) ((v.getD 3 (.i 0)).I)).I != (at_ ((v.getD 1 (.i 0)).L) ((v.getD 3 (.i 0)).I)).I) then (exn ex 0 [.b false]) else (self [.l ((v.getD 0 (.i 0)).L), .l ((v.getD 1 (.i 0)).L), .i ((v.getD 2 (.i 0)).I), .i (IntKind.wrap .i64 ((v.getD 3 (.i 0)).I + 1))])) else none) else none) else (exn ex 1 [])
def L71_71_4 (n : Nat) : LoopM := ⟨⟨[[.t (.slice 5) (.i 0), .t (.slice 5) (.i 0), .un, .un, .un, .un, .un, .un, .un, .un, .un, .un, .t (.int .i64) (.i 0), .t (.int .i64) (.i 0), .un, .un, .un, .un, .un, .un, .un, .un, .un, .un, .un, .un]], []⟩, [(.ret, ⟨[[.un, .un, .un, .un, .t .bool (.i 0), .un, .un, .un, .un, .un, .un, .un, .un, .un, .un, .un, .un, .un, .un, .un, .un, .un, .un, .un, .un, .un]], []⟩), (.exit 0, ⟨[[.un, .un, .un, .un, .un, .un, .un, .un, .un, .un, .un, .un, .un, .un, .un, .un, .un, .un, .un, .un, .un, .un, .un, .un, .un, .un]], []⟩)], fun v self ex => G71_71_4 n v self ex⟩
def F71 (n : Nat) (x0 x1 : T) : Option (List T) :=
  bif ((x0.L.length : Int) != (x1.L.length : Int)) then (some [.b false]) else (loopR (L71_71_4 n).G n [.l x0.L, .l x1.L, .i (x0.L.length : Int), .i 0] [fun u1 => some [.b ((u1.getD 0 (.i 0)).B)], fun u2 => some [.b true]])
def M71 (n : Nat) (τs : List T) : Option (List T) := match τs with
  | [x0, x1] => F71 n x0 x1
  | _ => none
noncomputable def code71 : List (Nat × Func) := [(71, Go.Proofs.Try.f71)]
def env71 : List (Nat × (Sig × Mean)) := []
def ann71 (f i : Nat) : Ann := match f, i with
  | 71, 4 => ⟨[(0, .any), (1, .any), (12, .any), (13, .any)], [], [(4, .any)]⟩
  | _, _ => ⟨[], [], []⟩
def lm71_71 (n : Nat) (i : Nat) : List LoopM := match i with
  | 4 => [L71_71_4 n]
  | _ => []
def lsl71 (n : Nat) : List ((Nat × Nat) × (Nat → List LoopM)) := [((3, 71), lm71_71 n)]
noncomputable def cf71 (n : Nat) : Cfg := ⟨tiOf tab, lookup code71, lookup env71, ann71, n⟩
theorem ev71 (n : Nat) (x0 x1 : T) : evF (cf71 n) (drawK (cf71 n)) (lms2 (lsl71 n)) 3 71 sg71 [x0, x1] = F71 n x0 x1 := by kernel_rfl
theorem lp71_71_4 (n : Nat) (K : Ex → St → Option (List T)) (self : List T → Option (List T)) (v : List T) : evC (cf71 n) (callK (cf71 n) (drawK (cf71 n)) (lms2 (lsl71 n)) 3) (drawK (cf71 n) (callK (cf71 n) (drawK (cf71 n)) (lms2 (lsl71 n)) 3)) (ann71 71) (lm71_71 n) (bodyOf Go.Proofs.Try.f71 4) ((L71_71_4 n).sk.fill v) (roundK (ann71 71 4) K (selfK (L71_71_4 n) self)) = (L71_71_4 n).G v self (exitK (L71_71_4 n) K) := by kernel_rfl
theorem eo71 (n : Nat) : EnvOk Go.Proofs.Try.prog (tiOf tab) n 71 sg71 ⟨M71⟩ :=
  have hc : CodeOk Go.Proofs.Try.prog (cf71 n) := (code_cons Go.Proofs.Try.func71 (by kernel_rfl) code_nil)
  have he : EnvsOk Go.Proofs.Try.prog (cf71 n) := env_nil
  have hl : LmsOk (R := List T) (cf71 n) (drawK (cf71 n)) (lms2 (lsl71 n)) (lsl71 n) := (lms_cons (loops_of (cf := cf71 n) (fn0 := Go.Proofs.Try.f71) rfl (l := [bodyOf Go.Proofs.Try.f71 4]) (by kernel_rfl) (loops_cons (b := bodyOf Go.Proofs.Try.f71 4) (by kernel_rfl) (rfl : lm71_71 n 4 = [L71_71_4 n]) (List.forall_mem_cons.2 ⟨fun K self v => lp71_71_4 n K self v, fun _ h => by cases h⟩) loops_nil)) lms_nil)
  envOk_of (cf := cf71 n) tabOk hc he (draw := drawK (cf71 n)) (fun _ => drawK_ok tabOk mixed hc he) (d := 3) (lms := lms2 (lsl71 n)) hl
    (fun τs rs h => by
      simp only [M71] at h
      split at h
      · exact (ev71 n _ _).trans h
      · cases h)
/-! ### 70: impl.SameMessages$1 -/
def sg70 : Sig := ⟨[(true, [.int .i64, .bool, .slice 5]), (true, [.int .i64, .bool, .slice 5])], [.leaf .bool false]⟩
def F70 (n : Nat) (x0 x1 x2 x3 x4 x5 : T) : Option (List T) :=
  bif (x0.I == x3.I) then (bif (x1.B == x4.B) then ((F71 n x2 x5).bind fun r1 => some [(r1.headD (.i 0))]) else (some [.b false])) else (some [.b false])
def M70 (n : Nat) (τs : List T) : Option (List T) := match τs with
  | [x0, x1, x2, x3, x4, x5] => F70 n x0 x1 x2 x3 x4 x5
  | _ => none
noncomputable def code70 : List (Nat × Func) := [(70, Go.Proofs.Try.f70)]
def env70 : List (Nat × (Sig × Mean)) := [(71, sg71, ⟨M71⟩)]
def ann70 (f i : Nat) : Ann := match f, i with
  | _, _ => ⟨[], [], []⟩
def lsl70 (n : Nat) : List ((Nat × Nat) × (Nat → List LoopM)) := []
noncomputable def cf70 (n : Nat) : Cfg := ⟨tiOf tab, lookup code70, lookup env70, ann70, n⟩
theorem ev70 (n : Nat) (x0 x1 x2 x3 x4 x5 : T) : evF (cf70 n) (drawK (cf70 n)) (lms2 (lsl70 n)) 3 70 sg70 [x0, x1, x2, x3, x4, x5] = F70 n x0 x1 x2 x3 x4 x5 := by kernel_rfl
theorem eo70 (n : Nat) : EnvOk Go.Proofs.Try.prog (tiOf tab) n 70 sg70 ⟨M70⟩ :=
  have hc : CodeOk Go.Proofs.Try.prog (cf70 n) := (code_cons Go.Proofs.Try.func70 (by kernel_rfl) code_nil)
  have he : EnvsOk Go.Proofs.Try.prog (cf70 n) := (env_cons (eo71 n) env_nil)
  have hl : LmsOk (R := List T) (cf70 n) (drawK (cf70 n)) (lms2 (lsl70 n)) (lsl70 n) := lms_nil
  envOk_of (cf := cf70 n) tabOk hc he (draw := drawK (cf70 n)) (fun _ => drawK_ok tabOk mixed hc he) (d := 3) (lms := lms2 (lsl70 n)) hl
    (fun τs rs h => by
      simp only [M70] at h
      split at h
      · exact (ev70 n _ _ _ _ _ _).trans h
      · cases h)
/-! ### 35: impl.SameMessages -/
def sg35 : Sig := ⟨[(false, [.slice 27]), (false, [.slice 27])], [.leaf .bool false]⟩
def G35_69_4 {R : Type} (n : Nat) (v : List T) (self : List T → Option R) (ex : List (List T → Option R)) : Option R :=
  bif (decide ((v.getD 3 (.i 0)).I < (v.getD 2 (.i 0)).I)) then (if 0 ≤ (v.getD 3 (.i 0)).I ∧ (v.getD 3 (.i 0)).I < (((v.getD 1 (.i 0)).L).length : Int) then (if 0 ≤ (v.getD 3 (.i 0)).I ∧ (v.getD 3 (.i 0)).I < (((v.getD 0 (.i 0)).L).length : Int) then ((F70 n ((at_ ((v.getD 1 (.i 0)).L) ((v.getD 3 (.i 0)).I)).F 0) ((at_ ((v.getD 1 (.i 0)).L) ((v.getD 3 (.i 0)).I)).F 1) ((at_ ((v.getD 1 (.i 0)).L) ((v.getD 3 (.i 0)).I)).F 2) ((at_ ((v.getD 0 (.i 0)).L) ((v.getD 3 (.i 0)).I)).F 0) ((at_ ((v.getD 0 (.i 0)).L) ((v.getD 3 (.i 0)).I)).F 1) ((at_ ((v.getD 0 (.i 0)).L) ((v.getD 3 (.i 0)).I)).F 2)).bind fun r1 => bif (!(r1.headD (.i 0)).B) then (exn ex 0 [.b false, .l ((v.getD 4 (.i 0)).L), .l ((v.getD 5 (.i 0)).L), .b ((v.getD 6 (.i 0)).B), .l ((v.getD 7 (.i 0)).L), .l ((v.getD 8 (.i 0)).L)]) else (self [.l ((v.getD 0 (.i 0)).L), .l ((v.getD 1 (.i 0)).L), .i ((v.getD 2 (.i 0)).I), .i (IntKind.wrap .i64 ((v.getD 3 (.i 0)).I + 1)), .l ((v.getD 4 (.i 0)).L), .l ((v.getD 5 (.i 0)).L), .b ((v.getD 6 (.i 0)).B), .l ((v.getD 7 (.i 0)).L), .l ((v.getD 8 (.i 0)).L)])) else none) else none) else (exn ex 1 [.l ((v.getD 4 (.i 0)).L), .l ((v.getD 5 (.i 0)).L), .b ((v.getD 6 (.i 0)).B), .l ((v.getD 7 (.i 0)).L), .l ((v.getD 8 (.i 0)).L)])
def L35_69_4 (n : Nat) : LoopM := ⟨⟨[[.un, .t (.slice 27) (.i 0), .fn 70 [], .un, .un, .un, .un, .un, .un, .un, .un, .un, .un, .un, .un, .t (.slice 27) (.i 0), .t (.int .i64) (.i 0), .t (.int .i64) (.i 0), .un, .un, .un, .un, .un, .un, .un, .un, .un, .un, .un, .un, .un, .un], [.t (.slice 27) (.i 0), .t (.slice 27) (.i 0), .tup [], .tup [], .t .bool (.i 0), .t (.slice 27) (.i 0), .t (.slice 27) (.i 0), .tup []]], []⟩, [(.ret, ⟨[[.un, .un, .un, .un, .un, .un, .t .bool (.i 0), .un, .un, .un, .un, .un, .un, .un, .un, .un, .un, .un, .un, .un, .un, .un, .un, .un, .un, .un, .un, .un, .un, .un, .un, .un], [.t (.slice 27) (.i 0), .t (.slice 27) (.i 0), .tup [], .tup [], .t .bool (.i 0), .t (.slice 27) (.i 0), .t (.slice 27) (.i 0), .tup []]], []⟩), (.exit 0, ⟨[[.un, .un, .un, .un, .un, .un, .un, .un, .un, .un, .un, .un, .un, .un, .un, .un, .un, .un, .un, .un, .un, .un, .un, .un, .un, .un, .un, .un, .un, .un, .un, .un], [.t (.slice 27) (.i 0), .t (.slice 27) (.i 0), .tup [], .tup [], .t .bool (.i 0), .t (.slice 27) (.i 0), .t (.slice 27) (.i 0), .tup []]], []⟩)], fun v self ex => G35_69_4 n v self ex⟩
def F35 (n : Nat) (x0 x1 : T) : Option (List T) :=
  bif ((x0.L.length : Int) != (x1.L.length : Int)) then (some [.b false]) else (loopR (L35_69_4 n).G n [.l x1.L, .l x0.L, .i (x0.L.length : Int), .i 0, .l x0.L, .l x1.L, .b false, .l x0.L, .l x1.L] [fun u2 => some [.b ((u2.getD 0 (.i 0)).B)], fun u3 => some [.b true]])
def M35 (n : Nat) (τs : List T) : Option (List T) := match τs with
  | [x0, x1] => F35 n x0 x1
  | _ => none
noncomputable def code35 : List (Nat × Func) := [(35, Go.Proofs.Try.f35), (69, Go.Proofs.Try.f69)]
def env35 : List (Nat × (Sig × Mean)) := [(70, sg70, ⟨M70⟩)]
def ann35 (f i : Nat) : Ann := match f, i with
  | 69, 4 => ⟨[(1, .any), (2, .any), (15, .any), (16, .any), (17, .any)], [], [(6, .any)]⟩
  | _, _ => ⟨[], [], []⟩
def lm35_69 (n : Nat) (i : Nat) : List LoopM := match i with
  | 4 => [L35_69_4 n]
  | _ => []
def lsl35 (n : Nat) : List ((Nat × Nat) × (Nat → List LoopM)) := [((2, 69), lm35_69 n)]
noncomputable def cf35 (n : Nat) : Cfg := ⟨tiOf tab, lookup code35, lookup env35, ann35, n⟩
theorem ev35 (n : Nat) (x0 x1 : T) : evF (cf35 n) (drawK (cf35 n)) (lms2 (lsl35 n)) 3 35 sg35 [x0, x1] = F35 n x0 x1 := by kernel_rfl
theorem lp35_69_4 (n : Nat) (K : Ex → St → Option (List T)) (self : List T → Option (List T)) (v : List T) : evC (cf35 n) (callK (cf35 n) (drawK (cf35 n)) (lms2 (lsl35 n)) 2) (drawK (cf35 n) (callK (cf35 n) (drawK (cf35 n)) (lms2 (lsl35 n)) 2)) (ann35 69) (lm35_69 n) (bodyOf Go.Proofs.Try.f69 4) ((L35_69_4 n).sk.fill v) (roundK (ann35 69 4) K (selfK (L35_69_4 n) self)) = (L35_69_4 n).G v self (exitK (L35_69_4 n) K) := by kernel_rfl
theorem eo35 (n : Nat) : EnvOk Go.Proofs.Try.prog (tiOf tab) n 35 sg35 ⟨M35⟩ :=
  have hc : CodeOk Go.Proofs.Try.prog (cf35 n) := (code_cons Go.Proofs.Try.func35 (by kernel_rfl) (code_cons Go.Proofs.Try.func69 (by kernel_rfl) code_nil))
  have he : EnvsOk Go.Proofs.Try.prog (cf35 n) := (env_cons (eo70 n) env_nil)
  have hl : LmsOk (R := List T) (cf35 n) (drawK (cf35 n)) (lms2 (lsl35 n)) (lsl35 n) := (lms_cons (loops_of (cf := cf35 n) (fn0 := Go.Proofs.Try.f69) rfl (l := [bodyOf Go.Proofs.Try.f69 4]) (by kernel_rfl) (loops_cons (b := bodyOf Go.Proofs.Try.f69 4) (by kernel_rfl) (rfl : lm35_69 n 4 = [L35_69_4 n]) (List.forall_mem_cons.2 ⟨fun K self v => lp35_69_4 n K self v, fun _ h => by cases h⟩) loops_nil)) lms_nil)
  envOk_of (cf := cf35 n) tabOk hc he (draw := drawK (cf35 n)) (fun _ => drawK_ok tabOk mixed hc he) (d := 3) (lms := lms2 (lsl35 n)) hl
    (fun τs rs h => by
      simp only [M35] at h
      split at h
      · exact (ev35 n _ _).trans h
      · cases h)
/-! ### 54: laws.eqByteS -/
def sg54 : Sig := ⟨[(false, [.slice 5]), (false, [.slice 5])], [.leaf .bool false]⟩
def G54_54_4 {R : Type} (n : Nat) (v : List T) (self : List T → Option R) (ex : List (List T → Option R)) : Option R :=
  bif (decide ((v.getD 2 (.i 0)).I < ((((v.getD 0 (.i 0)).L).length : Nat) : Int))) then (if 0 ≤ (v.getD 2 (.i 0)).I ∧ (v.getD 2 (.i 0)).I < (((v.getD 0 (.i 0)).L).length : Int) then (if 0 ≤ (v.getD 2 (.i 0)).I ∧ (v.getD 2 (.i 0)).I < (((v.getD 1 (.i 0)).L).length : Int) then (bif ((at_ ((v.getD 0 (.i 0)).L) ((v.getD 2 (.i 0)).I)).I != (at_ ((v.getD 1 (.i 0)).L) ((v.getD 2 (.i 0)).I)).I) then (exn ex 0 [.b false]) else (self [.l ((v.getD 0 (.i 0)).L), .l ((v.getD 1 (.i 0)).L), .i (IntKind.wrap .i64 ((v.getD 2 (.i 0)).I + 1))])) else none) else none) else (exn ex 1 [])
def L54_54_4 (n : Nat) : LoopM := ⟨⟨[[.t (.slice 5) (.i 0), .t (.slice 5) (.i 0), .un, .un, .un, .t (.int .i64) (.i 0), .un, .un, .un, .un, .un, .un, .un, .un, .un, .un, .un, .un, .un, .un, .un, .un, .un, .un, .un, .un]], []⟩, [(.ret, ⟨[[.un, .un, .un, .un, .t .bool (.i 0), .un, .un, .un, .un, .un, .un, .un, .un, .un, .un, .un, .un, .un, .un, .un, .un, .un, .un, .un, .un, .un]], []⟩), (.exit 0, ⟨[[.un, .un, .un, .un, .un, .un, .un, .un, .un, .un, .un, .un, .un, .un, .un, .un, .un, .un, .un, .un, .un, .un, .un, .un, .un, .un]], []⟩)], fun v self ex => G54_54_4 n v self ex⟩
def F54 (n : Nat) (x0 x1 : T) : Option (List T) :=
  bif ((x0.L.length : Int) != (x1.L.length : Int)) then (some [.b false]) else (loopR (L54_54_4 n).G n [.l x0.L, .l x1.L, .i 0] [fun u1 => some [.b ((u1.getD 0 (.i 0)).B)], fun u2 => some [.b true]])
def M54 (n : Nat) (τs : List T) : Option (List T) := match τs with
  | [x0, x1] => F54 n x0 x1
  | _ => none
noncomputable def code54 : List (Nat × Func) := [(54, Go.Proofs.Try.f54)]
def env54 : List (Nat × (Sig × Mean)) := []
def ann54 (f i : Nat) : Ann := match f, i with
  | 54, 4 => ⟨[(0, .any), (1, .any), (5, .any)], [], [(4, .any)]⟩
  | _, _ => ⟨[], [], []⟩
def lm54_54 (n : Nat) (i : Nat) : List LoopM := match i with
  | 4 => [L54_54_4 n]
  | _ => []
def lsl54 (n : Nat) : List ((Nat × Nat) × (Nat → List LoopM)) := [((3, 54), lm54_54 n)]
noncomputable def cf54 (n : Nat) : Cfg := ⟨tiOf tab, lookup code54, lookup env54, ann54, n⟩
theorem ev54 (n : Nat) (x0 x1 : T) : evF (cf54 n) (drawK (cf54 n)) (lms2 (lsl54 n)) 3 54 sg54 [x0, x1] = F54 n x0 x1 := by kernel_rfl
theorem lp54_54_4 (n : Nat) (K : Ex → St → Option (List T)) (self : List T → Option (List T)) (v : List T) : evC (cf54 n) (callK (cf54 n) (drawK (cf54 n)) (lms2 (lsl54 n)) 3) (drawK (cf54 n) (callK (cf54 n) (drawK (cf54 n)) (lms2 (lsl54 n)) 3)) (ann54 54) (lm54_54 n) (bodyOf Go.Proofs.Try.f54 4) ((L54_54_4 n).sk.fill v) (roundK (ann54 54 4) K (selfK (L54_54_4 n) self)) = (L54_54_4 n).G v self (exitK (L54_54_4 n) K) := by kernel_rfl
theorem eo54 (n : Nat) : EnvOk Go.Proofs.Try.prog (tiOf tab) n 54 sg54 ⟨M54⟩ :=
  have hc : CodeOk Go.Proofs.Try.prog (cf54 n) := (code_cons Go.Proofs.Try.func54 (by kernel_rfl) code_nil)
  have he : EnvsOk Go.Proofs.Try.prog (cf54 n) := env_nil
  have hl : LmsOk (R := List T) (cf54 n) (drawK (cf54 n)) (lms2 (lsl54 n)) (lsl54 n) := (lms_cons (loops_of (cf := cf54 n) (fn0 := Go.Proofs.Try.f54) rfl (l := [bodyOf Go.Proofs.Try.f54 4]) (by kernel_rfl) (loops_cons (b := bodyOf Go.Proofs.Try.f54 4) (by kernel_rfl) (rfl : lm54_54 n 4 = [L54_54_4 n]) (List.forall_mem_cons.2 ⟨fun K self v => lp54_54_4 n K self v, fun _ h => by cases h⟩) loops_nil)) lms_nil)
  envOk_of (cf := cf54 n) tabOk hc he (draw := drawK (cf54 n)) (fun _ => drawK_ok tabOk mixed hc he) (d := 3) (lms := lms2 (lsl54 n)) hl
    (fun τs rs h => by
      simp only [M54] at h
      split at h
      · exact (ev54 n _ _).trans h
      · cases h)
/-! ### 16: laws.eqMessage -/
def sg16 : Sig := ⟨[(true, [.int .i64, .bool, .slice 5]), (true, [.int .i64, .bool, .slice 5])], [.leaf .bool false]⟩
def F16 (n : Nat) (x0 x1 x2 x3 x4 x5 : T) : Option (List T) :=
  bif (x0.I != x3.I) then (some [.b false]) else (bif (!(x1.B == x4.B)) then (some [.b false]) else ((F54 n x2 x5).bind fun r1 => bif (!(r1.headD (.i 0)).B) then (some [.b false]) else (some [.b true])))
def M16 (n : Nat) (τs : List T) : Option (List T) := match τs with
  | [x0, x1, x2, x3, x4, x5] => F16 n x0 x1 x2 x3 x4 x5
  | _ => none
noncomputable def code16 : List (Nat × Func) := [(16, Go.Proofs.Try.f16)]
def env16 : List (Nat × (Sig × Mean)) := [(54, sg54, ⟨M54⟩)]
def ann16 (f i : Nat) : Ann := match f, i with
  | _, _ => ⟨[], [], []⟩
def lsl16 (n : Nat) : List ((Nat × Nat) × (Nat → List LoopM)) := []
noncomputable def cf16 (n : Nat) : Cfg := ⟨tiOf tab, lookup code16, lookup env16, ann16, n⟩
theorem ev16 (n : Nat) (x0 x1 x2 x3 x4 x5 : T) : evF (cf16 n) (drawK (cf16 n)) (lms2 (lsl16 n)) 3 16 sg16 [x0, x1, x2, x3, x4, x5] = F16 n x0 x1 x2 x3 x4 x5 := by kernel_rfl
theorem eo16 (n : Nat) : EnvOk Go.Proofs.Try.prog (tiOf tab) n 16 sg16 ⟨M16⟩ :=
  have hc : CodeOk Go.Proofs.Try.prog (cf16 n) := (code_cons Go.Proofs.Try.func16 (by kernel_rfl) code_nil)
  have he : EnvsOk Go.Proofs.Try.prog (cf16 n) := (env_cons (eo54 n) env_nil)
  have hl : LmsOk (R := List T) (cf16 n) (drawK (cf16 n)) (lms2 (lsl16 n)) (lsl16 n) := lms_nil
  envOk_of (cf := cf16 n) tabOk hc he (draw := drawK (cf16 n)) (fun _ => drawK_ok tabOk mixed hc he) (d := 3) (lms := lms2 (lsl16 n)) hl
    (fun τs rs h => by
      simp only [M16] at h
      split at h
      · exact (ev16 n _ _ _ _ _ _).trans h
      · cases h)
/-! ### 36: laws.eqMessageS -/
def sg36 : Sig := ⟨[(false, [.slice 27]), (false, [.slice 27])], [.leaf .bool false]⟩
def G36_36_4 {R : Type} (n : Nat) (v : List T) (self : List T → Option R) (ex : List (List T → Option R)) : Option R :=
  bif (decide ((v.getD 2 (.i 0)).I < ((((v.getD 0 (.i 0)).L).length : Nat) : Int))) then (if 0 ≤ (v.getD 2 (.i 0)).I ∧ (v.getD 2 (.i 0)).I < (((v.getD 0 (.i 0)).L).length : Int) then (if 0 ≤ (v.getD 2 (.i 0)).I ∧ (v.getD 2 (.i 0)).I < (((v.getD 1 (.i 0)).L).length : Int) then ((F16 n ((at_ ((v.getD 0 (.i 0)).L) ((v.getD 2 (.i 0)).I)).F 0) ((at_ ((v.getD 0 (.i 0)).L) ((v.getD 2 (.i 0)).I)).F 1) ((at_ ((v.getD 0 (.i 0)).L) ((v.getD 2 (.i 0)).I)).F 2) ((at_ ((v.getD 1 (.i 0)).L) ((v.getD 2 (.i 0)).I)).F 0) ((at_ ((v.getD 1 (.i 0)).L) ((v.getD 2 (.i 0)).I)).F 1) ((at_ ((v.getD 1 (.i 0)).L) ((v.getD 2 (.i 0)).I)).F 2)).bind fun r1 => bif (!(r1.headD (.i 0)).B) then (exn ex 0 [.b false]) else (self [.l ((v.getD 0 (.i 0)).L), .l ((v.getD 1 (.i 0)).L), .i (IntKind.wrap .i64 ((v.getD 2 (.i 0)).I + 1))])) else none) else none) else (exn ex 1 [])
def L36_36_4 (n : Nat) : LoopM := ⟨⟨[[.t (.slice 27) (.i 0), .t (.slice 27) (.i 0), .un, .un, .un, .t (.int .i64) (.i 0), .un, .un, .un, .un, .un, .un, .un, .un, .un, .un, .un, .un, .un, .un, .un, .un, .un, .un, .un, .un, .un]], []⟩, [(.ret, ⟨[[.un, .un, .un, .un, .t .bool (.i 0), .un, .un, .un, .un, .un, .un, .un, .un, .un, .un, .un, .un, .un, .un, .un, .un, .un, .un, .un, .un, .un, .un]], []⟩), (.exit 0, ⟨[[.un, .un, .un, .un, .un, .un, .un, .un, .un, .un, .un, .un, .un, .un, .un, .un, .un, .un, .un, .un, .un, .un, .un, .un, .un, .un, .un]], []⟩)], fun v self ex => G36_36_4 n v self ex⟩
def F36 (n : Nat) (x0 x1 : T) : Option (List T) :=
  bif ((x0.L.length : Int) != (x1.L.length : Int)) then (some [.b false]) else (loopR (L36_36_4 n).G n [.l x0.L, .l x1.L, .i 0] [fun u2 => some [.b ((u2.getD 0 (.i 0)).B)], fun u3 => some [.b true]])
def M36 (n : Nat) (τs : List T) : Option (List T) := match τs with
  | [x0, x1] => F36 n x0 x1
  | _ => none
noncomputable def code36 : List (Nat × Func) := [(36, Go.Proofs.Try.f36)]
def env36 : List (Nat × (Sig × Mean)) := [(16, sg16, ⟨M16⟩)]
def ann36 (f i : Nat) : Ann := match f, i with
  | 36, 4 => ⟨[(0, .any), (1, .any), (5, .any)], [], [(4, .any)]⟩
  | _, _ => ⟨[], [], []⟩
def lm36_36 (n : Nat) (i : Nat) : List LoopM := match i with
  | 4 => [L36_36_4 n]
  | _ => []
def lsl36 (n : Nat) : List ((Nat × Nat) × (Nat → List LoopM)) := [((3, 36), lm36_36 n)]
noncomputable def cf36 (n : Nat) : Cfg := ⟨tiOf tab, lookup code36, lookup env36, ann36, n⟩
theorem ev36 (n : Nat) (x0 x1 : T) : evF (cf36 n) (drawK (cf36 n)) (lms2 (lsl36 n)) 3 36 sg36 [x0, x1] = F36 n x0 x1 := by kernel_rfl
theorem lp36_36_4 (n : Nat) (K : Ex → St → Option (List T)) (self : List T → Option (List T)) (v : List T) : evC (cf36 n) (callK (cf36 n) (drawK (cf36 n)) (lms2 (lsl36 n)) 3) (drawK (cf36 n) (callK (cf36 n) (drawK (cf36 n)) (lms2 (lsl36 n)) 3)) (ann36 36) (lm36_36 n) (bodyOf Go.Proofs.Try.f36 4) ((L36_36_4 n).sk.fill v) (roundK (ann36 36 4) K (selfK (L36_36_4 n) self)) = (L36_36_4 n).G v self (exitK (L36_36_4 n) K) := by kernel_rfl
theorem eo36 (n : Nat) : EnvOk Go.Proofs.Try.prog (tiOf tab) n 36 sg36 ⟨M36⟩ :=
  have hc : CodeOk Go.Proofs.Try.prog (cf36 n) := (code_cons Go.Proofs.Try.func36 (by kernel_rfl) code_nil)
  have he : EnvsOk Go.Proofs.Try.prog (cf36 n) := (env_cons (eo16 n) env_nil)
  have hl : LmsOk (R := List T) (cf36 n) (drawK (cf36 n)) (lms2 (lsl36 n)) (lsl36 n) := (lms_cons (loops_of (cf := cf36 n) (fn0 := Go.Proofs.Try.f36) rfl (l := [bodyOf Go.Proofs.Try.f36 4]) (by kernel_rfl) (loops_cons (b := bodyOf Go.Proofs.Try.f36 4) (by kernel_rfl) (rfl : lm36_36 n 4 = [L36_36_4 n]) (List.forall_mem_cons.2 ⟨fun K self v => lp36_36_4 n K self v, fun _ h => by cases h⟩) loops_nil)) lms_nil)
  envOk_of (cf := cf36 n) tabOk hc he (draw := drawK (cf36 n)) (fun _ => drawK_ok tabOk mixed hc he) (d := 3) (lms := lms2 (lsl36 n)) hl
    (fun τs rs h => by
      simp only [M36] at h
      split at h
      · exact (ev36 n _ _).trans h
      · cases h)
/-! ### 7: laws.FnExactSameMessages -/
def sg7 : Sig := ⟨[(false, [.slice 24]), (false, [.slice 24])], [.leaf .bool false]⟩
def F7 (n : Nat) (x0 x1 : T) : Option (List T) :=
  (F32 n x0 (.i 1048576)).bind fun r1 => bif (decide ((r1.headD (.i 0)).I < 0)) then (some [.b true]) else ((F32 n x1 (r1.headD (.i 0))).bind fun r2 => bif (decide ((r2.headD (.i 0)).I < 0)) then (some [.b true]) else ((F34 n x0).bind fun r3 => (F34 n x1).bind fun r4 => (F33 n (r3.headD (.i 0)) (r4.headD (.i 0))).bind fun r5 => (F34 n x0).bind fun r6 => (F34 n x1).bind fun r7 => (F35 n (r6.headD (.i 0)) (r7.headD (.i 0))).bind fun r8 => bif (!((r8.headD (.i 0)).B == (r5.headD (.i 0)).B)) then (some [.b false]) else ((F34 n x0).bind fun r9 => (F36 n (r6.headD (.i 0)) (r9.headD (.i 0))).bind fun r10 => bif (!(r10.headD (.i 0)).B) then (some [.b false]) else ((F34 n x1).bind fun r11 => (F36 n (r7.headD (.i 0)) (r11.headD (.i 0))).bind fun r12 => bif (!(r12.headD (.i 0)).B) then (some [.b false]) else (some [.b true])))))
def M7 (n : Nat) (τs : List T) : Option (List T) := match τs with
  | [x0, x1] => F7 n x0 x1
  | _ => none
noncomputable def code7 : List (Nat × Func) := [(7, Go.Proofs.Try.f7)]
def env7 : List (Nat × (Sig × Mean)) := [(32, sg32, ⟨M32⟩), (33, sg33, ⟨M33⟩), (34, sg34, ⟨M34⟩), (35, sg35, ⟨M35⟩), (36, sg36, ⟨M36⟩)]
def ann7 (f i : Nat) : Ann := match f, i with
  | _, _ => ⟨[], [], []⟩
def lsl7 (n : Nat) : List ((Nat × Nat) × (Nat → List LoopM)) := []
noncomputable def cf7 (n : Nat) : Cfg := ⟨tiOf tab, lookup code7, lookup env7, ann7, n⟩
theorem ev7 (n : Nat) (x0 x1 : T) : evF (cf7 n) (drawK (cf7 n)) (lms2 (lsl7 n)) 3 7 sg7 [x0, x1] = F7 n x0 x1 := by kernel_rfl
theorem eo7 (n : Nat) : EnvOk Go.Proofs.Try.prog (tiOf tab) n 7 sg7 ⟨M7⟩ :=
  have hc : CodeOk Go.Proofs.Try.prog (cf7 n) := (code_cons Go.Proofs.Try.func7 (by kernel_rfl) code_nil)
  have he : EnvsOk Go.Proofs.Try.prog (cf7 n) := (env_cons (eo32 n) (env_cons (eo33 n) (env_cons (eo34 n) (env_cons (eo35 n) (env_cons (eo36 n) env_nil)))))
  have hl : LmsOk (R := List T) (cf7 n) (drawK (cf7 n)) (lms2 (lsl7 n)) (lsl7 n) := lms_nil
  envOk_of (cf := cf7 n) tabOk hc he (draw := drawK (cf7 n)) (fun _ => drawK_ok tabOk mixed hc he) (d := 3) (lms := lms2 (lsl7 n)) hl
    (fun τs rs h => by
      simp only [M7] at h
      split at h
      · exact (ev7 n _ _).trans h
      · cases h)
end Go.KX.Sa
