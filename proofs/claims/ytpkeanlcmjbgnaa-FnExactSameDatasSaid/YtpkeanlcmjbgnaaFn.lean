import Derived.Test.YtpkeanlcmjbgnaaProg
import Derived.KernelRfl
import Derived.Test.YtpkeanlcmjbgnaaKxC
namespace Go.KX.Sa
open Go
set_option linter.unusedVariables false
def tab : List (Nat × TyI) := [
  (2, ⟨true, false, [.int .i64], 8, .leaf, false⟩),
  (3, ⟨true, false, [.int .i64], 8, .leaf, false⟩),
  (4, ⟨true, false, [.bool], 1, .leaf, false⟩),
  (5, ⟨true, false, [.int .u8], 1, .leaf, false⟩),
  (9, ⟨true, false, [.str], 16, .leaf, false⟩),
  (22, ⟨true, false, [.slice 5], 24, .slice 5, false⟩),
  (68, ⟨true, false, [.slice 104], 24, .slice 104, false⟩),
  (71, ⟨true, false, [.slice 107], 24, .slice 107, false⟩),
  (104, ⟨true, true, [.int .i64, .int .i64, .int .i64, .bool, .bool, .bool, .slice 5], 56, .struct [(2, 0), (2, 1), (2, 2), (4, 3), (4, 4), (4, 5), (22, 6)], false⟩),
  (107, ⟨true, true, [.int .i64, .int .i64, .int .i64, .bool, .bool, .bool, .slice 5], 56, .struct [(2, 0), (2, 1), (2, 2), (4, 3), (4, 4), (4, 5), (22, 6)], false⟩)]
theorem tabOk : TabOk Go.Proofs.Try.prog (tiOf tab) := tab_ok (by kernel_rfl)
theorem mixed : Go.Proofs.Try.prog.follows .mixedOrders = true := by kernel_rfl
/-! ### 49: laws.szByteS -/
def sg49 : Sig := ⟨[(false, [.slice 5]), (false, [.int .i64])], [.leaf (.int .i64) false]⟩
def F49 (n : Nat) (x0 x1 : T) : Option (List T) :=
  bif (decide ((IntKind.wrap .i64 (x1.I - (x0.L.length : Int))) < 0)) then (some [.i (-1)]) else (some [.i (IntKind.wrap .i64 (x1.I - (x0.L.length : Int)))])
def M49 (n : Nat) (τs : List T) : Option (List T) := match τs with
  | [x0, x1] => F49 n x0 x1
  | _ => none
noncomputable def code49 : List (Nat × Func) := [(49, Go.Proofs.Try.f49)]
def env49 : List (Nat × (Sig × Mean)) := []
def ann49 (f i : Nat) : Ann := match f, i with
  | _, _ => ⟨[], [], []⟩
def lsl49 (n : Nat) : List ((Nat × Nat) × (Nat → List LoopM)) := []
noncomputable def cf49 (n : Nat) : Cfg := ⟨tiOf tab, lookup code49, lookup env49, ann49, n⟩
theorem ev49 (n : Nat) (x0 x1 : T) : evF (cf49 n) (drawK (cf49 n)) (lms2 (lsl49 n)) 3 49 sg49 [x0, x1] = F49 n x0 x1 := by kernel_rfl
theorem eo49 (n : Nat) : EnvOk Go.Proofs.Try.prog (tiOf tab) n 49 sg49 ⟨M49⟩ :=
  have hc : CodeOk Go.Proofs.Try.prog (cf49 n) := (code_cons Go.Proofs.Try.func49 (by kernel_rfl) code_nil)
  have he : EnvsOk Go.Proofs.Try.prog (cf49 n) := env_nil
  have hl : LmsOk (R := List T) (cf49 n) (drawK (cf49 n)) (lms2 (lsl49 n)) (lsl49 n) := lms_nil
  envOk_of (cf := cf49 n) tabOk hc he (draw := drawK (cf49 n)) (fun _ => drawK_ok tabOk mixed hc he) (d := 3) (lms := lms2 (lsl49 n)) hl
    (fun τs rs h => by
      simp only [M49] at h
      split at h
      · exact (ev49 n _ _).trans h
      · cases h)
/-! ### 76: laws.szData -/
def sg76 : Sig := ⟨[(true, [.int .i64, .int .i64, .int .i64, .bool, .bool, .bool, .slice 5]), (false, [.int .i64])], [.leaf (.int .i64) false]⟩
def F76 (n : Nat) (x0 x1 x2 x3 x4 x5 x6 x7 : T) : Option (List T) :=
  (F49 n x6 x7).bind fun r1 => bif (decide ((r1.headD (.i 0)).I < 0)) then (some [.i (-1)]) else (some [(r1.headD (.i 0))])
def M76 (n : Nat) (τs : List T) : Option (List T) := match τs with
  | [x0, x1, x2, x3, x4, x5, x6, x7] => F76 n x0 x1 x2 x3 x4 x5 x6 x7
  | _ => none
noncomputable def code76 : List (Nat × Func) := [(76, Go.Proofs.Try.f76)]
def env76 : List (Nat × (Sig × Mean)) := [(49, sg49, ⟨M49⟩)]
def ann76 (f i : Nat) : Ann := match f, i with
  | _, _ => ⟨[], [], []⟩
def lsl76 (n : Nat) : List ((Nat × Nat) × (Nat → List LoopM)) := []
noncomputable def cf76 (n : Nat) : Cfg := ⟨tiOf tab, lookup code76, lookup env76, ann76, n⟩
theorem ev76 (n : Nat) (x0 x1 x2 x3 x4 x5 x6 x7 : T) : evF (cf76 n) (drawK (cf76 n)) (lms2 (lsl76 n)) 3 76 sg76 [x0, x1, x2, x3, x4, x5, x6, x7] = F76 n x0 x1 x2 x3 x4 x5 x6 x7 := by kernel_rfl
theorem eo76 (n : Nat) : EnvOk Go.Proofs.Try.prog (tiOf tab) n 76 sg76 ⟨M76⟩ :=
  have hc : CodeOk Go.Proofs.Try.prog (cf76 n) := (code_cons Go.Proofs.Try.func76 (by kernel_rfl) code_nil)
  have he : EnvsOk Go.Proofs.Try.prog (cf76 n) := (env_cons (eo49 n) env_nil)
  have hl : LmsOk (R := List T) (cf76 n) (drawK (cf76 n)) (lms2 (lsl76 n)) (lsl76 n) := lms_nil
  envOk_of (cf := cf76 n) tabOk hc he (draw := drawK (cf76 n)) (fun _ => drawK_ok tabOk mixed hc he) (d := 3) (lms := lms2 (lsl76 n)) hl
    (fun τs rs h => by
      simp only [M76] at h
      split at h
      · exact (ev76 n _ _ _ _ _ _ _ _).trans h
      · cases h)
/-! ### 39: laws.szDataS -/
def sg39 : Sig := ⟨[(false, [.slice 104]), (false, [.int .i64])], [.leaf (.int .i64) false]⟩
def G39_39_5 {R : Type} (n : Nat) (v : List T) (self : List T → Option R) (ex : List (List T → Option R)) : Option R :=
  bif (decide ((v.getD 2 (.i 0)).I < ((((v.getD 0 (.i 0)).L).length : Nat) : Int))) then (if 0 ≤ (v.getD 2 (.i 0)).I ∧ (v.getD 2 (.i 0)).I < (((v.getD 0 (.i 0)).L).length : Int) then ((F76 n ((at_ ((v.getD 0 (.i 0)).L) ((v.getD 2 (.i 0)).I)).F 0) ((at_ ((v.getD 0 (.i 0)).L) ((v.getD 2 (.i 0)).I)).F 1) ((at_ ((v.getD 0 (.i 0)).L) ((v.getD 2 (.i 0)).I)).F 2) ((at_ ((v.getD 0 (.i 0)).L) ((v.getD 2 (.i 0)).I)).F 3) ((at_ ((v.getD 0 (.i 0)).L) ((v.getD 2 (.i 0)).I)).F 4) ((at_ ((v.getD 0 (.i 0)).L) ((v.getD 2 (.i 0)).I)).F 5) ((at_ ((v.getD 0 (.i 0)).L) ((v.getD 2 (.i 0)).I)).F 6) (.i ((v.getD 1 (.i 0)).I))).bind fun r1 => bif (decide ((r1.headD (.i 0)).I < 0)) then (exn ex 0 [.i ((r1.headD (.i 0)).I), .i (-1)]) else (self [.l ((v.getD 0 (.i 0)).L), .i ((r1.headD (.i 0)).I), .i (IntKind.wrap .i64 ((v.getD 2 (.i 0)).I + 1))])) else none) else (exn ex 1 [.i ((v.getD 1 (.i 0)).I)])
def L39_39_5 (n : Nat) : LoopM := ⟨⟨[[.t (.slice 104) (.i 0), .t (.int .i64) (.i 0), .un, .un, .un, .t (.int .i64) (.i 0), .un, .un, .un, .un, .un, .un, .un, .un, .un, .un, .un, .un, .un, .un, .un, .un, .un, .un, .un, .un, .un]], []⟩, [(.ret, ⟨[[.un, .t (.int .i64) (.i 0), .un, .un, .t (.int .i64) (.i 0), .un, .un, .un, .un, .un, .un, .un, .un, .un, .un, .un, .un, .un, .un, .un, .un, .un, .un, .un, .un, .un, .un]], []⟩), (.exit 0, ⟨[[.un, .t (.int .i64) (.i 0), .un, .un, .un, .un, .un, .un, .un, .un, .un, .un, .un, .un, .un, .un, .un, .un, .un, .un, .un, .un, .un, .un, .un, .un, .un]], []⟩)], fun v self ex => G39_39_5 n v self ex⟩
def F39 (n : Nat) (x0 x1 : T) : Option (List T) :=
  bif (decide ((IntKind.wrap .i64 (x1.I - (x0.L.length : Int))) < 0)) then (some [.i (-1)]) else (loopR (L39_39_5 n).G n [.l x0.L, .i (IntKind.wrap .i64 (x1.I - (x0.L.length : Int))), .i 0] [fun u2 => some [.i ((u2.getD 1 (.i 0)).I)], fun u3 => some [.i ((u3.getD 0 (.i 0)).I)]])
def M39 (n : Nat) (τs : List T) : Option (List T) := match τs with
  | [x0, x1] => F39 n x0 x1
  | _ => none
noncomputable def code39 : List (Nat × Func) := [(39, Go.Proofs.Try.f39)]
def env39 : List (Nat × (Sig × Mean)) := [(76, sg76, ⟨M76⟩)]
def ann39 (f i : Nat) : Ann := match f, i with
  | 39, 5 => ⟨[(0, .any), (1, .any), (5, .any)], [], [(1, .any), (4, .any)]⟩
  | _, _ => ⟨[], [], []⟩
def lm39_39 (n : Nat) (i : Nat) : List LoopM := match i with
  | 5 => [L39_39_5 n]
  | _ => []
def lsl39 (n : Nat) : List ((Nat × Nat) × (Nat → List LoopM)) := [((3, 39), lm39_39 n)]
noncomputable def cf39 (n : Nat) : Cfg := ⟨tiOf tab, lookup code39, lookup env39, ann39, n⟩
theorem ev39 (n : Nat) (x0 x1 : T) : evF (cf39 n) (drawK (cf39 n)) (lms2 (lsl39 n)) 3 39 sg39 [x0, x1] = F39 n x0 x1 := by kernel_rfl
theorem lp39_39_5 (n : Nat) (K : Ex → St → Option (List T)) (self : List T → Option (List T)) (v : List T) : evC (cf39 n) (callK (cf39 n) (drawK (cf39 n)) (lms2 (lsl39 n)) 3) (drawK (cf39 n) (callK (cf39 n) (drawK (cf39 n)) (lms2 (lsl39 n)) 3)) (ann39 39) (lm39_39 n) (bodyOf Go.Proofs.Try.f39 5) ((L39_39_5 n).sk.fill v) (roundK (ann39 39 5) K (selfK (L39_39_5 n) self)) = (L39_39_5 n).G v self (exitK (L39_39_5 n) K) := by kernel_rfl
theorem eo39 (n : Nat) : EnvOk Go.Proofs.Try.prog (tiOf tab) n 39 sg39 ⟨M39⟩ :=
  have hc : CodeOk Go.Proofs.Try.prog (cf39 n) := (code_cons Go.Proofs.Try.func39 (by kernel_rfl) code_nil)
  have he : EnvsOk Go.Proofs.Try.prog (cf39 n) := (env_cons (eo76 n) env_nil)
  have hl : LmsOk (R := List T) (cf39 n) (drawK (cf39 n)) (lms2 (lsl39 n)) (lsl39 n) := (lms_cons (loops_of (cf := cf39 n) (fn0 := Go.Proofs.Try.f39) rfl (l := [bodyOf Go.Proofs.Try.f39 5]) (by kernel_rfl) (loops_cons (b := bodyOf Go.Proofs.Try.f39 5) (by kernel_rfl) (rfl : lm39_39 n 5 = [L39_39_5 n]) (List.forall_mem_cons.2 ⟨fun K self v => lp39_39_5 n K self v, fun _ h => by cases h⟩) loops_nil)) lms_nil)
  envOk_of (cf := cf39 n) tabOk hc he (draw := drawK (cf39 n)) (fun _ => drawK_ok tabOk mixed hc he) (d := 3) (lms := lms2 (lsl39 n)) hl
    (fun τs rs h => by
      simp only [M39] at h
      split at h
      · exact (ev39 n _ _).trans h
      · cases h)
/-! ### 77: spec.l8Same -/
def sg77 : Sig := ⟨[(false, [.box 107]), (false, [.box 107])], [.leaf .bool false]⟩
def F77 (n : Nat) (x0 x1 : T) : Option (List T) :=
  bif ((x0.F 0).I == (x1.F 0).I) then (bif ((x0.F 0).I == (x1.F 0).I) then (bif ((x0.F 1).I == (x1.F 1).I) then (bif ((x0.F 1).I == (x1.F 1).I) then (bif ((x0.F 2).I == (x1.F 2).I) then (bif ((x0.F 2).I == (x1.F 2).I) then (bif ((x0.F 3).B == (x1.F 3).B) then (bif ((x0.F 3).B == (x1.F 3).B) then (bif ((x0.F 4).B == (x1.F 4).B) then (bif ((x0.F 4).B == (x1.F 4).B) then (bif ((x0.F 5).B == (x1.F 5).B) then (bif ((x0.F 5).B == (x1.F 5).B) then (some [.b ((((x0.F 6).L).map fun τ => UInt8.ofNat τ.I.toNat) == (((x1.F 6).L).map fun τ => UInt8.ofNat τ.I.toNat))]) else (some [.b false])) else (bif ((x0.F 5).B == (x1.F 5).B) then none else (some [.b false]))) else (some [.b false])) else (bif ((x0.F 4).B == (x1.F 4).B) then none else (some [.b false]))) else (some [.b false])) else (bif ((x0.F 3).B == (x1.F 3).B) then none else (some [.b false]))) else (some [.b false])) else (bif ((x0.F 2).I == (x1.F 2).I) then none else (some [.b false]))) else (some [.b false])) else (bif ((x0.F 1).I == (x1.F 1).I) then none else (some [.b false]))) else (some [.b false])) else (bif ((x0.F 0).I == (x1.F 0).I) then none else (some [.b false]))
def M77 (n : Nat) (τs : List T) : Option (List T) := match τs with
  | [x0, x1] => F77 n x0 x1
  | _ => none
noncomputable def code77 : List (Nat × Func) := [(77, Go.Proofs.Try.f77)]
def env77 : List (Nat × (Sig × Mean)) := []
def ann77 (f i : Nat) : Ann := match f, i with
  | _, _ => ⟨[], [], []⟩
def lsl77 (n : Nat) : List ((Nat × Nat) × (Nat → List LoopM)) := []
noncomputable def cf77 (n : Nat) : Cfg := ⟨tiOf tab, lookup code77, lookup env77, ann77, n⟩
theorem ev77 (n : Nat) (x0 x1 : T) : evF (cf77 n) (drawK (cf77 n)) (lms2 (lsl77 n)) 3 77 sg77 [x0, x1] = F77 n x0 x1 := by kernel_rfl
theorem eo77 (n : Nat) : EnvOk Go.Proofs.Try.prog (tiOf tab) n 77 sg77 ⟨M77⟩ :=
  have hc : CodeOk Go.Proofs.Try.prog (cf77 n) := (code_cons Go.Proofs.Try.func77 (by kernel_rfl) code_nil)
  have he : EnvsOk Go.Proofs.Try.prog (cf77 n) := env_nil
  have hl : LmsOk (R := List T) (cf77 n) (drawK (cf77 n)) (lms2 (lsl77 n)) (lsl77 n) := lms_nil
  envOk_of (cf := cf77 n) tabOk hc he (draw := drawK (cf77 n)) (fun _ => drawK_ok tabOk mixed hc he) (d := 3) (lms := lms2 (lsl77 n)) hl
    (fun τs rs h => by
      simp only [M77] at h
      split at h
      · exact (ev77 n _ _).trans h
      · cases h)
/-! ### 40: spec.SameDatas -/
def sg40 : Sig := ⟨[(false, [.slice 107]), (false, [.slice 107])], [.leaf .bool false]⟩
def G40_40_4 {R : Type} (n : Nat) (v : List T) (self : List T → Option R) (ex : List (List T → Option R)) : Option R :=
  bif (decide ((v.getD 2 (.i 0)).I < ((((v.getD 0 (.i 0)).L).length : Nat) : Int))) then (if 0 ≤ (v.getD 2 (.i 0)).I ∧ (v.getD 2 (.i 0)).I < (((v.getD 0 (.i 0)).L).length : Int) then (if 0 ≤ (v.getD 2 (.i 0)).I ∧ (v.getD 2 (.i 0)).I < (((v.getD 1 (.i 0)).L).length : Int) then ((F77 n (at_ ((v.getD 0 (.i 0)).L) ((v.getD 2 (.i 0)).I)) (at_ ((v.getD 1 (.i 0)).L) ((v.getD 2 (.i 0)).I))).bind fun r1 => bif (!(r1.headD (.i 0)).B) then (exn ex 0 [.b false]) else (self [.l ((v.getD 0 (.i 0)).L), .l ((v.getD 1 (.i 0)).L), .i (IntKind.wrap .i64 ((v.getD 2 (.i 0)).I + 1))])) else none) else none) else (exn ex 1 [])
def L40_40_4 (n : Nat) : LoopM := ⟨⟨[[.t (.slice 107) (.i 0), .t (.slice 107) (.i 0), .un, .un, .un, .t (.int .i64) (.i 0), .un, .un, .un, .un, .un, .un, .un, .un, .un, .un, .un, .un, .un, .un, .un, .un, .un, .un, .un]], []⟩, [(.ret, ⟨[[.un, .un, .un, .un, .t .bool (.i 0), .un, .un, .un, .un, .un, .un, .un, .un, .un, .un, .un, .un, .un, .un, .un, .un, .un, .un, .un, .un]], []⟩), (.exit 0, ⟨[[.un, .un, .un, .un, .un, .un, .un, .un, .un, .un, .un, .un, .un, .un, .un, .un, .un, .un, .un, .un, .un, .un, .un, .un, .un]], []⟩)], fun v self ex => G40_40_4 n v self ex⟩
def F40 (n : Nat) (x0 x1 : T) : Option (List T) :=
  bif ((x0.L.length : Int) != (x1.L.length : Int)) then (some [.b false]) else (loopR (L40_40_4 n).G n [.l x0.L, .l x1.L, .i 0] [fun u2 => some [.b ((u2.getD 0 (.i 0)).B)], fun u3 => some [.b true]])
def M40 (n : Nat) (τs : List T) : Option (List T) := match τs with
  | [x0, x1] => F40 n x0 x1
  | _ => none
noncomputable def code40 : List (Nat × Func) := [(40, Go.Proofs.Try.f40)]
def env40 : List (Nat × (Sig × Mean)) := [(77, sg77, ⟨M77⟩)]
def ann40 (f i : Nat) : Ann := match f, i with
  | 40, 4 => ⟨[(0, .any), (1, .any), (5, .any)], [], [(4, .any)]⟩
  | _, _ => ⟨[], [], []⟩
def lm40_40 (n : Nat) (i : Nat) : List LoopM := match i with
  | 4 => [L40_40_4 n]
  | _ => []
def lsl40 (n : Nat) : List ((Nat × Nat) × (Nat → List LoopM)) := [((3, 40), lm40_40 n)]
noncomputable def cf40 (n : Nat) : Cfg := ⟨tiOf tab, lookup code40, lookup env40, ann40, n⟩
theorem ev40 (n : Nat) (x0 x1 : T) : evF (cf40 n) (drawK (cf40 n)) (lms2 (lsl40 n)) 3 40 sg40 [x0, x1] = F40 n x0 x1 := by kernel_rfl
theorem lp40_40_4 (n : Nat) (K : Ex → St → Option (List T)) (self : List T → Option (List T)) (v : List T) : evC (cf40 n) (callK (cf40 n) (drawK (cf40 n)) (lms2 (lsl40 n)) 3) (drawK (cf40 n) (callK (cf40 n) (drawK (cf40 n)) (lms2 (lsl40 n)) 3)) (ann40 40) (lm40_40 n) (bodyOf Go.Proofs.Try.f40 4) ((L40_40_4 n).sk.fill v) (roundK (ann40 40 4) K (selfK (L40_40_4 n) self)) = (L40_40_4 n).G v self (exitK (L40_40_4 n) K) := by kernel_rfl
theorem eo40 (n : Nat) : EnvOk Go.Proofs.Try.prog (tiOf tab) n 40 sg40 ⟨M40⟩ :=
  have hc : CodeOk Go.Proofs.Try.prog (cf40 n) := (code_cons Go.Proofs.Try.func40 (by kernel_rfl) code_nil)
  have he : EnvsOk Go.Proofs.Try.prog (cf40 n) := (env_cons (eo77 n) env_nil)
  have hl : LmsOk (R := List T) (cf40 n) (drawK (cf40 n)) (lms2 (lsl40 n)) (lsl40 n) := (lms_cons (loops_of (cf := cf40 n) (fn0 := Go.Proofs.Try.f40) rfl (l := [bodyOf Go.Proofs.Try.f40 4]) (by kernel_rfl) (loops_cons (b := bodyOf Go.Proofs.Try.f40 4) (by kernel_rfl) (rfl : lm40_40 n 4 = [L40_40_4 n]) (List.forall_mem_cons.2 ⟨fun K self v => lp40_40_4 n K self v, fun _ h => by cases h⟩) loops_nil)) lms_nil)
  envOk_of (cf := cf40 n) tabOk hc he (draw := drawK (cf40 n)) (fun _ => drawK_ok tabOk mixed hc he) (d := 3) (lms := lms2 (lsl40 n)) hl
    (fun τs rs h => by
      simp only [M40] at h
      split at h
      · exact (ev40 n _ _).trans h
      · cases h)
/-! ### 51: laws.toByteS -/
def sg51 : Sig := ⟨[(false, [.slice 5])], [.leaf (.slice 5) false]⟩
def G51_51_3 {R : Type} (n : Nat) (v : List T) (self : List T → Option R) (ex : List (List T → Option R)) : Option R :=
  bif (decide ((v.getD 1 (.i 0)).I < ((((v.getD 0 (.i 0)).L).length : Nat) : Int))) then (if 0 ≤ (v.getD 1 (.i 0)).I ∧ (v.getD 1 (.i 0)).I < (((v.getD 0 (.i 0)).L).length : Int) then (if 0 ≤ (v.getD 1 (.i 0)).I ∧ (v.getD 1 (.i 0)).I < (((v.getD 2 (.i 0)).L).length : Int) then (if 5 = 5 ∧ ((v.getD 1 (.i 0)).I).toNat < ((v.getD 2 (.i 0)).L).length then (self [.l ((v.getD 0 (.i 0)).L), .i (IntKind.wrap .i64 ((v.getD 1 (.i 0)).I + 1)), .l (((v.getD 2 (.i 0)).L).set (((v.getD 1 (.i 0)).I).toNat) ((at_ ((v.getD 0 (.i 0)).L) ((v.getD 1 (.i 0)).I))))]) else none) else none) else none) else (exn ex 0 [.l ((v.getD 2 (.i 0)).L)])
def L51_51_3 (n : Nat) : LoopM := ⟨⟨[[.t (.slice 5) (.i 0), .un, .un, .own 5 0, .t (.int .i64) (.i 0), .un, .un, .un, .un, .un, .un, .un, .un, .un, .un, .un, .un, .un, .un, .un, .un, .un]], [.arr 5 []]⟩, [(.exit 0, ⟨[[.un, .un, .un, .own 5 0, .un, .un, .un, .un, .un, .un, .un, .un, .un, .un, .un, .un, .un, .un, .un, .un, .un, .un]], [.arr 5 []]⟩)], fun v self ex => G51_51_3 n v self ex⟩
def F51 (n : Nat) (x0 : T) : Option (List T) :=
  if 0 ≤ (x0.L.length : Int) ∧ (x0.L.length : Int) * 1 ≤ limB ∧ (x0.L.length : Int) < maxN then (loopR (L51_51_3 n).G n [.l x0.L, .i 0, .l (List.replicate ((x0.L.length : Int)).toNat (T.i 0))] [fun u1 => some [.l ((u1.getD 0 (.i 0)).L)]]) else none
def M51 (n : Nat) (τs : List T) : Option (List T) := match τs with
  | [x0] => F51 n x0
  | _ => none
noncomputable def code51 : List (Nat × Func) := [(51, Go.Proofs.Try.f51)]
def env51 : List (Nat × (Sig × Mean)) := []
def ann51 (f i : Nat) : Ann := match f, i with
  | 51, 3 => ⟨[(0, .any), (3, .any), (4, .any)], [], [(3, .any)]⟩
  | _, _ => ⟨[], [], []⟩
def lm51_51 (n : Nat) (i : Nat) : List LoopM := match i with
  | 3 => [L51_51_3 n]
  | _ => []
def lsl51 (n : Nat) : List ((Nat × Nat) × (Nat → List LoopM)) := [((3, 51), lm51_51 n)]
noncomputable def cf51 (n : Nat) : Cfg := ⟨tiOf tab, lookup code51, lookup env51, ann51, n⟩
theorem ev51 (n : Nat) (x0 : T) : evF (cf51 n) (drawK (cf51 n)) (lms2 (lsl51 n)) 3 51 sg51 [x0] = F51 n x0 := by kernel_rfl
theorem lp51_51_3 (n : Nat) (K : Ex → St → Option (List T)) (self : List T → Option (List T)) (v : List T) : evC (cf51 n) (callK (cf51 n) (drawK (cf51 n)) (lms2 (lsl51 n)) 3) (drawK (cf51 n) (callK (cf51 n) (drawK (cf51 n)) (lms2 (lsl51 n)) 3)) (ann51 51) (lm51_51 n) (bodyOf Go.Proofs.Try.f51 3) ((L51_51_3 n).sk.fill v) (roundK (ann51 51 3) K (selfK (L51_51_3 n) self)) = (L51_51_3 n).G v self (exitK (L51_51_3 n) K) := by kernel_rfl
theorem eo51 (n : Nat) : EnvOk Go.Proofs.Try.prog (tiOf tab) n 51 sg51 ⟨M51⟩ :=
  have hc : CodeOk Go.Proofs.Try.prog (cf51 n) := (code_cons Go.Proofs.Try.func51 (by kernel_rfl) code_nil)
  have he : EnvsOk Go.Proofs.Try.prog (cf51 n) := env_nil
  have hl : LmsOk (R := List T) (cf51 n) (drawK (cf51 n)) (lms2 (lsl51 n)) (lsl51 n) := (lms_cons (loops_of (cf := cf51 n) (fn0 := Go.Proofs.Try.f51) rfl (l := [bodyOf Go.Proofs.Try.f51 3]) (by kernel_rfl) (loops_cons (b := bodyOf Go.Proofs.Try.f51 3) (by kernel_rfl) (rfl : lm51_51 n 3 = [L51_51_3 n]) (List.forall_mem_cons.2 ⟨fun K self v => lp51_51_3 n K self v, fun _ h => by cases h⟩) loops_nil)) lms_nil)
  envOk_of (cf := cf51 n) tabOk hc he (draw := drawK (cf51 n)) (fun _ => drawK_ok tabOk mixed hc he) (d := 3) (lms := lms2 (lsl51 n)) hl
    (fun τs rs h => by
      simp only [M51] at h
      split at h
      · exact (ev51 n _).trans h
      · cases h)
/-! ### 78: laws.toData -/
def sg78 : Sig := ⟨[(true, [.int .i64, .int .i64, .int .i64, .bool, .bool, .bool, .slice 5])], [.agg [(.int .i64, false), (.int .i64, false), (.int .i64, false), (.bool, false), (.bool, false), (.bool, false), (.slice 5, false)]]⟩
def F78 (n : Nat) (x0 x1 x2 x3 x4 x5 x6 : T) : Option (List T) :=
  (F51 n x6).bind fun r1 => some [x0, x1, x2, x3, x4, x5, (r1.headD (.i 0))]
def M78 (n : Nat) (τs : List T) : Option (List T) := match τs with
  | [x0, x1, x2, x3, x4, x5, x6] => F78 n x0 x1 x2 x3 x4 x5 x6
  | _ => none
noncomputable def code78 : List (Nat × Func) := [(78, Go.Proofs.Try.f78)]
def env78 : List (Nat × (Sig × Mean)) := [(51, sg51, ⟨M51⟩)]
def ann78 (f i : Nat) : Ann := match f, i with
  | _, _ => ⟨[], [], []⟩
def lsl78 (n : Nat) : List ((Nat × Nat) × (Nat → List LoopM)) := []
noncomputable def cf78 (n : Nat) : Cfg := ⟨tiOf tab, lookup code78, lookup env78, ann78, n⟩
theorem ev78 (n : Nat) (x0 x1 x2 x3 x4 x5 x6 : T) : evF (cf78 n) (drawK (cf78 n)) (lms2 (lsl78 n)) 3 78 sg78 [x0, x1, x2, x3, x4, x5, x6] = F78 n x0 x1 x2 x3 x4 x5 x6 := by kernel_rfl
theorem eo78 (n : Nat) : EnvOk Go.Proofs.Try.prog (tiOf tab) n 78 sg78 ⟨M78⟩ :=
  have hc : CodeOk Go.Proofs.Try.prog (cf78 n) := (code_cons Go.Proofs.Try.func78 (by kernel_rfl) code_nil)
  have he : EnvsOk Go.Proofs.Try.prog (cf78 n) := (env_cons (eo51 n) env_nil)
  have hl : LmsOk (R := List T) (cf78 n) (drawK (cf78 n)) (lms2 (lsl78 n)) (lsl78 n) := lms_nil
  envOk_of (cf := cf78 n) tabOk hc he (draw := drawK (cf78 n)) (fun _ => drawK_ok tabOk mixed hc he) (d := 3) (lms := lms2 (lsl78 n)) hl
    (fun τs rs h => by
      simp only [M78] at h
      split at h
      · exact (ev78 n _ _ _ _ _ _ _).trans h
      · cases h)
/-! ### 41: laws.toDataS -/
def sg41 : Sig := ⟨[(false, [.slice 104])], [.leaf (.slice 107) false]⟩
def G41_41_3 {R : Type} (n : Nat) (v : List T) (self : List T → Option R) (ex : List (List T → Option R)) : Option R :=
  bif (decide ((v.getD 1 (.i 0)).I < ((((v.getD 0 (.i 0)).L).length : Nat) : Int))) then (if 0 ≤ (v.getD 1 (.i 0)).I ∧ (v.getD 1 (.i 0)).I < (((v.getD 0 (.i 0)).L).length : Int) then ((F78 n ((at_ ((v.getD 0 (.i 0)).L) ((v.getD 1 (.i 0)).I)).F 0) ((at_ ((v.getD 0 (.i 0)).L) ((v.getD 1 (.i 0)).I)).F 1) ((at_ ((v.getD 0 (.i 0)).L) ((v.getD 1 (.i 0)).I)).F 2) ((at_ ((v.getD 0 (.i 0)).L) ((v.getD 1 (.i 0)).I)).F 3) ((at_ ((v.getD 0 (.i 0)).L) ((v.getD 1 (.i 0)).I)).F 4) ((at_ ((v.getD 0 (.i 0)).L) ((v.getD 1 (.i 0)).I)).F 5) ((at_ ((v.getD 0 (.i 0)).L) ((v.getD 1 (.i 0)).I)).F 6)).bind fun r1 => if 0 ≤ (v.getD 1 (.i 0)).I ∧ (v.getD 1 (.i 0)).I < (((v.getD 2 (.i 0)).L).length : Int) then (if 107 = 107 ∧ ((v.getD 1 (.i 0)).I).toNat < ((v.getD 2 (.i 0)).L).length then (self [.l ((v.getD 0 (.i 0)).L), .i (IntKind.wrap .i64 ((v.getD 1 (.i 0)).I + 1)), .l (((v.getD 2 (.i 0)).L).set (((v.getD 1 (.i 0)).I).toNat) (.r [(r1.headD (.i 0)), (r1.tail.headD (.i 0)), (r1.tail.tail.headD (.i 0)), (r1.tail.tail.tail.headD (.i 0)), (r1.tail.tail.tail.tail.headD (.i 0)), (r1.tail.tail.tail.tail.tail.headD (.i 0)), (r1.tail.tail.tail.tail.tail.tail.headD (.i 0))]))]) else none) else none) else none) else (exn ex 0 [.l ((v.getD 2 (.i 0)).L)])
def L41_41_3 (n : Nat) : LoopM := ⟨⟨[[.t (.slice 104) (.i 0), .un, .un, .own 107 0, .t (.int .i64) (.i 0), .un, .un, .un, .un, .un, .un, .un, .un, .un, .un, .un, .un, .un, .un, .un, .un, .un, .un]], [.arr 107 []]⟩, [(.exit 0, ⟨[[.un, .un, .un, .own 107 0, .un, .un, .un, .un, .un, .un, .un, .un, .un, .un, .un, .un, .un, .un, .un, .un, .un, .un, .un]], [.arr 107 []]⟩)], fun v self ex => G41_41_3 n v self ex⟩
def F41 (n : Nat) (x0 : T) : Option (List T) :=
  if 0 ≤ (x0.L.length : Int) ∧ (x0.L.length : Int) * 56 ≤ limB ∧ (x0.L.length : Int) < maxN then (loopR (L41_41_3 n).G n [.l x0.L, .i 0, .l (List.replicate ((x0.L.length : Int)).toNat (T.r [.i 0, .i 0, .i 0, .b false, .b false, .b false, .l []]))] [fun u2 => some [.l ((u2.getD 0 (.i 0)).L)]]) else none
def M41 (n : Nat) (τs : List T) : Option (List T) := match τs with
  | [x0] => F41 n x0
  | _ => none
noncomputable def code41 : List (Nat × Func) := [(41, Go.Proofs.Try.f41)]
def env41 : List (Nat × (Sig × Mean)) := [(78, sg78, ⟨M78⟩)]
def ann41 (f i : Nat) : Ann := match f, i with
  | 41, 3 => ⟨[(0, .any), (3, .any), (4, .any)], [], [(3, .any)]⟩
  | _, _ => ⟨[], [], []⟩
def lm41_41 (n : Nat) (i : Nat) : List LoopM := match i with
  | 3 => [L41_41_3 n]
  | _ => []
def lsl41 (n : Nat) : List ((Nat × Nat) × (Nat → List LoopM)) := [((3, 41), lm41_41 n)]
noncomputable def cf41 (n : Nat) : Cfg := ⟨tiOf tab, lookup code41, lookup env41, ann41, n⟩
theorem ev41 (n : Nat) (x0 : T) : evF (cf41 n) (drawK (cf41 n)) (lms2 (lsl41 n)) 3 41 sg41 [x0] = F41 n x0 := by kernel_rfl
theorem lp41_41_3 (n : Nat) (K : Ex → St → Option (List T)) (self : List T → Option (List T)) (v : List T) : evC (cf41 n) (callK (cf41 n) (drawK (cf41 n)) (lms2 (lsl41 n)) 3) (drawK (cf41 n) (callK (cf41 n) (drawK (cf41 n)) (lms2 (lsl41 n)) 3)) (ann41 41) (lm41_41 n) (bodyOf Go.Proofs.Try.f41 3) ((L41_41_3 n).sk.fill v) (roundK (ann41 41 3) K (selfK (L41_41_3 n) self)) = (L41_41_3 n).G v self (exitK (L41_41_3 n) K) := by kernel_rfl
theorem eo41 (n : Nat) : EnvOk Go.Proofs.Try.prog (tiOf tab) n 41 sg41 ⟨M41⟩ :=
  have hc : CodeOk Go.Proofs.Try.prog (cf41 n) := (code_cons Go.Proofs.Try.func41 (by kernel_rfl) code_nil)
  have he : EnvsOk Go.Proofs.Try.prog (cf41 n) := (env_cons (eo78 n) env_nil)
  have hl : LmsOk (R := List T) (cf41 n) (drawK (cf41 n)) (lms2 (lsl41 n)) (lsl41 n) := (lms_cons (loops_of (cf := cf41 n) (fn0 := Go.Proofs.Try.f41) rfl (l := [bodyOf Go.Proofs.Try.f41 3]) (by kernel_rfl) (loops_cons (b := bodyOf Go.Proofs.Try.f41 3) (by kernel_rfl) (rfl : lm41_41 n 3 = [L41_41_3 n]) (List.forall_mem_cons.2 ⟨fun K self v => lp41_41_3 n K self v, fun _ h => by cases h⟩) loops_nil)) lms_nil)
  envOk_of (cf := cf41 n) tabOk hc he (draw := drawK (cf41 n)) (fun _ => drawK_ok tabOk mixed hc he) (d := 3) (lms := lms2 (lsl41 n)) hl
    (fun τs rs h => by
      simp only [M41] at h
      split at h
      · exact (ev41 n _).trans h
      · cases h)
/-! ### 71: slices.Equal[[]byte,byte] -/
def sg71 : Sig := ⟨[(false, [.slice 5]), (false, [.slice 5])], [.leaf .bool false]⟩
def G71_71_4 {R : Type} (n : Nat) (v : List T) (self : List T → Option R) (ex : List (List T → Option R)) : Option R :=
  bif (decide ((v.getD 3 (.i 0)).I < (v.getD 2 (.i 0)).I)) then (if 0 ≤ (v.getD 3 (.i 0)).I ∧ (v.getD 3 (.i 0)).I < (((v.getD 0 (.i 0)).L).length : Int) then (if 0 ≤ (v.getD 3 (.i 0)).I ∧ (v.getD 3 (.i 0)).I < (((v.getD 1 (.i 0)).L).length : Int) then (bif ((at_ ((v.getD 0 (.i 0)).L) ((v.getD 3 (.i 0)).I)).I != (at_ ((v.getD 1 (.i 0)).L) ((v.getD 3 (.i 0)).I)).I) then (exn ex 0 [.b false]) else (self [.l ((v.getD 0 (.i 0)).L), .l ((v.getD 1 (.i 0)).L), .i ((v.getD 2 (.i 0)).I), .i (IntKind.wrap .i64 ((v.getD 3 (.i 0)).I + 1))])) else none) else none) else (exn ex 1 [])
def L71_71_4 (n : Nat) : LoopM := ⟨⟨[[.t (.slice 5) (.i 0), .t (.slice 5) (.i 0), .un, .un, .un, .un, .un, .un, .un, .un, .un, .un, .t (.int .i64) (.i 0), .t (.int .i64) (.i 0), .un, .un, .un, .un, .un, .un, .un, .un, .un, .un, .un, .un]], []⟩, [(.ret, ⟨[[.un, .un, .un, .un, .t .bool (.i 0), .un, .un, .un, .un, .un, .un, .un, .un, .un, .un, .un, .un, .un, .un, .un, .un, .un, .un, .un, .un, .un]], []⟩), (.exit 0, ⟨[[.un, .un, .un, .un, .un, .un, .un, .un, .un, .un, .un, .un, .un, .un, .un, .un, .un, .un, .un, .un, .un, .un, .un, .un, .un, .un]], []⟩)], fun v self ex => G71_71_4 n v self ex⟩
def F71 (n : Nat) (x0 x1 : T) : Option (List T) :=
  bif ((x0.L.length : Int) != (x1.L.length : Int)) then (some [.b false]) else (loopR (L71_71_4 n).G n [.l x0.L, .l x1.L, .i (x0.L.length : Int), .i 0] [fun u1 => some [.b ((u1.getD 0 (.i 0)).B)], fun u2 => some [.b true]])
def M71 (n : Nat) (τs : List T) : Option (List T) := match τs with
  | [x0, x1] => F71 n x0 x1
  | _ => none
noncomputable def code71 : List (Nat × Func) := [(71, Go.Proofs.Try.f71)]
def env71 : List (Nat × (Sig × Mean)) := []
def ann71 (f i : Nat) : Ann := match f, i with
  | 71, 4 => ⟨[(0, .any), (1, .any), (12, .any), (13, .any)], [], [(4, .any)]⟩
  | _, _ => ⟨[], [], []⟩
def lm71_71 (n : Nat) (i : Nat) : List LoopM := match i with
  | 4 => [L71_71_4 n]
  | _ => []
def lsl71 (n : Nat) : List ((Nat × Nat) × (Nat → List LoopM)) := [((3, 71), lm71_71 n)]
noncomputable def cf71 (n : Nat) : Cfg := ⟨tiOf tab, lookup code71, lookup env71, ann71, n⟩
theorem ev71 (n : Nat) (x0 x1 : T) : evF (cf71 n) (drawK (cf71 n)) (lms2 (lsl71 n)) 3 71 sg71 [x0, x1] = F71 n x0 x1 := by kernel_rfl
theorem lp71_71_4 (n : Nat) (K : Ex → St → Option (List T)) (self : List T → Option (List T)) (v : List T) : evC (cf71 n) (callK (cf71 n) (drawK (cf71 n)) (lms2 (lsl71 n)) 3) (drawK (cf71 n) (callK (cf71 n) (drawK (cf71 n)) (lms2 (lsl71 n)) 3)) (ann71 71) (lm71_71 n) (bodyOf Go.Proofs.Try.f71 4) ((L71_71_4 n).sk.fill v) (roundK (ann71 71 4) K (selfK (L71_71_4 n) self)) = (L71_71_4 n).G v self (exitK (L71_71_4 n) K) := by kernel_rfl
theorem eo71 (n : Nat) : EnvOk Go.Proofs.Try.prog (tiOf tab) n 71 sg71 ⟨M71⟩ :=
  have hc : CodeOk Go.Proofs.Try.prog (cf71 n) := (code_cons Go.Proofs.Try.func71 (by kernel_rfl) code_nil)
  have he : EnvsOk Go.Proofs.Try.prog (cf71 n) := env_nil
  have hl : LmsOk (R := List T) (cf71 n) (drawK (cf71 n)) (lms2 (lsl71 n)) (lsl71 n) := (lms_cons (loops_of (cf := cf71 n) (fn0 := Go.Proofs.Try.f71) rfl (l := [bodyOf Go.Proofs.Try.f71 4]) (by kernel_rfl) (loops_cons (b := bodyOf Go.Proofs.Try.f71 4) (by kernel_rfl) (rfl : lm71_71 n 4 = [L71_71_4 n]) (List.forall_mem_cons.2 ⟨fun K self v => lp71_71_4 n K self v, fun _ h => by cases h⟩) loops_nil)) lms_nil)
  envOk_of (cf := cf71 n) tabOk hc he (draw := drawK (cf71 n)) (fun _ => drawK_ok tabOk mixed hc he) (d := 3) (lms := lms2 (lsl71 n)) hl
    (fun τs rs h => by
      simp only [M71] at h
      split at h
      · exact (ev71 n _ _).trans h
      · cases h)
/-! ### 80: impl.sameData -/
def sg80 : Sig := ⟨[(true, [.int .i64, .int .i64, .int .i64, .bool, .bool, .bool, .slice 5]), (true, [.int .i64, .int .i64, .int .i64, .bool, .bool, .bool, .slice 5])], [.leaf .bool false]⟩
def F80 (n : Nat) (x0 x1 x2 x3 x4 x5 x6 x7 x8 x9 x10 x11 x12 x13 : T) : Option (List T) :=
  bif (x0.I == x7.I) then (bif (x1.I == x8.I) then (bif (x2.I == x9.I) then (bif (x3.B == x10.B) then (bif (x4.B == x11.B) then (bif (x5.B == x12.B) then ((F71 n x6 x13).bind fun r1 => some [(r1.headD (.i 0))]) else (some [.b false])) else (some [.b false])) else (some [.b false])) else (some [.b false])) else (some [.b false])) else (some [.b false])
def M80 (n : Nat) (τs : List T) : Option (List T) := match τs with
  | [x0, x1, x2, x3, x4, x5, x6, x7, x8, x9, x10, x11, x12, x13] => F80 n x0 x1 x2 x3 x4 x5 x6 x7 x8 x9 x10 x11 x12 x13
  | _ => none
noncomputable def code80 : List (Nat × Func) := [(80, Go.Proofs.Try.f80)]
def env80 : List (Nat × (Sig × Mean)) := [(71, sg71, ⟨M71⟩)]
def ann80 (f i : Nat) : Ann := match f, i with
  | _, _ => ⟨[], [], []⟩
def lsl80 (n : Nat) : List ((Nat × Nat) × (Nat → List LoopM)) := []
noncomputable def cf80 (n : Nat) : Cfg := ⟨tiOf tab, lookup code80, lookup env80, ann80, n⟩
theorem ev80 (n : Nat) (x0 x1 x2 x3 x4 x5 x6 x7 x8 x9 x10 x11 x12 x13 : T) : evF (cf80 n) (drawK (cf80 n)) (lms2 (lsl80 n)) 3 80 sg80 [x0, x1, x2, x3, x4, x5, x6, x7, x8, x9, x10, x11, x12, x13] = F80 n x0 x1 x2 x3 x4 x5 x6 x7 x8 x9 x10 x11 x12 x13 := by kernel_rfl
theorem eo80 (n : Nat) : EnvOk Go.Proofs.Try.prog (tiOf tab) n 80 sg80 ⟨M80⟩ :=
  have hc : CodeOk Go.Proofs.Try.prog (cf80 n) := (code_cons Go.Proofs.Try.func80 (by kernel_rfl) code_nil)
  have he : EnvsOk Go.Proofs.Try.prog (cf80 n) := (env_cons (eo71 n) env_nil)
  have hl : LmsOk (R := List T) (cf80 n) (drawK (cf80 n)) (lms2 (lsl80 n)) (lsl80 n) := lms_nil
  envOk_of (cf := cf80 n) tabOk hc he (draw := drawK (cf80 n)) (fun _ => drawK_ok tabOk mixed hc he) (d := 3) (lms := lms2 (lsl80 n)) hl
    (fun τs rs h => by
      simp only [M80] at h
      split at h
      · exact (ev80 n _ _ _ _ _ _ _ _ _ _ _ _ _ _).trans h
      · cases h)
/-! ### 42: impl.SameDatas -/
def sg42 : Sig := ⟨[(false, [.slice 107]), (false, [.slice 107])], [.leaf .bool false]⟩
def G42_79_4 {R : Type} (n : Nat) (v : List T) (self : List T → Option R) (ex : List (List T → Option R)) : Option R :=
  bif (decide ((v.getD 3 (.i 0)).I < (v.getD 2 (.i 0)).I)) then (if 0 ≤ (v.getD 3 (.i 0)).I ∧ (v.getD 3 (.i 0)).I < (((v.getD 1 (.i 0)).L).length : Int) then (if 0 ≤ (v.getD 3 (.i 0)).I ∧ (v.getD 3 (.i 0)).I < (((v.getD 0 (.i 0)).L).length : Int) then ((F80 n ((at_ ((v.getD 1 (.i 0)).L) ((v.getD 3 (.i 0)).I)).F 0) ((at_ ((v.getD 1 (.i 0)).L) ((v.getD 3 (.i 0)).I)).F 1) ((at_ ((v.getD 1 (.i 0)).L) ((v.getD 3 (.i 0)).I)).F 2) ((at_ ((v.getD 1 (.i 0)).L) ((v.getD 3 (.i 0)).I)).F 3) ((at_ ((v.getD 1 (.i 0)).L) ((v.getD 3 (.i 0)).I)).F 4) ((at_ ((v.getD 1 (.i 0)).L) ((v.getD 3 (.i 0)).I)).F 5) ((at_ ((v.getD 1 (.i 0)).L) ((v.getD 3 (.i 0)).I)).F 6) ((at_ ((v.getD 0 (.i 0)).L) ((v.getD 3 (.i 0)).I)).F 0) ((at_ ((v.getD 0 (.i 0)).L) ((v.getD 3 (.i 0)).I)).F 1) ((at_ ((v.getD 0 (.i 0)).L) ((v.getD 3 (.i 0)).I)).F 2) ((at_ ((v.getD 0 (.i 0)).L) ((v.getD 3 (.i 0)).I)).F 3) ((at_ ((v.getD 0 (.i 0)).L) ((v.getD 3 (.i 0)).I)).F 4) ((at_ ((v.getD 0 (.i 0)).L) ((v.getD 3 (.i 0)).I)).F 5) ((at_ ((v.getD 0 (.i 0)).L) ((v.getD 3 (.i 0)).I)).F 6)).bind fun r1 => bif (!(r1.headD (.i 0)).B) then (exn ex 0 [.b false, .l ((v.getD 4 (.i 0)).L), .l ((v.getD 5 (.i 0)).L), .b ((v.getD 6 (.i 0)).B), .l ((v.getD 7 (.i 0)).L), .l ((v.getD 8 (.i 0)).L)]) else (self [.l ((v.getD 0 (.i 0)).L), .l ((v.getD 1 (.i 0)).L), .i ((v.getD 2 (.i 0)).I), .i (IntKind.wrap .i64 ((v.getD 3 (.i 0)).I + 1)), .l ((v.getD 4 (.i 0)).L), .l ((v.getD 5 (.i 0)).L), .b ((v.getD 6 (.i 0)).B), .l ((v.getD 7 (.i 0)).L), .l ((v.getD 8 (.i 0)).L)])) else none) else none) else (exn ex 1 [.l ((v.getD 4 (.i 0)).L), .l ((v.getD 5 (.i 0)).L), .b ((v.getD 6 (.i 0)).B), .l ((v.getD 7 (.i 0)).L), .l ((v.getD 8 (.i 0)).L)])
def L42_79_4 (n : Nat) : LoopM := ⟨⟨[[.un, .t (.slice 107) (.i 0), .fn 80 [], .un, .un, .un, .un, .un, .un, .un, .un, .un, .un, .un, .un, .t (.slice 107) (.i 0), .t (.int .i64) (.i 0), .t (.int .i64) (.i 0), .un, .un, .un, .un, .un, .un, .un, .un, .un, .un, .un, .un, .un, .un], [.t (.slice 107) (.i 0), .t (.slice 107) (.i 0), .tup [], .tup [], .t .bool (.i 0), .t (.slice 107) (.i 0), .t (.slice 107) (.i 0), .tup []]], []⟩, [(.ret, ⟨[[.un, .un, .un, .un, .un, .un, .t .bool (.i 0), .un, .un, .un, .un, .un, .un, .un, .un, .un, .un, .un, .un, .un, .un, .un, .un, .un, .un, .un, .un, .un, .un, .un, .un, .un], [.t (.slice 107) (.i 0), .t (.slice 107) (.i 0), .tup [], .tup [], .t .bool (.i 0), .t (.slice 107) (.i 0), .t (.slice 107) (.i 0), .tup []]], []⟩), (.exit 0, ⟨[[.un, .un, .un, .un, .un, .un, .un, .un, .un, .un, .un, .un, .un, .un, .un, .un, .un, .un, .un, .un, .un, .un, .un, .un, .un, .un, .un, .un, .un, .un, .un, .un], [.t (.slice 107) (.i 0), .t (.slice 107) (.i 0), .tup [], .tup [], .t .bool (.i 0), .t (.slice 107) (.i 0), .t (.slice 107) (.i 0), .tup []]], []⟩)], fun v self ex => G42_79_4 n v self ex⟩
def F42 (n : Nat) (x0 x1 : T) : Option (List T) :=
  bif ((x0.L.length : Int) != (x1.L.length : Int)) then (some [.b false]) else (loopR (L42_79_4 n).G n [.l x1.L, .l x0.L, .i (x0.L.length : Int), .i 0, .l x0.L, .l x1.L, .b false, .l x0.L, .l x1.L] [fun u2 => some [.b ((u2.getD 0 (.i 0)).B)], fun u3 => some [.b true]])
def M42 (n : Nat) (τs : List T) : Option (List T) := match τs with
  | [x0, x1] => F42 n x0 x1
  | _ => none
noncomputable def code42 : List (Nat × Func) := [(42, Go.Proofs.Try.f42), (79, Go.Proofs.Try.f79)]
def env42 : List (Nat × (Sig × Mean)) := [(80, sg80, ⟨M80⟩)]
def ann42 (f i : Nat) : Ann := match f, i with
  | 79, 4 => ⟨[(1, .any), (2, .any), (15, .any), (16, .any), (17, .any)], [], [(6, .any)]⟩
  | _, _ => ⟨[], [], []⟩
def lm42_79 (n : Nat) (i : Nat) : List LoopM := match i with
  | 4 => [L42_79_4 n]
  | _ => []
def lsl42 (n : Nat) : List ((Nat × Nat) × (Nat → List LoopM)) := [((2, 79), lm42_79 n)]
noncomputable def cf42 (n : Nat) : Cfg := ⟨tiOf tab, lookup code42, lookup env42, ann42, n⟩
theorem ev42 (n : Nat) (x0 x1 : T) : evF (cf42 n) (drawK (cf42 n)) (lms2 (lsl42 n)) 3 42 sg42 [x0, x1] = F42 n x0 x1 := by kernel_rfl
theorem lp42_79_4 (n : Nat) (K : Ex → St → Option (List T)) (self : List T → Option (List T)) (v : List T) : evC (cf42 n) (callK (cf42 n) (drawK (cf42 n)) (lms2 (lsl42 n)) 2) (drawK (cf42 n) (callK (cf42 n) (drawK (cf42 n)) (lms2 (lsl42 n)) 2)) (ann42 79) (lm42_79 n) (bodyOf Go.Proofs.Try.f79 4) ((L42_79_4 n).sk.fill v) (roundK (ann42 79 4) K (selfK (L42_79_4 n) self)) = (L42_79_4 n).G v self (exitK (L42_79_4 n) K) := by kernel_rfl
theorem eo42 (n : Nat) : EnvOk Go.Proofs.Try.prog (tiOf tab) n 42 sg42 ⟨M42⟩ :=
  have hc : CodeOk Go.Proofs.Try.prog (cf42 n) := (code_cons Go.Proofs.Try.func42 (by kernel_rfl) (code_cons Go.Proofs.Try.func79 (by kernel_rfl) code_nil))
  have he : EnvsOk Go.Proofs.Try.prog (cf42 n) := (env_cons (eo80 n) env_nil)
  have hl : LmsOk (R := List T) (cf42 n) (drawK (cf42 n)) (lms2 (lsl42 n)) (lsl42 n) := (lms_cons (loops_of (cf := cf42 n) (fn0 := Go.Proofs.Try.f79) rfl (l := [bodyOf Go.Proofs.Try.f79 4]) (by kernel_rfl) (loops_cons (b := bodyOf Go.Proofs.Try.f79 4) (by kernel_rfl) (rfl : lm42_79 n 4 = [L42_79_4 n]) (List.forall_mem_cons.2 ⟨fun K self v => lp42_79_4 n K self v, fun _ h => by cases h⟩) loops_nil)) lms_nil)
  envOk_of (cf := cf42 n) tabOk hc he (draw := drawK (cf42 n)) (fun _ => drawK_ok tabOk mixed hc he) (d := 3) (lms := lms2 (lsl42 n)) hl
    (fun τs rs h => by
      simp only [M42] at h
      split at h
      · exact (ev42 n _ _).trans h
      · cases h)
/-! ### 54: laws.eqByteS -/
def sg54 : Sig := ⟨[(false, [.slice 5]), (false, [.slice 5])], [.leaf .bool false]⟩
def G54_54_4 {R : Type} (n : Nat) (v : List T) (self : List T → Option R) (ex : List (List T → Option R)) : Option R :=
  bif (decide ((v.getD 2 (.i 0)).I < ((((v.getD 0 (.i 0)).L).length : Nat) : Int))) then (if 0 ≤ (v.getD 2 (.i 0)).I ∧ (v.getD 2 (.i 0)).I < (((v.getD 0 (.i 0)).L).length : Int) then (if 0 ≤ (v.getD 2 (.i 0)).I ∧ (v.getD 2 (.i 0)).I < (((v.getD 1 (.i 0)).L).length : Int) then (bif ((at_ ((v.getD 0 (.i 0)).L) ((v.getD 2 (.i 0)).I)).I != (at_ ((v.getD 1 (.i 0)).L) ((v.getD 2 (.i 0)).I)).I) then (exn ex 0 [.b false]) else (self [.l ((v.getD 0 (.i 0)).L), .l ((v.getD 1 (.i 0)).L), .i (IntKind.wrap .i64 ((v.getD 2 (.i 0)).I + 1))])) else none) else none) else (exn ex 1 [])
def L54_54_4 (n : Nat) : LoopM := ⟨⟨[[.t (.slice 5) (.i 0), .t (.slice 5) (.i 0), .un, .un, .un, .t (.int .i64) (.i 0), .un, .un, .un, .un, .un, .un, .un, .un, .un, .un, .un, .un, .un, .un, .un, .un, .un, .un, .un, .un]], []⟩, [(.ret, ⟨[[.un, .un, .un, .un, .t .bool (.i 0), .un, .un, .un, .un, .un, .un, .un, .un, .un, .un, .un, .un, .un, .un, .un, .un, .un, .un, .un, .un, .un]], []⟩), (.exit 0, ⟨[[.un, .un, .un, .un, .un, .un, .un, .un, .un, .un, .un, .un, .un, .un, .un, .un, .un, .un, .un, .un, .un, .un, .un, .un, .un, .un]], []⟩)], fun v self ex => G54_54_4 n v self ex⟩
def F54 (n : Nat) (x0 x1 : T) : Option (List T) :=
  bif ((x0.L.length : Int) != (x1.L.length : Int)) then (some [.b false]) else (loopR (L54_54_4 n).G n [.l x0.L, .l x1.L, .i 0] [fun u1 => some [.b ((u1.getD 0 (.i 0)).B)], fun u2 => some [.b true]])
def M54 (n : Nat) (τs : List T) : Option (List T) := match τs with
  | [x0, x1] => F54 n x0 x1
  | _ => none
noncomputable def code54 : List (Nat × Func) := [(54, Go.Proofs.Try.f54)]
def env54 : List (Nat × (Sig × Mean)) := []
def ann54 (f i : Nat) : Ann := match f, i with
  | 54, 4 => ⟨[(0, .any), (1, .any), (5, .any)], [], [(4, .any)]⟩
  | _, _ => ⟨[], [], []⟩
def lm54_54 (n : Nat) (i : Nat) : List LoopM := match i with
  | 4 => [L54_54_4 n]
  | _ => []
def lsl54 (n : Nat) : List ((Nat × Nat) × (Nat → List LoopM)) := [((3, 54), lm54_54 n)]
noncomputable def cf54 (n : Nat) : Cfg := ⟨tiOf tab, lookup code54, lookup env54, ann54, n⟩
theorem ev54 (n : Nat) (x0 x1 : T) : evF (cf54 n) (drawK (cf54 n)) (lms2 (lsl54 n)) 3 54 sg54 [x0, x1] = F54 n x0 x1 := by kernel_rfl
theorem lp54_54_4 (n : Nat) (K : Ex → St → Option (List T)) (self : List T → Option (List T)) (v : List T) : evC (cf54 n) (callK (cf54 n) (drawK (cf54 n)) (lms2 (lsl54 n)) 3) (drawK (cf54 n) (callK (cf54 n) (drawK (cf54 n)) (lms2 (lsl54 n)) 3)) (ann54 54) (lm54_54 n) (bodyOf Go.Proofs.Try.f54 4) ((L54_54_4 n).sk.fill v) (roundK (ann54 54 4) K (selfK (L54_54_4 n) self)) = (L54_54_4 n).G v self (exitK (L54_54_4 n) K) := by kernel_rfl
theorem eo54 (n : Nat) : EnvOk Go.Proofs.Try.prog (tiOf tab) n 54 sg54 ⟨M54⟩ :=
  have hc : CodeOk Go.Proofs.Try.prog (cf54 n) := (code_cons Go.Proofs.Try.func54 (by kernel_rfl) code_nil)
  have he : EnvsOk Go.Proofs.Try.prog (cf54 n) := env_nil
  have hl : LmsOk (R := List T) (cf54 n) (drawK (cf54 n)) (lms2 (lsl54 n)) (lsl54 n) := (lms_cons (loops_of (cf := cf54 n) (fn0 := Go.Proofs.Try.f54) rfl (l := [bodyOf Go.Proofs.Try.f54 4]) (by kernel_rfl) (loops_cons (b := bodyOf Go.Proofs.Try.f54 4) (by kernel_rfl) (rfl : lm54_54 n 4 = [L54_54_4 n]) (List.forall_mem_cons.2 ⟨fun K self v => lp54_54_4 n K self v, fun _ h => by cases h⟩) loops_nil)) lms_nil)
  envOk_of (cf := cf54 n) tabOk hc he (draw := drawK (cf54 n)) (fun _ => drawK_ok tabOk mixed hc he) (d := 3) (lms := lms2 (lsl54 n)) hl
    (fun τs rs h => by
      simp only [M54] at h
      split at h
      · exact (ev54 n _ _).trans h
      · cases h)
/-! ### 81: laws.eqData -/
def sg81 : Sig := ⟨[(true, [.int .i64, .int .i64, .int .i64, .bool, .bool, .bool, .slice 5]), (true, [.int .i64, .int .i64, .int .i64, .bool, .bool, .bool, .slice 5])], [.leaf .bool false]⟩
def F81 (n : Nat) (x0 x1 x2 x3 x4 x5 x6 x7 x8 x9 x10 x11 x12 x13 : T) : Option (List T) :=
  bif (x0.I != x7.I) then (some [.b false]) else (bif (x1.I != x8.I) then (some [.b false]) else (bif (x2.I != x9.I) then (some [.b false]) else (bif (!(x3.B == x10.B)) then (some [.b false]) else (bif (!(x4.B == x11.B)) then (some [.b false]) else (bif (!(x5.B == x12.B)) then (some [.b false]) else ((F54 n x6 x13).bind fun r1 => bif (!(r1.headD (.i 0)).B) then (some [.b false]) else (some [.b true])))))))
def M81 (n : Nat) (τs : List T) : Option (List T) := match τs with
  | [x0, x1, x2, x3, x4, x5, x6, x7, x8, x9, x10, x11, x12, x13] => F81 n x0 x1 x2 x3 x4 x5 x6 x7 x8 x9 x10 x11 x12 x13
  | _ => none
noncomputable def code81 : List (Nat × Func) := [(81, Go.Proofs.Try.f81)]
def env81 : List (Nat × (Sig × Mean)) := [(54, sg54, ⟨M54⟩)]
def ann81 (f i : Nat) : Ann := match f, i with
  | _, _ => ⟨[], [], []⟩
def lsl81 (n : Nat) : List ((Nat × Nat) × (Nat → List LoopM)) := []
noncomputable def cf81 (n : Nat) : Cfg := ⟨tiOf tab, lookup code81, lookup env81, ann81, n⟩
theorem ev81 (n : Nat) (x0 x1 x2 x3 x4 x5 x6 x7 x8 x9 x10 x11 x12 x13 : T) : evF (cf81 n) (drawK (cf81 n)) (lms2 (lsl81 n)) 3 81 sg81 [x0, x1, x2, x3, x4, x5, x6, x7, x8, x9, x10, x11, x12, x13] = F81 n x0 x1 x2 x3 x4 x5 x6 x7 x8 x9 x10 x11 x12 x13 := by kernel_rfl
theorem eo81 (n : Nat) : EnvOk Go.Proofs.Try.prog (tiOf tab) n 81 sg81 ⟨M81⟩ :=
  have hc : CodeOk Go.Proofs.Try.prog (cf81 n) := (code_cons Go.Proofs.Try.func81 (by kernel_rfl) code_nil)
  have he : EnvsOk Go.Proofs.Try.prog (cf81 n) := (env_cons (eo54 n) env_nil)
  have hl : LmsOk (R := List T) (cf81 n) (drawK (cf81 n)) (lms2 (lsl81 n)) (lsl81 n) := lms_nil
  envOk_of (cf := cf81 n) tabOk hc he (draw := drawK (cf81 n)) (fun _ => drawK_ok tabOk mixed hc he) (d := 3) (lms := lms2 (lsl81 n)) hl
    (fun τs rs h => by
      simp only [M81] at h
      split at h
      · exact (ev81 n _ _ _ _ _ _ _ _ _ _ _ _ _ _).trans h
      · cases h)
/-! ### 43: laws.eqDataS -/
def sg43 : Sig := ⟨[(false, [.slice 107]), (false, [.slice 107])], [.leaf .bool false]⟩
def G43_43_4 {R : Type} (n : Nat) (v : List T) (self : List T → Option R) (ex : List (List T → Option R)) : Option R :=
  bif (decide ((v.getD 2 (.i 0)).I < ((((v.getD 0 (.i 0)).L).length : Nat) : Int))) then (if 0 ≤ (v.getD 2 (.i 0)).I ∧ (v.getD 2 (.i 0)).I < (((v.getD 0 (.i 0)).L).length : Int) then (if 0 ≤ (v.getD 2 (.i 0)).I ∧ (v.getD 2 (.i 0)).I < (((v.getD 1 (.i 0)).L).length : Int) then ((F81 n ((at_ ((v.getD 0 (.i 0)).L) ((v.getD 2 (.i 0)).I)).F 0) ((at_ ((v.getD 0 (.i 0)).L) ((v.getD 2 (.i 0)).I)).F 1) ((at_ ((v.getD 0 (.i 0)).L) ((v.getD 2 (.i 0)).I)).F 2) ((at_ ((v.getD 0 (.i 0)).L) ((v.getD 2 (.i 0)).I)).F 3) ((at_ ((v.getD 0 (.i 0)).L) ((v.getD 2 (.i 0)).I)).F 4) ((at_ ((v.getD 0 (.i 0)).L) ((v.getD 2 (.i 0)).I)).F 5) ((at_ ((v.getD 0 (.i 0)).L) ((v.getD 2 (.i 0)).I)).F 6) ((at_ ((v.getD 1 (.i 0)).L) ((v.getD 2 (.i 0)).I)).F 0) ((at_ ((v.getD 1 (.i 0)).L) ((v.getD 2 (.i 0)).I)).F 1) ((at_ ((v.getD 1 (.i 0)).L) ((v.getD 2 (.i 0)).I)).F 2) ((at_ ((v.getD 1 (.i 0)).L) ((v.getD 2 (.i 0)).I)).F 3) ((at_ ((v.getD 1 (.i 0)).L) ((v.getD 2 (.i 0)).I)).F 4) ((at_ ((v.getD 1 (.i 0)).L) ((v.getD 2 (.i 0)).I)).F 5) ((at_ ((v.getD 1 (.i 0)).L) ((v.getD 2 (.i 0)).I)).F 6)).bind fun r1 => bif (!(r1.headD (.i 0)).B) then (exn ex 0 [.b false]) else (self [.l ((v.getD 0 (.i 0)).L), .l ((v.getD 1 (.i 0)).L), .i (IntKind.wrap .i64 ((v.getD 2 (.i 0)).I + 1))])) else none) else none) else (exn ex 1 [])
def L43_43_4 (n : Nat) : LoopM := ⟨⟨[[.t (.slice 107) (.i 0), .t (.slice 107) (.i 0), .un, .un, .un, .t (.int .i64) (.i 0), .un, .un, .un, .un, .un, .un, .un, .un, .un, .un, .un, .un, .un, .un, .un, .un, .un, .un, .un, .un, .un]], []⟩, [(.ret, ⟨[[.un, .un, .un, .un, .t .bool (.i 0), .un, .un, .un, .un, .un, .un, .un, .un, .un, .un, .un, .un, .un, .un, .un, .un, .un, .un, .un, .un, .un, .un]], []⟩), (.exit 0, ⟨[[.un, .un, .un, .un, .un, .un, .un, .un, .un, .un, .un, .un, .un, .un, .un, .un, .un, .un, .un, .un, .un, .un, .un, .un, .un, .un, .un]], []⟩)], fun v self ex => G43_43_4 n v self ex⟩
def F43 (n : Nat) (x0 x1 : T) : Option (List T) :=
  bif ((x0.L.length : Int) != (x1.L.length : Int)) then (some [.b false]) else (loopR (L43_43_4 n).G n [.l x0.L, .l x1.L, .i 0] [fun u2 => some [.b ((u2.getD 0 (.i 0)).B)], fun u3 => some [.b true]])
def M43 (n : Nat) (τs : List T) : Option (List T) := match τs with
  | [x0, x1] => F43 n x0 x1
  | _ => none
noncomputable def code43 : List (Nat × Func) := [(43, Go.Proofs.Try.f43)]
def env43 : List (Nat × (Sig × Mean)) := [(81, sg81, ⟨M81⟩)]
def ann43 (f i : Nat) : Ann := match f, i with
  | 43, 4 => ⟨[(0, .any), (1, .any), (5, .any)], [], [(4, .any)]⟩
  | _, _ => ⟨[], [], []⟩
def lm43_43 (n : Nat) (i : Nat) : List LoopM := match i with
  | 4 => [L43_43_4 n]
  | _ => []
def lsl43 (n : Nat) : List ((Nat × Nat) × (Nat → List LoopM)) := [((3, 43), lm43_43 n)]
noncomputable def cf43 (n : Nat) : Cfg := ⟨tiOf tab, lookup code43, lookup env43, ann43, n⟩
theorem ev43 (n : Nat) (x0 x1 : T) : evF (cf43 n) (drawK (cf43 n)) (lms2 (lsl43 n)) 3 43 sg43 [x0, x1] = F43 n x0 x1 := by kernel_rfl
theorem lp43_43_4 (n : Nat) (K : Ex → St → Option (List T)) (self : List T → Option (List T)) (v : List T) : evC (cf43 n) (callK (cf43 n) (drawK (cf43 n)) (lms2 (lsl43 n)) 3) (drawK (cf43 n) (callK (cf43 n) (drawK (cf43 n)) (lms2 (lsl43 n)) 3)) (ann43 43) (lm43_43 n) (bodyOf Go.Proofs.Try.f43 4) ((L43_43_4 n).sk.fill v) (roundK (ann43 43 4) K (selfK (L43_43_4 n) self)) = (L43_43_4 n).G v self (exitK (L43_43_4 n) K) := by kernel_rfl
theorem eo43 (n : Nat) : EnvOk Go.Proofs.Try.prog (tiOf tab) n 43 sg43 ⟨M43⟩ :=
  have hc : CodeOk Go.Proofs.Try.prog (cf43 n) := (code_cons Go.Proofs.Try.func43 (by kernel_rfl) code_nil)
  have he : EnvsOk Go.Proofs.Try.prog (cf43 n) := (env_cons (eo81 n) env_nil)
  have hl : LmsOk (R := List T) (cf43 n) (drawK (cf43 n)) (lms2 (lsl43 n)) (lsl43 n) := (lms_cons (loops_of (cf := cf43 n) (fn0 := Go.Proofs.Try.f43) rfl (l := [bodyOf Go.Proofs.Try.f43 4]) (by kernel_rfl) (loops_cons (b := bodyOf Go.Proofs.Try.f43 4) (by kernel_rfl) (rfl : lm43_43 n 4 = [L43_43_4 n]) (List.forall_mem_cons.2 ⟨fun K self v => lp43_43_4 n K self v, fun _ h => by cases h⟩) loops_nil)) lms_nil)
  envOk_of (cf := cf43 n) tabOk hc he (draw := drawK (cf43 n)) (fun _ => drawK_ok tabOk mixed hc he) (d := 3) (lms := lms2 (lsl43 n)) hl
    (fun τs rs h => by
      simp only [M43] at h
      split at h
      · exact (ev43 n _ _).trans h
      · cases h)
/-! ### 9: laws.FnExactSameDatas -/
def sg9 : Sig := ⟨[(false, [.slice 104]), (false, [.slice 104])], [.leaf .bool false]⟩
def F9 (n : Nat) (x0 x1 : T) : Option (List T) :=
  (F39 n x0 (.i 1048576)).bind fun r1 => bif (decide ((r1.headD (.i 0)).I < 0)) then (some [.b true]) else ((F39 n x1 (r1.headD (.i 0))).bind fun r2 => bif (decide ((r2.headD (.i 0)).I < 0)) then (some [.b true]) else ((F41 n x0).bind fun r3 => (F41 n x1).bind fun r4 => (F40 n (r3.headD (.i 0)) (r4.headD (.i 0))).bind fun r5 => (F41 n x0).bind fun r6 => (F41 n x1).bind fun r7 => (F42 n (r6.headD (.i 0)) (r7.headD (.i 0))).bind fun r8 => bif (!((r8.headD (.i 0)).B == (r5.headD (.i 0)).B)) then (some [.b false]) else ((F41 n x0).bind fun r9 => (F43 n (r6.headD (.i 0)) (r9.headD (.i 0))).bind fun r10 => bif (!(r10.headD (.i 0)).B) then (some [.b false]) else ((F41 n x1).bind fun r11 => (F43 n (r7.headD (.i 0)) (r11.headD (.i 0))).bind fun r12 => bif (!(r12.headD (.i 0)).B) then (some [.b false]) else (some [.b true])))))
def M9 (n : Nat) (τs : List T) : Option (List T) := match τs with
  | [x0, x1] => F9 n x0 x1
  | _ => none
noncomputable def code9 : List (Nat × Func) := [(9, Go.Proofs.Try.f9)]
def env9 : List (Nat × (Sig × Mean)) := [(39, sg39, ⟨M39⟩), (40, sg40, ⟨M40⟩), (41, sg41, ⟨M41⟩), (42, sg42, ⟨M42⟩), (43, sg43, ⟨M43⟩)]
def ann9 (f i : Nat) : Ann := match f, i with
  | _, _ => ⟨[], [], []⟩
def lsl9 (n : Nat) : List ((Nat × Nat) × (Nat → List LoopM)) := []
noncomputable def cf9 (n : Nat) : Cfg := ⟨tiOf tab, lookup code9, lookup env9, ann9, n⟩
theorem ev9 (n : Nat) (x0 x1 : T) : evF (cf9 n) (drawK (cf9 n)) (lms2 (lsl9 n)) 3 9 sg9 [x0, x1] = F9 n x0 x1 := by kernel_rfl
theorem eo9 (n : Nat) : EnvOk Go.Proofs.Try.prog (tiOf tab) n 9 sg9 ⟨M9⟩ :=
  have hc : CodeOk Go.Proofs.Try.prog (cf9 n) := (code_cons Go.Proofs.Try.func9 (by kernel_rfl) code_nil)
  have he : EnvsOk Go.Proofs.Try.prog (cf9 n) := (env_cons (eo39 n) (env_cons (eo40 n) (env_cons (eo41 n) (env_cons (eo42 n) (env_cons (eo43 n) env_nil)))))
  have hl : LmsOk (R := List T) (cf9 n) (drawK (cf9 n)) (lms2 (lsl9 n)) (lsl9 n) := lms_nil
  envOk_of (cf := cf9 n) tabOk hc he (draw := drawK (cf9 n)) (fun _ => drawK_ok tabOk mixed hc he) (d := 3) (lms := lms2 (lsl9 n)) hl
    (fun τs rs h => by
      simp only [M9] at h
      split at h
      · exact (ev9 n _ _).trans h
      · cases h)
end Go.KX.Sa
