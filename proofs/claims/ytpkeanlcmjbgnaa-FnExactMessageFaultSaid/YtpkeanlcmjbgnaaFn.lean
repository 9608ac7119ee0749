import Derived.Test.YtpkeanlcmjbgnaaProg
import Derived.KernelRfl
import Derived.Test.YtpkeanlcmjbgnaaKxC
namespace Go.KX.Sa
open Go
set_option linter.unusedVariables false
def tab : List (Nat × TyI) := [
  (2, ⟨true, false, [.int .i64], 8, .leaf, false⟩),
  (3, ⟨true, false, [.int .i64], 8, .leaf, false⟩),
  (4, ⟨true, false, [.bool], 1, .leaf, false⟩),
  (5, ⟨true, false, [.int .u8], 1, .leaf, false⟩),
  (22, ⟨true, false, [.slice 5], 24, .slice 5, false⟩),
  (24, ⟨true, true, [.int .i64, .bool, .slice 5], 40, .struct [(2, 0), (4, 1), (22, 2)], false⟩),
  (27, ⟨true, true, [.int .i64, .bool, .slice 5], 40, .struct [(2, 0), (4, 1), (22, 2)], false⟩)]
theorem tabOk : TabOk Go.Proofs.Try.prog (tiOf tab) := tab_ok (by kernel_rfl)
theorem mixed : Go.Proofs.Try.prog.follows .mixedOrders = true := by kernel_rfl
/-! ### 49: laws.szByteS -/
def sg49 : Sig := ⟨[(false, [.slice 5]), (false, [.int .i64])], [.leaf (.int .i64) false]⟩
def F49 (n : Nat) (x0 x1 : T) : Option (List T) :=
  bif (decide ((IntKind.wrap .i64 (x1.I - (x0.L.length : Int))) < 0)) then (some [.i (-1)]) else (some [.i (IntKind.wrap .i64 (x1.I - (x0.L.length : Int)))])
def M49 (n : Nat) (τs : List T) : Option (List T) := match τs with
  | [x0, x1] => F49 n x0 x1
  | _ => none
noncomputable def code49 : List (Nat × Func) := [(49, Go.Proofs.Try.f49)]
def env49 : List (Nat × (Sig × Mean)) := []
def ann49 (f i : Nat) : Ann := match f, i with
  | _, _ => ⟨[], [], []⟩
def lm49 (n : Nat) (i : Nat) : Option LoopM := match i with
  | _ => none
noncomputable def cf49 (n : Nat) : Cfg := ⟨tiOf tab, lookup code49, lookup env49, ann49, n⟩
theorem ev49 (n : Nat) (x0 x1 : T) : evF (cf49 n) (drawK (cf49 n)) 3 (lm49 n) 49 sg49 [x0, x1] = F49 n x0 x1 := by kernel_rfl
theorem eo49 (n : Nat) : EnvOk Go.Proofs.Try.prog (tiOf tab) n 49 sg49 ⟨M49⟩ :=
  have hc : CodeOk Go.Proofs.Try.prog (cf49 n) := (code_cons Go.Proofs.Try.func49 (by kernel_rfl) code_nil)
  have he : EnvsOk Go.Proofs.Try.prog (cf49 n) := env_nil
  envOk_of (cf := cf49 n) tabOk hc he (draw := drawK (cf49 n)) (fun _ => drawK_ok tabOk mixed hc he) (d := 3) (lm := lm49 n)
    (loops_of (cf := cf49 n) (fn0 := Go.Proofs.Try.f49) rfl (l := []) (by kernel_rfl) loops_nil)
    (fun τs rs h => by
      simp only [M49] at h
      split at h
      · exact (ev49 n _ _).trans h
      · cases h)
/-! ### 12: laws.szMessage -/
def sg12 : Sig := ⟨[(true, [.int .i64, .bool, .slice 5]), (false, [.int .i64])], [.leaf (.int .i64) false]⟩
def F12 (n : Nat) (x0 x1 x2 x3 : T) : Option (List T) :=
  (F49 n x2 x3).bind fun r1 => bif (decide ((r1.headD (.i 0)).I < 0)) then (some [.i (-1)]) else (some [(r1.headD (.i 0))])
def M12 (n : Nat) (τs : List T) : Option (List T) := match τs with
  | [x0, x1, x2, x3] => F12 n x0 x1 x2 x3
  | _ => none
noncomputable def code12 : List (Nat × Func) := [(12, Go.Proofs.Try.f12)]
def env12 : List (Nat × (Sig × Mean)) := [(49, sg49, ⟨M49⟩)]
def ann12 (f i : Nat) : Ann := match f, i with
  | _, _ => ⟨[], [], []⟩
def lm12 (n : Nat) (i : Nat) : Option LoopM := match i with
  | _ => none
noncomputable def cf12 (n : Nat) : Cfg := ⟨tiOf tab, lookup code12, lookup env12, ann12, n⟩
theorem ev12 (n : Nat) (x0 x1 x2 x3 : T) : evF (cf12 n) (drawK (cf12 n)) 3 (lm12 n) 12 sg12 [x0, x1, x2, x3] = F12 n x0 x1 x2 x3 := by kernel_rfl
theorem eo12 (n : Nat) : EnvOk Go.Proofs.Try.prog (tiOf tab) n 12 sg12 ⟨M12⟩ :=
  have hc : CodeOk Go.Proofs.Try.prog (cf12 n) := (code_cons Go.Proofs.Try.func12 (by kernel_rfl) code_nil)
  have he : EnvsOk Go.Proofs.Try.prog (cf12 n) := (env_cons (eo49 n) env_nil)
  envOk_of (cf := cf12 n) tabOk hc he (draw := drawK (cf12 n)) (fun _ => drawK_ok tabOk mixed hc he) (d := 3) (lm := lm12 n)
    (loops_of (cf := cf12 n) (fn0 := Go.Proofs.Try.f12) rfl (l := []) (by kernel_rfl) loops_nil)
    (fun τs rs h => by
      simp only [M12] at h
      split at h
      · exact (ev12 n _ _ _ _).trans h
      · cases h)
/-! ### 50: spec.l1In -/
def sg50 : Sig := ⟨[(false, [.int .i64]), (false, [.int .i64]), (false, [.int .i64])], [.leaf .bool false]⟩
def F50 (n : Nat) (x0 x1 x2 : T) : Option (List T) :=
  bif (decide (x0.I ≥ x1.I)) then (some [.b (decide (x0.I ≤ x2.I))]) else (some [.b false])
def M50 (n : Nat) (τs : List T) : Option (List T) := match τs with
  | [x0, x1, x2] => F50 n x0 x1 x2
  | _ => none
noncomputable def code50 : List (Nat × Func) := [(50, Go.Proofs.Try.f50)]
def env50 : List (Nat × (Sig × Mean)) := []
def ann50 (f i : Nat) : Ann := match f, i with
  | _, _ => ⟨[], [], []⟩
def lm50 (n : Nat) (i : Nat) : Option LoopM := match i with
  | _ => none
noncomputable def cf50 (n : Nat) : Cfg := ⟨tiOf tab, lookup code50, lookup env50, ann50, n⟩
theorem ev50 (n : Nat) (x0 x1 x2 : T) : evF (cf50 n) (drawK (cf50 n)) 3 (lm50 n) 50 sg50 [x0, x1, x2] = F50 n x0 x1 x2 := by kernel_rfl
theorem eo50 (n : Nat) : EnvOk Go.Proofs.Try.prog (tiOf tab) n 50 sg50 ⟨M50⟩ :=
  have hc : CodeOk Go.Proofs.Try.prog (cf50 n) := (code_cons Go.Proofs.Try.func50 (by kernel_rfl) code_nil)
  have he : EnvsOk Go.Proofs.Try.prog (cf50 n) := env_nil
  envOk_of (cf := cf50 n) tabOk hc he (draw := drawK (cf50 n)) (fun _ => drawK_ok tabOk mixed hc he) (d := 3) (lm := lm50 n)
    (loops_of (cf := cf50 n) (fn0 := Go.Proofs.Try.f50) rfl (l := []) (by kernel_rfl) loops_nil)
    (fun τs rs h => by
      simp only [M50] at h
      split at h
      · exact (ev50 n _ _ _).trans h
      · cases h)
/-! ### 13: spec.MessageFault -/
def sg13 : Sig := ⟨[(true, [.int .i64, .bool, .slice 5])], [.leaf (.int .i64) false]⟩
def F13 (n : Nat) (x0 x1 x2 : T) : Option (List T) :=
  (F50 n x0 (.i 0) (.i 9)).bind fun r1 => bif (!(r1.headD (.i 0)).B) then (some [.i 3]) else (bif (decide ((x2.L.length : Int) < 1)) then (some [.i 2]) else (bif (decide ((x2.L.length : Int) > 400)) then (some [.i 2]) else (some [.i 0])))
def M13 (n : Nat) (τs : List T) : Option (List T) := match τs with
  | [x0, x1, x2] => F13 n x0 x1 x2
  | _ => none
noncomputable def code13 : List (Nat × Func) := [(13, Go.Proofs.Try.f13)]
def env13 : List (Nat × (Sig × Mean)) := [(50, sg50, ⟨M50⟩)]
def ann13 (f i : Nat) : Ann := match f, i with
  | _, _ => ⟨[], [], []⟩
def lm13 (n : Nat) (i : Nat) : Option LoopM := match i with
  | _ => none
noncomputable def cf13 (n : Nat) : Cfg := ⟨tiOf tab, lookup code13, lookup env13, ann13, n⟩
theorem ev13 (n : Nat) (x0 x1 x2 : T) : evF (cf13 n) (drawK (cf13 n)) 3 (lm13 n) 13 sg13 [x0, x1, x2] = F13 n x0 x1 x2 := by kernel_rfl
theorem eo13 (n : Nat) : EnvOk Go.Proofs.Try.prog (tiOf tab) n 13 sg13 ⟨M13⟩ :=
  have hc : CodeOk Go.Proofs.Try.prog (cf13 n) := (code_cons Go.Proofs.Try.func13 (by kernel_rfl) code_nil)
  have he : EnvsOk Go.Proofs.Try.prog (cf13 n) := (env_cons (eo50 n) env_nil)
  envOk_of (cf := cf13 n) tabOk hc he (draw := drawK (cf13 n)) (fun _ => drawK_ok tabOk mixed hc he) (d := 3) (lm := lm13 n)
    (loops_of (cf := cf13 n) (fn0 := Go.Proofs.Try.f13) rfl (l := []) (by kernel_rfl) loops_nil)
    (fun τs rs h => by
      simp only [M13] at h
      split at h
      · exact (ev13 n _ _ _).trans h
      · cases h)
/-! ### 51: laws.toByteS -/
def sg51 : Sig := ⟨[(false, [.slice 5])], [.leaf (.slice 5) false]⟩
def G51_3 {R : Type} (n : Nat) (v : List T) (self : List T → Option R) (ex : List (List T → Option R)) : Option R :=
  bif (decide ((v.getD 1 (.i 0)).I < ((((v.getD 0 (.i 0)).L).length : Nat) : Int))) then (if 0 ≤ (v.getD 1 (.i 0)).I ∧ (v.getD 1 (.i 0)).I < (((v.getD 0 (.i 0)).L).length : Int) then (if 0 ≤ (v.getD 1 (.i 0)).I ∧ (v.getD 1 (.i 0)).I < (((v.getD 2 (.i 0)).L).length : Int) then (if 5 = 5 ∧ ((v.getD 1 (.i 0)).I).toNat < ((v.getD 2 (.i 0)).L).length then (self [.l ((v.getD 0 (.i 0)).L), .i (IntKind.wrap .i64 ((v.getD 1 (.i 0)).I + 1)), .l (((v.getD 2 (.i 0)).L).set (((v.getD 1 (.i 0)).I).toNat) ((at_ ((v.getD 0 (.i 0)).L) ((v.getD 1 (.i 0)).I))))]) else none) else none) else none) else (exn ex 0 [.l ((v.getD 2 (.i 0)).L)])
def L51_3 (n : Nat) : LoopM := ⟨⟨[[.t (.slice 5) (.i 0), .un, .un, .own 5 0, .t (.int .i64) (.i 0), .un, .un, .un, .un, .un, .un, .un, .un, .un, .un, .un, .un, .un, .un, .un, .un, .un]], [.arr 5 []]⟩, [(.exit 0, ⟨[[.un, .un, .un, .own 5 0, .un, .un, .un, .un, .un, .un, .un, .un, .un, .un, .un, .un, .un, .un, .un, .un, .un, .un]], [.arr 5 []]⟩)], fun v self ex => G51_3 n v self ex⟩
def F51 (n : Nat) (x0 : T) : Option (List T) :=
  if 0 ≤ (x0.L.length : Int) ∧ (x0.L.length : Int) * 1 ≤ limB ∧ (x0.L.length : Int) < maxN then (loopR (L51_3 n).G n [.l x0.L, .i 0, .l (List.replicate ((x0.L.length : Int)).toNat (.i 0))] [fun u1 => some [.l ((u1.getD 0 (.i 0)).L)]]) else none
def M51 (n : Nat) (τs : List T) : Option (List T) := match τs with
  | [x0] => F51 n x0
  | _ => none
noncomputable def code51 : List (Nat × Func) := [(51, Go.Proofs.Try.f51)]
def env51 : List (Nat × (Sig × Mean)) := []
def ann51 (f i : Nat) : Ann := match f, i with
  | 51, 3 => ⟨[(0, .any), (3, .any), (4, .any)], [], [(3, .any)]⟩
  | _, _ => ⟨[], [], []⟩
def lm51 (n : Nat) (i : Nat) : Option LoopM := match i with
  | 3 => some (L51_3 n)
  | _ => none
noncomputable def cf51 (n : Nat) : Cfg := ⟨tiOf tab, lookup code51, lookup env51, ann51, n⟩
theorem ev51 (n : Nat) (x0 : T) : evF (cf51 n) (drawK (cf51 n)) 3 (lm51 n) 51 sg51 [x0] = F51 n x0 := by kernel_rfl
theorem lp51_3 (n : Nat) (K : Ex → St → Option (List T)) (self : List T → Option (List T)) (v : List T) : evC (cf51 n) (callK (cf51 n) (drawK (cf51 n)) 3) (drawK (cf51 n) (callK (cf51 n) (drawK (cf51 n)) 3)) (ann51 51) (lm51 n) (bodyOf Go.Proofs.Try.f51 3) ((L51_3 n).sk.fill v) (roundK (ann51 51 3) K (selfK (L51_3 n) self)) = (L51_3 n).G v self (exitK (L51_3 n) K) := by kernel_rfl
theorem eo51 (n : Nat) : EnvOk Go.Proofs.Try.prog (tiOf tab) n 51 sg51 ⟨M51⟩ :=
  have hc : CodeOk Go.Proofs.Try.prog (cf51 n) := (code_cons Go.Proofs.Try.func51 (by kernel_rfl) code_nil)
  have he : EnvsOk Go.Proofs.Try.prog (cf51 n) := env_nil
  envOk_of (cf := cf51 n) tabOk hc he (draw := drawK (cf51 n)) (fun _ => drawK_ok tabOk mixed hc he) (d := 3) (lm := lm51 n)
    (loops_of (cf := cf51 n) (fn0 := Go.Proofs.Try.f51) rfl (l := [bodyOf Go.Proofs.Try.f51 3]) (by kernel_rfl) (loops_cons (b := bodyOf Go.Proofs.Try.f51 3) (by kernel_rfl) (rfl : lm51 n 3 = some (L51_3 n)) (fun K self v => lp51_3 n K self v) loops_nil))
    (fun τs rs h => by
      simp only [M51] at h
      split at h
      · exact (ev51 n _).trans h
      · cases h)
/-! ### 14: laws.toMessage -/
def sg14 : Sig := ⟨[(true, [.int .i64, .bool, .slice 5])], [.agg [(.int .i64, false), (.bool, false), (.slice 5, false)]]⟩
def F14 (n : Nat) (x0 x1 x2 : T) : Option (List T) :=
  (F51 n x2).bind fun r1 => some [x0, x1, (r1.headD (.i 0))]
def M14 (n : Nat) (τs : List T) : Option (List T) := match τs with
  | [x0, x1, x2] => F14 n x0 x1 x2
  | _ => none
noncomputable def code14 : List (Nat × Func) := [(14, Go.Proofs.Try.f14)]
def env14 : List (Nat × (Sig × Mean)) := [(51, sg51, ⟨M51⟩)]
def ann14 (f i : Nat) : Ann := match f, i with
  | _, _ => ⟨[], [], []⟩
def lm14 (n : Nat) (i : Nat) : Option LoopM := match i with
  | _ => none
noncomputable def cf14 (n : Nat) : Cfg := ⟨tiOf tab, lookup code14, lookup env14, ann14, n⟩
theorem ev14 (n : Nat) (x0 x1 x2 : T) : evF (cf14 n) (drawK (cf14 n)) 3 (lm14 n) 14 sg14 [x0, x1, x2] = F14 n x0 x1 x2 := by kernel_rfl
theorem eo14 (n : Nat) : EnvOk Go.Proofs.Try.prog (tiOf tab) n 14 sg14 ⟨M14⟩ :=
  have hc : CodeOk Go.Proofs.Try.prog (cf14 n) := (code_cons Go.Proofs.Try.func14 (by kernel_rfl) code_nil)
  have he : EnvsOk Go.Proofs.Try.prog (cf14 n) := (env_cons (eo51 n) env_nil)
  envOk_of (cf := cf14 n) tabOk hc he (draw := drawK (cf14 n)) (fun _ => drawK_ok tabOk mixed hc he) (d := 3) (lm := lm14 n)
    (loops_of (cf := cf14 n) (fn0 := Go.Proofs.Try.f14) rfl (l := []) (by kernel_rfl) loops_nil)
    (fun τs rs h => by
      simp only [M14] at h
      split at h
      · exact (ev14 n _ _ _).trans h
      · cases h)
/-! ### 53: impl.within -/
def sg53 : Sig := ⟨[(false, [.int .i64]), (false, [.int .i64]), (false, [.int .i64])], [.leaf .bool false]⟩
def F53 (n : Nat) (x0 x1 x2 : T) : Option (List T) :=
  bif (decide (x0.I ≥ x1.I)) then (some [.b (decide (x0.I ≤ x2.I))]) else (some [.b false])
def M53 (n : Nat) (τs : List T) : Option (List T) := match τs with
  | [x0, x1, x2] => F53 n x0 x1 x2
  | _ => none
noncomputable def code53 : List (Nat × Func) := [(53, Go.Proofs.Try.f53)]
def env53 : List (Nat × (Sig × Mean)) := []
def ann53 (f i : Nat) : Ann := match f, i with
  | _, _ => ⟨[], [], []⟩
def lm53 (n : Nat) (i : Nat) : Option LoopM := match i with
  | _ => none
noncomputable def cf53 (n : Nat) : Cfg := ⟨tiOf tab, lookup code53, lookup env53, ann53, n⟩
theorem ev53 (n : Nat) (x0 x1 x2 : T) : evF (cf53 n) (drawK (cf53 n)) 3 (lm53 n) 53 sg53 [x0, x1, x2] = F53 n x0 x1 x2 := by kernel_rfl
theorem eo53 (n : Nat) : EnvOk Go.Proofs.Try.prog (tiOf tab) n 53 sg53 ⟨M53⟩ :=
  have hc : CodeOk Go.Proofs.Try.prog (cf53 n) := (code_cons Go.Proofs.Try.func53 (by kernel_rfl) code_nil)
  have he : EnvsOk Go.Proofs.Try.prog (cf53 n) := env_nil
  envOk_of (cf := cf53 n) tabOk hc he (draw := drawK (cf53 n)) (fun _ => drawK_ok tabOk mixed hc he) (d := 3) (lm := lm53 n)
    (loops_of (cf := cf53 n) (fn0 := Go.Proofs.Try.f53) rfl (l := []) (by kernel_rfl) loops_nil)
    (fun τs rs h => by
      simp only [M53] at h
      split at h
      · exact (ev53 n _ _ _).trans h
      · cases h)
/-! ### 52: impl.isStream -/
def sg52 : Sig := ⟨[(false, [.int .i64])], [.leaf .bool false]⟩
def F52 (n : Nat) (x0 : T) : Option (List T) :=
  (F53 n x0 (.i 0) (.i 9)).bind fun r1 => some [(r1.headD (.i 0))]
def M52 (n : Nat) (τs : List T) : Option (List T) := match τs with
  | [x0] => F52 n x0
  | _ => none
noncomputable def code52 : List (Nat × Func) := [(52, Go.Proofs.Try.f52)]
def env52 : List (Nat × (Sig × Mean)) := [(53, sg53, ⟨M53⟩)]
def ann52 (f i : Nat) : Ann := match f, i with
  | _, _ => ⟨[], [], []⟩
def lm52 (n : Nat) (i : Nat) : Option LoopM := match i with
  | _ => none
noncomputable def cf52 (n : Nat) : Cfg := ⟨tiOf tab, lookup code52, lookup env52, ann52, n⟩
theorem ev52 (n : Nat) (x0 : T) : evF (cf52 n) (drawK (cf52 n)) 3 (lm52 n) 52 sg52 [x0] = F52 n x0 := by kernel_rfl
theorem eo52 (n : Nat) : EnvOk Go.Proofs.Try.prog (tiOf tab) n 52 sg52 ⟨M52⟩ :=
  have hc : CodeOk Go.Proofs.Try.prog (cf52 n) := (code_cons Go.Proofs.Try.func52 (by kernel_rfl) code_nil)
  have he : EnvsOk Go.Proofs.Try.prog (cf52 n) := (env_cons (eo53 n) env_nil)
  envOk_of (cf := cf52 n) tabOk hc he (draw := drawK (cf52 n)) (fun _ => drawK_ok tabOk mixed hc he) (d := 3) (lm := lm52 n)
    (loops_of (cf := cf52 n) (fn0 := Go.Proofs.Try.f52) rfl (l := []) (by kernel_rfl) loops_nil)
    (fun τs rs h => by
      simp only [M52] at h
      split at h
      · exact (ev52 n _).trans h
      · cases h)
/-! ### 15: impl.MessageFault -/
def sg15 : Sig := ⟨[(true, [.int .i64, .bool, .slice 5])], [.leaf (.int .i64) false]⟩
def F15 (n : Nat) (x0 x1 x2 : T) : Option (List T) :=
  (F52 n x0).bind fun r1 => bif (!(r1.headD (.i 0)).B) then (some [.i 3]) else ((F53 n (.i (x2.L.length : Int)) (.i 1) (.i 400)).bind fun r2 => bif (!(r2.headD (.i 0)).B) then (some [.i 2]) else (some [.i 0]))
def M15 (n : Nat) (τs : List T) : Option (List T) := match τs with
  | [x0, x1, x2] => F15 n x0 x1 x2
  | _ => none
noncomputable def code15 : List (Nat × Func) := [(15, Go.Proofs.Try.f15)]
def env15 : List (Nat × (Sig × Mean)) := [(52, sg52, ⟨M52⟩), (53, sg53, ⟨M53⟩)]
def ann15 (f i : Nat) : Ann := match f, i with
  | _, _ => ⟨[], [], []⟩
def lm15 (n : Nat) (i : Nat) : Option LoopM := match i with
  | _ => none
noncomputable def cf15 (n : Nat) : Cfg := ⟨tiOf tab, lookup code15, lookup env15, ann15, n⟩
theorem ev15 (n : Nat) (x0 x1 x2 : T) : evF (cf15 n) (drawK (cf15 n)) 3 (lm15 n) 15 sg15 [x0, x1, x2] = F15 n x0 x1 x2 := by kernel_rfl
theorem eo15 (n : Nat) : EnvOk Go.Proofs.Try.prog (tiOf tab) n 15 sg15 ⟨M15⟩ :=
  have hc : CodeOk Go.Proofs.Try.prog (cf15 n) := (code_cons Go.Proofs.Try.func15 (by kernel_rfl) code_nil)
  have he : EnvsOk Go.Proofs.Try.prog (cf15 n) := (env_cons (eo52 n) (env_cons (eo53 n) env_nil))
  envOk_of (cf := cf15 n) tabOk hc he (draw := drawK (cf15 n)) (fun _ => drawK_ok tabOk mixed hc he) (d := 3) (lm := lm15 n)
    (loops_of (cf := cf15 n) (fn0 := Go.Proofs.Try.f15) rfl (l := []) (by kernel_rfl) loops_nil)
    (fun τs rs h => by
      simp only [M15] at h
      split at h
      · exact (ev15 n _ _ _).trans h
      · cases h)
/-! ### 54: laws.eqByteS -/
def sg54 : Sig := ⟨[(false, [.slice 5]), (false, [.slice 5])], [.leaf .bool false]⟩
def G54_4 {R : Type} (n : Nat) (v : List T) (self : List T → Option R) (ex : List (List T → Option R)) : Option R :=
  bif (decide ((v.getD 2 (.i 0)).I < ((((v.getD 0 (.i 0)).L).length : Nat) : Int))) then (if 0 ≤ (v.getD 2 (.i 0)).I ∧ (v.getD 2 (.i 0)).I < (((v.getD 0 (.i 0)).L).length : Int) then (if 0 ≤ (v.getD 2 (.i 0)).I ∧ (v.getD 2 (.i 0)).I < (((v.getD 1 (.i 0)).L).length : Int) then (bif ((at_ ((v.getD 0 (.i 0)).L) ((v.getD 2 (.i 0)).I)).I != (at_ ((v.getD 1 (.i 0)).L) ((v.getD 2 (.i 0)).I)).I) then (exn ex 0 [.b false]) else (self [.l ((v.getD 0 (.i 0)).L), .l ((v.getD 1 (.i 0)).L), .i (IntKind.wrap .i64 ((v.getD 2 (.i 0)).I + 1))])) else none) else none) else (exn ex 1 [])
def L54_4 (n : Nat) : LoopM := ⟨⟨[[.t (.slice 5) (.i 0), .t (.slice 5) (.i 0), .un, .un, .un, .t (.int .i64) (.i 0), .un, .un, .un, .un, .un, .un, .un, .un, .un, .un, .un, .un, .un, .un, .un, .un, .un, .un, .un, .un]], []⟩, [(.ret, ⟨[[.un, .un, .un, .un, .t .bool (.i 0), .un, .un, .un, .un, .un, .un, .un, .un, .un, .un, .un, .un, .un, .un, .un, .un, .un, .un, .un, .un, .un]], []⟩), (.exit 0, ⟨[[.un, .un, .un, .un, .un, .un, .un, .un, .un, .un, .un, .un, .un, .un, .un, .un, .un, .un, .un, .un, .un, .un, .un, .un, .un, .un]], []⟩)], fun v self ex => G54_4 n v self ex⟩
def F54 (n : Nat) (x0 x1 : T) : Option (List T) :=
  bif ((x0.L.length : Int) != (x1.L.length : Int)) then (some [.b false]) else (loopR (L54_4 n).G n [.l x0.L, .l x1.L, .i 0] [fun u1 => some [.b ((u1.getD 0 (.i 0)).B)], fun u2 => some [.b true]])
def M54 (n : Nat) (τs : List T) : Option (List T) := match τs with
  | [x0, x1] => F54 n x0 x1
  | _ => none
noncomputable def code54 : List (Nat × Func) := [(54, Go.Proofs.Try.f54)]
def env54 : List (Nat × (Sig × Mean)) := []
def ann54 (f i : Nat) : Ann := match f, i with
  | 54, 4 => ⟨[(0, .any), (1, .any), (5, .any)], [], [(4, .any)]⟩
  | _, _ => ⟨[], [], []⟩
def lm54 (n : Nat) (i : Nat) : Option LoopM := match i with
  | 4 => some (L54_4 n)
  | _ => none
noncomputable def cf54 (n : Nat) : Cfg := ⟨tiOf tab, lookup code54, lookup env54, ann54, n⟩
theorem ev54 (n : Nat) (x0 x1 : T) : evF (cf54 n) (drawK (cf54 n)) 3 (lm54 n) 54 sg54 [x0, x1] = F54 n x0 x1 := by kernel_rfl
theorem lp54_4 (n : Nat) (K : Ex → St → Option (List T)) (self : List T → Option (List T)) (v : List T) : evC (cf54 n) (callK (cf54 n) (drawK (cf54 n)) 3) (drawK (cf54 n) (callK (cf54 n) (drawK (cf54 n)) 3)) (ann54 54) (lm54 n) (bodyOf Go.Proofs.Try.f54 4) ((L54_4 n).sk.fill v) (roundK (ann54 54 4) K (selfK (L54_4 n) self)) = (L54_4 n).G v self (exitK (L54_4 n) K) := by kernel_rfl
theorem eo54 (n : Nat) : EnvOk Go.Proofs.Try.prog (tiOf tab) n 54 sg54 ⟨M54⟩ :=
  have hc : CodeOk Go.Proofs.Try.prog (cf54 n) := (code_cons Go.Proofs.Try.func54 (by kernel_rfl) code_nil)
  have he : EnvsOk Go.Proofs.Try.prog (cf54 n) := env_nil
  envOk_of (cf := cf54 n) tabOk hc he (draw := drawK (cf54 n)) (fun _ => drawK_ok tabOk mixed hc he) (d := 3) (lm := lm54 n)
    (loops_of (cf := cf54 n) (fn0 := Go.Proofs.Try.f54) rfl (l := [bodyOf Go.Proofs.Try.f54 4]) (by kernel_rfl) (loops_cons (b := bodyOf Go.Proofs.Try.f54 4) (by kernel_rfl) (rfl : lm54 n 4 = some (L54_4 n)) (fun K self v => lp54_4 n K self v) loops_nil))
    (fun τs rs h => by
      simp only [M54] at h
      split at h
      · exact (ev54 n _ _).trans h
      · cases h)
/-! ### 16: laws.eqMessage -/
def sg16 : Sig := ⟨[(true, [.int .i64, .bool, .slice 5]), (true, [.int .i64, .bool, .slice 5])], [.leaf .bool false]⟩
def F16 (n : Nat) (x0 x1 x2 x3 x4 x5 : T) : Option (List T) :=
  bif (x0.I != x3.I) then (some [.b false]) else (bif (!(x1.B == x4.B)) then (some [.b false]) else ((F54 n x2 x5).bind fun r1 => bif (!(r1.headD (.i 0)).B) then (some [.b false]) else (some [.b true])))
def M16 (n : Nat) (τs : List T) : Option (List T) := match τs with
  | [x0, x1, x2, x3, x4, x5] => F16 n x0 x1 x2 x3 x4 x5
  | _ => none
noncomputable def code16 : List (Nat × Func) := [(16, Go.Proofs.Try.f16)]
def env16 : List (Nat × (Sig × Mean)) := [(54, sg54, ⟨M54⟩)]
def ann16 (f i : Nat) : Ann := match f, i with
  | _, _ => ⟨[], [], []⟩
def lm16 (n : Nat) (i : Nat) : Option LoopM := match i with
  | _ => none
noncomputable def cf16 (n : Nat) : Cfg := ⟨tiOf tab, lookup code16, lookup env16, ann16, n⟩
theorem ev16 (n : Nat) (x0 x1 x2 x3 x4 x5 : T) : evF (cf16 n) (drawK (cf16 n)) 3 (lm16 n) 16 sg16 [x0, x1, x2, x3, x4, x5] = F16 n x0 x1 x2 x3 x4 x5 := by kernel_rfl
theorem eo16 (n : Nat) : EnvOk Go.Proofs.Try.prog (tiOf tab) n 16 sg16 ⟨M16⟩ :=
  have hc : CodeOk Go.Proofs.Try.prog (cf16 n) := (code_cons Go.Proofs.Try.func16 (by kernel_rfl) code_nil)
  have he : EnvsOk Go.Proofs.Try.prog (cf16 n) := (env_cons (eo54 n) env_nil)
  envOk_of (cf := cf16 n) tabOk hc he (draw := drawK (cf16 n)) (fun _ => drawK_ok tabOk mixed hc he) (d := 3) (lm := lm16 n)
    (loops_of (cf := cf16 n) (fn0 := Go.Proofs.Try.f16) rfl (l := []) (by kernel_rfl) loops_nil)
    (fun τs rs h => by
      simp only [M16] at h
      split at h
      · exact (ev16 n _ _ _ _ _ _).trans h
      · cases h)
/-! ### 3: laws.FnExactMessageFault -/
def sg3 : Sig := ⟨[(true, [.int .i64, .bool, .slice 5])], [.leaf .bool false]⟩
def F3 (n : Nat) (x0 x1 x2 : T) : Option (List T) :=
  (F12 n x0 x1 x2 (.i 1048576)).bind fun r1 => bif (decide ((r1.headD (.i 0)).I < 0)) then (some [.b true]) else ((F14 n x0 x1 x2).bind fun r2 => (F13 n (r2.headD (.i 0)) (r2.tail.headD (.i 0)) (r2.tail.tail.headD (.i 0))).bind fun r3 => (F14 n x0 x1 x2).bind fun r4 => (F15 n (r4.headD (.i 0)) (r4.tail.headD (.i 0)) (r4.tail.tail.headD (.i 0))).bind fun r5 => bif ((r5.headD (.i 0)).I != (r3.headD (.i 0)).I) then (some [.b false]) else ((F14 n x0 x1 x2).bind fun r6 => (F16 n (r4.headD (.i 0)) (r4.tail.headD (.i 0)) (r4.tail.tail.headD (.i 0)) (r6.headD (.i 0)) (r6.tail.headD (.i 0)) (r6.tail.tail.headD (.i 0))).bind fun r7 => bif (!(r7.headD (.i 0)).B) then (some [.b false]) else (some [.b true])))
def M3 (n : Nat) (τs : List T) : Option (List T) := match τs with
  | [x0, x1, x2] => F3 n x0 x1 x2
  | _ => none
noncomputable def code3 : List (Nat × Func) := [(3, Go.Proofs.Try.f3)]
def env3 : List (Nat × (Sig × Mean)) := [(12, sg12, ⟨M12⟩), (13, sg13, ⟨M13⟩), (14, sg14, ⟨M14⟩), (15, sg15, ⟨M15⟩), (16, sg16, ⟨M16⟩)]
def ann3 (f i : Nat) : Ann := match f, i with
  | _, _ => ⟨[], [], []⟩
def lm3 (n : Nat) (i : Nat) : Option LoopM := match i with
  | _ => none
noncomputable def cf3 (n : Nat) : Cfg := ⟨tiOf tab, lookup code3, lookup env3, ann3, n⟩
theorem ev3 (n : Nat) (x0 x1 x2 : T) : evF (cf3 n) (drawK (cf3 n)) 3 (lm3 n) 3 sg3 [x0, x1, x2] = F3 n x0 x1 x2 := by kernel_rfl
theorem eo3 (n : Nat) : EnvOk Go.Proofs.Try.prog (tiOf tab) n 3 sg3 ⟨M3⟩ :=
  have hc : CodeOk Go.Proofs.Try.prog (cf3 n) := (code_cons Go.Proofs.Try.func3 (by kernel_rfl) code_nil)
  have he : EnvsOk Go.Proofs.Try.prog (cf3 n) := (env_cons (eo12 n) (env_cons (eo13 n) (env_cons (eo14 n) (env_cons (eo15 n) (env_cons (eo16 n) env_nil)))))
  envOk_of (cf := cf3 n) tabOk hc he (draw := drawK (cf3 n)) (fun _ => drawK_ok tabOk mixed hc he) (d := 3) (lm := lm3 n)
    (loops_of (cf := cf3 n) (fn0 := Go.Proofs.Try.f3) rfl (l := []) (by kernel_rfl) loops_nil)
    (fun τs rs h => by
      simp only [M3] at h
      split at h
      · exact (ev3 n _ _ _).trans h
      · cases h)
end Go.KX.Sa
