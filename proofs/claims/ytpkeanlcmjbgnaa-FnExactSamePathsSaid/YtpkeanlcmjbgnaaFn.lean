import Derived.Test.YtpkeanlcmjbgnaaProg
import Derived.KernelRfl
import Derived.Test.YtpkeanlcmjbgnaaKxC
namespace Go.KX.Sa
open Go
set_option linter.unusedVariables false
def tab : List (Nat × TyI) := [
  (2, ⟨true, false, [.int .i64], 8, .leaf, false⟩),
  (3, ⟨true, false, [.int .i64], 8, .leaf, false⟩),
  (4, ⟨true, false, [.bool], 1, .leaf, false⟩),
  (40, ⟨true, false, [.slice 117], 24, .slice 117, false⟩),
  (42, ⟨true, true, [.slice 117, .int .i64], 32, .struct [(40, 0), (2, 1)], false⟩),
  (45, ⟨true, false, [.slice 90], 24, .slice 90, false⟩),
  (47, ⟨true, true, [.slice 90, .int .i64], 32, .struct [(45, 0), (2, 1)], false⟩),
  (90, ⟨true, true, [.int .i64, .int .i64, .int .i64, .bool], 32, .struct [(2, 0), (2, 1), (2, 2), (4, 3)], true⟩),
  (117, ⟨true, true, [.int .i64, .int .i64, .int .i64, .bool], 32, .struct [(2, 0), (2, 1), (2, 2), (4, 3)], true⟩)]
theorem tabOk : TabOk Go.Proofs.Try.prog (tiOf tab) := tab_ok (by kernel_rfl)
theorem mixed : Go.Proofs.Try.prog.follows .mixedOrders = true := by kernel_rfl
/-! ### 60: laws.szPathS -/
def sg60 : Sig := ⟨[(false, [.slice 117]), (false, [.int .i64])], [.leaf (.int .i64) false]⟩
def F60 (n : Nat) (x0 x1 : T) : Option (List T) :=
  bif (decide ((IntKind.wrap .i64 (x1.I - (x0.L.length : Int))) < 0)) then (some [.i (-1)]) else (some [.i (IntKind.wrap .i64 (x1.I - (x0.L.length : Int)))])
def M60 (n : Nat) (τs : List T) : Option (List T) := match τs with
  | [x0, x1] => F60 n x0 x1
  | _ => none
noncomputable def code60 : List (Nat × Func) := [(60, Go.Proofs.Try.f60)]
def env60 : List (Nat × (Sig × Mean)) := []
def ann60 (f i : Nat) : Ann := match f, i with
  | _, _ => ⟨[], [], []⟩
def lsl60 (n : Nat) : List ((Nat × Nat) × (Nat → List LoopM)) := []
noncomputable def cf60 (n : Nat) : Cfg := ⟨tiOf tab, lookup code60, lookup env60, ann60, n⟩
theorem ev60 (n : Nat) (x0 x1 : T) : evF (cf60 n) (drawK (cf60 n)) (lms2 (lsl60 n)) 3 60 sg60 [x0, x1] = F60 n x0 x1 := by kernel_rfl
theorem eo60 (n : Nat) : EnvOk Go.Proofs.Try.prog (tiOf tab) n 60 sg60 ⟨M60⟩ :=
  have hc : CodeOk Go.Proofs.Try.prog (cf60 n) := (code_cons Go.Proofs.Try.func60 (by kernel_rfl) code_nil)
  have he : EnvsOk Go.Proofs.Try.prog (cf60 n) := env_nil
  have hl : LmsOk (R := List T) (cf60 n) (drawK (cf60 n)) (lms2 (lsl60 n)) (lsl60 n) := lms_nil
  envOk_of (cf := cf60 n) tabOk hc he (draw := drawK (cf60 n)) (fun _ => drawK_ok tabOk mixed hc he) (d := 3) (lms := lms2 (lsl60 n)) hl
    (fun τs rs h => by
      simp only [M60] at h
      split at h
      · exact (ev60 n _ _).trans h
      · cases h)
/-! ### 22: laws.szPaths -/
def sg22 : Sig := ⟨[(true, [.slice 117, .int .i64]), (false, [.int .i64])], [.leaf (.int .i64) false]⟩
def F22 (n : Nat) (x0 x1 x2 : T) : Option (List T) :=
  (F60 n x0 x2).bind fun r1 => bif (decide ((r1.headD (.i 0)).I < 0)) then (some [.i (-1)]) else (some [(r1.headD (.i 0))])
def M22 (n : Nat) (τs : List T) : Option (List T) := match τs with
  | [x0, x1, x2] => F22 n x0 x1 x2
  | _ => none
noncomputable def code22 : List (Nat × Func) := [(22, Go.Proofs.Try.f22)]
def env22 : List (Nat × (Sig × Mean)) := [(60, sg60, ⟨M60⟩)]
def ann22 (f i : Nat) : Ann := match f, i with
  | _, _ => ⟨[], [], []⟩
def lsl22 (n : Nat) : List ((Nat × Nat) × (Nat → List LoopM)) := []
noncomputable def cf22 (n : Nat) : Cfg := ⟨tiOf tab, lookup code22, lookup env22, ann22, n⟩
theorem ev22 (n : Nat) (x0 x1 x2 : T) : evF (cf22 n) (drawK (cf22 n)) (lms2 (lsl22 n)) 3 22 sg22 [x0, x1, x2] = F22 n x0 x1 x2 := by kernel_rfl
theorem eo22 (n : Nat) : EnvOk Go.Proofs.Try.prog (tiOf tab) n 22 sg22 ⟨M22⟩ :=
  have hc : CodeOk Go.Proofs.Try.prog (cf22 n) := (code_cons Go.Proofs.Try.func22 (by kernel_rfl) code_nil)
  have he : EnvsOk Go.Proofs.Try.prog (cf22 n) := (env_cons (eo60 n) env_nil)
  have hl : LmsOk (R := List T) (cf22 n) (drawK (cf22 n)) (lms2 (lsl22 n)) (lsl22 n) := lms_nil
  envOk_of (cf := cf22 n) tabOk hc he (draw := drawK (cf22 n)) (fun _ => drawK_ok tabOk mixed hc he) (d := 3) (lms := lms2 (lsl22 n)) hl
    (fun τs rs h => by
      simp only [M22] at h
      split at h
      · exact (ev22 n _ _ _).trans h
      · cases h)
/-! ### 23: spec.SamePaths -/
def sg23 : Sig := ⟨[(true, [.slice 90, .int .i64]), (true, [.slice 90, .int .i64])], [.leaf .bool false]⟩
def G23_23_4 {R : Type} (n : Nat) (v : List T) (self : List T → Option R) (ex : List (List T → Option R)) : Option R :=
  bif (decide ((v.getD 0 (.i 0)).I < ((((v.getD 1 (.i 0)).L).length : Nat) : Int))) then (if 0 ≤ (v.getD 0 (.i 0)).I ∧ (v.getD 0 (.i 0)).I < (((v.getD 1 (.i 0)).L).length : Int) then (if 0 ≤ (v.getD 0 (.i 0)).I ∧ (v.getD 0 (.i 0)).I < (((v.getD 3 (.i 0)).L).length : Int) then (bif (!((((at_ ((v.getD 1 (.i 0)).L) ((v.getD 0 (.i 0)).I)).F 0).I == ((at_ ((v.getD 3 (.i 0)).L) ((v.getD 0 (.i 0)).I)).F 0).I) && ((((at_ ((v.getD 1 (.i 0)).L) ((v.getD 0 (.i 0)).I)).F 1).I == ((at_ ((v.getD 3 (.i 0)).L) ((v.getD 0 (.i 0)).I)).F 1).I) && ((((at_ ((v.getD 1 (.i 0)).L) ((v.getD 0 (.i 0)).I)).F 2).I == ((at_ ((v.getD 3 (.i 0)).L) ((v.getD 0 (.i 0)).I)).F 2).I) && ((((at_ ((v.getD 1 (.i 0)).L) ((v.getD 0 (.i 0)).I)).F 3).B == ((at_ ((v.getD 3 (.i 0)).L) ((v.getD 0 (.i 0)).I)).F 3).B) && true))))) then (exn ex 0 [.b false]) else (self [.i (IntKind.wrap .i64 ((v.getD 0 (.i 0)).I + 1)), .l ((v.getD 1 (.i 0)).L), .i ((v.getD 2 (.i 0)).I), .l ((v.getD 3 (.i 0)).L), .i ((v.getD 4 (.i 0)).I)])) else none) else none) else (exn ex 1 [])
def L23_23_4 (n : Nat) : LoopM := ⟨⟨[[.un, .un, .pb 0 0, .pb 1 0, .un, .t (.int .i64) (.i 0), .un, .un, .un, .un, .un, .un, .un, .un, .un, .un, .un, .un, .un, .un, .un, .un, .un, .un, .un, .un, .un, .un, .un, .un, .un, .un, .un, .un, .un, .un, .un, .un]], [.box [.t (.slice 90) (.i 0), .t (.int .i64) (.i 0)], .box [.t (.slice 90) (.i 0), .t (.int .i64) (.i 0)]]⟩, [(.ret, ⟨[[.un, .un, .un, .un, .t .bool (.i 0), .un, .un, .un, .un, .un, .un, .un, .un, .un, .un, .un, .un, .un, .un, .un, .un, .un, .un, .un, .un, .un, .un, .un, .un, .un, .un, .un, .un, .un, .un, .un, .un, .un]], []⟩), (.exit 0, ⟨[[.un, .un, .un, .un, .un, .un, .un, .un, .un, .un, .un, .un, .un, .un, .un, .un, .un, .un, .un, .un, .un, .un, .un, .un, .un, .un, .un, .un, .un, .un, .un, .un, .un, .un, .un, .un, .un, .un]], []⟩)], fun v self ex => G23_23_4 n v self ex⟩
def F23 (n : Nat) (x0 x1 x2 x3 : T) : Option (List T) :=
  bif (x1.I != x3.I) then (some [.b false]) else (bif ((x0.L.length : Int) != (x2.L.length : Int)) then (some [.b false]) else (loopR (L23_23_4 n).G n [.i 0, .l x0.L, .i x1.I, .l x2.L, .i x3.I] [fun u1 => some [.b ((u1.getD 0 (.i 0)).B)], fun u2 => some [.b true]]))
def M23 (n : Nat) (τs : List T) : Option (List T) := match τs with
  | [x0, x1, x2, x3] => F23 n x0 x1 x2 x3
  | _ => none
noncomputable def code23 : List (Nat × Func) := [(23, Go.Proofs.Try.f23)]
def env23 : List (Nat × (Sig × Mean)) := []
def ann23 (f i : Nat) : Ann := match f, i with
  | 23, 4 => ⟨[(2, .any), (3, .any), (5, .any)], [], [(4, .any)]⟩
  | _, _ => ⟨[], [], []⟩
def lm23_23 (n : Nat) (i : Nat) : List LoopM := match i with
  | 4 => [L23_23_4 n]
  | _ => []
def lsl23 (n : Nat) : List ((Nat × Nat) × (Nat → List LoopM)) := [((3, 23), lm23_23 n)]
noncomputable def cf23 (n : Nat) : Cfg := ⟨tiOf tab, lookup code23, lookup env23, ann23, n⟩
theorem ev23 (n : Nat) (x0 x1 x2 x3 : T) : evF (cf23 n) (drawK (cf23 n)) (lms2 (lsl23 n)) 3 23 sg23 [x0, x1, x2, x3] = F23 n x0 x1 x2 x3 := by kernel_rfl
theorem lp23_23_4 (n : Nat) (K : Ex → St → Option (List T)) (self : List T → Option (List T)) (v : List T) : evC (cf23 n) (callK (cf23 n) (drawK (cf23 n)) (lms2 (lsl23 n)) 3) (drawK (cf23 n) (callK (cf23 n) (drawK (cf23 n)) (lms2 (lsl23 n)) 3)) (ann23 23) (lm23_23 n) (bodyOf Go.Proofs.Try.f23 4) ((L23_23_4 n).sk.fill v) (roundK (ann23 23 4) K (selfK (L23_23_4 n) self)) = (L23_23_4 n).G v self (exitK (L23_23_4 n) K) := by kernel_rfl
theorem eo23 (n : Nat) : EnvOk Go.Proofs.Try.prog (tiOf tab) n 23 sg23 ⟨M23⟩ :=
  have hc : CodeOk Go.Proofs.Try.prog (cf23 n) := (code_cons Go.Proofs.Try.func23 (by kernel_rfl) code_nil)
  have he : EnvsOk Go.Proofs.Try.prog (cf23 n) := env_nil
  have hl : LmsOk (R := List T) (cf23 n) (drawK (cf23 n)) (lms2 (lsl23 n)) (lsl23 n) := (lms_cons (loops_of (cf := cf23 n) (fn0 := Go.Proofs.Try.f23) rfl (l := [bodyOf Go.Proofs.Try.f23 4]) (by kernel_rfl) (loops_cons (b := bodyOf Go.Proofs.Try.f23 4) (by kernel_rfl) (rfl : lm23_23 n 4 = [L23_23_4 n]) (List.forall_mem_cons.2 ⟨fun K self v => lp23_23_4 n K self v, fun _ h => by cases h⟩) loops_nil)) lms_nil)
  envOk_of (cf := cf23 n) tabOk hc he (draw := drawK (cf23 n)) (fun _ => drawK_ok tabOk mixed hc he) (d := 3) (lms := lms2 (lsl23 n)) hl
    (fun τs rs h => by
      simp only [M23] at h
      split at h
      · exact (ev23 n _ _ _ _).trans h
      · cases h)
/-! ### 87: laws.toPath -/
def sg87 : Sig := ⟨[(true, [.int .i64, .int .i64, .int .i64, .bool])], [.agg [(.int .i64, false), (.int .i64, false), (.int .i64, false), (.bool, false)]]⟩
def F87 (n : Nat) (x0 x1 x2 x3 : T) : Option (List T) :=
  some [x0, x1, x2, x3]
def M87 (n : Nat) (τs : List T) : Option (List T) := match τs with
  | [x0, x1, x2, x3] => F87 n x0 x1 x2 x3
  | _ => none
noncomputable def code87 : List (Nat × Func) := [(87, Go.Proofs.Try.f87)]
def env87 : List (Nat × (Sig × Mean)) := []
def ann87 (f i : Nat) : Ann := match f, i with
  | _, _ => ⟨[], [], []⟩
def lsl87 (n : Nat) : List ((Nat × Nat) × (Nat → List LoopM)) := []
noncomputable def cf87 (n : Nat) : Cfg := ⟨tiOf tab, lookup code87, lookup env87, ann87, n⟩
theorem ev87 (n : Nat) (x0 x1 x2 x3 : T) : evF (cf87 n) (drawK (cf87 n)) (lms2 (lsl87 n)) 3 87 sg87 [x0, x1, x2, x3] = F87 n x0 x1 x2 x3 := by kernel_rfl
theorem eo87 (n : Nat) : EnvOk Go.Proofs.Try.prog (tiOf tab) n 87 sg87 ⟨M87⟩ :=
  have hc : CodeOk Go.Proofs.Try.prog (cf87 n) := (code_cons Go.Proofs.Try.func87 (by kernel_rfl) code_nil)
  have he : EnvsOk Go.Proofs.Try.prog (cf87 n) := env_nil
  have hl : LmsOk (R := List T) (cf87 n) (drawK (cf87 n)) (lms2 (lsl87 n)) (lsl87 n) := lms_nil
  envOk_of (cf := cf87 n) tabOk hc he (draw := drawK (cf87 n)) (fun _ => drawK_ok tabOk mixed hc he) (d := 3) (lms := lms2 (lsl87 n)) hl
    (fun τs rs h => by
      simp only [M87] at h
      split at h
      · exact (ev87 n _ _ _ _).trans h
      · cases h)
/-! ### 61: laws.toPathS -/
def sg61 : Sig := ⟨[(false, [.slice 117])], [.leaf (.slice 90) false]⟩
def G61_61_3 {R : Type} (n : Nat) (v : List T) (self : List T → Option R) (ex : List (List T → Option R)) : Option R :=
  bif (decide ((v.getD 1 (.i 0)).I < ((((v.getD 0 (.i 0)).L).length : Nat) : Int))) then (if 0 ≤ (v.getD 1 (.i 0)).I ∧ (v.getD 1 (.i 0)).I < (((v.getD 0 (.i 0)).L).length : Int) then ((F87 n ((at_ ((v.getD 0 (.i 0)).L) ((v.getD 1 (.i 0)).I)).F 0) ((at_ ((v.getD 0 (.i 0)).L) ((v.getD 1 (.i 0)).I)).F 1) ((at_ ((v.getD 0 (.i 0)).L) ((v.getD 1 (.i 0)).I)).F 2) ((at_ ((v.getD 0 (.i 0)).L) ((v.getD 1 (.i 0)).I)).F 3)).bind fun r1 => if 0 ≤ (v.getD 1 (.i 0)).I ∧ (v.getD 1 (.i 0)).I < (((v.getD 2 (.i 0)).L).length : Int) then (if 90 = 90 ∧ ((v.getD 1 (.i 0)).I).toNat < ((v.getD 2 (.i 0)).L).length then (self [.l ((v.getD 0 (.i 0)).L), .i (IntKind.wrap .i64 ((v.getD 1 (.i 0)).I + 1)), .l (((v.getD 2 (.i 0)).L).set (((v.getD 1 (.i 0)).I).toNat) (.r [(r1.headD (.i 0)), (r1.tail.headD (.i 0)), (r1.tail.tail.headD (.i 0)), (r1.tail.tail.tail.headD (.i 0))]))]) else none) else none) else none) else (exn ex 0 [.l ((v.getD 2 (.i 0)).L)])
def L61_61_3 (n : Nat) : LoopM := ⟨⟨[[.t (.slice 117) (.i 0), .un, .un, .own 90 0, .t (.int .i64) (.i 0), .un, .un, .un, .un, .un, .un, .un, .un, .un, .un, .un, .un, .un, .un, .un, .un, .un, .un]], [.arr 90 []]⟩, [(.exit 0, ⟨[[.un, .un, .un, .own 90 0, .un, .un, .un, .un, .un, .un, .un, .un, .un, .un, .un, .un, .un, .un, .un, .un, .un, .un, .un]], [.arr 90 []]⟩)], fun v self ex => G61_61_3 n v self ex⟩
def F61 (n : Nat) (x0 : T) : Option (List T) :=
  if 0 ≤ (x0.L.length : Int) ∧ (x0.L.length : Int) * 32 ≤ limB ∧ (x0.L.length : Int) < maxN then (loopR (L61_61_3 n).G n [.l x0.L, .i 0, .l (List.replicate ((x0.L.length : Int)).toNat (T.r [.i 0, .i 0, .i 0, .b false]))] [fun u2 => some [.l ((u2.getD 0 (.i 0)).L)]]) else none
def M61 (n : Nat) (τs : List T) : Option (List T) := match τs with
  | [x0] => F61 n x0
  | _ => none
noncomputable def code61 : List (Nat × Func) := [(61, Go.Proofs.Try.f61)]
def env61 : List (Nat × (Sig × Mean)) := [(87, sg87, ⟨M87⟩)]
def ann61 (f i : Nat) : Ann := match f, i with
  | 61, 3 => ⟨[(0, .any), (3, .any), (4, .any)], [], [(3, .any)]⟩
  | _, _ => ⟨[], [], []⟩
def lm61_61 (n : Nat) (i : Nat) : List LoopM := match i with
  | 3 => [L61_61_3 n]
  | _ => []
def lsl61 (n : Nat) : List ((Nat × Nat) × (Nat → List LoopM)) := [((3, 61), lm61_61 n)]
noncomputable def cf61 (n : Nat) : Cfg := ⟨tiOf tab, lookup code61, lookup env61, ann61, n⟩
theorem ev61 (n : Nat) (x0 : T) : evF (cf61 n) (drawK (cf61 n)) (lms2 (lsl61 n)) 3 61 sg61 [x0] = F61 n x0 := by kernel_rfl
theorem lp61_61_3 (n : Nat) (K : Ex → St → Option (List T)) (self : List T → Option (List T)) (v : List T) : evC (cf61 n) (callK (cf61 n) (drawK (cf61 n)) (lms2 (lsl61 n)) 3) (drawK (cf61 n) (callK (cf61 n) (drawK (cf61 n)) (lms2 (lsl61 n)) 3)) (ann61 61) (lm61_61 n) (bodyOf Go.Proofs.Try.f61 3) ((L61_61_3 n).sk.fill v) (roundK (ann61 61 3) K (selfK (L61_61_3 n) self)) = (L61_61_3 n).G v self (exitK (L61_61_3 n) K) := by kernel_rfl
theorem eo61 (n : Nat) : EnvOk Go.Proofs.Try.prog (tiOf tab) n 61 sg61 ⟨M61⟩ :=
  have hc : CodeOk Go.Proofs.Try.prog (cf61 n) := (code_cons Go.Proofs.Try.func61 (by kernel_rfl) code_nil)
  have he : EnvsOk Go.Proofs.Try.prog (cf61 n) := (env_cons (eo87 n) env_nil)
  have hl : LmsOk (R := List T) (cf61 n) (drawK (cf61 n)) (lms2 (lsl61 n)) (lsl61 n) := (lms_cons (loops_of (cf := cf61 n) (fn0 := Go.Proofs.Try.f61) rfl (l := [bodyOf Go.Proofs.Try.f61 3]) (by kernel_rfl) (loops_cons (b := bodyOf Go.Proofs.Try.f61 3) (by kernel_rfl) (rfl : lm61_61 n 3 = [L61_61_3 n]) (List.forall_mem_cons.2 ⟨fun K self v => lp61_61_3 n K self v, fun _ h => by cases h⟩) loops_nil)) lms_nil)
  envOk_of (cf := cf61 n) tabOk hc he (draw := drawK (cf61 n)) (fun _ => drawK_ok tabOk mixed hc he) (d := 3) (lms := lms2 (lsl61 n)) hl
    (fun τs rs h => by
      simp only [M61] at h
      split at h
      · exact (ev61 n _).trans h
      · cases h)
/-! ### 24: laws.toPaths -/
def sg24 : Sig := ⟨[(true, [.slice 117, .int .i64])], [.agg [(.slice 90, false), (.int .i64, false)]]⟩
def F24 (n : Nat) (x0 x1 : T) : Option (List T) :=
  (F61 n x0).bind fun r1 => some [(r1.headD (.i 0)), x1]
def M24 (n : Nat) (τs : List T) : Option (List T) := match τs with
  | [x0, x1] => F24 n x0 x1
  | _ => none
noncomputable def code24 : List (Nat × Func) := [(24, Go.Proofs.Try.f24)]
def env24 : List (Nat × (Sig × Mean)) := [(61, sg61, ⟨M61⟩)]
def ann24 (f i : Nat) : Ann := match f, i with
  | _, _ => ⟨[], [], []⟩
def lsl24 (n : Nat) : List ((Nat × Nat) × (Nat → List LoopM)) := []
noncomputable def cf24 (n : Nat) : Cfg := ⟨tiOf tab, lookup code24, lookup env24, ann24, n⟩
theorem ev24 (n : Nat) (x0 x1 : T) : evF (cf24 n) (drawK (cf24 n)) (lms2 (lsl24 n)) 3 24 sg24 [x0, x1] = F24 n x0 x1 := by kernel_rfl
theorem eo24 (n : Nat) : EnvOk Go.Proofs.Try.prog (tiOf tab) n 24 sg24 ⟨M24⟩ :=
  have hc : CodeOk Go.Proofs.Try.prog (cf24 n) := (code_cons Go.Proofs.Try.func24 (by kernel_rfl) code_nil)
  have he : EnvsOk Go.Proofs.Try.prog (cf24 n) := (env_cons (eo61 n) env_nil)
  have hl : LmsOk (R := List T) (cf24 n) (drawK (cf24 n)) (lms2 (lsl24 n)) (lsl24 n) := lms_nil
  envOk_of (cf := cf24 n) tabOk hc he (draw := drawK (cf24 n)) (fun _ => drawK_ok tabOk mixed hc he) (d := 3) (lms := lms2 (lsl24 n)) hl
    (fun τs rs h => by
      simp only [M24] at h
      split at h
      · exact (ev24 n _ _).trans h
      · cases h)
/-! ### 62: impl.Path] -/
def sg62 : Sig := ⟨[(false, [.slice 90]), (false, [.slice 90])], [.leaf .bool false]⟩
def G62_62_4 {R : Type} (n : Nat) (v : List T) (self : List T → Option R) (ex : List (List T → Option R)) : Option R :=
  bif (decide ((v.getD 3 (.i 0)).I < (v.getD 2 (.i 0)).I)) then (if 0 ≤ (v.getD 3 (.i 0)).I ∧ (v.getD 3 (.i 0)).I < (((v.getD 0 (.i 0)).L).length : Int) then (if 0 ≤ (v.getD 3 (.i 0)).I ∧ (v.getD 3 (.i 0)).I < (((v.getD 1 (.i 0)).L).length : Int) then (bif (!((((at_ ((v.getD 0 (.i 0)).L) ((v.getD 3 (.i 0)).I)).F 0).I == ((at_ ((v.getD 1 (.i 0)).L) ((v.getD 3 (.i 0)).I)).F 0).I) && ((((at_ ((v.getD 0 (.i 0)).L) ((v.getD 3 (.i 0)).I)).F 1).I == ((at_ ((v.getD 1 (.i 0)).L) ((v.getD 3 (.i 0)).I)).F 1).I) && ((((at_ ((v.getD 0 (.i 0)).L) ((v.getD 3 (.i 0)).I)).F 2).I == ((at_ ((v.getD 1 (.i 0)).L) ((v.getD 3 (.i 0)).I)).F 2).I) && ((((at_ ((v.getD 0 (.i 0)).L) ((v.getD 3 (.i 0)).I)).F 3).B == ((at_ ((v.getD 1 (.i 0)).L) ((v.getD 3 (.i 0)).I)).F 3).B) && true))))) then (exn ex 0 [.b false]) else (self [.l ((v.getD 0 (.i 0)).L), .l ((v.getD 1 (.i 0)).L), .i ((v.getD 2 (.i 0)).I), .i (IntKind.wrap .i64 ((v.getD 3 (.i 0)).I + 1))])) else none) else none) else (exn ex 1 [])
def L62_62_4 (n : Nat) : LoopM := ⟨⟨[[.t (.slice 90) (.i 0), .t (.slice 90) (.i 0), .un, .un, .un, .un, .un, .un, .un, .un, .un, .un, .t (.int .i64) (.i 0), .t (.int .i64) (.i 0), .un, .un, .un, .un, .un, .un, .un, .un, .un, .un, .un, .un]], []⟩, [(.ret, ⟨[[.un, .un, .un, .un, .t .bool (.i 0), .un, .un, .un, .un, .un, .un, .un, .un, .un, .un, .un, .un, .un, .un, .un, .un, .un, .un, .un, .un, .un]], []⟩), (.exit 0, ⟨[[.un, .un, .un, .un, .un, .un, .un, .un, .un, .un, .un, .un, .un, .un, .un, .un, .un, .un, .un, .un, .un, .un, .un, .un, .un, .un]], []⟩)], fun v self ex => G62_62_4 n v self ex⟩
def F62 (n : Nat) (x0 x1 : T) : Option (List T) :=
  bif ((x0.L.length : Int) != (x1.L.length : Int)) then (some [.b false]) else (loopR (L62_62_4 n).G n [.l x0.L, .l x1.L, .i (x0.L.length : Int), .i 0] [fun u1 => some [.b ((u1.getD 0 (.i 0)).B)], fun u2 => some [.b true]])
def M62 (n : Nat) (τs : List T) : Option (List T) := match τs with
  | [x0, x1] => F62 n x0 x1
  | _ => none
noncomputable def code62 : List (Nat × Func) := [(62, Go.Proofs.Try.f62)]
def env62 : List (Nat × (Sig × Mean)) := []
def ann62 (f i : Nat) : Ann := match f, i with
  | 62, 4 => ⟨[(0, .any), (1, .any), (12, .any), (13, .any)], [], [(4, .any)]⟩
  | _, _ => ⟨[], [], []⟩
def lm62_62 (n : Nat) (i : Nat) : List LoopM := match i with
  | 4 => [L62_62_4 n]
  | _ => []
def lsl62 (n : Nat) : List ((Nat × Nat) × (Nat → List LoopM)) := [((3, 62), lm62_62 n)]
noncomputable def cf62 (n : Nat) : Cfg := ⟨tiOf tab, lookup code62, lookup env62, ann62, n⟩
theorem ev62 (n : Nat) (x0 x1 : T) : evF (cf62 n) (drawK (cf62 n)) (lms2 (lsl62 n)) 3 62 sg62 [x0, x1] = F62 n x0 x1 := by kernel_rfl
theorem lp62_62_4 (n : Nat) (K : Ex → St → Option (List T)) (self : List T → Option (List T)) (v : List T) : evC (cf62 n) (callK (cf62 n) (drawK (cf62 n)) (lms2 (lsl62 n)) 3) (drawK (cf62 n) (callK (cf62 n) (drawK (cf62 n)) (lms2 (lsl62 n)) 3)) (ann62 62) (lm62_62 n) (bodyOf Go.Proofs.Try.f62 4) ((L62_62_4 n).sk.fill v) (roundK (ann62 62 4) K (selfK (L62_62_4 n) self)) = (L62_62_4 n).G v self (exitK (L62_62_4 n) K) := by kernel_rfl
theorem eo62 (n : Nat) : EnvOk Go.Proofs.Try.prog (tiOf tab) n 62 sg62 ⟨M62⟩ :=
  have hc : CodeOk Go.Proofs.Try.prog (cf62 n) := (code_cons Go.Proofs.Try.func62 (by kernel_rfl) code_nil)
  have he : EnvsOk Go.Proofs.Try.prog (cf62 n) := env_nil
  have hl : LmsOk (R := List T) (cf62 n) (drawK (cf62 n)) (lms2 (lsl62 n)) (lsl62 n) := (lms_cons (loops_of (cf := cf62 n) (fn0 := Go.Proofs.Try.f62) rfl (l := [bodyOf Go.Proofs.Try.f62 4]) (by kernel_rfl) (loops_cons (b := bodyOf Go.Proofs.Try.f62 4) (by kernel_rfl) (rfl : lm62_62 n 4 = [L62_62_4 n]) (List.forall_mem_cons.2 ⟨fun K self v => lp62_62_4 n K self v, fun _ h => by cases h⟩) loops_nil)) lms_nil)
  envOk_of (cf := cf62 n) tabOk hc he (draw := drawK (cf62 n)) (fun _ => drawK_ok tabOk mixed hc he) (d := 3) (lms := lms2 (lsl62 n)) hl
    (fun τs rs h => by
      simp only [M62] at h
      split at h
      · exact (ev62 n _ _).trans h
      · cases h)
/-! ### 25: impl.SamePaths -/
def sg25 : Sig := ⟨[(true, [.slice 90, .int .i64]), (true, [.slice 90, .int .i64])], [.leaf .bool false]⟩
def F25 (n : Nat) (x0 x1 x2 x3 : T) : Option (List T) :=
  bif (x1.I == x3.I) then ((F62 n x0 x2).bind fun r1 => some [(r1.headD (.i 0))]) else (some [.b false])
def M25 (n : Nat) (τs : List T) : Option (List T) := match τs with
  | [x0, x1, x2, x3] => F25 n x0 x1 x2 x3
  | _ => none
noncomputable def code25 : List (Nat × Func) := [(25, Go.Proofs.Try.f25)]
def env25 : List (Nat × (Sig × Mean)) := [(62, sg62, ⟨M62⟩)]
def ann25 (f i : Nat) : Ann := match f, i with
  | _, _ => ⟨[], [], []⟩
def lsl25 (n : Nat) : List ((Nat × Nat) × (Nat → List LoopM)) := []
noncomputable def cf25 (n : Nat) : Cfg := ⟨tiOf tab, lookup code25, lookup env25, ann25, n⟩
theorem ev25 (n : Nat) (x0 x1 x2 x3 : T) : evF (cf25 n) (drawK (cf25 n)) (lms2 (lsl25 n)) 3 25 sg25 [x0, x1, x2, x3] = F25 n x0 x1 x2 x3 := by kernel_rfl
theorem eo25 (n : Nat) : EnvOk Go.Proofs.Try.prog (tiOf tab) n 25 sg25 ⟨M25⟩ :=
  have hc : CodeOk Go.Proofs.Try.prog (cf25 n) := (code_cons Go.Proofs.Try.func25 (by kernel_rfl) code_nil)
  have he : EnvsOk Go.Proofs.Try.prog (cf25 n) := (env_cons (eo62 n) env_nil)
  have hl : LmsOk (R := List T) (cf25 n) (drawK (cf25 n)) (lms2 (lsl25 n)) (lsl25 n) := lms_nil
  envOk_of (cf := cf25 n) tabOk hc he (draw := drawK (cf25 n)) (fun _ => drawK_ok tabOk mixed hc he) (d := 3) (lms := lms2 (lsl25 n)) hl
    (fun τs rs h => by
      simp only [M25] at h
      split at h
      · exact (ev25 n _ _ _ _).trans h
      · cases h)
/-! ### 88: laws.eqPath -/
def sg88 : Sig := ⟨[(true, [.int .i64, .int .i64, .int .i64, .bool]), (true, [.int .i64, .int .i64, .int .i64, .bool])], [.leaf .bool false]⟩
def F88 (n : Nat) (x0 x1 x2 x3 x4 x5 x6 x7 : T) : Option (List T) :=
  bif (x0.I != x4.I) then (some [.b false]) else (bif (x1.I != x5.I) then (some [.b false]) else (bif (x2.I != x6.I) then (some [.b false]) else (bif (!(x3.B == x7.B)) then (some [.b false]) else (some [.b true]))))
def M88 (n : Nat) (τs : List T) : Option (List T) := match τs with
  | [x0, x1, x2, x3, x4, x5, x6, x7] => F88 n x0 x1 x2 x3 x4 x5 x6 x7
  | _ => none
noncomputable def code88 : List (Nat × Func) := [(88, Go.Proofs.Try.f88)]
def env88 : List (Nat × (Sig × Mean)) := []
def ann88 (f i : Nat) : Ann := match f, i with
  | _, _ => ⟨[], [], []⟩
def lsl88 (n : Nat) : List ((Nat × Nat) × (Nat → List LoopM)) := []
noncomputable def cf88 (n : Nat) : Cfg := ⟨tiOf tab, lookup code88, lookup env88, ann88, n⟩
theorem ev88 (n : Nat) (x0 x1 x2 x3 x4 x5 x6 x7 : T) : evF (cf88 n) (drawK (cf88 n)) (lms2 (lsl88 n)) 3 88 sg88 [x0, x1, x2, x3, x4, x5, x6, x7] = F88 n x0 x1 x2 x3 x4 x5 x6 x7 := by kernel_rfl
theorem eo88 (n : Nat) : EnvOk Go.Proofs.Try.prog (tiOf tab) n 88 sg88 ⟨M88⟩ :=
  have hc : CodeOk Go.Proofs.Try.prog (cf88 n) := (code_cons Go.Proofs.Try.func88 (by kernel_rfl) code_nil)
  have he : EnvsOk Go.Proofs.Try.prog (cf88 n) := env_nil
  have hl : LmsOk (R := List T) (cf88 n) (drawK (cf88 n)) (lms2 (lsl88 n)) (lsl88 n) := lms_nil
  envOk_of (cf := cf88 n) tabOk hc he (draw := drawK (cf88 n)) (fun _ => drawK_ok tabOk mixed hc he) (d := 3) (lms := lms2 (lsl88 n)) hl
    (fun τs rs h => by
      simp only [M88] at h
      split at h
      · exact (ev88 n _ _ _ _ _ _ _ _).trans h
      · cases h)
/-! ### 63: laws.eqPathS -/
def sg63 : Sig := ⟨[(false, [.slice 90]), (false, [.slice 90])], [.leaf .bool false]⟩
def G63_63_4 {R : Type} (n : Nat) (v : List T) (self : List T → Option R) (ex : List (List T → Option R)) : Option R :=
  bif (decide ((v.getD 2 (.i 0)).I < ((((v.getD 0 (.i 0)).L).length : Nat) : Int))) then (if 0 ≤ (v.getD 2 (.i 0)).I ∧ (v.getD 2 (.i 0)).I < (((v.getD 0 (.i 0)).L).length : Int) then (if 0 ≤ (v.getD 2 (.i 0)).I ∧ (v.getD 2 (.i 0)).I < (((v.getD 1 (.i 0)).L).length : Int) then ((F88 n ((at_ ((v.getD 0 (.i 0)).L) ((v.getD 2 (.i 0)).I)).F 0) ((at_ ((v.getD 0 (.i 0)).L) ((v.getD 2 (.i 0)).I)).F 1) ((at_ ((v.getD 0 (.i 0)).L) ((v.getD 2 (.i 0)).I)).F 2) ((at_ ((v.getD 0 (.i 0)).L) ((v.getD 2 (.i 0)).I)).F 3) ((at_ ((v.getD 1 (.i 0)).L) ((v.getD 2 (.i 0)).I)).F 0) ((at_ ((v.getD 1 (.i 0)).L) ((v.getD 2 (.i 0)).I)).F 1) ((at_ ((v.getD 1 (.i 0)).L) ((v.getD 2 (.i 0)).I)).F 2) ((at_ ((v.getD 1 (.i 0)).L) ((v.getD 2 (.i 0)).I)).F 3)).bind fun r1 => bif (!(r1.headD (.i 0)).B) then (exn ex 0 [.b false]) else (self [.l ((v.getD 0 (.i 0)).L), .l ((v.getD 1 (.i 0)).L), .i (IntKind.wrap .i64 ((v.getD 2 (.i 0)).I + 1))])) else none) else none) else (exn ex 1 [])
def L63_63_4 (n : Nat) : LoopM := ⟨⟨[[.t (.slice 90) (.i 0), .t (.slice 90) (.i 0), .un, .un, .un, .t (.int .i64) (.i 0), .un, .un, .un, .un, .un, .un, .un, .un, .un, .un, .un, .un, .un, .un, .un, .un, .un, .un, .un, .un, .un]], []⟩, [(.ret, ⟨[[.un, .un, .un, .un, .t .bool (.i 0), .un, .un, .un, .un, .un, .un, .un, .un, .un, .un, .un, .un, .un, .un, .un, .un, .un, .un, .un, .un, .un, .un]], []⟩), (.exit 0, ⟨[[.un, .un, .un, .un, .un, .un, .un, .un, .un, .un, .un, .un, .un, .un, .un, .un, .un, .un, .un, .un, .un, .un, .un, .un, .un, .un, .un]], []⟩)], fun v self ex => G63_63_4 n v self ex⟩
def F63 (n : Nat) (x0 x1 : T) : Option (List T) :=
  bif ((x0.L.length : Int) != (x1.L.length : Int)) then (some [.b false]) else (loopR (L63_63_4 n).G n [.l x0.L, .l x1.L, .i 0] [fun u2 => some [.b ((u2.getD 0 (.i 0)).B)], fun u3 => some [.b true]])
def M63 (n : Nat) (τs : List T) : Option (List T) := match τs with
  | [x0, x1] => F63 n x0 x1
  | _ => none
noncomputable def code63 : List (Nat × Func) := [(63, Go.Proofs.Try.f63)]
def env63 : List (Nat × (Sig × Mean)) := [(88, sg88, ⟨M88⟩)]
def ann63 (f i : Nat) : Ann := match f, i with
  | 63, 4 => ⟨[(0, .any), (1, .any), (5, .any)], [], [(4, .any)]⟩
  | _, _ => ⟨[], [], []⟩
def lm63_63 (n : Nat) (i : Nat) : List LoopM := match i with
  | 4 => [L63_63_4 n]
  | _ => []
def lsl63 (n : Nat) : List ((Nat × Nat) × (Nat → List LoopM)) := [((3, 63), lm63_63 n)]
noncomputable def cf63 (n : Nat) : Cfg := ⟨tiOf tab, lookup code63, lookup env63, ann63, n⟩
theorem ev63 (n : Nat) (x0 x1 : T) : evF (cf63 n) (drawK (cf63 n)) (lms2 (lsl63 n)) 3 63 sg63 [x0, x1] = F63 n x0 x1 := by kernel_rfl
theorem lp63_63_4 (n : Nat) (K : Ex → St → Option (List T)) (self : List T → Option (List T)) (v : List T) : evC (cf63 n) (callK (cf63 n) (drawK (cf63 n)) (lms2 (lsl63 n)) 3) (drawK (cf63 n) (callK (cf63 n) (drawK (cf63 n)) (lms2 (lsl63 n)) 3)) (ann63 63) (lm63_63 n) (bodyOf Go.Proofs.Try.f63 4) ((L63_63_4 n).sk.fill v) (roundK (ann63 63 4) K (selfK (L63_63_4 n) self)) = (L63_63_4 n).G v self (exitK (L63_63_4 n) K) := by kernel_rfl
theorem eo63 (n : Nat) : EnvOk Go.Proofs.Try.prog (tiOf tab) n 63 sg63 ⟨M63⟩ :=
  have hc : CodeOk Go.Proofs.Try.prog (cf63 n) := (code_cons Go.Proofs.Try.func63 (by kernel_rfl) code_nil)
  have he : EnvsOk Go.Proofs.Try.prog (cf63 n) := (env_cons (eo88 n) env_nil)
  have hl : LmsOk (R := List T) (cf63 n) (drawK (cf63 n)) (lms2 (lsl63 n)) (lsl63 n) := (lms_cons (loops_of (cf := cf63 n) (fn0 := Go.Proofs.Try.f63) rfl (l := [bodyOf Go.Proofs.Try.f63 4]) (by kernel_rfl) (loops_cons (b := bodyOf Go.Proofs.Try.f63 4) (by kernel_rfl) (rfl : lm63_63 n 4 = [L63_63_4 n]) (List.forall_mem_cons.2 ⟨fun K self v => lp63_63_4 n K self v, fun _ h => by cases h⟩) loops_nil)) lms_nil)
  envOk_of (cf := cf63 n) tabOk hc he (draw := drawK (cf63 n)) (fun _ => drawK_ok tabOk mixed hc he) (d := 3) (lms := lms2 (lsl63 n)) hl
    (fun τs rs h => by
      simp only [M63] at h
      split at h
      · exact (ev63 n _ _).trans h
      · cases h)
/-! ### 26: laws.eqPaths -/
def sg26 : Sig := ⟨[(true, [.slice 90, .int .i64]), (true, [.slice 90, .int .i64])], [.leaf .bool false]⟩
def F26 (n : Nat) (x0 x1 x2 x3 : T) : Option (List T) :=
  (F63 n x0 x2).bind fun r1 => bif (!(r1.headD (.i 0)).B) then (some [.b false]) else (bif (x1.I != x3.I) then (some [.b false]) else (some [.b true]))
def M26 (n : Nat) (τs : List T) : Option (List T) := match τs with
  | [x0, x1, x2, x3] => F26 n x0 x1 x2 x3
  | _ => none
noncomputable def code26 : List (Nat × Func) := [(26, Go.Proofs.Try.f26)]
def env26 : List (Nat × (Sig × Mean)) := [(63, sg63, ⟨M63⟩)]
def ann26 (f i : Nat) : Ann := match f, i with
  | _, _ => ⟨[], [], []⟩
def lsl26 (n : Nat) : List ((Nat × Nat) × (Nat → List LoopM)) := []
noncomputable def cf26 (n : Nat) : Cfg := ⟨tiOf tab, lookup code26, lookup env26, ann26, n⟩
theorem ev26 (n : Nat) (x0 x1 x2 x3 : T) : evF (cf26 n) (drawK (cf26 n)) (lms2 (lsl26 n)) 3 26 sg26 [x0, x1, x2, x3] = F26 n x0 x1 x2 x3 := by kernel_rfl
theorem eo26 (n : Nat) : EnvOk Go.Proofs.Try.prog (tiOf tab) n 26 sg26 ⟨M26⟩ :=
  have hc : CodeOk Go.Proofs.Try.prog (cf26 n) := (code_cons Go.Proofs.Try.func26 (by kernel_rfl) code_nil)
  have he : EnvsOk Go.Proofs.Try.prog (cf26 n) := (env_cons (eo63 n) env_nil)
  have hl : LmsOk (R := List T) (cf26 n) (drawK (cf26 n)) (lms2 (lsl26 n)) (lsl26 n) := lms_nil
  envOk_of (cf := cf26 n) tabOk hc he (draw := drawK (cf26 n)) (fun _ => drawK_ok tabOk mixed hc he) (d := 3) (lms := lms2 (lsl26 n)) hl
    (fun τs rs h => by
      simp only [M26] at h
      split at h
      · exact (ev26 n _ _ _ _).trans h
      · cases h)
/-! ### 5: laws.FnExactSamePaths -/
def sg5 : Sig := ⟨[(true, [.slice 117, .int .i64]), (true, [.slice 117, .int .i64])], [.leaf .bool false]⟩
def F5 (n : Nat) (x0 x1 x2 x3 : T) : Option (List T) :=
  (F22 n x0 x1 (.i 1048576)).bind fun r1 => bif (decide ((r1.headD (.i 0)).I < 0)) then (some [.b true]) else ((F22 n x2 x3 (r1.headD (.i 0))).bind fun r2 => bif (decide ((r2.headD (.i 0)).I < 0)) then (some [.b true]) else ((F24 n x0 x1).bind fun r3 => (F24 n x2 x3).bind fun r4 => (F23 n (r3.headD (.i 0)) (r3.tail.headD (.i 0)) (r4.headD (.i 0)) (r4.tail.headD (.i 0))).bind fun r5 => (F24 n x0 x1).bind fun r6 => (F24 n x2 x3).bind fun r7 => (F25 n (r6.headD (.i 0)) (r6.tail.headD (.i 0)) (r7.headD (.i 0)) (r7.tail.headD (.i 0))).bind fun r8 => bif (!((r8.headD (.i 0)).B == (r5.headD (.i 0)).B)) then (some [.b false]) else ((F24 n x0 x1).bind fun r9 => (F26 n (r6.headD (.i 0)) (r6.tail.headD (.i 0)) (r9.headD (.i 0)) (r9.tail.headD (.i 0))).bind fun r10 => bif (!(r10.headD (.i 0)).B) then (some [.b false]) else ((F24 n x2 x3).bind fun r11 => (F26 n (r7.headD (.i 0)) (r7.tail.headD (.i 0)) (r11.headD (.i 0)) (r11.tail.headD (.i 0))).bind fun r12 => bif (!(r12.headD (.i 0)).B) then (some [.b false]) else (some [.b true])))))
def M5 (n : Nat) (τs : List T) : Option (List T) := match τs with
  | [x0, x1, x2, x3] => F5 n x0 x1 x2 x3
  | _ => none
noncomputable def code5 : List (Nat × Func) := [(5, Go.Proofs.Try.f5)]
def env5 : List (Nat × (Sig × Mean)) := [(22, sg22, ⟨M22⟩), (23, sg23, ⟨M23⟩), (24, sg24, ⟨M24⟩), (25, sg25, ⟨M25⟩), (26, sg26, ⟨M26⟩)]
def ann5 (f i : Nat) : Ann := match f, i with
  | _, _ => ⟨[], [], []⟩
def lsl5 (n : Nat) : List ((Nat × Nat) × (Nat → List LoopM)) := []
noncomputable def cf5 (n : Nat) : Cfg := ⟨tiOf tab, lookup code5, lookup env5, ann5, n⟩
theorem ev5 (n : Nat) (x0 x1 x2 x3 : T) : evF (cf5 n) (drawK (cf5 n)) (lms2 (lsl5 n)) 3 5 sg5 [x0, x1, x2, x3] = F5 n x0 x1 x2 x3 := by kernel_rfl
theorem eo5 (n : Nat) : EnvOk Go.Proofs.Try.prog (tiOf tab) n 5 sg5 ⟨M5⟩ :=
  have hc : CodeOk Go.Proofs.Try.prog (cf5 n) := (code_cons Go.Proofs.Try.func5 (by kernel_rfl) code_nil)
  have he : EnvsOk Go.Proofs.Try.prog (cf5 n) := (env_cons (eo22 n) (env_cons (eo23 n) (env_cons (eo24 n) (env_cons (eo25 n) (env_cons (eo26 n) env_nil)))))
  have hl : LmsOk (R := List T) (cf5 n) (drawK (cf5 n)) (lms2 (lsl5 n)) (lsl5 n) := lms_nil
  envOk_of (cf := cf5 n) tabOk hc he (draw := drawK (cf5 n)) (fun _ => drawK_ok tabOk mixed hc he) (d := 3) (lms := lms2 (lsl5 n)) hl
    (fun τs rs h => by
      simp only [M5] at h
      split at h
      · exact (ev5 n _ _ _ _).trans h
      · cases h)
end Go.KX.Sa
