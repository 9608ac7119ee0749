import Derived.Test.YtpkeanlcmjbgnaaProg
import Derived.KernelRfl
import Derived.Test.YtpkeanlcmjbgnaaKxC
namespace Go.KX.Sa
open Go
set_option linter.unusedVariables false
def tab : List (Nat × TyI) := [
  (2, ⟨true, false, [.int .i64], 8, .leaf, false⟩),
  (3, ⟨true, false, [.int .i64], 8, .leaf, false⟩),
  (4, ⟨true, false, [.bool], 1, .leaf, false⟩),
  (40, ⟨true, false, [.slice 117], 24, .slice 117, false⟩),
  (42, ⟨true, true, [.slice 117, .int .i64], 32, .struct [(40, 0), (2, 1)], false⟩),
  (45, ⟨true, false, [.slice 90], 24, .slice 90, false⟩),
  (47, ⟨true, true, [.slice 90, .int .i64], 32, .struct [(45, 0), (2, 1)], false⟩),
  (77, ⟨true, true, [.int .i64, .int .i64], 16, .struct [(2, 0), (2, 1)], true⟩),
  (90, ⟨true, true, [.int .i64, .int .i64, .int .i64, .bool], 32, .struct [(2, 0), (2, 1), (2, 2), (4, 3)], true⟩),
  (117, ⟨true, true, [.int .i64, .int .i64, .int .i64, .bool], 32, .struct [(2, 0), (2, 1), (2, 2), (4, 3)], true⟩)]
theorem tabOk : TabOk Go.Proofs.Try.prog (tiOf tab) := tab_ok (by kernel_rfl)
theorem mixed : Go.Proofs.Try.prog.follows .mixedOrders = true := by kernel_rfl
/-! ### 60: laws.szPathS -/
def sg60 : Sig := ⟨[(false, [.slice 117]), (false, [.int .i64])], [.leaf (.int .i64) false]⟩
def F60 (n : Nat) (x0 x1 : T) : Option (List T) :=
  bif (decide ((IntKind.wrap .i64 (x1.I - (x0.L.length : Int))) < 0)) then (some [.i (-1)]) else (some [.i (IntKind.wrap .i64 (x1.I - (x0.L.length : Int)))])
def M60 (n : Nat) (τs : List T) : Option (List T) := match τs with
  | [x0, x1] => F60 n x0 x1
  | _ => none
noncomputable def code60 : List (Nat × Func) := [(60, Go.Proofs.Try.f60)]
def env60 : List (Nat × (Sig × Mean)) := []
def ann60 (f i : Nat) : Ann := match f, i with
  | _, _ => ⟨[], [], []⟩
def lsl60 (n : Nat) : List ((Nat × Nat) × (Nat → List LoopM)) := []
noncomputable def cf60 (n : Nat) : Cfg := ⟨tiOf tab, lookup code60, lookup env60, ann60, n⟩
theorem ev60 (n : Nat) (x0 x1 : T) : evF (cf60 n) (drawK (cf60 n)) (lms2 (lsl60 n)) 3 60 sg60 [x0, x1] = F60 n x0 x1 := by kernel_rfl
theorem eo60 (n : Nat) : EnvOk Go.Proofs.Try.prog (tiOf tab) n 60 sg60 ⟨M60⟩ :=
  have hc : CodeOk Go.Proofs.Try.prog (cf60 n) := (code_cons Go.Proofs.Try.func60 (by kernel_rfl) code_nil)
  have he : EnvsOk Go.Proofs.Try.prog (cf60 n) := env_nil
  have hl : LmsOk (R := List T) (cf60 n) (drawK (cf60 n)) (lms2 (lsl60 n)) (lsl60 n) := lms_nil
  envOk_of (cf := cf60 n) tabOk hc he (draw := drawK (cf60 n)) (fun _ => drawK_ok tabOk mixed hc he) (d := 3) (lms := lms2 (lsl60 n)) hl
    (fun τs rs h => by
      simp only [M60] at h
      split at h
      · exact (ev60 n _ _).trans h
      · cases h)
/-! ### 22: laws.szPaths -/
def sg22 : Sig := ⟨[(true, [.slice 117, .int .i64]), (false, [.int .i64])], [.leaf (.int .i64) false]⟩
def F22 (n : Nat) (x0 x1 x2 : T) : Option (List T) :=
  (F60 n x0 x2).bind fun r1 => bif (decide ((r1.headD (.i 0)).I < 0)) then (some [.i (-1)]) else (some [(r1.headD (.i 0))])
def M22 (n : Nat) (τs : List T) : Option (List T) := match τs with
  | [x0, x1, x2] => F22 n x0 x1 x2
  | _ => none
noncomputable def code22 : List (Nat × Func) := [(22, Go.Proofs.Try.f22)]
def env22 : List (Nat × (Sig × Mean)) := [(60, sg60, ⟨M60⟩)]
def ann22 (f i : Nat) : Ann := match f, i with
  | _, _ => ⟨[], [], []⟩
def lsl22 (n : Nat) : List ((Nat × Nat) × (Nat → List LoopM)) := []
noncomputable def cf22 (n : Nat) : Cfg := ⟨tiOf tab, lookup code22, lookup env22, ann22, n⟩
theorem ev22 (n : Nat) (x0 x1 x2 : T) : evF (cf22 n) (drawK (cf22 n)) (lms2 (lsl22 n)) 3 22 sg22 [x0, x1, x2] = F22 n x0 x1 x2 := by kernel_rfl
theorem eo22 (n : Nat) : EnvOk Go.Proofs.Try.prog (tiOf tab) n 22 sg22 ⟨M22⟩ :=
  have hc : CodeOk Go.Proofs.Try.prog (cf22 n) := (code_cons Go.Proofs.Try.func22 (by kernel_rfl) code_nil)
  have he : EnvsOk Go.Proofs.Try.prog (cf22 n) := (env_cons (eo60 n) env_nil)
  have hl : LmsOk (R := List T) (cf22 n) (drawK (cf22 n)) (lms2 (lsl22 n)) (lsl22 n) := lms_nil
  envOk_of (cf := cf22 n) tabOk hc he (draw := drawK (cf22 n)) (fun _ => drawK_ok tabOk mixed hc he) (d := 3) (lms := lms2 (lsl22 n)) hl
    (fun τs rs h => by
      simp only [M22] at h
      split at h
      · exact (ev22 n _ _ _).trans h
      · cases h)
/-! ### 87: laws.toPath -/
def sg87 : Sig := ⟨[(true, [.int .i64, .int .i64, .int .i64, .bool])], [.agg [(.int .i64, false), (.int .i64, false), (.int .i64, false), (.bool, false)]]⟩
def F87 (n : Nat) (x0 x1 x2 x3 : T) : Option (List T) :=
  some [x0, x1, x2, x3]
def M87 (n : Nat) (τs : List T) : Option (List T) := match τs with
  | [x0, x1, x2, x3] => F87 n x0 x1 x2 x3
  | _ => none
noncomputable def code87 : List (Nat × Func) := [(87, Go.Proofs.Try.f87)]
def env87 : List (Nat × (Sig × Mean)) := []
def ann87 (f i : Nat) : Ann := match f, i with
  | _, _ => ⟨[], [], []⟩
def lsl87 (n : Nat) : List ((Nat × Nat) × (Nat → List LoopM)) := []
noncomputable def cf87 (n : Nat) : Cfg := ⟨tiOf tab, lookup code87, lookup env87, ann87, n⟩
theorem ev87 (n : Nat) (x0 x1 x2 x3 : T) : evF (cf87 n) (drawK (cf87 n)) (lms2 (lsl87 n)) 3 87 sg87 [x0, x1, x2, x3] = F87 n x0 x1 x2 x3 := by kernel_rfl
theorem eo87 (n : Nat) : EnvOk Go.Proofs.Try.prog (tiOf tab) n 87 sg87 ⟨M87⟩ :=
  have hc : CodeOk Go.Proofs.Try.prog (cf87 n) := (code_cons Go.Proofs.Try.func87 (by kernel_rfl) code_nil)
  have he : EnvsOk Go.Proofs.Try.prog (cf87 n) := env_nil
  have hl : LmsOk (R := List T) (cf87 n) (drawK (cf87 n)) (lms2 (lsl87 n)) (lsl87 n) := lms_nil
  envOk_of (cf := cf87 n) tabOk hc he (draw := drawK (cf87 n)) (fun _ => drawK_ok tabOk mixed hc he) (d := 3) (lms := lms2 (lsl87 n)) hl
    (fun τs rs h => by
      simp only [M87] at h
      split at h
      · exact (ev87 n _ _ _ _).trans h
      · cases h)
/-! ### 61: laws.toPathS -/
def sg61 : Sig := ⟨[(false, [.slice 117])], [.leaf (.slice 90) false]⟩
def G61_61_3 {R : Type} (n : Nat) (v : List T) (self : List T → Option R) (ex : List (List T → Option R)) : Option R :=
  bif (decide ((v.getD 1 (.i 0)).I < ((((v.getD 0 (.i 0)).L).length : Nat) : Int))) then (if 0 ≤ (v.getD 1 (.i 0)).I ∧ (v.getD 1 (.i 0)).I < (((v.getD 0 (.i 0)).L).length : Int) then ((F87 n ((at_ ((v.getD 0 (.i 0)).L) ((v.getD 1 (.i 0)).I)).F 0) ((at_ ((v.getD 0 (.i 0)).L) ((v.getD 1 (.i 0)).I)).F 1) ((at_ ((v.getD 0 (.i 0)).L) ((v.getD 1 (.i 0)).I)).F 2) ((at_ ((v.getD 0 (.i 0)).L) ((v.getD 1 (.i 0)).I)).F 3)).bind fun r1 => if 0 ≤ (v.getD 1 (.i 0)).I ∧ (v.getD 1 (.i 0)).I < (((v.getD 2 (.i 0)).L).length : Int) then (if 90 = 90 ∧ ((v.getD 1 (.i 0)).I).toNat < ((v.getD 2 (.i 0)).L).length then (self [.l ((v.getD 0 (.i 0)).L), .i (IntKind.wrap .i64 ((v.getD 1 (.i 0)).I + 1)), .l (((v.getD 2 (.i 0)).L).set (((v.getD 1 (.i 0)).I).toNat) (.r [(r1.headD (.i 0)), (r1.tail.headD (.i 0)), (r1.tail.tail.headD (.i 0)), (r1.tail.tail.tail.headD (.i 0))]))]) else none) else none) else none) else (exn ex 0 [.l ((v.getD 2 (.i 0)).L)])
def L61_61_3 (n : Nat) : LoopM := ⟨⟨[[.t (.slice 117) (.i 0), .un, .un, .own 90 0, .t (.int .i64) (.i 0), .un, .un, .un, .un, .un, .un, .un, .un, .un, .un, .un, .un, .un, .un, .un, .un, .un, .un]], [.arr 90 []]⟩, [(.exit 0, ⟨[[.un, .un, .un, .own 90 0, .un, .un, .un, .un, .un, .un, .un, .un, .un, .un, .un, .un, .un, .un, .un, .un, .un, .un, .un]], [.arr 90 []]⟩)], fun v self ex => G61_61_3 n v self ex⟩
def F61 (n : Nat) (x0 : T) : Option (List T) :=
  if 0 ≤ (x0.L.length : Int) ∧ (x0.L.length : Int) * 32 ≤ limB ∧ (x0.L.length : Int) < maxN then (loopR (L61_61_3 n).G n [.l x0.L, .i 0, .l (List.replicate ((x0.L.length : Int)).toNat (T.r [.i 0, .i 0, .i 0, .b false]))] [fun u2 => some [.l ((u2.getD 0 (.i 0)).L)]]) else none
def M61 (n : Nat) (τs : List T) : Option (List T) := match τs with
  | [x0] => F61 n x0
  | _ => none
noncomputable def code61 : List (Nat × Func) := [(61, Go.Proofs.Try.f61)]
def env61 : List (Nat × (Sig × Mean)) := [(87, sg87, ⟨M87⟩)]
def ann61 (f i : Nat) : Ann := match f, i with
  | 61, 3 => ⟨[(0, .any), (3, .any), (4, .any)], [], [(3, .any)]⟩
  | _, _ => ⟨[], [], []⟩
def lm61_61 (n : Nat) (i : Nat) : List LoopM := match i with
  | 3 => [L61_61_3 n]
  | _ => []
def lsl61 (n : Nat) : List ((Nat × Nat) × (Nat → List LoopM)) := [((3, 61), lm61_61 n)]
noncomputable def cf61 (n : Nat) : Cfg := ⟨tiOf tab, lookup code61, lookup env61, ann61, n⟩
theorem ev61 (n : Nat) (x0 : T) : evF (cf61 n) (drawK (cf61 n)) (lms2 (lsl61 n)) 3 61 sg61 [x0] = F61 n x0 := by kernel_rfl
theorem lp61_61_3 (n : Nat) (K : Ex → St → Option (List T)) (self : List T → Option (List T)) (v : List T) : evC (cf61 n) (callK (cf61 n) (drawK (cf61 n)) (lms2 (lsl61 n)) 3) (drawK (cf61 n) (callK (cf61 n) (drawK (cf61 n)) (lms2 (lsl61 n)) 3)) (ann61 61) (lm61_61 n) (bodyOf Go.Proofs.Try.f61 3) ((L61_61_3 n).sk.fill v) (roundK (ann61 61 3) K (selfK (L61_61_3 n) self)) = (L61_61_3 n).G v self (exitK (L61_61_3 n) K) := by kernel_rfl
theorem eo61 (n : Nat) : EnvOk Go.Proofs.Try.prog (tiOf tab) n 61 sg61 ⟨M61⟩ :=
  have hc : CodeOk Go.Proofs.Try.prog (cf61 n) := (code_cons Go.Proofs.Try.func61 (by kernel_rfl) code_nil)
  have he : EnvsOk Go.Proofs.Try.prog (cf61 n) := (env_cons (eo87 n) env_nil)
  have hl : LmsOk (R := List T) (cf61 n) (drawK (cf61 n)) (lms2 (lsl61 n)) (lsl61 n) := (lms_cons (loops_of (cf := cf61 n) (fn0 := Go.Proofs.Try.f61) rfl (l := [bodyOf Go.Proofs.Try.f61 3]) (by kernel_rfl) (loops_cons (b := bodyOf Go.Proofs.Try.f61 3) (by kernel_rfl) (rfl : lm61_61 n 3 = [L61_61_3 n]) (List.forall_mem_cons.2 ⟨fun K self v => lp61_61_3 n K self v, fun _ h => by cases h⟩) loops_nil)) lms_nil)
  envOk_of (cf := cf61 n) tabOk hc he (draw := drawK (cf61 n)) (fun _ => drawK_ok tabOk mixed hc he) (d := 3) (lms := lms2 (lsl61 n)) hl
    (fun τs rs h => by
      simp only [M61] at h
      split at h
      · exact (ev61 n _).trans h
      · cases h)
/-! ### 24: laws.toPaths -/
def sg24 : Sig := ⟨[(true, [.slice 117, .int .i64])], [.agg [(.slice 90, false), (.int .i64, false)]]⟩
def F24 (n : Nat) (x0 x1 : T) : Option (List T) :=
  (F61 n x0).bind fun r1 => some [(r1.headD (.i 0)), x1]
def M24 (n : Nat) (τs : List T) : Option (List T) := match τs with
  | [x0, x1] => F24 n x0 x1
  | _ => none
noncomputable def code24 : List (Nat × Func) := [(24, Go.Proofs.Try.f24)]
def env24 : List (Nat × (Sig × Mean)) := [(61, sg61, ⟨M61⟩)]
def ann24 (f i : Nat) : Ann := match f, i with
  | _, _ => ⟨[], [], []⟩
def lsl24 (n : Nat) : List ((Nat × Nat) × (Nat → List LoopM)) := []
noncomputable def cf24 (n : Nat) : Cfg := ⟨tiOf tab, lookup code24, lookup env24, ann24, n⟩
theorem ev24 (n : Nat) (x0 x1 : T) : evF (cf24 n) (drawK (cf24 n)) (lms2 (lsl24 n)) 3 24 sg24 [x0, x1] = F24 n x0 x1 := by kernel_rfl
theorem eo24 (n : Nat) : EnvOk Go.Proofs.Try.prog (tiOf tab) n 24 sg24 ⟨M24⟩ :=
  have hc : CodeOk Go.Proofs.Try.prog (cf24 n) := (code_cons Go.Proofs.Try.func24 (by kernel_rfl) code_nil)
  have he : EnvsOk Go.Proofs.Try.prog (cf24 n) := (env_cons (eo61 n) env_nil)
  have hl : LmsOk (R := List T) (cf24 n) (drawK (cf24 n)) (lms2 (lsl24 n)) (lsl24 n) := lms_nil
  envOk_of (cf := cf24 n) tabOk hc he (draw := drawK (cf24 n)) (fun _ => drawK_ok tabOk mixed hc he) (d := 3) (lms := lms2 (lsl24 n)) hl
    (fun τs rs h => by
      simp only [M24] at h
      split at h
      · exact (ev24 n _ _).trans h
      · cases h)
/-! ### 88: laws.eqPath -/
def sg88 : Sig := ⟨[(true, [.int .i64, .int .i64, .int .i64, .bool]), (true, [.int .i64, .int .i64, .int .i64, .bool])], [.leaf .bool false]⟩
def F88 (n : Nat) (x0 x1 x2 x3 x4 x5 x6 x7 : T) : Option (List T) :=
  bif (x0.I != x4.I) then (some [.b false]) else (bif (x1.I != x5.I) then (some [.b false]) else (bif (x2.I != x6.I) then (some [.b false]) else (bif (!(x3.B == x7.B)) then (some [.b false]) else (some [.b true]))))
def M88 (n : Nat) (τs : List T) : Option (List T) := match τs with
  | [x0, x1, x2, x3, x4, x5, x6, x7] => F88 n x0 x1 x2 x3 x4 x5 x6 x7
  | _ => none
noncomputable def code88 : List (Nat × Func) := [(88, Go.Proofs.Try.f88)]
def env88 : List (Nat × (Sig × Mean)) := []
def ann88 (f i : Nat) : Ann := match f, i with
  | _, _ => ⟨[], [], []⟩
def lsl88 (n : Nat) : List ((Nat × Nat) × (Nat → List LoopM)) := []
noncomputable def cf88 (n : Nat) : Cfg := ⟨tiOf tab, lookup code88, lookup env88, ann88, n⟩
theorem ev88 (n : Nat) (x0 x1 x2 x3 x4 x5 x6 x7 : T) : evF (cf88 n) (drawK (cf88 n)) (lms2 (lsl88 n)) 3 88 sg88 [x0, x1, x2, x3, x4, x5, x6, x7] = F88 n x0 x1 x2 x3 x4 x5 x6 x7 := by kernel_rfl
theorem eo88 (n : Nat) : EnvOk Go.Proofs.Try.prog (tiOf tab) n 88 sg88 ⟨M88⟩ :=
  have hc : CodeOk Go.Proofs.Try.prog (cf88 n) := (code_cons Go.Proofs.Try.func88 (by kernel_rfl) code_nil)
  have he : EnvsOk Go.Proofs.Try.prog (cf88 n) := env_nil
  have hl : LmsOk (R := List T) (cf88 n) (drawK (cf88 n)) (lms2 (lsl88 n)) (lsl88 n) := lms_nil
  envOk_of (cf := cf88 n) tabOk hc he (draw := drawK (cf88 n)) (fun _ => drawK_ok tabOk mixed hc he) (d := 3) (lms := lms2 (lsl88 n)) hl
    (fun τs rs h => by
      simp only [M88] at h
      split at h
      · exact (ev88 n _ _ _ _ _ _ _ _).trans h
      · cases h)
/-! ### 63: laws.eqPathS -/
def sg63 : Sig := ⟨[(false, [.slice 90]), (false, [.slice 90])], [.leaf .bool false]⟩
def G63_63_4 {R : Type} (n : Nat) (v : List T) (self : List T → Option R) (ex : List (List T → Option R)) : Option R :=
  bif (decide ((v.getD 2 (.i 0)).I < ((((v.getD 0 (.i 0)).L).length : Nat) : Int))) then (if 0 ≤ (v.getD 2 (.i 0)).I ∧ (v.getD 2 (.i 0)).I < (((v.getD 0 (.i 0)).L).length : Int) then (if 0 ≤ (v.getD 2 (.i 0)).I ∧ (v.getD 2 (.i 0)).I < (((v.getD 1 (.i 0)).L).length : Int) then ((F88 n ((at_ ((v.getD 0 (.i 0)).L) ((v.getD 2 (.i 0)).I)).F 0) ((at_ ((v.getD 0 (.i 0)).L) ((v.getD 2 (.i 0)).I)).F 1) ((at_ ((v.getD 0 (.i 0)).L) ((v.getD 2 (.i 0)).I)).F 2) ((at_ ((v.getD 0 (.i 0)).L) ((v.getD 2 (.i 0)).I)).F 3) ((at_ ((v.getD 1 (.i 0)).L) ((v.getD 2 (.i 0)).I)).F 0) ((at_ ((v.getD 1 (.i 0)).L) ((v.getD 2 (.i 0)).I)).F 1) ((at_ ((v.getD 1 (.i 0)).L) ((v.getD 2 (.i 0)).I)).F 2) ((at_ ((v.getD 1 (.i 0)).L) ((v.getD 2 (.i 0)).I)).F 3)).bind fun r1 => bif (!(r1.headD (.i 0)).B) then (exn ex 0 [.b false]) else (self [.l ((v.getD 0 (.i 0)).L), .l ((v.getD 1 (.i 0)).L), .i (IntKind.wrap .i64 ((v.getD 2 (.i 0)).I + 1))])) else none) else none) else (exn ex 1 [])
def L63_63_4 (n : Nat) : LoopM := ⟨⟨[[.t (.slice 90) (.i 0), .t (.slice 90) (.i 0), .un, .un, .un, .t (.int .i64) (.i 0), .un, .un, .un, .un, .un, .un, .un, .un, .un, .un, .un, .un, .un, .un, .un, .un, .un, .un, .un, .un, .un]], []⟩, [(.ret, ⟨[[.un, .un, .un, .un, .t .bool (.i 0), .un, .un, .un, .un, .un, .un, .un, .un, .un, .un, .un, .un, .un, .un, .un, .un, .un, .un, .un, .un, .un, .un]], []⟩), (.exit 0, ⟨[[.un, .un, .un, .un, .un, .un, .un, .un, .un, .un, .un, .un, .un, .un, .un, .un, .un, .un, .un, .un, .un, .un, .un, .un, .un, .un, .un]], []⟩)], fun v self ex => G63_63_4 n v self ex⟩
def F63 (n : Nat) (x0 x1 : T) : Option (List T) :=
  bif ((x0.L.length : Int) != (x1.L.length : Int)) then (some [.b false]) else (loopR (L63_63_4 n).G n [.l x0.L, .l x1.L, .i 0] [fun u2 => some [.b ((u2.getD 0 (.i 0)).B)], fun u3 => some [.b true]])
def M63 (n : Nat) (τs : List T) : Option (List T) := match τs with
  | [x0, x1] => F63 n x0 x1
  | _ => none
noncomputable def code63 : List (Nat × Func) := [(63, Go.Proofs.Try.f63)]
def env63 : List (Nat × (Sig × Mean)) := [(88, sg88, ⟨M88⟩)]
def ann63 (f i : Nat) : Ann := match f, i with
  | 63, 4 => ⟨[(0, .any), (1, .any), (5, .any)], [], [(4, .any)]⟩
  | _, _ => ⟨[], [], []⟩
def lm63_63 (n : Nat) (i : Nat) : List LoopM := match i with
  | 4 => [L63_63_4 n]
  | _ => []
def lsl63 (n : Nat) : List ((Nat × Nat) × (Nat → List LoopM)) := [((3, 63), lm63_63 n)]
noncomputable def cf63 (n : Nat) : Cfg := ⟨tiOf tab, lookup code63, lookup env63, ann63, n⟩
theorem ev63 (n : Nat) (x0 x1 : T) : evF (cf63 n) (drawK (cf63 n)) (lms2 (lsl63 n)) 3 63 sg63 [x0, x1] = F63 n x0 x1 := by kernel_rfl
theorem lp63_63_4 (n : Nat) (K : Ex → St → Option (List T)) (self : List T → Option (List T)) (v : List T) : evC (cf63 n) (callK (cf63 n) (drawK (cf63 n)) (lms2 (lsl63 n)) 3) (drawK (cf63 n) (callK (cf63 n) (drawK (cf63 n)) (lms2 (lsl63 n)) 3)) (ann63 63) (lm63_63 n) (bodyOf Go.Proofs.Try.f63 4) ((L63_63_4 n).sk.fill v) (roundK (ann63 63 4) K (selfK (L63_63_4 n) self)) = (L63_63_4 n).G v self (exitK (L63_63_4 n) K) := by kernel_rfl
theorem eo63 (n : Nat) : EnvOk Go.Proofs.Try.prog (tiOf tab) n 63 sg63 ⟨M63⟩ :=
  have hc : CodeOk Go.Proofs.Try.prog (cf63 n) := (code_cons Go.Proofs.Try.func63 (by kernel_rfl) code_nil)
  have he : EnvsOk Go.Proofs.Try.prog (cf63 n) := (env_cons (eo88 n) env_nil)
  have hl : LmsOk (R := List T) (cf63 n) (drawK (cf63 n)) (lms2 (lsl63 n)) (lsl63 n) := (lms_cons (loops_of (cf := cf63 n) (fn0 := Go.Proofs.Try.f63) rfl (l := [bodyOf Go.Proofs.Try.f63 4]) (by kernel_rfl) (loops_cons (b := bodyOf Go.Proofs.Try.f63 4) (by kernel_rfl) (rfl : lm63_63 n 4 = [L63_63_4 n]) (List.forall_mem_cons.2 ⟨fun K self v => lp63_63_4 n K self v, fun _ h => by cases h⟩) loops_nil)) lms_nil)
  envOk_of (cf := cf63 n) tabOk hc he (draw := drawK (cf63 n)) (fun _ => drawK_ok tabOk mixed hc he) (d := 3) (lms := lms2 (lsl63 n)) hl
    (fun τs rs h => by
      simp only [M63] at h
      split at h
      · exact (ev63 n _ _).trans h
      · cases h)
/-! ### 26: laws.eqPaths -/
def sg26 : Sig := ⟨[(true, [.slice 90, .int .i64]), (true, [.slice 90, .int .i64])], [.leaf .bool false]⟩
def F26 (n : Nat) (x0 x1 x2 x3 : T) : Option (List T) :=
  (F63 n x0 x2).bind fun r1 => bif (!(r1.headD (.i 0)).B) then (some [.b false]) else (bif (x1.I != x3.I) then (some [.b false]) else (some [.b true]))
def M26 (n : Nat) (τs : List T) : Option (List T) := match τs with
  | [x0, x1, x2, x3] => F26 n x0 x1 x2 x3
  | _ => none
noncomputable def code26 : List (Nat × Func) := [(26, Go.Proofs.Try.f26)]
def env26 : List (Nat × (Sig × Mean)) := [(63, sg63, ⟨M63⟩)]
def ann26 (f i : Nat) : Ann := match f, i with
  | _, _ => ⟨[], [], []⟩
def lsl26 (n : Nat) : List ((Nat × Nat) × (Nat → List LoopM)) := []
noncomputable def cf26 (n : Nat) : Cfg := ⟨tiOf tab, lookup code26, lookup env26, ann26, n⟩
theorem ev26 (n : Nat) (x0 x1 x2 x3 : T) : evF (cf26 n) (drawK (cf26 n)) (lms2 (lsl26 n)) 3 26 sg26 [x0, x1, x2, x3] = F26 n x0 x1 x2 x3 := by kernel_rfl
theorem eo26 (n : Nat) : EnvOk Go.Proofs.Try.prog (tiOf tab) n 26 sg26 ⟨M26⟩ :=
  have hc : CodeOk Go.Proofs.Try.prog (cf26 n) := (code_cons Go.Proofs.Try.func26 (by kernel_rfl) code_nil)
  have he : EnvsOk Go.Proofs.Try.prog (cf26 n) := (env_cons (eo63 n) env_nil)
  have hl : LmsOk (R := List T) (cf26 n) (drawK (cf26 n)) (lms2 (lsl26 n)) (lsl26 n) := lms_nil
  envOk_of (cf := cf26 n) tabOk hc he (draw := drawK (cf26 n)) (fun _ => drawK_ok tabOk mixed hc he) (d := 3) (lms := lms2 (lsl26 n)) hl
    (fun τs rs h => by
      simp only [M26] at h
      split at h
      · exact (ev26 n _ _ _ _).trans h
      · cases h)
/-! ### 50: spec.l1In -/
def sg50 : Sig := ⟨[(false, [.int .i64]), (false, [.int .i64]), (false, [.int .i64])], [.leaf .bool false]⟩
def F50 (n : Nat) (x0 x1 x2 : T) : Option (List T) :=
  bif (decide (x0.I ≥ x1.I)) then (some [.b (decide (x0.I ≤ x2.I))]) else (some [.b false])
def M50 (n : Nat) (τs : List T) : Option (List T) := match τs with
  | [x0, x1, x2] => F50 n x0 x1 x2
  | _ => none
noncomputable def code50 : List (Nat × Func) := [(50, Go.Proofs.Try.f50)]
def env50 : List (Nat × (Sig × Mean)) := []
def ann50 (f i : Nat) : Ann := match f, i with
  | _, _ => ⟨[], [], []⟩
def lsl50 (n : Nat) : List ((Nat × Nat) × (Nat → List LoopM)) := []
noncomputable def cf50 (n : Nat) : Cfg := ⟨tiOf tab, lookup code50, lookup env50, ann50, n⟩
theorem ev50 (n : Nat) (x0 x1 x2 : T) : evF (cf50 n) (drawK (cf50 n)) (lms2 (lsl50 n)) 3 50 sg50 [x0, x1, x2] = F50 n x0 x1 x2 := by kernel_rfl
theorem eo50 (n : Nat) : EnvOk Go.Proofs.Try.prog (tiOf tab) n 50 sg50 ⟨M50⟩ :=
  have hc : CodeOk Go.Proofs.Try.prog (cf50 n) := (code_cons Go.Proofs.Try.func50 (by kernel_rfl) code_nil)
  have he : EnvsOk Go.Proofs.Try.prog (cf50 n) := env_nil
  have hl : LmsOk (R := List T) (cf50 n) (drawK (cf50 n)) (lms2 (lsl50 n)) (lsl50 n) := lms_nil
  envOk_of (cf := cf50 n) tabOk hc he (draw := drawK (cf50 n)) (fun _ => drawK_ok tabOk mixed hc he) (d := 3) (lms := lms2 (lsl50 n)) hl
    (fun τs rs h => by
      simp only [M50] at h
      split at h
      · exact (ev50 n _ _ _).trans h
      · cases h)
/-! ### 72: spec.l5Addr -/
def sg72 : Sig := ⟨[(false, [.int .i64])], [.leaf .bool false]⟩
def F72 (n : Nat) (x0 : T) : Option (List T) :=
  (F50 n x0 (.i 1) (.i 255)).bind fun r1 => some [(r1.headD (.i 0))]
def M72 (n : Nat) (τs : List T) : Option (List T) := match τs with
  | [x0] => F72 n x0
  | _ => none
noncomputable def code72 : List (Nat × Func) := [(72, Go.Proofs.Try.f72)]
def env72 : List (Nat × (Sig × Mean)) := [(50, sg50, ⟨M50⟩)]
def ann72 (f i : Nat) : Ann := match f, i with
  | _, _ => ⟨[], [], []⟩
def lsl72 (n : Nat) : List ((Nat × Nat) × (Nat → List LoopM)) := []
noncomputable def cf72 (n : Nat) : Cfg := ⟨tiOf tab, lookup code72, lookup env72, ann72, n⟩
theorem ev72 (n : Nat) (x0 : T) : evF (cf72 n) (drawK (cf72 n)) (lms2 (lsl72 n)) 3 72 sg72 [x0] = F72 n x0 := by kernel_rfl
theorem eo72 (n : Nat) : EnvOk Go.Proofs.Try.prog (tiOf tab) n 72 sg72 ⟨M72⟩ :=
  have hc : CodeOk Go.Proofs.Try.prog (cf72 n) := (code_cons Go.Proofs.Try.func72 (by kernel_rfl) code_nil)
  have he : EnvsOk Go.Proofs.Try.prog (cf72 n) := (env_cons (eo50 n) env_nil)
  have hl : LmsOk (R := List T) (cf72 n) (drawK (cf72 n)) (lms2 (lsl72 n)) (lsl72 n) := lms_nil
  envOk_of (cf := cf72 n) tabOk hc he (draw := drawK (cf72 n)) (fun _ => drawK_ok tabOk mixed hc he) (d := 3) (lms := lms2 (lsl72 n)) hl
    (fun τs rs h => by
      simp only [M72] at h
      split at h
      · exact (ev72 n _).trans h
      · cases h)
/-! ### 73: spec.l11Find -/
def sg73 : Sig := ⟨[(false, [.box 47]), (false, [.int .i64])], [.leaf (.int .i64) false]⟩
def G73_73_2 {R : Type} (n : Nat) (v : List T) (self : List T → Option R) (ex : List (List T → Option R)) : Option R :=
  bif (decide ((v.getD 2 (.i 0)).I < (((((v.getD 0 (.i 0)).F 0).L).length : Nat) : Int))) then (if 0 ≤ (v.getD 2 (.i 0)).I ∧ (v.getD 2 (.i 0)).I < ((((v.getD 0 (.i 0)).F 0).L).length : Int) then (bif (((at_ (((v.getD 0 (.i 0)).F 0).L) ((v.getD 2 (.i 0)).I)).F 0).I == (v.getD 1 (.i 0)).I) then (exn ex 0 [.i ((v.getD 2 (.i 0)).I)]) else (self [(v.getD 0 (.i 0)), .i ((v.getD 1 (.i 0)).I), .i (IntKind.wrap .i64 ((v.getD 2 (.i 0)).I + 1))])) else none) else (exn ex 1 [])
def L73_73_2 (n : Nat) : LoopM := ⟨⟨[[.pt 47 (.i 0) 0, .t (.int .i64) (.i 0), .un, .un, .un, .t (.int .i64) (.i 0), .un, .un, .un, .un, .un, .un, .un, .un, .un, .un, .un, .un, .un, .un, .un, .un, .un, .un, .un, .un]], []⟩, [(.ret, ⟨[[.un, .un, .un, .un, .t (.int .i64) (.i 0), .un, .un, .un, .un, .un, .un, .un, .un, .un, .un, .un, .un, .un, .un, .un, .un, .un, .un, .un, .un, .un]], []⟩), (.exit 0, ⟨[[.un, .un, .un, .un, .un, .un, .un, .un, .un, .un, .un, .un, .un, .un, .un, .un, .un, .un, .un, .un, .un, .un, .un, .un, .un, .un]], []⟩)], fun v self ex => G73_73_2 n v self ex⟩
def F73 (n : Nat) (x0 x1 : T) : Option (List T) :=
  loopR (L73_73_2 n).G n [x0, .i x1.I, .i 0] [fun u1 => some [.i ((u1.getD 0 (.i 0)).I)], fun u2 => some [.i (-1)]]
def M73 (n : Nat) (τs : List T) : Option (List T) := match τs with
  | [x0, x1] => F73 n x0 x1
  | _ => none
noncomputable def code73 : List (Nat × Func) := [(73, Go.Proofs.Try.f73)]
def env73 : List (Nat × (Sig × Mean)) := []
def ann73 (f i : Nat) : Ann := match f, i with
  | 73, 2 => ⟨[(0, .any), (1, .any), (5, .any)], [], [(4, .any)]⟩
  | _, _ => ⟨[], [], []⟩
def lm73_73 (n : Nat) (i : Nat) : List LoopM := match i with
  | 2 => [L73_73_2 n]
  | _ => []
def lsl73 (n : Nat) : List ((Nat × Nat) × (Nat → List LoopM)) := [((3, 73), lm73_73 n)]
noncomputable def cf73 (n : Nat) : Cfg := ⟨tiOf tab, lookup code73, lookup env73, ann73, n⟩
theorem ev73 (n : Nat) (x0 x1 : T) : evF (cf73 n) (drawK (cf73 n)) (lms2 (lsl73 n)) 3 73 sg73 [x0, x1] = F73 n x0 x1 := by kernel_rfl
theorem lp73_73_2 (n : Nat) (K : Ex → St → Option (List T)) (self : List T → Option (List T)) (v : List T) : evC (cf73 n) (callK (cf73 n) (drawK (cf73 n)) (lms2 (lsl73 n)) 3) (drawK (cf73 n) (callK (cf73 n) (drawK (cf73 n)) (lms2 (lsl73 n)) 3)) (ann73 73) (lm73_73 n) (bodyOf Go.Proofs.Try.f73 2) ((L73_73_2 n).sk.fill v) (roundK (ann73 73 2) K (selfK (L73_73_2 n) self)) = (L73_73_2 n).G v self (exitK (L73_73_2 n) K) := by kernel_rfl
theorem eo73 (n : Nat) : EnvOk Go.Proofs.Try.prog (tiOf tab) n 73 sg73 ⟨M73⟩ :=
  have hc : CodeOk Go.Proofs.Try.prog (cf73 n) := (code_cons Go.Proofs.Try.func73 (by kernel_rfl) code_nil)
  have he : EnvsOk Go.Proofs.Try.prog (cf73 n) := env_nil
  have hl : LmsOk (R := List T) (cf73 n) (drawK (cf73 n)) (lms2 (lsl73 n)) (lsl73 n) := (lms_cons (loops_of (cf := cf73 n) (fn0 := Go.Proofs.Try.f73) rfl (l := [bodyOf Go.Proofs.Try.f73 2]) (by kernel_rfl) (loops_cons (b := bodyOf Go.Proofs.Try.f73 2) (by kernel_rfl) (rfl : lm73_73 n 2 = [L73_73_2 n]) (List.forall_mem_cons.2 ⟨fun K self v => lp73_73_2 n K self v, fun _ h => by cases h⟩) loops_nil)) lms_nil)
  envOk_of (cf := cf73 n) tabOk hc he (draw := drawK (cf73 n)) (fun _ => drawK_ok tabOk mixed hc he) (d := 3) (lms := lms2 (lsl73 n)) hl
    (fun τs rs h => by
      simp only [M73] at h
      split at h
      · exact (ev73 n _ _).trans h
      · cases h)
/-! ### 37: spec.PathsFault -/
def sg37 : Sig := ⟨[(true, [.slice 90, .int .i64])], [.leaf (.int .i64) false]⟩
def G37_37_4 {R : Type} (n : Nat) (v : List T) (self : List T → Option R) (ex : List (List T → Option R)) : Option R :=
  bif (decide ((v.getD 0 (.i 0)).I < ((((v.getD 1 (.i 0)).L).length : Nat) : Int))) then (if 0 ≤ (v.getD 0 (.i 0)).I ∧ (v.getD 0 (.i 0)).I < (((v.getD 1 (.i 0)).L).length : Int) then ((F72 n ((at_ ((v.getD 1 (.i 0)).L) ((v.getD 0 (.i 0)).I)).F 0)).bind fun r1 => bif (!(r1.headD (.i 0)).B) then (exn ex 0 [.i 3, .l ((v.getD 1 (.i 0)).L), .i ((v.getD 2 (.i 0)).I)]) else ((F50 n ((at_ ((v.getD 1 (.i 0)).L) ((v.getD 0 (.i 0)).I)).F 1) (.i 0) (.i 4)).bind fun r2 => bif (!(r2.headD (.i 0)).B) then (exn ex 0 [.i 3, .l ((v.getD 1 (.i 0)).L), .i ((v.getD 2 (.i 0)).I)]) else ((F50 n ((at_ ((v.getD 1 (.i 0)).L) ((v.getD 0 (.i 0)).I)).F 2) (.i 100) (.i 1600)).bind fun r3 => bif (!(r3.headD (.i 0)).B) then (exn ex 0 [.i 3, .l ((v.getD 1 (.i 0)).L), .i ((v.getD 2 (.i 0)).I)]) else ((F73 n (.r [.l ((v.getD 1 (.i 0)).L), .i ((v.getD 2 (.i 0)).I)]) ((at_ ((v.getD 1 (.i 0)).L) ((v.getD 0 (.i 0)).I)).F 0)).bind fun r4 => bif ((r4.headD (.i 0)).I != (v.getD 0 (.i 0)).I) then (exn ex 0 [.i 6, .l ((v.getD 1 (.i 0)).L), .i ((v.getD 2 (.i 0)).I)]) else (bif (!(((at_ ((v.getD 1 (.i 0)).L) ((v.getD 0 (.i 0)).I)).F 3).B == (((at_ ((v.getD 1 (.i 0)).L) ((v.getD 0 (.i 0)).I)).F 1).I == 4))) then (exn ex 0 [.i 8, .l ((v.getD 1 (.i 0)).L), .i ((v.getD 2 (.i 0)).I)]) else (self [.i (IntKind.wrap .i64 ((v.getD 0 (.i 0)).I + 1)), .l ((v.getD 1 (.i 0)).L), .i ((v.getD 2 (.i 0)).I)])))))) else none) else (exn ex 1 [.l ((v.getD 1 (.i 0)).L), .i ((v.getD 2 (.i 0)).I)])
def L37_37_4 (n : Nat) : LoopM := ⟨⟨[[.un, .pb 0 0, .un, .t (.int .i64) (.i 0), .un, .un, .un, .un, .un, .un, .un, .un, .un, .un, .un, .un, .un, .un, .un, .un, .un, .un, .un, .un, .un, .un, .un, .un, .un, .un, .un, .un, .un, .un, .un, .un, .un, .un, .un, .un, .un, .un, .un, .un, .un, .un, .un, .un, .un, .un, .un, .un, .un, .un, .un, .un, .un, .un]], [.box [.t (.slice 90) (.i 0), .t (.int .i64) (.i 0)]]⟩, [(.ret, ⟨[[.un, .pb 0 0, .t (.int .i64) (.i 0), .un, .un, .un, .un, .un, .un, .un, .un, .un, .un, .un, .un, .un, .un, .un, .un, .un, .un, .un, .un, .un, .un, .un, .un, .un, .un, .un, .un, .un, .un, .un, .un, .un, .un, .un, .un, .un, .un, .un, .un, .un, .un, .un, .un, .un, .un, .un, .un, .un, .un, .un, .un, .un, .un, .un]], [.box [.t (.slice 90) (.i 0), .t (.int .i64) (.i 0)]]⟩), (.exit 0, ⟨[[.un, .pb 0 0, .un, .un, .un, .un, .un, .un, .un, .un, .un, .un, .un, .un, .un, .un, .un, .un, .un, .un, .un, .un, .un, .un, .un, .un, .un, .un, .un, .un, .un, .un, .un, .un, .un, .un, .un, .un, .un, .un, .un, .un, .un, .un, .un, .un, .un, .un, .un, .un, .un, .un, .un, .un, .un, .un, .un, .un]], [.box [.t (.slice 90) (.i 0), .t (.int .i64) (.i 0)]]⟩)], fun v self ex => G37_37_4 n v self ex⟩
def F37 (n : Nat) (x0 x1 : T) : Option (List T) :=
  bif (decide ((x0.L.length : Int) < 1)) then (some [.i 2]) else (bif (decide ((x0.L.length : Int) > 5)) then (some [.i 2]) else (loopR (L37_37_4 n).G n [.i 0, .l x0.L, .i x1.I] [fun u5 => some [.i ((u5.getD 0 (.i 0)).I)], fun u6 => (F73 n (.r [.l ((u6.getD 0 (.i 0)).L), .i ((u6.getD 1 (.i 0)).I)]) (.i ((u6.getD 1 (.i 0)).I))).bind fun r7 => bif (decide ((r7.headD (.i 0)).I < 0)) then (some [.i 4]) else (some [.i 0])]))
def M37 (n : Nat) (τs : List T) : Option (List T) := match τs with
  | [x0, x1] => F37 n x0 x1
  | _ => none
noncomputable def code37 : List (Nat × Func) := [(37, Go.Proofs.Try.f37)]
def env37 : List (Nat × (Sig × Mean)) := [(50, sg50, ⟨M50⟩), (72, sg72, ⟨M72⟩), (73, sg73, ⟨M73⟩)]
def ann37 (f i : Nat) : Ann := match f, i with
  | 37, 4 => ⟨[(1, .any), (3, .any)], [], [(1, .any), (2, .any)]⟩
  | _, _ => ⟨[], [], []⟩
def lm37_37 (n : Nat) (i : Nat) : List LoopM := match i with
  | 4 => [L37_37_4 n]
  | _ => []
def lsl37 (n : Nat) : List ((Nat × Nat) × (Nat → List LoopM)) := [((3, 37), lm37_37 n)]
noncomputable def cf37 (n : Nat) : Cfg := ⟨tiOf tab, lookup code37, lookup env37, ann37, n⟩
theorem ev37 (n : Nat) (x0 x1 : T) : evF (cf37 n) (drawK (cf37 n)) (lms2 (lsl37 n)) 3 37 sg37 [x0, x1] = F37 n x0 x1 := by kernel_rfl
theorem lp37_37_4 (n : Nat) (K : Ex → St → Option (List T)) (self : List T → Option (List T)) (v : List T) : evC (cf37 n) (callK (cf37 n) (drawK (cf37 n)) (lms2 (lsl37 n)) 3) (drawK (cf37 n) (callK (cf37 n) (drawK (cf37 n)) (lms2 (lsl37 n)) 3)) (ann37 37) (lm37_37 n) (bodyOf Go.Proofs.Try.f37 4) ((L37_37_4 n).sk.fill v) (roundK (ann37 37 4) K (selfK (L37_37_4 n) self)) = (L37_37_4 n).G v self (exitK (L37_37_4 n) K) := by kernel_rfl
theorem eo37 (n : Nat) : EnvOk Go.Proofs.Try.prog (tiOf tab) n 37 sg37 ⟨M37⟩ :=
  have hc : CodeOk Go.Proofs.Try.prog (cf37 n) := (code_cons Go.Proofs.Try.func37 (by kernel_rfl) code_nil)
  have he : EnvsOk Go.Proofs.Try.prog (cf37 n) := (env_cons (eo50 n) (env_cons (eo72 n) (env_cons (eo73 n) env_nil)))
  have hl : LmsOk (R := List T) (cf37 n) (drawK (cf37 n)) (lms2 (lsl37 n)) (lsl37 n) := (lms_cons (loops_of (cf := cf37 n) (fn0 := Go.Proofs.Try.f37) rfl (l := [bodyOf Go.Proofs.Try.f37 4]) (by kernel_rfl) (loops_cons (b := bodyOf Go.Proofs.Try.f37 4) (by kernel_rfl) (rfl : lm37_37 n 4 = [L37_37_4 n]) (List.forall_mem_cons.2 ⟨fun K self v => lp37_37_4 n K self v, fun _ h => by cases h⟩) loops_nil)) lms_nil)
  envOk_of (cf := cf37 n) tabOk hc he (draw := drawK (cf37 n)) (fun _ => drawK_ok tabOk mixed hc he) (d := 3) (lms := lms2 (lsl37 n)) hl
    (fun τs rs h => by
      simp only [M37] at h
      split at h
      · exact (ev37 n _ _).trans h
      · cases h)
/-! ### 85: spec.l11Pick -/
def sg85 : Sig := ⟨[(false, [.box 47])], [.leaf (.int .i64) false]⟩
def G85_85_4 {R : Type} (n : Nat) (v : List T) (self : List T → Option R) (ex : List (List T → Option R)) : Option R :=
  bif (decide ((v.getD 1 (.i 0)).I < (((((v.getD 0 (.i 0)).F 0).L).length : Nat) : Int))) then (if 0 ≤ (v.getD 1 (.i 0)).I ∧ (v.getD 1 (.i 0)).I < ((((v.getD 0 (.i 0)).F 0).L).length : Int) then (bif (!((at_ (((v.getD 0 (.i 0)).F 0).L) ((v.getD 1 (.i 0)).I)).F 3).B) then (if 0 ≤ (v.getD 1 (.i 0)).I ∧ (v.getD 1 (.i 0)).I < ((((v.getD 0 (.i 0)).F 0).L).length : Int) then (exn ex 0 [(v.getD 0 (.i 0)), .i (((at_ (((v.getD 0 (.i 0)).F 0).L) ((v.getD 1 (.i 0)).I)).F 0).I)]) else none) else (self [(v.getD 0 (.i 0)), .i (IntKind.wrap .i64 ((v.getD 1 (.i 0)).I + 1))])) else none) else (exn ex 1 [(v.getD 0 (.i 0))])
def L85_85_4 (n : Nat) : LoopM := ⟨⟨[[.pt 47 (.i 0) 0, .un, .un, .t (.int .i64) (.i 0), .un, .un, .un, .un, .un, .un, .un, .un, .un, .un, .un, .un, .un, .un, .un, .un, .un, .un, .un, .un, .un, .un, .un, .un, .un, .un, .un, .un, .un, .un, .un, .un, .un, .un, .un, .un, .un, .un, .un, .un, .un, .un, .un, .un, .un, .un, .un, .un]], []⟩, [(.ret, ⟨[[.pt 47 (.i 0) 0, .un, .t (.int .i64) (.i 0), .un, .un, .un, .un, .un, .un, .un, .un, .un, .un, .un, .un, .un, .un, .un, .un, .un, .un, .un, .un, .un, .un, .un, .un, .un, .un, .un, .un, .un, .un, .un, .un, .un, .un, .un, .un, .un, .un, .un, .un, .un, .un, .un, .un, .un, .un, .un, .un, .un]], []⟩), (.exit 0, ⟨[[.pt 47 (.i 0) 0, .un, .un, .un, .un, .un, .un, .un, .un, .un, .un, .un, .un, .un, .un, .un, .un, .un, .un, .un, .un, .un, .un, .un, .un, .un, .un, .un, .un, .un, .un, .un, .un, .un, .un, .un, .un, .un, .un, .un, .un, .un, .un, .un, .un, .un, .un, .un, .un, .un, .un, .un]], []⟩)], fun v self ex => G85_85_4 n v self ex⟩
def F85 (n : Nat) (x0 : T) : Option (List T) :=
  (F73 n x0 (x0.F 1)).bind fun r1 => if 0 ≤ (r1.headD (.i 0)).I ∧ (r1.headD (.i 0)).I < (((x0.F 0).L).length : Int) then (bif (!((at_ ((x0.F 0).L) ((r1.headD (.i 0)).I)).F 3).B) then (some [(x0.F 1)]) else (loopR (L85_85_4 n).G n [x0, .i 0] [fun u2 => some [.i ((u2.getD 1 (.i 0)).I)], fun u3 => some [((u3.getD 0 (.i 0)).F 1)]])) else none
def M85 (n : Nat) (τs : List T) : Option (List T) := match τs with
  | [x0] => F85 n x0
  | _ => none
noncomputable def code85 : List (Nat × Func) := [(85, Go.Proofs.Try.f85)]
def env85 : List (Nat × (Sig × Mean)) := [(73, sg73, ⟨M73⟩)]
def ann85 (f i : Nat) : Ann := match f, i with
  | 85, 4 => ⟨[(0, .any), (3, .any)], [], [(0, .any), (2, .any)]⟩
  | _, _ => ⟨[], [], []⟩
def lm85_85 (n : Nat) (i : Nat) : List LoopM := match i with
  | 4 => [L85_85_4 n]
  | _ => []
def lsl85 (n : Nat) : List ((Nat × Nat) × (Nat → List LoopM)) := [((3, 85), lm85_85 n)]
noncomputable def cf85 (n : Nat) : Cfg := ⟨tiOf tab, lookup code85, lookup env85, ann85, n⟩
theorem ev85 (n : Nat) (x0 : T) : evF (cf85 n) (drawK (cf85 n)) (lms2 (lsl85 n)) 3 85 sg85 [x0] = F85 n x0 := by kernel_rfl
theorem lp85_85_4 (n : Nat) (K : Ex → St → Option (List T)) (self : List T → Option (List T)) (v : List T) : evC (cf85 n) (callK (cf85 n) (drawK (cf85 n)) (lms2 (lsl85 n)) 3) (drawK (cf85 n) (callK (cf85 n) (drawK (cf85 n)) (lms2 (lsl85 n)) 3)) (ann85 85) (lm85_85 n) (bodyOf Go.Proofs.Try.f85 4) ((L85_85_4 n).sk.fill v) (roundK (ann85 85 4) K (selfK (L85_85_4 n) self)) = (L85_85_4 n).G v self (exitK (L85_85_4 n) K) := by kernel_rfl
theorem eo85 (n : Nat) : EnvOk Go.Proofs.Try.prog (tiOf tab) n 85 sg85 ⟨M85⟩ :=
  have hc : CodeOk Go.Proofs.Try.prog (cf85 n) := (code_cons Go.Proofs.Try.func85 (by kernel_rfl) code_nil)
  have he : EnvsOk Go.Proofs.Try.prog (cf85 n) := (env_cons (eo73 n) env_nil)
  have hl : LmsOk (R := List T) (cf85 n) (drawK (cf85 n)) (lms2 (lsl85 n)) (lsl85 n) := (lms_cons (loops_of (cf := cf85 n) (fn0 := Go.Proofs.Try.f85) rfl (l := [bodyOf Go.Proofs.Try.f85 4]) (by kernel_rfl) (loops_cons (b := bodyOf Go.Proofs.Try.f85 4) (by kernel_rfl) (rfl : lm85_85 n 4 = [L85_85_4 n]) (List.forall_mem_cons.2 ⟨fun K self v => lp85_85_4 n K self v, fun _ h => by cases h⟩) loops_nil)) lms_nil)
  envOk_of (cf := cf85 n) tabOk hc he (draw := drawK (cf85 n)) (fun _ => drawK_ok tabOk mixed hc he) (d := 3) (lms := lms2 (lsl85 n)) hl
    (fun τs rs h => by
      simp only [M85] at h
      split at h
      · exact (ev85 n _).trans h
      · cases h)
/-! ### 46: spec.PickPath -/
def sg46 : Sig := ⟨[(true, [.slice 90, .int .i64])], [.agg [(.int .i64, false), (.int .i64, false)]]⟩
def F46 (n : Nat) (x0 x1 : T) : Option (List T) :=
  (F37 n x0 x1).bind fun r1 => bif ((r1.headD (.i 0)).I != 0) then (some [(r1.headD (.i 0)), .i 0]) else ((F85 n (.r [x0, x1])).bind fun r2 => some [.i 0, (r2.headD (.i 0))])
def M46 (n : Nat) (τs : List T) : Option (List T) := match τs with
  | [x0, x1] => F46 n x0 x1
  | _ => none
noncomputable def code46 : List (Nat × Func) := [(46, Go.Proofs.Try.f46)]
def env46 : List (Nat × (Sig × Mean)) := [(37, sg37, ⟨M37⟩), (85, sg85, ⟨M85⟩)]
def ann46 (f i : Nat) : Ann := match f, i with
  | _, _ => ⟨[], [], []⟩
def lsl46 (n : Nat) : List ((Nat × Nat) × (Nat → List LoopM)) := []
noncomputable def cf46 (n : Nat) : Cfg := ⟨tiOf tab, lookup code46, lookup env46, ann46, n⟩
theorem ev46 (n : Nat) (x0 x1 : T) : evF (cf46 n) (drawK (cf46 n)) (lms2 (lsl46 n)) 3 46 sg46 [x0, x1] = F46 n x0 x1 := by kernel_rfl
theorem eo46 (n : Nat) : EnvOk Go.Proofs.Try.prog (tiOf tab) n 46 sg46 ⟨M46⟩ :=
  have hc : CodeOk Go.Proofs.Try.prog (cf46 n) := (code_cons Go.Proofs.Try.func46 (by kernel_rfl) code_nil)
  have he : EnvsOk Go.Proofs.Try.prog (cf46 n) := (env_cons (eo37 n) (env_cons (eo85 n) env_nil))
  have hl : LmsOk (R := List T) (cf46 n) (drawK (cf46 n)) (lms2 (lsl46 n)) (lsl46 n) := lms_nil
  envOk_of (cf := cf46 n) tabOk hc he (draw := drawK (cf46 n)) (fun _ => drawK_ok tabOk mixed hc he) (d := 3) (lms := lms2 (lsl46 n)) hl
    (fun τs rs h => by
      simp only [M46] at h
      split at h
      · exact (ev46 n _ _).trans h
      · cases h)
/-! ### 53: impl.within -/
def sg53 : Sig := ⟨[(false, [.int .i64]), (false, [.int .i64]), (false, [.int .i64])], [.leaf .bool false]⟩
def F53 (n : Nat) (x0 x1 x2 : T) : Option (List T) :=
  bif (decide (x0.I ≥ x1.I)) then (some [.b (decide (x0.I ≤ x2.I))]) else (some [.b false])
def M53 (n : Nat) (τs : List T) : Option (List T) := match τs with
  | [x0, x1, x2] => F53 n x0 x1 x2
  | _ => none
noncomputable def code53 : List (Nat × Func) := [(53, Go.Proofs.Try.f53)]
def env53 : List (Nat × (Sig × Mean)) := []
def ann53 (f i : Nat) : Ann := match f, i with
  | _, _ => ⟨[], [], []⟩
def lsl53 (n : Nat) : List ((Nat × Nat) × (Nat → List LoopM)) := []
noncomputable def cf53 (n : Nat) : Cfg := ⟨tiOf tab, lookup code53, lookup env53, ann53, n⟩
theorem ev53 (n : Nat) (x0 x1 x2 : T) : evF (cf53 n) (drawK (cf53 n)) (lms2 (lsl53 n)) 3 53 sg53 [x0, x1, x2] = F53 n x0 x1 x2 := by kernel_rfl
theorem eo53 (n : Nat) : EnvOk Go.Proofs.Try.prog (tiOf tab) n 53 sg53 ⟨M53⟩ :=
  have hc : CodeOk Go.Proofs.Try.prog (cf53 n) := (code_cons Go.Proofs.Try.func53 (by kernel_rfl) code_nil)
  have he : EnvsOk Go.Proofs.Try.prog (cf53 n) := env_nil
  have hl : LmsOk (R := List T) (cf53 n) (drawK (cf53 n)) (lms2 (lsl53 n)) (lsl53 n) := lms_nil
  envOk_of (cf := cf53 n) tabOk hc he (draw := drawK (cf53 n)) (fun _ => drawK_ok tabOk mixed hc he) (d := 3) (lms := lms2 (lsl53 n)) hl
    (fun τs rs h => by
      simp only [M53] at h
      split at h
      · exact (ev53 n _ _ _).trans h
      · cases h)
/-! ### 74: impl.isAddr -/
def sg74 : Sig := ⟨[(false, [.int .i64])], [.leaf .bool false]⟩
def F74 (n : Nat) (x0 : T) : Option (List T) :=
  (F53 n x0 (.i 1) (.i 255)).bind fun r1 => some [(r1.headD (.i 0))]
def M74 (n : Nat) (τs : List T) : Option (List T) := match τs with
  | [x0] => F74 n x0
  | _ => none
noncomputable def code74 : List (Nat × Func) := [(74, Go.Proofs.Try.f74)]
def env74 : List (Nat × (Sig × Mean)) := [(53, sg53, ⟨M53⟩)]
def ann74 (f i : Nat) : Ann := match f, i with
  | _, _ => ⟨[], [], []⟩
def lsl74 (n : Nat) : List ((Nat × Nat) × (Nat → List LoopM)) := []
noncomputable def cf74 (n : Nat) : Cfg := ⟨tiOf tab, lookup code74, lookup env74, ann74, n⟩
theorem ev74 (n : Nat) (x0 : T) : evF (cf74 n) (drawK (cf74 n)) (lms2 (lsl74 n)) 3 74 sg74 [x0] = F74 n x0 := by kernel_rfl
theorem eo74 (n : Nat) : EnvOk Go.Proofs.Try.prog (tiOf tab) n 74 sg74 ⟨M74⟩ :=
  have hc : CodeOk Go.Proofs.Try.prog (cf74 n) := (code_cons Go.Proofs.Try.func74 (by kernel_rfl) code_nil)
  have he : EnvsOk Go.Proofs.Try.prog (cf74 n) := (env_cons (eo53 n) env_nil)
  have hl : LmsOk (R := List T) (cf74 n) (drawK (cf74 n)) (lms2 (lsl74 n)) (lsl74 n) := lms_nil
  envOk_of (cf := cf74 n) tabOk hc he (draw := drawK (cf74 n)) (fun _ => drawK_ok tabOk mixed hc he) (d := 3) (lms := lms2 (lsl74 n)) hl
    (fun τs rs h => by
      simp only [M74] at h
      split at h
      · exact (ev74 n _).trans h
      · cases h)
/-! ### 75: impl.Paths).at -/
def sg75 : Sig := ⟨[(true, [.slice 90, .int .i64]), (false, [.int .i64])], [.leaf (.int .i64) false]⟩
def G75_91_2 {R : Type} (n : Nat) (v : List T) (self : List T → Option R) (ex : List (List T → Option R)) : Option R :=
  bif (decide ((v.getD 2 (.i 0)).I < (v.getD 1 (.i 0)).I)) then (if 0 ≤ (v.getD 2 (.i 0)).I ∧ (v.getD 2 (.i 0)).I < (((v.getD 0 (.i 0)).L).length : Int) then (bif (((at_ ((v.getD 0 (.i 0)).L) ((v.getD 2 (.i 0)).I)).F 0).I == (v.getD 8 (.i 0)).I) then (exn ex 0 [.i ((v.getD 2 (.i 0)).I), .l ((v.getD 3 (.i 0)).L), .i ((v.getD 4 (.i 0)).I), .i ((v.getD 5 (.i 0)).I), .i ((v.getD 6 (.i 0)).I), .l ((v.getD 7 (.i 0)).L), .l ((v.getD 9 (.i 0)).L), .i ((v.getD 10 (.i 0)).I), .i ((v.getD 8 (.i 0)).I)]) else (self [.l ((v.getD 0 (.i 0)).L), .i ((v.getD 1 (.i 0)).I), .i (IntKind.wrap .i64 ((v.getD 2 (.i 0)).I + 1)), .l ((v.getD 3 (.i 0)).L), .i ((v.getD 4 (.i 0)).I), .i ((v.getD 5 (.i 0)).I), .i ((v.getD 6 (.i 0)).I), .l ((v.getD 7 (.i 0)).L), .i ((v.getD 8 (.i 0)).I), .l ((v.getD 9 (.i 0)).L), .i ((v.getD 10 (.i 0)).I)])) else none) else (exn ex 1 [.l ((v.getD 3 (.i 0)).L), .i ((v.getD 4 (.i 0)).I), .i ((v.getD 5 (.i 0)).I), .i ((v.getD 6 (.i 0)).I), .l ((v.getD 7 (.i 0)).L), .l ((v.getD 9 (.i 0)).L), .i ((v.getD 10 (.i 0)).I), .i ((v.getD 8 (.i 0)).I)])
def L75_91_2 (n : Nat) : LoopM := ⟨⟨[[.t (.slice 90) (.i 0), .fn 92 [.pb 0 0], .un, .un, .un, .un, .un, .t (.int .i64) (.i 0), .t (.int .i64) (.i 0), .un, .un, .un, .un, .un, .un, .un, .un, .un, .un], [.agg [.t (.slice 90) (.i 0), .t (.int .i64) (.i 0)], .t (.int .i64) (.i 0), .pb 1 0, .pb 0 0, .t (.int .i64) (.i 0), .pb 1 0, .t (.slice 90) (.i 0), .fn 92 [.pb 0 0], .tup []]], [.box [.t (.int .i64) (.i 0)], .box [.t (.slice 90) (.i 0), .t (.int .i64) (.i 0)]]⟩, [(.ret, ⟨[[.un, .un, .un, .un, .t (.int .i64) (.i 0), .un, .un, .un, .un, .un, .un, .un, .un, .un, .un, .un, .un, .un, .un], [.agg [.t (.slice 90) (.i 0), .t (.int .i64) (.i 0)], .t (.int .i64) (.i 0), .pb 0 0, .pb 1 0, .t (.int .i64) (.i 0), .pb 0 0, .t (.slice 90) (.i 0), .fn 92 [.pb 1 0], .tup []]], [.box [.t (.slice 90) (.i 0), .t (.int .i64) (.i 0)], .box [.t (.int .i64) (.i 0)]]⟩), (.exit 0, ⟨[[.un, .un, .un, .un, .un, .un, .un, .un, .un, .un, .un, .un, .un, .un, .un, .un, .un, .un, .un], [.agg [.t (.slice 90) (.i 0), .t (.int .i64) (.i 0)], .t (.int .i64) (.i 0), .pb 0 0, .pb 1 0, .t (.int .i64) (.i 0), .pb 0 0, .t (.slice 90) (.i 0), .fn 92 [.pb 1 0], .tup []]], [.box [.t (.slice 90) (.i 0), .t (.int .i64) (.i 0)], .box [.t (.int .i64) (.i 0)]]⟩)], fun v self ex => G75_91_2 n v self ex⟩
def F75 (n : Nat) (x0 x1 x2 : T) : Option (List T) :=
  loopR (L75_91_2 n).G n [.l x0.L, .i (x0.L.length : Int), .i 0, .l x0.L, .i x1.I, .i x2.I, .i 0, .l x0.L, .i x2.I, .l x0.L, .i x1.I] [fun u1 => some [.i ((u1.getD 0 (.i 0)).I)], fun u2 => some [.i (-1)]]
def M75 (n : Nat) (τs : List T) : Option (List T) := match τs with
  | [x0, x1, x2] => F75 n x0 x1 x2
  | _ => none
noncomputable def code75 : List (Nat × Func) := [(75, Go.Proofs.Try.f75), (91, Go.Proofs.Try.f91), (92, Go.Proofs.Try.f92)]
def env75 : List (Nat × (Sig × Mean)) := []
def ann75 (f i : Nat) : Ann := match f, i with
  | 91, 2 => ⟨[(0, .any), (1, .any), (7, .any), (8, .any)], [], [(4, .any)]⟩
  | _, _ => ⟨[], [], []⟩
def lm75_91 (n : Nat) (i : Nat) : List LoopM := match i with
  | 2 => [L75_91_2 n]
  | _ => []
def lsl75 (n : Nat) : List ((Nat × Nat) × (Nat → List LoopM)) := [((2, 91), lm75_91 n)]
noncomputable def cf75 (n : Nat) : Cfg := ⟨tiOf tab, lookup code75, lookup env75, ann75, n⟩
theorem ev75 (n : Nat) (x0 x1 x2 : T) : evF (cf75 n) (drawK (cf75 n)) (lms2 (lsl75 n)) 3 75 sg75 [x0, x1, x2] = F75 n x0 x1 x2 := by kernel_rfl
theorem lp75_91_2 (n : Nat) (K : Ex → St → Option (List T)) (self : List T → Option (List T)) (v : List T) : evC (cf75 n) (callK (cf75 n) (drawK (cf75 n)) (lms2 (lsl75 n)) 2) (drawK (cf75 n) (callK (cf75 n) (drawK (cf75 n)) (lms2 (lsl75 n)) 2)) (ann75 91) (lm75_91 n) (bodyOf Go.Proofs.Try.f91 2) ((L75_91_2 n).sk.fill v) (roundK (ann75 91 2) K (selfK (L75_91_2 n) self)) = (L75_91_2 n).G v self (exitK (L75_91_2 n) K) := by kernel_rfl
theorem eo75 (n : Nat) : EnvOk Go.Proofs.Try.prog (tiOf tab) n 75 sg75 ⟨M75⟩ :=
  have hc : CodeOk Go.Proofs.Try.prog (cf75 n) := (code_cons Go.Proofs.Try.func75 (by kernel_rfl) (code_cons Go.Proofs.Try.func91 (by kernel_rfl) (code_cons Go.Proofs.Try.func92 (by kernel_rfl) code_nil)))
  have he : EnvsOk Go.Proofs.Try.prog (cf75 n) := env_nil
  have hl : LmsOk (R := List T) (cf75 n) (drawK (cf75 n)) (lms2 (lsl75 n)) (lsl75 n) := (lms_cons (loops_of (cf := cf75 n) (fn0 := Go.Proofs.Try.f91) rfl (l := [bodyOf Go.Proofs.Try.f91 2]) (by kernel_rfl) (loops_cons (b := bodyOf Go.Proofs.Try.f91 2) (by kernel_rfl) (rfl : lm75_91 n 2 = [L75_91_2 n]) (List.forall_mem_cons.2 ⟨fun K self v => lp75_91_2 n K self v, fun _ h => by cases h⟩) loops_nil)) lms_nil)
  envOk_of (cf := cf75 n) tabOk hc he (draw := drawK (cf75 n)) (fun _ => drawK_ok tabOk mixed hc he) (d := 3) (lms := lms2 (lsl75 n)) hl
    (fun τs rs h => by
      simp only [M75] at h
      split at h
      · exact (ev75 n _ _ _).trans h
      · cases h)
/-! ### 38: impl.PathsFault -/
def sg38 : Sig := ⟨[(true, [.slice 90, .int .i64])], [.leaf (.int .i64) false]⟩
def G38_38_4 {R : Type} (n : Nat) (v : List T) (self : List T → Option R) (ex : List (List T → Option R)) : Option R :=
  bif (decide ((v.getD 2 (.i 0)).I < (v.getD 1 (.i 0)).I)) then (if 0 ≤ (v.getD 2 (.i 0)).I ∧ (v.getD 2 (.i 0)).I < (((v.getD 0 (.i 0)).L).length : Int) then ((F74 n ((at_ ((v.getD 0 (.i 0)).L) ((v.getD 2 (.i 0)).I)).F 0)).bind fun r2 => bif (!(r2.headD (.i 0)).B) then (exn ex 0 [.i 3, .l ((v.getD 3 (.i 0)).L), .i ((v.getD 4 (.i 0)).I)]) else ((F53 n ((at_ ((v.getD 0 (.i 0)).L) ((v.getD 2 (.i 0)).I)).F 1) (.i 0) (.i 4)).bind fun r3 => bif (!(r3.headD (.i 0)).B) then (exn ex 0 [.i 3, .l ((v.getD 3 (.i 0)).L), .i ((v.getD 4 (.i 0)).I)]) else ((F53 n ((at_ ((v.getD 0 (.i 0)).L) ((v.getD 2 (.i 0)).I)).F 2) (.i 100) (.i 1600)).bind fun r4 => bif (!(r4.headD (.i 0)).B) then (exn ex 0 [.i 3, .l ((v.getD 3 (.i 0)).L), .i ((v.getD 4 (.i 0)).I)]) else ((F75 n (.l ((v.getD 3 (.i 0)).L)) (.i ((v.getD 4 (.i 0)).I)) ((at_ ((v.getD 0 (.i 0)).L) ((v.getD 2 (.i 0)).I)).F 0)).bind fun r5 => bif (decide ((r5.headD (.i 0)).I < (v.getD 2 (.i 0)).I)) then (exn ex 0 [.i 6, .l ((v.getD 3 (.i 0)).L), .i ((v.getD 4 (.i 0)).I)]) else (bif (!(((at_ ((v.getD 0 (.i 0)).L) ((v.getD 2 (.i 0)).I)).F 3).B == (((at_ ((v.getD 0 (.i 0)).L) ((v.getD 2 (.i 0)).I)).F 1).I == 4))) then (exn ex 0 [.i 8, .l ((v.getD 3 (.i 0)).L), .i ((v.getD 4 (.i 0)).I)]) else (self [.l ((v.getD 0 (.i 0)).L), .i ((v.getD 1 (.i 0)).I), .i (IntKind.wrap .i64 ((v.getD 2 (.i 0)).I + 1)), .l ((v.getD 3 (.i 0)).L), .i ((v.getD 4 (.i 0)).I)])))))) else none) else (exn ex 1 [.l ((v.getD 3 (.i 0)).L), .i ((v.getD 4 (.i 0)).I)])
def L38_38_4 (n : Nat) : LoopM := ⟨⟨[[.un, .pb 0 0, .un, .un, .un, .un, .un, .un, .un, .un, .un, .t (.slice 90) (.i 0), .t (.int .i64) (.i 0), .t (.int .i64) (.i 0), .un, .un, .un, .un, .un, .un, .un, .un, .un, .un, .un, .un, .un, .un, .un, .un, .un, .un, .un, .un, .un, .un, .un, .un, .un, .un, .un, .un, .un, .un, .un, .un, .un, .un, .un, .un, .un, .un, .un, .un, .un]], [.box [.t (.slice 90) (.i 0), .t (.int .i64) (.i 0)]]⟩, [(.ret, ⟨[[.un, .pb 0 0, .t (.int .i64) (.i 0), .un, .un, .un, .un, .un, .un, .un, .un, .un, .un, .un, .un, .un, .un, .un, .un, .un, .un, .un, .un, .un, .un, .un, .un, .un, .un, .un, .un, .un, .un, .un, .un, .un, .un, .un, .un, .un, .un, .un, .un, .un, .un, .un, .un, .un, .un, .un, .un, .un, .un, .un, .un]], [.box [.t (.slice 90) (.i 0), .t (.int .i64) (.i 0)]]⟩), (.exit 0, ⟨[[.un, .pb 0 0, .un, .un, .un, .un, .un, .un, .un, .un, .un, .un, .un, .un, .un, .un, .un, .un, .un, .un, .un, .un, .un, .un, .un, .un, .un, .un, .un, .un, .un, .un, .un, .un, .un, .un, .un, .un, .un, .un, .un, .un, .un, .un, .un, .un, .un, .un, .un, .un, .un, .un, .un, .un, .un]], [.box [.t (.slice 90) (.i 0), .t (.int .i64) (.i 0)]]⟩)], fun v self ex => G38_38_4 n v self ex⟩
def F38 (n : Nat) (x0 x1 : T) : Option (List T) :=
  (F53 n (.i (x0.L.length : Int)) (.i 1) (.i 5)).bind fun r1 => bif (!(r1.headD (.i 0)).B) then (some [.i 2]) else (loopR (L38_38_4 n).G n [.l x0.L, .i (x0.L.length : Int), .i 0, .l x0.L, .i x1.I] [fun u6 => some [.i ((u6.getD 0 (.i 0)).I)], fun u7 => (F75 n (.l ((u7.getD 0 (.i 0)).L)) (.i ((u7.getD 1 (.i 0)).I)) (.i ((u7.getD 1 (.i 0)).I))).bind fun r8 => bif (decide ((r8.headD (.i 0)).I < 0)) then (some [.i 4]) else (some [.i 0])])
def M38 (n : Nat) (τs : List T) : Option (List T) := match τs with
  | [x0, x1] => F38 n x0 x1
  | _ => none
noncomputable def code38 : List (Nat × Func) := [(38, Go.Proofs.Try.f38)]
def env38 : List (Nat × (Sig × Mean)) := [(53, sg53, ⟨M53⟩), (74, sg74, ⟨M74⟩), (75, sg75, ⟨M75⟩)]
def ann38 (f i : Nat) : Ann := match f, i with
  | 38, 4 => ⟨[(1, .any), (11, .any), (12, .any), (13, .any)], [], [(1, .any), (2, .any)]⟩
  | _, _ => ⟨[], [], []⟩
def lm38_38 (n : Nat) (i : Nat) : List LoopM := match i with
  | 4 => [L38_38_4 n]
  | _ => []
def lsl38 (n : Nat) : List ((Nat × Nat) × (Nat → List LoopM)) := [((3, 38), lm38_38 n)]
noncomputable def cf38 (n : Nat) : Cfg := ⟨tiOf tab, lookup code38, lookup env38, ann38, n⟩
theorem ev38 (n : Nat) (x0 x1 : T) : evF (cf38 n) (drawK (cf38 n)) (lms2 (lsl38 n)) 3 38 sg38 [x0, x1] = F38 n x0 x1 := by kernel_rfl
theorem lp38_38_4 (n : Nat) (K : Ex → St → Option (List T)) (self : List T → Option (List T)) (v : List T) : evC (cf38 n) (callK (cf38 n) (drawK (cf38 n)) (lms2 (lsl38 n)) 3) (drawK (cf38 n) (callK (cf38 n) (drawK (cf38 n)) (lms2 (lsl38 n)) 3)) (ann38 38) (lm38_38 n) (bodyOf Go.Proofs.Try.f38 4) ((L38_38_4 n).sk.fill v) (roundK (ann38 38 4) K (selfK (L38_38_4 n) self)) = (L38_38_4 n).G v self (exitK (L38_38_4 n) K) := by kernel_rfl
theorem eo38 (n : Nat) : EnvOk Go.Proofs.Try.prog (tiOf tab) n 38 sg38 ⟨M38⟩ :=
  have hc : CodeOk Go.Proofs.Try.prog (cf38 n) := (code_cons Go.Proofs.Try.func38 (by kernel_rfl) code_nil)
  have he : EnvsOk Go.Proofs.Try.prog (cf38 n) := (env_cons (eo53 n) (env_cons (eo74 n) (env_cons (eo75 n) env_nil)))
  have hl : LmsOk (R := List T) (cf38 n) (drawK (cf38 n)) (lms2 (lsl38 n)) (lsl38 n) := (lms_cons (loops_of (cf := cf38 n) (fn0 := Go.Proofs.Try.f38) rfl (l := [bodyOf Go.Proofs.Try.f38 4]) (by kernel_rfl) (loops_cons (b := bodyOf Go.Proofs.Try.f38 4) (by kernel_rfl) (rfl : lm38_38 n 4 = [L38_38_4 n]) (List.forall_mem_cons.2 ⟨fun K self v => lp38_38_4 n K self v, fun _ h => by cases h⟩) loops_nil)) lms_nil)
  envOk_of (cf := cf38 n) tabOk hc he (draw := drawK (cf38 n)) (fun _ => drawK_ok tabOk mixed hc he) (d := 3) (lms := lms2 (lsl38 n)) hl
    (fun τs rs h => by
      simp only [M38] at h
      split at h
      · exact (ev38 n _ _).trans h
      · cases h)
/-! ### 86: impl.Paths).pick -/
def sg86 : Sig := ⟨[(true, [.slice 90, .int .i64])], [.leaf (.int .i64) false]⟩
def G86_86_4 {R : Type} (n : Nat) (v : List T) (self : List T → Option R) (ex : List (List T → Option R)) : Option R :=
  bif (decide ((v.getD 2 (.i 0)).I < (v.getD 1 (.i 0)).I)) then (if 0 ≤ (v.getD 2 (.i 0)).I ∧ (v.getD 2 (.i 0)).I < (((v.getD 0 (.i 0)).L).length : Int) then (bif (!((at_ ((v.getD 0 (.i 0)).L) ((v.getD 2 (.i 0)).I)).F 3).B) then (exn ex 0 [.i (((at_ ((v.getD 0 (.i 0)).L) ((v.getD 2 (.i 0)).I)).F 0).I), .l ((v.getD 3 (.i 0)).L), .i ((v.getD 4 (.i 0)).I)]) else (self [.l ((v.getD 0 (.i 0)).L), .i ((v.getD 1 (.i 0)).I), .i (IntKind.wrap .i64 ((v.getD 2 (.i 0)).I + 1)), .l ((v.getD 3 (.i 0)).L), .i ((v.getD 4 (.i 0)).I)])) else none) else (exn ex 1 [.l ((v.getD 3 (.i 0)).L), .i ((v.getD 4 (.i 0)).I)])
def L86_86_4 (n : Nat) : LoopM := ⟨⟨[[.un, .pb 0 0, .un, .un, .un, .un, .un, .un, .un, .un, .un, .un, .un, .un, .un, .un, .un, .un, .t (.slice 90) (.i 0), .t (.int .i64) (.i 0), .t (.int .i64) (.i 0), .un, .un, .un, .un, .un, .un, .un, .un, .un, .un, .un]], [.box [.t (.slice 90) (.i 0), .t (.int .i64) (.i 0)]]⟩, [(.ret, ⟨[[.un, .pb 0 0, .t (.int .i64) (.i 0), .un, .un, .un, .un, .un, .un, .un, .un, .un, .un, .un, .un, .un, .un, .un, .un, .un, .un, .un, .un, .un, .un, .un, .un, .un, .un, .un, .un, .un]], [.box [.t (.slice 90) (.i 0), .t (.int .i64) (.i 0)]]⟩), (.exit 0, ⟨[[.un, .pb 0 0, .un, .un, .un, .un, .un, .un, .un, .un, .un, .un, .un, .un, .un, .un, .un, .un, .un, .un, .un, .un, .un, .un, .un, .un, .un, .un, .un, .un, .un, .un]], [.box [.t (.slice 90) (.i 0), .t (.int .i64) (.i 0)]]⟩)], fun v self ex => G86_86_4 n v self ex⟩
def F86 (n : Nat) (x0 x1 : T) : Option (List T) :=
  (F75 n x0 x1 x1).bind fun r1 => if 0 ≤ (r1.headD (.i 0)).I ∧ (r1.headD (.i 0)).I < (x0.L.length : Int) then (bif (!((at_ x0.L ((r1.headD (.i 0)).I)).F 3).B) then (some [x1]) else (loopR (L86_86_4 n).G n [.l x0.L, .i (x0.L.length : Int), .i 0, .l x0.L, .i x1.I] [fun u2 => some [.i ((u2.getD 0 (.i 0)).I)], fun u3 => some [.i ((u3.getD 1 (.i 0)).I)]])) else none
def M86 (n : Nat) (τs : List T) : Option (List T) := match τs with
  | [x0, x1] => F86 n x0 x1
  | _ => none
noncomputable def code86 : List (Nat × Func) := [(86, Go.Proofs.Try.f86)]
def env86 : List (Nat × (Sig × Mean)) := [(75, sg75, ⟨M75⟩)]
def ann86 (f i : Nat) : Ann := match f, i with
  | 86, 4 => ⟨[(1, .any), (18, .any), (19, .any), (20, .any)], [], [(1, .any), (2, .any)]⟩
  | _, _ => ⟨[], [], []⟩
def lm86_86 (n : Nat) (i : Nat) : List LoopM := match i with
  | 4 => [L86_86_4 n]
  | _ => []
def lsl86 (n : Nat) : List ((Nat × Nat) × (Nat → List LoopM)) := [((3, 86), lm86_86 n)]
noncomputable def cf86 (n : Nat) : Cfg := ⟨tiOf tab, lookup code86, lookup env86, ann86, n⟩
theorem ev86 (n : Nat) (x0 x1 : T) : evF (cf86 n) (drawK (cf86 n)) (lms2 (lsl86 n)) 3 86 sg86 [x0, x1] = F86 n x0 x1 := by kernel_rfl
theorem lp86_86_4 (n : Nat) (K : Ex → St → Option (List T)) (self : List T → Option (List T)) (v : List T) : evC (cf86 n) (callK (cf86 n) (drawK (cf86 n)) (lms2 (lsl86 n)) 3) (drawK (cf86 n) (callK (cf86 n) (drawK (cf86 n)) (lms2 (lsl86 n)) 3)) (ann86 86) (lm86_86 n) (bodyOf Go.Proofs.Try.f86 4) ((L86_86_4 n).sk.fill v) (roundK (ann86 86 4) K (selfK (L86_86_4 n) self)) = (L86_86_4 n).G v self (exitK (L86_86_4 n) K) := by kernel_rfl
theorem eo86 (n : Nat) : EnvOk Go.Proofs.Try.prog (tiOf tab) n 86 sg86 ⟨M86⟩ :=
  have hc : CodeOk Go.Proofs.Try.prog (cf86 n) := (code_cons Go.Proofs.Try.func86 (by kernel_rfl) code_nil)
  have he : EnvsOk Go.Proofs.Try.prog (cf86 n) := (env_cons (eo75 n) env_nil)
  have hl : LmsOk (R := List T) (cf86 n) (drawK (cf86 n)) (lms2 (lsl86 n)) (lsl86 n) := (lms_cons (loops_of (cf := cf86 n) (fn0 := Go.Proofs.Try.f86) rfl (l := [bodyOf Go.Proofs.Try.f86 4]) (by kernel_rfl) (loops_cons (b := bodyOf Go.Proofs.Try.f86 4) (by kernel_rfl) (rfl : lm86_86 n 4 = [L86_86_4 n]) (List.forall_mem_cons.2 ⟨fun K self v => lp86_86_4 n K self v, fun _ h => by cases h⟩) loops_nil)) lms_nil)
  envOk_of (cf := cf86 n) tabOk hc he (draw := drawK (cf86 n)) (fun _ => drawK_ok tabOk mixed hc he) (d := 3) (lms := lms2 (lsl86 n)) hl
    (fun τs rs h => by
      simp only [M86] at h
      split at h
      · exact (ev86 n _ _).trans h
      · cases h)
/-! ### 47: impl.PickPath -/
def sg47 : Sig := ⟨[(true, [.slice 90, .int .i64])], [.agg [(.int .i64, false), (.int .i64, false)]]⟩
def F47 (n : Nat) (x0 x1 : T) : Option (List T) :=
  (F38 n x0 x1).bind fun r1 => bif ((r1.headD (.i 0)).I != 0) then (some [(r1.headD (.i 0)), .i 0]) else ((F86 n x0 x1).bind fun r2 => some [.i 0, (r2.headD (.i 0))])
def M47 (n : Nat) (τs : List T) : Option (List T) := match τs with
  | [x0, x1] => F47 n x0 x1
  | _ => none
noncomputable def code47 : List (Nat × Func) := [(47, Go.Proofs.Try.f47)]
def env47 : List (Nat × (Sig × Mean)) := [(38, sg38, ⟨M38⟩), (86, sg86, ⟨M86⟩)]
def ann47 (f i : Nat) : Ann := match f, i with
  | _, _ => ⟨[], [], []⟩
def lsl47 (n : Nat) : List ((Nat × Nat) × (Nat → List LoopM)) := []
noncomputable def cf47 (n : Nat) : Cfg := ⟨tiOf tab, lookup code47, lookup env47, ann47, n⟩
theorem ev47 (n : Nat) (x0 x1 : T) : evF (cf47 n) (drawK (cf47 n)) (lms2 (lsl47 n)) 3 47 sg47 [x0, x1] = F47 n x0 x1 := by kernel_rfl
theorem eo47 (n : Nat) : EnvOk Go.Proofs.Try.prog (tiOf tab) n 47 sg47 ⟨M47⟩ :=
  have hc : CodeOk Go.Proofs.Try.prog (cf47 n) := (code_cons Go.Proofs.Try.func47 (by kernel_rfl) code_nil)
  have he : EnvsOk Go.Proofs.Try.prog (cf47 n) := (env_cons (eo38 n) (env_cons (eo86 n) env_nil))
  have hl : LmsOk (R := List T) (cf47 n) (drawK (cf47 n)) (lms2 (lsl47 n)) (lsl47 n) := lms_nil
  envOk_of (cf := cf47 n) tabOk hc he (draw := drawK (cf47 n)) (fun _ => drawK_ok tabOk mixed hc he) (d := 3) (lms := lms2 (lsl47 n)) hl
    (fun τs rs h => by
      simp only [M47] at h
      split at h
      · exact (ev47 n _ _).trans h
      · cases h)
/-! ### 48: laws.eqIntResult -/
def sg48 : Sig := ⟨[(true, [.int .i64, .int .i64]), (true, [.int .i64, .int .i64])], [.leaf .bool false]⟩
def F48 (n : Nat) (x0 x1 x2 x3 : T) : Option (List T) :=
  bif (x0.I != x2.I) then (some [.b false]) else (bif (x1.I != x3.I) then (some [.b false]) else (some [.b true]))
def M48 (n : Nat) (τs : List T) : Option (List T) := match τs with
  | [x0, x1, x2, x3] => F48 n x0 x1 x2 x3
  | _ => none
noncomputable def code48 : List (Nat × Func) := [(48, Go.Proofs.Try.f48)]
def env48 : List (Nat × (Sig × Mean)) := []
def ann48 (f i : Nat) : Ann := match f, i with
  | _, _ => ⟨[], [], []⟩
def lsl48 (n : Nat) : List ((Nat × Nat) × (Nat → List LoopM)) := []
noncomputable def cf48 (n : Nat) : Cfg := ⟨tiOf tab, lookup code48, lookup env48, ann48, n⟩
theorem ev48 (n : Nat) (x0 x1 x2 x3 : T) : evF (cf48 n) (drawK (cf48 n)) (lms2 (lsl48 n)) 3 48 sg48 [x0, x1, x2, x3] = F48 n x0 x1 x2 x3 := by kernel_rfl
theorem eo48 (n : Nat) : EnvOk Go.Proofs.Try.prog (tiOf tab) n 48 sg48 ⟨M48⟩ :=
  have hc : CodeOk Go.Proofs.Try.prog (cf48 n) := (code_cons Go.Proofs.Try.func48 (by kernel_rfl) code_nil)
  have he : EnvsOk Go.Proofs.Try.prog (cf48 n) := env_nil
  have hl : LmsOk (R := List T) (cf48 n) (drawK (cf48 n)) (lms2 (lsl48 n)) (lsl48 n) := lms_nil
  envOk_of (cf := cf48 n) tabOk hc he (draw := drawK (cf48 n)) (fun _ => drawK_ok tabOk mixed hc he) (d := 3) (lms := lms2 (lsl48 n)) hl
    (fun τs rs h => by
      simp only [M48] at h
      split at h
      · exact (ev48 n _ _ _ _).trans h
      · cases h)
/-! ### 11: laws.FnExactPickPath -/
def sg11 : Sig := ⟨[(true, [.slice 117, .int .i64])], [.leaf .bool false]⟩
def F11 (n : Nat) (x0 x1 : T) : Option (List T) :=
  (F22 n x0 x1 (.i 1048576)).bind fun r1 => bif (decide ((r1.headD (.i 0)).I < 0)) then (some [.b true]) else ((F24 n x0 x1).bind fun r2 => (F46 n (r2.headD (.i 0)) (r2.tail.headD (.i 0))).bind fun r3 => (F24 n x0 x1).bind fun r4 => (F47 n (r4.headD (.i 0)) (r4.tail.headD (.i 0))).bind fun r5 => (F48 n (r5.headD (.i 0)) (r5.tail.headD (.i 0)) (r3.headD (.i 0)) (r3.tail.headD (.i 0))).bind fun r6 => bif (!(r6.headD (.i 0)).B) then (some [.b false]) else ((F24 n x0 x1).bind fun r7 => (F26 n (r4.headD (.i 0)) (r4.tail.headD (.i 0)) (r7.headD (.i 0)) (r7.tail.headD (.i 0))).bind fun r8 => bif (!(r8.headD (.i 0)).B) then (some [.b false]) else (some [.b true])))
def M11 (n : Nat) (τs : List T) : Option (List T) := match τs with
  | [x0, x1] => F11 n x0 x1
  | _ => none
noncomputable def code11 : List (Nat × Func) := [(11, Go.Proofs.Try.f11)]
def env11 : List (Nat × (Sig × Mean)) := [(22, sg22, ⟨M22⟩), (24, sg24, ⟨M24⟩), (26, sg26, ⟨M26⟩), (46, sg46, ⟨M46⟩), (47, sg47, ⟨M47⟩), (48, sg48, ⟨M48⟩)]
def ann11 (f i : Nat) : Ann := match f, i with
  | _, _ => ⟨[], [], []⟩
def lsl11 (n : Nat) : List ((Nat × Nat) × (Nat → List LoopM)) := []
noncomputable def cf11 (n : Nat) : Cfg := ⟨tiOf tab, lookup code11, lookup env11, ann11, n⟩
theorem ev11 (n : Nat) (x0 x1 : T) : evF (cf11 n) (drawK (cf11 n)) (lms2 (lsl11 n)) 3 11 sg11 [x0, x1] = F11 n x0 x1 := by kernel_rfl
theorem eo11 (n : Nat) : EnvOk Go.Proofs.Try.prog (tiOf tab) n 11 sg11 ⟨M11⟩ :=
  have hc : CodeOk Go.Proofs.Try.prog (cf11 n) := (code_cons Go.Proofs.Try.func11 (by kernel_rfl) code_nil)
  have he : EnvsOk Go.Proofs.Try.prog (cf11 n) := (env_cons (eo22 n) (env_cons (eo24 n) (env_cons (eo26 n) (env_cons (eo46 n) (env_cons (eo47 n) (env_cons (eo48 n) env_nil))))))
  have hl : LmsOk (R := List T) (cf11 n) (drawK (cf11 n)) (lms2 (lsl11 n)) (lsl11 n) := lms_nil
  envOk_of (cf := cf11 n) tabOk hc he (draw := drawK (cf11 n)) (fun _ => drawK_ok tabOk mixed hc he) (d := 3) (lms := lms2 (lsl11 n)) hl
    (fun τs rs h => by
      simp only [M11] at h
      split at h
      · exact (ev11 n _ _).trans h
      · cases h)
end Go.KX.Sa
