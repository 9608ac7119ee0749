/- A certified evaluator of the program's code, part C: words and lemmas; nothing here is about one program. -/
import Derived.Test.YtpkeanlcmjbgnadKxB
import Derived.Orders
import Derived.SizedLaws
import Derived.WideShapes
import Derived.ProofKit
import Derived.WideKeyArgs
import Derived.RowKit
/- The evaluator is sound: code and calls. -/
namespace Go.KX
open Go.RowKit

section
variable {P : Program} {R : Type} {res : R} (cf : Cfg) (H : TabOk P cf.ti)

/-- A function that may be called. -/
def Callable (P : Program) (f : Nat) : Prop := ∃ fn, P.funcs[f]? = some fn ∧ fn.body.isNone = false ∧ (fn.name == "runtime.NumGoroutine") = false

/-- Calls are sound. -/
def CallOk (P : Program) (ti : TypeId → TyI) (res : R) (call : Nat → List X → St → (X → St → Option R) → Option R) : Prop :=
  ∀ (c : Ctx) (f : Nat) (xs : List X) (vs : Array Value) (s : St) (K : X → St → Option R) (ts : List (Array Value)) (g : Gh) (w : World), call f xs s K = some res → Sim ti c s ts g w → vs.size = xs.length →
    (∀ i, i < xs.length → RX ti g w (xs.getD i .un) (vs.getD i undef)) →
    Callable P f ∧ Calls P f vs w fun e w' => ∃ v y s' g', e = .returned v ∧ K y s' = some res ∧ Sim ti c s' ts g' w' ∧ RX ti g' w' y v

/-- Where the code goes on, what was wanted holds. -/
def Goes' (ti : TypeId → TyI) (c : Ctx) (ts : List (Array Value)) (res : R) (K : St → Option R) (Q : Act → World → Prop) : Prop :=
  ∀ (s' : St) (g' : Gh) (a' : Act) (w' : World), K s' = some res → Sim ti c s' (a'.tmps :: ts) g' w' → a'.defers = [] → Q a' w'

def DrawOk (P : Program) (ti : TypeId → TyI) (res : R) (draw : Array Oper → St → (St → Option R) → Option R) : Prop :=
  ∀ (c : Ctx) (id : Nat) (ops : Array Oper) (s : St) (K : St → Option R) (ts : List (Array Value)) (g : Gh) (a : Act) (w : World) (Q : Exit → Act → World → Prop), draw ops s K = some res → Sim ti c s (a.tmps :: ts) g w → a.defers = [] →
    Goes' ti c ts res K (Q .normal) → (Code.region id ops true).wp P Q a w

/-- There is a least number. -/
theorem exists_min {p : Nat → Prop} (h : ∃ n, p n) : ∃ n, p n ∧ ∀ m, p m → n ≤ m := by
  obtain ⟨n, hn⟩ := h
  induction n using Nat.strongRecOn with
  | ind n ih =>
    by_cases hm : ∃ m, m < n ∧ p m
    · obtain ⟨m, h1, h2⟩ := hm
      exact ih m h1 h2
    · exact ⟨n, hn, fun m hpm => Nat.le_of_not_lt fun hlt => hm ⟨m, hlt, hpm⟩⟩

theorem run_call {a : Act} {o : Oper} {f : Operand} {args : Array Operand} {at' : Array TypeId} (ho : o.op = .call { callee := .value f, args := args, argTypes := at' }) {g : Nat} {caps : Array Value} (hf : a.eval f = .func (.func g) #[] caps) (hc : Callable P g) (w : World) :
    (execOp a.eval o).run P w = .ok (.enter g (args.map a.eval ++ caps)) w := by
  obtain ⟨fn, h1, h2, h3⟩ := hc
  have h3' : ¬ (fn.name = "runtime.NumGoroutine") := by simpa using h3
  cases hb : fn.body with
  | none => rw [hb] at h2; cases h2
  | some b => simp [execOp, ho, resolve, hf, Deferred.ofValue, invoke, callFunc, h1, hb, h3']

include H

theorem execK_ok {call : Nat → List X → St → (X → St → Option R) → Option R} (hcall : CallOk P cf.ti res call) {c : Ctx} {s : St} {a : Act} {ts : List (Array Value)} {g : Gh} {w : World} {o : Oper} {K : X → St → Option R} {Q : Exit → Act → World → Prop} {next : Act → World → Prop}
    (h : execK cf call o.op s K = some res) (hs : Sim cf.ti c s (a.tmps :: ts) g w)
    (hn : ∀ y s' g' v w', K y s' = some res → Sim cf.ti c s' (a.tmps :: ts) g' w' → RX cf.ti g' w' y v → next (a.put o.dst v) w') : o.wp P a w next Q := by
  unfold execK at h
  split at h
  · rename_i f args at' ho
    split at h
    · rename_i fg caps hf
      have hf' := hf ▸ hs.opx f
      obtain ⟨cv, hcv, hsz, hcx⟩ : ∃ cv, a.eval f = .func (.func fg) #[] cv ∧ cv.size = caps.length ∧ ∀ i, i < caps.length → RX cf.ti g w (caps.getD i .un) (cv.getD i undef) := by
        generalize a.eval f = v at hf'
        cases hf' with
        | fn hsz hx => exact ⟨_, rfl, hsz, hx⟩
      have hlen : (args.map a.eval ++ cv).size = (args.toList.map (opx s) ++ caps).length := by simp [hsz]
      have hal : ∀ i, i < (args.toList.map (opx s) ++ caps).length → RX cf.ti g w ((args.toList.map (opx s) ++ caps).getD i .un) ((args.map a.eval ++ cv).getD i undef) := fun i hi => by
        by_cases hi1 : i < args.size
        · have e1 : (args.toList.map (opx s) ++ caps).getD i .un = opx s args[i] := by
            simp [List.getElem?_append_left (show i < (args.toList.map (opx s)).length by simpa using hi1), hi1]
          have e2 : (args.map a.eval ++ cv).getD i undef = a.eval args[i] := by
            simp [Array.getElem?_append_left (show i < (args.map a.eval).size by simpa using hi1), hi1]
          rw [e1, e2]
          exact hs.opx _
        · have e1 : (args.toList.map (opx s) ++ caps).getD i .un = caps.getD (i - args.size) .un := by
            simp [List.getElem?_append_right (show (args.toList.map (opx s)).length ≤ i by simp; omega)]
          have e2 : (args.map a.eval ++ cv).getD i undef = cv.getD (i - args.size) undef := by
            simp [Array.getElem?_append_right (show (args.map a.eval).size ≤ i by simp; omega)]
          rw [e1, e2]
          exact hcx _ (by simp at hi; omega)
      obtain ⟨hcb, hC⟩ := hcall c fg _ (args.map a.eval ++ cv) s K (a.tmps :: ts) g w h hs hlen hal
      unfold Oper.wp
      rw [run_call ho hcv hcb w, Oper.upon_enter]
      refine hC.mono fun e w' he => ?_
      obtain ⟨v, y, s', g', rfl, k1, k2, k3⟩ := he
      exact hn y s' g' v w' k1 k2 k3
    · cases h
  · obtain ⟨y, s', v, w', g', k1, k2, k3, k4⟩ := stepK_ok H h hs
    unfold Oper.wp
    rcases k2 with k2 | ⟨k2, rfl⟩
    · rw [k2, Oper.upon_value]
      exact hn y s' g' v w' k1 k3 k4
    · rw [k2, Oper.upon_skip]
      exact hn y s' g' undef w' k1 k3 k4

theorem opsK_step {call : Nat → List X → St → (X → St → Option R) → Option R} (hcall : CallOk P cf.ti res call) {c : Ctx} {ts : List (Array Value)} {ops : Array Oper} {K : St → Option R} {Q : Exit → Act → World → Prop} {next : Act → World → Prop} {o : Oper} {l : List Oper} {s : St} {a : Act} {g : Gh} {w : World}
    (h : opsK cf call ops (o :: l) s K = some res) (hs : Sim cf.ti c s (a.tmps :: ts) g w) (hd : a.defers = []) (hnext : ∀ s' g' a' w', opsK cf call ops l s' K = some res → Sim cf.ti c s' (a'.tmps :: ts) g' w' → a'.defers = [] → next a' w') :
    if Region.wanted o (yielded ops a.tmps) then o.wp P a w next Q ∨ (o.asks P a w ∧ LetsOut Q) else next (a.put o.dst undef) w := by
    have hput : ∀ {s' : St} {g' : Gh} {v : Value} {w' : World} {y : X} (a2 : Act), a2.tmps = a.tmps → a2.defers = [] → Sim cf.ti c s' (a.tmps :: ts) g' w' → RX cf.ti g' w' y v →
        Sim cf.ti c (s'.put o.dst y) ((a2.put o.dst v).tmps :: ts) g' w' ∧ (a2.put o.dst v).defers = [] := by
      intro s' g' v w' y a2 h1 h2 h3 h4
      have := h3.put h4 o.dst
      obtain ⟨t2, d2⟩ := a2
      simp only at h1 h2
      subst h1 h2
      exact ⟨this, by cases o.dst <;> rfl⟩
    have exec : ∀ (s1 : St), Sim cf.ti c s1 (a.tmps :: ts) g w → execK cf call o.op s1 (fun x s' => opsK cf call ops l (s'.put o.dst x) K) = some res → o.wp P a w next Q := fun s1 hs1 h1 =>
      execK_ok cf H hcall h1 hs1 (fun y s' g' v w' k1 k2 k3 => by
        obtain ⟨h2, h3⟩ := hput a rfl hd k2 k3
        exact hnext _ g' _ w' k1 h2 h3)
    have skip : ∀ (s1 : St), Sim cf.ti c s1 (a.tmps :: ts) g w → opsK cf call ops l (s1.put o.dst (.tup [])) K = some res → next (a.put o.dst undef) w := fun s1 hs1 h1 => by
      obtain ⟨h2, h3⟩ := hput a rfl hd hs1 (.tup rfl (fun i hi => by simp at hi) : RX cf.ti g w (.tup []) undef)
      exact hnext _ g _ w h1 h2 h3
    unfold opsK at h
    simp only [St.putF_eq] at h
    split at h
    · rename_i hg
      rw [if_pos (by simp [Region.wanted, hg])]
      exact .inl (exec s hs h)
    · rename_i j want hg
      split at h
      · cases h
      · rename_i d hd2
        have hsl := hs.slot d
        split at h
        · rename_i τ hx
          rw [hx] at hsl
          have hb := hsl.bool_inv
          have hin : a.tmps[d]? = some (.bool τ.B) := by
            rcases Nat.lt_or_ge d a.tmps.size with hlt | hge
            · simpa [hlt] using hb
            · simp [Array.getElem?_eq_none hge, undef] at hb
          have hw : Region.wanted o (yielded ops a.tmps) = (some τ.B == some want) := by
            simp [Region.wanted, hg, yielded, hd2, hin]
          have hset : ∀ b, τ.B = b → Sim cf.ti c (s.put (some d) (.t .bool (.b b))) (a.tmps :: ts) g w := fun b hbb => hs.setX d (by rw [hb, hbb]; exact RX.bool)
          cases hτ : τ.B with
          | true =>
            rw [hτ] at h
            simp only [cond_true] at h
            cases want with
            | true =>
              rw [if_pos (by rw [hw, hτ]; rfl)]
              exact .inl (exec _ (hset true hτ) (by simpa using h))
            | false =>
              rw [if_neg (by rw [hw, hτ]; decide)]
              exact skip _ (hset true hτ) (by simpa using h)
          | false =>
            rw [hτ] at h
            simp only [cond_false] at h
            cases want with
            | true =>
              rw [if_neg (by rw [hw, hτ]; decide)]
              exact skip _ (hset false hτ) (by simpa using h)
            | false =>
              rw [if_pos (by rw [hw, hτ]; rfl)]
              exact .inl (exec _ (hset false hτ) (by simpa using h))
        · rename_i hx
          rw [hx] at hsl
          have hu : a.tmps.getD d undef = undef := by
            generalize a.tmps.getD d undef = v at hsl
            cases hsl with
            | tup hsz _ => rw [Array.eq_empty_of_size_eq_zero hsz]; rfl
          have hw : Region.wanted o (yielded ops a.tmps) = false := by
            have : yielded ops a.tmps j = none := by
              unfold yielded
              simp only [hd2, Option.bind_some]
              rcases Nat.lt_or_ge d a.tmps.size with hlt | hge
              · have : a.tmps[d]? = some undef := by simpa [hlt] using hu
                rw [this]
                rfl
              · rw [Array.getElem?_eq_none hge]
            simp [Region.wanted, hg, this]
          rw [if_neg (by rw [hw]; decide)]
          exact skip s hs h
        · cases h

theorem opsK_ok {call : Nat → List X → St → (X → St → Option R) → Option R} (hcall : CallOk P cf.ti res call) {c : Ctx} {ts : List (Array Value)} {ops : Array Oper} {K : St → Option R} {Q : Exit → Act → World → Prop} (hQ : Goes' cf.ti c ts res K (Q .normal)) :
    ∀ (l : List Oper) (s : St) (a : Act) (g : Gh) (w : World), opsK cf call ops l s K = some res → Sim cf.ti c s (a.tmps :: ts) g w → a.defers = [] → wpList P ops Q l a w
  | [], s, a, g, w, h, hs, hd => hQ s g a w h hs hd
  | o :: l, s, a, g, w, h, hs, hd => by
    unfold wpList
    exact opsK_step cf H hcall h hs hd fun s' g' a' w' k1 k2 k3 => opsK_ok hcall hQ l s' a' g' w' k1 k2 k3

/-- The loops of a piece of code. -/
def loopsIn : Code → List Code
  | .seq a b => loopsIn a ++ loopsIn b
  | .cond _ a b => loopsIn a ++ loopsIn b
  | .block _ b => loopsIn b
  | .loop b => b :: loopsIn b
  | _ => []
/-- One round of a loop comes to what its meaning says. -/
def LoopOk (cf : Cfg) (call : Nat → List X → St → (X → St → Option R) → Option R) (draw : Array Oper → St → (St → Option R) → Option R) (ann : Nat → Ann) (lm : Nat → List LoopM) (b : Code) (L : LoopM) : Prop :=
  ∀ (K : Ex → St → Option R) (self : List T → Option R) (v : List T), evC cf call draw ann lm b (L.sk.fill v) (roundK (ann (regionId b)) K (selfK L self)) = L.G v self (exitK L K)
def LoopsOk (cf : Cfg) (call : Nat → List X → St → (X → St → Option R) → Option R) (draw : Array Oper → St → (St → Option R) → Option R) (ann : Nat → Ann) (lm : Nat → List LoopM) (l : List Code) : Prop :=
  ∀ b ∈ l, ∀ L ∈ lm (regionId b), LoopOk cf call draw ann lm b L

/-- Where code ends. -/
def conv : Ex → Exit
  | .normal => .normal
  | .exit i => .exit i
  | .ret => .ret

theorem evC_ok {call : Nat → List X → St → (X → St → Option R) → Option R} (hcall : CallOk P cf.ti res call) {draw : Array Oper → St → (St → Option R) → Option R} (hdraw : DrawOk P cf.ti res draw) {ann : Nat → Ann} {lm : Nat → List LoopM} {c : Ctx} {ts : List (Array Value)} :
    ∀ (code : Code), LoopsOk cf call draw ann lm (loopsIn code) → ∀ (s : St) (K : Ex → St → Option R) (Q : Exit → Act → World → Prop) (g : Gh) (a : Act) (w : World), (∀ e, Goes' cf.ti c ts res (K e) (Q (conv e))) → evC cf call draw ann lm code s K = some res → Sim cf.ti c s (a.tmps :: ts) g w → a.defers = [] → code.wp P Q a w := by
  intro code
  induction code with
  | skip => intro hl s K Q g a w hQ h hs hd; exact wp_skip (hQ .normal s g a w (by simpa [evC] using h) hs hd)
  | region id ops d =>
    intro hl s K Q g a w hQ h hs hd
    simp only [evC] at h
    cases d with
    | true => exact hdraw c id ops s (K .normal) ts g a w Q (by simpa using h) hs hd (hQ .normal)
    | false => exact wp_region_list (opsK_ok cf H hcall (hQ .normal) ops.toList s a g w (by simpa using h) hs hd)
  | seq x y ihx ihy =>
    intro hl s K Q g a w hQ h hs hd
    simp only [evC] at h
    refine wp_seq (ihx (fun b hb => hl b (List.mem_append_left _ hb)) s _ _ g a w (fun e => ?_) h hs hd)
    intro s' g' a' w' k1 k2 k3
    cases e with
    | normal => exact ihy (fun b hb => hl b (List.mem_append_right _ hb)) s' K Q g' a' w' hQ k1 k2 k3
    | exit i => exact hQ (.exit i) s' g' a' w' k1 k2 k3
    | ret => exact hQ .ret s' g' a' w' k1 k2 k3
  | cond x y z ihy ihz =>
    intro hl s K Q g a w hQ h hs hd
    simp only [evC, setF_eq] at h
    split at h
    · rename_i τ hx
      have hb := (hx ▸ hs.opx x : RX cf.ti g w (.t .bool τ) (a.eval x)).bool_inv
      have hset : ∀ b, τ.B = b → Sim cf.ti c (setB s x b) (a.tmps :: ts) g w := fun b hbb => by
        unfold setB
        split
        · rename_i t
          exact hs.setX t (by
            have : a.tmps.getD t undef = .bool τ.B := hb
            rw [this, hbb]; exact RX.bool)
        · exact hs
      refine wp_cond_split hb (fun ht => ?_) (fun hf => ?_)
      · rw [ht] at h
        exact ihy (fun b hb => hl b (List.mem_append_left _ hb)) _ K Q g a w hQ (by simpa using h) (hset true ht) hd
      · rw [hf] at h
        exact ihz (fun b hb => hl b (List.mem_append_right _ hb)) _ K Q g a w hQ (by simpa using h) (hset false hf) hd
    · cases h
  | block id b ih =>
    intro hl s K Q g a w hQ h hs hd
    simp only [evC] at h
    refine wp_block (ih hl s _ _ g a w (fun e => ?_) h hs hd)
    intro s' g' a' w' k1 k2 k3
    cases e with
    | normal => exact hQ .normal s' g' a' w' k1 k2 k3
    | exit i =>
      simp only at k1
      simp only [conv, Exit.inBlock]
      split at k1
      · rename_i hi
        rw [if_pos hi]
        exact hQ .normal s' g' a' w' k1 k2 k3
      · rename_i hi
        rw [if_neg hi]
        exact hQ (.exit i) s' g' a' w' k1 k2 k3
    | ret => exact hQ .ret s' g' a' w' k1 k2 k3
  | loop b ih =>
    intro hl s K Q g a w hQ h hs hd
    simp only [evC] at h
    have hnorm : ∀ (ann : Ann) (self : St → Option R) (s : St) (g : Gh) (a : Act) (w : World), normK ann s self = some res → Sim cf.ti c s (a.tmps :: ts) g w → ∃ s' g', self s' = some res ∧ Sim cf.ti c s' (a.tmps :: ts) g' w := by
      intro ann self s g a w h hs
      unfold normK at h
      obtain ⟨s1, g1, h1, hs1⟩ := coerceSlots_ok _ s g _ h hs
      obtain ⟨s2, g2, h2, hs2⟩ := coerceLeaves_ok _ s1 g1 _ h1 hs1
      obtain ⟨g3, hs3⟩ := ((hs2.keep ann.live).canon).gc
      exact ⟨_, g3, h2, hs3⟩
    -- the rule: 'Gd m s': m rounds from s on are enough
    have rule : ∀ (Gd : Nat → St → Prop), (∀ m s, Gd m s → ∃ m', m = m' + 1 ∧ ∃ self, evC cf call draw ann lm b s (roundK (ann (regionId b)) K self) = some res ∧ ∀ s', self s' = some res → ∃ s'', Gd m' s'' ∧ ∀ ts g w, Sim cf.ti c s' ts g w → Sim cf.ti c s'' ts g w) →
        ∀ m s g a w, Gd m s → Sim cf.ti c s (a.tmps :: ts) g w → a.defers = [] → (Code.loop b).wp P Q a w := by
      intro Gd hstep m0 s0 g0 a0 w0 hG0 hs0 hd0
      let Good : Act → World → Nat → Prop := fun a w m => a.defers = [] ∧ ∃ s g, Gd m s ∧ Sim cf.ti c s (a.tmps :: ts) g w
      classical
      refine wp_loop (fun a w => ∃ m, Good a w m) (fun a w => if hx : ∃ m, Good a w m then (exists_min hx).choose else 0) ⟨m0, hd0, s0, g0, hG0, hs0⟩ (fun a w hI => ?_)
      have hm := (exists_min hI).choose_spec.1
      obtain ⟨hd', s1, g1, h1, hs1⟩ := hm
      obtain ⟨m, hmv, self, h2, h3⟩ := hstep _ _ h1
      refine ih (fun b' hb' => hl b' (List.mem_cons_of_mem _ hb')) s1 _ _ g1 a w (fun e => ?_) h2 hs1 hd'
      intro s' g' a' w' k1 k2 k3
      cases e with
      | normal =>
        obtain ⟨s2, g2, k4, k5⟩ := hnorm _ _ s' g' a' w' k1 k2
        obtain ⟨s3, k6, k7⟩ := h3 s2 k4
        have hG : Good a' w' m := ⟨k3, s3, g2, k6, k7 _ _ _ k5⟩
        refine ⟨⟨m, hG⟩, ?_⟩
        rw [dif_pos ⟨m, hG⟩, dif_pos hI, hmv]
        have := (exists_min (⟨m, hG⟩ : ∃ m, Good a' w' m)).choose_spec.2 m hG
        omega
      | exit i =>
        obtain ⟨s2, g2, k4, k5⟩ := hnorm _ _ s' g' a' w' k1 k2
        exact hQ (.exit i) s2 g2 a' w' k4 k5 k3
      | ret =>
        obtain ⟨s2, g2, k4, k5⟩ := hnorm _ _ s' g' a' w' k1 k2
        exact hQ .ret s2 g2 a' w' k4 k5 k3
    obtain ⟨s0, g0, h0, hs0⟩ := hnorm _ _ s g a w h hs
    unfold loopK at h0
    split at h0
    · refine rule (fun m s => iter (fun s self => evC cf call draw ann lm b s (roundK (ann (regionId b)) K self)) m s = some res) (fun m s hG => ?_) cf.n s0 g0 a w h0 hs0 hd
      cases m with
      | zero => simp [iter] at hG
      | succ m => exact ⟨m, rfl, _, hG, fun s' h' => ⟨s', h', fun _ _ _ h => h⟩⟩
    · rename_i L0 r0 hL
      have pick : ∀ l : List LoopM, (∀ L ∈ l, LoopOk cf call draw ann lm b L) → pickK cf.n K s0 l = some res → (Code.loop b).wp P Q a w := by
        intro l
        induction l with
        | nil => intro _ h; cases h
        | cons L r ihl =>
          intro hok h
          unfold pickK at h
          split at h
          · rename_i v hv
            have hLok := hok L (by simp)
            refine rule (fun m s => ∃ v, s = L.sk.fill v ∧ iter (fun v self => L.G v self (exitK L K)) m v = some res) (fun m s hG => ?_) cf.n (L.sk.fill v) g0 a w ⟨v, rfl, h⟩ (by rw [St.mat_fill hv]; exact hs0.canon) hd
            obtain ⟨v, rfl, hG⟩ := hG
            cases m with
            | zero => simp [iter] at hG
            | succ m =>
              refine ⟨m, rfl, selfK L (iter (fun v self => L.G v self (exitK L K)) m), ?_, fun s' h' => ?_⟩
              · rw [hLok]
                exact hG
              · unfold selfK at h'
                split at h'
                · rename_i v' hv'
                  exact ⟨_, ⟨v', rfl, h'⟩, fun ts g w hs => by rw [St.mat_fill hv']; exact hs.canon⟩
                · cases h'
          · exact ihl (fun L hL => hok L (List.mem_cons_of_mem _ hL)) h
      exact pick _ (fun L hL' => hl b (by simp [loopsIn]) L (by rw [hL]; exact hL')) h0
  | exit i => intro hl s K Q g a w hQ h hs hd; exact wp_exit (hQ (.exit i) s g a w (by simpa [evC] using h) hs hd)
  | ret => intro hl s K Q g a w hQ h hs hd; exact wp_ret (hQ .ret s g a w (by simpa [evC] using h) hs hd)
  | _ => intro hl s K Q g a w hQ h hs hd; simp [evC] at h

end
end Go.KX
/- The evaluator is sound: bodies, results, functions known by their meaning. -/
namespace Go.KX
open Go.RowKit

inductive RXs (ti : TypeId → TyI) (g : Gh) (w : World) : List X → List Value → Prop
  | nil : RXs ti g w [] []
  | cons {x : X} {v : Value} {xs : List X} {vs : List Value} (h : RX ti g w x v) (t : RXs ti g w xs vs) : RXs ti g w (x :: xs) (v :: vs)

section
variable {ti : TypeId → TyI} {g : Gh} {w : World}

theorem RXs.length {xs : List X} {vs : List Value} (h : RXs ti g w xs vs) : vs.length = xs.length := by
  induction h with
  | nil => rfl
  | cons _ _ ih => simp [ih]

theorem RXs.get {xs : List X} {vs : List Value} (h : RXs ti g w xs vs) : ∀ i, i < xs.length → RX ti g w (xs.getD i .un) (vs.getD i undef) := by
  induction h with
  | nil => intro i hi; simp at hi
  | cons h _ ih =>
    intro i hi
    cases i with
    | zero => simpa using h
    | succ i => simpa using ih i (by simpa using hi)

theorem RXs.mk : ∀ {xs : List X} {vs : List Value}, vs.length = xs.length → (∀ i, i < xs.length → RX ti g w (xs.getD i .un) (vs.getD i undef)) → RXs ti g w xs vs
  | [], [], _, _ => .nil
  | [], _ :: _, h, _ => by simp at h
  | _ :: _, [], h, _ => by simp at h
  | x :: xs, v :: vs, h, hx => .cons (by simpa using hx 0 (by simp)) (RXs.mk (by simpa using h) fun i hi => by simpa using hx (i + 1) (by simpa using hi))

theorem RXs.append {xs ys : List X} {vs us : List Value} (h : RXs ti g w xs vs) (k : RXs ti g w ys us) : RXs ti g w (xs ++ ys) (vs ++ us) := by
  induction h with
  | nil => exact k
  | cons h _ ih => exact .cons h ih

theorem RXs.mor {ρ : Nat → Option Nat} {g' : Gh} {w' : World} (m : Mor ρ g w g' w') {xs : List X} {vs : List Value} (h : RXs ti g w xs vs) : RXs ti g' w' (xs.map (X.ren ρ)) vs := by
  induction h with
  | nil => exact .nil
  | cons h _ ih => exact .cons (h.mor m) ih

theorem RXs.take {xs : List X} {vs : List Value} (h : RXs ti g w xs vs) : ∀ n, RXs ti g w (xs.take n) (vs.take n) := by
  induction h with
  | nil => intro n; simpa using RXs.nil
  | cons h _ ih => intro n; cases n with
    | zero => exact .nil
    | succ n => exact .cons h (ih n)

theorem RXs.drop {xs : List X} {vs : List Value} (h : RXs ti g w xs vs) : ∀ n, RXs ti g w (xs.drop n) (vs.drop n) := by
  induction h with
  | nil => intro n; simpa using RXs.nil
  | cons h t ih => intro n; cases n with
    | zero => exact .cons h t
    | succ n => exact ih n

def tupV : List Value → Value
  | [v] => v
  | vs => .tuple vs.toArray

theorem RXs.tup {xs : List X} {vs : List Value} (h : RXs ti g w xs vs) : RX ti g w (tupX xs) (tupV vs) := by
  match xs, vs, h with
  | [], [], .nil => exact .tup rfl (fun i hi => by simp at hi)
  | [x], [v], .cons h .nil => exact h
  | x :: y :: xs, v :: u :: vs, .cons h1 (.cons h2 h3) =>
    have := (RXs.cons h1 (.cons h2 h3)).length
    exact .tup (by simpa using this) (fun i hi => by simpa using (RXs.cons h1 (.cons h2 h3)).get i hi)

/-- Values and their cells. -/
inductive FlatV : List (Bool × List Lt) → List Value → List Value → Prop
  | nil : FlatV [] [] []
  | agg {ls : List Lt} {ps : List (Bool × List Lt)} {cs : List Value} {us zs : List Value} (h : cs.length = ls.length) (t : FlatV ps us zs) : FlatV ((true, ls) :: ps) (.agg cs.toArray :: us) (cs ++ zs)
  | one {l : Lt} {ps : List (Bool × List Lt)} {v : Value} {us zs : List Value} (t : FlatV ps us zs) : FlatV ((false, [l]) :: ps) (v :: us) (v :: zs)

theorem flatXs_ok : ∀ (ps : List (Bool × List Lt)) (xs ys : List X) (us : List Value), flatXs ps xs = some ys → RXs ti g w xs us → ∃ zs, FlatV ps us zs ∧ RXs ti g w ys zs
  | [], [], ys, us, h, hx => by
    cases hx
    simp only [flatXs, Option.some.injEq] at h
    subst h
    exact ⟨[], .nil, .nil⟩
  | (true, ls) :: ps, x :: xs, ys, us, h, hx => by
    cases hx with
    | cons h1 h2 =>
      cases h1 with
      | @agg as cs hsz hc =>
        simp only [flatXs] at h
        split at h
        · rename_i hl
          split at h
          · rename_i zs' hz
            cases h
            obtain ⟨zs, k1, k2⟩ := flatXs_ok ps xs zs' _ hz h2
            have hcs : RXs ti g w as cs.toList := RXs.mk (by simpa using hsz) (fun i hi => by
              have := hc i hi
              rwa [Array.getD_eq_getD_getElem?, ← Array.getElem?_toList, ← List.getD_eq_getElem?_getD] at this)
            exact ⟨cs.toList ++ zs, by simpa using FlatV.agg (cs := cs.toList) (by simp [hsz, hl]) k1, hcs.append k2⟩
          · cases h
        · cases h
      | _ => simp [flatXs] at h
  | (false, [l]) :: ps, x :: xs, ys, us, h, hx => by
    cases hx with
    | cons h1 h2 =>
      simp only [flatXs] at h
      split at h
      · rename_i zs' hz
        cases h
        obtain ⟨zs, k1, k2⟩ := flatXs_ok ps xs zs' _ hz h2
        exact ⟨_, .one k1, .cons h1 k2⟩
      · cases h
  | (false, []) :: ps, xs, ys, us, h, hx => by cases xs <;> simp [flatXs] at h
  | (false, _ :: _ :: _) :: ps, xs, ys, us, h, hx => by cases xs <;> simp [flatXs] at h
  | [], _ :: _, ys, us, h, hx => by simp [flatXs] at h
  | (true, _) :: _, [], ys, us, h, hx => by simp [flatXs] at h
  | (false, [_]) :: _, [], ys, us, h, hx => by simp [flatXs] at h

def shPs (sh : List Sh) : List (Bool × List Lt) := sh.map fun s => match s with | .leaf l _ => (false, [l]) | .agg ls => (true, ls.map Prod.fst)

theorem group_ok : ∀ (sh : List Sh) (ys : List X) (us zs : List Value), FlatV (shPs sh) us zs → RXs ti g w ys zs → RXs ti g w (group sh ys) us
  | [], ys, us, zs, h, hx => by cases h; exact .nil
  | .leaf l o :: sh, ys, us, zs, h, hx => by
    cases h with
    | one t =>
      cases hx with
      | cons h1 h2 => exact .cons h1 (group_ok sh _ _ _ t h2)
  | .agg ls :: sh, ys, us, zs, h, hx => by
    cases h with
    | @agg _ _ cs us' zs' hl t =>
      have hl' : cs.length = ls.length := by simpa using hl
      have h1 := hx.take ls.length
      have h2 := hx.drop ls.length
      rw [← hl', List.take_left' rfl, hl'] at h1
      rw [← hl', List.drop_left' rfl, hl'] at h2
      refine .cons (.agg (by simpa using h1.length) fun i hi => ?_) (group_ok sh _ _ _ t h2)
      have := h1.get i hi
      simpa using this

theorem readBack_ok : ∀ (ls : List (Lt × Bool)) (xs : List X) (n : Nat) (m : List Reg) (rs : List T), readBack ls xs n m = some rs → xs = resLeaves ls rs n ∧ m = resRegs ls rs := by
  intro ls xs n m
  induction ls, xs, n, m using readBack.induct with
  | case1 n => intro rs h; simp only [readBack, Option.some.injEq] at h; subst h; exact ⟨rfl, rfl⟩
  | case2 e ls e' r xs n e'' ys m hc rs' hr ih =>
    intro rs h
    simp only [readBack, hc, hr, and_self, if_true, Option.some.injEq] at h
    subst h
    obtain ⟨h1, h2⟩ := ih rs' hr
    obtain ⟨rfl, rfl, rfl⟩ := hc
    exact ⟨by simp [resLeaves, ownE, ← h1], by simp [resRegs, ownE, ← h2]⟩
  | case3 e ls e' r xs n e'' ys m hc hr ih => intro rs h; simp [readBack, hc, hr] at h
  | case4 e ls e' r xs n e'' ys m hc => intro rs h; simp [readBack, hc] at h
  | case5 n m l ls τ xs rs' hr ih =>
    intro rs h
    simp only [readBack, hr, if_true, Option.some.injEq] at h
    subst h
    obtain ⟨h1, h2⟩ := ih rs' hr
    have e0 : ∀ l : Lt, ownE (l, false) = none := fun l => by cases l <;> rfl
    exact ⟨by simp [resLeaves, e0, ← h1], by simp [resRegs, e0, ← h2]⟩
  | case6 n m l ls τ xs hr ih => intro rs h; simp [readBack, hr] at h
  | case7 n m l ls l' τ xs hc => intro rs h; simp [readBack, hc] at h
  | case8 ls xs n m h1 h2 h3 =>
    intro rs h
    unfold readBack at h
    split at h
    · exact absurd rfl (h1 rfl rfl)
    · exact (h2 _ _ _ _ _ _ _ _ rfl rfl rfl).elim
    · exact (h3 _ _ _ _ _ rfl rfl).elim
    · cases h

theorem Sim.push {c : Ctx} {s : St} {ts : List (Array Value)} (hs : Sim ti c s ts g w) {xs : List X} {vs : Array Value} (h : Fr ti g w xs vs) : Sim ti c ⟨xs :: s.fr, s.m⟩ (vs :: ts) g w where
  nr := hs.nr
  im := hs.im
  own := hs.own
  reg := hs.reg
  nf := by simpa using hs.nf
  fr := fun k hk => by
    cases k with
    | zero => simpa using h
    | succ k => simpa using hs.fr k (by simpa using hk)
  fm := hs.fm

theorem Sim.pop {c : Ctx} {s : St} {t : Array Value} {ts : List (Array Value)} (hs : Sim ti c s (t :: ts) g w) : Sim ti c ⟨s.fr.tail, s.m⟩ ts g w := by
  obtain ⟨fr, m⟩ := s
  cases fr with
  | nil => have := hs.nf; simp at this
  | cons xs fr => exact ⟨hs.nr, hs.im, hs.own, hs.reg, by have := hs.nf; simpa using this, fun k hk => by simpa using hs.fr (k + 1) (by simpa using hk), hs.fm⟩

theorem RXs.fr {xs : List X} {vs : List Value} (h : RXs ti g w xs vs) : Fr ti g w xs vs.toArray :=
  ⟨by simpa using h.length, fun i => by
    rcases Nat.lt_or_ge i xs.length with hi | hi
    · simpa using h.get i hi
    · rw [List.getD_eq_getElem?_getD, List.getElem?_eq_none hi]
      exact .un⟩

theorem Fr.rxs {xs : List X} {vs : Array Value} (h : Fr ti g w xs vs) : RXs ti g w xs vs.toList :=
  RXs.mk (by simpa using h.size) fun i _ => by
    have := h.get i
    rwa [Array.getD_eq_getD_getElem?, ← Array.getElem?_toList, ← List.getD_eq_getElem?_getD] at this

theorem finish_ok {c : Ctx} {sh : List Sh} {xs : List X} {m : List Reg} {rs : List T} (h : finish sh xs m = some rs) (hs : Sim ti c ⟨[], m⟩ [] g w) {us : List Value} (hx : RXs ti g w xs us) :
    ∃ g', Sim ti c ⟨[], resRegs (shLvs sh) rs⟩ [] g' w ∧ RXs ti g' w (group sh (resLeaves (shLvs sh) rs 0)) us := by
  unfold finish at h
  split at h
  · rename_i ys hy
    obtain ⟨zs, k1, k2⟩ := flatXs_ok _ _ _ _ hy hx
    obtain ⟨s', g', k3, k4⟩ := coerceSlots_ok _ _ _ _ h (hs.push k2.fr)
    obtain ⟨g'', k5⟩ := k4.gc
    obtain ⟨e1, e2⟩ := readBack_ok _ _ _ _ _ k3
    have h0 := k5.fr 0 (by rw [k5.nf]; simp)
    have e3 : s'.gc.fr.getD 0 [] = s'.gc.cur := by unfold St.cur; cases s'.gc.fr <;> rfl
    rw [e3, e1] at h0
    refine ⟨g'', ?_, group_ok sh _ _ _ k1 (by simpa using h0.rxs)⟩
    have h1 := k5.pop
    have e4 : s'.gc.fr.tail = [] := by
      have := k5.nf
      cases hfr : s'.gc.fr with
      | nil => rfl
      | cons a b => rw [hfr] at this; simpa using this
    rw [e4, e2] at h1
    exact h1
  · cases h

end

section
variable {P : Program} {R : Type} {res : R} (cf : Cfg) (H : TabOk P cf.ti)
include H

theorem resultX_ok {c : Ctx} {s : St} {a : Act} {ts : List (Array Value)} {g : Gh} {w : World} (hs : Sim cf.ti c s (a.tmps :: ts) g w) :
    ∀ (l : List ResultVar) (xs : List X), resultX cf s l = some xs → ∃ vs, (∀ (f : ResultVar → Sem Value) (_ : ∀ u, f (.tmp u) = pure (a.tmps.getD u undef)) (_ : ∀ p t, f (.cell p t) = (do loadVar t (← asAddr (a.tmps.getD p undef)))), (l.mapM f).run P w = .ok vs w) ∧ RXs cf.ti g w xs vs
  | [], xs, h => by
    simp only [resultX, Option.some.injEq] at h
    subst h
    exact ⟨[], fun f _ _ => by simp, .nil⟩
  | .tmp t :: l, xs, h => by
    simp only [resultX] at h
    split at h
    · rename_i ys hy
      cases h
      obtain ⟨vs, k1, k2⟩ := resultX_ok hs l ys hy
      exact ⟨a.tmps.getD t undef :: vs, fun f hf hc => by rw [List.mapM_cons, hf]; simp [k1 f hf hc], .cons (hs.slot t) k2⟩
    · cases h
  | .cell p t :: l, xs, h => by
    simp only [resultX] at h
    split at h
    · rename_i x ys hx hy
      cases h
      obtain ⟨vs, k1, k2⟩ := resultX_ok hs l ys hy
      obtain ⟨v, k3, k4⟩ := loadX_ok (P := P) H hs hx (hs.slot p)
      have hA : ∃ A, a.tmps.getD p undef = .pointer (some A) := by
        have := hs.slot p
        generalize a.tmps.getD p undef = u at this
        generalize s.cur.getD p .un = z at this hx
        cases this with
        | pb => exact ⟨_, rfl⟩
        | pa => exact ⟨_, rfl⟩
        | pt => exact ⟨_, rfl⟩
        | _ => simp [loadX] at hx
      obtain ⟨A, hA⟩ := hA
      rw [hA] at k3
      have k3' : (loadVar t A).run P w = .ok v w := by simpa [Instr.loadAt, Instr.sureAddr] using k3
      exact ⟨v :: vs, fun f hf hc => by rw [List.mapM_cons, hc, hA]; simp [asAddr, k3', k1 f hf hc], .cons k4 k2⟩
    · cases h

theorem results_ok {c : Ctx} {s : St} {a : Act} {ts : List (Array Value)} {g : Gh} {w : World} (hs : Sim cf.ti c s (a.tmps :: ts) g w) {fn : Func} {xs : List X} (h : resultX cf s fn.results.toList = some xs) :
    ∃ vs, (results fn a.tmps).run P w = .ok (tupV vs) w ∧ RXs cf.ti g w xs vs := by
  unfold results
  rw [← Array.toArray_toList (xs := fn.results), List.mapM_toArray]
  simp only [Sem.run_bind, Sem.run_map]
  obtain ⟨vs, k1, k2⟩ := resultX_ok cf H hs _ _ h
  refine ⟨vs, ?_, k2⟩
  rw [k1 _ (fun _ => rfl) (fun _ _ => rfl)]
  match vs with
  | [] => simp [tupV]
  | [v] => simp [tupV]
  | v :: u :: vs => simp [tupV]

/-- What holds of the given code. -/
def CodeOk (P : Program) (cf : Cfg) : Prop := ∀ f fn, cf.code f = some fn → P.funcs[f]? = some fn ∧ (fn.name == "runtime.NumGoroutine") = false

theorem bodyK_ok (hcode : CodeOk P cf) {call : Nat → List X → St → (X → St → Option R) → Option R} (hcall : CallOk P cf.ti res call) {draw : Array Oper → St → (St → Option R) → Option R} (hdraw : DrawOk P cf.ti res draw) {lm : Nat → List LoopM}
    {c : Ctx} {f : Nat} {xs : List X} {vs : Array Value} {s : St} {K : List X → St → Option R} {ts : List (Array Value)} {g : Gh} {w : World} (hl : ∀ fn b, cf.code f = some fn → fn.body = some b → LoopsOk cf call draw (cf.ann f) lm (loopsIn b)) (h : bodyK cf call draw lm f xs s K = some res) (hs : Sim cf.ti c s ts g w) (hsz : vs.size = xs.length)
    (hx : ∀ i, i < xs.length → RX cf.ti g w (xs.getD i .un) (vs.getD i undef)) :
    Callable P f ∧ Calls P f vs w fun e w' => ∃ ys us s' g', e = .returned (tupV us) ∧ K ys s' = some res ∧ Sim cf.ti c s' ts g' w' ∧ RXs cf.ti g' w' ys us := by
  unfold bodyK at h
  split at h
  · cases h
  rename_i fn hfn
  split at h
  · cases h
  rename_i b hb
  obtain ⟨hP, hname⟩ := hcode f fn hfn
  refine ⟨⟨fn, hP, by rw [hb]; rfl, hname⟩, calls_of_wp hP hb ?_⟩
  have hfr : Fr cf.ti g w (xs ++ List.replicate (fn.ntmps - xs.length) (.tup [])) (vs ++ Array.replicate (fn.ntmps - vs.size) undef) := by
    refine ⟨by simp [hsz], fun i => ?_⟩
    by_cases h1 : i < xs.length
    · have h1' : i < vs.size := by omega
      have e1 : (xs ++ List.replicate (fn.ntmps - xs.length) (X.tup [])).getD i .un = xs.getD i .un := by simp [List.getElem?_append_left h1]
      have e2 : (vs ++ Array.replicate (fn.ntmps - vs.size) undef).getD i undef = vs.getD i undef := by simp [Array.getElem?_append_left h1']
      rw [e1, e2]
      exact hx i h1
    · by_cases h2 : i < fn.ntmps
      · have e1 : (xs ++ List.replicate (fn.ntmps - xs.length) (X.tup [])).getD i .un = .tup [] := by
          rw [List.getD_eq_getElem?_getD, List.getElem?_append_right (by omega), List.getElem?_replicate, if_pos (by omega)]; rfl
        have e2 : (vs ++ Array.replicate (fn.ntmps - vs.size) undef).getD i undef = undef := by
          rw [Array.getD_eq_getD_getElem?, Array.getElem?_append_right (by omega), Array.getElem?_replicate]
          split <;> rfl
        rw [e1, e2]
        exact .tup rfl (fun i hi => by simp at hi)
      · have e1 : (xs ++ List.replicate (fn.ntmps - xs.length) (X.tup [])).getD i .un = .un := by
          rw [List.getD_eq_getElem?_getD, List.getElem?_eq_none (by simp; omega)]; rfl
        rw [e1]
        exact .un
  refine evC_ok cf H hcall hdraw b (hl fn b hfn hb) _ _ _ g { tmps := vs ++ Array.replicate (fn.ntmps - vs.size) undef, defers := [] } w (fun e => ?_) h (hs.push hfr) rfl
  intro s' g' a' w' k1 k2 k3
  have fin : (match resultX cf s' fn.results.toList with | some rs => K rs ⟨s'.fr.tail, s'.m⟩ | none => none) = some res →
      a'.defers = [] ∧ ∃ v, (results fn a'.tmps).run P w' = .ok v w' ∧ ∃ ys us s'' g'', Ending.returned v = .returned (tupV us) ∧ K ys s'' = some res ∧ Sim cf.ti c s'' ts g'' w' ∧ RXs cf.ti g'' w' ys us := fun k => by
    split at k
    · rename_i rs hr
      obtain ⟨us, k4, k5⟩ := results_ok cf H k2 hr
      exact ⟨k3, _, k4, rs, us, _, g', rfl, k, k2.pop, k5⟩
    · cases k
  cases e with
  | normal => exact fin k1
  | exit i => simp at k1
  | ret => exact fin k1

end
end Go.KX
/- The evaluator is sound: functions known by their meaning. -/
namespace Go.KX
open Go.RowKit

def gh0 (im : Nat → Prop) : Gh := ⟨fun _ => none, im, fun _ => (0, 0), fun _ => 0, fun _ => 0, 0⟩

/-- What a function gives back for arguments that are only read: new memory, or the arguments' own. -/
def EnvOk (P : Program) (ti : TypeId → TyI) (n f : Nat) (sg : Sig) (me : Mean) : Prop :=
  ∀ (τs rs : List T), me.app n τs = some rs →
    ∀ (im : Nat → Prop) (w : World) (us : List Value), (∀ b, im b → b < w.heap.size) → RXs ti (gh0 im) w (argXs sg.ps τs) us →
      Callable P f ∧ Calls P f us.toArray w fun e w' => ∃ vs g', e = .returned (tupV vs) ∧ Sim ti ⟨w, fun _ => False, im⟩ ⟨[], resRegs (shLvs sg.rs) rs⟩ [] g' w' ∧ RXs ti g' w' (group sg.rs (resLeaves (shLvs sg.rs) rs 0)) vs

section
variable {ti : TypeId → TyI}

theorem RL.plain {im im' : Nat → Prop} {w w' : World} {l : Lt} {τ : T} {v : Value} (h : RL ti im w l τ v) (hl : isSl l = false) : RL ti im' w' l τ v := by
  cases h with
  | int h1 h2 => exact .int h1 h2
  | bool => exact .bool
  | str h => exact .str h
  | _ => simp [isSl] at hl

/-- Two memories laid together. -/
def Gh.join (g g' : Gh) (n : Nat) : Gh where
  own := fun b => if b < n then g.own b else (g'.own b).map (· + g.nr)
  im := fun b => if b < n then g.im b else g'.im b
  loc := fun r => if r < g.nr then g.loc r else g'.loc (r - g.nr)
  cap := fun r => if r < g.nr then g.cap r else g'.cap (r - g.nr)
  len := fun r => if r < g.nr then g.len r else g'.len (r - g.nr)
  nr := g.nr + g'.nr

theorem Sim.join {c : Ctx} {s : St} {ts : List (Array Value)} {g g' : Gh} {w w' : World} {im : Nat → Prop} {m : List Reg} (hs : Sim ti c s ts g w) (h : Sim ti ⟨w, fun _ => False, im⟩ ⟨[], m⟩ [] g' w') (him : ∀ b, im b → g.im b) (hm : ∀ R ∈ m, R.ren (fun r => some (r + g.nr)) = R) :
    Sim ti c ⟨s.fr, s.m ++ m⟩ ts (g.join g' w.heap.size) w' ∧ Mor (fun r => some (r + g.nr)) g' w' (g.join g' w.heap.size) w' := by
  have m1 : Mor some g w (g.join g' w.heap.size) w' := ⟨fun b hb => by
      have h1 := (hs.im b hb).1
      exact ⟨by simpa [Gh.join, h1] using hb, (h.fm.old b h1 (by simp)).1⟩, fun r r' hn hr => by
      cases hr
      simp only [Gh.join, if_pos hn, and_self, and_true]
      omega⟩
  have m2 : Mor (fun r => some (r + g.nr)) g' w' (g.join g' w.heap.size) w' := ⟨fun b hb => by
      refine ⟨?_, rfl⟩
      simp only [Gh.join]
      split
      · rename_i h1
        exact him b ((h.fm.old b h1 (by simp)).2.2 hb)
      · exact hb, fun r r' hn hr => by
      cases hr
      have e1 : ¬ (r + g.nr < g.nr) := by omega
      simp only [Gh.join, if_neg e1, Nat.add_sub_cancel, and_self, and_true]
      omega⟩
  refine ⟨hs.step1 m1 ?_ (fun b hb => ?_) (fun b r hb => ?_) (fun r hr => ?_) ⟨?_, ?_, ?_, ?_, fun b hb hn => ?_⟩, m2⟩
  · have h1 := hs.nr
    have h2 := h.nr
    simp only at h2
    simp [Gh.join, h1, h2]
  · simp only [Gh.join] at hb ⊢
    have hle := h.fm.size
    simp only at hle
    split at hb
    · rename_i h1
      rw [if_pos h1]
      exact ⟨by omega, (hs.im b hb).2⟩
    · rename_i h1
      rw [if_neg h1]
      obtain ⟨k1, k2⟩ := h.im b hb
      exact ⟨k1, by simp [k2]⟩
  · simp only [Gh.join] at hb ⊢
    have hle := h.fm.size
    simp only at hle
    split at hb
    · rename_i h1
      have := (hs.own b r hb).2
      exact ⟨by omega, by omega⟩
    · simp only [Option.map_eq_some_iff] at hb
      obtain ⟨q, h1, rfl⟩ := hb
      obtain ⟨k1, k2⟩ := h.own b q h1
      exact ⟨k1, by omega⟩
  · have hnr := hs.nr
    have hnr' := h.nr
    simp only at hnr'
    by_cases h1 : r < g.nr
    · have e1 : (s.m ++ m).getD r .dead = s.reg r := by
        unfold St.reg
        simp [List.getElem?_append_left (show r < s.m.length by omega)]
      rw [e1]
      refine (hs.reg r h1).mor1 m1 h1 (fun b hb => ?_)
      have h2 := (hs.own b r hb).1
      exact ⟨by simpa [Gh.join, h2] using hb, (h.fm.old b h2 (by simp)).1⟩
    · have hr' : r < g.nr + g'.nr := hr
      have e1 : (s.m ++ m).getD r .dead = (St.mk [] m).reg (r - g.nr) := by
        unfold St.reg
        simp [List.getElem?_append_right (show s.m.length ≤ r by omega), hnr]
      have hlt : r - g.nr < g'.nr := by omega
      have h2 := (h.reg _ hlt).mor m2 (r' := r) (by simp; omega) hlt (fun b hb => ⟨by
        have h3 : ¬ b < w.heap.size := fun h3 => by
          have := (h.fm.old b h3 (by simp)).2.1
          rw [this] at hb
          cases hb
        simp only [Gh.join, if_neg h3, hb, Option.map_some]
        congr 1
        omega, rfl⟩)
      rw [e1]
      rwa [hm _ (by
        have : r - g.nr < m.length := by omega
        simp [St.reg, this])] at h2
  · rw [h.fm.os]; exact hs.fm.os
  · rw [h.fm.tape]; exact hs.fm.tape
  · rw [h.fm.output]; exact hs.fm.output
  · exact Nat.le_trans hs.fm.size h.fm.size
  · have h1 : b < w.heap.size := Nat.lt_of_lt_of_le hb hs.fm.size
    obtain ⟨k1, k2, k3⟩ := hs.fm.old b hb hn
    exact ⟨(h.fm.old b h1 (by simp)).1.trans k1, by simpa [Gh.join, h1] using k2, fun k => k3 (by simpa [Gh.join, h1] using k)⟩

theorem resRegs_ren (ρ : Nat → Option Nat) : ∀ (ls : List (Lt × Bool)) (rs : List T), ∀ R ∈ resRegs ls rs, R.ren ρ = R
  | [], rs, R, h => by simp [resRegs] at h
  | p :: ls, rs, R, h => by
    unfold resRegs at h
    split at h
    · simp only [List.mem_cons] at h
      rcases h with rfl | h
      · rfl
      · exact resRegs_ren ρ ls _ R h
    · exact resRegs_ren ρ ls _ R h

theorem resLeaves_ren (k : Nat) : ∀ (ls : List (Lt × Bool)) (rs : List T) (n : Nat), (resLeaves ls rs n).map (X.ren fun r => some (r + k)) = resLeaves ls rs (n + k)
  | [], rs, n => rfl
  | p :: ls, rs, n => by
    unfold resLeaves
    split
    · simp [X.ren, resLeaves_ren k ls, Nat.add_right_comm]
    · simp [X.ren, resLeaves_ren k ls]

theorem group_ren (ρ : Nat → Option Nat) : ∀ (sh : List Sh) (xs : List X), (group sh xs).map (X.ren ρ) = group sh (xs.map (X.ren ρ))
  | [], xs => rfl
  | .leaf _ _ :: sh, xs => by
    cases xs with
    | nil => simp [group, X.ren, group_ren ρ sh []]
    | cons x xs => simp [group, group_ren ρ sh xs]
  | .agg ls :: sh, xs => by simp [group, X.ren, X.renL_eq, group_ren ρ sh, List.map_take, List.map_drop]

def Pl (x : X) : Prop := x = .un ∨ (∃ l τ, x = .t l τ ∧ isSl l = false) ∨ ∃ e r, x = .own e r
theorem Pl.rx {g g2 : Gh} {w : World} (h1 : g2.loc = g.loc) (h2 : g2.cap = g.cap) (h3 : g2.len = g.len) (h4 : g2.nr = g.nr) {x : X} {v : Value} (hp : Pl x) (h : RX ti g w x v) : RX ti g2 w x v := by
  rcases hp with rfl | ⟨l, τ, rfl, hl⟩ | ⟨e, r, rfl⟩
  · exact .un
  · cases h with
    | t h => exact .t (h.plain hl)
  · cases h with
    | own hn ha =>
      rw [← h2, ← h3]
      exact .own (by rw [h4]; exact hn) (by unfold Gh.addr at *; rw [h1, h2]; exact ha)

theorem resLeaves_pl : ∀ (ls : List (Lt × Bool)) (rs : List T) (n : Nat), (∀ p ∈ ls, immL ti p = false) → ∀ x ∈ resLeaves ls rs n, Pl x
  | [], rs, n, _, x, h => by simp [resLeaves] at h
  | p :: ls, rs, n, hp, x, h => by
    have hl := hp p (by simp)
    have hp' : ∀ p ∈ ls, immL ti p = false := fun q hq => hp q (List.mem_cons_of_mem _ hq)
    unfold immL at hl
    unfold resLeaves at h
    cases ho : ownE p with
    | some e =>
      rw [ho] at h
      simp only [List.mem_cons] at h
      rcases h with rfl | h
      · exact .inr (.inr ⟨_, _, rfl⟩)
      · exact resLeaves_pl ls _ _ hp' x h
    | none =>
      rw [ho] at h hl
      simp only [List.mem_cons] at h hl
      rcases h with rfl | h
      · exact .inr (.inl ⟨_, _, rfl, hl⟩)
      · exact resLeaves_pl ls _ _ hp' x h

theorem RXs.pl {g g2 : Gh} {w : World} (h1 : g2.loc = g.loc) (h2 : g2.cap = g.cap) (h3 : g2.len = g.len) (h4 : g2.nr = g.nr) {xs : List X} {us : List Value} (h : RXs ti g w xs us) : (∀ x ∈ xs, Pl x) → RXs ti g2 w xs us := by
  induction h with
  | nil => intro _; exact .nil
  | cons h _ ih => intro hp; exact .cons ((hp _ (by simp)).rx h1 h2 h3 h4 h) (ih fun x hx => hp x (List.mem_cons_of_mem _ hx))

theorem group_pl {g g2 : Gh} {w : World} (h1 : g2.loc = g.loc) (h2 : g2.cap = g.cap) (h3 : g2.len = g.len) (h4 : g2.nr = g.nr) : ∀ (sh : List Sh) (xs : List X) (us : List Value), (∀ x ∈ xs, Pl x) → RXs ti g w (group sh xs) us → RXs ti g2 w (group sh xs) us
  | [], xs, us, hp, h => by cases h; exact .nil
  | .leaf _ _ :: sh, xs, us, hp, h => by
    cases h with
    | cons k1 k2 =>
      refine .cons (Pl.rx h1 h2 h3 h4 ?_ k1) (group_pl h1 h2 h3 h4 sh _ _ (fun x hx => hp x (List.mem_of_mem_tail hx)) k2)
      cases xs with
      | nil => exact .inl rfl
      | cons x xs => exact hp x (by simp)
  | .agg ls :: sh, xs, us, hp, h => by
    cases h with
    | cons k1 k2 =>
      refine .cons ?_ (group_pl h1 h2 h3 h4 sh _ _ (fun x hx => hp x (List.mem_of_mem_drop hx)) k2)
      cases k1 with
      | agg hs hx =>
        refine .agg hs fun i hi => Pl.rx h1 h2 h3 h4 (hp _ ?_) (hx i hi)
        have : (xs.take ls.length).getD i .un ∈ xs.take ls.length := by
          rw [List.getD_eq_getElem?_getD, List.getElem?_eq_getElem hi]
          exact List.getElem_mem hi
        exact List.mem_of_mem_take this

theorem argX_ok {g : Gh} {w : World} {l : Lt} {τ : T} {v : Value} (h : RL ti g.im w l τ v) : RX ti g w (argX l τ) v := by
  cases h with
  | box cs hb hcell hr => exact .pt cs hb hcell hr
  | fnc => exact .fn rfl (fun i hi => by simp at hi)
  | int h1 h2 => exact .t (.int h1 h2)
  | bool => exact .t .bool
  | str h => exact .t (.str h)
  | empty h => exact .t (.empty h)
  | slice cs hb hc hn hcell hr => exact .t (.slice cs hb hc hn hcell hr)

theorem RX.argX {g : Gh} {w : World} {l : Lt} {τ : T} {v : Value} (h : RX ti g w (.t l τ) v) : RX ti g w (argX l τ) v := by
  cases h with
  | t h => exact argX_ok h

theorem flat_back {im : Nat → Prop} {g : Gh} {w : World} : ∀ (ps : List (Bool × List Lt)) (us zs : List Value) (τs : List T), FlatV ps us zs → (∀ i, i < (flatLs ps).length → RL ti im w ((flatLs ps).getD i .fn) (τs.getD i (.i 0)) (zs.getD i undef)) → (∀ b, im b → g.im b) →
    RXs ti g w (argXs ps τs) us := by
  intro ps us zs τs h
  induction h generalizing τs with
  | nil => intro _ _; exact .nil
  | @agg ls ps cs us zs hl _ ih =>
    intro hr him
    refine .cons (.agg ?_ fun i hi => ?_) (ih _ (fun i hi => ?_) him)
    · simp only [List.size_toArray, hl]
      have : ∀ (ls : List Lt) (τs : List T), (leafXs ls τs).length = ls.length := by
        intro ls
        induction ls with
        | nil => intro τs; rfl
        | cons l ls ih => intro τs; simp [leafXs, ih]
      rw [this]
    · have key : ∀ (ls : List Lt) (τs : List T) (i : Nat), i < ls.length → (leafXs ls τs).getD i .un = .t (ls.getD i .fn) (τs.getD i (.i 0)) := by
        intro ls
        induction ls with
        | nil => intro τs i hi; simp at hi
        | cons l ls ih =>
          intro τs i hi
          cases i with
          | zero => cases τs <;> simp [leafXs]
          | succ i =>
            have := ih τs.tail i (by simpa using hi)
            cases τs <;> simpa [leafXs] using this
      have hlen : ∀ (ls : List Lt) (τs : List T), (leafXs ls τs).length = ls.length := by
        intro ls
        induction ls with
        | nil => intro τs; rfl
        | cons l ls ih => intro τs; simp [leafXs, ih]
      have hi' : i < ls.length := by rw [hlen] at hi; exact hi
      rw [key _ _ _ hi']
      have := hr i (by simp [flatLs]; omega)
      have e1 : (flatLs ((true, ls) :: ps)).getD i .fn = ls.getD i .fn := by simp [flatLs, List.getElem?_append_left hi']
      have e2 : (cs ++ zs).getD i undef = cs.toArray.getD i undef := by simp [List.getElem?_append_left (show i < cs.length by omega)]
      rw [e1, e2] at this
      exact .t (this.mono fun b hb => ⟨him b hb, rfl⟩)
    · have := hr (ls.length + i) (by simp [flatLs]; omega)
      have e1 : (flatLs ((true, ls) :: ps)).getD (ls.length + i) .fn = (flatLs ps).getD i .fn := by simp [flatLs, List.getElem?_append_right]
      have e2 : (cs ++ zs).getD (ls.length + i) undef = zs.getD i undef := by simp [List.getElem?_append_right (show cs.length ≤ ls.length + i by omega), hl]
      rw [e1, e2] at this
      simpa using this
  | @one l ps v us zs _ ih =>
    intro hr him
    refine .cons (argX_ok ?_) (ih _ (fun i hi => ?_) him)
    · have := hr 0 (by simp [flatLs])
      have e2 : τs.getD 0 (.i 0) = τs.headD (.i 0) := by cases τs <;> rfl
      rw [e2] at this
      exact (by simpa [flatLs] using this : RL ti im w l (τs.headD (.i 0)) v).mono fun b hb => ⟨him b hb, rfl⟩
    · have := hr (i + 1) (by simp [flatLs]; omega)
      simpa [flatLs, Nat.add_comm] using this

end

theorem Sim.bare {ti : TypeId → TyI} {c : Ctx} {s : St} {ts : List (Array Value)} {g : Gh} {w : World} (hs : Sim ti c s ts g w) : Sim ti c ⟨[], s.m⟩ [] g w :=
  ⟨hs.nr, hs.im, hs.own, hs.reg, rfl, fun k hk => by simp at hk, hs.fm⟩

theorem argsK_ok {P : Program} {ti : TypeId → TyI} (H : TabOk P ti) {c : Ctx} {ls : List Lt} {ys : List X} {fr : List (List X)} {m : List Reg} {τs : List T} {s2 : St} {ts : List (Array Value)} {g : Gh} {w : World} {vs : List Value}
    (h : argsK ti ls ys fr m = some (τs, s2)) (hs : Sim ti c ⟨fr, m⟩ ts g w) (hx : RXs ti g w ys vs) :
    ∃ g', Sim ti c s2 ts g' w ∧ ∀ i, i < ls.length → RL ti g'.im w (ls.getD i .fn) (τs.getD i (.i 0)) (vs.getD i undef) := by
  unfold argsK at h
  split at h
  · cases h
  · rename_i s1 hb
    obtain ⟨g1, k1⟩ := bzK_ok H _ _ _ _ _ hb (hs.push hx.fr)
    have h0 := k1.fr 0 (by rw [k1.nf]; simp)
    have e3 : s1.fr.getD 0 [] = s1.cur := by unfold St.cur; cases s1.fr <;> rfl
    rw [e3] at h0
    simp only [List.getD_cons_zero] at h0
    have h1 := h0.rxs
    obtain ⟨τs', s', g', k2, k3, _, k5, _, k7⟩ := toTs_ok _ _ _ _ g1 vs h k1.pop h1.length h1.get
    cases k2
    exact ⟨g', k3, fun i hi => k7 i (by omega)⟩

section
variable {P : Program} {R : Type} {res : R} (cf : Cfg) (H : TabOk P cf.ti)

/-- Every function known by its meaning means it. -/
def EnvsOk (P : Program) (cf : Cfg) : Prop := ∀ f sg me, cf.fenv f = some (sg, me) → EnvOk P cf.ti cf.n f sg me

def noDraw {R : Type} : (Nat → List X → St → (X → St → Option R) → Option R) → Array Oper → St → (St → Option R) → Option R := fun _ _ _ _ => none
/-- The drawn regions are rightly read. -/
def DrawsOk (P : Program) (ti : TypeId → TyI) (res : R) (draw : (Nat → List X → St → (X → St → Option R) → Option R) → Array Oper → St → (St → Option R) → Option R) : Prop :=
  ∀ call, CallOk P ti res call → DrawOk P ti res (draw call)
theorem noDraw_ok (ti : TypeId → TyI) : DrawsOk P ti res noDraw := fun _ _ _ _ _ _ _ _ _ _ _ _ h => by cases h

include H

theorem callK_ok (hcode : CodeOk P cf) (henv : EnvsOk P cf) {draw : (Nat → List X → St → (X → St → Option R) → Option R) → Array Oper → St → (St → Option R) → Option R} (hdraw : DrawsOk P cf.ti res draw) {lms : Nat → Nat → Nat → List LoopM}
    (hl : ∀ d f fn b, cf.code f = some fn → fn.body = some b → LoopsOk cf (callK cf draw lms d) (draw (callK cf draw lms d)) (cf.ann f) (lms d f) (loopsIn b)) : ∀ d, CallOk P cf.ti res (callK cf draw lms d) := by
  intro d
  induction d with
  | zero => intro c f xs vs s K ts g w h; cases h
  | succ d ih =>
    intro c f xs vs s K ts g w h hs hsz hx
    have body : (bodyK cf (callK cf draw lms d) (draw (callK cf draw lms d)) (lms d f) f xs s fun rs s' => K (tupX rs) s') = some res →
        Callable P f ∧ Calls P f vs w fun e w' => ∃ v y s' g', e = .returned v ∧ K y s' = some res ∧ Sim cf.ti c s' ts g' w' ∧ RX cf.ti g' w' y v := fun h => by
      obtain ⟨k1, k2⟩ := bodyK_ok cf H hcode ih (hdraw _ ih) (hl d f) h hs hsz hx
      refine ⟨k1, k2.mono fun e w' he => ?_⟩
      obtain ⟨ys, us, s', g', rfl, j1, j2, j3⟩ := he
      exact ⟨_, _, _, _, rfl, j1, j2, j3.tup⟩
    unfold callK at h
    split at h
    · rename_i sg me hf
      split at h
      · exact body h
      rename_i ys hy
      have hxs : RXs cf.ti g w xs vs.toList := RXs.mk (by simpa using hsz) fun i hi => by
        have := hx i hi
        rwa [Array.getD_eq_getD_getElem?, ← Array.getElem?_toList, ← List.getD_eq_getElem?_getD] at this
      obtain ⟨zs, k1, k2⟩ := flatXs_ok _ _ _ _ hy hxs
      have run : ∀ (fr : List (List X)) (tz : List (Array Value)) (τs : List T) (s1 : St) (rs : List T), argsK cf.ti (flatLs sg.ps) ys fr s.m = some (τs, s1) → Sim cf.ti c ⟨fr, s.m⟩ tz g w → me.app cf.n τs = some rs →
          ∃ g1, Sim cf.ti c s1 tz g1 w ∧ Callable P f ∧ Calls P f vs w fun e w' => ∃ us g', e = .returned (tupV us) ∧ Sim cf.ti ⟨w, fun _ => False, g1.im⟩ ⟨[], resRegs (shLvs sg.rs) rs⟩ [] g' w' ∧ RXs cf.ti g' w' (group sg.rs (resLeaves (shLvs sg.rs) rs 0)) us := fun fr tz τs s1 rs hto hsim hrs => by
        obtain ⟨g1, k4, k8⟩ := argsK_ok H hto hsim k2
        have hargs : RXs cf.ti (gh0 g1.im) w (argXs sg.ps τs) vs.toList := flat_back _ _ _ _ k1 (fun i hi => k8 i hi) (fun b hb => hb)
        obtain ⟨hcb, hC'⟩ := henv f sg me hf _ _ hrs g1.im w vs.toList (fun b hb => (k4.im b hb).1) hargs
        rw [Array.toArray_toList] at hC'
        exact ⟨g1, k4, hcb, hC'⟩
      split at h
      · split at h
        · exact body h
        rename_i τs s1 hto
        split at h
        · cases h
        rename_i rs hrs
        obtain ⟨g1, k4, hcb, hC'⟩ := run _ _ _ _ _ hto hs hrs
        refine ⟨hcb, hC'.mono fun e w' he => ?_⟩
        obtain ⟨us, g', rfl, k9, k10⟩ := he
        obtain ⟨j1, j2⟩ := k4.join k9 (fun b hb => hb) (resRegs_ren _ _ _)
        have j3 := (k10.mor j2).tup
        rw [group_ren, resLeaves_ren, Nat.zero_add, k4.nr] at j3
        exact ⟨_, _, _, _, rfl, h, j1, j3⟩
      · rename_i himm
        split at h
        · exact body h
        rename_i τs s1 hto
        split at h
        · cases h
        rename_i rs hrs
        obtain ⟨g1, k4, hcb, hC'⟩ := run _ _ _ _ _ hto hs.bare hrs
        refine ⟨hcb, hC'.mono fun e w' he => ?_⟩
        obtain ⟨us, g', rfl, k9, k10⟩ := he
        have himm' : ∀ p ∈ shLvs sg.rs, immL cf.ti p = false := by simpa using himm
        let g2 : Gh := { g' with im := fun _ => False }
        have q1 := resLeaves_pl (ti := cf.ti) (shLvs sg.rs) rs 0 himm'
        have q3 := group_pl (g := g') (g2 := g2) rfl rfl rfl rfl _ _ _ q1 k10
        have q2 : ∀ (ls : List (Lt × Bool)) (rs : List T), (∀ p ∈ ls, immL cf.ti p = false) → ∀ R ∈ resRegs ls rs, ∃ e xs, R = .arr e xs ∧ (cf.ti e).lv.any isSl = false := by
          intro ls
          induction ls with
          | nil => intro rs _ R h; simp [resRegs] at h
          | cons p ls ih =>
            intro rs hp R h
            have hl := hp p (by simp)
            have hp' : ∀ p ∈ ls, immL cf.ti p = false := fun q hq => hp q (List.mem_cons_of_mem _ hq)
            unfold immL at hl
            unfold resRegs at h
            cases ho : ownE p with
            | some e =>
              rw [ho] at h hl
              simp only [List.mem_cons] at h hl
              rcases h with rfl | h
              · exact ⟨e, _, rfl, hl⟩
              · exact ih _ hp' R h
            | none =>
              rw [ho] at h
              exact ih _ hp' R h
        have k11 : Sim cf.ti ⟨w, fun _ => False, fun _ => False⟩ ⟨[], resRegs (shLvs sg.rs) rs⟩ [] g2 w' := by
          refine ⟨k9.nr, fun b hb => hb.elim, k9.own, fun r hr => ?_, rfl, fun k hk => by simp at hk, ⟨k9.fm.os, k9.fm.tape, k9.fm.output, k9.fm.size, fun b hb hn => ⟨(k9.fm.old b hb hn).1, (k9.fm.old b hb hn).2.1, fun h => h.elim⟩⟩⟩
          have h0 := k9.reg r hr
          have hnr := k9.nr
          have hr' : r < g'.nr := hr
          simp only at hnr
          obtain ⟨e, xs', hR, hpl⟩ := q2 _ rs himm' ((St.mk [] (resRegs (shLvs sg.rs) rs)).reg r) (by
            have : r < (resRegs (shLvs sg.rs) rs).length := by omega
            simp [St.reg, this])
          rw [hR] at h0 ⊢
          cases h0 with
          | arr a1 a2 a3 a4 =>
            refine .arr a1 a2 a3 (fun hp => ?_)
            obtain ⟨cs, te, b1, b2, b3, b4⟩ := a4 hp
            refine ⟨cs, te, b1, b2, b3, fun i j hi hj => (b4 i j hi hj).plain ?_⟩
            have hj' : j < (cf.ti e).lv.length := hj
            have := List.any_eq_false.1 hpl ((cf.ti e).lv.getD j .fn) (by simp [hj'])
            simpa using this
        obtain ⟨j1, j2⟩ := hs.join k11 (fun b hb => hb.elim) (resRegs_ren _ _ _)
        have j3 := ((q3).mor j2).tup
        rw [group_ren, resLeaves_ren, Nat.zero_add, hs.nr] at j3
        exact ⟨_, _, _, _, rfl, h, j1, j3⟩
    · exact body h

/-- ████ A FUNCTION, FROM ITS CODE. ████ -/
theorem envOk_of (hcode : CodeOk P cf) (henv : EnvsOk P cf) {draw : {R : Type} → (Nat → List X → St → (X → St → Option R) → Option R) → Array Oper → St → (St → Option R) → Option R} (hdraw : ∀ res : List T, DrawsOk P cf.ti res draw)
    {d f : Nat} {lms : Nat → Nat → Nat → List LoopM} {sg : Sig} {me : Mean} (hl : ∀ d f fn b, cf.code f = some fn → fn.body = some b → LoopsOk (R := List T) cf (callK cf draw lms d) (draw (callK cf draw lms d)) (cf.ann f) (lms d f) (loopsIn b))
    (h : ∀ τs rs, me.app cf.n τs = some rs → evF cf draw lms d f sg τs = some rs) : EnvOk P cf.ti cf.n f sg me := by
  intro τs rs hrs
  have h1 := h τs rs hrs
  unfold evF at h1
  intro im w us him hu
  have hs : Sim cf.ti ⟨w, fun _ => False, im⟩ ⟨[], []⟩ [] (gh0 im) w :=
    ⟨rfl, fun b hb => ⟨him b hb, rfl⟩, fun b r hb => by simp [gh0] at hb, fun r hr => by simp [gh0] at hr, rfl, fun k hk => by simp at hk, ⟨rfl, rfl, rfl, Nat.le_refl _, fun b hb _ => ⟨rfl, rfl, fun h => h⟩⟩⟩
  obtain ⟨k1, k2⟩ := bodyK_ok cf H hcode (callK_ok cf H hcode henv (hdraw rs) hl d) (hdraw rs _ (callK_ok cf H hcode henv (hdraw rs) hl d)) (hl d f) h1 hs (vs := us.toArray) (by simpa using hu.length) (fun i hi => by simpa using hu.get i hi)
  refine ⟨k1, k2.mono fun e w' he => ?_⟩
  obtain ⟨ys, vs, s', g', rfl, j1, j2, j3⟩ := he
  have e1 : s' = ⟨[], s'.m⟩ := by
    have := j2.nf
    obtain ⟨fr, m⟩ := s'
    cases fr with
    | nil => rfl
    | cons a b => simp at this
  obtain ⟨g'', k3, k4⟩ := finish_ok j1 (e1 ▸ j2) j3
  exact ⟨vs, g'', rfl, k3, k4⟩

end
end Go.KX
/- Regions whose order is open: what only reads comes to the same in every order. -/
namespace Go.KX
open Go.RowKit

/-- What an operation reads. -/
def opRd : Op → List Operand
  | .move x => [x]
  | .assign x => [x]
  | .load _ a => [a]
  | .fieldAddr _ x _ => [x]
  | .indexAddr _ x i => [x, i]
  | .binOp _ _ x y _ => [x, y]
  | .unOp _ _ x => [x]
  | .convert _ _ x => [x]
  | .pick c a b => [c, a, b]
  | .extract t _ => [t]
  | .nilCheck x => [x]
  | .field _ x _ => [x]
  | .build _ parts => parts.toList.map Prod.snd
  | .slice _ x lo hi mx => x :: (lo.toList ++ hi.toList ++ mx.toList)
  | .makeFunc _ _ caps => caps.toList
  | .buildSlice _ _ parts => parts.toList.map Prod.snd
  | .makeSlice _ l c => [l, c]
  | .call { callee := .value f, args, .. } => f :: args.toList
  | .call { callee := .builtin _, args, .. } => args.toList
  | _ => []

/-- It only reads. -/
def pureOp : Op → Bool
  | .move _ => true
  | .assign _ => true
  | .load _ _ => true
  | .fieldAddr _ _ _ => true
  | .indexAddr _ _ _ => true
  | .binOp _ _ _ _ _ => true
  | .unOp _ _ _ => true
  | .convert _ _ _ => true
  | .pick _ _ _ => true
  | .extract _ _ => true
  | .nilCheck _ => true
  | .field _ _ _ => true
  | .build _ _ => true
  | .slice _ _ _ _ _ => true
  | .makeFunc _ _ _ => true
  | .call { callee := .builtin .len, .. } => true
  | _ => false

section
variable {R : Type} (cf : Cfg)

/-- A call of a function that makes nothing that is the caller's own, on arguments that are only read. -/
noncomputable def callD (f : Nat) (xs : List X) (s : St) (K : X → Option R) : Option R :=
  match cf.fenv f with
  | some (sg, me) =>
    if (shLvs sg.rs).all (fun p => (ownE p).isNone) = true then
      match flatXs sg.ps xs with
      | some ys =>
        if (shLvs sg.rs).any (immL cf.ti) then
          match snapL0 (flatLs sg.ps) ys with
          | some τs => match me.app cf.n τs with
            | some rs => K (tupX (group sg.rs (resLeaves (shLvs sg.rs) rs 0)))
            | none => none
          | none => none
        else
          match argsK cf.ti (flatLs sg.ps) ys [] s.m with
          | some (τs, _) => match me.app cf.n τs with
            | some rs => K (tupX (group sg.rs (resLeaves (shLvs sg.rs) rs 0)))
            | none => none
          | none => none
      | none => none
    else none
  | none => none

noncomputable def pureK (o : Op) (s : St) (K : X → Option R) : Option R :=
  match o with
  | .call { callee := .value f, args, .. } => match opx s f with
    | .fn g caps => callD cf g (args.toList.map (opx s) ++ caps) s K
    | _ => none
  | o => if pureOp o = true then stepK cf.ti o s (fun y _ => K y) else none

/-- Values that name no region. -/
def cleanX : X → Bool
  | .t _ _ => true
  | .nil => true
  | _ => false
def cleanP (ps : List (Nat × X)) : Bool := ps.all fun p => p.2.cells.all cleanX
/-- New slices that are only read from their making on. -/
def isFrz : Op → Bool
  | .buildSlice _ _ _ => true
  | .makeSlice _ _ _ => true
  | _ => false
def frzK (o : Op) (s : St) (K : X → Option R) : Option R :=
  match o with
  | .buildSlice t len parts => match (cf.ti t).ok, (cf.ti t).d with
    | true, .slice e =>
      if cleanP (parts.toList.map fun p => (p.1, opx s p.2)) = true then
        if (cf.ti e).lv.all Lt.plain ∧ len * (cf.ti e).size ≤ 65536 ∧ len ≤ 65536 ∧ sortedP (parts.toList.map fun p => (p.1, opx s p.2)) = true then
          match (partsK cf.ti e len (parts.toList.map fun p => (p.1, opx s p.2)) s (fun xs _ => some xs) : Option (List T)) with
          | some xs => K (.t (.slice e) (.l xs))
          | none => none
        else none
      else none
    | _, _ => none
  | .makeSlice t l c => match (cf.ti t).ok, (cf.ti t).d with
    | true, .slice e =>
      if sameOp l c = true ∧ (cf.ti e).lv.all Lt.plain then
        match opx s l with
        | .t (.int .i64) τ => if 0 ≤ τ.I ∧ τ.I * (cf.ti e).bytes ≤ limB ∧ τ.I < maxN then K (.t (.slice e) (.l (List.replicate τ.I.toNat (cf.ti e).zt))) else none
        | _ => none
      else none
    | _, _ => none
  | _ => none
noncomputable def onceK (o : Op) (s : St) (K : X → Option R) : Option R := if isFrz o = true then frzK cf o s K else pureK cf o s K

def wantedX (ops : Array Oper) (o : Oper) (s : St) : Option T :=
  match o.guard with
  | none => some (.b true)
  | some (j, want) =>
    match (ops[j]?).bind (·.dst) with
    | none => none
    | some d =>
      match s.cur.getD d .un with
      | .t .bool τ => some (.b (if want then τ.B else !τ.B))
      | .tup [] => some (.b false)
      | _ => none

def forget (kn : List (Nat × Bool)) (d : Option Nat) : List (Nat × Bool) :=
  match d with
  | none => kn
  | some d => kn.filter fun p => !(p.1 == d)

/-- The listed order; what a guard's slot holds is asked once. -/
noncomputable def drawRun (ops : Array Oper) : List Oper → List (Nat × Bool) → St → (St → Option R) → Option R
  | [], _, s, K => K s
  | o :: rest, kn, s, K =>
    match o.guard with
    | none => onceK cf o.op s fun y => s.putF o.dst y fun s2 => drawRun ops rest (forget kn o.dst) s2 K
    | some (j, want) =>
      match (ops[j]?).bind (·.dst) with
      | none => none
      | some d =>
        match kn.lookup d with
        | some b => if b = want then onceK cf o.op s fun y => s.putF o.dst y fun s2 => drawRun ops rest (forget kn o.dst) s2 K else s.putF o.dst (.tup []) fun s2 => drawRun ops rest (forget kn o.dst) s2 K
        | none =>
          match s.cur.getD d .un with
          | .t .bool τ =>
            cond τ.B
              (if want = true then onceK cf o.op s fun y => s.putF o.dst y fun s2 => drawRun ops rest (forget ((d, true) :: kn) o.dst) s2 K else s.putF o.dst (.tup []) fun s2 => drawRun ops rest (forget ((d, true) :: kn) o.dst) s2 K)
              (if want = false then onceK cf o.op s fun y => s.putF o.dst y fun s2 => drawRun ops rest (forget ((d, false) :: kn) o.dst) s2 K else s.putF o.dst (.tup []) fun s2 => drawRun ops rest (forget ((d, false) :: kn) o.dst) s2 K)
          | .tup [] => s.putF o.dst (.tup []) fun s2 => drawRun ops rest (forget kn o.dst) s2 K
          | _ => none

def slotsOf : List Operand → List Nat
  | [] => []
  | .tmp t :: r => t :: slotsOf r
  | _ :: r => slotsOf r
def needs (ops : Array Oper) (o : Oper) : List Nat :=
  slotsOf (opRd o.op) ++ match o.guard with
    | none => []
    | some (j, _) => match (ops[j]?).bind (·.dst) with
      | some d => [d]
      | none => []

/-- What is read was written before, by an edge that binds; each slot is written once; each edge leads back. -/
def drawFit (ops : Array Oper) (len p : Nat) : Bool :=
  (List.range ops.size).all fun i =>
    match ops[i]? with
    | none => false
    | some o =>
      (if i < p then
        (match o.dst with
          | none => false
          | some d => decide (d < len) && (List.range p).all fun j => decide (j = i) || decide ((ops[j]?).bind (·.dst) ≠ some d)) &&
        (needs ops o).all (fun t => (List.range p).all fun j => decide ((ops[j]?).bind (·.dst) ≠ some t) || (decide (j < i) && o.after.any fun e => decide (e.on = j) && Region.binds .any e))
      else
        (List.range p).all (fun j => o.after.any fun e => decide (e.on = j) && Region.binds .any e) &&
        (decide (i = p) || o.after.any fun e => decide (e.on + 1 = i) && Region.binds .any e)) &&
      o.after.all (fun e => decide (e.on < i))

/-- May it stand where the order is open? -/
def openOp : Op → Bool
  | .call { callee := .value _, .. } => true
  | o => pureOp o || isFrz o
/-- Where the operations that come last begin: each of them waits for all that stand ahead. -/
def sufOk (ops : Array Oper) (p : Nat) : Bool :=
  (List.range ops.size).all fun i => decide (i < p) || match ops[i]? with
    | none => false
    | some o => (List.range p).all (fun j => o.after.any fun e => decide (e.on = j) && Region.binds .any e) && (decide (i = p) || o.after.any fun e => decide (e.on + 1 = i) && Region.binds .any e)
def prefLen (ops : Array Oper) : Nat :=
  if ops.all (fun o => openOp o.op) then ops.size else ((List.range ops.size).find? fun p => sufOk ops p).getD ops.size

noncomputable def drawK (call : Nat → List X → St → (X → St → Option R) → Option R) (ops : Array Oper) (s : St) (K : St → Option R) : Option R :=
  if prefLen ops ≤ ops.size ∧ drawFit ops s.cur.length (prefLen ops) = true then drawRun cf ops (ops.toList.take (prefLen ops)) [] s fun s1 => opsK cf call ops (ops.toList.drop (prefLen ops)) s1 K else none
end

theorem binK_bind {R : Type} (bt : Bool) (op : BinOp) (x y : X) (K : X → Option R) : binK bt op x y K = (binK bt op x y some).bind K := by
  unfold binK
  repeat' first | rfl | split
theorem indexK_bind {R : Type} (ti : TypeId → TyI) (t : TypeId) (x ix : X) (s : St) (K : X → St → Option R) : indexK ti t x ix s K = (indexK ti t x ix s (fun y _ => some y)).bind (fun y => K y s) := by
  unfold indexK
  repeat' first | rfl | split
theorem sliceK_bind {R : Type} (ti : TypeId → TyI) (e : TypeId) (x : X) (lo hi mx : Option X) (s : St) (K : X → St → Option R) : sliceK e x lo hi mx s K = (sliceK e x lo hi mx s (fun y _ => some y)).bind (fun y => K y s) := by
  unfold sliceK
  dsimp only
  repeat' first | rfl | split
theorem convK_bind {R : Type} (ti : TypeId → TyI) (a b : TypeId) (x : X) (s : St) (K : X → St → Option R) : convK ti a b x s K = (convK ti a b x s (fun y _ => some y)).bind (fun y => K y s) := by
  unfold convK
  repeat' first | rfl | split
theorem lenK_bind {R : Type} (ti : TypeId → TyI) (at' : Array TypeId) (xs : List X) (s : St) (K : X → St → Option R) : builtinK ti .len at' xs s K = (builtinK ti .len at' xs s (fun y _ => some y)).bind (fun y => K y s) := by
  unfold builtinK
  repeat' first | rfl | contradiction | split

theorem len_agree (ti : TypeId → TyI) {s s' : St} (hm : s'.m = s.m) (at' : Array TypeId) (xs : List X) : builtinK ti .len at' xs s' (fun y _ => some y) = builtinK ti .len at' xs s (fun y _ => some y) := by
  have hl : ∀ x, lenX s' x = lenX s x := fun x => by cases x <;> simp [lenX, St.reg, hm]
  unfold builtinK
  split
  · match xs with
    | [] => rfl
    | [x] => simp only [hl]
    | x :: y :: [] => rfl
    | x :: y :: z :: r => rfl
  · rfl

theorem step_bind {R : Type} (ti : TypeId → TyI) {o : Op} (h : pureOp o = true) (s : St) (K : X → St → Option R) : stepK ti o s K = (stepK ti o s (fun y _ => some y)).bind (fun y => K y s) := by
  cases o with
  | move x => rfl
  | assign x => rfl
  | load t a => simp only [stepK]; split <;> rfl
  | fieldAddr t x f => simp only [stepK]; split <;> rfl
  | indexAddr t x i => exact indexK_bind ti t _ _ s K
  | binOp op t x y z =>
    simp only [stepK]
    split
    · split
      · split <;> rfl
      · rfl
    · exact binK_bind _ _ _ _ _
  | unOp op t x => simp only [stepK]; split <;> rfl
  | convert a b x => exact convK_bind ti a b _ s K
  | pick c a b =>
    simp only [stepK]
    split
    · rename_i τ _
      cases τ.B <;> rfl
    · rfl
  | extract t ix =>
    simp only [stepK]
    split
    · split <;> rfl
    · rfl
  | nilCheck x => simp only [stepK]; split <;> rfl
  | field t x f =>
    simp only [stepK]
    split
    · split <;> rfl
    · rfl
  | build t parts =>
    simp only [stepK]
    split
    · split <;> rfl
    · rfl
  | slice t x lo hi mx =>
    simp only [stepK]
    split
    · exact sliceK_bind ti _ _ _ _ _ s K
    · rfl
  | makeFunc fn first caps =>
    simp only [stepK]
    split
    · split <;> rfl
    · rfl
  | call c =>
    obtain ⟨callee, args, at'⟩ := c
    cases callee with
    | builtin b =>
      cases b <;> first | (simp [pureOp] at h; done) | skip
      simp only [stepK]
      split
      · exact lenK_bind ti _ _ s K
      · rfl
    | _ => simp [pureOp] at h
  | _ => simp [pureOp] at h

theorem snap_agree {s s' : St} (hm : s'.m = s.m) (l : Lt) (x : X) : x.snap s' l = x.snap s l := by
  cases x <;> simp [X.snap, St.reg, hm]
theorem loadX_agree {s s' : St} (hm : s'.m = s.m) (ti : TypeId → TyI) (t : TypeId) (x : X) : loadX ti s' t x = loadX ti s t x := by
  unfold loadX
  cases x <;> simp [St.reg, hm]

theorem step_agree (ti : TypeId → TyI) {o : Op} (h : pureOp o = true) {s s' : St} (hm : s'.m = s.m) (hx : ∀ x ∈ opRd o, opx s' x = opx s x) : stepK ti o s' (fun y _ => some y) = stepK ti o s (fun y _ => some y) := by
  cases o with
  | move x => simp only [stepK, hx x (by simp [opRd])]
  | assign x => simp only [stepK, hx x (by simp [opRd])]
  | load t a => simp only [stepK, hx a (by simp [opRd]), loadX_agree hm]
  | fieldAddr t x f => simp only [stepK, hx x (by simp [opRd])]
  | indexAddr t x i => simp only [stepK, hx x (by simp [opRd]), hx i (by simp [opRd]), indexK, St.reg, hm]
  | binOp op t x y z => simp only [stepK, hx x (by simp [opRd]), hx y (by simp [opRd])]
  | unOp op t x => simp only [stepK, hx x (by simp [opRd])]
  | convert a b x => simp only [stepK, hx x (by simp [opRd]), convK, X.elems, snap_agree hm]
  | pick c a b => simp only [stepK, hx c (by simp [opRd]), hx a (by simp [opRd]), hx b (by simp [opRd])]
  | extract t ix => simp only [stepK, hx t (by simp [opRd])]
  | nilCheck x => simp only [stepK, hx x (by simp [opRd])]
  | field t x f => simp only [stepK, hx x (by simp [opRd])]
  | build t parts =>
    have e : (parts.toList.map fun p => (p.1, opx s' p.2)) = parts.toList.map fun p => (p.1, opx s p.2) := List.map_congr_left fun p hp => by rw [hx p.2 (by simp only [opRd]; exact List.mem_map_of_mem hp)]
    simp only [stepK, e]
  | slice t x lo hi mx =>
    have e : ∀ o : Option Operand, (∀ z ∈ o.toList, z ∈ opRd (.slice t x lo hi mx)) → o.map (opx s') = o.map (opx s) := fun o ho => by
      cases o with
      | none => rfl
      | some z => simp only [Option.map_some, hx z (ho z (by simp))]
    have e1 := e lo fun z hz => by simp only [opRd]; exact List.mem_cons_of_mem _ (List.mem_append_left _ (List.mem_append_left _ hz))
    have e2 := e hi fun z hz => by simp only [opRd]; exact List.mem_cons_of_mem _ (List.mem_append_left _ (List.mem_append_right _ hz))
    have e3 := e mx fun z hz => by simp only [opRd]; exact List.mem_cons_of_mem _ (List.mem_append_right _ hz)
    simp only [stepK, hx x (by simp [opRd]), e1, e2, e3, sliceK, X.elems, snap_agree hm, St.reg, hm]
    repeat' first | rfl | split
  | makeFunc fn first caps =>
    have e : caps.toList.map (opx s') = caps.toList.map (opx s) := List.map_congr_left fun x hx' => hx x (by simpa [opRd] using hx')
    simp only [stepK, e]
  | call c =>
    obtain ⟨callee, args, at'⟩ := c
    cases callee with
    | builtin b =>
      cases b <;> first | (simp [pureOp] at h; done) | skip
      have e : args.toList.map (opx s') = args.toList.map (opx s) := List.map_congr_left fun x hx' => hx x (by simpa [opRd] using hx')
      simp only [stepK, e, len_agree ti hm]
    | _ => simp [pureOp] at h
  | _ => simp [pureOp] at h

def noLms : Nat → Nat → Nat → List LoopM := fun _ _ _ => []
theorem toTs0 {R : Type} : ∀ (ls : List Lt) (ys : List X) (τs : List T) (s : St) (K : List T → St → Option R), snapL0 ls ys = some τs → toTs ls ys s K = K τs s
  | [], [], τs, s, K, h => by cases h; rfl
  | [], _ :: _, τs, s, K, h => by simp [snapL0] at h
  | _ :: _, [], τs, s, K, h => by simp [snapL0] at h
  | l :: ls, x :: xs, τs, s, K, h => by
    unfold snapL0 at h
    split at h
    · rename_i τ hτ
      split at h
      · rename_i τs' h'
        cases h
        have e : x.snap s l = some τ ∧ x.rid = none := by
          unfold snap0 at hτ
          split at hτ
          · exact ⟨hτ, rfl⟩
          · exact ⟨hτ, rfl⟩
          · exact ⟨hτ, rfl⟩
          · exact ⟨hτ, rfl⟩
          · cases hτ
        unfold toTs
        rw [e.1, e.2]
        exact toTs0 ls xs τs' s _ h'
      · cases h
    · cases h

theorem bzK0 (ti : TypeId → TyI) : ∀ (ls : List Lt) (xs : List X) (τs : List T) (n : Nat) (s : St), snapL0 ls xs = some τs → (∀ i, i < xs.length → s.cur.getD (n + i) .un = xs.getD i .un) → bzK ti ls n s = some s
  | [], xs, τs, n, s, h, hx => rfl
  | l :: ls, [], τs, n, s, h, hx => by simp [snapL0] at h
  | l :: ls, x :: xs, τs, n, s, h, hx => by
    unfold snapL0 at h
    split at h
    · rename_i τ hτ
      split at h
      · rename_i τs' h'
        have h0 : s.cur.getD n .un = x := by simpa using hx 0 (by simp)
        have ih := bzK0 ti ls xs τs' (n + 1) s h' (fun i hi => by
          have := hx (i + 1) (by simpa using hi)
          rw [show n + 1 + i = n + (i + 1) by omega]
          simpa using this)
        cases l with
        | box e =>
          simp only [bzK, h0]
          split
          · simp [snap0] at hτ
          · rename_i e' τ' off
            simp only [snap0] at hτ
            split at hτ
            · rename_i hc
              obtain ⟨h1, rfl⟩ := hc
              injection h1 with h1
              subst h1
              rw [if_pos ⟨rfl, rfl⟩]
              exact ih
            · cases hτ
          · exact ih
        | _ => simpa only [bzK] using ih
      · cases h
    · cases h

theorem argsK0 {ti : TypeId → TyI} {ls : List Lt} {ys : List X} {τs : List T} {fr : List (List X)} {m : List Reg} (h : snapL0 ls ys = some τs) : argsK ti ls ys fr m = some (τs, ⟨fr, m⟩) := by
  unfold argsK
  rw [bzK0 ti ls ys τs 0 _ h (fun i _ => by simp [St.cur])]
  exact toTs0 ls ys τs ⟨fr, m⟩ _ h

theorem resLeaves0 : ∀ (ls : List (Lt × Bool)) (rs : List T) (n : Nat), ls.all (fun p => (ownE p).isNone) = true → resLeaves ls rs n = resLeaves ls rs 0 ∧ resRegs ls rs = []
  | [], _, _, _ => ⟨rfl, rfl⟩
  | p :: ls, rs, n, h => by
    simp only [List.all_cons, Bool.and_eq_true, Option.isNone_iff_eq_none] at h
    obtain ⟨h1, h2⟩ := resLeaves0 ls rs.tail n h.2
    exact ⟨by simp [resLeaves, h.1, h1], by simp [resRegs, h.1, h2]⟩

section
variable {R : Type} {res : R} (cf : Cfg)

theorem callD_ok {f : Nat} {xs : List X} {s : St} {K : X → Option R} (h : callD cf f xs s K = some res) :
    ∃ y, K y = some res ∧ ∀ s' : St, s'.m = s.m → callK cf noDraw noLms 1 f xs s' (fun y s' => some (y, s')) = some (y, s') := by
  unfold callD at h
  split at h
  · rename_i sg me hf
    split at h
    · rename_i ho
      split at h
      · rename_i ys hy
        split at h
        · rename_i himm
          split at h
          · rename_i τs hτ
            split at h
            · rename_i rs hrs
              refine ⟨_, h, fun s' _ => ?_⟩
              obtain ⟨e1, e2⟩ := resLeaves0 (shLvs sg.rs) rs s'.m.length ho
              unfold callK
              simp only [hf, hy, argsK0 hτ, hrs, e1, e2, List.append_nil]
              rw [if_pos himm]
            · cases h
          · cases h
        · rename_i himm
          split at h
          · rename_i τs s2 hτ
            split at h
            · rename_i rs hrs
              refine ⟨_, h, fun s' hm => ?_⟩
              obtain ⟨e1, e2⟩ := resLeaves0 (shLvs sg.rs) rs s'.m.length ho
              unfold callK
              simp only [hf, hy, hm, hτ, hrs]
              rw [if_neg himm, ← hm, e1, e2, List.append_nil]
            · cases h
          · cases h
      · cases h
    · cases h
  · cases h

theorem toTs_clean {S : Type} : ∀ (ls : List Lt) (xs : List X) (s s' : St) (K : List T → St → Option S), xs.all cleanX = true → toTs ls xs s' K = (toTs ls xs s (fun τs _ => some τs) : Option (List T)).bind (fun τs => K τs s')
  | [], [], s, s', K, _ => rfl
  | [], _ :: _, s, s', K, _ => rfl
  | _ :: _, [], s, s', K, _ => rfl
  | l :: ls, x :: xs, s, s', K, h => by
    simp only [List.all_cons, Bool.and_eq_true] at h
    have e1 : x.snap s' l = x.snap s l ∧ x.rid = none := by
      cases x <;> simp [cleanX] at h <;> exact ⟨rfl, rfl⟩
    simp only [toTs, e1.1, e1.2]
    cases x.snap s l with
    | none => rfl
    | some τ =>
      simp only
      rw [toTs_clean ls xs s s' _ h.2, toTs_clean ls xs s s (fun τs _ => some (τ :: τs)) h.2]
      cases (toTs ls xs s (fun τs _ => some τs) : Option (List T)) <;> rfl

theorem partsK_clean {S : Type} (ti : TypeId → TyI) (e : TypeId) : ∀ (n : Nat) (ps : List (Nat × X)) (s s' : St) (K : List T → St → Option S), cleanP ps = true → partsK ti e n ps s' K = (partsK ti e n ps s (fun xs _ => some xs) : Option (List T)).bind (fun xs => K xs s')
  | 0, [], s, s', K, _ => rfl
  | 0, _ :: _, s, s', K, _ => rfl
  | n + 1, [], s, s', K, h => by
    simp only [partsK]
    rw [partsK_clean ti e n [] s s' _ h, partsK_clean ti e n [] s s (fun ts _ => some ((ti e).zt :: ts)) h]
    cases (partsK ti e n [] s (fun xs _ => some xs) : Option (List T)) <;> rfl
  | n + 1, (i, x) :: rest, s, s', K, h => by
    have h' := h
    simp only [cleanP, List.all_cons, Bool.and_eq_true] at h'
    have hr : cleanP (rest.map fun p => (p.1 - 1, p.2)) = true := by
      simp only [cleanP, List.all_map]
      exact h'.2
    simp only [partsK]
    split
    · split
      · rw [toTs_clean _ _ s s' _ h'.1, toTs_clean _ _ s s (fun τs s' => partsK ti e n (rest.map fun p => (p.1 - 1, p.2)) s' fun ts _ => some ((ti e).join τs :: ts)) h'.1]
        cases (toTs (ti e).lv x.cells s (fun τs _ => some τs) : Option (List T)) with
        | none => rfl
        | some τs =>
          simp only [Option.bind_some]
          rw [partsK_clean ti e n _ s s' _ hr, partsK_clean ti e n _ s s (fun ts _ => some ((ti e).join τs :: ts)) hr]
          cases (partsK ti e n (rest.map fun p => (p.1 - 1, p.2)) s (fun xs _ => some xs) : Option (List T)) <;> rfl
      · rfl
    · have hr2 : cleanP ((i - 1, x) :: rest.map fun p => (p.1 - 1, p.2)) = true := by
        simp only [cleanP, List.all_cons, Bool.and_eq_true]
        exact ⟨h'.1, hr⟩
      rw [partsK_clean ti e n _ s s' _ hr2, partsK_clean ti e n _ s s (fun ts _ => some ((ti e).zt :: ts)) hr2]
      cases (partsK ti e n ((i - 1, x) :: rest.map fun p => (p.1 - 1, p.2)) s (fun xs _ => some xs) : Option (List T)) <;> rfl

theorem frz_ok {o : Op} {s : St} {K : X → Option R} (h : frzK cf o s K = some res) :
    ∃ e xs, K (.t (.slice e) (.l xs)) = some res ∧ ∀ s' : St, s'.m = s.m → (∀ x ∈ opRd o, opx s' x = opx s x) → stepK cf.ti o s' (fun y s'' => some (y, s'')) = some (.own e s'.m.length, s'.new (.arr e xs)) := by
  unfold frzK at h
  split at h
  · rename_i t len parts
    split at h
    · rename_i e hok hd
      split at h
      · rename_i hc
        split at h
        · rename_i hcond
          split at h
          · rename_i xs hxs
            refine ⟨e, xs, h, fun s' _ hx => ?_⟩
            have e1 : (parts.toList.map fun p => (p.1, opx s' p.2)) = parts.toList.map fun p => (p.1, opx s p.2) := List.map_congr_left fun p hp => by rw [hx p.2 (by simp only [opRd]; exact List.mem_map_of_mem hp)]
            simp only [stepK, hok, hd, e1]
            rw [if_pos hcond, partsK_clean cf.ti e len _ s s' _ hc, hxs]
            rfl
          · cases h
        · cases h
      · cases h
    · cases h
  · rename_i t l c
    split at h
    · rename_i e hok hd
      split at h
      · rename_i hc
        split at h
        · rename_i τ hl
          split at h
          · rename_i hcond
            refine ⟨e, _, h, fun s' _ hx => ?_⟩
            have e1 : opx s' l = .t (.int .i64) τ := by rw [hx l (by simp [opRd]), hl]
            simp only [stepK, hok, hd, e1]
            rw [if_pos hc, if_pos hcond]
            rfl
          · cases h
        · cases h
      · cases h
    · cases h
  · cases h

theorem pureK_ok {o : Op} {s : St} {K : X → Option R} (h : pureK cf o s K = some res) :
    ∃ y, K y = some res ∧ ∀ s' : St, s'.m = s.m → (∀ x ∈ opRd o, opx s' x = opx s x) → execK cf (callK cf noDraw noLms 1) o s' (fun y s'' => some (y, s'')) = some (y, s') := by
  unfold pureK at h
  split at h
  · rename_i f args at'
    split at h
    · rename_i g caps hf
      obtain ⟨y, h1, h2⟩ := callD_ok cf h
      refine ⟨y, h1, fun s' hm hx => ?_⟩
      have e1 : opx s' f = .fn g caps := by rw [hx f (by simp [opRd]), hf]
      have e2 : args.toList.map (opx s') = args.toList.map (opx s) := List.map_congr_left fun x hx' => hx x (by simp [opRd]; right; simpa using hx')
      simp only [execK, e1, e2]
      exact h2 s' hm
    · cases h
  · rename_i hne
    split at h
    · rename_i hp
      rw [step_bind cf.ti hp] at h
      obtain ⟨y, h1, h2⟩ := Option.bind_eq_some_iff.1 h
      refine ⟨y, h2, fun s' hm hx => ?_⟩
      have e : execK cf (callK cf noDraw noLms 1) o s' (fun y s'' => some (y, s'')) = stepK cf.ti o s' (fun y s'' => some (y, s'')) := by
        unfold execK
        split
        · exact (hne _ _ _ rfl).elim
        · rfl
      rw [e, step_bind cf.ti hp, step_agree cf.ti hp hm hx, h1]
      rfl
    · cases h

end
end Go.KX
/- Regions whose order is open: the proof for every order. -/
namespace Go.KX
open Go.RowKit

theorem X.refsL_mem {r : Nat} : ∀ {ys : List X}, r ∈ X.refsL ys ↔ ∃ y ∈ ys, r ∈ y.refs
  | [] => by simp [X.refsL]
  | y :: ys => by simp [X.refsL, X.refsL_mem (ys := ys)]

theorem RX.refs_lt {ti : TypeId → TyI} {g : Gh} {w : World} {x : X} {v : Value} (h : RX ti g w x v) : ∀ r ∈ x.refs, r < g.nr := by
  have list : ∀ (xs : List X), (∀ i, i < xs.length → ∀ r ∈ (xs.getD i .un).refs, r < g.nr) → ∀ r ∈ X.refsL xs, r < g.nr := fun xs hx r hr => by
    obtain ⟨y, hy, hr⟩ := X.refsL_mem.1 hr
    obtain ⟨i, hi, rfl⟩ := List.mem_iff_getElem.1 hy
    exact hx i hi r (by simpa [hi] using hr)
  induction h with
  | agg _ _ ih => exact list _ ih
  | tup _ _ ih => exact list _ ih
  | fn _ _ ih => exact list _ ih
  | own hn _ => intro r hr; simp only [X.refs, List.mem_singleton] at hr; subst hr; exact hn
  | ref hn _ _ => intro r hr; simp only [X.refs, List.mem_singleton] at hr; subst hr; exact hn
  | pb hn => intro r hr; simp only [X.refs, List.mem_singleton] at hr; subst hr; exact hn
  | pa hn _ => intro r hr; simp only [X.refs, List.mem_singleton] at hr; subst hr; exact hn
  | _ => intro r hr; simp [X.refs] at hr

theorem idx_range {n r : Nat} (h : r < n) : idx (List.range n) r = some r := by
  have := idx_of (keep := List.range n) List.nodup_range (i := r) (by simpa using h)
  simpa [h] using this

mutual
theorem X.thaw_id (n : Nat) (e : TypeId) (xs : List T) : ∀ x : X, (∀ r ∈ x.refs, r < n) → (x.fz n e xs).ren (idx (List.range n)) = x
  | .un, _ => rfl
  | .t _ _, _ => rfl
  | .agg ys, h => by rw [X.fz, X.ren, X.thawL_id n e xs ys (by simpa only [X.refs] using h)]
  | .tup ys, h => by rw [X.fz, X.ren, X.thawL_id n e xs ys (by simpa only [X.refs] using h)]
  | .nil, _ => rfl
  | .own e' r, h => by
    have hr : r < n := h r (by simp [X.refs])
    simp only [X.fz, if_neg (Nat.ne_of_lt hr), X.ren, idx_range hr]
  | .ref e' r off len, h => by
    have hr : r < n := h r (by simp [X.refs])
    simp only [X.fz, if_neg (Nat.ne_of_lt hr), X.ren, idx_range hr]
  | .pb r off, h => by
    have hr : r < n := h r (by simp [X.refs])
    simp only [X.fz, if_neg (Nat.ne_of_lt hr), X.ren, idx_range hr]
  | .pa e' r i off, h => by
    have hr : r < n := h r (by simp [X.refs])
    simp only [X.fz, if_neg (Nat.ne_of_lt hr), X.ren, idx_range hr]
  | .pt _ _ _, _ => rfl
  | .fn f ys, h => by rw [X.fz, X.ren, X.thawL_id n e xs ys (by simpa only [X.refs] using h)]
theorem X.thawL_id (n : Nat) (e : TypeId) (xs : List T) : ∀ ys : List X, (∀ r ∈ X.refsL ys, r < n) → X.renL (idx (List.range n)) (X.fzL n e xs ys) = ys
  | [], _ => rfl
  | y :: ys, h => by rw [X.fzL, X.renL, X.thaw_id n e xs y (fun r hr => h r (by simp [X.refsL, hr])), X.thawL_id n e xs ys (fun r hr => h r (by simp [X.refsL, hr]))]
end

/-- A new slice of the call's own, only read from now on. -/
theorem Sim.thaw {ti : TypeId → TyI} {c : Ctx} {s : St} {ts : List (Array Value)} {g g' : Gh} {w w' : World} {e : TypeId} {xs : List T} {v : Value} (h0 : Sim ti c s ts g w) (hs : Sim ti c (s.new (.arr e xs)) ts g' w') (hx : RX ti g' w' (.own e s.m.length) v) :
    ∃ g2, Sim ti c s ts g2 w' ∧ RX ti g2 w' (.t (.slice e) (.l xs)) v := by
  have hp := hs.push (RXs.cons hx .nil).fr
  have hnr : s.m.length < g'.nr := by rw [hs.nr]; simp [St.new]
  have hreg : (St.mk ([X.own e s.m.length] :: (s.new (.arr e xs)).fr) (s.new (.arr e xs)).m).reg s.m.length = .arr e xs := by simp [St.reg, St.new]
  have hf := hp.fz' hnr hreg
  obtain ⟨g2, k⟩ := hf.only (keep := List.range s.m.length) List.nodup_range (fun r hr => by
    have := List.mem_range.1 hr
    simp only [St.fz, St.new, List.length_map, List.length_set, List.length_append, List.length_singleton]
    omega)
  have efr : ((St.mk ([X.own e s.m.length] :: (s.new (.arr e xs)).fr) (s.new (.arr e xs)).m).fz s.m.length e xs).only (List.range s.m.length) = ⟨[.t (.slice e) (.l xs)] :: s.fr, s.m⟩ := by
    simp only [St.only, St.fz, St.new, List.map_cons, List.map_map]
    congr 1
    · congr 1
      · simp [X.fzL, X.fz, X.renL, X.ren]
      · refine List.ext_getElem (by simp) fun k h1 h2 => ?_
        simp only [List.getElem_map, Function.comp]
        refine X.thawL_id _ _ _ _ fun r hr => ?_
        obtain ⟨y, hy, hr⟩ := X.refsL_mem.1 hr
        obtain ⟨i, hi, rfl⟩ := List.mem_iff_getElem.1 hy
        have := (h0.fr k h2).get i
        rw [show s.fr.getD k [] = s.fr[k] by simp [h2], show (s.fr[k]).getD i .un = s.fr[k][i] by simp [hi]] at this
        rw [← h0.nr]
        exact this.refs_lt r hr
    · refine List.ext_getElem (by simp) fun r h1 h2 => ?_
      have hr : r < s.m.length := h2
      simp only [List.getElem_map, List.getElem_range, St.reg]
      have e1 : ((((s.m ++ [Reg.arr e xs]).set s.m.length Reg.dead).map (Reg.fz s.m.length e xs)).getD r .dead) = (s.m[r]).fz s.m.length e xs := by
        have h3 : r < ((s.m ++ [Reg.arr e xs]).set s.m.length Reg.dead).length := by simp; omega
        rw [List.getD_eq_getElem?_getD, List.getElem?_map, List.getElem?_eq_getElem h3]
        simp only [Option.map_some, Option.getD_some, List.getElem_set, if_neg (show s.m.length ≠ r by omega), List.getElem_append_left hr]
      rw [e1]
      have h3 := h0.reg r (by rw [h0.nr]; exact hr)
      have h4 : s.reg r = s.m[r] := by simp [St.reg, hr]
      rw [h4] at h3
      generalize s.m[r] = R at h3
      cases h3 with
      | box ho hh hsz hxs =>
        rename_i ys _ _
        simp only [Reg.fz, Reg.ren]
        rw [X.thawL_id]
        intro q hq
        obtain ⟨y, hy, hq⟩ := X.refsL_mem.1 hq
        obtain ⟨i, hi, rfl⟩ := List.mem_iff_getElem.1 hy
        have := hxs i hi
        rw [show ys.getD i .un = ys[i] by simp [hi]] at this
        rw [← h0.nr]
        exact this.refs_lt q hq
      | arr _ _ _ _ => rfl
      | dead => rfl
  rw [efr] at k
  have k0 := (k.fr 0 (by rw [k.nf]; simp)).get 0
  exact ⟨g2, k.pop, by simpa using k0⟩

/-- The operation comes to y, at any time when what it reads is there. -/
def SoundOp (P : Program) (cf : Cfg) (o : Oper) (s : St) (y : X) : Prop :=
  ∀ s' : St, s'.m = s.m → (∀ x ∈ opRd o.op, opx s' x = opx s x) → ∀ (c : Ctx) (ts : List (Array Value)) (g : Gh) (a : Act) (w : World) (next : Act → World → Prop) (Q : Exit → Act → World → Prop), Sim cf.ti c s' (a.tmps :: ts) g w →
    (∀ v g' w', Sim cf.ti c s' (a.tmps :: ts) g' w' → RX cf.ti g' w' y v → next (a.put o.dst v) w') → o.wp P a w next Q

/-- One operation in the listed order. -/
inductive StepD (P : Program) (cf : Cfg) (ops : Array Oper) (o : Oper) (s : St) : X → Prop
  | exec {y : X} (hw : ∃ τ, wantedX ops o s = some τ ∧ τ.B = true) (h : SoundOp P cf o s y) : StepD P cf ops o s y
  | skip (hw : ∃ τ, wantedX ops o s = some τ ∧ τ.B = false) : StepD P cf ops o s (.tup [])

inductive RunD (P : Program) (cf : Cfg) (ops : Array Oper) : List Oper → St → St → Prop
  | nil {s : St} : RunD P cf ops [] s s
  | cons {o : Oper} {rest : List Oper} {s s' : St} {y : X} (h : StepD P cf ops o s y) (t : RunD P cf ops rest (s.put o.dst y) s') : RunD P cf ops (o :: rest) s s'

section
variable {P : Program} {R : Type} {res : R} {cf : Cfg} (H : TabOk P cf.ti)
include H
theorem onceK_ok (hcode : CodeOk P cf) (henv : EnvsOk P cf) {o : Oper} {s : St} {K : X → Option R} (h : onceK cf o.op s K = some res) : ∃ y, K y = some res ∧ SoundOp P cf o s y := by
  unfold onceK at h
  split at h
  · obtain ⟨e, xs, h1, h2⟩ := frz_ok cf h
    refine ⟨_, h1, fun s' hm hx c ts g a w next Q hs hn => ?_⟩
    obtain ⟨y, s1, v, w', g', k1, k2, k3, k4⟩ := stepK_ok (R := X × St) (res := (.own e s'.m.length, s'.new (.arr e xs))) H (h2 s' hm hx) hs
    cases k1
    obtain ⟨g2, k5, k6⟩ := Sim.thaw hs k3 k4
    unfold Oper.wp
    rcases k2 with k2 | ⟨k2, rfl⟩
    · rw [k2, Oper.upon_value]
      exact hn v g2 w' k5 k6
    · rw [k2, Oper.upon_skip]
      exact hn undef g2 w' k5 k6
  · obtain ⟨y, h1, h2⟩ := pureK_ok cf h
    refine ⟨y, h1, fun s' hm hx c ts g a w next Q hs hn => ?_⟩
    exact execK_ok (R := X × St) (res := (y, s')) cf H (callK_ok cf H hcode henv (noDraw_ok cf.ti) (lms := noLms) (fun _ _ _ _ _ _ _ _ _ h => by cases h) 1) (h2 s' hm hx) hs fun y' s1 g' v w' k1 k2 k3 => by
      cases k1
      exact hn v g' w' k2 k3
end

section
variable {P : Program} {R : Type} {res : R} {cf : Cfg} {ops : Array Oper}

/-- What is known of the guards' slots. -/
def Kn (kn : List (Nat × Bool)) (s : St) : Prop := ∀ d b, kn.lookup d = some b → ∃ τ, s.cur.getD d .un = .t .bool τ ∧ τ.B = b

theorem put_other {s : St} {d d' : Nat} (h : d' ≠ d) (x : X) : (s.put (some d') x).cur.getD d .un = s.cur.getD d .un := by
  simp only [St.put, St.cur, List.headD_cons, List.getD_eq_getElem?_getD, List.getElem?_set, if_neg h]

theorem lookup_filter {kn : List (Nat × Bool)} {d e : Nat} {b : Bool} (h : (kn.filter fun p => !(p.1 == e)).lookup d = some b) : d ≠ e ∧ kn.lookup d = some b := by
  induction kn with
  | nil => simp at h
  | cons p kn ih =>
    obtain ⟨k, v⟩ := p
    by_cases hk : k = e
    · subst hk
      simp only [List.filter_cons, beq_self_eq_true, Bool.not_true, Bool.false_eq_true, if_false] at h
      obtain ⟨h1, h2⟩ := ih h
      refine ⟨h1, ?_⟩
      rw [List.lookup_cons, show (d == k) = false from by simpa using h1]
      exact h2
    · rw [List.filter_cons, if_pos (by simpa using hk), List.lookup_cons] at h
      rw [List.lookup_cons]
      cases hd : d == k with
      | true =>
        rw [hd] at h
        have : d = k := by simpa using hd
        exact ⟨by omega, h⟩
      | false =>
        rw [hd] at h
        exact ih h

theorem Kn.put {kn : List (Nat × Bool)} {s : St} (h : Kn kn s) (d : Option Nat) (x : X) : Kn (forget kn d) (s.put d x) := by
  cases d with
  | none => exact h
  | some d =>
    intro e b he
    obtain ⟨h1, h2⟩ := lookup_filter he
    obtain ⟨τ, h3, h4⟩ := h e b h2
    exact ⟨τ, by rw [put_other (Ne.symm h1)]; exact h3, h4⟩

theorem Kn.cons {kn : List (Nat × Bool)} {s : St} (h : Kn kn s) {d : Nat} {τ : T} (hd : s.cur.getD d .un = .t .bool τ) {b : Bool} (hb : τ.B = b) : Kn ((d, b) :: kn) s := by
  intro e c he
  rw [List.lookup_cons] at he
  cases hde : e == d with
  | true =>
    rw [hde] at he
    cases he
    have : e = d := by simpa using hde
    subst this
    exact ⟨τ, hd, hb⟩
  | false =>
    rw [hde] at he
    exact h e c he

theorem wantedX_of {o : Oper} {s : St} {j d : Nat} {want b : Bool} {τ : T} (hg : o.guard = some (j, want)) (hd : (ops[j]?).bind (·.dst) = some d) (hx : s.cur.getD d .un = .t .bool τ) (hb : τ.B = b) : ∃ τ', wantedX ops o s = some τ' ∧ τ'.B = (b == want) := by
  refine ⟨.b (if want then τ.B else !τ.B), by simp only [wantedX, hg, hd, hx], ?_⟩
  cases want <;> cases b <;> simp [hb]

theorem drawRun_run (H : TabOk P cf.ti) (hcode : CodeOk P cf) (henv : EnvsOk P cf) : ∀ (l : List Oper) (kn : List (Nat × Bool)) (s : St) (K : St → Option R), drawRun cf ops l kn s K = some res → Kn kn s → ∃ s', RunD P cf ops l s s' ∧ K s' = some res
  | [], kn, s, K, h, hk => ⟨s, .nil, h⟩
  | o :: rest, kn, s, K, h, hk => by
    have exec : ∀ (kn' : List (Nat × Bool)), Kn kn' s → (∃ τ, wantedX ops o s = some τ ∧ τ.B = true) → (onceK cf o.op s fun y => drawRun cf ops rest (forget kn' o.dst) (s.put o.dst y) K) = some res → ∃ s', RunD P cf ops (o :: rest) s s' ∧ K s' = some res := by
      intro kn' hk' hw h
      obtain ⟨y, h1, h2⟩ := onceK_ok H hcode henv h
      obtain ⟨s', k1, k2⟩ := drawRun_run H hcode henv rest _ _ K h1 (hk'.put _ _)
      exact ⟨s', .cons (.exec hw h2) k1, k2⟩
    have skip : ∀ (kn' : List (Nat × Bool)), Kn kn' s → (∃ τ, wantedX ops o s = some τ ∧ τ.B = false) → drawRun cf ops rest (forget kn' o.dst) (s.put o.dst (.tup [])) K = some res → ∃ s', RunD P cf ops (o :: rest) s s' ∧ K s' = some res := by
      intro kn' hk' hw h
      obtain ⟨s', k1, k2⟩ := drawRun_run H hcode henv rest _ _ K h (hk'.put _ _)
      exact ⟨s', .cons (.skip hw) k1, k2⟩
    unfold drawRun at h
    simp only [St.putF_eq] at h
    split at h
    · rename_i hg
      exact exec kn hk ⟨.b true, by simp [wantedX, hg], rfl⟩ h
    · rename_i j want hg
      split at h
      · cases h
      · rename_i d hd
        split at h
        · rename_i b hb
          obtain ⟨τ, h1, h2⟩ := hk d b hb
          obtain ⟨τ', h3, h4⟩ := wantedX_of (ops := ops) hg hd h1 h2
          split at h
          · rename_i e
            subst e
            exact exec kn hk ⟨τ', h3, by rw [h4]; simp⟩ h
          · rename_i e
            exact skip kn hk ⟨τ', h3, by rw [h4]; simpa using e⟩ h
        · split at h
          · rename_i τ hx
            cases hb : τ.B with
            | true =>
              obtain ⟨τ', h3, h4⟩ := wantedX_of (ops := ops) hg hd hx hb
              rw [hb] at h
              simp only [cond_true] at h
              split at h
              · rename_i e
                exact exec _ (hk.cons hx hb) ⟨τ', h3, by rw [h4, e]; rfl⟩ h
              · rename_i e
                exact skip _ (hk.cons hx hb) ⟨τ', h3, by rw [h4]; cases want <;> simp_all⟩ h
            | false =>
              obtain ⟨τ', h3, h4⟩ := wantedX_of (ops := ops) hg hd hx hb
              rw [hb] at h
              simp only [cond_false] at h
              split at h
              · rename_i e
                exact exec _ (hk.cons hx hb) ⟨τ', h3, by rw [h4, e]; rfl⟩ h
              · rename_i e
                exact skip _ (hk.cons hx hb) ⟨τ', h3, by rw [h4]; cases want <;> simp_all⟩ h
          · rename_i hx
            exact skip kn hk ⟨.b false, by simp only [wantedX, hg, hd, hx], rfl⟩ h
          · cases h

theorem RunD.split : ∀ (l1 : List Oper) {o : Oper} {l2 : List Oper} {s s' : St}, RunD P cf ops (l1 ++ o :: l2) s s' → ∃ s1 y, RunD P cf ops l1 s s1 ∧ StepD P cf ops o s1 y ∧ RunD P cf ops l2 (s1.put o.dst y) s'
  | [], o, l2, s, s', h => by
    cases h with
    | cons h1 h2 => exact ⟨s, _, .nil, h1, h2⟩
  | a :: l1, o, l2, s, s', h => by
    cases h with
    | cons h1 h2 =>
      obtain ⟨s1, y, k1, k2, k3⟩ := RunD.split l1 h2
      exact ⟨s1, y, .cons h1 k1, k2, k3⟩

structure SameFr (s s' : St) : Prop where
  m : s'.m = s.m
  tail : s'.fr.tail = s.fr.tail
  len : s'.cur.length = s.cur.length
  n : s'.fr.length = s.fr.length

theorem SameFr.refl (s : St) : SameFr s s := ⟨rfl, rfl, rfl, rfl⟩
theorem SameFr.trans {a b c : St} (h : SameFr a b) (k : SameFr b c) : SameFr a c := ⟨k.m.trans h.m, k.tail.trans h.tail, k.len.trans h.len, k.n.trans h.n⟩

theorem SameFr.put {s : St} (hn : 0 < s.fr.length) (d : Option Nat) (x : X) : SameFr s (s.put d x) := by
  obtain ⟨fr, m⟩ := s
  cases fr with
  | nil => simp at hn
  | cons a fr => cases d <;> exact ⟨rfl, rfl, by simp [St.put, St.cur], by simp [St.put]⟩

theorem put_get {s : St} (hn : 0 < s.fr.length) (d : Nat) (x : X) (t : Nat) : (s.put (some d) x).cur.getD t .un = if d = t ∧ d < s.cur.length then x else s.cur.getD t .un := by
  obtain ⟨fr, m⟩ := s
  cases fr with
  | nil => simp at hn
  | cons a fr =>
    simp only [St.put, St.cur, List.headD_cons, List.getD_eq_getElem?_getD, List.getElem?_set]
    by_cases h : d = t
    · subst h
      by_cases h2 : d < a.length
      · simp [h2]
      · simp [h2]
    · simp [h]

theorem RunD.same {l : List Oper} {s s' : St} (h : RunD P cf ops l s s') : 0 < s.fr.length → SameFr s s' ∧ ∀ t, (∀ o ∈ l, o.dst ≠ some t) → s'.cur.getD t .un = s.cur.getD t .un := by
  induction h with
  | nil => intro _; exact ⟨SameFr.refl _, fun _ _ => rfl⟩
  | @cons o rest s s' y h t ih =>
    intro hn
    have h1 := SameFr.put hn o.dst y
    obtain ⟨h2, h3⟩ := ih (by rw [h1.n]; exact hn)
    refine ⟨h1.trans h2, fun t ht => ?_⟩
    rw [h3 t fun q hq => ht q (List.mem_cons_of_mem _ hq)]
    cases hd : o.dst with
    | none => rfl
    | some d =>
      rw [put_get hn]
      have : d ≠ t := fun e => ht o (by simp) (by rw [hd, e])
      rw [if_neg (fun e => this e.1)]

theorem St.ext_of {s s' : St} (h : SameFr s s') (hn : 0 < s.fr.length) (hg : ∀ t, s'.cur.getD t .un = s.cur.getD t .un) : s' = s := by
  obtain ⟨fr, m⟩ := s
  obtain ⟨fr', m'⟩ := s'
  have h1 := h.m
  have h2 := h.tail
  have h3 := h.len
  have h4 := h.n
  simp only at h1 h2 h4
  subst h1
  cases fr with
  | nil => simp at hn
  | cons a fr =>
    cases fr' with
    | nil => simp at h4
    | cons a' fr' =>
      simp only [List.tail_cons] at h2
      subst h2
      simp only [St.cur, List.headD_cons] at h3 hg
      have : a' = a := by
        apply List.ext_getElem h3
        intro i h5 h6
        have := hg i
        simpa [h5, h6] using this
      subst this
      rfl

/-- What 'drawFit' says. -/
structure Fit (ops : Array Oper) (len p : Nat) : Prop where
  ple : p ≤ ops.size
  dst : ∀ (i : Nat) (o : Oper), i < p → ops[i]? = some o → ∃ d, o.dst = some d ∧ d < len ∧ ∀ (j : Nat) (o' : Oper), j < p → ops[j]? = some o' → o'.dst = some d → j = i
  need : ∀ (i : Nat) (o : Oper), i < p → ops[i]? = some o → ∀ t ∈ needs ops o, ∀ (j : Nat) (o' : Oper), j < p → ops[j]? = some o' → o'.dst = some t → j < i ∧ ∃ e ∈ o.after, e.on = j ∧ Region.binds .any e = true
  back : ∀ (i : Nat) (o : Oper), ops[i]? = some o → ∀ e ∈ o.after, e.on < i
  bar : ∀ (i : Nat) (o : Oper), p ≤ i → ops[i]? = some o → (∀ j, j < p → ∃ e ∈ o.after, e.on = j ∧ Region.binds .any e = true) ∧ (i = p ∨ ∃ e ∈ o.after, e.on + 1 = i ∧ Region.binds .any e = true)

theorem fit_of {len p : Nat} (hp : p ≤ ops.size) (h : drawFit ops len p = true) : Fit ops len p := by
  unfold drawFit at h
  rw [List.all_eq_true] at h
  have key : ∀ i o, ops[i]? = some o → _ := fun i o ho => by
    have hi : i < ops.size := (Array.getElem?_eq_some_iff.1 ho).1
    have := h i (List.mem_range.2 hi)
    rw [ho] at this
    simp only [Bool.and_eq_true] at this
    exact this
  have anyE : ∀ (o : Oper) (f : Nat → Bool), (o.after.any fun e => f e.on && Region.binds .any e) = true → ∃ e ∈ o.after, f e.on = true ∧ Region.binds .any e = true := fun o f ha => by
    simp only [Array.any_eq_true, Bool.and_eq_true] at ha
    obtain ⟨k, hk, h4, h5⟩ := ha
    exact ⟨o.after[k], Array.getElem_mem hk, h4, h5⟩
  refine ⟨hp, fun i o hip ho => ?_, fun i o hip ho t ht j o' hjp hj hd => ?_, fun i o ho e he => ?_, fun i o hip ho => ?_⟩
  · have h1 := (key i o ho).1
    rw [if_pos hip] at h1
    simp only [Bool.and_eq_true] at h1
    have h1 := h1.1
    split at h1
    · cases h1
    · rename_i d hd
      simp only [Bool.and_eq_true, decide_eq_true_eq, List.all_eq_true, List.mem_range, Bool.or_eq_true] at h1
      refine ⟨d, hd, h1.1, fun j o' hjp hj hd' => ?_⟩
      rcases h1.2 j hjp with h2 | h2
      · exact h2
      · rw [hj] at h2
        exact (h2 (by simpa using hd')).elim
  · have h1 := (key i o ho).1
    rw [if_pos hip] at h1
    simp only [Bool.and_eq_true] at h1
    have h1 := h1.2
    rw [List.all_eq_true] at h1
    have h2 := h1 t ht
    rw [List.all_eq_true] at h2
    have h3 := h2 j (List.mem_range.2 hjp)
    simp only [Bool.or_eq_true, decide_eq_true_eq, Bool.and_eq_true] at h3
    rcases h3 with h3 | ⟨h3, h4⟩
    · rw [hj] at h3
      exact (h3 (by simpa using hd)).elim
    · obtain ⟨e, he, h5, h6⟩ := anyE o (fun k => decide (k = j)) h4
      exact ⟨h3, e, he, by simpa using h5, h6⟩
  · have h1 := (key i o ho).2
    rw [Array.all_eq_true] at h1
    obtain ⟨k, hk, rfl⟩ := Array.mem_iff_getElem.1 he
    simpa using h1 k hk
  · have h1 := (key i o ho).1
    rw [if_neg (by omega)] at h1
    simp only [Bool.and_eq_true, List.all_eq_true, List.mem_range, Bool.or_eq_true, decide_eq_true_eq] at h1
    refine ⟨fun j hj => ?_, ?_⟩
    · obtain ⟨e, he, h5, h6⟩ := anyE o (fun k => decide (k = j)) (h1.1 j hj)
      exact ⟨e, he, by simpa using h5, h6⟩
    · rcases h1.2 with h2 | h2
      · exact .inl h2
      · obtain ⟨e, he, h5, h6⟩ := anyE o (fun k => decide (k + 1 = i)) h2
        exact .inr ⟨e, he, by simpa using h5, h6⟩

/-- Written by one of the listed. -/
def Wr (ops : Array Oper) (p : Nat) (listed : Array Bool) (t : Nat) : Prop := ∃ j o, j < p ∧ ops[j]? = some o ∧ o.dst = some t ∧ listed.getD j false = true

structure Mid (ops : Array Oper) (p : Nat) (s0 sE : St) (listed : Array Bool) (s : St) : Prop where
  same : SameFr s0 s
  yes : ∀ t, Wr ops p listed t → s.cur.getD t .un = sE.cur.getD t .un
  no : ∀ t, ¬ Wr ops p listed t → s.cur.getD t .un = s0.cur.getD t .un

theorem wanted_ok {ti : TypeId → TyI} {c : Ctx} {s : St} {a : Act} {ts : List (Array Value)} {g : Gh} {w : World} (hs : Sim ti c s (a.tmps :: ts) g w) {o : Oper} {τ : T} (h : wantedX ops o s = some τ) : Region.wanted o (yielded ops a.tmps) = τ.B := by
  unfold wantedX at h
  split at h
  · rename_i hg
    cases h
    simp [Region.wanted, hg]
  · rename_i j want hg
    split at h
    · cases h
    · rename_i d hd2
      have hsl := hs.slot d
      split at h
      · rename_i τ' hx
        cases h
        rw [hx] at hsl
        have hb := hsl.bool_inv
        have hin : a.tmps[d]? = some (.bool τ'.B) := by
          rcases Nat.lt_or_ge d a.tmps.size with hlt | hge
          · simpa [hlt] using hb
          · simp [Array.getElem?_eq_none hge, undef] at hb
        cases want <;> cases hτ : τ'.B <;> simp [Region.wanted, hg, yielded, hd2, hin, hτ]
      · rename_i hx
        cases h
        rw [hx] at hsl
        have hu : a.tmps.getD d undef = undef := by
          generalize a.tmps.getD d undef = v at hsl
          cases hsl with
          | tup hsz _ => rw [Array.eq_empty_of_size_eq_zero hsz]; rfl
        have : yielded ops a.tmps j = none := by
          unfold yielded
          simp only [hd2, Option.bind_some]
          rcases Nat.lt_or_ge d a.tmps.size with hlt | hge
          · have : a.tmps[d]? = some undef := by simpa [hlt] using hu
            rw [this]
            rfl
          · rw [Array.getElem?_eq_none hge]
        simp [Region.wanted, hg, this]
      · cases h

theorem mem_slotsOf {t : Nat} : ∀ {l : List Operand}, Operand.tmp t ∈ l → t ∈ slotsOf l
  | [], h => by simp at h
  | .tmp u :: l, h => by
    simp only [List.mem_cons] at h
    simp only [slotsOf, List.mem_cons]
    rcases h with h | h
    · cases h; exact .inl rfl
    · exact .inr (mem_slotsOf h)
  | .const _ :: l, h => mem_slotsOf (l := l) ((List.mem_cons.1 h).resolve_left (fun e => by cases e))
  | .global _ :: l, h => mem_slotsOf (l := l) ((List.mem_cons.1 h).resolve_left (fun e => by cases e))
  | .func _ :: l, h => mem_slotsOf (l := l) ((List.mem_cons.1 h).resolve_left (fun e => by cases e))

/-- One operation at any time when it may go. -/
theorem Mid.step {p : Nat} {s0 sE s : St} {listed : Array Bool} (hn : 0 < s0.fr.length) (fit : Fit ops s0.cur.length p) (run : RunD P cf ops (ops.toList.take p) s0 sE) (hsz : listed.size = ops.size) (m : Mid ops p s0 sE listed s)
    {i : Nat} {o : Oper} (hip : i < p) (ho : ops[i]? = some o) (hready : ∀ e ∈ o.after, Region.binds .any e = true → listed.getD e.on false = true) (hli : listed.getD i true = false) :
    ∃ y, StepD P cf ops o s y ∧ Mid ops p s0 sE (listed.setIfInBounds i true) (s.put o.dst y) := by
  have hi : i < ops.size := (Array.getElem?_eq_some_iff.1 ho).1
  have hil : i < (ops.toList.take p).length := by simp; omega
  have hoe : o = (ops.toList.take p)[i]'hil := by
    have := (Array.getElem?_eq_some_iff.1 ho).2
    rw [← this]; simp
  have hsplit : ops.toList.take p = (ops.toList.take p).take i ++ o :: (ops.toList.take p).drop (i + 1) := by
    rw [hoe, ← List.drop_eq_getElem_cons hil, List.take_append_drop]
  rw [hsplit] at run
  obtain ⟨s1, y, r1, st, r2⟩ := RunD.split _ run
  obtain ⟨d, hd, hdl, hdu⟩ := fit.dst i o hip ho
  obtain ⟨f1, g1⟩ := r1.same hn
  have hn1 : 0 < s1.fr.length := by rw [f1.n]; exact hn
  have f2 := SameFr.put hn1 o.dst y
  obtain ⟨f3, g3⟩ := r2.same (by rw [f2.n]; exact hn1)
  have later : ∀ t, (∀ j o', j < p → ops[j]? = some o' → o'.dst = some t → j ≤ i) → ∀ q ∈ (ops.toList.take p).drop (i + 1), q.dst ≠ some t := fun t ht q hq e => by
    obtain ⟨k, hk, rfl⟩ := List.mem_iff_getElem.1 hq
    have hk' : i + 1 + k < p ∧ i + 1 + k < ops.size := by simp at hk; omega
    have h1 : ops[i + 1 + k]? = some (((ops.toList.take p).drop (i + 1))[k]'hk) := by
      simp only [List.getElem_drop, List.getElem_take, Array.getElem_toList]
      exact Array.getElem?_eq_getElem _
    have := ht _ _ hk'.1 h1 e
    omega
  have atE : sE.cur.getD d .un = y := by
    rw [g3 d (later d fun j o' hjp hj hd' => by rw [hdu j o' hjp hj hd']; exact Nat.le_refl _), hd, put_get hn1, if_pos ⟨rfl, by rw [f1.len]; exact hdl⟩]
  -- what is read is as it was in the listed order
  have agree : ∀ t ∈ needs ops o, s.cur.getD t .un = s1.cur.getD t .un := fun t ht => by
    by_cases hw : ∃ (j : Nat) (o' : Oper), j < p ∧ ops[j]? = some o' ∧ o'.dst = some t
    · obtain ⟨j, o', hjp, hj, hd'⟩ := hw
      obtain ⟨hlt, e, he, rfl, hb⟩ := fit.need i o hip ho t ht j o' hjp hj hd'
      rw [m.yes t ⟨_, o', hjp, hj, hd', hready e he hb⟩]
      obtain ⟨d', hd'', _, hu⟩ := fit.dst _ o' hjp hj
      rw [hd'] at hd''
      cases hd''
      rw [g3 t (later t fun k o2 hkp hk h2 => by rw [hu k o2 hkp hk h2]; omega), hd, put_get hn1, if_neg]
      rintro ⟨rfl, _⟩
      have := hu i o hip ho hd
      omega
    · rw [m.no t (fun ⟨j, o', h0, h1, h2, _⟩ => hw ⟨j, o', h0, h1, h2⟩), g1 t]
      intro q hq e
      obtain ⟨k, hk, rfl⟩ := List.mem_iff_getElem.1 (List.mem_of_mem_take hq)
      have hk' : k < p ∧ k < ops.size := by simp at hk; omega
      exact hw ⟨k, _, hk'.1, by simp only [List.getElem_take, Array.getElem_toList]; exact Array.getElem?_eq_getElem hk'.2, e⟩
  have hm : s.m = s1.m := m.same.m.trans f1.m.symm
  have hrd : ∀ x ∈ opRd o.op, opx s x = opx s1 x := fun x hx => by
    cases x with
    | tmp t => exact agree t (List.mem_append_left _ (mem_slotsOf hx))
    | _ => rfl
  have hwx : wantedX ops o s = wantedX ops o s1 := by
    unfold wantedX
    split
    · rfl
    · rename_i j want hg
      split
      · rfl
      · rename_i d' hd'
        rw [agree d' (List.mem_append_right _ (by rw [hg]; simp [hd']))]
  refine ⟨y, ?_, ⟨m.same.trans (SameFr.put (by rw [m.same.n]; exact hn) _ _), fun t ht => ?_, fun t ht => ?_⟩⟩
  · cases st with
    | exec hw h =>
      refine .exec (by rw [hwx]; exact hw) (fun s' hm' hx' => h s' (hm'.trans hm) fun x hx => (hx' x hx).trans (hrd x hx))
    | skip hw => exact .skip (by rw [hwx]; exact hw)
  · rw [hd, put_get (by rw [m.same.n]; exact hn)]
    split
    · rename_i h
      rw [← h.1, atE]
    · rename_i h
      refine m.yes t ?_
      obtain ⟨j, o', hjp, hj, hd', hl⟩ := ht
      refine ⟨j, o', hjp, hj, hd', ?_⟩
      by_cases hji : j = i
      · subst hji
        rw [ho] at hj
        cases hj
        rw [hd] at hd'
        cases hd'
        exact (h ⟨rfl, by rw [m.same.len]; exact hdl⟩).elim
      · simpa [Array.getElem?_setIfInBounds, Ne.symm hji] using hl
  · rw [hd, put_get (by rw [m.same.n]; exact hn), if_neg]
    · refine m.no t fun ⟨j, o', hjp, hj, hd', hl⟩ => ht ⟨j, o', hjp, hj, hd', ?_⟩
      by_cases hji : j = i
      · subst hji
        have : j < listed.size := by omega
        simp [this]
      · simpa [Array.getElem?_setIfInBounds, Ne.symm hji] using hl
    · rintro ⟨rfl, _⟩
      refine ht ⟨i, o, hip, ho, hd, ?_⟩
      have : i < listed.size := by omega
      simp [this]

/-- Nothing may go: all have gone. -/
theorem all_listed {listed : Array Bool} {len p : Nat} (fit : Fit ops len p) (hsz : listed.size = ops.size) (h : Region.ready .any ops listed = []) : ∀ i, i < ops.size → listed.getD i true = true := by
  intro i
  induction i using Nat.strongRecOn with
  | ind i ih =>
    intro hi
    cases hl : listed.getD i true with
    | true => rfl
    | false =>
      have hmem : i ∈ Region.ready .any ops listed := by
        unfold Region.ready
        rw [List.mem_filter]
        refine ⟨List.mem_range.2 hi, ?_⟩
        have ho : ops[i]? = some ops[i] := Array.getElem?_eq_getElem hi
        simp only [hl, Bool.not_false, Bool.true_and, ho, Option.map_some, Option.getD_some]
        rw [Array.all_eq_true]
        intro k hk
        have h1 := fit.back i _ ho _ (Array.getElem_mem hk)
        have h2 := ih _ h1 (by omega)
        have h3 : listed.getD ops[i].after[k].on false = true := by
          have : ops[i].after[k].on < listed.size := by omega
          simpa [this] using h2
        simp [h3]
      rw [h] at hmem
      simp at hmem

end

section
variable {P : Program} {R : Type} {res : R} {cf : Cfg} (H : TabOk P cf.ti)
include H

/-- What comes last: one operation behind the other. -/
theorem suf_ok {call : Nat → List X → St → (X → St → Option R) → Option R} (hcall : CallOk P cf.ti res call) {ops : Array Oper} {c : Ctx} {ts : List (Array Value)} {Q : Exit → Act → World → Prop} {K : St → Option R} {len p : Nat} (fit : Fit ops len p) (hQ : Goes' cf.ti c ts res K (Q .normal)) :
    ∀ (fuel q : Nat) (listed : Array Bool) (s : St) (g : Gh) (a : Act) (w : World), p ≤ q → q ≤ ops.size → ops.size - q ≤ fuel → listed.size = ops.size → (∀ i, i < ops.size → listed.getD i true = decide (i < q)) → opsK cf call ops (ops.toList.drop q) s K = some res → Sim cf.ti c s (a.tmps :: ts) g w → a.defers = [] →
      wpAny P .any ops Q fuel listed a w := by
  intro fuel
  have rdy : ∀ (q : Nat) (listed : Array Bool), p ≤ q → q ≤ ops.size → listed.size = ops.size → (∀ i, i < ops.size → listed.getD i true = decide (i < q)) → ∀ i ∈ Region.ready .any ops listed, i = q ∧ q < ops.size := by
    intro q listed hpq hq hsz hl i hi
    unfold Region.ready at hi
    rw [List.mem_filter] at hi
    simp only [Bool.and_eq_true, Bool.not_eq_true'] at hi
    obtain ⟨hir, hli, hrd⟩ := hi
    have hisz := List.mem_range.1 hir
    have ho : ops[i]? = some ops[i] := Array.getElem?_eq_getElem hisz
    rw [hl i hisz] at hli
    have hge : q ≤ i := by simpa using hli
    refine ⟨?_, by omega⟩
    by_cases hiq : i = q
    · exact hiq
    · exfalso
      rcases (fit.bar i _ (by omega) ho).2 with h1 | ⟨e, he, h1, hb⟩
      · omega
      · simp only [ho, Option.map_some, Option.getD_some] at hrd
        rw [Array.all_eq_true] at hrd
        obtain ⟨k, hk, rfl⟩ := Array.mem_iff_getElem.1 he
        have h2 := hrd k hk
        simp only [hb, Bool.not_true, Bool.false_or] at h2
        have h3 := hl ops[i].after[k].on (by omega)
        have h4 : ops[i].after[k].on < listed.size := by omega
        have h5 : listed.getD ops[i].after[k].on true = listed.getD ops[i].after[k].on false := by simp [h4]
        rw [h5, h2] at h3
        have : ops[i].after[k].on < q := by simpa using h3.symm
        omega
  induction fuel with
  | zero =>
    intro q listed s g a w hpq hq hf hsz hl h hs hd
    have hqe : q = ops.size := by omega
    subst hqe
    rw [List.drop_eq_nil_of_le (by simp)] at h
    refine ⟨?_, hQ s g a w h hs hd⟩
    cases hr : Region.ready .any ops listed with
    | nil => rfl
    | cons i l =>
      have := (rdy ops.size listed hpq (Nat.le_refl _) hsz hl i (by rw [hr]; simp)).2
      omega
  | succ fuel ih =>
    intro q listed s g a w hpq hq hf hsz hl h hs hd
    refine ⟨fun hr => ?_, fun i hi => ?_⟩
    · by_cases hqe : q = ops.size
      · subst hqe
        rw [List.drop_eq_nil_of_le (by simp)] at h
        exact hQ s g a w h hs hd
      · exfalso
        have hq' : q < ops.size := by omega
        have hm : q ∈ Region.ready .any ops listed := by
          unfold Region.ready
          rw [List.mem_filter]
          refine ⟨List.mem_range.2 hq', ?_⟩
          have ho : ops[q]? = some ops[q] := Array.getElem?_eq_getElem hq'
          rw [hl q hq']
          simp only [Nat.lt_irrefl, decide_false, Bool.not_false, Bool.true_and, ho, Option.map_some, Option.getD_some]
          rw [Array.all_eq_true]
          intro k hk
          have h1 := fit.back q _ ho _ (Array.getElem_mem hk)
          have h2 := hl ops[q].after[k].on (by omega)
          have h4 : ops[q].after[k].on < listed.size := by omega
          have h5 : listed.getD ops[q].after[k].on true = listed.getD ops[q].after[k].on false := by simp [h4]
          rw [h5] at h2
          simp [h2, h1]
        rw [hr] at hm
        simp at hm
    · obtain ⟨rfl, hlt⟩ := rdy q listed hpq hq hsz hl i hi
      have ho : ops[i]? = some ops[i] := Array.getElem?_eq_getElem hlt
      have hdr : ops.toList.drop i = ops[i] :: ops.toList.drop (i + 1) := by
        rw [List.drop_eq_getElem_cons (by simpa using hlt)]; simp
      rw [hdr] at h
      unfold wpOp
      simp only [ho]
      exact opsK_step cf H hcall h hs hd fun s' g' a' w' k1 k2 k3 => ih (i + 1) _ s' g' a' w' (by omega) (by omega) (by omega) (by simpa using hsz) (fun j hj => by
          by_cases hji : j = i
          · subst hji
            have : j < listed.size := by omega
            simp [this]
          · have h1 := hl j hj
            have h2 : (listed.setIfInBounds i true).getD j true = listed.getD j true := by simp [Array.getElem?_setIfInBounds, Ne.symm hji]
            rw [h2, h1]
            by_cases hjl : j < i
            · simp [hjl]; omega
            · simp [hjl]; omega) k1 k2 k3

theorem any_ok {call : Nat → List X → St → (X → St → Option R) → Option R} (hcall : CallOk P cf.ti res call) {ops : Array Oper} {c : Ctx} {ts : List (Array Value)} {Q : Exit → Act → World → Prop} {K : St → Option R} {p : Nat} {s0 sE : St} (hn : 0 < s0.fr.length) (fit : Fit ops s0.cur.length p) (run : RunD P cf ops (ops.toList.take p) s0 sE)
    (hK : opsK cf call ops (ops.toList.drop p) sE K = some res) (hQ : Goes' cf.ti c ts res K (Q .normal)) :
    ∀ (fuel : Nat) (listed : Array Bool) (s : St) (g : Gh) (a : Act) (w : World), listed.size = ops.size → (∀ i, p ≤ i → i < ops.size → listed.getD i true = false) → (∀ l : List Nat, l.Nodup → (∀ i ∈ l, i < ops.size ∧ listed.getD i true = false) → l.length ≤ fuel) → Mid ops p s0 sE listed s → Sim cf.ti c s (a.tmps :: ts) g w → a.defers = [] →
      wpAny P .any ops Q fuel listed a w := by
  intro fuel
  -- all that stand ahead have gone: the rest
  have fin : ∀ (fuel : Nat) (listed : Array Bool) (s : St) (g : Gh) (a : Act) (w : World), listed.size = ops.size → (∀ i, p ≤ i → i < ops.size → listed.getD i true = false) → (∀ l : List Nat, l.Nodup → (∀ i ∈ l, i < ops.size ∧ listed.getD i true = false) → l.length ≤ fuel) → Mid ops p s0 sE listed s → Sim cf.ti c s (a.tmps :: ts) g w → a.defers = [] →
      (∀ i, i < p → listed.getD i true = true) → wpAny P .any ops Q fuel listed a w := by
    intro fuel listed s g a w hsz hp hc m hs hd hall
    obtain ⟨f1, g1⟩ := run.same hn
    have e : s = sE := (St.ext_of (s := s) (s' := sE) ⟨f1.m.trans m.same.m.symm, f1.tail.trans m.same.tail.symm, f1.len.trans m.same.len.symm, f1.n.trans m.same.n.symm⟩ (by rw [m.same.n]; exact hn) fun t => by
      by_cases hw : ∃ (j : Nat) (o' : Oper), j < p ∧ ops[j]? = some o' ∧ o'.dst = some t
      · obtain ⟨j, o', hjp, hj, hd'⟩ := hw
        have hlt := (Array.getElem?_eq_some_iff.1 hj).1
        have h1 := hall j hjp
        exact (m.yes t ⟨j, o', hjp, hj, hd', by
          have : j < listed.size := by omega
          simpa [this] using h1⟩).symm
      · rw [m.no t (fun ⟨j, o', h0, h1, h2, _⟩ => hw ⟨j, o', h0, h1, h2⟩), g1 t]
        intro q hq e
        obtain ⟨k, hk, rfl⟩ := List.mem_iff_getElem.1 hq
        have hk' : k < p ∧ k < ops.size := by simp at hk; omega
        exact hw ⟨k, _, hk'.1, by simp only [List.getElem_take, Array.getElem_toList]; exact Array.getElem?_eq_getElem hk'.2, e⟩).symm
    subst e
    refine suf_ok H hcall fit hQ fuel p listed s g a w (Nat.le_refl _) fit.ple ?_ hsz (fun i hi => ?_) hK hs hd
    · have := hc ((List.range (ops.size - p)).map (· + p)) (List.pairwise_map.2 (List.Pairwise.imp (fun {a b} (h : a ≠ b) => by omega) List.nodup_range)) (fun i hi => by
        obtain ⟨k, hk, rfl⟩ := List.mem_map.1 hi
        have := List.mem_range.1 hk
        exact ⟨by omega, hp _ (by omega) (by omega)⟩)
      simpa using this
    · by_cases hip : i < p
      · rw [hall i hip]; simp [hip]
      · rw [hp i (by omega) hi]; simp [hip]
  have nofirst : ∀ (listed : Array Bool), listed.size = ops.size → Region.ready .any ops listed = [] → ∀ i, i < p → listed.getD i true = true := fun listed hsz hr i hi => all_listed fit hsz hr i (by have := fit.ple; omega)
  induction fuel with
  | zero =>
    intro listed s g a w hsz hp hc m hs hd
    refine fin 0 listed s g a w hsz hp hc m hs hd fun i hi => ?_
    cases hl : listed.getD i true with
    | true => rfl
    | false =>
      have := hc [i] (by simp) (fun j hj => by
        simp only [List.mem_singleton] at hj
        subst hj
        exact ⟨by have := fit.ple; omega, hl⟩)
      simp at this
  | succ fuel ih =>
    intro listed s g a w hsz hp hc m hs hd
    by_cases hall : ∀ i, i < p → listed.getD i true = true
    · exact fin (fuel + 1) listed s g a w hsz hp hc m hs hd hall
    refine ⟨fun hr => (hall (nofirst listed hsz hr)).elim, fun i hi => ?_⟩
    unfold Region.ready at hi
    rw [List.mem_filter] at hi
    simp only [Bool.and_eq_true, Bool.not_eq_true'] at hi
    obtain ⟨hir, hli, hrd⟩ := hi
    have hisz := List.mem_range.1 hir
    have ho : ops[i]? = some ops[i] := Array.getElem?_eq_getElem hisz
    have hready : ∀ e ∈ ops[i].after, Region.binds .any e = true → listed.getD e.on false = true := by
      intro e he hb
      simp only [ho, Option.map_some, Option.getD_some] at hrd
      rw [Array.all_eq_true] at hrd
      obtain ⟨k, hk, rfl⟩ := Array.mem_iff_getElem.1 he
      have := hrd k hk
      simpa [hb] using this
    have hip : i < p := by
      by_cases hip : i < p
      · exact hip
      · exfalso
        refine hall fun j hj => ?_
        obtain ⟨e, he, rfl, hb⟩ := (fit.bar i _ (by omega) ho).1 j hj
        have h1 := hready e he hb
        have h2 : e.on < listed.size := by have := fit.ple; omega
        simpa [h2] using h1
    obtain ⟨y, st, m'⟩ := m.step hn fit run hsz hip ho hready hli
    have hc' : ∀ l : List Nat, l.Nodup → (∀ j ∈ l, j < ops.size ∧ (listed.setIfInBounds i true).getD j true = false) → l.length ≤ fuel := fun l hl hj => by
      have h1 := hc (i :: l) (List.nodup_cons.2 ⟨fun hm => by
        have := (hj i hm).2
        have h2 : i < listed.size := by omega
        simp [h2] at this, hl⟩) (fun j hj' => by
        rcases List.mem_cons.1 hj' with rfl | hj'
        · exact ⟨hisz, hli⟩
        · obtain ⟨h2, h3⟩ := hj j hj'
          refine ⟨h2, ?_⟩
          by_cases hji : i = j
          · subst hji
            have h4 : i < listed.size := by omega
            simp [h4] at h3
          · simpa [Array.getElem?_setIfInBounds, hji] using h3)
      simpa using h1
    have hp' : ∀ j, p ≤ j → j < ops.size → (listed.setIfInBounds i true).getD j true = false := fun j hj hjs => by
      have h1 := hp j hj hjs
      have hji : ¬ i = j := by omega
      simpa [Array.getElem?_setIfInBounds, hji] using h1
    have hput : ∀ {s' : St} {g' : Gh} {v : Value} {w' : World}, Sim cf.ti c s' (a.tmps :: ts) g' w' → RX cf.ti g' w' y v →
        Sim cf.ti c (s'.put ops[i].dst y) ((a.put ops[i].dst v).tmps :: ts) g' w' ∧ (a.put ops[i].dst v).defers = [] := by
      intro s' g' v w' h3 h4
      have := h3.put h4 ops[i].dst
      obtain ⟨t2, d2⟩ := a
      simp only at hd
      subst hd
      exact ⟨this, by cases ops[i].dst <;> rfl⟩
    unfold wpOp
    simp only [ho]
    cases st with
    | exec hw h =>
      obtain ⟨τ, hw1, hw2⟩ := hw
      rw [if_pos (by rw [wanted_ok hs hw1, hw2])]
      refine .inl (h s rfl (fun _ _ => rfl) c ts g a w _ Q hs fun v g' w' k2 k3 => ?_)
      obtain ⟨h3, h4⟩ := hput k2 k3
      exact ih _ _ g' _ w' (by simpa using hsz) hp' hc' m' h3 h4
    | skip hw =>
      obtain ⟨τ, hw1, hw2⟩ := hw
      rw [if_neg (by rw [wanted_ok hs hw1, hw2]; decide)]
      obtain ⟨h3, h4⟩ := hput hs (.tup rfl (fun i hi => by simp at hi) : RX cf.ti g w (.tup []) undef)
      exact ih _ _ g _ w (by simpa using hsz) hp' hc' m' h3 h4

/-- ████ EVERY ORDER. ████ -/
theorem drawK_ok (hm : P.follows .mixedOrders = true) (hcode : CodeOk P cf) (henv : EnvsOk P cf) : DrawsOk P cf.ti res (drawK cf) := by
  intro call hcall c id ops s K ts g a w Q h hs hd hQ
  unfold drawK at h
  split at h
  · rename_i hf
    obtain ⟨sE, run, hK⟩ := drawRun_run H hcode henv _ _ _ _ h (fun d b hd => by simp at hd)
    refine wp_region_any hm (any_ok H hcall (s0 := s) (sE := sE) (K := K) ?_ (fit_of hf.1 hf.2) run hK hQ ops.size _ s g a _ (by simp) (fun i _ hi => by simp [hi]) (fun l hl hj => ?_) ⟨SameFr.refl s, fun t ht => ?_, fun t _ => rfl⟩ (hs.drew (w' := { w with drawn := w.drawn + 1 }) rfl rfl rfl rfl).1 hd)
    · have := hs.nf
      simp at this
      omega
    · have : l ⊆ List.range ops.size := fun i hi => List.mem_range.2 (hj i hi).1
      have := hl.length_le_of_subset this
      simpa using this
    · obtain ⟨j, o, _, h1, h2, h3⟩ := ht
      have := (Array.getElem?_eq_some_iff.1 h1).1
      simp [this] at h3
  · cases h

end
end Go.KX
/- Tables checked by evaluation: types, code, what a law's arguments read as. -/
namespace Go.KX
open Go.RowKit

def lookup {α : Type _} : List (Nat × α) → Nat → Option α
  | [], _ => none
  | (k, v) :: r, n => if n = k then some v else lookup r n

theorem lookup_mem {α : Type _} : ∀ {l : List (Nat × α)} {n : Nat} {v : α}, lookup l n = some v → (n, v) ∈ l
  | (k, u) :: r, n, v, h => by
    unfold lookup at h
    split at h
    · rename_i e
      cases h
      subst e
      exact List.mem_cons_self
    · exact List.mem_cons_of_mem _ (lookup_mem h)

def tiOf (tab : List (Nat × TyI)) (t : TypeId) : TyI := (lookup tab t).getD default

/-! #### Types -/
def zeroB : List Lt → List Value → Bool
  | [], [] => true
  | .int k :: ls, .int k' n :: vs => decide (k' = k) && decide (n = 0) && zeroB ls vs
  | .bool :: ls, .bool b :: vs => !b && zeroB ls vs
  | .str :: ls, .string s :: vs => decide (s = .empty) && zeroB ls vs
  | .slice _ :: ls, .slice none 0 0 :: vs => zeroB ls vs
  | .ptr :: ls, .pointer none :: vs => zeroB ls vs
  | .fn :: ls, .nilFunc :: vs => zeroB ls vs
  | _, _ => false
theorem zeroB_ok : ∀ {ls : List Lt} {vs : List Value}, zeroB ls vs = true → vs = ls.map Lt.zv := by
  intro ls vs
  induction ls, vs using zeroB.induct with
  | case1 => intro _; rfl
  | case2 k ls k' n vs ih => intro h; simp only [zeroB, Bool.and_eq_true, decide_eq_true_eq] at h; obtain ⟨⟨rfl, rfl⟩, h⟩ := h; simp [Lt.zv, ih h]
  | case3 ls b vs ih => intro h; simp only [zeroB, Bool.and_eq_true, Bool.not_eq_true'] at h; obtain ⟨rfl, h⟩ := h; simp [Lt.zv, ih h]
  | case4 ls s vs ih => intro h; simp only [zeroB, Bool.and_eq_true, decide_eq_true_eq] at h; obtain ⟨rfl, h⟩ := h; simp [Lt.zv, ih h]
  | case5 e ls vs ih => intro h; simp only [zeroB] at h; simp [Lt.zv, ih h]
  | case6 ls vs ih => intro h; simp only [zeroB] at h; simp [Lt.zv, ih h]
  | case7 ls vs ih => intro h; simp only [zeroB] at h; simp [Lt.zv, ih h]
  | case8 ls vs h1 h2 h3 h4 h5 h6 h7 =>
    intro h
    unfold zeroB at h
    split at h <;> first | (cases h; done) | (exfalso; first | exact h1 rfl rfl | exact h2 _ _ _ _ _ rfl rfl | exact h3 _ _ _ rfl rfl | exact h4 _ _ _ rfl rfl | exact h5 _ _ _ rfl rfl | exact h6 _ _ rfl rfl | exact h7 _ _ rfl rfl)

def dB (ti : TypeId → TyI) (i : TyI) (d : TypeDesc) : Bool :=
  match i.d with
  | .leaf => !i.agg && match i.lv, d with
    | [.int k], .int k' => decide (k' = k)
    | [.bool], .bool => true
    | [.str], .string => true
    | _, _ => false
  | .slice e => !i.agg && decide (i.lv = [.slice e]) && (ti e).ok && match d with
    | .slice e' => decide (e' = e)
    | _ => false
  | .struct fs => i.agg && fs.all (fun p => (ti p.1).ok) && match d with
    | .struct fields => decide (fields.toList.map (fun f => (f.type, f.offset)) = fs)
    | _ => false
  | .array n e => i.agg && (ti e).ok && match d with
    | .array n' e' => decide (n' = n ∧ e' = e)
    | _ => false
  | .other => !i.agg && (decide (i.lv = [.ptr]) || decide (i.lv = [.fn])) && match d with
    | .struct _ => false
    | .array _ _ => false
    | _ => true
theorem dB_ok {ti : TypeId → TyI} {i : TyI} {d : TypeDesc} (h : dB ti i d = true) : dOk ti i d := by
  unfold dB at h
  unfold dOk
  revert h
  cases i.d
  · intro h
    simp only [Bool.and_eq_true, Bool.not_eq_true'] at h
    obtain ⟨h1, h2⟩ := h
    refine ⟨h1, ?_⟩
    split at h2
    · rename_i k k' hl
      exact .inl ⟨k, hl, by rw [of_decide_eq_true h2]⟩
    · rename_i hl
      exact .inr (.inl ⟨hl, rfl⟩)
    · rename_i hl
      exact .inr (.inr ⟨hl, rfl⟩)
    · cases h2
  · rename_i e
    intro h
    simp only [Bool.and_eq_true, Bool.not_eq_true', decide_eq_true_eq] at h
    obtain ⟨⟨⟨h1, h2⟩, h3⟩, h4⟩ := h
    split at h4
    · rw [of_decide_eq_true h4]
      exact ⟨h1, h2, rfl, h3⟩
    · cases h4
  · rename_i fs
    intro h
    simp only [Bool.and_eq_true, List.all_eq_true] at h
    obtain ⟨⟨h1, h2⟩, h3⟩ := h
    split at h3
    · rename_i fields
      exact ⟨h1, fields, rfl, of_decide_eq_true h3, h2⟩
    · cases h3
  · intro h
    simp only [Bool.and_eq_true] at h
    obtain ⟨⟨h1, h2⟩, h3⟩ := h
    split at h3
    · obtain ⟨rfl, rfl⟩ := of_decide_eq_true h3
      exact ⟨h1, rfl, h2⟩
    · cases h3
  · intro h
    simp only [Bool.and_eq_true, Bool.not_eq_true', Bool.or_eq_true, decide_eq_true_eq] at h
    obtain ⟨⟨h1, h2⟩, h3⟩ := h
    refine ⟨h1, h2, ?_⟩
    split at h3 <;> simp_all

def cmpB (P : Program) (ti : TypeId → TyI) (t : TypeId) : Bool :=
  !P.stoodInHeld t && !P.eqGuardType P.depth t && match P.underlying t with
    | some (.struct fields) => decide (fields.toList.length = (ti t).lv.length) && (List.range fields.toList.length).all fun i => match fields.toList[i]? with
      | some f => decide (f.name ≠ "_") && decide (f.offset = i) && (ti f.type).ok && decide ((ti f.type).d = .leaf) && decide ((ti f.type).lv = [(ti t).lv.getD i .fn])
      | none => false
    | _ => false
theorem cmpB_ok {P : Program} {ti : TypeId → TyI} {t : TypeId} (h : cmpB P ti t = true) : CmpOk P ti t := by
  unfold cmpB at h
  simp only [Bool.and_eq_true, Bool.not_eq_true'] at h
  obtain ⟨⟨h1, h2⟩, h3⟩ := h
  split at h3
  · rename_i fields hu
    simp only [Bool.and_eq_true, decide_eq_true_eq, List.all_eq_true, List.mem_range] at h3
    refine ⟨h1, h2, fields, hu, fun i f hf => ?_, h3.1⟩
    have := h3.2 i (List.getElem?_eq_some_iff.1 hf).1
    rw [hf] at this
    simp only [Bool.and_eq_true, decide_eq_true_eq] at this
    obtain ⟨⟨⟨⟨a, b⟩, c⟩, d⟩, e⟩ := this
    exact ⟨a, b, c, d, e⟩
  · cases h3

def tyB (P : Program) (ti : TypeId → TyI) (t : TypeId) : Bool :=
  (match P.info? t with
    | some i => decide (i.size = (ti t).size) && decide (i.bytes = (ti t).bytes) && match i.zero with
      | some z => zeroB (ti t).lv z.cells.toList
      | none => false
    | none => false) &&
  (match P.underlying t with
    | some d => dB ti (ti t) d
    | none => false) && (!(ti t).cmp || cmpB P ti t)
theorem tyB_ok {P : Program} {ti : TypeId → TyI} {t : TypeId} (h : tyB P ti t = true) : TyFacts P ti t := by
  unfold tyB at h
  simp only [Bool.and_eq_true] at h
  obtain ⟨⟨h1, h2⟩, h3⟩ := h
  refine ⟨?_, ?_, fun hc => ?_⟩
  · split at h1
    · rename_i i hi
      simp only [Bool.and_eq_true, decide_eq_true_eq] at h1
      obtain ⟨⟨a, b⟩, c⟩ := h1
      split at c
      · rename_i z hz
        exact ⟨i, hi, a, b, z, hz, zeroB_ok c⟩
      · cases c
    · cases h1
  · split at h2
    · rename_i d hd
      exact ⟨d, hd, dB_ok h2⟩
    · cases h2
  · rw [hc] at h3
    exact cmpB_ok (by simpa using h3)

/-- ████ THE TABLE OF TYPES. ████ -/
theorem tab_ok {P : Program} {tab : List (Nat × TyI)} (h : tab.all (fun p => tyB P (tiOf tab) p.1) = true) : TabOk P (tiOf tab) := by
  intro t ht
  unfold tiOf at ht
  cases hl : lookup tab t with
  | none => rw [hl] at ht; cases ht
  | some i => exact tyB_ok (List.all_eq_true.1 h _ (lookup_mem hl))

/-! #### Code and meanings -/
theorem code_nil {P : Program} {ti : TypeId → TyI} {fe : Nat → Option (Sig × Mean)} {ann : Nat → Nat → Ann} {n : Nat} : CodeOk P ⟨ti, lookup [], fe, ann, n⟩ := fun f fn h => by cases h
theorem code_cons {P : Program} {ti : TypeId → TyI} {fe : Nat → Option (Sig × Mean)} {ann : Nat → Nat → Ann} {n : Nat} {k : Nat} {fn : Func} {r : List (Nat × Func)} (h1 : P.funcs[k]? = some fn) (h2 : (fn.name == "runtime.NumGoroutine") = false)
    (h : CodeOk P ⟨ti, lookup r, fe, ann, n⟩) : CodeOk P ⟨ti, lookup ((k, fn) :: r), fe, ann, n⟩ := fun f gn hf => by
  have hf' : lookup ((k, fn) :: r) f = some gn := hf
  unfold lookup at hf'
  split at hf'
  · rename_i e
    cases hf'
    subst e
    exact ⟨h1, h2⟩
  · exact h f gn hf'
theorem env_nil {P : Program} {ti : TypeId → TyI} {code : Nat → Option Func} {ann : Nat → Nat → Ann} {n : Nat} : EnvsOk P ⟨ti, code, lookup [], ann, n⟩ := fun f sg me h => by cases h
theorem env_cons {P : Program} {ti : TypeId → TyI} {code : Nat → Option Func} {ann : Nat → Nat → Ann} {n : Nat} {k : Nat} {sm : Sig × Mean} {r : List (Nat × (Sig × Mean))} (h1 : EnvOk P ti n k sm.1 sm.2)
    (h : EnvsOk P ⟨ti, code, lookup r, ann, n⟩) : EnvsOk P ⟨ti, code, lookup ((k, sm) :: r), ann, n⟩ := fun f sg me hf => by
  have hf' : lookup ((k, sm) :: r) f = some (sg, me) := hf
  unfold lookup at hf'
  split at hf'
  · rename_i e
    cases hf'
    subst e
    exact h1
  · exact h f sg me hf'

end Go.KX
/- What a law's arguments read as: trees; a law that holds on trees holds of the program. -/
namespace Go.KX
open Go.RowKit

/-- A tree of a type: ints in their range, lists not too long. -/
inductive WL (ti : TypeId → TyI) : Lt → T → Prop
  | int {k : IntKind} {n : Int} (h1 : k.min ≤ n) (h2 : n ≤ k.max) : WL ti (.int k) (.i n)
  | bool {b : Bool} : WL ti .bool (.b b)
  | str {s : List UInt8} (h : s.length < maxN) : WL ti .str (.s s)
  | slice {e : TypeId} {n : Nat} (F : Nat → Nat → T) (hn : n < maxN) (h : ∀ i j, i < n → j < (ti e).size → WL ti ((ti e).lv.getD j .fn) (F i j)) :
      WL ti (.slice e) (.l ((List.range n).map fun i => (ti e).join ((List.range (ti e).size).map (F i))))

def layB (ti : TypeId → TyI) : List (TypeId × Nat) → Nat → List Lt → Bool
  | [], _, ls => ls.isEmpty
  | (t, o) :: fs, n, ls => decide (o = n) && decide (ls.take (ti t).size = (ti t).lv) && layB ti fs (n + (ti t).size) (ls.drop (ti t).size)

/-- Types that trees can stand for. -/
def goodB (ti : TypeId → TyI) (ts : List TypeId) : Bool :=
  ts.all fun t => (ti t).ok && match (ti t).d with
    | .leaf => true
    | .slice e => ts.contains e && decide (0 < (ti e).size) && decide (0 < (ti e).bytes)
    | .struct fs => layB ti fs 0 (ti t).lv && fs.all fun p => ts.contains p.1
    | _ => false

section
variable {H : Type} {enc : TypeId × Value → H} {P : Program} {w : World} {base : Nat} {spare : Nat → Bool} {held : Bool} {ti : TypeId → TyI}

theorem cellsOf_ok (H : TabOk P ti) {t : TypeId} (h : (ti t).ok = true) : P.cellsOf t = (ti t).size ∧ P.bytesOf t = (ti t).bytes := by
  obtain ⟨i, h1, h2, h3, _⟩ := (H t h).info
  simp [Program.cellsOf, Program.bytesOf, h1, h2, h3]

/-- The cells read as trees. -/
def Reads (ti : TypeId → TyI) (w : World) (t : TypeId) (cs : List Value) (f : Nat → T) : Prop :=
  cs.length = (ti t).size ∧ ∀ j, j < (ti t).size → RL ti (· < w.heap.size) w ((ti t).lv.getD j .fn) (f j) (cs.getD j undef) ∧ WL ti ((ti t).lv.getD j .fn) (f j)

theorem lay_reads (cs : List Value) : ∀ (fs : List (TypeId × Nat)) (n : Nat) (ls : List Lt), layB ti fs n ls = true → (∀ p ∈ fs, ∃ f, Reads ti w p.1 ((cs.drop p.2).take (ti p.1).size) f) →
    ∃ f : Nat → T, ∀ j, j < ls.length → RL ti (· < w.heap.size) w (ls.getD j .fn) (f j) (cs.getD (n + j) undef) ∧ WL ti (ls.getD j .fn) (f j)
  | [], n, ls, h, _ => by
    unfold layB at h
    have : ls = [] := by simpa using h
    subst this
    exact ⟨fun _ => .i 0, fun j hj => by simp at hj⟩
  | (t, o) :: fs, n, ls, h, hp => by
    unfold layB at h
    simp only [Bool.and_eq_true, decide_eq_true_eq] at h
    obtain ⟨⟨rfl, h2⟩, h3⟩ := h
    obtain ⟨f, hl, hf⟩ := hp (t, o) (by simp)
    obtain ⟨g, hg⟩ := lay_reads cs fs _ _ h3 (fun p hp' => hp p (List.mem_cons_of_mem _ hp'))
    refine ⟨fun j => if j < (ti t).size then f j else g (j - (ti t).size), fun j hj => ?_⟩
    by_cases hj1 : j < (ti t).size
    · simp only [if_pos hj1]
      have h4 := hf j hj1
      have e1 : (ti t).lv.getD j .fn = ls.getD j .fn := by rw [← h2]; simp [hj1]
      have e2 : ((cs.drop o).take (ti t).size).getD j undef = cs.getD (o + j) undef := by simp [hj1]
      rw [e1, e2] at h4
      exact h4
    · simp only [if_neg hj1]
      have h4 := hg (j - (ti t).size) (by simp; omega)
      have e1 : (ls.drop (ti t).size).getD (j - (ti t).size) .fn = ls.getD j .fn := by
        simp only [List.getD_eq_getElem?_getD, List.getElem?_drop]
        congr 2
        omega
      have e2 : o + (ti t).size + (j - (ti t).size) = o + j := by omega
      rw [e1, e2] at h4
      exact h4

theorem weights_all {e : TypeId} : ∀ (l : List (DataW H)), (DataW.weightsAll P e l).all (· ≤ reachBytes) = true → ∀ d ∈ l, (d.weights P e).all (· ≤ reachBytes) = true
  | [], _, d, hd => by simp at hd
  | x :: l, h, d, hd => by
    unfold DataW.weightsAll at h
    rw [List.all_append, Bool.and_eq_true] at h
    rcases List.mem_cons.1 hd with rfl | hd
    · exact h.1
    · exact weights_all l h.2 d hd

theorem weights_each : ∀ (ts : List TypeId) (l : List (DataW H)), (DataW.weightsEach P ts l).all (· ≤ reachBytes) = true → ∀ (i : Nat) (t : TypeId) (d : DataW H), ts[i]? = some t → l[i]? = some d → (d.weights P t).all (· ≤ reachBytes) = true
  | [], l, _, i, t, d, ht, hd => by simp at ht
  | _ :: _, [], _, i, t, d, ht, hd => by simp at hd
  | t0 :: ts, x :: l, h, i, t, d, ht, hd => by
    unfold DataW.weightsEach at h
    rw [List.all_append, Bool.and_eq_true] at h
    cases i with
    | zero => simp only [List.getElem?_cons_zero, Option.some.injEq] at ht hd; subst ht hd; exact h.1
    | succ i => exact weights_each ts l h.2 i t d (by simpa using ht) (by simpa using hd)

theorem trod_tree (Hk : TabOk P ti) {ts : List TypeId} (hg : goodB ti ts = true) : ∀ (fuel : Nat) (t : TypeId) (cs : List Value) (x : DataW H × List MemPlace), DataW.trod enc P w base spare held fuel t cs = some x → t ∈ ts →
    (x.1.weights P t).all (· ≤ reachBytes) = true → ∃ f, Reads ti w t cs f := by
  intro fuel
  induction fuel with
  | zero => intro t cs x h; simp [DataW.trod] at h
  | succ fuel ih =>
    intro t cs x h hts hwt
    have hgt := List.all_eq_true.1 hg t hts
    simp only [Bool.and_eq_true] at hgt
    obtain ⟨hok, hgt⟩ := hgt
    obtain ⟨d, hu, hd⟩ := (Hk t hok).und
    unfold dOk at hd
    cases hdd : (ti t).d with
    | leaf =>
      rw [hdd] at hd
      obtain ⟨hagg, hd⟩ := hd
      rcases hd with ⟨k, hl, rfl⟩ | ⟨hl, rfl⟩ | ⟨hl, rfl⟩
      · obtain ⟨n, rfl, _, hw⟩ := DataW.trod_int hu h
        simp only [Lit.wf, Bool.and_eq_true, decide_eq_true_eq] at hw
        refine ⟨fun _ => .i n, by simp [TyI.size, hl], fun j hj => ?_⟩
        have : j = 0 := by simpa [TyI.size, hl] using hj
        subst this
        rw [hl]
        exact ⟨.int (τ := .i n) hw.1 hw.2, .int hw.1 hw.2⟩
      · obtain ⟨b, rfl, _⟩ := DataW.trod_bool hu h
        refine ⟨fun _ => .b b, by simp [TyI.size, hl], fun j hj => ?_⟩
        have : j = 0 := by simpa [TyI.size, hl] using hj
        subst this
        rw [hl]
        exact ⟨.bool (τ := .b b), .bool⟩
      · obtain ⟨s, rfl, rfl, _⟩ := DataW.trod_string hu h
        have hlen : s.toList.length ≤ reachBytes := by
          have : s.data.toList.length ≤ reachBytes := by simpa [DataW.weights] using hwt
          rw [ByteArray.toList_eq]; exact this
        refine ⟨fun _ => .s s.toList, by simp [TyI.size, hl], fun j hj => ?_⟩
        have : j = 0 := by simpa [TyI.size, hl] using hj
        subst this
        rw [hl]
        exact ⟨.str (τ := .s s.toList) rfl, .str (Nat.lt_of_le_of_lt hlen (by decide))⟩
    | slice e =>
      rw [hdd] at hd hgt
      obtain ⟨hagg, hl, rfl, heok⟩ := hd
      simp only [Bool.and_eq_true, decide_eq_true_eq] at hgt
      obtain ⟨⟨hets, hesz⟩, heb⟩ := hgt
      have hets' : e ∈ ts := by simpa using hets
      obtain ⟨hcell, hbytes⟩ := cellsOf_ok Hk heok
      rcases DataW.trod_slice hu h with ⟨rfl, _⟩ | ⟨a, len, cap, elems, rest, n, hn, rfl, rfl, _, hlc, _, hel, hcs, _, _⟩
      · refine ⟨fun _ => .l [], by simp [TyI.size, hl], fun j hj => ?_⟩
        have : j = 0 := by simpa [TyI.size, hl] using hj
        subst this
        rw [hl]
        exact ⟨.empty rfl, .slice (n := 0) (fun _ _ => .i 0) (by decide) (fun i j hi => by omega)⟩
      · cases hn
        simp only [DataW.weights, hu, List.all_cons, List.all_append, Bool.and_eq_true, decide_eq_true_eq, List.length_map] at hwt
        obtain ⟨hw1, hw2, _⟩ := hwt
        rw [hbytes] at hw1
        have hlen : len < maxN := by
          have : len ≤ (elems.length + rest.length) * (ti e).bytes := Nat.le_trans (by omega) (Nat.le_mul_of_pos_right _ heb)
          exact Nat.lt_of_le_of_lt (Nat.le_trans this hw1) (by decide)
        have hex : ∀ i, ∃ f : Nat → T, i < len → ∃ cs', w.cells? base (a.add (i * P.cellsOf e)) (P.cellsOf e) = some cs' ∧ Reads ti w e cs' f := fun i => by
          by_cases hi : i < len
          · have h1 := hcs i hi
            have hei : elems[i]? = some (elems[i]'(by omega)) := List.getElem?_eq_getElem (by omega)
            rw [hei] at h1
            obtain ⟨cs', h2, h3⟩ := Option.bind_eq_some_iff.1 h1
            obtain ⟨f, hf⟩ := ih e cs' _ h3 hets' (weights_all _ hw2 _ (List.mem_map_of_mem (List.getElem_mem _)))
            exact ⟨f, fun _ => ⟨cs', h2, hf⟩⟩
          · exact ⟨fun _ => .i 0, fun h => absurd h hi⟩
        let F : Nat → Nat → T := fun i => (hex i).choose
        have hF : ∀ i, i < len → ∃ cs', w.cells? base (a.add (i * P.cellsOf e)) (P.cellsOf e) = some cs' ∧ Reads ti w e cs' (F i) := fun i hi => (hex i).choose_spec hi
        have hxs : ∀ i, i < len → ((List.range len).map fun i => (ti e).join ((List.range (ti e).size).map (F i))).getD i (.i 0) = (ti e).join ((List.range (ti e).size).map (F i)) := fun i hi => by simp [hi]
        refine ⟨fun _ => .l ((List.range len).map fun i => (ti e).join ((List.range (ti e).size).map (F i))), by simp [TyI.size, hl], fun j hj => ?_⟩
        have : j = 0 := by simpa [TyI.size, hl] using hj
        subst this
        rw [hl]
        refine ⟨?_, .slice F hlen fun i j hi hj => by
          obtain ⟨cs', _, hr⟩ := hF i hi
          exact (hr.2 j hj).2⟩
        by_cases hz : len = 0
        · subst hz
          exact .empty rfl
        · have hspot : a.spot = none ∧ a.block < w.heap.size := by
            obtain ⟨cs', h1, hr⟩ := hF 0 (by omega)
            obtain ⟨_, h2, h3⟩ := World.cells?_some h1
            rw [hcell] at h2 h3
            have h4 := h3 0 hesz
            have h5 : cs'[0]? = some (cs'[0]'(by omega)) := List.getElem?_eq_getElem (by omega)
            rw [h5] at h4
            simp only [Nat.zero_mul, Addr.add, if_true] at h4
            unfold World.cell? at h4
            split at h4
            · rename_i c te fr hh
              split at h4
              · cases h4
              · rename_i hs
                refine ⟨by simpa using hs, ?_⟩
                exact (Array.getElem?_eq_some_iff.1 hh).1
            · cases h4
          obtain ⟨b, o, sp⟩ := a
          simp only at hspot
          obtain ⟨rfl, hb⟩ := hspot
          have hll : ((T.l ((List.range len).map fun i => (ti e).join ((List.range (ti e).size).map (F i)))).L).length = len := by simp
          have key := RL.slice (ti := ti) (im := (· < w.heap.size)) (w := w) (e := e) (τ := .l ((List.range len).map fun i => (ti e).join ((List.range (ti e).size).map (F i)))) (b := b) (o := o) (c := cap)
            (fun i j => if h : i < len then (hF i h).choose.getD j undef else undef) hb (by rw [hll]; exact hlc) (by rw [hll]; exact hlen) (fun i j hi hj => ?_) (fun i j hi hj => ?_)
          · rw [hll] at key
            exact key
          · rw [hll] at hi
            rw [dif_pos hi]
            obtain ⟨h1, hr⟩ := (hF i hi).choose_spec
            obtain ⟨_, h2, h3⟩ := World.cells?_some h1
            generalize (hF i hi).choose = cs' at h2 h3 ⊢
            have h6 : cs'.length = (ti e).size := by rw [h2, hcell]
            have h4 := h3 j (by rw [hcell]; exact hj)
            have h5 : cs'[j]? = some (cs'[j]'(by rw [h6]; exact hj)) := List.getElem?_eq_getElem _
            rw [List.getD_eq_getElem?_getD, h5]
            rw [h5] at h4
            have ea : ((⟨b, o, none⟩ : Addr).add (i * P.cellsOf e)).add j = ⟨b, o + i * (ti e).size + j, none⟩ := by
              rw [hcell, addr_add, addr_add]
            rw [ea] at h4
            exact h4
          · rw [hll] at hi
            rw [dif_pos hi]
            obtain ⟨h1, hr⟩ := (hF i hi).choose_spec
            have := (hr.2 j hj).1
            have e1 : (ti e).leaf ((T.l ((List.range len).map fun i => (ti e).join ((List.range (ti e).size).map (F i)))).L.getD i (.i 0)) j = F i j := by
              rw [T.L_l, hxs i hi]
              exact leaf_join Hk heok (F i) hj
            rw [e1]
            exact this
    | struct fs =>
      rw [hdd] at hd hgt
      obtain ⟨hagg, fields, rfl, hfs, hfok⟩ := hd
      simp only [Bool.and_eq_true, List.all_eq_true] at hgt
      obtain ⟨hlay, hmem⟩ := hgt
      obtain ⟨xs, n, hn, rfl, hlen, hxl, hfi⟩ := DataW.trod_struct hu h
      cases hn
      obtain ⟨hcell, _⟩ := cellsOf_ok Hk hok
      simp only [DataW.weights, hu] at hwt
      obtain ⟨f, hf⟩ := lay_reads (ti := ti) (w := w) cs fs 0 (ti t).lv hlay (fun p hp => by
        rw [← hfs] at hp
        obtain ⟨fd, hfd, rfl⟩ := List.mem_map.1 hp
        obtain ⟨i, hi, rfl⟩ := List.mem_iff_getElem.1 hfd
        have hi' : i < fields.size := by simpa using hi
        have h1 := hfi i fields[i] (Array.getElem?_eq_getElem hi')
        have hx : xs[i]? = some (xs[i]'(by omega)) := List.getElem?_eq_getElem (by omega)
        rw [hx] at h1
        have hft : (fields.toList[i].type, fields.toList[i].offset) ∈ fs := by rw [← hfs]; exact List.mem_map_of_mem (List.getElem_mem _)
        have hfto := hfok _ hft
        have hc := (cellsOf_ok Hk hfto).1
        simp only at hc
        have hwi := weights_each _ _ hwt i fields[i].type xs[i].1 (by simp [hi']) (by simp [hx])
        have htm := hmem _ hft
        obtain ⟨f, hf⟩ := ih _ _ _ h1 (by simpa using htm) hwi
        simp only [Array.getElem_toList] at hc ⊢
        rw [hc] at hf
        exact ⟨f, hf⟩)
      exact ⟨f, by rw [hlen, hcell], fun j hj => by simpa using hf j hj⟩
    | array n e => rw [hdd] at hgt; cases hgt
    | other => rw [hdd] at hgt; cases hgt

/-- How a function's parameters are held. -/
def psOf (ti : TypeId → TyI) (ts : List TypeId) : List (Bool × List Lt) := ts.map fun t => ((ti t).agg, (ti t).lv)

theorem leafXs_ok {im : Nat → Prop} {g : Gh} (hg : g.im = im) : ∀ (ls : List Lt) (f : Nat → T) (cs : List Value) (r : List T), cs.length = ls.length → (∀ j, j < ls.length → RL ti im w (ls.getD j .fn) (f j) (cs.getD j undef)) → RXs ti g w (leafXs ls ((List.range ls.length).map f ++ r)) cs
  | [], f, cs, r, hl, h => by
    have : cs = [] := by simpa using hl
    subst this
    exact .nil
  | l :: ls, f, cs, r, hl, h => by
    cases cs with
    | nil => simp at hl
    | cons c cs =>
      simp only [List.length_cons, List.range_succ_eq_map, List.map_cons, List.map_map, List.cons_append, leafXs, List.headD_cons, List.tail_cons]
      refine .cons (.t (by rw [hg]; simpa using h 0 (by simp))) ?_
      exact leafXs_ok hg ls (f ∘ Nat.succ) cs r (by simpa using hl) fun j hj => by simpa using h (j + 1) (by simpa using hj)

theorem leafXs_len : ∀ (ls : List Lt) (τs : List T), (leafXs ls τs).length = ls.length
  | [], _ => rfl
  | l :: ls, τs => by simp [leafXs, leafXs_len ls]

/-- A value that reads as trees. -/
theorem value_reads (Hk : TabOk P ti) {ts : List TypeId} (hg : goodB ti ts = true) {t : TypeId} (ht : t ∈ ts) {v : Value} {d : DataW H} {ps : List MemPlace} {r : Reach} {b0 : Nat} (hval : Value.okWide P w r b0 t v) (h : DataW.Trod enc P w base spare held t v d ps)
    (hw : (d.weights P t).all (· ≤ reachBytes) = true) : ∃ f, Reads ti w t v.cells.toList f ∧ ∀ (g : Gh) (rest : List T), g.im = (· < w.heap.size) →
      RX ti g w (if (ti t).agg then .agg (leafXs (ti t).lv ((List.range (ti t).size).map f ++ rest)) else .t ((ti t).lv.headD .fn) (((List.range (ti t).size).map f ++ rest).headD (.i 0))) v := by
  obtain ⟨fuel, hf⟩ := h
  obtain ⟨f, hr⟩ := trod_tree Hk hg fuel t _ _ hf ht hw
  refine ⟨f, hr, fun g rest him => ?_⟩
  have hgt := List.all_eq_true.1 hg t ht
  simp only [Bool.and_eq_true] at hgt
  obtain ⟨hok, hgt⟩ := hgt
  obtain ⟨dd, hu, hd⟩ := (Hk t hok).und
  have one : ∀ {l : Lt}, (ti t).agg = false → (ti t).lv = [l] → v.cells.toList = [v] → RX ti g w (if (ti t).agg then .agg (leafXs (ti t).lv ((List.range (ti t).size).map f ++ rest)) else .t ((ti t).lv.headD .fn) (((List.range (ti t).size).map f ++ rest).headD (.i 0))) v := fun {l} ha hl hv => by
    rw [ha, if_neg (by decide)]
    have hsz : (ti t).size = 1 := by simp [TyI.size, hl]
    have h1 := (hr.2 0 (by omega)).1
    rw [hv] at h1
    rw [hsz]
    refine .t ?_
    rw [him]
    simpa [hl] using h1
  unfold dOk at hd
  cases hdd : (ti t).d with
  | leaf =>
    rw [hdd] at hd
    obtain ⟨hagg, hd⟩ := hd
    rcases hd with ⟨k, hl, rfl⟩ | ⟨hl, rfl⟩ | ⟨hl, rfl⟩
    · obtain ⟨n, rfl⟩ := WideShapes.okWide_int hu hval
      exact one hagg hl rfl
    · obtain ⟨n, rfl⟩ := WideShapes.okWide_bool hu hval
      exact one hagg hl rfl
    · obtain ⟨n, rfl⟩ := WideShapes.okWide_string hu hval
      exact one hagg hl rfl
  | slice e =>
    rw [hdd] at hd
    obtain ⟨hagg, hl, rfl, _⟩ := hd
    obtain ⟨a, len, cap, rfl⟩ := WideShapes.okWide_slice hu hval
    exact one hagg hl rfl
  | struct fs =>
    rw [hdd] at hd
    obtain ⟨hagg, fields, rfl, _⟩ := hd
    obtain ⟨cs, rfl, hcs⟩ := WideShapes.okWide_struct hu hval
    rw [hagg, if_pos rfl]
    have hl : cs.toList.length = (ti t).lv.length := by simpa [TyI.size, Value.cells] using hr.1
    have := leafXs_ok (ti := ti) (w := w) (im := (· < w.heap.size)) (g := g) him (ti t).lv f cs.toList rest hl (fun j hj => (hr.2 j hj).1)
    refine .agg ?_ fun i hi => ?_
    · rw [leafXs_len]
      simpa using hl
    · have h2 := this.get i hi
      rwa [Array.getD_eq_getD_getElem?, ← Array.getElem?_toList, ← List.getD_eq_getElem?_getD]
  | array n e => rw [hdd] at hgt; cases hgt
  | other => rw [hdd] at hgt; cases hgt

/-- The trees of the arguments. -/
inductive WLs (ti : TypeId → TyI) : List Lt → List T → Prop
  | nil : WLs ti [] []
  | cons {l : Lt} {τ : T} {ls : List Lt} {τs : List T} (h : WL ti l τ) (t : WLs ti ls τs) : WLs ti (l :: ls) (τ :: τs)

theorem WLs.append {ls ms : List Lt} {τs σs : List T} (h : WLs ti ls τs) (k : WLs ti ms σs) : WLs ti (ls ++ ms) (τs ++ σs) := by
  induction h with
  | nil => exact k
  | cons h _ ih => exact .cons h ih

theorem WLs.range : ∀ (ls : List Lt) (f : Nat → T), (∀ j, j < ls.length → WL ti (ls.getD j .fn) (f j)) → WLs ti ls ((List.range ls.length).map f)
  | [], f, h => .nil
  | l :: ls, f, h => by
    simp only [List.length_cons, List.range_succ_eq_map, List.map_cons, List.map_map]
    exact .cons (by simpa using h 0 (by simp)) (WLs.range ls (f ∘ Nat.succ) fun j hj => by simpa using h (j + 1) (by simpa using hj))

theorem args_read (Hk : TabOk P ti) {all : List TypeId} (hg : goodB ti all = true) {r : Reach} {b0 : Nat} : ∀ (ts : List TypeId) (vs : List Value) (ds : List (DataW H)) (ps : List MemPlace), (∀ t ∈ ts, t ∈ all) →
    (∀ (j : Nat) (t : TypeId) (v : Value), ts[j]? = some t → vs[j]? = some v → Value.okWide P w r b0 t v) → DataW.TrodAll enc P w base spare held ts vs ds ps → (DataW.weightsEach P ts ds).all (· ≤ reachBytes) = true →
    ∃ τs, WLs ti (flatLs (psOf ti ts)) τs ∧ ∀ (g : Gh), g.im = (· < w.heap.size) → RXs ti g w (argXs (psOf ti ts) τs) vs
  | [], vs, ds, ps, _, _, h, _ => by
    cases vs with
    | nil => exact ⟨[], .nil, fun g _ => .nil⟩
    | cons v vs => cases ds <;> simp [DataW.TrodAll] at h
  | t :: ts, [], ds, ps, _, _, h, _ => by cases ds <;> simp [DataW.TrodAll] at h
  | t :: ts, v :: vs, [], ps, _, _, h, _ => by simp [DataW.TrodAll] at h
  | t :: ts, v :: vs, d :: ds, ps, hm, hv, h, hw => by
    obtain ⟨p, q, h1, h2, _⟩ := h
    unfold DataW.weightsEach at hw
    rw [List.all_append, Bool.and_eq_true] at hw
    obtain ⟨f, k1, k2⟩ := value_reads Hk hg (hm t (by simp)) (hv 0 t v rfl rfl) h1 hw.1
    obtain ⟨τs, k3, k4⟩ := args_read Hk hg ts vs ds q (fun t ht => hm t (List.mem_cons_of_mem _ ht)) (fun j t v ht hv' => hv (j + 1) t v (by simpa using ht) (by simpa using hv')) h2 hw.2
    refine ⟨(List.range (ti t).size).map f ++ τs, ?_, fun g him => ?_⟩
    · exact (WLs.range (ti t).lv f fun j hj => (k1.2 j hj).2).append k3
    · have hdrop : ((List.range (ti t).size).map f ++ τs).drop (ti t).lv.length = τs := List.drop_left' (by simp [TyI.size])
      have h3 := k2 g τs him
      cases ha : (ti t).agg with
      | true =>
        rw [ha, if_pos rfl] at h3
        simp only [psOf, List.map_cons, ha, argXs, hdrop]
        exact .cons h3 (k4 g him)
      | false =>
        rw [ha, if_neg (by decide)] at h3
        simp only [psOf, List.map_cons, ha, argXs, hdrop]
        exact .cons h3.argX (k4 g him)

/-- ████ A LAW, FROM WHAT ITS CODE COMES TO ON TREES. ████ -/
theorem law_calls (Hk : TabOk P ti) {all ts : List TypeId} (hg : goodB ti all = true) (hall : ∀ t ∈ ts, t ∈ all) {f : Nat} {F : Nat → List T → Option (List T)} (hE : ∀ n, EnvOk P ti n f ⟨psOf ti ts, [.leaf .bool false]⟩ ⟨F⟩)
    (hT : ∀ τs, WLs ti (flatLs (psOf ti ts)) τs → ∃ n, F n τs = some [.b true])
    {r : Reach} {b0 : Nat} {args : Array Value} {ds : List (DataW H)} {ps : List MemPlace} (hv : ∀ (j : Nat) (t : TypeId) (v : Value), ts[j]? = some t → args.toList[j]? = some v → Value.okWide P w r b0 t v) (h : DataW.TrodAll enc P w base spare held ts args.toList ds ps)
    (hw : (DataW.weightsEach P ts ds).all (· ≤ reachBytes) = true) : Calls P f args w fun e w' => e = .returned (.bool true) ∧ Below w.heap.size w w' := by
  obtain ⟨τs, h1, h2⟩ := args_read Hk hg ts args.toList ds ps hall hv h hw
  obtain ⟨n, hn⟩ := hT τs h1
  have h3 := (hE n τs _ hn (· < w.heap.size) w args.toList (fun b hb => hb) (h2 _ rfl)).2
  rw [Array.toArray_toList] at h3
  refine h3.mono fun e w' he => ?_
  obtain ⟨vs, g', rfl, k1, k2⟩ := he
  refine ⟨?_, ⟨k1.fm.os, k1.fm.tape, k1.fm.output, k1.fm.size, fun b hb => (k1.fm.old b hb (by simp)).1⟩⟩
  have e1 : group [Sh.leaf .bool false] (resLeaves (shLvs [Sh.leaf .bool false]) [.b true] 0) = [.t .bool (.b true)] := rfl
  rw [show (Sig.mk (psOf ti ts) [Sh.leaf .bool false]).rs = [Sh.leaf .bool false] from rfl, e1] at k2
  cases k2 with
  | cons a b =>
    cases b
    have := a.bool_inv
    subst this
    rfl

end
end Go.KX
/- Small words for the printed texts. -/
namespace Go.KX

/-- A loop's body, by its first region. -/
def bodyOf (f : Func) (i : Nat) : Code := ((loopsIn (f.body.getD .skip)).find? fun b => regionId b == i).getD .skip

section
variable {R : Type} {cf : Cfg} {call : Nat → List X → St → (X → St → Option R) → Option R} {draw : Array Oper → St → (St → Option R) → Option R} {ann : Nat → Ann} {lm : Nat → List LoopM}
theorem loops_nil : LoopsOk cf call draw ann lm [] := fun b hb => by simp at hb
theorem loops_cons {b : Code} {l : List Code} {i : Nat} {Ls : List LoopM} (hi : regionId b = i) (hL : lm i = Ls) (h : ∀ L ∈ Ls, LoopOk cf call draw ann lm b L) (r : LoopsOk cf call draw ann lm l) : LoopsOk cf call draw ann lm (b :: l) := fun b' hb L' hL' => by
  rcases List.mem_cons.1 hb with rfl | hb
  · rw [hi, hL] at hL'
    exact h L' hL'
  · exact r b' hb L' hL'
theorem loops_of {f : Nat} {fn0 : Func} {l : List Code} (hc : cf.code f = some fn0) (hb : loopsIn (fn0.body.getD .skip) = l) (h : LoopsOk cf call draw ann lm l) : ∀ fn b, cf.code f = some fn → fn.body = some b → LoopsOk cf call draw ann lm (loopsIn b) := fun fn b hf hfb => by
  rw [hc] at hf
  cases hf
  rw [hfb] at hb
  simp only [Option.getD_some] at hb
  rw [hb]
  exact h
end

/-- Loops' meanings, by depth and function. -/
def lms2 : List ((Nat × Nat) × (Nat → List LoopM)) → Nat → Nat → (Nat → List LoopM)
  | [], _, _ => fun _ => []
  | (k, m) :: r, d, f => if k.1 = d ∧ k.2 = f then m else lms2 r d f

section
variable {R : Type} (cf : Cfg) (draw : (Nat → List X → St → (X → St → Option R) → Option R) → Array Oper → St → (St → Option R) → Option R) (lms : Nat → Nat → Nat → List LoopM)
def LmsOk (l : List ((Nat × Nat) × (Nat → List LoopM))) : Prop :=
  ∀ d f fn b, cf.code f = some fn → fn.body = some b → LoopsOk cf (callK cf draw lms d) (draw (callK cf draw lms d)) (cf.ann f) (lms2 l d f) (loopsIn b)
variable {cf draw lms}
theorem lms_nil : LmsOk cf draw lms [] := fun _ _ _ _ _ _ _ _ _ h => by cases h
theorem lms_cons {d0 f0 : Nat} {m : Nat → List LoopM} {l : List ((Nat × Nat) × (Nat → List LoopM))} (h : ∀ fn b, cf.code f0 = some fn → fn.body = some b → LoopsOk cf (callK cf draw lms d0) (draw (callK cf draw lms d0)) (cf.ann f0) m (loopsIn b)) (r : LmsOk cf draw lms l) :
    LmsOk cf draw lms (((d0, f0), m) :: l) := fun d f fn b hf hb => by
  unfold lms2
  split
  · rename_i e
    obtain ⟨e1, e2⟩ := e
    simp only at e1 e2
    subst e1 e2
    exact h fn b hf hb
  · exact r d f fn b hf hb
end
end Go.KX
/- A law's row, from what its code comes to on trees. -/
namespace Go.KX
open Go.RowKit Go.ChangeShapes

section
variable {H : Type} {enc : TypeId × Value → H}

theorem trodAll_stays {P : Program} (hl : laidOutB P = true) {W W' : World} {sp : Nat → Bool} (hb : Below W.heap.size W W') : ∀ (ts : List TypeId) (vs : List Value) (ds : List (DataW H)) (ps : List MemPlace), (∀ t ∈ ts, P.readableRec t = true ∧ t < P.types.size) →
    DataW.TrodAll enc P W 0 (fun _ => true) true ts vs ds ps → (∀ p ∈ ps, p.block < W.heap.size ∧ sp p.block = true) → DataW.TrodAll enc P W' 0 sp true ts vs ds ps
  | [], vs, ds, ps, _, h, _ => by
    obtain ⟨rfl, rfl, rfl⟩ := trodAll_nil h
    rfl
  | t :: ts, vs, ds, ps, hr, h, hp => by
    obtain ⟨v, vs', d, ds', p, q, rfl, rfl, rfl, h1, h2⟩ := trodAll_cons h
    exact ⟨p, q, WideElems.Trod_stays hl (hr t (by simp)).1 (hr t (by simp)).2 h1 (fun x hx => hb.same (hp x (List.mem_append_left _ hx)).1) (fun x hx => (hp x (List.mem_append_left _ hx)).2),
      trodAll_stays hl hb ts vs' ds' q (fun t ht => hr t (List.mem_cons_of_mem _ ht)) h2 (fun x hx => hp x (List.mem_append_right _ hx)), rfl⟩

/-- ████ A LAW'S ROW. ████ -/
theorem law_lifted {C : Checked} {os : Os} {f : FuncId} {fn : Func} {s : ChangeSpec} {conds : List PathCond} {apart : Bool} {ti : TypeId → TyI} (Hk : TabOk C.prog ti) {all ts : List TypeId} (hg : goodB ti all = true) (hall : ts.all (fun t => all.contains t) = true)
    (own : ownKnob C.prog.godebug = none) (started : os.Started) (noInit : C.prog.inits.idxOf? f = none) (hfn : C.prog.funcs[f]? = some fn)
    (witness : ∃ (w : World) (tape : Tape) (i : Input), w.os = os ∧ (w.forCall tape i).Shaped C.prog ∧ i.vars = [] ∧ Input.okWide C.prog (w.forCall tape i) .any w.heap.size f i ∧
      s.pre6 enc C.prog fn conds apart (w.forCall tape i).memory i.args ∧ ({} : Assume).holds C.prog (lone (Frame.enter C.prog f i.args .normal) [] (w.forCall tape i)))
    (hl : laidOutB C.prog = true) (hps : fn.params.toList = ts) {tb : TypeId} (hrt : fn.resultTypes.toList = [tb]) (htb : C.prog.underlying tb = some .bool) (hrd : ts.all (fun t => C.prog.readableRec t && decide (t < C.prog.types.size)) = true)
    (hv : s.vars = []) (hspec : ∀ ds : List (DataW H), ds.length = ts.length → s.fn H ds = { results := [.lit (.bool true)], args := ds })
    {F : Nat → List T → Option (List T)} (hE : ∀ n, EnvOk C.prog ti n f ⟨psOf ti ts, [.leaf .bool false]⟩ ⟨F⟩) (hT : ∀ τs, WLs ti (flatLs (psOf ti ts)) τs → ∃ n, F n τs = some [.b true]) :
    ReturnsInHanded {} C os f .any (s.pre6 enc C.prog fn conds apart) (s.post enc C.prog fn apart true false false) := by
  refine returnsInHanded_of_change_sized own started noInit hfn witness ?_
  intro W base args ds gs before hval hW _ hwt _
  have hW' := hW
  obtain ⟨p, q, hA, hV, rfl, hfz, hnd⟩ := hW'
  rw [hv] at hV
  obtain ⟨rfl, rfl⟩ := trodVars_none hV
  rw [hps] at hA
  have hlt : ∀ x ∈ p, x.block < W.heap.size := fun x hx => hW.lt x (List.mem_append_left _ hx)
  have hlen : ds.length = ts.length := by
    have : ∀ (ts : List TypeId) (vs : List Value) (ds : List (DataW H)) (ps : List MemPlace), DataW.TrodAll enc C.prog W 0 (fun _ => true) true ts vs ds ps → ds.length = ts.length := by
      intro ts
      induction ts with
      | nil => intro vs ds ps h; obtain ⟨_, rfl, _⟩ := trodAll_nil h; rfl
      | cons t ts ih => intro vs ds ps h; obtain ⟨v, vs', d, ds', p, q, rfl, rfl, rfl, _, h2⟩ := trodAll_cons h; simp [ih _ _ _ h2]
    exact this _ _ _ _ hA
  have hwt' : (DataW.weightsEach C.prog ts ds).all (· ≤ reachBytes) = true := by
    have e : s.plain.varTypes C.prog = [] := by simp [ChangeSpec.plain, DataSpec.varTypes, hv]
    rw [hps, e] at hwt
    simpa using hwt
  refine (law_calls Hk hg (fun t ht => by have := List.all_eq_true.1 hall t ht; simpa using this) hE hT (r := .any) (b0 := base) (fun j t v ht hv' => hval j t v (by rw [← Array.getElem?_toList, hps]; exact ht) (by rwa [Array.getElem?_toList] at hv')) hA hwt').mono fun e W' he => ?_
  obtain ⟨rfl, hb⟩ := he
  refine ⟨_, rfl, ds, [], p ++ [], [], p, [], hW, ?_, ?_, ?_, hb.frame _, fun h => by cases h⟩
  · have e1 : Value.resultList fn.resultTypes.size (.bool true) = [.bool true] := by
      have : fn.resultTypes.size = 1 := by rw [← Array.length_toList, hrt]; rfl
      rw [this]; rfl
    rw [hrt, e1, List.append_nil, hspec ds hlen]
    exact trodAll_mk1 (shut_bool htb true)
  · rw [hps, List.append_nil, hspec ds hlen]
    refine trodAll_stays hl hb ts _ _ _ (fun t ht => ?_) hA fun x hx => ⟨hlt x hx, by simpa using hlt x hx⟩
    have := List.all_eq_true.1 hrd t ht
    simpa using this
  · rw [List.append_nil, hspec ds hlen, hv]
    exact rfl
end
end Go.KX
/- Plain law: loops that count up, ints that do not wrap, trees of a type. -/
namespace Go.KX

theorem I_i (n : Int) : (T.i n).I = n := Eq.trans rfl rfl
theorem B_b (b : Bool) : (T.b b).B = b := Eq.trans rfl rfl
theorem S_s (l : List UInt8) : (T.s l).S = l := Eq.trans rfl rfl
theorem L_l (l : List T) : (T.l l).L = l := Eq.trans rfl rfl
theorem F_r (l : List T) (j : Nat) : (T.r l).F j = l.getD j (.i 0) := Eq.trans rfl rfl
theorem wrap64 {x : Int} (h1 : -9223372036854775808 ≤ x) (h2 : x ≤ 9223372036854775807) : IntKind.wrap .i64 x = x := by
  have e : IntKind.wrap .i64 x = if x % 18446744073709551616 ≥ 9223372036854775808 then x % 18446744073709551616 - 18446744073709551616 else x % 18446744073709551616 := by
    simp [IntKind.wrap, IntKind.signed, IntKind.bits]
  rw [e]
  split <;> omega

section
variable {R : Type}

/-- The first of the places from i on where E has something to say. -/
def scan {α : Type} (E : Nat → Option α) (d : α) : Nat → Nat → α
  | 0, _ => d
  | k + 1, i => match E i with
    | some r => r
    | none => scan E d k (i + 1)

theorem loop_scan {G : List T → (List T → Option R) → List (List T → Option R) → Option R} {ex : List (List T → Option R)} {len : Nat} {v : Nat → List T} {E : Nat → Option (Option R)} {d : Option R}
    (hs : ∀ i, i < len → ∀ self, G (v i) self ex = match E i with | some r => r | none => self (v (i + 1))) (hd : ∀ self, G (v len) self ex = d) :
    ∀ (k i n : Nat), i + k = len → k < n → loopR G n (v i) ex = scan E d k i
  | 0, i, n, hi, hn => by
    cases n with
    | zero => omega
    | succ n =>
      have : i = len := by omega
      subst this
      exact hd _
  | k + 1, i, n, hi, hn => by
    cases n with
    | zero => omega
    | succ n =>
      have h := hs i (by omega) (iter (fun v self => G v self ex) n)
      show G (v i) (iter (fun v self => G v self ex) n) ex = _
      rw [h]
      unfold scan
      cases E i with
      | some r => rfl
      | none => exact loop_scan hs hd k (i + 1) n (by omega) (by omega)

/-- A loop without a way out before its end. -/
theorem loop_up {G : List T → (List T → Option R) → List (List T → Option R) → Option R} {ex : List (List T → Option R)} {len : Nat} {v : Nat → List T} {d : Option R}
    (hs : ∀ i, i < len → ∀ self, G (v i) self ex = self (v (i + 1))) (hd : ∀ self, G (v len) self ex = d) (n : Nat) (hn : len < n) : loopR G n (v 0) ex = d := by
  have key : ∀ (k i n : Nat), i + k = len → k < n → loopR G n (v i) ex = d := by
    intro k
    induction k with
    | zero =>
      intro i n hi hn
      cases n with
      | zero => omega
      | succ n =>
        have : i = len := by omega
        subst this
        exact hd _
    | succ k ih =>
      intro i n hi hn
      cases n with
      | zero => omega
      | succ n =>
        show G (v i) (iter (fun v self => G v self ex) n) ex = _
        rw [hs i (by omega)]
        exact ih (i + 1) n (by omega) (by omega)
  exact key len 0 n (by omega) hn
end

/-- The first k of ys laid over xs. -/
def lay (ys xs : List T) (k : Nat) : List T := ys.take k ++ xs.drop k
theorem lay_zero (ys xs : List T) : lay ys xs 0 = xs := rfl
theorem lay_all {ys xs : List T} (h : xs.length = ys.length) : lay ys xs ys.length = ys := by
  unfold lay
  rw [List.take_length, List.drop_eq_nil_of_le (by omega), List.append_nil]
theorem lay_length {ys xs : List T} (h : xs.length = ys.length) {k : Nat} (hk : k ≤ ys.length) : (lay ys xs k).length = ys.length := by
  unfold lay
  simp
  omega
theorem lay_set {ys xs : List T} (h : xs.length = ys.length) {k : Nat} (hk : k < ys.length) {y : T} (hy : y = ys.getD k (.i 0)) : (lay ys xs k).set k y = lay ys xs (k + 1) := by
  unfold lay
  apply List.ext_getElem?
  intro i
  have hk' : k < xs.length := by omega
  rw [List.getElem?_set]
  simp only [List.length_append, List.length_take, List.length_drop]
  by_cases h1 : k = i
  · subst h1
    rw [if_pos rfl, if_pos (by omega), List.getElem?_append_left (by simp; omega), List.getElem?_take, if_pos (by omega), hy]
    simp [hk]
  · rw [if_neg h1]
    by_cases h2 : i < k
    · rw [List.getElem?_append_left (by simp; omega), List.getElem?_append_left (by simp; omega), List.getElem?_take, List.getElem?_take, if_pos h2, if_pos (by omega)]
    · rw [List.getElem?_append_right (by simp; omega), List.getElem?_append_right (by simp; omega), List.getElem?_drop, List.getElem?_drop]
      congr 1
      simp
      omega

theorem at_nat (xs : List T) (i : Nat) : at_ xs (i : Int) = xs.getD i (.i 0) := by simp [at_]

section
variable {ti : TypeId → TyI}
theorem WL.int_inv {k : IntKind} {τ : T} (h : WL ti (.int k) τ) : ∃ n, τ = .i n ∧ k.min ≤ n ∧ n ≤ k.max := by
  cases h with | int h1 h2 => exact ⟨_, rfl, h1, h2⟩
theorem WL.bool_inv {τ : T} (h : WL ti .bool τ) : ∃ b, τ = .b b := by
  cases h; exact ⟨_, rfl⟩
theorem WL.str_inv {τ : T} (h : WL ti .str τ) : ∃ s, τ = .s s ∧ s.length < maxN := by
  cases h with | str h => exact ⟨_, rfl, h⟩
/-- A list of trees of a type. -/
def LW (ti : TypeId → TyI) (e : TypeId) (xs : List T) : Prop := xs.length < maxN ∧ ∀ x ∈ xs, ∃ f : Nat → T, x = (ti e).join ((List.range (ti e).size).map f) ∧ ∀ j, j < (ti e).size → WL ti ((ti e).lv.getD j .fn) (f j)
theorem WL.slice_inv {e : TypeId} {τ : T} (h : WL ti (.slice e) τ) : ∃ xs, τ = .l xs ∧ LW ti e xs := by
  cases h with
  | slice F hn h =>
    refine ⟨_, rfl, by simpa using hn, fun x hx => ?_⟩
    obtain ⟨i, hi, rfl⟩ := List.mem_map.1 hx
    exact ⟨F i, rfl, fun j hj => h i j (List.mem_range.1 hi) hj⟩
theorem LW.at {e : TypeId} {xs : List T} (h : LW ti e xs) {i : Nat} (hi : i < xs.length) : ∃ f : Nat → T, xs.getD i (.i 0) = (ti e).join ((List.range (ti e).size).map f) ∧ ∀ j, j < (ti e).size → WL ti ((ti e).lv.getD j .fn) (f j) :=
  h.2 _ (by simp [hi])
theorem WLs.nil_inv {τs : List T} (h : WLs ti [] τs) : τs = [] := by cases h; rfl
theorem WLs.cons_inv {l : Lt} {ls : List Lt} {τs : List T} (h : WLs ti (l :: ls) τs) : ∃ τ σs, τs = τ :: σs ∧ WL ti l τ ∧ WLs ti ls σs := by
  cases h with | cons a b => exact ⟨_, _, rfl, a, b⟩
end
end Go.KX
/- Plain law: copies, comparisons and sizes of trees. -/
namespace Go.KX

mutual
def T.sz0 : T → Nat
  | .i _ => 0
  | .b _ => 0
  | .s _ => 0
  | .l xs => xs.length + T.szL0 xs
  | .r xs => T.szL0 xs
def T.szL0 : List T → Nat
  | [] => 0
  | x :: xs => x.sz0 + T.szL0 xs
end
/-- How many elements its lists hold. -/
@[irreducible] def T.sz (τ : T) : Nat := τ.sz0
@[irreducible] def T.szL (xs : List T) : Nat := T.szL0 xs
theorem szr (xs : List T) : (T.r xs).sz = T.szL xs := by unfold T.sz T.szL; rw [T.sz0]
theorem szl (xs : List T) : (T.l xs).sz = xs.length + T.szL xs := by unfold T.sz T.szL; rw [T.sz0]
theorem szi (n : Int) : (T.i n).sz = 0 := by unfold T.sz; rw [T.sz0]
theorem szb (b : Bool) : (T.b b).sz = 0 := by unfold T.sz; rw [T.sz0]
theorem szs (l : List UInt8) : (T.s l).sz = 0 := by unfold T.sz; rw [T.sz0]
theorem szN : T.szL [] = 0 := by unfold T.szL; rw [T.szL0]
theorem szC (x : T) (xs : List T) : T.szL (x :: xs) = x.sz + T.szL xs := by unfold T.sz T.szL; rw [T.szL0]
theorem szL_mem {x : T} : ∀ {xs : List T}, x ∈ xs → x.sz ≤ T.szL xs
  | y :: ys, h => by
    rw [szC]
    rcases List.mem_cons.1 h with rfl | h
    · omega
    · have := szL_mem h
      omega
theorem sz_mem {x : T} {xs : List T} (h : x ∈ xs) : x.sz ≤ (T.l xs).sz := by
  have := szL_mem h
  rw [szl]
  omega
theorem getD_mem {xs : List T} {i : Nat} (h : i < xs.length) : xs.getD i (.i 0) ∈ xs := by
  rw [List.getD_eq_getElem?_getD, List.getElem?_eq_getElem h]
  exact List.getElem_mem h
theorem len_sz (xs : List T) : xs.length ≤ (T.l xs).sz := by rw [szl]; omega
theorem szL_zero : ∀ {xs : List T}, (∀ x ∈ xs, x.sz = 0) → T.szL xs = 0
  | [], _ => szN
  | x :: xs, h => by rw [szC, h x (by simp), szL_zero fun y hy => h y (List.mem_cons_of_mem _ hy)]
theorem szL_getD (xs : List T) (j : Nat) : (xs.getD j (.i 0)).sz ≤ T.szL xs := by
  rcases Nat.lt_or_ge j xs.length with h | h
  · have : xs.getD j (.i 0) ∈ xs := by simp [h]
    exact szL_mem this
  · simp [List.getElem?_eq_none h, szi]
theorem le_getD {xs : List T} {N : Nat} (h : T.szL xs ≤ N) (j : Nat) : (xs.getD j (.i 0)).sz ≤ N := Nat.le_trans (szL_getD xs j) h
theorem lt_getD {xs : List T} (h : T.szL xs ≤ 1048576) (j : Nat) : (xs.getD j (.i 0)).sz < maxN := Nat.lt_of_le_of_lt (le_getD h j) (by decide)
theorem szL_append (xs ys : List T) : T.szL (xs ++ ys) = T.szL xs + T.szL ys := by
  induction xs with
  | nil => rw [List.nil_append, szN, Nat.zero_add]
  | cons x xs ih => rw [List.cons_append, szC, szC, ih, Nat.add_assoc]
theorem le_part {xs : List T} {N : Nat} (h : T.szL xs ≤ N) (off k : Nat) : (T.r ((xs.drop off).take k)).sz ≤ N := by
  rw [szr]
  have h1 := szL_append (xs.take off) (xs.drop off)
  have h2 := szL_append ((xs.drop off).take k) ((xs.drop off).drop k)
  rw [List.take_append_drop] at h1 h2
  omega
theorem sz_F (x : T) (j : Nat) : (x.F j).sz ≤ x.sz := by
  cases x with
  | r xs => rw [szr]; exact szL_getD xs j
  | _ => show (T.i 0).sz ≤ _; rw [szi]; exact Nat.zero_le _
theorem sz_L (x : T) : (T.l x.L).sz ≤ x.sz := by
  cases x <;> simp [szl, szN, T.L]
theorem sz_at (xs : List T) (i : Int) : (at_ xs i).sz ≤ (T.l xs).sz := by
  have := szL_getD xs i.toNat
  rw [szl]
  unfold at_
  omega

/-- What is left of a budget. -/
def sub (left : Int) (k : Nat) : Int := if left < k then -1 else left - k
theorem sub_neg {left : Int} {k : Nat} (h : left < k) : sub left k = -1 := if_pos h
theorem sub_pos {left : Int} {k : Nat} (h : ¬ left < k) : sub left k = left - k := if_neg h
theorem sub_dec {left : Int} {k : Nat} : decide (sub left k < 0) = decide (left < k) := by
  unfold sub
  split
  · rename_i h; simp [h]
  · rename_i h; simp [h]; omega

section
variable {R : Type}
/-- One round of a copy. -/
def toG (e : Nat) (Fe : T → Option (List T)) (J : List T → T) (v : List T) (self : List T → Option R) (ex : List (List T → Option R)) : Option R :=
  bif (decide ((v.getD 1 (.i 0)).I < ((((v.getD 0 (.i 0)).L).length : Nat) : Int))) then (if 0 ≤ (v.getD 1 (.i 0)).I ∧ (v.getD 1 (.i 0)).I < (((v.getD 0 (.i 0)).L).length : Int) then ((Fe (at_ ((v.getD 0 (.i 0)).L) ((v.getD 1 (.i 0)).I))).bind fun r1 => if 0 ≤ (v.getD 1 (.i 0)).I ∧ (v.getD 1 (.i 0)).I < (((v.getD 2 (.i 0)).L).length : Int) then (if e = e ∧ ((v.getD 1 (.i 0)).I).toNat < ((v.getD 2 (.i 0)).L).length then (self [.l ((v.getD 0 (.i 0)).L), .i (IntKind.wrap .i64 ((v.getD 1 (.i 0)).I + 1)), .l (((v.getD 2 (.i 0)).L).set (((v.getD 1 (.i 0)).I).toNat) (J r1))]) else none) else none) else none) else (exn ex 0 [.l ((v.getD 2 (.i 0)).L)])
/-- One round of a comparison. -/
def eqG (Fe : T → T → Option (List T)) (v : List T) (self : List T → Option R) (ex : List (List T → Option R)) : Option R :=
  bif (decide ((v.getD 2 (.i 0)).I < ((((v.getD 0 (.i 0)).L).length : Nat) : Int))) then (if 0 ≤ (v.getD 2 (.i 0)).I ∧ (v.getD 2 (.i 0)).I < (((v.getD 0 (.i 0)).L).length : Int) then (if 0 ≤ (v.getD 2 (.i 0)).I ∧ (v.getD 2 (.i 0)).I < (((v.getD 1 (.i 0)).L).length : Int) then ((Fe (at_ ((v.getD 0 (.i 0)).L) ((v.getD 2 (.i 0)).I)) (at_ ((v.getD 1 (.i 0)).L) ((v.getD 2 (.i 0)).I))).bind fun r1 => bif (!(r1.headD (.i 0)).B) then (exn ex 0 [.b false]) else (self [.l ((v.getD 0 (.i 0)).L), .l ((v.getD 1 (.i 0)).L), .i (IntKind.wrap .i64 ((v.getD 2 (.i 0)).I + 1))])) else none) else none) else (exn ex 1 [])
def eqH (ne : T → T → Bool) (v : List T) (self : List T → Option R) (ex : List (List T → Option R)) : Option R :=
  bif (decide ((v.getD 2 (.i 0)).I < ((((v.getD 0 (.i 0)).L).length : Nat) : Int))) then (if 0 ≤ (v.getD 2 (.i 0)).I ∧ (v.getD 2 (.i 0)).I < (((v.getD 0 (.i 0)).L).length : Int) then (if 0 ≤ (v.getD 2 (.i 0)).I ∧ (v.getD 2 (.i 0)).I < (((v.getD 1 (.i 0)).L).length : Int) then (bif ne (at_ ((v.getD 0 (.i 0)).L) ((v.getD 2 (.i 0)).I)) (at_ ((v.getD 1 (.i 0)).L) ((v.getD 2 (.i 0)).I)) then (exn ex 0 [.b false]) else (self [.l ((v.getD 0 (.i 0)).L), .l ((v.getD 1 (.i 0)).L), .i (IntKind.wrap .i64 ((v.getD 2 (.i 0)).I + 1))])) else none) else none) else (exn ex 1 [])
/-- One round of a count. -/
def szG (Fe : T → T → Option (List T)) (v : List T) (self : List T → Option R) (ex : List (List T → Option R)) : Option R :=
  bif (decide ((v.getD 2 (.i 0)).I < ((((v.getD 0 (.i 0)).L).length : Nat) : Int))) then (if 0 ≤ (v.getD 2 (.i 0)).I ∧ (v.getD 2 (.i 0)).I < (((v.getD 0 (.i 0)).L).length : Int) then ((Fe (at_ ((v.getD 0 (.i 0)).L) ((v.getD 2 (.i 0)).I)) (.i ((v.getD 1 (.i 0)).I))).bind fun r1 => bif (decide ((r1.headD (.i 0)).I < 0)) then (exn ex 0 [.i ((r1.headD (.i 0)).I), .i (-1)]) else (self [.l ((v.getD 0 (.i 0)).L), .i ((r1.headD (.i 0)).I), .i (IntKind.wrap .i64 ((v.getD 2 (.i 0)).I + 1))])) else none) else (exn ex 1 [.i ((v.getD 1 (.i 0)).I)])
end

theorem toS_ok {e : Nat} {Fe : T → Option (List T)} {J : List T → T} {by_ : Int} {z : T} {n : Nat} (hn : maxN ≤ n) {xs : List T} (hl : (xs.length : Int) * by_ ≤ limB) (hm : xs.length < maxN) (hx : ∀ x ∈ xs, ∃ r, Fe x = some r ∧ J r = x) :
    (if 0 ≤ (xs.length : Int) ∧ (xs.length : Int) * by_ ≤ limB ∧ (xs.length : Int) < maxN then (loopR (toG e Fe J) n [.l xs, .i 0, .l (List.replicate ((xs.length : Int)).toNat z)] [fun u2 => some [T.l ((u2.getD 0 (.i 0)).L)]]) else none) = some [.l xs] := by
  have hlen : xs.length < 281474976710656 := hm
  rw [if_pos ⟨by omega, hl, by unfold maxN; omega⟩, Int.toNat_natCast]
  exact loop_up (G := toG e Fe J) (ex := [fun u1 => some [T.l ((u1.getD 0 (.i 0)).L)]]) (len := xs.length) (v := fun i => [.l xs, .i (i : Int), .l (lay xs (List.replicate xs.length z) i)]) (d := some [T.l xs])
    (fun i hi self => by
      obtain ⟨r, h1, h2⟩ := hx (xs.getD i (.i 0)) (by simp [hi])
      simp only [toG, List.getD_cons_zero, List.getD_cons_succ, I_i, L_l, at_nat, h1, Option.bind_some, h2]
      rw [decide_eq_true (by omega), cond_true, if_pos (by omega), lay_length (ys := xs) (k := i) (by simp) (by omega), if_pos (by omega), if_pos ⟨trivial, by simpa using hi⟩, wrap64 (by omega) (by omega), Int.toNat_natCast, lay_set (by simp) hi rfl]
      rfl)
    (fun self => by
      simp only [toG, List.getD_cons_zero, List.getD_cons_succ, I_i, L_l]
      rw [decide_eq_false (by omega), cond_false, lay_all (by simp)]
      rfl) n (by unfold maxN at hn; omega)

theorem eqS_ok {Fe : T → T → Option (List T)} {n : Nat} (hn : maxN ≤ n) {xs : List T} (hm : xs.length < maxN) (hx : ∀ x ∈ xs, Fe x x = some [.b true]) :
    (bif ((xs.length : Int) != (xs.length : Int)) then (some [T.b false]) else (loopR (eqG Fe) n [.l xs, .l xs, .i 0] [fun u2 => some [T.b ((u2.getD 0 (.i 0)).B)], fun _ => some [.b true]])) = some [.b true] := by
  have hlen : xs.length < 281474976710656 := hm
  rw [bne_self_eq_false, cond_false]
  exact loop_up (G := eqG Fe) (len := xs.length) (v := fun i => [.l xs, .l xs, .i (i : Int)])
    (fun i hi self => by
      simp only [eqG, List.getD_cons_zero, List.getD_cons_succ, I_i, L_l, at_nat, hx (xs.getD i (.i 0)) (by simp [hi]), Option.bind_some, List.headD_cons, B_b, Bool.not_true, cond_false]
      rw [decide_eq_true (by omega), cond_true, if_pos (by omega), if_pos (by omega), wrap64 (by omega) (by omega)]
      rfl)
    (fun self => by
      simp only [eqG, List.getD_cons_zero, List.getD_cons_succ, I_i, L_l]
      rw [decide_eq_false (by omega), cond_false]
      rfl) n (by unfold maxN at hn; omega)

theorem eqT_ok {ne : T → T → Bool} {n : Nat} (hn : maxN ≤ n) {xs : List T} (hm : xs.length < maxN) (hx : ∀ x, ne x x = false) :
    (bif ((xs.length : Int) != (xs.length : Int)) then (some [T.b false]) else (loopR (eqH ne) n [.l xs, .l xs, .i 0] [fun u2 => some [T.b ((u2.getD 0 (.i 0)).B)], fun _ => some [.b true]])) = some [.b true] := by
  have hlen : xs.length < 281474976710656 := hm
  rw [bne_self_eq_false, cond_false]
  exact loop_up (G := eqH ne) (len := xs.length) (v := fun i => [.l xs, .l xs, .i (i : Int)])
    (fun i hi self => by
      simp only [eqH, List.getD_cons_zero, List.getD_cons_succ, I_i, L_l, at_nat, hx, cond_false]
      rw [decide_eq_true (by omega), cond_true, if_pos (by omega), if_pos (by omega), wrap64 (by omega) (by omega)]
      rfl)
    (fun self => by
      simp only [eqH, List.getD_cons_zero, List.getD_cons_succ, I_i, L_l]
      rw [decide_eq_false (by omega), cond_false]
      rfl) n (by unfold maxN at hn; omega)

theorem szFlat_ok {xs : List T} (hm : xs.length < maxN) (h0 : T.szL xs = 0) {left : Int} (h1 : 0 ≤ left) (h2 : left ≤ 1048576) :
    (bif (decide ((IntKind.wrap .i64 (left - (xs.length : Int))) < 0)) then (some [T.i (-1)]) else (some [.i (IntKind.wrap .i64 (left - (xs.length : Int)))])) = some [.i (sub left (T.l xs).sz)] := by
  have hlen : xs.length < 281474976710656 := hm
  rw [wrap64 (by omega) (by omega), szl, h0, Nat.add_zero]
  by_cases h : left < xs.length
  · rw [sub_neg h, decide_eq_true (by omega)]; rfl
  · rw [sub_pos h, decide_eq_false (by omega)]; rfl

theorem szS_ok {Fe : T → T → Option (List T)} {n : Nat} (hn : maxN ≤ n) {xs : List T} (hm : xs.length < maxN) (hx : ∀ x ∈ xs, ∀ left : Int, 0 ≤ left → left ≤ 1048576 → Fe x (.i left) = some [.i (sub left x.sz)]) {left : Int} (h1 : 0 ≤ left) (h2 : left ≤ 1048576) :
    (bif (decide ((IntKind.wrap .i64 (left - (xs.length : Int))) < 0)) then (some [T.i (-1)]) else (loopR (szG Fe) n [.l xs, .i (IntKind.wrap .i64 (left - (xs.length : Int))), .i 0] [fun u2 => some [T.i ((u2.getD 1 (.i 0)).I)], fun u3 => some [.i ((u3.getD 0 (.i 0)).I)]])) = some [.i (sub left (T.l xs).sz)] := by
  have hlen : xs.length < 281474976710656 := hm
  rw [wrap64 (by omega) (by omega), szl]
  by_cases h : left < xs.length
  · rw [sub_neg (by omega), decide_eq_true (by omega)]; rfl
  · rw [decide_eq_false (by omega), cond_false]
    have key : ∀ (k i m : Nat) (b : Int), i + k = xs.length → k < m → 0 ≤ b → b ≤ 1048576 →
        loopR (szG Fe) m [.l xs, .i b, .i (i : Int)] [fun u2 => some [T.i ((u2.getD 1 (.i 0)).I)], fun u3 => some [.i ((u3.getD 0 (.i 0)).I)]] = some [.i (sub b (T.szL (xs.drop i)))] := by
      intro k
      induction k with
      | zero =>
        intro i m b hi hm' hb1 hb2
        cases m with
        | zero => omega
        | succ m =>
          show szG Fe _ _ _ = _
          simp only [szG, List.getD_cons_zero, List.getD_cons_succ, I_i, L_l]
          rw [decide_eq_false (by omega), cond_false, List.drop_eq_nil_of_le (by omega), szN]
          simp [exn, sub]
          omega
      | succ k ih =>
        intro i m b hi hm' hb1 hb2
        cases m with
        | zero => omega
        | succ m =>
          show szG Fe _ (loopR (szG Fe) m · _) _ = _
          have hxi : xs.getD i (.i 0) = xs[i] := by simp [show i < xs.length by omega]
          simp only [szG, List.getD_cons_zero, List.getD_cons_succ, I_i, L_l, at_nat, hx (xs.getD i (.i 0)) (by simp [show i < xs.length by omega]) b hb1 hb2, Option.bind_some, List.headD_cons]
          rw [decide_eq_true (by omega), cond_true, if_pos (by omega), sub_dec, List.drop_eq_getElem_cons (by omega), szC, ← hxi]
          by_cases hlt : b < (xs.getD i (.i 0)).sz
          · rw [decide_eq_true hlt, cond_true, sub_neg (k := (xs.getD i (.i 0)).sz + T.szL (xs.drop (i + 1))) (by omega)]
            rfl
          · rw [decide_eq_false hlt, cond_false, wrap64 (by omega) (by omega), sub_pos hlt]
            refine Eq.trans (ih (i + 1) m (b - (xs.getD i (.i 0)).sz) (by omega) (by omega) (by omega) (by omega)) ?_
            congr 3
            unfold sub
            split <;> split <;> omega
    have := key xs.length 0 n (left - xs.length) (by omega) (by unfold maxN at hn; omega) (by omega) (by omega)
    rw [List.drop_zero] at this
    refine Eq.trans this ?_
    congr 3
    unfold sub
    split <;> split <;> omega

theorem szThen {left : Int} {a b : Nat} {K : Option (List T)} (h : ¬ left < a → K = some [.i (sub (left - a) b)]) : (bif (decide (sub left a < 0)) then (some [T.i (-1)]) else K) = some [.i (sub left (a + b))] := by
  rw [sub_dec]
  by_cases hl : left < a
  · rw [decide_eq_true hl, cond_true, sub_neg (k := a + b) (by omega)]
  · rw [decide_eq_false hl, cond_false, h hl]
    congr 3
    unfold sub
    split <;> split <;> omega
theorem szEnd {left : Int} {a : Nat} : (bif (decide (sub left a < 0)) then (some [T.i (-1)]) else (some [T.i (sub left a)])) = some [.i (sub left a)] := by
  rw [sub_dec]
  by_cases hl : left < a
  · rw [decide_eq_true hl, cond_true, sub_neg hl]
  · rw [decide_eq_false hl, cond_false]

theorem scan_P {α : Type} {E : Nat → Option α} {d : α} {P : α → Prop} (hE : ∀ i r, E i = some r → P r) (hd : P d) : ∀ k i, P (scan E d k i)
  | 0, i => hd
  | k + 1, i => by
    unfold scan
    split
    · rename_i r hr
      exact hE i r hr
    · exact scan_P hE hd k (i + 1)
/-- Are two lists alike, pair by pair? -/
def allNe (ne : T → T → Bool) : List T → List T → Bool
  | [], [] => true
  | x :: xs, y :: ys => cond (ne x y) false (allNe ne xs ys)
  | _, _ => false
theorem allNe_len (ne : T → T → Bool) : ∀ {xs ys : List T}, xs.length ≠ ys.length → allNe ne xs ys = false
  | [], [], h => absurd rfl h
  | [], _ :: _, _ => rfl
  | _ :: _, [], _ => rfl
  | x :: xs, y :: ys, h => by
    rw [allNe, allNe_len ne (xs := xs) (ys := ys) (by simpa using h)]
    cases ne x y <;> rfl
theorem allNe_congr {ne ne' : T → T → Bool} : ∀ {xs ys : List T}, (∀ x ∈ xs, ∀ y ∈ ys, ne x y = ne' x y) → allNe ne xs ys = allNe ne' xs ys
  | [], [], _ => rfl
  | [], _ :: _, _ => rfl
  | _ :: _, [], _ => rfl
  | x :: xs, y :: ys, h => by
    rw [allNe, allNe, h x (by simp) y (by simp), allNe_congr fun a ha b hb => h a (List.mem_cons_of_mem _ ha) b (List.mem_cons_of_mem _ hb)]
theorem bytes_eq : ∀ {xs ys : List T}, (∀ x ∈ xs, 0 ≤ x.I ∧ x.I ≤ 255) → (∀ y ∈ ys, 0 ≤ y.I ∧ y.I ≤ 255) → ((xs.map fun τ => UInt8.ofNat τ.I.toNat) == (ys.map fun τ => UInt8.ofNat τ.I.toNat)) = allNe (fun a b => a.I != b.I) xs ys
  | [], [], _, _ => rfl
  | [], _ :: _, _, _ => rfl
  | _ :: _, [], _, _ => rfl
  | x :: xs, y :: ys, hx, hy => by
    rw [List.map_cons, List.map_cons, List.cons_beq_cons, bytes_eq (fun a ha => hx a (List.mem_cons_of_mem _ ha)) (fun b hb => hy b (List.mem_cons_of_mem _ hb)), allNe]
    have h1 := hx x (by simp)
    have h2 := hy y (by simp)
    have : (UInt8.ofNat x.I.toNat == UInt8.ofNat y.I.toNat) = !(x.I != y.I) := by
      by_cases h : x.I = y.I
      · rw [h]; simp
      · have h3 : UInt8.ofNat x.I.toNat ≠ UInt8.ofNat y.I.toNat := fun e => by
          have := congrArg UInt8.toNat e
          simp only [UInt8.toNat_ofNat', Nat.reducePow] at this
          omega
        rw [beq_false_of_ne h3, bne_iff_ne.2 h]; rfl
    rw [this]
    cases x.I != y.I <;> rfl
theorem LW.byte {ti : TypeId → TyI} {e : TypeId} (he : (ti e).agg = false ∧ (ti e).lv = [.int .u8]) {xs : List T} (h : LW ti e xs) : ∀ x ∈ xs, 0 ≤ x.I ∧ x.I ≤ 255 := by
  intro x hx
  obtain ⟨f, rfl, hf⟩ := h.2 x hx
  have h1 := hf 0 (by simp [TyI.size, he.2])
  rw [he.2] at h1
  obtain ⟨n, e0, h2, h3⟩ := WL.int_inv h1
  have : (ti e).join ((List.range (ti e).size).map f) = f 0 := by simp [TyI.join, TyI.size, he.1, he.2]
  rw [this, e0]
  exact ⟨h2, h3⟩

theorem loop_same {G : List T → (List T → Option (List T)) → List (List T → Option (List T)) → Option (List T)} {ex : List (List T → Option (List T))} {f : Int → List T} {ne : T → T → Bool} {n : Nat} (hn : maxN ≤ n) {xs ys : List T} (hm : xs.length < maxN)
    (hs : xs.length = ys.length → ∀ i : Nat, i < xs.length → ∀ self, G (f i) self ex = bif ne (xs.getD i (.i 0)) (ys.getD i (.i 0)) then some [.b false] else self (f ((i : Int) + 1))) (hd : xs.length = ys.length → ∀ self, G (f xs.length) self ex = some [.b true]) :
    (bif ((xs.length : Int) != (ys.length : Int)) then some [T.b false] else loopR G n (f 0) ex) = some [.b (allNe ne xs ys)] := by
  have hlen : xs.length < 281474976710656 := hm
  by_cases h : xs.length = ys.length
  · rw [h, bne_self_eq_false, cond_false]
    have key : ∀ (k i m : Nat), i + k = xs.length → k < m → loopR G m (f i) ex = some [.b (allNe ne (xs.drop i) (ys.drop i))] := by
      intro k
      induction k with
      | zero =>
        intro i m hi hm'
        cases m with
        | zero => omega
        | succ m =>
          rw [List.drop_eq_nil_of_le (by omega), List.drop_eq_nil_of_le (by omega)]
          have : i = xs.length := by omega
          subst this
          exact hd h _
      | succ k ih =>
        intro i m hi hm'
        cases m with
        | zero => omega
        | succ m =>
          have e1 : xs.getD i (.i 0) = xs[i]'(by omega) := by simp [show i < xs.length by omega]
          have e2 : ys.getD i (.i 0) = ys[i]'(by omega) := by simp [show i < ys.length by omega]
          show G (f i) (loopR G m · ex) ex = _
          rw [hs h i (by omega), List.drop_eq_getElem_cons (by omega), List.drop_eq_getElem_cons (show i < ys.length by omega), allNe, ← e1, ← e2]
          cases ne (xs.getD i (.i 0)) (ys.getD i (.i 0)) with
          | true => rfl
          | false => exact ih (i + 1) m (by omega) (by omega)
    exact key xs.length 0 n (by omega) (by unfold maxN at hn; omega)
  · have : ((xs.length : Int) != (ys.length : Int)) = true := bne_iff_ne.2 (by omega)
    rw [this, cond_true, allNe_len ne h]
theorem loop_pairs {G : List T → (List T → Option (List T)) → List (List T → Option (List T)) → Option (List T)} {ex : List (List T → Option (List T))} {f : Int → List T} {ne : T → T → Bool} {n : Nat} (hn : maxN ≤ n) {xs ys : List T} (hm : xs.length < maxN)
    (hG : ∀ (k : Int) (self : List T → Option (List T)), G (f k) self ex = bif (decide (k < (xs.length : Int))) then (if 0 ≤ k ∧ k < (xs.length : Int) then (if 0 ≤ k ∧ k < (ys.length : Int) then (bif ne (at_ xs k) (at_ ys k) then some [.b false] else self (f (IntKind.wrap .i64 (k + 1)))) else none) else none) else some [.b true]) :
    (bif ((xs.length : Int) != (ys.length : Int)) then some [T.b false] else loopR G n (f 0) ex) = some [.b (allNe ne xs ys)] := by
  have hlen : xs.length < 281474976710656 := hm
  exact loop_same hn hm (fun h i hi self => by
      rw [hG, decide_eq_true (by omega), cond_true, if_pos (by omega), if_pos (by omega), wrap64 (by omega) (by omega), at_nat, at_nat])
    (fun h self => by rw [hG, decide_eq_false (by omega), cond_false])

/-- A loop over one list that ends early where p fails. -/
theorem loop_all {R : Type} {G : List T → (List T → Option R) → List (List T → Option R) → Option R} {ex : List (List T → Option R)} {f : Int → List T} {p : T → Bool} {r d : Option R} {n : Nat} (hn : maxN ≤ n) {xs : List T} (hm : xs.length < maxN)
    (hs : ∀ i : Nat, i < xs.length → ∀ self, G (f i) self ex = bif p (xs.getD i (.i 0)) then self (f ((i : Int) + 1)) else r) (hd : ∀ self, G (f xs.length) self ex = d) : loopR G n (f 0) ex = bif xs.all p then d else r := by
  have key : ∀ (k i m : Nat), i + k = xs.length → k < m → loopR G m (f i) ex = bif (xs.drop i).all p then d else r := by
    intro k
    induction k with
    | zero =>
      intro i m hi hm'
      cases m with
      | zero => omega
      | succ m =>
        rw [List.drop_eq_nil_of_le (by omega)]
        have : i = xs.length := by omega
        subst this
        exact hd _
    | succ k ih =>
      intro i m hi hm'
      cases m with
      | zero => omega
      | succ m =>
        have e1 : xs.getD i (.i 0) = xs[i]'(by omega) := by simp [show i < xs.length by omega]
        show G (f i) (loopR G m · ex) ex = _
        rw [hs i (by omega), List.drop_eq_getElem_cons (by omega), List.all_cons, ← e1]
        cases p (xs.getD i (.i 0)) with
        | true => exact ih (i + 1) m (by omega) (by omega)
        | false => rfl
  exact key xs.length 0 n (by omega) (by unfold maxN at *; omega)

theorem loop_step {R : Type} (G : List T → (List T → Option R) → List (List T → Option R) → Option R) (m : Nat) (v : List T) (ex : List (List T → Option R)) : loopR G (m + 1) v ex = G v (fun v => loopR G m v ex) ex := Eq.trans rfl rfl

theorem loop2 {R : Type} {G : List T → (List T → Option R) → List (List T → Option R) → Option R} {ex : List (List T → Option R)} {a b c : List T} {d : Option R} (h0 : ∀ self, G a self ex = self b) (h1 : ∀ self, G b self ex = self c) (h2 : ∀ self, G c self ex = d) {n : Nat} (hn : 3 ≤ n) : loopR G n a ex = d := by
  obtain ⟨m, rfl⟩ : ∃ m, n = m + 3 := ⟨n - 3, by omega⟩
  show G a (loopR G (m + 2) · ex) ex = d
  rw [h0]
  show G b (loopR G (m + 1) · ex) ex = d
  rw [h1]
  exact h2 _

/-- The place of the first that p holds of, -1 if there is none. -/
def findI (p : T → Bool) (xs : List T) : Int := scan (fun i => cond (p (xs.getD i (.i 0))) (some (i : Int)) none) (-1) xs.length 0
theorem scan_map {α β : Type} (g : α → β) {E : Nat → Option α} {d : α} : ∀ k i, scan (fun i => (E i).map g) (g d) k i = g (scan E d k i)
  | 0, _ => rfl
  | k + 1, i => by
    unfold scan
    cases E i with
    | none => exact scan_map g k (i + 1)
    | some r => rfl
theorem find_scan (p : T → Bool) (xs : List T) : scan (fun i => cond (p (xs.getD i (.i 0))) (some (some [T.i (i : Int)])) none) (some [.i (-1)]) xs.length 0 = some [.i (findI p xs)] := by
  have := scan_map (fun z : Int => some [T.i z]) (E := fun i => cond (p (xs.getD i (.i 0))) (some (i : Int)) none) (d := -1) xs.length 0
  refine Eq.trans ?_ this
  congr 1
  funext i
  cases p (xs.getD i (.i 0)) <;> rfl
theorem find_le_aux {p : T → Bool} {xs : List T} {i : Nat} (hp : p (xs.getD i (.i 0)) = true) : ∀ k s, s ≤ i → i < s + k → (s : Int) ≤ scan (fun i => cond (p (xs.getD i (.i 0))) (some (i : Int)) none) (-1) k s ∧ scan (fun i => cond (p (xs.getD i (.i 0))) (some (i : Int)) none) (-1) k s ≤ i
  | 0, s, h1, h2 => by omega
  | k + 1, s, h1, h2 => by
    unfold scan
    by_cases hs : s = i
    · subst hs
      rw [hp]
      exact ⟨Int.le_refl _, Int.le_refl _⟩
    · cases p (xs.getD s (.i 0)) with
      | true => exact ⟨Int.le_refl _, by simp only [cond_true]; omega⟩
      | false =>
        have := find_le_aux hp k (s + 1) (by omega) (by omega)
        simp only [cond_false]
        omega
theorem find_le {p : T → Bool} {xs : List T} {i : Nat} (hi : i < xs.length) (hp : p (xs.getD i (.i 0)) = true) : 0 ≤ findI p xs ∧ findI p xs ≤ i := by
  have := find_le_aux hp xs.length 0 (by omega) (by omega)
  exact ⟨by have := this.1; unfold findI; omega, this.2⟩
theorem find_lt (p : T → Bool) (xs : List T) : findI p xs < xs.length ∧ -1 ≤ findI p xs := by
  have key : ∀ k s, s + k = xs.length → scan (fun i => cond (p (xs.getD i (.i 0))) (some (i : Int)) none) (-1) k s < xs.length ∧ -1 ≤ scan (fun i => cond (p (xs.getD i (.i 0))) (some (i : Int)) none) (-1) k s := by
    intro k
    induction k with
    | zero => intro s hs; unfold scan; omega
    | succ k ih =>
      intro s hs
      unfold scan
      cases p (xs.getD s (.i 0)) with
      | true => simp only [cond_true]; omega
      | false => exact ih (s + 1) (by omega)
  exact key xs.length 0 (by omega)

/-- A scan of places whose forerunners said nothing. -/
theorem loop_scan' {R : Type} {G : List T → (List T → Option R) → List (List T → Option R) → Option R} {ex : List (List T → Option R)} {len : Nat} {v : Nat → List T} {E : Nat → Option (Option R)} {d : Option R}
    (hs : ∀ i, i < len → (∀ j, j < i → E j = none) → ∀ self, G (v i) self ex = match E i with | some r => r | none => self (v (i + 1))) (hd : (∀ j, j < len → E j = none) → ∀ self, G (v len) self ex = d) :
    ∀ (k i n : Nat), i + k = len → k < n → (∀ j, j < i → E j = none) → loopR G n (v i) ex = scan E d k i
  | 0, i, n, hi, hn, hj => by
    cases n with
    | zero => omega
    | succ n =>
      have : i = len := by omega
      subst this
      exact hd hj _
  | k + 1, i, n, hi, hn, hj => by
    cases n with
    | zero => omega
    | succ n =>
      have h := hs i (by omega) hj (iter (fun v self => G v self ex) n)
      show G (v i) (iter (fun v self => G v self ex) n) ex = _
      rw [h]
      unfold scan
      cases he : E i with
      | some r => rfl
      | none =>
        have hj2 : ∀ j, j < i + 1 → E j = none := fun j hj' => by
          rcases Nat.lt_or_ge j i with h1 | h1
          · exact hj j h1
          · have : j = i := by omega
            rw [this, he]
        exact loop_scan' hs hd k (i + 1) n (by omega) (by omega) hj2
/-- A code found ends; else it goes on. -/
theorem scan_bind {E : Nat → Option (Option (List T))} {X : Option (List T)} {f : List T → Option (List T)} (hE : ∀ i r, E i = some r → ∃ c : Int, r = some [.i c] ∧ f [.i c] = some [.i c]) (h0 : f [.i 0] = X) : ∀ k i, (scan E (some [T.i 0]) k i).bind f = scan E X k i
  | 0, _ => h0
  | k + 1, i => by
    unfold scan
    cases he : E i with
    | some r =>
      obtain ⟨c, rfl, hc⟩ := hE i r he
      exact hc
    | none => exact scan_bind hE h0 k (i + 1)
/-- How far b lies ahead of a. -/
def gap (a b : Int) : Int := (b - a) % 4294967296
theorem gap_spec {a b : Int} (ha : 0 ≤ a) (ha' : a ≤ 4294967295) (hb : 0 ≤ b) (hb' : b ≤ 4294967295) : (IntKind.wrap .i64 ((IntKind.wrap .i64 (b - a)) + 4294967296)).tmod 4294967296 = gap a b := by
  rw [wrap64 (x := b - a) (by omega) (by omega), wrap64 (by omega) (by omega), Int.tmod_eq_emod_of_nonneg (by omega)]
  unfold gap
  omega
theorem gap_impl {a b : Int} (ha : 0 ≤ a) (ha' : a ≤ 4294967295) (hb : 0 ≤ b) (hb' : b ≤ 4294967295) : IntKind.wrap .i64 (((BitVec.ofInt 64 (IntKind.wrap .i64 (b - a)) &&& BitVec.ofInt 64 4294967295).toNat : Int)) = gap a b := by
  rw [wrap64 (x := b - a) (by omega) (by omega)]
  have e1 : (BitVec.ofInt 64 4294967295).toNat = 2 ^ 32 - 1 := by decide
  have e2 : (BitVec.ofInt 64 (b - a)).toNat = ((b - a) % 18446744073709551616).toNat := by
    rw [BitVec.toNat_ofInt]
    rfl
  rw [BitVec.toNat_and, e1, Nat.and_two_pow_sub_one_eq_mod, e2]
  unfold gap
  have e3 : ((((b - a) % 18446744073709551616).toNat % 2 ^ 32 : Nat) : Int) = (b - a) % 4294967296 := by omega
  rw [e3, wrap64 (by omega) (by omega)]
theorem gap_range (a b : Int) : 0 ≤ gap a b ∧ gap a b ≤ 4294967295 := by unfold gap; omega

theorem bind_eq {α β : Type} {o : Option α} {a : α} {f : α → Option β} {r : Option β} (h : o = some a) (k : f a = r) : o.bind f = r := by rw [h]; exact k
theorem condF {α : Type} {b : Bool} {x y r : α} (h : b = false) (k : y = r) : (bif b then x else y) = r := by rw [h]; exact k
theorem condT {α : Type} {b : Bool} {x y r : α} (h : b = true) (k : x = r) : (bif b then x else y) = r := by rw [h]; exact k
theorem sub_lt {left : Int} {k : Nat} (h : left < k) : decide (sub left k < 0) = true := by rw [sub_neg h]; rfl
theorem sub_ge {left : Int} {k : Nat} (h : ¬ left < k) : decide (sub left k < 0) = false := by rw [sub_pos h]; exact decide_eq_false (by omega)
theorem beqN {α : Type} [BEq α] [ReflBEq α] (a : α) : (!(a == a)) = false := by rw [beq_self_eq_true]; rfl

theorem loop_zip {R : Type} {G : List T → (List T → Option R) → List (List T → Option R) → Option R} {ex : List (List T → Option R)} {f : Int → List T} {ne : T → T → Bool} {r d : Option R} {n : Nat} (hn : maxN ≤ n) {xs ys : List T} (hl : xs.length = ys.length) (hm : xs.length < maxN)
    (hs : ∀ i : Nat, i < xs.length → ∀ self, G (f i) self ex = bif ne (xs.getD i (.i 0)) (ys.getD i (.i 0)) then r else self (f ((i : Int) + 1))) (hd : ∀ self, G (f xs.length) self ex = d) :
    loopR G n (f 0) ex = bif allNe ne xs ys then d else r := by
  have key : ∀ (k i m : Nat), i + k = xs.length → k < m → loopR G m (f i) ex = bif allNe ne (xs.drop i) (ys.drop i) then d else r := by
    intro k
    induction k with
    | zero =>
      intro i m hi hm'
      cases m with
      | zero => omega
      | succ m =>
        rw [List.drop_eq_nil_of_le (by omega), List.drop_eq_nil_of_le (by omega)]
        have : i = xs.length := by omega
        subst this
        exact hd _
    | succ k ih =>
      intro i m hi hm'
      cases m with
      | zero => omega
      | succ m =>
        have e1 : xs.getD i (.i 0) = xs[i]'(by omega) := by simp [show i < xs.length by omega]
        have e2 : ys.getD i (.i 0) = ys[i]'(by omega) := by simp [show i < ys.length by omega]
        show G (f i) (loopR G m · ex) ex = _
        rw [hs i (by omega), List.drop_eq_getElem_cons (by omega), List.drop_eq_getElem_cons (show i < ys.length by omega), allNe, ← e1, ← e2]
        cases ne (xs.getD i (.i 0)) (ys.getD i (.i 0)) with
        | true => rfl
        | false => exact ih (i + 1) m (by omega) (by omega)
  exact key xs.length 0 n (by omega) (by unfold maxN at *; omega)
theorem loop_zipF {R : Type} {G : List T → (List T → Option R) → List (List T → Option R) → Option R} {ex : List (List T → Option R)} {f : Int → List T} {Fe : T → T → Option (List T)} {ne : T → T → Bool} {r d : Option R} {n : Nat} (hn : maxN ≤ n) {xs ys : List T} (hl : xs.length = ys.length) (hm : xs.length < maxN)
    (hG : ∀ (k : Int) (self : List T → Option R), G (f k) self ex = bif (decide (k < (xs.length : Int))) then (if 0 ≤ k ∧ k < (xs.length : Int) then (if 0 ≤ k ∧ k < (ys.length : Int) then ((Fe (at_ xs k) (at_ ys k)).bind fun r1 => bif (!(r1.headD (.i 0)).B) then r else self (f (IntKind.wrap .i64 (k + 1)))) else none) else none) else d)
    (hx : ∀ x ∈ xs, ∀ y ∈ ys, Fe x y = some [.b (!ne x y)]) : loopR G n (f 0) ex = bif allNe ne xs ys then d else r := by
  have hlen : xs.length < 281474976710656 := hm
  exact loop_zip hn hl hm (fun i hi self => by
      rw [hG, decide_eq_true (by omega), cond_true, if_pos (by omega), if_pos (by omega), wrap64 (by omega) (by omega), at_nat, at_nat, hx _ (getD_mem hi) _ (getD_mem (by omega)), Option.bind_some, List.headD_cons, B_b, Bool.not_not])
    (fun self => by rw [hG, decide_eq_false (by omega), cond_false])
/-- The same behind the comparison of the lengths. -/
theorem loop_sameF {G : List T → (List T → Option (List T)) → List (List T → Option (List T)) → Option (List T)} {ex : List (List T → Option (List T))} {f : Int → List T} {Fe : T → T → Option (List T)} {ne : T → T → Bool} {n : Nat} (hn : maxN ≤ n) {xs ys : List T} (hm : xs.length < maxN)
    (hG : ∀ (k : Int) (self : List T → Option (List T)), G (f k) self ex = bif (decide (k < (xs.length : Int))) then (if 0 ≤ k ∧ k < (xs.length : Int) then (if 0 ≤ k ∧ k < (ys.length : Int) then ((Fe (at_ xs k) (at_ ys k)).bind fun r1 => bif (!(r1.headD (.i 0)).B) then some [.b false] else self (f (IntKind.wrap .i64 (k + 1)))) else none) else none) else some [.b true])
    (hx : ∀ x ∈ xs, ∀ y ∈ ys, Fe x y = some [.b (!ne x y)]) : (bif ((xs.length : Int) != (ys.length : Int)) then some [T.b false] else loopR G n (f 0) ex) = some [.b (allNe ne xs ys)] := by
  by_cases h : xs.length = ys.length
  · rw [h, bne_self_eq_false, cond_false]
    rw [loop_zipF hn h hm hG hx]
    cases allNe ne xs ys <;> rfl
  · have : ((xs.length : Int) != (ys.length : Int)) = true := bne_iff_ne.2 (by omega)
    rw [this, cond_true, allNe_len ne h]

theorem LW.len {ti : TypeId → TyI} {e : TypeId} {xs : List T} (h : LW ti e xs) : xs.length < maxN := h.1
end Go.KX
