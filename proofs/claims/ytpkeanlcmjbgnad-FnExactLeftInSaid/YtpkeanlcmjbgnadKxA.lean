/- A certified evaluator of the program's code, part A: words and lemmas; nothing here is about one program. -/
import Derived.Tactics
import Derived.Below
import Derived.Laws.CopyRow
import Derived.Laws.Cells
import Derived.Laws.Closers25b
import Derived.Laws.BytesString
import Derived.Lib.ConvBytes
/- The words of a certified evaluator: trees, what a value reads as, ghosts. -/
namespace Go.KX

/-- A tree: what a value that is only read stands for. -/
inductive T where
  | i (n : Int)
  | b (x : Bool)
  | s (l : List UInt8)
  | l (xs : List T)
  | r (xs : List T)

instance : Inhabited T := ⟨.i 0⟩

def T.I : T → Int | .i n => n | _ => 0
def T.B : T → Bool | .b x => x | _ => false
def T.S : T → List UInt8 | .s x => x | _ => []
def T.L : T → List T | .l xs => xs | _ => []
def T.F : T → Nat → T | .r xs, j => xs.getD j (.i 0) | _, _ => .i 0
@[simp] theorem T.I_i (n : Int) : (T.i n).I = n := rfl
@[simp] theorem T.B_b (x : Bool) : (T.b x).B = x := rfl
@[simp] theorem T.S_s (x : List UInt8) : (T.s x).S = x := rfl
@[simp] theorem T.L_l (xs : List T) : (T.l xs).L = xs := rfl
/-- An element of a list of trees. -/
def at_ (xs : List T) (i : Int) : T := xs.getD i.toNat (.i 0)

/-- The type of one cell. -/
inductive Lt where
  | int (k : IntKind)
  | bool
  | str
  | slice (e : TypeId)
  | ptr
  | fn
  | box (e : TypeId)
  | fnc (g : Nat)
  deriving DecidableEq, Inhabited

/-- What the evaluator knows of a type. -/
inductive D where
  | leaf
  | slice (e : TypeId)
  | struct (fs : List (TypeId × Nat))
  | array (n : Nat) (e : TypeId)
  | other
  deriving DecidableEq, Inhabited

structure TyI where
  ok : Bool
  agg : Bool
  lv : List Lt
  bytes : Nat
  d : D
  cmp : Bool
  deriving DecidableEq, Inhabited

def TyI.size (i : TyI) : Nat := i.lv.length
def TyI.leaf (i : TyI) (τ : T) (j : Nat) : T := if i.agg then τ.F j else τ

def maxN : Nat := 281474976710656      -- 2^48

/-- 'v reads as the tree τ', in memory that stands in the blocks 'im'. -/
inductive RL (ti : TypeId → TyI) (im : Nat → Prop) (w : World) : Lt → T → Value → Prop
  | int {k : IntKind} {τ : T} (h1 : k.min ≤ τ.I) (h2 : τ.I ≤ k.max) : RL ti im w (.int k) τ (.int k τ.I)
  | bool {τ : T} : RL ti im w .bool τ (.bool τ.B)
  | str {τ : T} {s : ByteArray} (h : s.toList = τ.S) : RL ti im w .str τ (.string s)
  | empty {e : TypeId} {τ : T} {A : Option Addr} {c : Nat} (h : τ.L = []) : RL ti im w (.slice e) τ (.slice A 0 c)
  | slice {e : TypeId} {τ : T} {b o c : Nat} (cs : Nat → Nat → Value) (hb : im b) (hc : τ.L.length ≤ c) (hn : τ.L.length < maxN)
      (hcell : ∀ i j, i < τ.L.length → j < (ti e).size → w.cell? ⟨b, o + i * (ti e).size + j, none⟩ = some (cs i j))
      (hr : ∀ i j, i < τ.L.length → j < (ti e).size → RL ti im w ((ti e).lv.getD j .fn) ((ti e).leaf (τ.L.getD i (.i 0)) j) (cs i j)) :
      RL ti im w (.slice e) τ (.slice (some ⟨b, o, none⟩) τ.L.length c)
  | box {e : TypeId} {τ : T} {b o : Nat} (cs : Nat → Value) (hb : im b) (hcell : ∀ j, j < (ti e).size → w.cell? ⟨b, o + j, none⟩ = some (cs j))
      (hr : ∀ j, j < (ti e).size → RL ti im w ((ti e).lv.getD j .fn) ((ti e).leaf τ j) (cs j)) : RL ti im w (.box e) τ (.pointer (some ⟨b, o, none⟩))
  | fnc {g : Nat} {τ : T} : RL ti im w (.fnc g) τ (.func (.func g) #[] #[])

theorem cell_of_heap {w w' : World} {b : Nat} (h : w'.heap[b]? = w.heap[b]?) (o : Nat) (s : Option Nat) : w'.cell? ⟨b, o, s⟩ = w.cell? ⟨b, o, s⟩ := by
  simp only [World.cell?, h]

theorem RL.mono {ti : TypeId → TyI} {im im' : Nat → Prop} {w w' : World} (h : ∀ b, im b → im' b ∧ w'.heap[b]? = w.heap[b]?) {l : Lt} {τ : T} {v : Value}
    (hr : RL ti im w l τ v) : RL ti im' w' l τ v := by
  induction hr with
  | int h1 h2 => exact .int h1 h2
  | bool => exact .bool
  | str h => exact .str h
  | empty h => exact .empty h
  | slice cs hb hc hn hcell _ ih =>
    exact .slice cs (h _ hb).1 hc hn (fun i j hi hj => by rw [cell_of_heap (h _ hb).2]; exact hcell i j hi hj) ih
  | fnc => exact .fnc
  | box cs hb hcell _ ih => exact .box cs (h _ hb).1 (fun j hj => by rw [cell_of_heap (h _ hb).2]; exact hcell j hj) ih

/-- An abstract value: what the evaluator holds in a slot. -/
inductive X where
  | un
  | t (l : Lt) (τ : T)
  | agg (xs : List X)
  | tup (xs : List X)
  | nil
  | own (e : TypeId) (r : Nat)
  | ref (e : TypeId) (r off len : Nat)
  | pb (r off : Nat)
  | pa (e : TypeId) (r idx off : Nat)
  | pt (e : TypeId) (τ : T) (off : Nat)
  | fn (f : Nat) (caps : List X)

instance : Inhabited X := ⟨.un⟩

/-- A region of the call's own memory. -/
inductive Reg where
  | box (xs : List X)
  | arr (e : TypeId) (xs : List T)
  | dead

instance : Inhabited Reg := ⟨.dead⟩

structure Gh where
  own : Nat → Option Nat
  im : Nat → Prop
  loc : Nat → Nat × Nat
  cap : Nat → Nat
  len : Nat → Nat
  nr : Nat

/-- A slice's address: of a slice without room nothing is asked. -/
def Gh.addr (g : Gh) (r off sz : Nat) (A : Option Addr) : Prop := off < g.cap r → A = some ⟨(g.loc r).1, (g.loc r).2 + off * sz, none⟩

inductive RX (ti : TypeId → TyI) (g : Gh) (w : World) : X → Value → Prop
  | un {v : Value} : RX ti g w .un v
  | t {l : Lt} {τ : T} {v : Value} (h : RL ti g.im w l τ v) : RX ti g w (.t l τ) v
  | agg {xs : List X} {vs : Array Value} (hs : vs.size = xs.length) (h : ∀ i, i < xs.length → RX ti g w (xs.getD i .un) (vs.getD i undef)) : RX ti g w (.agg xs) (.agg vs)
  | tup {xs : List X} {vs : Array Value} (hs : vs.size = xs.length) (h : ∀ i, i < xs.length → RX ti g w (xs.getD i .un) (vs.getD i undef)) : RX ti g w (.tup xs) (.tuple vs)
  | nil {A : Option Addr} : RX ti g w .nil (.slice A 0 0)
  | own {e : TypeId} {r : Nat} {A : Option Addr} (hn : r < g.nr) (h : g.addr r 0 (ti e).size A) : RX ti g w (.own e r) (.slice A (g.len r) (g.cap r))
  | ref {e : TypeId} {r off len : Nat} {A : Option Addr} (hn : r < g.nr) (h : g.addr r off (ti e).size A) (hl : off + len ≤ g.len r) : RX ti g w (.ref e r off len) (.slice A len (g.cap r - off))
  | pb {r off : Nat} (hn : r < g.nr) : RX ti g w (.pb r off) (.pointer (some ⟨(g.loc r).1, (g.loc r).2 + off, none⟩))
  | pa {e : TypeId} {r idx off : Nat} (hn : r < g.nr) (h : idx < g.len r) : RX ti g w (.pa e r idx off) (.pointer (some ⟨(g.loc r).1, (g.loc r).2 + idx * (ti e).size + off, none⟩))
  | pt {e : TypeId} {τ : T} {off b o : Nat} (cs : Nat → Value) (hb : g.im b) (hcell : ∀ j, j < (ti e).size → w.cell? ⟨b, o + j, none⟩ = some (cs j))
      (hr : ∀ j, j < (ti e).size → RL ti g.im w ((ti e).lv.getD j .fn) ((ti e).leaf τ j) (cs j)) : RX ti g w (.pt e τ off) (.pointer (some ⟨b, o + off, none⟩))
  | fn {f : Nat} {caps : List X} {vs : Array Value} (hs : vs.size = caps.length) (h : ∀ i, i < caps.length → RX ti g w (caps.getD i .un) (vs.getD i undef)) :
      RX ti g w (.fn f caps) (.func (.func f) #[] vs)

-- Renaming of regions; what is not kept is let go.
mutual
def X.ren (ρ : Nat → Option Nat) : X → X
  | .un => .un
  | .t l τ => .t l τ
  | .agg xs => .agg (X.renL ρ xs)
  | .tup xs => .tup (X.renL ρ xs)
  | .nil => .nil
  | .own e r => match ρ r with | some r' => .own e r' | none => .un
  | .ref e r off len => match ρ r with | some r' => .ref e r' off len | none => .un
  | .pb r off => match ρ r with | some r' => .pb r' off | none => .un
  | .pa e r idx off => match ρ r with | some r' => .pa e r' idx off | none => .un
  | .pt e τ off => .pt e τ off
  | .fn f caps => .fn f (X.renL ρ caps)
def X.renL (ρ : Nat → Option Nat) : List X → List X
  | [] => []
  | x :: xs => x.ren ρ :: X.renL ρ xs
end

theorem X.renL_eq (ρ : Nat → Option Nat) (xs : List X) : X.renL ρ xs = xs.map (X.ren ρ) := by
  induction xs with
  | nil => simp [X.renL]
  | cons x xs ih => simp [X.renL, ih]

structure Mor (ρ : Nat → Option Nat) (g : Gh) (w : World) (g' : Gh) (w' : World) : Prop where
  im : ∀ b, g.im b → g'.im b ∧ w'.heap[b]? = w.heap[b]?
  reg : ∀ r r', r < g.nr → ρ r = some r' → r' < g'.nr ∧ g'.loc r' = g.loc r ∧ g'.cap r' = g.cap r ∧ g'.len r' = g.len r

theorem getD_map_ren (ρ : Nat → Option Nat) (xs : List X) (i : Nat) : (xs.map (X.ren ρ)).getD i .un = (xs.getD i .un).ren ρ := by
  rcases Nat.lt_or_ge i xs.length with h | h
  · simp [h]
  · simp [List.getElem?_eq_none h, X.ren]

theorem RX.mor {ti : TypeId → TyI} {ρ : Nat → Option Nat} {g g' : Gh} {w w' : World} (m : Mor ρ g w g' w') {x : X} {v : Value} (h : RX ti g w x v) : RX ti g' w' (x.ren ρ) v := by
  induction h with
  | un => exact .un
  | t h => exact .t (h.mono m.im)
  | agg hs _ ih =>
    rw [X.ren, X.renL_eq]
    exact .agg (by simpa using hs) (fun i hi => by rw [getD_map_ren]; exact ih i (by simpa using hi))
  | tup hs _ ih =>
    rw [X.ren, X.renL_eq]
    exact .tup (by simpa using hs) (fun i hi => by rw [getD_map_ren]; exact ih i (by simpa using hi))
  | nil => exact .nil
  | @own e r A hn h =>
    simp only [X.ren]
    cases hr : ρ r with
    | none => exact .un
    | some r' =>
      obtain ⟨h0, h1, h2, h3⟩ := m.reg r r' hn hr
      simp only [← h2, ← h3]
      exact .own h0 (by unfold Gh.addr at *; rw [h1, h2]; exact h)
  | @ref e r off len A hn h hl =>
    simp only [X.ren]
    cases hr : ρ r with
    | none => exact .un
    | some r' =>
      obtain ⟨h0, h1, h2, h3⟩ := m.reg r r' hn hr
      simp only [← h2]
      exact .ref h0 (by unfold Gh.addr at *; rw [h1, h2]; exact h) (by omega)
  | @pb r off hn =>
    simp only [X.ren]
    cases hr : ρ r with
    | none => exact .un
    | some r' =>
      obtain ⟨h0, h1, h2, h3⟩ := m.reg r r' hn hr
      simp only [← h1]
      exact .pb h0
  | @pa e r idx off hn h =>
    simp only [X.ren]
    cases hr : ρ r with
    | none => exact .un
    | some r' =>
      obtain ⟨h0, h1, h2, h3⟩ := m.reg r r' hn hr
      simp only [← h1]
      exact .pa h0 (by omega)
  | pt cs hb hcell hr =>
    simp only [X.ren]
    exact .pt cs (m.im _ hb).1 (fun j hj => by rw [cell_of_heap (m.im _ hb).2]; exact hcell j hj) (fun j hj => (hr j hj).mono m.im)
  | fn hs _ ih =>
    rw [X.ren, X.renL_eq]
    exact .fn (by simpa using hs) (fun i hi => by rw [getD_map_ren]; exact ih i (by simpa using hi))

end Go.KX
/- The evaluator: what an operation, a piece of code, a call comes to on abstract values. -/
namespace Go.KX

structure St where
  fr : List (List X)
  m : List Reg

def St.cur (s : St) : List X := s.fr.headD []
def St.reg (s : St) (r : Nat) : Reg := s.m.getD r .dead
def St.setR (s : St) (r : Nat) (R : Reg) : St := ⟨s.fr, s.m.set r R⟩
def St.new (s : St) (R : Reg) : St := ⟨s.fr, s.m ++ [R]⟩
def St.put (s : St) (dst : Option Nat) (x : X) : St :=
  match dst with
  | none => s
  | some d => ⟨(s.cur.set d x) :: s.fr.tail, s.m⟩

/-- The list's cells laid open (the same list): for the evaluation alone. -/
noncomputable def forceL {R : Type} (l : List X) : (List X → Option R) → Option R :=
  @List.rec X (fun _ => (List X → Option R) → Option R) (fun k => k []) (fun x _ ih k => ih fun ys => k (x :: ys)) l
theorem forceL_eq {R : Type} (l : List X) : ∀ k : List X → Option R, forceL l k = k l := by
  induction l with
  | nil => intro k; rfl
  | cons x xs ih => intro k; exact ih fun ys => k (x :: ys)
noncomputable def St.putF {R : Type} (s : St) (dst : Option Nat) (x : X) (k : St → Option R) : Option R :=
  match dst with
  | none => k s
  | some d => match s with
    | ⟨c :: t, m⟩ => forceL (c.set d x) fun c' => k ⟨c' :: t, m⟩
    | ⟨[], m⟩ => k ⟨[[]], m⟩
theorem St.putF_eq {R : Type} (s : St) (dst : Option Nat) (x : X) (k : St → Option R) : s.putF dst x k = k (s.put dst x) := by
  cases dst with
  | none => rfl
  | some d =>
    obtain ⟨fr, m⟩ := s
    cases fr with
    | nil => rfl
    | cons c t => exact forceL_eq _ _

/-- Every abstract value of the state, renamed. -/
def Reg.ren (ρ : Nat → Option Nat) : Reg → Reg
  | .box xs => .box (X.renL ρ xs)
  | .arr e xs => .arr e xs
  | .dead => .dead
def St.ren (ρ : Nat → Option Nat) (s : St) : St := ⟨s.fr.map (X.renL ρ), s.m.map (Reg.ren ρ)⟩
/-- No slice or pointer into the region r stays. -/
def killρ (r : Nat) (r' : Nat) : Option Nat := if r' = r then none else some r'
def St.kill (r : Nat) (s : St) : St := s.ren (killρ r)

/- Freezing: the slices of a region become trees. -/
mutual
def X.fz (r : Nat) (e : TypeId) (xs : List T) : X → X
  | .un => .un
  | .t l τ => .t l τ
  | .agg ys => .agg (X.fzL r e xs ys)
  | .tup ys => .tup (X.fzL r e xs ys)
  | .nil => .nil
  | .own e' r' => if r' = r then (if e' = e then .t (.slice e) (.l xs) else .un) else .own e' r'
  | .ref e' r' off len => if r' = r then (if e' = e then .t (.slice e) (.l ((xs.drop off).take len)) else .un) else .ref e' r' off len
  | .pb r' off => if r' = r then .un else .pb r' off
  | .pa e' r' idx off => if r' = r then (if e' = e then .pt e (xs.getD idx (.i 0)) off else .un) else .pa e' r' idx off
  | .pt e τ off => .pt e τ off
  | .fn f caps => .fn f (X.fzL r e xs caps)
def X.fzL (r : Nat) (e : TypeId) (xs : List T) : List X → List X
  | [] => []
  | y :: ys => y.fz r e xs :: X.fzL r e xs ys
end
def Reg.fz (r : Nat) (e : TypeId) (xs : List T) : Reg → Reg
  | .box ys => .box (X.fzL r e xs ys)
  | .arr e xs => .arr e xs
  | .dead => .dead
def St.fz (r : Nat) (e : TypeId) (xs : List T) (s : St) : St := ⟨s.fr.map (X.fzL r e xs), (s.m.set r .dead).map (Reg.fz r e xs)⟩

def Lt.zx : Lt → X
  | .int k => .t (.int k) (.i 0)
  | .bool => .t .bool (.b false)
  | .str => .t .str (.s [])
  | .slice _ => .nil
  | .ptr => .un
  | .fn => .un
  | .box _ => .un
  | .fnc _ => .un
def Lt.zt : Lt → T
  | .int _ => .i 0
  | .bool => .b false
  | .str => .s []
  | .slice _ => .l []
  | .ptr => .i 0
  | .fn => .i 0
  | .box _ => .i 0
  | .fnc _ => .i 0
def Lt.plain : Lt → Bool
  | .ptr => false
  | .fn => false
  | .box _ => false
  | .fnc _ => false
  | _ => true
/-- The zero tree of a type. -/
def TyI.zt (i : TyI) : T := if i.agg then .r (i.lv.map Lt.zt) else ((i.lv.map Lt.zt).headD (.i 0))

def constX : Value → X
  | .int k n => if k.min ≤ n ∧ n ≤ k.max then .t (.int k) (.i n) else .un
  | .bool b => .t .bool (.b b)
  | .string s => .t .str (.s s.toList)
  | .slice none 0 0 => .nil
  | .tuple vs => if vs.size = 0 then .tup [] else .un
  | _ => .un

def opx (s : St) : Operand → X
  | .tmp t => s.cur.getD t .un
  | .const v => constX v
  | .global _ => .un
  | .func f => .fn f []

/-- The cells of a value. -/
def X.cells : X → List X
  | .agg xs => xs
  | x => [x]
def X.known : X → Bool
  | .un => false
  | _ => true
/-- May it be stored in one cell? -/
def X.leafy : X → Bool
  | .t _ _ => true
  | .nil => true
  | .own _ _ => true
  | .ref _ _ _ _ => true
  | .pb _ _ => true
  | .pa _ _ _ _ => true
  | .pt _ _ _ => true
  | .fn _ _ => true
  | _ => false

/-- A value that is only read: its tree, if its cell's type is l. -/
def X.snap (s : St) (l : Lt) : X → Option T
  | .t l' τ => if l' = l then some τ else none
  | .nil => match l with | .slice _ => some (.l []) | _ => none
  | .own e r => if l = .slice e then (match s.reg r with | .arr e' xs => if e' = e then some (.l xs) else none | _ => none) else none
  | .ref e r off len => if l = .slice e then (match s.reg r with | .arr e' xs => if e' = e then some (.l ((xs.drop off).take len)) else none | _ => none) else none
  | .pt e τ off => if l = .box e ∧ off = 0 then some τ else none
  | .fn f caps => match caps with | [] => if l = .fnc f then some (.i 0) else none | _ => none
  | .pa e r idx off => if l = .box e ∧ off = 0 then (match s.reg r with | .arr e' xs => if e' = e then some (xs.getD idx (.i 0)) else none | _ => none) else none
  | _ => none

/-- The list of elements of a slice that is only read. -/
def X.elems (s : St) (e : TypeId) (x : X) : Option (List T) := (x.snap s (.slice e)).map T.L

/-- The region of a slice. -/
def X.rid : X → Option Nat
  | .own _ r => some r
  | .ref _ r _ _ => some r
  | .pa _ r _ _ => some r
  | _ => none

/-- Values that go into memory that is only read: their trees; the regions that they name are frozen. -/
def toTs {R : Type} : List Lt → List X → St → (List T → St → Option R) → Option R
  | [], [], s, K => K [] s
  | l :: ls, x :: xs, s, K =>
    match x.snap s l with
    | none => none
    | some τ =>
      match x.rid with
      | none => toTs ls xs s fun τs s' => K (τ :: τs) s'
      | some r =>
        match s.reg r with
        | .arr e ys => toTs ls (X.fzL r e ys xs) (s.fz r e ys) fun τs s' => K (τ :: τs) s'
        | _ => none
  | _, _, _, _ => none

/-- The element made of its cells' trees. -/
def TyI.join (i : TyI) (τs : List T) : T := if i.agg then .r τs else τs.headD (.i 0)

/-- A tree with some cells turned. -/
def setCells (i : TyI) (τ : T) (off : Nat) (τs : List T) : T :=
  i.join ((List.range i.size).map fun j => if off ≤ j ∧ j < off + τs.length then τs.getD (j - off) (.i 0) else i.leaf τ j)

variable {R : Type} (ti : TypeId → TyI)

/-- What stands in memory that is only read, as a value of type t: the cells from 'off' on of an element of type e. -/
def readT (t e : TypeId) (τ : T) (off : Nat) : X :=
  if (ti t).agg then .agg ((List.range (ti t).size).map fun j => .t ((ti e).lv.getD (off + j) .fn) ((ti e).leaf τ (off + j)))
  else .t ((ti e).lv.getD off .fn) ((ti e).leaf τ off)

def readB (t : TypeId) (xs : List X) (off : Nat) : X :=
  if (ti t).agg then .agg ((List.range (ti t).size).map fun j => xs.getD (off + j) .un) else xs.getD off .un

def limB : Int := 70368744177664      -- 2^46

def sameOp : Operand → Operand → Bool
  | .tmp i, .tmp j => i == j
  | .const (.int k n), .const (.int k' n') => k == k' && n == n'
  | _, _ => false

/-- A new array of the call's own. -/
def newArr {R : Type} (e : TypeId) (xs : List T) (s : St) (K : X → St → Option R) : Option R := K (.own e s.m.length) (s.new (.arr e xs))

/-- A field's place. -/
def fieldOff (t : TypeId) (f : Nat) : Option Nat :=
  if (ti t).ok = true then
  match (ti t).d with
  | .struct fs => match fs[f]? with
    | some (ft, off) => if 0 < (ti ft).size then some off else none
    | none => none
  | _ => none
  else none

/-- A field: its type and its place. -/
def fieldPart (t : TypeId) (f : Nat) : Option (TypeId × Nat) :=
  if (ti t).ok = true then
  match (ti t).d with
  | .struct fs => match fs[f]? with
    | some (ft, off) => if 0 < (ti ft).size then some (ft, off) else none
    | none => none
  | _ => none
  else none

def loadX (s : St) (t : TypeId) (x : X) : Option X :=
  if (ti t).ok = true then
  match x with
  | .pb r off => match s.reg r with
    | .box xs => if off + (ti t).size ≤ xs.length then some (readB ti t xs off) else none
    | _ => none
  | .pa e r idx off => match s.reg r with
    | .arr e' xs => if e' = e ∧ off + (ti t).size ≤ (ti e).size then some (readT ti t e (xs.getD idx (.i 0)) off) else none
    | _ => none
  | .pt e τ off => if off + (ti t).size ≤ (ti e).size then some (readT ti t e τ off) else none
  | _ => none
  else none

def storeK (t : TypeId) (a x : X) (s : St) (K : X → St → Option R) : Option R :=
  let cs := x.cells
  if (ti t).ok = true ∧ cs.length = (ti t).size then
    match a with
    | .pb r off =>
      if cs.all X.leafy then
        match s.reg r with
        | .box xs => if off + cs.length ≤ xs.length then K (.tup []) (s.setR r (.box (xs.take off ++ cs ++ xs.drop (off + cs.length)))) else none
        | _ => none
      else none
    | .pa e r idx off =>
      if (ti e).ok = true ∧ off + cs.length ≤ (ti e).size then
        toTs (((ti e).lv.drop off).take cs.length) cs s fun τs s' =>
          match s'.reg r with
          | .arr e' xs => if e' = e ∧ idx < xs.length then K (.tup []) (s'.setR r (.arr e (xs.set idx (setCells (ti e) (xs.getD idx (.i 0)) off τs)))) else none
          | _ => none
      else none
    | _ => none
  else none

/-- The parts of a literal stand in the order of their places. -/
def sortedP : List (Nat × X) → Bool
  | [] => true
  | p :: ps => ps.all (fun q => decide (p.1 < q.1)) && sortedP ps

/-- The elements of a slice literal. -/
def partsK (e : TypeId) : Nat → List (Nat × X) → St → (List T → St → Option R) → Option R
  | 0, [], s, K => K [] s
  | 0, _ :: _, _, _ => none
  | n + 1, ps, s, K =>
    match ps with
    | (i, x) :: rest =>
      if i = 0 then
        if x.known = true ∧ x.cells.length = (ti e).size then
          toTs (ti e).lv x.cells s fun τs s' => partsK e n (rest.map fun p => (p.1 - 1, p.2)) s' fun ts s'' => K ((ti e).join τs :: ts) s''
        else none
      else partsK e n ((i - 1, x) :: rest.map fun p => (p.1 - 1, p.2)) s fun ts s'' => K ((ti e).zt :: ts) s''
    | [] => partsK e n [] s fun ts s'' => K ((ti e).zt :: ts) s''

/-- The parts of a struct literal, laid over its cells. -/
def layParts (fs : List (TypeId × Nat)) : List (Nat × X) → List X → Option (List X)
  | [], xs => some xs
  | (i, x) :: rest, xs =>
    match fs[i]? with
    | some (ft, off) => if x.known = true ∧ x.cells.length = (ti ft).size ∧ off + x.cells.length ≤ xs.length then layParts fs rest (xs.take off ++ x.cells ++ xs.drop (off + x.cells.length)) else none
    | none => none

def appendK (e : TypeId) (x : X) (ys : List T) (s : St) (K : X → St → Option R) : Option R :=
  match x with
  | .nil => if 0 < (ti e).bytes ∧ (ti e).lv.all Lt.plain then (if (ys.length : Int) * (ti e).bytes ≤ limB then newArr e ys s K else none) else none
  | .own e' r =>
    match s.reg r with
    | .arr e'' xs =>
      if e' = e ∧ e'' = e ∧ 0 < (ti e).bytes ∧ (ti e).lv.all Lt.plain then
        if ((xs.length + ys.length : Nat) : Int) * (ti e).bytes ≤ limB then K (.own e r) ((s.kill r).setR r (.arr e (xs ++ ys))) else none
      else none
    | _ => none
  | .ref e' r off len =>
    match s.reg r with
    | .arr e'' xs =>
      if e' = e ∧ e'' = e then
        if off + len + ys.length ≤ xs.length then K (.ref e r off (len + ys.length)) (s.setR r (.arr e (xs.take (off + len) ++ ys ++ xs.drop (off + len + ys.length)))) else none
      else none
    | _ => none
  | _ => none

def intOp (op : BinOp) (k : IntKind) (a b : Int) : Option Int :=
  match op with
  | .add => some (k.wrap (a + b))
  | .sub => some (k.wrap (a - b))
  | .mul => some (k.wrap (a * b))
  | .and => some (k.wrap (BitVec.ofInt k.bits a &&& BitVec.ofInt k.bits b).toNat)
  | .or => some (k.wrap (BitVec.ofInt k.bits a ||| BitVec.ofInt k.bits b).toNat)
  | .xor => some (k.wrap (BitVec.ofInt k.bits a ^^^ BitVec.ofInt k.bits b).toNat)
  | .andNot => some (k.wrap (BitVec.ofInt k.bits a &&& ~~~(BitVec.ofInt k.bits b)).toNat)
  | _ => none
def cmpOp (op : BinOp) (a b : Int) : Option Bool :=
  match op with
  | .eql => some (a == b)
  | .neq => some (a != b)
  | .lss => some (decide (a < b))
  | .leq => some (decide (a ≤ b))
  | .gtr => some (decide (a > b))
  | .geq => some (decide (a ≥ b))
  | _ => none
def strOp (op : BinOp) (a b : List UInt8) : Option Bool :=
  match op with
  | .eql => some (a == b)
  | .neq => some (!(a == b))
  | .lss => some (Op.bytesLess a b)
  | .leq => some (Op.bytesLess a b || a == b)
  | .gtr => some (!(Op.bytesLess a b || a == b))
  | .geq => some (!(Op.bytesLess a b))
  | _ => none

def binK (bt : Bool) (op : BinOp) (x y : X) (K : X → Option R) : Option R :=
  match x, y with
  | .t (.int k) a, .t (.int k') b =>
    match op with
    | .shl => if 0 ≤ b.I then K (.t (.int k) (.i (k.wrap (a.I * 2 ^ (min b.I.toNat k.bits))))) else none
    | .shr => if 0 ≤ b.I then K (.t (.int k) (.i (a.I.fdiv (2 ^ (min b.I.toNat k.bits))))) else none
    | .quo => if k' = k then (if b.I ≠ 0 then K (.t (.int k) (.i (k.wrap (a.I.tdiv b.I)))) else none) else none
    | .rem => if k' = k then (if b.I ≠ 0 then K (.t (.int k) (.i (a.I.tmod b.I))) else none) else none
    | _ =>
      if k' = k then
        match intOp op k a.I b.I with
        | some n => K (.t (.int k) (.i n))
        | none => match cmpOp op a.I b.I with
          | some c => K (.t .bool (.b c))
          | none => none
      else none
  | .t .bool a, .t .bool b =>
    match op with
    | .eql => if bt = true then K (.t .bool (.b (a.B == b.B))) else none
    | .neq => if bt = true then K (.t .bool (.b (!(a.B == b.B)))) else none
    | _ => none
  | .t .str a, .t .str b => match strOp op a.S b.S with | some c => K (.t .bool (.b c)) | none => none
  | _, _ => none

/-- Are two structs of ints and bools equal? -/
def eqLeaves : List X → List X → Option Bool
  | [], [] => some true
  | .t (.int k) a :: xs, .t (.int k') b :: ys => if k' = k then (match eqLeaves xs ys with | some c => some (a.I == b.I && c) | none => none) else none
  | .t .bool a :: xs, .t .bool b :: ys => match eqLeaves xs ys with | some c => some (a.B == b.B && c) | none => none
  | _, _ => none

/-- Are the cells of these types? -/
def tysOk : List Lt → List X → Bool
  | [], [] => true
  | l :: ls, .t l' _ :: xs => decide (l' = l) && tysOk ls xs
  | _, _ => false

def intX : X → Option Int
  | .t (.int _) τ => some τ.I
  | _ => none

/-- x[lo:hi] of a list. -/
def cutL (xs : List T) (lo hi : Int) : List T := (xs.take hi.toNat).drop lo.toNat

def sliceK (e : TypeId) (x : X) (lo hi mx : Option X) (s : St) (K : X → St → Option R) : Option R :=
  let lo? : Option Int := match lo with | none => some 0 | some v => intX v
  match lo? with
  | none => none
  | some l =>
    match mx with
    | some m =>
      match hi.bind intX, intX m with
      | some h, some c =>
        match x.elems s e with
        | some xs => if 0 ≤ l ∧ l ≤ h ∧ h ≤ c ∧ c ≤ (xs.length : Int) then K (if h = 0 ∧ c = 0 then .nil else .un) s else none
        | none => none
      | _, _ => none
    | none =>
      match x with
      | .nil => match hi with
        | none => if l = 0 then K .nil s else none
        | some h => match intX h with
          | some h => if 0 ≤ l ∧ l ≤ h ∧ h ≤ 0 then K .nil s else none
          | none => none
      | .t (.slice e') τ =>
        if e' = e then
          match hi with
          | none => if 0 ≤ l ∧ l ≤ (τ.L.length : Int) then K (.t (.slice e) (.l (τ.L.drop l.toNat))) s else none
          | some h => match intX h with
            | some h => if 0 ≤ l ∧ l ≤ h ∧ h ≤ (τ.L.length : Int) then K (.t (.slice e) (.l (cutL τ.L l h))) s else none
            | none => none
        else none
      | .own e' r => match s.reg r with
        | .arr e'' xs =>
          if e' = e ∧ e'' = e then
            match hi with
            | none => if 0 ≤ l ∧ l ≤ (xs.length : Int) then K (.ref e r l.toNat (xs.length - l.toNat)) s else none
            | some h => match intX h with
              | some h => if 0 ≤ l ∧ l ≤ h ∧ h ≤ (xs.length : Int) then K (.ref e r l.toNat (h.toNat - l.toNat)) s else none
              | none => none
          else none
        | _ => none
      | .ref e' r off len => match s.reg r with
        | .arr e'' xs =>
          if e' = e ∧ e'' = e then
            match hi with
            | none => if 0 ≤ l ∧ l ≤ (len : Int) then K (.ref e r (off + l.toNat) (len - l.toNat)) s else none
            | some h => match intX h with
              | some h => if 0 ≤ l ∧ l ≤ h ∧ off + h ≤ (xs.length : Int) then K (.ref e r (off + l.toNat) (h.toNat - l.toNat)) s else none
              | none => none
          else none
        | _ => none
      | _ => none

def indexK (t : TypeId) (x ix : X) (s : St) (K : X → St → Option R) : Option R :=
  match intX ix with
  | none => none
  | some i =>
    match (ti t).ok, (ti t).d with
    | true, .slice e =>
      match x with
      | .t (.slice e') τ => if e' = e then (if 0 ≤ i ∧ i < (τ.L.length : Int) then K (.pt e (at_ τ.L i) 0) s else none) else none
      | .own e' r => match s.reg r with
        | .arr e'' xs => if e' = e ∧ e'' = e then (if 0 ≤ i ∧ i < (xs.length : Int) then K (.pa e r i.toNat 0) s else none) else none
        | _ => none
      | .ref e' r off len => match s.reg r with
        | .arr e'' _ => if e' = e ∧ e'' = e then (if 0 ≤ i ∧ i < (len : Int) then K (.pa e r (off + i.toNat) 0) s else none) else none
        | _ => none
      | _ => none
    | _, _ => none

def convK (src dst : TypeId) (x : X) (s : St) (K : X → St → Option R) : Option R :=
  if (ti src).ok = true ∧ (ti dst).ok = true ∧ (ti dst).d = .leaf then
  match (ti dst).agg, (ti dst).lv, x with
  | false, [.int k], .t (.int _) τ => K (.t (.int k) (.i (k.wrap τ.I))) s
  | false, [.str], .t .str τ => K (.t .str τ) s
  | false, [.str], x =>
    match (ti src).d with
    | .slice e =>
      if (ti e).agg = false ∧ (ti e).lv = [.int .u8] then
        match x.elems s e with
        | some xs => K (.t .str (.s (xs.map fun τ => UInt8.ofNat τ.I.toNat))) s
        | none => none
      else none
    | _ => none
  | _, _, _ => none
  else none

def lenX (s : St) : X → Option Nat
  | .nil => some 0
  | .t (.slice _) τ => some τ.L.length
  | .own _ r => match s.reg r with | .arr _ xs => some xs.length | _ => none
  | .ref _ r _ len => match s.reg r with | .arr _ _ => some len | _ => none
  | _ => none

def minI (a b : Int) : Int := if b < a then b else a
def maxI (a b : Int) : Int := if b > a then b else a

def builtinK (b : Builtin) (argTypes : Array TypeId) (xs : List X) (s : St) (K : X → St → Option R) : Option R :=
  if (ti (argTypes.getD 0 0)).ok = true ∧ (argTypes.size ≤ 1 ∨ (ti (argTypes.getD 1 0)).ok = true) then
  match b, xs with
  | .len, [x] =>
    match (ti (argTypes.getD 0 0)).d with
    | .slice _ => match lenX s x with
      | some n => K (.t (.int .i64) (.i n)) s
      | none => none
    | _ => match x with
      | .t .str τ => if (ti (argTypes.getD 0 0)).lv = [.str] ∧ (ti (argTypes.getD 0 0)).agg = false then (if τ.S.length < maxN then K (.t (.int .i64) (.i τ.S.length)) s else none) else none
      | _ => none
  | .cap, [x] =>
    match (ti (argTypes.getD 0 0)).d, x with
    | .slice _, .nil => K (.t (.int .i64) (.i 0)) s
    | _, _ => none
  | .append, [x, y] =>
    match (ti (argTypes.getD 0 0)).d with
    | .slice e =>
      match (ti (argTypes.getD 1 0)).d with
      | .slice e' => if e' = e then (match y.elems s e with | some ys => appendK ti e x ys s K | none => none) else none
      | .leaf =>
        match (ti (argTypes.getD 1 0)).agg, (ti (argTypes.getD 1 0)).lv, y with
        | false, [.int k], .t (.int k') τ =>
          if k' = k ∧ k = .i64 ∧ (ti e).lv.all Lt.plain ∧ 0 < (ti e).bytes then
            (if 0 ≤ τ.I ∧ τ.I * (ti e).bytes ≤ limB then appendK ti e x (List.replicate τ.I.toNat (ti e).zt) s K else none)
          else none
        | _, _, _ => none
      | _ => none
    | _ => none
  | .copy, [x, y] =>
    match (ti (argTypes.getD 0 0)).d with
    | .slice e =>
      match y.elems s e, x with
      | some ys, .own e' r => match s.reg r with
        | .arr e'' xs => if e' = e ∧ e'' = e then K (.t (.int .i64) (.i (Nat.min ys.length xs.length))) (s.setR r (.arr e (ys.take xs.length ++ xs.drop ys.length))) else none
        | _ => none
      | some ys, .ref e' r off len => match s.reg r with
        | .arr e'' xs =>
          if e' = e ∧ e'' = e then
            K (.t (.int .i64) (.i (Nat.min ys.length len))) (s.setR r (.arr e (xs.take off ++ ys.take len ++ xs.drop (off + Nat.min ys.length len))))
          else none
        | _ => none
      | _, _ => none
    | _ => none
  | .clear, [x] =>
    match (ti (argTypes.getD 0 0)).d with
    | .slice e =>
      if (ti e).lv.all Lt.plain then
        match x with
        | .nil => K (.tup []) s
        | .own e' r => match s.reg r with
          | .arr e'' xs => if e' = e ∧ e'' = e then K (.tup []) (s.setR r (.arr e (List.replicate xs.length (ti e).zt))) else none
          | _ => none
        | .ref e' r off len => match s.reg r with
          | .arr e'' xs => if e' = e ∧ e'' = e then K (.tup []) (s.setR r (.arr e (xs.take off ++ List.replicate len (ti e).zt ++ xs.drop (off + len)))) else none
          | _ => none
        | _ => none
      else none
    | _ => none
  | .min, [.t (.int k) a, .t (.int k') b] => if k' = k then K (.t (.int k) (.i (minI a.I b.I))) s else none
  | .max, [.t (.int k) a, .t (.int k') b] => if k' = k then K (.t (.int k) (.i (maxI a.I b.I))) s else none
  | _, _ => none
  else none

/-- An operation that calls no function. -/
def stepK (o : Op) (s : St) (K : X → St → Option R) : Option R :=
  match o with
  | .move x => K (opx s x) s
  | .assign x => K (opx s x) s
  | .pick c a b => match opx s c with
    | .t .bool τ => cond τ.B (K (opx s a) s) (K (opx s b) s)
    | _ => none
  | .alloc t => if (ti t).ok = true then K (.pb s.m.length 0) (s.new (.box ((ti t).lv.map Lt.zx))) else none
  | .box t v => if (ti t).ok = true ∧ (opx s v).known = true ∧ (opx s v).cells.length = (ti t).size then K (.pb s.m.length 0) (s.new (.box (opx s v).cells)) else none
  | .build t parts => match (ti t).ok, (ti t).d with
    | true, .struct fs => match layParts ti fs (parts.toList.map fun p => (p.1, opx s p.2)) ((ti t).lv.map Lt.zx) with
      | some xs => K (.agg xs) s
      | none => none
    | _, _ => none
  | .buildSlice t len parts => match (ti t).ok, (ti t).d with
    | true, .slice e =>
      if (ti e).lv.all Lt.plain ∧ len * (ti e).size ≤ 65536 ∧ len ≤ 65536 ∧ sortedP (parts.toList.map fun p => (p.1, opx s p.2)) = true then partsK ti e len (parts.toList.map fun p => (p.1, opx s p.2)) s fun xs s' => newArr e xs s' K
      else none
    | _, _ => none
  | .load t a => match loadX ti s t (opx s a) with
    | some x => K x s
    | none => none
  | .store t a v => storeK ti t (opx s a) (opx s v) s K
  | .binOp op t x y _ => match opx s x, opx s y with
    | .agg xs, .agg ys => if (ti t).ok = true ∧ (ti t).cmp = true ∧ tysOk (ti t).lv xs = true then (match op, eqLeaves xs ys with
      | .eql, some c => K (.t .bool (.b c)) s
      | .neq, some c => K (.t .bool (.b (!c))) s
      | _, _ => none) else none
    | x, y => binK (decide ((ti t).ok = true ∧ (ti t).d = .leaf ∧ (ti t).lv = [.bool])) op x y fun v => K v s
  | .unOp op _ x => match op, opx s x with
    | .not, .t .bool τ => K (.t .bool (.b (!τ.B))) s
    | .neg, .t (.int k) τ => K (.t (.int k) (.i (k.wrap (0 - τ.I)))) s
    | _, _ => none
  | .convert src dst x => convK ti src dst (opx s x) s K
  | .makeFunc fn first caps => match fn with
    | .func f => if first.size = 0 then K (.fn f (caps.toList.map (opx s))) s else none
    | _ => none
  | .makeSlice t l c => match (ti t).ok, (ti t).d with
    | true, .slice e =>
      if sameOp l c = true ∧ (ti e).lv.all Lt.plain then
        match opx s l with
        | .t (.int .i64) τ => if 0 ≤ τ.I ∧ τ.I * (ti e).bytes ≤ limB ∧ τ.I < maxN then newArr e (List.replicate τ.I.toNat (ti e).zt) s K else none
        | _ => none
      else none
    | _, _ => none
  | .slice t x lo hi mx => match (ti t).ok, (ti t).d with
    | true, .slice e => sliceK e (opx s x) (lo.map (opx s)) (hi.map (opx s)) (mx.map (opx s)) s K
    | _, _ => none
  | .fieldAddr t x f => match fieldOff ti t f, opx s x with
    | some o, .pb r off => K (.pb r (off + o)) s
    | some o, .pa e r idx off => K (.pa e r idx (off + o)) s
    | some o, .pt e τ off => K (.pt e τ (off + o)) s
    | _, _ => none
  | .indexAddr t x ix => indexK ti t (opx s x) (opx s ix) s K
  | .extract t ix => match opx s t with
    | .tup xs => if ix < xs.length then K (xs.getD ix .un) s else none
    | _ => none
  | .nilCheck x => match opx s x with
    | .pb r o => K (.pb r o) s
    | .pa e r i o => K (.pa e r i o) s
    | .pt e τ o => K (.pt e τ o) s
    | _ => none
  | .field t x f => match fieldPart ti t f, opx s x with
    | some (ft, off), .agg xs => if off + (ti ft).size ≤ xs.length then K (readB ti ft xs off) s else none
    | _, _ => none
  | .call { callee := .builtin b, args, argTypes } => if argTypes.size = args.size then builtinK ti b argTypes (args.toList.map (opx s)) s K else none
  | _ => none

end Go.KX
/- The evaluator: code, loops, calls. -/
namespace Go.KX

/-- How a slice that a loop carries is held. -/
inductive Md where
  | any
  | imm (e : TypeId)
  | own (e : TypeId)

/-- What lives at a loop's head: slots, and cells of the variables that slots point to. -/
structure Ann where
  live : List (Nat × Md)
  leaf : List (Nat × Nat × Md)
  out : List (Nat × Md)

/-- One of a function's results. -/
inductive Sh where
  | leaf (l : Lt) (own : Bool)
  | agg (ls : List (Lt × Bool))

structure Sig where
  ps : List (Bool × List Lt)
  rs : List Sh

/-- A function known by its meaning. -/
structure Mean where
  app : Nat → List T → Option (List T)

structure Cfg where
  ti : TypeId → TyI
  code : Nat → Option Func
  fenv : Nat → Option (Sig × Mean)
  ann : Nat → Nat → Ann
  n : Nat

inductive Ex where
  | normal
  | exit (id : Nat)
  | ret

/-- A loop known by its meaning: its state's form at the head, at each way out, and one round. -/
structure LoopM where
  sk : St
  ex : List (Ex × St)
  G : {R : Type} → List T → (List T → Option R) → List (List T → Option R) → Option R

def canonT (l : Lt) (τ : T) : T :=
  match l with
  | .int _ => .i τ.I
  | .bool => .b τ.B
  | .str => .s τ.S
  | .slice _ => .l τ.L
  | _ => τ

mutual
def X.canon : X → X
  | .un => .un
  | .t l τ => .t l (canonT l τ)
  | .agg ys => .agg (X.canonL ys)
  | .tup ys => .tup (X.canonL ys)
  | .nil => .nil
  | .own e r => .own e r
  | .ref e r off len => .ref e r off len
  | .pb r off => .pb r off
  | .pa e r idx off => .pa e r idx off
  | .pt e τ off => .pt e τ off
  | .fn f caps => .fn f (X.canonL caps)
def X.canonL : List X → List X
  | [] => []
  | y :: ys => y.canon :: X.canonL ys
end
def Reg.canon : Reg → Reg
  | .box ys => .box (X.canonL ys)
  | R => R
def St.canon (s : St) : St := ⟨s.fr.map X.canonL, s.m.map Reg.canon⟩

mutual
def X.refs : X → List Nat
  | .agg ys => X.refsL ys
  | .tup ys => X.refsL ys
  | .own _ r => [r]
  | .ref _ r _ _ => [r]
  | .pb r _ => [r]
  | .pa _ r _ _ => [r]
  | .fn _ caps => X.refsL caps
  | _ => []
def X.refsL : List X → List Nat
  | [] => []
  | y :: ys => y.refs ++ X.refsL ys
end
def Reg.refs : Reg → List Nat
  | .box ys => X.refsL ys
  | _ => []

def reach (m : List Reg) : Nat → List Nat → List Nat → List Nat
  | 0, _, seen => seen
  | _ + 1, [], seen => seen
  | n + 1, r :: todo, seen => if seen.contains r || m.length ≤ r then reach m n todo seen else reach m n (todo ++ (m.getD r .dead).refs) (seen ++ [r])

def idx (keep : List Nat) (r : Nat) : Option Nat := keep.idxOf? r
def St.only (keep : List Nat) (s : St) : St := ⟨s.fr.map (X.renL (idx keep)), keep.map fun r => (s.reg r).ren (idx keep)⟩
def St.gc (s : St) : St := s.only (reach s.m 1000 (s.fr.flatMap X.refsL) [])

/-- A value as a loop carries it. -/
def coerce {R : Type} (md : Md) (x : X) (s : St) (K : X → St → Option R) : Option R :=
  match md with
  | .any => K x s
  | .imm e => toTs [.slice e] [x] s fun τs s' => K (.t (.slice e) (τs.headD (.i 0))) s'
  | .own e =>
    match x with
    | .nil => newArr e [] s K
    | .own e' r => if e' = e then K (.own e r) s else none
    | .ref e' r off len => if e' = e ∧ off = 0 then (match s.reg r with | .arr e'' xs => if e'' = e then K (.own e r) ((s.kill r).setR r (.arr e (xs.take len))) else none | _ => none) else none
    | _ => none

def coerceSlots {R : Type} : List (Nat × Md) → St → (St → Option R) → Option R
  | [], s, K => K s
  | (_, .any) :: r, s, K => coerceSlots r s K
  | (t, md) :: r, s, K => coerce md (s.cur.getD t .un) s fun x s' => coerceSlots r (s'.put (some t) x) K

def coerceLeaves {R : Type} : List (Nat × Nat × Md) → St → (St → Option R) → Option R
  | [], s, K => K s
  | (t, j, md) :: r, s, K =>
    match s.cur.getD t .un with
    | .pb q off => match s.reg q with
      | .box xs => if off + j < xs.length then coerce md (xs.getD (off + j) .un) s fun x s' =>
        match s'.reg q with
        | .box ys => if off + j < ys.length then coerceLeaves r (s'.setR q (.box (ys.set (off + j) x))) K else none
        | _ => none
        else none
      | _ => none
    | _ => none

def keepSlots (live : List (Nat × Md)) : Nat → List X → List X
  | _, [] => []
  | i, x :: xs => (if live.any (fun p => p.1 == i) then x else .un) :: keepSlots live (i + 1) xs

def normK {R : Type} (ann : Ann) (s : St) (K : St → Option R) : Option R :=
  coerceSlots ann.live s fun s1 => coerceLeaves ann.leaf s1 fun s2 =>
    K (St.gc (St.canon ⟨keepSlots ann.live 0 s2.cur :: s2.fr.tail, s2.m⟩))

mutual
/-- The trees of a value of a given form. -/
def X.mat : X → X → Option (List T)
  | .un, .un => some []
  | .t l _, .t l' τ => if l' = l then some [τ] else none
  | .agg xs, .agg ys => X.matL xs ys
  | .tup xs, .tup ys => X.matL xs ys
  | .nil, .nil => some []
  | .own e r, .own e' r' => if e' = e ∧ r' = r then some [] else none
  | .pb r o, .pb r' o' => if r' = r ∧ o' = o then some [] else none
  | .ref e r _ _, .ref e' r' off len => if e' = e ∧ r' = r then some [.i off, .i len] else none
  | .pa e r _ o, .pa e' r' idx o' => if e' = e ∧ r' = r ∧ o' = o then some [.i idx] else none
  | .pt e _ o, .pt e' τ o' => if e' = e ∧ o' = o then some [τ] else none
  | .fn f xs, .fn f' ys => if f' = f then X.matL xs ys else none
  | _, _ => none
def X.matL : List X → List X → Option (List T)
  | [], [] => some []
  | x :: xs, y :: ys => match x.mat y with
    | some v => match X.matL xs ys with
      | some u => some (v ++ u)
      | none => none
    | none => none
  | _, _ => none
end
def Reg.mat : Reg → Reg → Option (List T)
  | .box xs, .box ys => X.matL xs ys
  | .arr e _, .arr e' ys => if e' = e then some [.l ys] else none
  | .dead, .dead => some []
  | _, _ => none
def matF : List (List X) → List (List X) → Option (List T)
  | [], [] => some []
  | x :: xs, y :: ys => match X.matL x y with
    | some v => match matF xs ys with
      | some u => some (v ++ u)
      | none => none
    | none => none
  | _, _ => none
def matM : List Reg → List Reg → Option (List T)
  | [], [] => some []
  | x :: xs, y :: ys => match x.mat y with
    | some v => match matM xs ys with
      | some u => some (v ++ u)
      | none => none
    | none => none
  | _, _ => none
def St.mat (k s : St) : Option (List T) :=
  match matF k.fr s.fr with
  | some v => match matM k.m s.m with
    | some u => some (v ++ u)
    | none => none
  | none => none

-- The form filled in: the n-th tree goes to the n-th place.
mutual
def X.fill (v : List T) : X → Nat → X × Nat
  | .un, n => (.un, n)
  | .t l _, n => (.t l (canonT l (v.getD n (.i 0))), n + 1)
  | .agg xs, n => let z := X.fillL v xs n; (.agg z.1, z.2)
  | .tup xs, n => let z := X.fillL v xs n; (.tup z.1, z.2)
  | .nil, n => (.nil, n)
  | .own e r, n => (.own e r, n)
  | .ref e r _ _, n => (.ref e r (v.getD n (.i 0)).I.toNat (v.getD (n + 1) (.i 0)).I.toNat, n + 2)
  | .pb r o, n => (.pb r o, n)
  | .pa e r _ o, n => (.pa e r (v.getD n (.i 0)).I.toNat o, n + 1)
  | .pt e _ o, n => (.pt e (v.getD n (.i 0)) o, n + 1)
  | .fn f xs, n => let z := X.fillL v xs n; (.fn f z.1, z.2)
def X.fillL (v : List T) : List X → Nat → List X × Nat
  | [], n => ([], n)
  | x :: xs, n => let z := x.fill v n; let y := X.fillL v xs z.2; (z.1 :: y.1, y.2)
end
def Reg.fill (v : List T) : Reg → Nat → Reg × Nat
  | .box xs, n => let z := X.fillL v xs n; (.box z.1, z.2)
  | .arr e _, n => (.arr e (v.getD n (.i 0)).L, n + 1)
  | .dead, n => (.dead, n)
def fillF (v : List T) : List (List X) → Nat → List (List X) × Nat
  | [], n => ([], n)
  | x :: xs, n => let z := X.fillL v x n; let y := fillF v xs z.2; (z.1 :: y.1, y.2)
def fillM (v : List T) : List Reg → Nat → List Reg × Nat
  | [], n => ([], n)
  | x :: xs, n => let z := x.fill v n; let y := fillM v xs z.2; (z.1 :: y.1, y.2)
def St.fill (k : St) (v : List T) : St :=
  let z := fillF v k.fr 0
  ⟨z.1, (fillM v k.m z.2).1⟩

def iter {σ R : Type} (F : σ → (σ → Option R) → Option R) : Nat → σ → Option R
  | 0, _ => none
  | n + 1, s => F s (iter F n)

/-- The arguments of a function known by its meaning: their cells. -/
def flatLs : List (Bool × List Lt) → List Lt
  | [] => []
  | (_, ls) :: ps => ls ++ flatLs ps
def flatXs : List (Bool × List Lt) → List X → Option (List X)
  | [], [] => some []
  | (true, ls) :: ps, .agg ys :: xs => if ys.length = ls.length then (match flatXs ps xs with | some zs => some (ys ++ zs) | none => none) else none
  | (false, [_]) :: ps, x :: xs => match flatXs ps xs with | some zs => some (x :: zs) | none => none
  | _, _ => none
/-- Arguments that are only read. -/
def leafXs : List Lt → List T → List X
  | [], _ => []
  | l :: ls, τs => .t l (τs.headD (.i 0)) :: leafXs ls τs.tail
def argX (l : Lt) (τ : T) : X :=
  match l with
  | .box e => .pt e τ 0
  | .fnc g => .fn g []
  | l => .t l τ
def argXs : List (Bool × List Lt) → List T → List X
  | [], _ => []
  | (true, ls) :: ps, τs => .agg (leafXs ls τs) :: argXs ps (τs.drop ls.length)
  | (false, ls) :: ps, τs => argX (ls.headD .fn) (τs.headD (.i 0)) :: argXs ps (τs.drop ls.length)

def Sh.lvs : Sh → List (Lt × Bool)
  | .leaf l o => [(l, o)]
  | .agg ls => ls
def shLvs : List Sh → List (Lt × Bool)
  | [] => []
  | s :: sh => s.lvs ++ shLvs sh
def ownE : Lt × Bool → Option TypeId
  | (.slice e, true) => some e
  | _ => none
/-- The cells of the results; a slice of the call's own is a region. -/
def resLeaves : List (Lt × Bool) → List T → Nat → List X
  | [], _, _ => []
  | p :: ls, rs, n => match ownE p with
    | some e => .own e n :: resLeaves ls rs.tail (n + 1)
    | none => .t p.1 (rs.headD (.i 0)) :: resLeaves ls rs.tail n
def resRegs : List (Lt × Bool) → List T → List Reg
  | [], _ => []
  | p :: ls, rs => match ownE p with
    | some e => .arr e (rs.headD (.i 0)).L :: resRegs ls rs.tail
    | none => resRegs ls rs.tail
def group : List Sh → List X → List X
  | [], _ => []
  | .leaf _ _ :: sh, xs => xs.headD .un :: group sh xs.tail
  | .agg ls :: sh, xs => .agg (xs.take ls.length) :: group sh (xs.drop ls.length)
def tupX : List X → X
  | [x] => x
  | xs => .tup xs

/-- Values that name no region, as trees. -/
def snap0 (l : Lt) : X → Option T
  | .t l' τ => if l' = l then some τ else none
  | .nil => match l with | .slice _ => some (.l []) | _ => none
  | .pt e τ off => if l = .box e ∧ off = 0 then some τ else none
  | .fn f caps => match caps with | [] => if l = .fnc f then some (.i 0) else none | _ => none
  | _ => none
def snapL0 : List Lt → List X → Option (List T)
  | [], [] => some []
  | l :: ls, x :: xs => match snap0 l x with
    | some τ => match snapL0 ls xs with
      | some τs => some (τ :: τs)
      | none => none
    | none => none
  | _, _ => none

/- A variable that is only read from here on: pointers to it become pointers to its tree. -/
mutual
def X.bz (r : Nat) (e : TypeId) (τ : T) : X → X
  | .un => .un
  | .t l τ => .t l τ
  | .agg ys => .agg (X.bzL r e τ ys)
  | .tup ys => .tup (X.bzL r e τ ys)
  | .nil => .nil
  | .own e' r' => if r' = r then .un else .own e' r'
  | .ref e' r' off len => if r' = r then .un else .ref e' r' off len
  | .pb r' off => if r' = r then .pt e τ off else .pb r' off
  | .pa e' r' idx off => if r' = r then .un else .pa e' r' idx off
  | .pt e τ off => .pt e τ off
  | .fn f caps => .fn f (X.bzL r e τ caps)
def X.bzL (r : Nat) (e : TypeId) (τ : T) : List X → List X
  | [] => []
  | y :: ys => y.bz r e τ :: X.bzL r e τ ys
end
def Reg.bz (r : Nat) (e : TypeId) (τ : T) : Reg → Reg
  | .box ys => .box (X.bzL r e τ ys)
  | .arr e xs => .arr e xs
  | .dead => .dead
def St.bz (r : Nat) (e : TypeId) (τ : T) (s : St) : St := ⟨s.fr.map (X.bzL r e τ), (s.m.set r .dead).map (Reg.bz r e τ)⟩
def slLeaves (n : Nat) : List Lt → Nat → List (Nat × Nat × Md)
  | [], _ => []
  | .slice e :: ls, j => (n, j, .imm e) :: slLeaves n ls (j + 1)
  | _ :: ls, j => slLeaves n ls (j + 1)
/-- Arguments that point to variables. -/
def bzK (ti : TypeId → TyI) : List Lt → Nat → St → Option St
  | [], _, s => some s
  | .box e :: ls, n, s =>
    match s.cur.getD n .un with
    | .pb r off =>
      if off = 0 ∧ (ti e).ok = true then
        match (coerceLeaves (slLeaves n (ti e).lv 0) s some : Option St) with
        | none => none
        | some s1 =>
          match s1.cur.getD n .un, s1.reg r with
          | .pb r' _, .box cs =>
            if r' = r then
              match snapL0 (ti e).lv cs with
              | some τs => bzK ti ls (n + 1) (s1.bz r e ((ti e).join τs))
              | none => none
            else none
          | _, _ => none
      else none
    | .pt e' τ off =>
      if e' = e ∧ off = 0 then bzK ti ls (n + 1) s
      else if (ti e).ok = true ∧ off + (ti e).size ≤ (ti e').size ∧ ((ti e').lv.drop off).take (ti e).size = (ti e).lv then
        bzK ti ls (n + 1) (s.put (some n) (.pt e ((ti e).join ((List.range (ti e).size).map fun j => (ti e').leaf τ (off + j))) 0))
      else none
    | _ => bzK ti ls (n + 1) s
  | _ :: ls, n, s => bzK ti ls (n + 1) s
/-- A call's arguments as trees. -/
def argsK (ti : TypeId → TyI) (ls : List Lt) (ys : List X) (fr : List (List X)) (m : List Reg) : Option (List T × St) :=
  match bzK ti ls 0 ⟨ys :: fr, m⟩ with
  | none => none
  | some s1 => toTs ls s1.cur ⟨s1.fr.tail, s1.m⟩ fun τs s2 => some (τs, s2)

/-- May a result's memory be an argument's? -/
def isSl : Lt → Bool
  | .slice _ => true
  | .ptr => true
  | .fn => true
  | .box _ => true
  | .fnc _ => true
  | _ => false
def immL (ti : TypeId → TyI) (p : Lt × Bool) : Bool :=
  match ownE p with
  | some e => (ti e).lv.any isSl
  | none => isSl p.1

/-- What a function gives back, as trees: slots 0, 1, .. hold the cells. -/
def mds : List (Lt × Bool) → Nat → List (Nat × Md)
  | [], _ => []
  | (.slice e, true) :: ls, n => (n, .own e) :: mds ls (n + 1)
  | (.slice e, false) :: ls, n => (n, .imm e) :: mds ls (n + 1)
  | _ :: ls, n => mds ls (n + 1)
def readBack : List (Lt × Bool) → List X → Nat → List Reg → Option (List T)
  | [], [], _, [] => some []
  | (.slice e, true) :: ls, .own e' r :: xs, n, .arr e'' ys :: m => if e' = e ∧ e'' = e ∧ r = n then (match readBack ls xs (n + 1) m with | some rs => some (.l ys :: rs) | none => none) else none
  | (l, false) :: ls, .t l' τ :: xs, n, m => if l' = l then (match readBack ls xs n m with | some rs => some (τ :: rs) | none => none) else none
  | _, _, _, _ => none
def finish (sh : List Sh) (xs : List X) (m : List Reg) : Option (List T) :=
  match flatXs (sh.map fun s => match s with | .leaf l _ => (false, [l]) | .agg ls => (true, ls.map Prod.fst)) xs with
  | some ys => coerceSlots (mds (shLvs sh) 0) ⟨[ys], m⟩ fun s => readBack (shLvs sh) (St.gc s).cur 0 (St.gc s).m
  | none => none

section
variable {R : Type} (c : Cfg)

def execK (call : Nat → List X → St → (X → St → Option R) → Option R) (o : Op) (s : St) (K : X → St → Option R) : Option R :=
  match o with
  | .call { callee := .value f, args, .. } => match opx s f with
    | .fn g caps => call g (args.toList.map (opx s) ++ caps) s K
    | _ => none
  | o => stepK c.ti o s K

noncomputable def opsK (call : Nat → List X → St → (X → St → Option R) → Option R) (ops : Array Oper) : List Oper → St → (St → Option R) → Option R
  | [], s, K => K s
  | o :: rest, s, K =>
    match o.guard with
    | none => execK c call o.op s fun x s' => s'.putF o.dst x fun s2 => opsK call ops rest s2 K
    | some (j, want) =>
      match (ops[j]?).bind (·.dst) with
      | none => none
      | some d =>
        match s.cur.getD d .un with
        | .t .bool τ =>
          cond τ.B
            (if want then s.putF (some d) (.t .bool (.b true)) fun s1 => execK c call o.op s1 (fun x s' => s'.putF o.dst x fun s2 => opsK call ops rest s2 K)
              else s.putF (some d) (.t .bool (.b true)) fun s1 => s1.putF o.dst (.tup []) fun s2 => opsK call ops rest s2 K)
            (if want then s.putF (some d) (.t .bool (.b false)) fun s1 => s1.putF o.dst (.tup []) fun s2 => opsK call ops rest s2 K
              else s.putF (some d) (.t .bool (.b false)) fun s1 => execK c call o.op s1 (fun x s' => s'.putF o.dst x fun s2 => opsK call ops rest s2 K))
        | .tup [] => s.putF o.dst (.tup []) fun s2 => opsK call ops rest s2 K
        | _ => none

def regionId : Code → Nat
  | .region id _ _ => id
  | .seq a _ => regionId a
  | .cond _ a _ => regionId a
  | .block _ a => regionId a
  | .loop a => regionId a
  | .scope a => regionId a
  | _ => 0

/-- Where one round of a loop goes on. -/
def roundK (ann : Ann) (K : Ex → St → Option R) (self : St → Option R) (e : Ex) (s : St) : Option R :=
  match e with
  | .normal => normK ann s self
  | .exit i => normK ⟨ann.out, [], []⟩ s (K (.exit i))
  | .ret => normK ⟨ann.out, [], []⟩ s (K .ret)
def exitK (L : LoopM) (K : Ex → St → Option R) : List (List T → Option R) := L.ex.map fun p u => K p.1 (p.2.fill u)
def exn (ex : List (List T → Option R)) (k : Nat) (u : List T) : Option R := (ex.getD k fun _ => none) u
/-- A loop by its meaning. -/
def loopR (G : List T → (List T → Option R) → List (List T → Option R) → Option R) (n : Nat) (v : List T) (ex : List (List T → Option R)) : Option R := iter (fun v self => G v self ex) n v
def selfK (L : LoopM) (self : List T → Option R) (s : St) : Option R :=
  match L.sk.mat s with
  | some v => self v
  | none => none
/-- A loop known by its meaning: by the first form that fits. -/
def pickK (n : Nat) (K : Ex → St → Option R) (s : St) : List LoopM → Option R
  | [] => none
  | L :: r => match L.sk.mat s with
    | some v => iter (fun v self => L.G v self (exitK L K)) n v
    | none => pickK n K s r
/-- A loop. -/
def loopK (ann : Ann) (lm : List LoopM) (n : Nat) (body : St → (Ex → St → Option R) → Option R) (K : Ex → St → Option R) (s : St) : Option R :=
  match lm with
  | [] => iter (fun s self => body s (roundK ann K self)) n s
  | L :: r => pickK n K s (L :: r)

def setB (s : St) (x : Operand) (b : Bool) : St :=
  match x with
  | .tmp t => s.put (some t) (.t .bool (.b b))
  | _ => s

noncomputable def setF (s : St) (x : Operand) (b : Bool) (k : St → Option R) : Option R :=
  match x with
  | .tmp t => s.putF (some t) (.t .bool (.b b)) k
  | _ => k s
theorem setF_eq (s : St) (x : Operand) (b : Bool) (k : St → Option R) : setF s x b k = k (setB s x b) := by
  cases x with
  | tmp t => exact St.putF_eq s (some t) (.t .bool (.b b)) k
  | _ => rfl

noncomputable def evC (call : Nat → List X → St → (X → St → Option R) → Option R) (draw : Array Oper → St → (St → Option R) → Option R) (ann : Nat → Ann) (lm : Nat → List LoopM) : Code → St → (Ex → St → Option R) → Option R
  | .skip, s, K => K .normal s
  | .region _ ops d, s, K => if d then draw ops s (K .normal) else opsK c call ops ops.toList s (K .normal)
  | .seq a b, s, K => evC call draw ann lm a s fun e s' => match e with
    | .normal => evC call draw ann lm b s' K
    | .exit i => K (.exit i) s'
    | .ret => K .ret s'
  | .cond x a b, s, K => match opx s x with
    | .t .bool τ => cond τ.B (setF s x true fun s1 => evC call draw ann lm a s1 K) (setF s x false fun s1 => evC call draw ann lm b s1 K)
    | _ => none
  | .block id b, s, K => evC call draw ann lm b s fun e s' => match e with
    | .normal => K .normal s'
    | .exit i => if i = id then K .normal s' else K (.exit i) s'
    | .ret => K .ret s'
  | .loop b, s, K => normK (ann (regionId b)) s fun s0 => loopK (ann (regionId b)) (lm (regionId b)) c.n (fun s KK => evC call draw ann lm b s KK) K s0
  | .exit i, s, K => K (.exit i) s
  | .ret, s, K => K .ret s
  | _, _, _ => none

/-- What a function's result slots hold. -/
def resultX (s : St) : List ResultVar → Option (List X)
  | [] => some []
  | .tmp t :: rs => match resultX s rs with
    | some xs => some (s.cur.getD t .un :: xs)
    | none => none
  | .cell t ty :: rs => match loadX c.ti s ty (s.cur.getD t .un), resultX s rs with
    | some x, some xs => some (x :: xs)
    | _, _ => none

/-- The body of a function. -/
noncomputable def bodyK (call : Nat → List X → St → (X → St → Option R) → Option R) (draw : Array Oper → St → (St → Option R) → Option R) (lm : Nat → List LoopM) (f : Nat) (xs : List X) (s : St) (K : List X → St → Option R) : Option R :=
  match c.code f with
  | none => none
  | some fn =>
    match fn.body with
    | none => none
    | some b =>
      evC c call draw (c.ann f) lm b ⟨(xs ++ List.replicate (fn.ntmps - xs.length) (.tup [])) :: s.fr, s.m⟩ fun e s' =>
        match e with
        | .exit _ => none
        | _ => match resultX c s' fn.results.toList with
          | some rs => K rs ⟨s'.fr.tail, s'.m⟩
          | none => none

/-- A call. -/
noncomputable def callK (draw : (Nat → List X → St → (X → St → Option R) → Option R) → Array Oper → St → (St → Option R) → Option R) (lms : Nat → Nat → Nat → List LoopM) : Nat → Nat → List X → St → (X → St → Option R) → Option R
  | 0, _, _, _, _ => none
  | d + 1, f, xs, s, K =>
    match c.fenv f with
    | some (sg, me) =>
      match flatXs sg.ps xs with
      | none => bodyK c (callK draw lms d) (draw (callK draw lms d)) (lms d f) f xs s fun rs s' => K (tupX rs) s'
      | some ys =>
        if (shLvs sg.rs).any (immL c.ti) then
          match argsK c.ti (flatLs sg.ps) ys s.fr s.m with
          | none => bodyK c (callK draw lms d) (draw (callK draw lms d)) (lms d f) f xs s fun rs s' => K (tupX rs) s'
          | some (τs, s1) =>
            match me.app c.n τs with
            | none => none
            | some rs => K (tupX (group sg.rs (resLeaves (shLvs sg.rs) rs s1.m.length))) ⟨s1.fr, s1.m ++ resRegs (shLvs sg.rs) rs⟩
        else
          match argsK c.ti (flatLs sg.ps) ys [] s.m with
          | none => bodyK c (callK draw lms d) (draw (callK draw lms d)) (lms d f) f xs s fun rs s' => K (tupX rs) s'
          | some (τs, _) =>
            match me.app c.n τs with
            | none => none
            | some rs => K (tupX (group sg.rs (resLeaves (shLvs sg.rs) rs s.m.length))) ⟨s.fr, s.m ++ resRegs (shLvs sg.rs) rs⟩
    | none => bodyK c (callK draw lms d) (draw (callK draw lms d)) (lms d f) f xs s fun rs s' => K (tupX rs) s'
end

/-- A function on trees, from its code. -/
noncomputable def evF (c : Cfg) (draw : {R : Type} → (Nat → List X → St → (X → St → Option R) → Option R) → Array Oper → St → (St → Option R) → Option R) (lms : Nat → Nat → Nat → List LoopM) (d : Nat) (f : Nat) (sg : Sig) (τs : List T) : Option (List T) :=
  bodyK c (callK c draw lms d) (draw (callK c draw lms d)) (lms d f) f (argXs sg.ps τs) ⟨[], []⟩ fun rs s => finish sg.rs rs s.m
end Go.KX
/- The evaluator's states against the machine's: what holds between them, and how it is carried. -/
namespace Go.KX

/-- What was there when the call began, and what of it may be turned. -/
structure Ctx where
  w0 : World
  own0 : Nat → Prop
  im0 : Nat → Prop

structure Fm (c : Ctx) (g : Gh) (w : World) : Prop where
  os : w.os = c.w0.os
  tape : w.tape = c.w0.tape
  output : w.output = c.w0.output
  size : c.w0.heap.size ≤ w.heap.size
  old : ∀ b, b < c.w0.heap.size → ¬ c.own0 b → w.heap[b]? = c.w0.heap[b]? ∧ g.own b = none ∧ (g.im b → c.im0 b)

inductive RegOk (ti : TypeId → TyI) (g : Gh) (w : World) (r : Nat) : Reg → Prop
  | box {xs : List X} {c : Array Value} {te : TypeId} (ho : g.own (g.loc r).1 = some r) (hh : w.heap[(g.loc r).1]? = some (.cells c te (0, 0)))
      (hs : (g.loc r).2 + xs.length ≤ c.size) (hx : ∀ j, j < xs.length → RX ti g w (xs.getD j .un) (c.getD ((g.loc r).2 + j) undef)) : RegOk ti g w r (.box xs)
  | arr {e : TypeId} {xs : List T} (hl : g.len r = xs.length) (hc : xs.length ≤ g.cap r) (hn : xs.length < maxN)
      (hm : 0 < g.cap r → ∃ c te, g.own (g.loc r).1 = some r ∧ w.heap[(g.loc r).1]? = some (.cells c te (0, 0)) ∧ (g.loc r).2 + g.cap r * (ti e).size ≤ c.size ∧
        ∀ i j, i < xs.length → j < (ti e).size → RL ti g.im w ((ti e).lv.getD j .fn) ((ti e).leaf (xs.getD i (.i 0)) j) (c.getD ((g.loc r).2 + i * (ti e).size + j) undef)) :
      RegOk ti g w r (.arr e xs)
  | dead : RegOk ti g w r .dead

/-- A frame's slots. -/
structure Fr (ti : TypeId → TyI) (g : Gh) (w : World) (xs : List X) (vs : Array Value) : Prop where
  size : vs.size = xs.length
  get : ∀ i, RX ti g w (xs.getD i .un) (vs.getD i undef)

structure Sim (ti : TypeId → TyI) (c : Ctx) (s : St) (ts : List (Array Value)) (g : Gh) (w : World) : Prop where
  nr : g.nr = s.m.length
  im : ∀ b, g.im b → b < w.heap.size ∧ g.own b = none
  own : ∀ b r, g.own b = some r → b < w.heap.size ∧ r < g.nr
  reg : ∀ r, r < g.nr → RegOk ti g w r (s.reg r)
  nf : s.fr.length = ts.length
  fr : ∀ k, k < s.fr.length → Fr ti g w (s.fr.getD k []) (ts.getD k #[])
  fm : Fm c g w

mutual
theorem X.ren_some : ∀ x : X, x.ren some = x
  | .un => rfl
  | .t _ _ => rfl
  | .agg xs => by rw [X.ren, X.renL_some xs]
  | .tup xs => by rw [X.ren, X.renL_some xs]
  | .nil => rfl
  | .own _ _ => rfl
  | .ref _ _ _ _ => rfl
  | .pb _ _ => rfl
  | .pa _ _ _ _ => rfl
  | .pt _ _ _ => rfl
  | .fn _ xs => by rw [X.ren, X.renL_some xs]
theorem X.renL_some : ∀ xs : List X, X.renL some xs = xs
  | [] => rfl
  | x :: xs => by rw [X.renL, X.ren_some x, X.renL_some xs]
end

theorem RX.mor1 {ti : TypeId → TyI} {g g' : Gh} {w w' : World} (m : Mor some g w g' w') {x : X} {v : Value} (h : RX ti g w x v) : RX ti g' w' x v := by
  have := h.mor m
  rwa [X.ren_some] at this

theorem Fr.mor {ti : TypeId → TyI} {ρ : Nat → Option Nat} {g g' : Gh} {w w' : World} (m : Mor ρ g w g' w') {xs : List X} {vs : Array Value} (h : Fr ti g w xs vs) : Fr ti g' w' (X.renL ρ xs) vs := by
  rw [X.renL_eq]
  exact ⟨by simpa using h.size, fun i => by rw [getD_map_ren]; exact (h.get i).mor m⟩

theorem RegOk.mor {ti : TypeId → TyI} {ρ : Nat → Option Nat} {g g' : Gh} {w w' : World} (m : Mor ρ g w g' w') {r r' : Nat} {R : Reg} (hr : ρ r = some r') (hn : r < g.nr)
    (ho : ∀ b, g.own b = some r → g'.own b = some r' ∧ w'.heap[b]? = w.heap[b]?) (h : RegOk ti g w r R) : RegOk ti g' w' r' (R.ren ρ) := by
  obtain ⟨h0, h1, h2, h3⟩ := m.reg r r' hn hr
  cases h with
  | box hown hh hs hx =>
    obtain ⟨h4, h5⟩ := ho _ hown
    rw [Reg.ren, X.renL_eq]
    refine .box (by rw [h1]; exact h4) (by rw [h1, h5]; exact hh) (by rw [h1]; simpa using hs) (fun j hj => ?_)
    rw [getD_map_ren, h1]
    exact (hx j (by simpa using hj)).mor m
  | arr hl hc hlt hm =>
    refine .arr (by rw [h3]; exact hl) (by rw [h2]; exact hc) hlt (fun hp => ?_)
    obtain ⟨c, te, a1, a2, a3, a4⟩ := hm (by rw [← h2]; exact hp)
    obtain ⟨h4, h5⟩ := ho _ a1
    exact ⟨c, te, by rw [h1]; exact h4, by rw [h1, h5]; exact a2, by rw [h1, h2]; exact a3, fun i j hi hj => by rw [h1]; exact (a4 i j hi hj).mono m.im⟩
  | dead => exact .dead

theorem RegOk.mor1 {ti : TypeId → TyI} {g g' : Gh} {w w' : World} (m : Mor some g w g' w') {r : Nat} {R : Reg} (hn : r < g.nr)
    (ho : ∀ b, g.own b = some r → g'.own b = some r ∧ w'.heap[b]? = w.heap[b]?) (h : RegOk ti g w r R) : RegOk ti g' w' r R := by
  have := h.mor m (r' := r) rfl hn ho
  have e : R.ren some = R := by cases R <;> simp [Reg.ren, X.renL_some]
  rwa [e] at this

theorem getD_map_renL (ρ : Nat → Option Nat) (l : List (List X)) (k : Nat) : (l.map (X.renL ρ)).getD k [] = X.renL ρ (l.getD k []) := by
  rcases Nat.lt_or_ge k l.length with h | h
  · simp [h]
  · simp [List.getElem?_eq_none h, X.renL]

/-- The general step: the regions are given anew, the frames renamed. -/
theorem Sim.step {ti : TypeId → TyI} {c : Ctx} {s : St} {ts : List (Array Value)} {g g' : Gh} {w w' : World} {ρ : Nat → Option Nat} {M : List Reg} (hs : Sim ti c s ts g w) (m : Mor ρ g w g' w')
    (nr : g'.nr = M.length) (im : ∀ b, g'.im b → b < w'.heap.size ∧ g'.own b = none) (own : ∀ b r, g'.own b = some r → b < w'.heap.size ∧ r < g'.nr)
    (reg : ∀ r, r < g'.nr → RegOk ti g' w' r (M.getD r .dead)) (fm : Fm c g' w') : Sim ti c ⟨s.fr.map (X.renL ρ), M⟩ ts g' w' where
  nr := nr
  im := im
  own := own
  reg := reg
  nf := by simpa using hs.nf
  fr := fun k hk => by
    rw [getD_map_renL]
    exact (hs.fr k (by simpa using hk)).mor m
  fm := fm

theorem map_renL_some (l : List (List X)) : l.map (X.renL some) = l := by
  induction l with
  | nil => rfl
  | cons x l ih => rw [List.map_cons, ih, X.renL_some]

theorem Sim.step1 {ti : TypeId → TyI} {c : Ctx} {s : St} {ts : List (Array Value)} {g g' : Gh} {w w' : World} {M : List Reg} (hs : Sim ti c s ts g w) (m : Mor some g w g' w')
    (nr : g'.nr = M.length) (im : ∀ b, g'.im b → b < w'.heap.size ∧ g'.own b = none) (own : ∀ b r, g'.own b = some r → b < w'.heap.size ∧ r < g'.nr)
    (reg : ∀ r, r < g'.nr → RegOk ti g' w' r (M.getD r .dead)) (fm : Fm c g' w') : Sim ti c ⟨s.fr, M⟩ ts g' w' := by
  have := hs.step m nr im own reg fm
  rwa [map_renL_some] at this

theorem Mor.refl (g : Gh) (w : World) : Mor some g w g w := ⟨fun _ h => ⟨h, rfl⟩, fun r r' hn h => by cases h; exact ⟨hn, rfl, rfl, rfl⟩⟩

/-- A slot is turned. -/
theorem Sim.put {ti : TypeId → TyI} {c : Ctx} {s : St} {t : Array Value} {ts : List (Array Value)} {g : Gh} {w : World} (hs : Sim ti c s (t :: ts) g w) {x : X} {v : Value} (hx : RX ti g w x v) (dst : Option Nat) :
    Sim ti c (s.put dst x) ((Act.put ⟨t, []⟩ dst v).tmps :: ts) g w := by
  cases dst with
  | none => exact hs
  | some d =>
    obtain ⟨fr, m⟩ := s
    cases fr with
    | nil => have := hs.nf; simp at this
    | cons xs fr =>
      refine ⟨hs.nr, hs.im, hs.own, hs.reg, by have := hs.nf; simpa [St.put, St.cur] using this, fun k hk => ?_, hs.fm⟩
      cases k with
      | zero =>
        have h0 := hs.fr 0 (by simp)
        simp only [List.getD_cons_zero] at h0
        refine ⟨by simpa [St.put, St.cur, Act.put] using h0.size, fun i => ?_⟩
        have h1 := h0.get i
        simp only [St.put, St.cur, Act.put, List.headD_cons, List.getD_cons_zero]
        by_cases hd : d = i
        · subst hd
          by_cases hl : d < xs.length
          · have hl' : d < t.size := by rw [h0.size]; exact hl
            simpa [hl, hl'] using hx
          · have hl' : ¬ d < t.size := by rw [h0.size]; exact hl
            simp only [List.getD_eq_getElem?_getD, List.getElem?_set]
            simp [hl]
            exact .un
        · simpa [List.getD_eq_getElem?_getD, List.getElem?_set, hd, Array.getD_eq_getD_getElem?, Array.getElem?_setIfInBounds] using h1
      | succ k =>
        have h1 := hs.fr (k + 1) (by simpa [St.put] using hk)
        simpa [St.put] using h1

theorem Sim.slot {ti : TypeId → TyI} {c : Ctx} {s : St} {t : Array Value} {ts : List (Array Value)} {g : Gh} {w : World} (hs : Sim ti c s (t :: ts) g w) (i : Nat) : RX ti g w (s.cur.getD i .un) (t.getD i undef) := by
  obtain ⟨fr, m⟩ := s
  cases fr with
  | nil => have := hs.nf; simp at this
  | cons xs fr =>
    have h0 := hs.fr 0 (by simp)
    simpa [St.cur] using h0.get i

theorem constX_ok (ti : TypeId → TyI) (g : Gh) (w : World) (v : Value) : RX ti g w (constX v) v := by
  unfold constX
  split
  · split
    · rename_i h
      exact .t (.int (τ := .i _) h.1 h.2)
    · exact .un
  · exact .t (.bool (τ := .b _))
  · exact .t (.str (τ := .s _) rfl)
  · exact .nil
  · rename_i vs
    split
    · rename_i h
      exact .tup (by simpa using h) (fun i hi => by simp at hi)
    · exact .un
  · exact .un

theorem Sim.opx {ti : TypeId → TyI} {c : Ctx} {s : St} {a : Act} {ts : List (Array Value)} {g : Gh} {w : World} (hs : Sim ti c s (a.tmps :: ts) g w) (o : Operand) : RX ti g w (opx s o) (a.eval o) := by
  cases o with
  | tmp t => exact hs.slot t
  | const v => exact constX_ok ti g w v
  | global _ => exact .un
  | func f => exact .fn rfl (fun i hi => by simp at hi)

end Go.KX
/- Memory: new blocks, cells written, what the types say. -/
namespace Go.KX
open Go.RowKit

def Lt.zv : Lt → Value
  | .int k => .int k 0
  | .bool => .bool false
  | .str => .string .empty
  | .slice _ => .slice none 0 0
  | .ptr => .pointer none
  | .fn => .nilFunc
  | .box _ => .pointer none
  | .fnc _ => .nilFunc

def dOk (ti : TypeId → TyI) (i : TyI) (d : TypeDesc) : Prop :=
  match i.d with
  | .leaf => i.agg = false ∧ ((∃ k, i.lv = [.int k] ∧ d = .int k) ∨ (i.lv = [.bool] ∧ d = .bool) ∨ (i.lv = [.str] ∧ d = .string))
  | .slice e => i.agg = false ∧ i.lv = [.slice e] ∧ d = .slice e ∧ (ti e).ok = true
  | .struct fs => i.agg = true ∧ ∃ fields : Array Field, d = .struct fields ∧ fields.toList.map (fun f => (f.type, f.offset)) = fs ∧ ∀ p ∈ fs, (ti p.1).ok = true
  | .array n e => i.agg = true ∧ d = .array n e ∧ (ti e).ok = true
  | .other => i.agg = false ∧ (i.lv = [.ptr] ∨ i.lv = [.fn]) ∧ (match d with | .struct _ => False | .array _ _ => False | _ => True)

/-- A struct of ints and bools that '==' may meet. -/
def CmpOk (P : Program) (ti : TypeId → TyI) (t : TypeId) : Prop :=
  P.stoodInHeld t = false ∧ P.eqGuardType P.depth t = false ∧ ∃ fields : Array Field, P.underlying t = some (.struct fields) ∧ (∀ (i : Nat) (f : Field), fields.toList[i]? = some f → f.name ≠ "_" ∧ f.offset = i ∧ (ti f.type).ok = true ∧ (ti f.type).d = .leaf ∧ (ti f.type).lv = [(ti t).lv.getD i .fn]) ∧
    fields.toList.length = (ti t).lv.length

structure TyFacts (P : Program) (ti : TypeId → TyI) (t : TypeId) : Prop where
  info : ∃ i, P.info? t = some i ∧ i.size = (ti t).size ∧ i.bytes = (ti t).bytes ∧ ∃ z, i.zero = some z ∧ z.cells.toList = (ti t).lv.map Lt.zv
  und : ∃ d, P.underlying t = some d ∧ dOk ti (ti t) d
  cmp : (ti t).cmp = true → CmpOk P ti t

def TabOk (P : Program) (ti : TypeId → TyI) : Prop := ∀ t, (ti t).ok = true → TyFacts P ti t

section
variable {P : Program} {ti : TypeId → TyI} (H : TabOk P ti)
include H

theorem run_sizeOf {t : TypeId} (h : (ti t).ok = true) (w : World) : (sizeOf t).run P w = .ok (ti t).size w := by
  obtain ⟨i, h1, h2, h3, _⟩ := (H t h).info
  simp [sizeOf, typeInfo, h1, h2]

theorem run_typeInfo {t : TypeId} (h : (ti t).ok = true) (w : World) : ∃ i, (typeInfo t).run P w = .ok i w ∧ i.bytes = (ti t).bytes ∧ i.size = (ti t).size ∧ ∃ z, i.zero = some z ∧ z.cells.toList = (ti t).lv.map Lt.zv := by
  obtain ⟨i, h1, h2, h3, h4⟩ := (H t h).info
  exact ⟨i, by simp [typeInfo, h1], h3, h2, h4⟩

theorem run_zeroValue {t : TypeId} (h : (ti t).ok = true) (w : World) : ∃ z, (zeroValue t).run P w = .ok z w ∧ z.cells.toList = (ti t).lv.map Lt.zv := by
  obtain ⟨i, h1, h2, h3, z, h4, h5⟩ := (H t h).info
  exact ⟨z, by simp [zeroValue, typeInfo, h1, h4], h5⟩

theorem run_isAgg {t : TypeId} (h : (ti t).ok = true) (w : World) : (isAgg t).run P w = .ok (ti t).agg w := by
  obtain ⟨d, h1, h2⟩ := (H t h).und
  unfold dOk at h2
  simp only [isAgg, Go.underlying, Sem.run_bind, run_program, Result.andThen_ok, h1, Sem.run_pure]
  split at h2
  · obtain ⟨ha, h2⟩ := h2
    rcases h2 with ⟨k, _, rfl⟩ | ⟨_, rfl⟩ | ⟨_, rfl⟩ <;> simp [ha]
  · obtain ⟨ha, _, rfl, _⟩ := h2; simp [ha]
  · obtain ⟨ha, fs, rfl, _⟩ := h2; simp [ha]
  · obtain ⟨ha, rfl, _⟩ := h2; simp [ha]
  · obtain ⟨ha, _, h2⟩ := h2
    cases d <;> simp_all

theorem und_slice {t e : TypeId} (h : (ti t).ok = true) (hd : (ti t).d = .slice e) : P.underlying t = some (.slice e) ∧ (ti e).ok = true ∧ (ti t).agg = false ∧ (ti t).lv = [.slice e] := by
  obtain ⟨d, h1, h2⟩ := (H t h).und
  unfold dOk at h2
  rw [hd] at h2
  obtain ⟨h3, h4, rfl, h5⟩ := h2
  exact ⟨h1, h5, h3, h4⟩
end

theorem run_und {P : Program} {t : TypeId} {d : TypeDesc} (h : P.underlying t = some d) (w : World) : (Go.underlying t).run P w = .ok d w := by
  simp [Go.underlying, h]

/-- A region is added: block b (base o), room cap, len elements. -/
def Gh.add (g : Gh) (b o cap len : Nat) : Gh :=
  { own := fun b' => if b' = b then some g.nr else g.own b'
    im := g.im
    loc := fun r => if r = g.nr then (b, o) else g.loc r
    cap := fun r => if r = g.nr then cap else g.cap r
    len := fun r => if r = g.nr then len else g.len r
    nr := g.nr + 1 }

theorem Fm.alloc {c : Ctx} {g g' : Gh} {w : World} (h : Fm c g w) (o : Obj) (him : g'.im = g.im) (hown : ∀ b, b < w.heap.size → g'.own b = g.own b) : Fm c g' (w.alloc o) where
  os := h.os
  tape := h.tape
  output := h.output
  size := by have := h.size; simp; omega
  old := fun b hb hn => by
    obtain ⟨h1, h2, h3⟩ := h.old b hb hn
    have := h.size
    exact ⟨by rw [Below.heap_alloc w o b (by omega)]; exact h1, by rw [hown b (by omega)]; exact h2, by rw [him]; exact h3⟩

theorem alloc_last (w : World) (o : Obj) : (w.alloc o).heap[w.heap.size]? = some o := by
  show (w.heap.push o)[w.heap.size]? = some o
  simp

theorem Mor.add {ti : TypeId → TyI} {c : Ctx} {s : St} {ts : List (Array Value)} {g : Gh} {w : World} (hs : Sim ti c s ts g w) (b o cap len : Nat) (ob : Obj) : Mor some g w (g.add b o cap len) (w.alloc ob) where
  im := fun b' hb => ⟨hb, Below.heap_alloc w ob b' (hs.im b' hb).1⟩
  reg := fun r r' hn h => by
    cases h
    have hne : r ≠ g.nr := Nat.ne_of_lt hn
    simp only [Gh.add, if_neg hne]
    exact ⟨by omega, trivial, trivial, trivial⟩

theorem getD_snoc_lt {α : Type} (l : List α) (x d : α) {r : Nat} (h : r < l.length) : (l ++ [x]).getD r d = l.getD r d := by
  simp [List.getElem?_append_left h]
theorem getD_snoc_eq {α : Type} (l : List α) (x d : α) : (l ++ [x]).getD l.length d = x := by
  simp

/-- A new block that a new region stands for. -/
theorem Sim.addR {ti : TypeId → TyI} {c : Ctx} {s : St} {ts : List (Array Value)} {g : Gh} {w : World} (hs : Sim ti c s ts g w) {R : Reg} {vs : Array Value} {te : TypeId} {cap len : Nat}
    (hR : Mor some g w (g.add w.heap.size 0 cap len) (w.alloc (.cells vs te (0, 0))) → RegOk ti (g.add w.heap.size 0 cap len) (w.alloc (.cells vs te (0, 0))) g.nr R) :
    Sim ti c (s.new R) ts (g.add w.heap.size 0 cap len) (w.alloc (.cells vs te (0, 0))) := by
  have m := Mor.add hs w.heap.size 0 cap len (.cells vs te (0, 0))
  refine hs.step1 m (by simp [Gh.add, hs.nr]) (fun b hb => ?_) (fun b r hb => ?_) (fun r hr => ?_) (hs.fm.alloc _ rfl (fun b hb => by simp [Gh.add, Nat.ne_of_lt hb]))
  · obtain ⟨h1, h2⟩ := hs.im b hb
    refine ⟨by simp; omega, ?_⟩
    simp only [Gh.add, if_neg (Nat.ne_of_lt h1)]
    exact h2
  · simp only [Gh.add] at hb ⊢
    by_cases hbn : b = w.heap.size
    · subst hbn
      simp at hb
      subst hb
      simp
    · rw [if_neg hbn] at hb
      have := hs.own b r hb
      simp
      omega
  · have hr' : r < g.nr + 1 := hr
    by_cases hrn : r = g.nr
    · subst hrn
      rw [hs.nr, getD_snoc_eq, ← hs.nr]
      exact hR m
    · have hlt : r < g.nr := by omega
      rw [getD_snoc_lt _ _ _ (by rw [← hs.nr]; exact hlt)]
      refine RegOk.mor1 m hlt (fun b hb => ?_) (hs.reg r hlt)
      have hbl := (hs.own b r hb).1
      exact ⟨by simp only [Gh.add, if_neg (Nat.ne_of_lt hbl)]; exact hb, Below.heap_alloc _ _ _ hbl⟩

theorem Sim.newBox {ti : TypeId → TyI} {c : Ctx} {s : St} {ts : List (Array Value)} {g : Gh} {w : World} (hs : Sim ti c s ts g w) {xs : List X} {vs : Array Value} (te : TypeId) (hv : vs.size = xs.length)
    (hx : ∀ j, j < xs.length → RX ti g w (xs.getD j .un) (vs.getD j undef)) :
    ∃ g', Sim ti c (s.new (.box xs)) ts g' (w.alloc (.cells vs te (0, 0))) ∧ RX ti g' (w.alloc (.cells vs te (0, 0))) (.pb s.m.length 0) (.pointer (some ⟨w.heap.size, 0, none⟩)) ∧
      Mor some g w g' (w.alloc (.cells vs te (0, 0))) := by
  refine ⟨g.add w.heap.size 0 0 0, hs.addR fun m => ?_, ?_, Mor.add hs _ _ _ _ _⟩
  · refine .box (c := vs) (te := te) (by simp [Gh.add]) (by simp only [Gh.add, if_true]; exact alloc_last w _) (by simp [Gh.add, hv]) (fun j hj => ?_)
    simp only [Gh.add, if_true, Nat.zero_add]
    exact (hx j hj).mor1 m
  · have := RX.pb (ti := ti) (g := g.add w.heap.size 0 0 0) (w := w.alloc (.cells vs te (0, 0))) (r := s.m.length) (off := 0) (by simp [Gh.add, hs.nr])
    simpa [Gh.add, hs.nr] using this

theorem Sim.newArr {ti : TypeId → TyI} {c : Ctx} {s : St} {ts : List (Array Value)} {g : Gh} {w : World} (hs : Sim ti c s ts g w) {e : TypeId} {xs : List T} {vs : Array Value} (te : TypeId) {cap : Nat} (hc : xs.length ≤ cap)
    (hn : xs.length < maxN) (hv : cap * (ti e).size ≤ vs.size)
    (hx : ∀ i j, i < xs.length → j < (ti e).size → RL ti g.im w ((ti e).lv.getD j .fn) ((ti e).leaf (xs.getD i (.i 0)) j) (vs.getD (i * (ti e).size + j) undef)) :
    ∃ g', Sim ti c (s.new (.arr e xs)) ts g' (w.alloc (.cells vs te (0, 0))) ∧ RX ti g' (w.alloc (.cells vs te (0, 0))) (.own e s.m.length) (.slice (some ⟨w.heap.size, 0, none⟩) xs.length cap) ∧
      Mor some g w g' (w.alloc (.cells vs te (0, 0))) := by
  refine ⟨g.add w.heap.size 0 cap xs.length, hs.addR fun m => ?_, ?_, Mor.add hs _ _ _ _ _⟩
  · refine .arr (by simp [Gh.add]) (by simpa [Gh.add] using hc) hn (fun hp => ⟨vs, te, by simp [Gh.add], by simp only [Gh.add, if_true]; exact alloc_last w _, by simpa [Gh.add] using hv, fun i j hi hj => ?_⟩)
    simp only [Gh.add, if_true, Nat.zero_add]
    exact (hx i j hi hj).mono m.im
  · have := RX.own (ti := ti) (g := g.add w.heap.size 0 cap xs.length) (w := w.alloc (.cells vs te (0, 0))) (e := e) (r := s.m.length) (A := some ⟨w.heap.size, 0, none⟩) (by simp [Gh.add, hs.nr]) (by simp [Gh.addr, Gh.add, hs.nr])
    simpa [Gh.add, hs.nr] using this

/-- A region for a slice without room: no memory. -/
def Gh.add0 (g : Gh) : Gh :=
  { own := g.own, im := g.im, loc := g.loc, cap := fun r => if r = g.nr then 0 else g.cap r, len := fun r => if r = g.nr then 0 else g.len r, nr := g.nr + 1 }

theorem Sim.newArr0 {ti : TypeId → TyI} {c : Ctx} {s : St} {ts : List (Array Value)} {g : Gh} {w : World} (hs : Sim ti c s ts g w) (e : TypeId) (A : Option Addr) :
    ∃ g', Sim ti c (s.new (.arr e [])) ts g' w ∧ RX ti g' w (.own e s.m.length) (.slice A 0 0) ∧ Mor some g w g' w := by
  have m : Mor some g w g.add0 w := ⟨fun b hb => ⟨hb, rfl⟩, fun r r' hn h => by
    cases h
    have hne : r ≠ g.nr := Nat.ne_of_lt hn
    simp only [Gh.add0, if_neg hne]
    exact ⟨by omega, trivial, trivial, trivial⟩⟩
  refine ⟨g.add0, hs.step1 m (by simp [Gh.add0, hs.nr]) hs.im (fun b r hb => ?_) (fun r hr => ?_) ⟨hs.fm.os, hs.fm.tape, hs.fm.output, hs.fm.size, hs.fm.old⟩, ?_, m⟩
  · have := hs.own b r hb
    simp only [Gh.add0]; omega
  · have hr' : r < g.nr + 1 := hr
    by_cases hrn : r = g.nr
    · subst hrn
      rw [hs.nr, getD_snoc_eq, ← hs.nr]
      exact .arr (by simp [Gh.add0]) (by simp) (by decide) (fun hp => by simp [Gh.add0] at hp)
    · have hlt : r < g.nr := by omega
      rw [getD_snoc_lt _ _ _ (by rw [← hs.nr]; exact hlt)]
      exact RegOk.mor1 m hlt (fun b hb => ⟨hb, rfl⟩) (hs.reg r hlt)
  · have := RX.own (ti := ti) (g := g.add0) (w := w) (e := e) (r := s.m.length) (A := A) (by simp [Gh.add0, hs.nr]) (by simp [Gh.addr, Gh.add0, hs.nr])
    simpa [Gh.add0, hs.nr] using this

end Go.KX
/- A region is written, made anew, frozen, let go. -/
namespace Go.KX
open Go.RowKit

theorem killρ_ne {r q : Nat} (h : q ≠ r) : killρ r q = some q := by simp [killρ, h]
theorem killρ_eq (r : Nat) : killρ r r = none := by simp [killρ]

theorem getD_set_eq {l : List Reg} {r : Nat} (R d : Reg) (h : r < l.length) : (l.set r R).getD r d = R := by
  simp [h]
theorem getD_set_ne' {l : List Reg} {r q : Nat} (R d : Reg) (h : q ≠ r) : (l.set r R).getD q d = l.getD q d := by
  simp [List.getElem?_set_ne (Ne.symm h)]
theorem getD_map_reg (f : Reg → Reg) (hf : f .dead = .dead) (l : List Reg) (q : Nat) : (l.map f).getD q .dead = f (l.getD q .dead) := by
  rcases Nat.lt_or_ge q l.length with h | h
  · simp [h]
  · simp [List.getElem?_eq_none h, hf]

theorem Sim.upd {ti : TypeId → TyI} {c : Ctx} {s : St} {ts : List (Array Value)} {g g' : Gh} {w w' : World} (hs : Sim ti c s ts g w) {ρ : Nat → Option Nat} {r : Nat} {R : Reg} (hr : r < g.nr) (m : Mor ρ g w g' w')
    (hρ : ∀ q, q ≠ r → ρ q = some q) (nr : g'.nr = g.nr) (im : ∀ b, g'.im b → b < w'.heap.size ∧ g'.own b = none) (own : ∀ b q, g'.own b = some q → b < w'.heap.size ∧ q < g'.nr)
    (ho : ∀ q b, q ≠ r → g.own b = some q → g'.own b = some q ∧ w'.heap[b]? = w.heap[b]?) (hR : RegOk ti g' w' r R) (fm : Fm c g' w') :
    Sim ti c ((s.ren ρ).setR r R) ts g' w' := by
  refine hs.step m (by simp [St.ren, nr, hs.nr]) im own (fun q hq => ?_) fm
  by_cases h : q = r
  · subst h
    rw [getD_set_eq _ _ (by simpa [St.ren, ← hs.nr] using hr)]
    exact hR
  · rw [getD_set_ne' _ _ h]
    have hq' : q < g.nr := by rw [← nr]; exact hq
    simp only [St.ren]
    rw [getD_map_reg _ rfl]
    exact (hs.reg q hq').mor m (hρ q h) hq' (fun b hb => ho q b h hb)

theorem St.ren_some (s : St) : s.ren some = s := by
  obtain ⟨fr, m⟩ := s
  simp only [St.ren, map_renL_some]
  congr
  induction m with
  | nil => rfl
  | cons R m ih => rw [List.map_cons, ih]; cases R <;> simp [Reg.ren, X.renL_some]

theorem setRow_size (w : World) (b : Nat) (c : Array Value) : (w.setRow b c).heap.size = w.heap.size := by simp [World.setRow]

theorem Fm.setRow {c : Ctx} {g g' : Gh} {w : World} (h : Fm c g w) {b r : Nat} (hb : g.own b = some r) (cs : Array Value) (him : g'.im = g.im) (hown : g'.own = g.own) : Fm c g' (w.setRow b cs) where
  os := h.os
  tape := h.tape
  output := h.output
  size := by rw [setRow_size]; exact h.size
  old := fun k hk hn => by
    obtain ⟨h1, h2, h3⟩ := h.old k hk hn
    have : k ≠ b := fun e => by subst e; rw [h2] at hb; cases hb
    rw [setRow_other _ _ _ _ this, him, hown]
    exact ⟨h1, h2, h3⟩

/-- In place: the region's block gets other cells; the ghost stays. -/
theorem Sim.write {ti : TypeId → TyI} {c : Ctx} {s : St} {ts : List (Array Value)} {g : Gh} {w : World} (hs : Sim ti c s ts g w) {r b : Nat} {R : Reg} (hr : r < g.nr) (hb : g.own b = some r) (cs : Array Value)
    (hR : Mor some g w g (w.setRow b cs) → RegOk ti g (w.setRow b cs) r R) : Sim ti c (s.setR r R) ts g (w.setRow b cs) ∧ Mor some g w g (w.setRow b cs) := by
  have hne : ∀ b', g.im b' → b' ≠ b := fun b' h e => by subst e; rw [(hs.im b' h).2] at hb; cases hb
  have m : Mor some g w g (w.setRow b cs) := ⟨fun b' h => ⟨h, setRow_other _ _ _ _ (hne b' h)⟩, fun q q' hn h => by cases h; exact ⟨hn, rfl, rfl, rfl⟩⟩
  have := hs.upd hr m (fun _ _ => rfl) rfl (fun b' h => by rw [setRow_size]; exact hs.im b' h) (fun b' q h => by rw [setRow_size]; exact hs.own b' q h)
    (fun q b' hq h => ⟨h, setRow_other _ _ _ _ (fun e => by subst e; rw [hb] at h; cases h; exact hq rfl)⟩) (hR m) (hs.fm.setRow hb cs rfl rfl)
  rw [St.ren_some] at this
  exact ⟨this, m⟩

/-- In place, and the length turns: nobody else holds a slice of it. -/
def Gh.setLen (g : Gh) (r n : Nat) : Gh := { g with len := fun q => if q = r then n else g.len q }

theorem Mor.setLen {g : Gh} {w w' : World} {r n : Nat} (h : ∀ b, g.im b → w'.heap[b]? = w.heap[b]?) : Mor (killρ r) g w (g.setLen r n) w' where
  im := fun b hb => ⟨hb, h b hb⟩
  reg := fun q q' hn hq => by
    by_cases e : q = r
    · subst e; rw [killρ_eq] at hq; cases hq
    · rw [killρ_ne e] at hq; cases hq
      simp only [Gh.setLen, if_neg e]
      exact ⟨hn, trivial, trivial, trivial⟩

theorem Sim.writeLen {ti : TypeId → TyI} {c : Ctx} {s : St} {ts : List (Array Value)} {g : Gh} {w : World} (hs : Sim ti c s ts g w) {r b : Nat} {R : Reg} (n : Nat) (hr : r < g.nr) (hb : g.own b = some r) (cs : Array Value)
    (hR : Mor (killρ r) g w (g.setLen r n) (w.setRow b cs) → RegOk ti (g.setLen r n) (w.setRow b cs) r R) :
    Sim ti c ((s.kill r).setR r R) ts (g.setLen r n) (w.setRow b cs) ∧ Mor (killρ r) g w (g.setLen r n) (w.setRow b cs) := by
  have hne : ∀ b', g.im b' → b' ≠ b := fun b' h e => by subst e; rw [(hs.im b' h).2] at hb; cases hb
  have m : Mor (killρ r) g w (g.setLen r n) (w.setRow b cs) := Mor.setLen fun b' h => setRow_other _ _ _ _ (hne b' h)
  exact ⟨hs.upd hr m (fun q hq => killρ_ne hq) rfl (fun b' h => by rw [setRow_size]; exact hs.im b' h) (fun b' q h => by rw [setRow_size]; exact hs.own b' q h)
    (fun q b' hq h => ⟨h, setRow_other _ _ _ _ (fun e => by subst e; rw [hb] at h; cases h; exact hq rfl)⟩) (hR m) (hs.fm.setRow hb cs rfl rfl), m⟩

/-- Without a turn of memory: the region's list is cut. -/
theorem Sim.relen {ti : TypeId → TyI} {c : Ctx} {s : St} {ts : List (Array Value)} {g : Gh} {w : World} (hs : Sim ti c s ts g w) {r : Nat} {R : Reg} (n : Nat) (hr : r < g.nr)
    (hR : Mor (killρ r) g w (g.setLen r n) w → RegOk ti (g.setLen r n) w r R) : Sim ti c ((s.kill r).setR r R) ts (g.setLen r n) w ∧ Mor (killρ r) g w (g.setLen r n) w := by
  have m : Mor (killρ r) g w (g.setLen r n) w := Mor.setLen fun b' h => rfl
  exact ⟨hs.upd hr m (fun q hq => killρ_ne hq) rfl hs.im hs.own (fun q b' hq h => ⟨h, rfl⟩) (hR m) ⟨hs.fm.os, hs.fm.tape, hs.fm.output, hs.fm.size, hs.fm.old⟩, m⟩

/-- A region moves to a new block: the old one is let go. -/
def Gh.move (g : Gh) (r b cap n : Nat) : Gh :=
  { own := fun b' => if b' = b then some r else if g.own b' = some r then none else g.own b'
    im := g.im
    loc := fun q => if q = r then (b, 0) else g.loc q
    cap := fun q => if q = r then cap else g.cap q
    len := fun q => if q = r then n else g.len q
    nr := g.nr }

theorem Sim.move {ti : TypeId → TyI} {c : Ctx} {s : St} {ts : List (Array Value)} {g : Gh} {w : World} (hs : Sim ti c s ts g w) {r cap n : Nat} {R : Reg} (hr : r < g.nr) (vs : Array Value) (te : TypeId)
    (hR : Mor (killρ r) g w (g.move r w.heap.size cap n) (w.alloc (.cells vs te (0, 0))) → RegOk ti (g.move r w.heap.size cap n) (w.alloc (.cells vs te (0, 0))) r R) :
    Sim ti c ((s.kill r).setR r R) ts (g.move r w.heap.size cap n) (w.alloc (.cells vs te (0, 0))) ∧ Mor (killρ r) g w (g.move r w.heap.size cap n) (w.alloc (.cells vs te (0, 0))) := by
  have m : Mor (killρ r) g w (g.move r w.heap.size cap n) (w.alloc (.cells vs te (0, 0))) := by
    refine ⟨fun b h => ⟨h, Below.heap_alloc _ _ _ (hs.im b h).1⟩, fun q q' hn hq => ?_⟩
    by_cases e : q = r
    · subst e; rw [killρ_eq] at hq; cases hq
    · rw [killρ_ne e] at hq; cases hq
      simp only [Gh.move, if_neg e]
      exact ⟨hn, trivial, trivial, trivial⟩
  refine ⟨hs.upd hr m (fun q hq => killρ_ne hq) rfl (fun b h => ?_) (fun b q h => ?_) (fun q b hq h => ?_) (hR m) ⟨hs.fm.os, hs.fm.tape, hs.fm.output, ?_, fun b hb hn => ?_⟩, m⟩
  · obtain ⟨h1, h2⟩ := hs.im b h
    refine ⟨by simp; omega, ?_⟩
    simp only [Gh.move, if_neg (Nat.ne_of_lt h1), h2]
    simp
  · simp only [Gh.move] at h ⊢
    by_cases hb : b = w.heap.size
    · subst hb
      simp at h
      subst h
      simp [hr]
    · rw [if_neg hb] at h
      split at h
      · cases h
      · have := hs.own b q h
        simp
        omega
  · have h1 := (hs.own b q h).1
    refine ⟨?_, Below.heap_alloc _ _ _ h1⟩
    have h2 : g.own b ≠ some r := fun e => hq (by rw [h] at e; cases e; rfl)
    simp only [Gh.move, if_neg (Nat.ne_of_lt h1), if_neg h2]
    exact h
  · have := hs.fm.size; simp; omega
  · obtain ⟨h1, h2, h3⟩ := hs.fm.old b hb hn
    have hlt : b < w.heap.size := by have := hs.fm.size; omega
    refine ⟨by rw [Below.heap_alloc _ _ _ hlt]; exact h1, ?_, h3⟩
    simp only [Gh.move, if_neg (Nat.ne_of_lt hlt), h2]
    simp

/-- A region is frozen: its block may be read from now on, and is written no more. -/
def Gh.frz (g : Gh) (r : Nat) : Gh :=
  { g with own := fun b => if g.own b = some r then none else g.own b, im := fun b => g.im b ∨ g.own b = some r }

theorem RL.frz {ti : TypeId → TyI} {g : Gh} {w : World} {r : Nat} {l : Lt} {τ : T} {v : Value} (h : RL ti g.im w l τ v) : RL ti (g.frz r).im w l τ v :=
  h.mono fun _ hb => ⟨.inl hb, rfl⟩

/-- What a slice of the region reads as. -/
theorem RegOk.slice {ti : TypeId → TyI} {g : Gh} {w : World} {r : Nat} {e : TypeId} {xs : List T} (h : RegOk ti g w r (.arr e xs)) {im : Nat → Prop} (him : ∀ b, g.im b → im b) (hown : ∀ b, g.own b = some r → im b)
    {off len : Nat} {A : Option Addr} (ha : g.addr r off (ti e).size A) (hl : off + len ≤ g.len r) : RL ti im w (.slice e) (.l ((xs.drop off).take len)) (.slice A len (g.cap r - off)) := by
  cases h with
  | arr h1 h2 h3 hm =>
    by_cases hz : len = 0
    · subst hz
      exact .empty (by simp [T.L])
    · have hp : off < g.cap r := by omega
      obtain ⟨c, te, a1, a2, a3, a4⟩ := hm (by omega)
      rw [ha hp]
      have hlen : ((xs.drop off).take len).length = len := by simp; omega
      have := RL.slice (ti := ti) (im := im) (w := w) (e := e) (τ := .l ((xs.drop off).take len)) (b := (g.loc r).1) (o := (g.loc r).2 + off * (ti e).size) (c := g.cap r - off)
        (fun i j => c.getD ((g.loc r).2 + (off + i) * (ti e).size + j) undef) (hown _ a1) (by simp only [T.L, hlen]; omega) (by simp only [T.L, hlen]; omega)
        (fun i j hi hj => ?_) (fun i j hi hj => ?_)
      · simpa only [T.L, hlen] using this
      · simp only [T.L, hlen] at hi
        have hsz : (off + i) * (ti e).size + j < g.cap r * (ti e).size := by
          have : (off + i + 1) * (ti e).size ≤ g.cap r * (ti e).size := Nat.mul_le_mul_right _ (by omega)
          rw [Nat.add_mul, Nat.one_mul] at this
          omega
        have hc : (g.loc r).2 + off * (ti e).size + i * (ti e).size + j = (g.loc r).2 + (off + i) * (ti e).size + j := by rw [Nat.add_mul]; omega
        simp only [World.cell?, a2, hc]
        have : (g.loc r).2 + (off + i) * (ti e).size + j < c.size := by omega
        simp [this]
      · simp only [T.L, hlen] at hi ⊢
        have hi' : off + i < xs.length := by omega
        have hg : ((xs.drop off).take len).getD i (.i 0) = xs.getD (off + i) (.i 0) := by
          simp [hi, hi']
        rw [hg]
        exact (a4 (off + i) j hi' hj).mono fun b hb => ⟨him b hb, rfl⟩

end Go.KX
/- Freezing: slices of the call's own become trees. -/
namespace Go.KX
open Go.RowKit

theorem X.fzL_eq (r : Nat) (e : TypeId) (xs : List T) (ys : List X) : X.fzL r e xs ys = ys.map (X.fz r e xs) := by
  induction ys with
  | nil => simp [X.fzL]
  | cons y ys ih => simp [X.fzL, ih]

theorem getD_map_fz (r : Nat) (e : TypeId) (xs : List T) (ys : List X) (i : Nat) : (ys.map (X.fz r e xs)).getD i .un = (ys.getD i .un).fz r e xs := by
  rcases Nat.lt_or_ge i ys.length with h | h
  · simp [h]
  · simp [List.getElem?_eq_none h, X.fz]

theorem RX.fz {ti : TypeId → TyI} {g : Gh} {w : World} {r : Nat} {e : TypeId} {xs : List T} (hr : RegOk ti g w r (.arr e xs)) {x : X} {v : Value} (h : RX ti g w x v) : RX ti (g.frz r) w (x.fz r e xs) v := by
  induction h with
  | un => exact .un
  | t h => exact .t h.frz
  | agg hs _ ih =>
    rw [X.fz, X.fzL_eq]
    exact .agg (by simpa using hs) (fun i hi => by rw [getD_map_fz]; exact ih i (by simpa using hi))
  | tup hs _ ih =>
    rw [X.fz, X.fzL_eq]
    exact .tup (by simpa using hs) (fun i hi => by rw [getD_map_fz]; exact ih i (by simpa using hi))
  | nil => exact .nil
  | @own e' r' A hn h =>
    simp only [X.fz]
    split
    · rename_i hq
      subst hq
      split
      · rename_i he
        subst he
        have hl : g.len r' = xs.length := by cases hr; assumption
        have := hr.slice (im := (g.frz r').im) (fun b hb => .inl hb) (fun b hb => .inr hb) (off := 0) (len := g.len r') h (by omega)
        simp only [List.drop_zero, hl, List.take_length, Nat.sub_zero] at this
        rw [hl]
        exact .t this
      · exact .un
    · exact .own hn h
  | @ref e' r' off len A hn h hl =>
    simp only [X.fz]
    split
    · rename_i hq
      subst hq
      split
      · rename_i he
        subst he
        exact .t (hr.slice (im := (g.frz r').im) (fun b hb => .inl hb) (fun b hb => .inr hb) h hl)
      · exact .un
    · exact .ref hn h hl
  | @pb r' off hn =>
    simp only [X.fz]
    split
    · exact .un
    · exact .pb hn
  | @pa e' r' idx off hn h =>
    simp only [X.fz]
    split
    · rename_i hq
      subst hq
      split
      · rename_i he
        subst he
        cases hr with
        | arr h1 h2 h3 hm =>
          obtain ⟨c, te, a1, a2, a3, a4⟩ := hm (by omega)
          refine .pt (fun j => c.getD ((g.loc r').2 + idx * (ti e').size + j) undef) (.inr a1) (fun j hj => ?_) (fun j hj => (a4 idx j (by omega) hj).frz)
          have : (idx + 1) * (ti e').size ≤ g.cap r' * (ti e').size := Nat.mul_le_mul_right _ (by omega)
          rw [Nat.add_mul, Nat.one_mul] at this
          have hlt : (g.loc r').2 + idx * (ti e').size + j < c.size := by omega
          simp [World.cell?, a2, hlt]
      · exact .un
    · exact .pa hn h
  | pt cs hb hcell hr' => exact .pt cs (.inl hb) hcell (fun j hj => (hr' j hj).frz)
  | fn hs _ ih =>
    rw [X.fz, X.fzL_eq]
    exact .fn (by simpa using hs) (fun i hi => by rw [getD_map_fz]; exact ih i (by simpa using hi))

theorem RegOk.fz {ti : TypeId → TyI} {g : Gh} {w : World} {r : Nat} {e : TypeId} {xs : List T} (hr : RegOk ti g w r (.arr e xs)) {q : Nat} {R : Reg} (hq : q ≠ r) (h : RegOk ti g w q R) :
    RegOk ti (g.frz r) w q (R.fz r e xs) := by
  have hne : ∀ b, g.own b = some q → (g.frz r).own b = some q := fun b hb => by
    have : g.own b ≠ some r := fun e => by rw [hb] at e; cases e; exact hq rfl
    simp only [Gh.frz, if_neg this]
    exact hb
  cases h with
  | box ho hh hs hx =>
    rw [Reg.fz, X.fzL_eq]
    refine .box (hne _ ho) hh (by simpa [Gh.frz] using hs) (fun j hj => ?_)
    rw [getD_map_fz]
    exact (hx j (by simpa using hj)).fz hr
  | arr hl hc hn hm =>
    refine .arr hl hc hn (fun hp => ?_)
    obtain ⟨c, te, a1, a2, a3, a4⟩ := hm hp
    exact ⟨c, te, hne _ a1, a2, a3, fun i j hi hj => (a4 i j hi hj).frz⟩
  | dead => exact .dead

theorem getD_map_fzL (r : Nat) (e : TypeId) (xs : List T) (l : List (List X)) (k : Nat) : (l.map (X.fzL r e xs)).getD k [] = X.fzL r e xs (l.getD k []) := by
  rcases Nat.lt_or_ge k l.length with h | h
  · simp [h]
  · simp [List.getElem?_eq_none h, X.fzL]

theorem Sim.fz {ti : TypeId → TyI} {c : Ctx} {s : St} {ts : List (Array Value)} {g : Gh} {w : World} (hs : Sim ti c s ts g w) {r : Nat} {e : TypeId} {xs : List T} (hr : r < g.nr) (hR : s.reg r = .arr e xs)
    (hf : ∀ b, b < c.w0.heap.size → ¬ c.own0 b → g.own b ≠ some r) : Sim ti c (s.fz r e xs) ts (g.frz r) w := by
  have h0 : RegOk ti g w r (.arr e xs) := hR ▸ hs.reg r hr
  refine ⟨by simp [St.fz, Gh.frz, hs.nr], fun b hb => ?_, fun b q hb => ?_, fun q hq => ?_, by simpa [St.fz] using hs.nf, fun k hk => ?_, ⟨hs.fm.os, hs.fm.tape, hs.fm.output, hs.fm.size, fun b hb hn => ?_⟩⟩
  · rcases hb with hb | hb
    · obtain ⟨h1, h2⟩ := hs.im b hb
      exact ⟨h1, by simp [Gh.frz, h2]⟩
    · exact ⟨(hs.own b r hb).1, by simp [Gh.frz, hb]⟩
  · simp only [Gh.frz] at hb ⊢
    split at hb
    · cases hb
    · exact hs.own b q hb
  · simp only [St.fz, St.reg]
    rw [getD_map_reg _ rfl]
    by_cases h : q = r
    · subst h
      rw [getD_set_eq _ _ (by rw [← hs.nr]; exact hr)]
      exact .dead
    · rw [getD_set_ne' _ _ h]
      exact RegOk.fz h0 h (hs.reg q hq)
  · simp only [St.fz]
    rw [getD_map_fzL, X.fzL_eq]
    have h1 := hs.fr k (by simpa [St.fz] using hk)
    exact ⟨by simpa using h1.size, fun i => by rw [getD_map_fz]; exact (h1.get i).fz h0⟩
  · obtain ⟨h1, h2, h3⟩ := hs.fm.old b hb hn
    refine ⟨h1, by simp [Gh.frz, h2], fun hi => ?_⟩
    rcases hi with hi | hi
    · exact h3 hi
    · exact absurd hi (hf b hb hn)

/-- Nothing of the region's block was there before, unless it may be turned. -/
theorem Sim.fz' {ti : TypeId → TyI} {c : Ctx} {s : St} {ts : List (Array Value)} {g : Gh} {w : World} (hs : Sim ti c s ts g w) {r : Nat} {e : TypeId} {xs : List T} (hr : r < g.nr) (hR : s.reg r = .arr e xs) :
    Sim ti c (s.fz r e xs) ts (g.frz r) w :=
  hs.fz hr hR fun b hb hn h => by
    have := (hs.fm.old b hb hn).2.1
    rw [this] at h
    cases h

theorem snap_ok {ti : TypeId → TyI} {c : Ctx} {s : St} {ts : List (Array Value)} {g : Gh} {w : World} (hs : Sim ti c s ts g w) {l : Lt} {x : X} {v : Value} {τ : T} (hx : RX ti g w x v) (h : x.snap s l = some τ)
    {im : Nat → Prop} (him : ∀ b, g.im b → im b) (hown : ∀ r, x.rid = some r → ∀ b, g.own b = some r → im b) : RL ti im w l τ v := by
  cases hx with
  | un => simp [X.snap] at h
  | t h1 =>
    simp only [X.snap] at h
    split at h
    · rename_i e; subst e; cases h; exact h1.mono fun b hb => ⟨him b hb, rfl⟩
    · cases h
  | agg _ _ => simp [X.snap] at h
  | tup _ _ => simp [X.snap] at h
  | nil =>
    simp only [X.snap] at h
    split at h
    · cases h; exact .empty rfl
    · cases h
  | @own e r A hn ha =>
    simp only [X.snap] at h
    split at h
    · rename_i e1
      subst e1
      split at h
      · rename_i e2 ys heq
        split at h
        · rename_i he
          subst he
          cases h
          have h0 : RegOk ti g w r (.arr e2 ys) := heq ▸ hs.reg r hn
          have hl : g.len r = ys.length := by cases h0; assumption
          have := h0.slice (im := im) him (hown r rfl) (off := 0) (len := g.len r) ha (by omega)
          simp only [List.drop_zero, hl, List.take_length, Nat.sub_zero] at this
          rw [hl]
          exact this
        · cases h
      · cases h
    · cases h
  | @ref e r off len A hn ha hl =>
    simp only [X.snap] at h
    split at h
    · rename_i e1
      subst e1
      split at h
      · rename_i e2 ys heq
        split at h
        · rename_i he
          subst he
          cases h
          have h0 : RegOk ti g w r (.arr e2 ys) := heq ▸ hs.reg r hn
          exact h0.slice (im := im) him (hown r rfl) ha hl
        · cases h
      · cases h
    · cases h
  | pb _ => simp [X.snap] at h
  | @pa e r idx off hn hi =>
    simp only [X.snap] at h
    split at h
    · rename_i e1
      obtain ⟨rfl, rfl⟩ := e1
      split at h
      · rename_i e2 ys heq
        split at h
        · rename_i he
          subst he
          cases h
          have h0 : RegOk ti g w r (.arr e2 ys) := heq ▸ hs.reg r hn
          cases h0 with
          | arr h1 h2 h3 hm =>
            obtain ⟨c, te, a1, a2, a3, a4⟩ := hm (by omega)
            refine .box (fun j => c.getD ((g.loc r).2 + idx * (ti e2).size + j) undef) (hown r rfl _ a1) (fun j hj => ?_) (fun j hj => (a4 idx j (by omega) hj).mono fun b hb => ⟨him b hb, rfl⟩)
            have : (idx + 1) * (ti e2).size ≤ g.cap r * (ti e2).size := Nat.mul_le_mul_right _ (by omega)
            rw [Nat.add_mul, Nat.one_mul] at this
            have hlt : (g.loc r).2 + idx * (ti e2).size + j < c.size := by omega
            simp [World.cell?, a2, hlt]
        · cases h
      · cases h
    · cases h
  | @pt e τ off b o cs hb hcell hr =>
    simp only [X.snap] at h
    split at h
    · rename_i e1
      obtain ⟨rfl, rfl⟩ := e1
      cases h
      exact .box cs (him _ hb) hcell fun j hj => (hr j hj).mono fun b hb => ⟨him b hb, rfl⟩
    · cases h
  | @fn f caps vs hsz _ =>
    simp only [X.snap] at h
    split at h
    · split at h
      · rename_i e
        subst e
        rw [Array.eq_empty_of_size_eq_zero hsz]
        exact .fnc
      · cases h
    · cases h

/-- The ghost's regions stay where they are. -/
structure Still (g g' : Gh) : Prop where
  loc : g'.loc = g.loc
  cap : g'.cap = g.cap
  len : g'.len = g.len
  nr : g'.nr = g.nr
  im : ∀ b, g.im b → g'.im b

theorem Still.refl (g : Gh) : Still g g := ⟨rfl, rfl, rfl, rfl, fun _ h => h⟩
theorem Still.trans {a b c : Gh} (h : Still a b) (k : Still b c) : Still a c :=
  ⟨k.loc.trans h.loc, k.cap.trans h.cap, k.len.trans h.len, k.nr.trans h.nr, fun b hb => k.im b (h.im b hb)⟩

theorem rid_lt {ti : TypeId → TyI} {g : Gh} {w : World} {x : X} {v : Value} (h : RX ti g w x v) {r : Nat} (hr : x.rid = some r) : r < g.nr := by
  cases h with
  | own hn _ => simp only [X.rid, Option.some.injEq] at hr; subst hr; exact hn
  | ref hn _ _ => simp only [X.rid, Option.some.injEq] at hr; subst hr; exact hn
  | pa hn _ => simp only [X.rid, Option.some.injEq] at hr; subst hr; exact hn
  | _ => simp [X.rid] at hr

theorem toTs_ok {R : Type} {ti : TypeId → TyI} {c : Ctx} {ts : List (Array Value)} {w : World} {res : R} : ∀ (ls : List Lt) (xs : List X) (s : St) (K : List T → St → Option R) (g : Gh) (vs : List Value),
    toTs ls xs s K = some res → Sim ti c s ts g w → vs.length = xs.length → (∀ i, i < xs.length → RX ti g w (xs.getD i .un) (vs.getD i undef)) →
    ∃ τs s' g', K τs s' = some res ∧ Sim ti c s' ts g' w ∧ Still g g' ∧ ls.length = xs.length ∧ τs.length = xs.length ∧ (∀ i, i < xs.length → RL ti g'.im w (ls.getD i .fn) (τs.getD i (.i 0)) (vs.getD i undef))
  | [], [], s, K, g, vs, h, hs, hv, hx => ⟨[], s, g, h, hs, Still.refl g, rfl, rfl, fun i hi => by simp at hi⟩
  | [], _ :: _, s, K, g, vs, h, hs, hv, hx => by simp [toTs] at h
  | _ :: _, [], s, K, g, vs, h, hs, hv, hx => by simp [toTs] at h
  | l :: ls, x :: xs, s, K, g, vs, h, hs, hv, hx => by
    cases vs with
    | nil => simp at hv
    | cons v vs =>
      have hx0 : RX ti g w x v := by simpa using hx 0 (by simp)
      have hxs : ∀ i, i < xs.length → RX ti g w (xs.getD i .un) (vs.getD i undef) := fun i hi => by simpa using hx (i + 1) (by simpa using hi)
      have hv' : vs.length = xs.length := by simpa using hv
      simp only [toTs] at h
      cases hsn : x.snap s l with
      | none => simp [hsn] at h
      | some τ =>
        simp only [hsn] at h
        cases hrid : x.rid with
        | none =>
          simp only [hrid] at h
          obtain ⟨τs, s', g', h1, h2, h3, h4, h5, h6⟩ := toTs_ok ls xs s _ g vs h hs hv' hxs
          refine ⟨τ :: τs, s', g', h1, h2, h3, by simp [h4], by simp [h5], fun i hi => ?_⟩
          cases i with
          | zero =>
            simp only [List.getD_cons_zero]
            exact snap_ok hs hx0 hsn h3.im (fun r hr => by rw [hrid] at hr; cases hr)
          | succ i => simpa using h6 i (by simpa using hi)
        | some r =>
          simp only [hrid] at h
          have hr := rid_lt hx0 hrid
          split at h
          · rename_i e ys heq
            have hs' := hs.fz' hr heq
            have h0 : RegOk ti g w r (.arr e ys) := heq ▸ hs.reg r hr
            rw [X.fzL_eq] at h
            obtain ⟨τs, s', g', h1, h2, h3, h4, h5, h6⟩ := toTs_ok ls (xs.map (X.fz r e ys)) (s.fz r e ys) _ (g.frz r) vs h hs' (by simpa using hv')
              (fun i hi => by rw [getD_map_fz]; exact (hxs i (by simpa using hi)).fz h0)
            have hst : Still g (g.frz r) := ⟨rfl, rfl, rfl, rfl, fun b hb => .inl hb⟩
            refine ⟨τ :: τs, s', g', h1, h2, hst.trans h3, by simpa using h4, by simpa using h5, fun i hi => ?_⟩
            cases i with
            | zero =>
              simp only [List.getD_cons_zero]
              exact snap_ok hs hx0 hsn (fun b hb => h3.im b (.inl hb)) (fun q hq b hb => by rw [hrid] at hq; cases hq; exact h3.im b (.inr hb))
            | succ i => simpa using h6 i (by simpa using hi)
          · cases h

end Go.KX
/- Operations: reads, addresses, numbers. -/
namespace Go.KX
open Go.RowKit

section
variable {P : Program} {ti : TypeId → TyI}

theorem addr_add (b o n : Nat) : (⟨b, o, none⟩ : Addr).add n = ⟨b, o + n, none⟩ := by
  unfold Addr.add
  split
  · rename_i h; subst h; rfl
  · rfl

theorem run_loadCells_at (w : World) (b o n : Nat) (f : Nat → Value) (h : ∀ j, j < n → w.cell? ⟨b, o + j, none⟩ = some (f j)) :
    (loadCells ⟨b, o, none⟩ n).run P w = .ok ((List.range n).map f).toArray w := by
  have := run_loadCells_list (P := P) (w := w) ⟨b, o, none⟩ ((List.range n).map f) (fun j v hj => by
    rw [addr_add]
    have hjn : j < n := by
      have := (List.getElem?_eq_some_iff.1 hj).1
      simpa using this
    rw [h j hjn]
    simpa [hjn] using hj)
  simpa using this

theorem run_load_at (w : World) (b o : Nat) (v : Value) (h : w.cell? ⟨b, o, none⟩ = some v) : (load ⟨b, o, none⟩).run P w = .ok v w := by
  simp [h]

theorem getD_range_map {α : Type} (n : Nat) (f : Nat → α) (d : α) (i : Nat) (hi : i < n) : ((List.range n).map f).getD i d = f i := by
  simp [hi]

theorem range_map_getD {α : Type} (n : Nat) (f : Nat → α) (d : α) : (List.range n).map (fun j => ((List.range n).map f).getD j d) = (List.range n).map f :=
  List.map_congr_left fun j hj => getD_range_map _ _ _ _ (by simpa using hj)

theorem cell_of {w : World} {b : Nat} {c : Array Value} {te : TypeId} {fr : Nat × Nat} (hh : w.heap[b]? = some (.cells c te fr)) {o : Nat} (hlt : o < c.size) : w.cell? ⟨b, o, none⟩ = some (c.getD o undef) := by
  simp [World.cell?, hh, hlt]

variable (H : TabOk P ti)
include H

theorem size_one {t : TypeId} (h : (ti t).ok = true) (ha : (ti t).agg = false) : (ti t).size = 1 := by
  obtain ⟨d, _, h2⟩ := (H t h).und
  unfold dOk at h2
  unfold TyI.size
  split at h2
  · obtain ⟨_, h2⟩ := h2
    rcases h2 with ⟨k, h3, _⟩ | ⟨h3, _⟩ | ⟨h3, _⟩ <;> simp [h3]
  · simp [h2.2.1]
  · rw [ha] at h2; cases h2.1
  · rw [ha] at h2; cases h2.1
  · rcases h2.2.1 with h3 | h3 <;> simp [h3]

/-- A load of cells that read as abstract values. -/
theorem run_loadVar_at {t : TypeId} (h : (ti t).ok = true) {g : Gh} (w : World) (b o : Nat) (xs : List X) (f : Nat → Value) (hc : ∀ j, j < (ti t).size → w.cell? ⟨b, o + j, none⟩ = some (f j))
    (hx : ∀ j, j < (ti t).size → RX ti g w (xs.getD j .un) (f j)) :
    ∃ v, (loadVar t ⟨b, o, none⟩).run P w = .ok v w ∧ RX ti g w (if (ti t).agg then .agg ((List.range (ti t).size).map fun j => xs.getD j .un) else xs.getD 0 .un) v := by
  cases ha : (ti t).agg with
  | true =>
    refine ⟨.agg ((List.range (ti t).size).map f).toArray, ?_, ?_⟩
    · simp only [loadVar, Sem.run_bind, run_isAgg H h, ha, Result.andThen_ok, if_true, run_sizeOf H h, run_loadCells_at w b o _ f hc, Sem.run_pure]
    · simp only [if_true]
      refine .agg (by simp) (fun i hi => ?_)
      have hi' : i < (ti t).size := by simpa using hi
      rw [getD_range_map _ _ _ _ hi']
      have : ((List.range (ti t).size).map f).toArray.getD i undef = f i := by simp [hi']
      rw [this]
      exact hx i hi'
  | false =>
    have h1 := size_one H h ha
    refine ⟨f 0, ?_, ?_⟩
    · simp only [loadVar, Sem.run_bind, run_isAgg H h, ha, Result.andThen_ok, Bool.false_eq_true, if_false]
      exact run_load_at w b o _ (by simpa using hc 0 (by omega))
    · simpa using hx 0 (by omega)

theorem loadX_ok {c : Ctx} {s : St} {ts : List (Array Value)} {g : Gh} {w : World} (hs : Sim ti c s ts g w) {t : TypeId} {x y : X} {va : Value} (h : loadX ti s t x = some y) (hx : RX ti g w x va) :
    ∃ v, (Instr.loadAt t va).run P w = .ok v w ∧ RX ti g w y v := by
  unfold loadX at h
  split at h
  case isFalse => cases h
  case isTrue hok =>
    cases hx with
    | @pb r off hn =>
      simp only at h
      split at h
      · rename_i xs heq
        split at h
        · rename_i hl
          cases h
          have h0 : RegOk ti g w r (.box xs) := heq ▸ hs.reg r hn
          cases h0 with
          | @box _ cs te ho hh hsz hxs =>
            have := run_loadVar_at H hok (g := g) w (g.loc r).1 ((g.loc r).2 + off) (xs.drop off) (fun j => cs.getD ((g.loc r).2 + off + j) undef) (fun j hj => by
              have hlt : (g.loc r).2 + off + j < cs.size := by omega
              exact cell_of hh hlt) (fun j hj => by
                have := hxs (off + j) (by omega)
                simpa [List.getElem?_drop, Nat.add_assoc] using this)
            obtain ⟨v, h1, h2⟩ := this
            refine ⟨v, by simpa [Instr.loadAt, Instr.sureAddr] using h1, ?_⟩
            unfold readB
            simpa [List.getElem?_drop] using h2
        · cases h
      · cases h
    | @pa e r idx off hn hi =>
      simp only at h
      split at h
      · rename_i e' xs heq
        split at h
        · rename_i he
          obtain ⟨rfl, hl⟩ := he
          cases h
          have h0 : RegOk ti g w r (.arr e' xs) := heq ▸ hs.reg r hn
          cases h0 with
          | arr h1 h2 h3 hm =>
            obtain ⟨cs, te, a1, a2, a3, a4⟩ := hm (by omega)
            have hb : (idx + 1) * (ti e').size ≤ g.cap r * (ti e').size := Nat.mul_le_mul_right _ (by omega)
            rw [Nat.add_mul, Nat.one_mul] at hb
            have := run_loadVar_at H hok (g := g) w (g.loc r).1 ((g.loc r).2 + idx * (ti e').size + off) ((List.range (ti t).size).map fun j => X.t ((ti e').lv.getD (off + j) .fn) ((ti e').leaf (xs.getD idx (.i 0)) (off + j)))
              (fun j => cs.getD ((g.loc r).2 + idx * (ti e').size + (off + j)) undef) (fun j hj => by
              have hlt : (g.loc r).2 + idx * (ti e').size + off + j < cs.size := by omega
              rw [cell_of a2 hlt, Nat.add_assoc _ off j]) (fun j hj => by
                rw [getD_range_map _ _ _ _ hj]
                exact .t (a4 idx (off + j) (by omega) (by omega)))
            obtain ⟨v, h1, h2⟩ := this
            refine ⟨v, by simpa [Instr.loadAt, Instr.sureAddr] using h1, ?_⟩
            unfold readT
            cases ha : (ti t).agg with
            | true =>
              simp only [ha, if_true] at h2 ⊢
              rwa [range_map_getD] at h2
            | false =>
              have hs1 := size_one H hok ha
              simp only [ha, Bool.false_eq_true, if_false] at h2 ⊢
              rw [getD_range_map _ _ _ _ (by omega)] at h2
              simpa using h2
        · cases h
      · cases h
    | @pt e τ off b o cs hb hcell hr =>
      simp only at h
      split at h
      · rename_i hl
        cases h
        have := run_loadVar_at H hok (g := g) w b (o + off) ((List.range (ti t).size).map fun j => X.t ((ti e).lv.getD (off + j) .fn) ((ti e).leaf τ (off + j)))
          (fun j => cs (off + j)) (fun j hj => by rw [Nat.add_assoc]; exact hcell (off + j) (by omega)) (fun j hj => by
            rw [getD_range_map _ _ _ _ hj]
            exact .t (hr (off + j) (by omega)))
        obtain ⟨v, h1, h2⟩ := this
        refine ⟨v, by simpa [Instr.loadAt, Instr.sureAddr] using h1, ?_⟩
        unfold readT
        cases ha : (ti t).agg with
        | true =>
          simp only [ha, if_true] at h2 ⊢
          rwa [range_map_getD] at h2
        | false =>
          have hs1 := size_one H hok ha
          simp only [ha, Bool.false_eq_true, if_false] at h2 ⊢
          rw [getD_range_map _ _ _ _ (by omega)] at h2
          simpa using h2
      · cases h
    | _ => simp at h

theorem fieldAt_ok {w : World} {t : TypeId} {f o : Nat} (h : fieldOff ti t f = some o) (b q : Nat) :
    (Instr.fieldAt t (.pointer (some ⟨b, q, none⟩)) f).run P w = .ok (.pointer (some ⟨b, q + o, none⟩)) w := by
  unfold fieldOff at h
  split at h
  case isFalse => cases h
  case isTrue hok =>
    split at h
    · rename_i fs hd
      split at h
      · rename_i ft off hf
        split at h
        · rename_i hp
          cases h
          obtain ⟨d, h1, h2⟩ := (H t hok).und
          unfold dOk at h2
          rw [hd] at h2
          obtain ⟨h3, fields, rfl, h4, h5⟩ := h2
          rw [← h4] at hf
          simp only [List.getElem?_map, Option.map_eq_some_iff] at hf
          obtain ⟨fl, hfl, he⟩ := hf
          cases he
          have hfok := h5 (fl.type, fl.offset) (by rw [← h4]; exact List.mem_map.2 ⟨fl, List.mem_of_getElem? hfl, rfl⟩)
          have hfl' : fields[f]? = some fl := by simpa using hfl
          have hne : ¬ (ti fl.type).size = 0 := by omega
          simp [Instr.fieldAt, run_und h1, hfl', Instr.sureAddr, fieldPlace, run_sizeOf H hfok, hne, addr_add]
        · cases h
      · cases h
    · cases h

theorem field_ok {w : World} {g : Gh} {t : TypeId} {f o : Nat} {ft : TypeId} (h : fieldPart ti t f = some (ft, o)) {xs : List X} {vs : Array Value} (hs : vs.size = xs.length) (hx : ∀ i, i < xs.length → RX ti g w (xs.getD i .un) (vs.getD i undef))
    (hfit : o + (ti ft).size ≤ xs.length) : ∃ v, (Instr.field t (.agg vs) f).run P w = .ok v w ∧ RX ti g w (readB ti ft xs o) v := by
  unfold fieldPart at h
  split at h
  case isFalse => cases h
  case isTrue hok =>
    split at h
    · rename_i fs hd
      split at h
      · rename_i ft' off hf
        split at h
        · rename_i hp
          cases h
          obtain ⟨d, h1, h2⟩ := (H t hok).und
          unfold dOk at h2
          rw [hd] at h2
          obtain ⟨h3, fields, rfl, h4, h5⟩ := h2
          rw [← h4] at hf
          simp only [List.getElem?_map, Option.map_eq_some_iff] at hf
          obtain ⟨fl, hfl, he⟩ := hf
          cases he
          have hfok := h5 (fl.type, fl.offset) (by rw [← h4]; exact List.mem_map.2 ⟨fl, List.mem_of_getElem? hfl, rfl⟩)
          have hfl' : fields[f]? = some fl := by simpa using hfl
          unfold readB
          cases hag : (ti fl.type).agg with
          | true =>
            refine ⟨.agg (vs.extract fl.offset (fl.offset + (ti fl.type).size)), ?_, .agg (by simp; omega) fun i hi => ?_⟩
            · simp [Instr.field, run_und h1, hfl', asAgg, part, run_isAgg H hfok, hag, run_sizeOf H hfok]
            · have hi' : i < (ti fl.type).size := by simpa using hi
              have := hx (fl.offset + i) (by omega)
              have e1 : ((List.range (ti fl.type).size).map fun j => xs.getD (fl.offset + j) .un).getD i .un = xs.getD (fl.offset + i) .un := by simp [hi']
              have e2 : (vs.extract fl.offset (fl.offset + (ti fl.type).size)).getD i undef = vs.getD (fl.offset + i) undef := by
                simp only [Array.getD_eq_getD_getElem?, Array.getElem?_extract]
                rw [if_pos (by omega)]
              rw [e1, e2]
              exact this
          | false =>
            have hlt : fl.offset < vs.size := by omega
            refine ⟨vs.getD fl.offset undef, ?_, by simpa using hx fl.offset (by omega)⟩
            simp [Instr.field, run_und h1, hfl', asAgg, part, run_isAgg H hfok, hag, hlt]
        · cases h
      · cases h
    · cases h

end
end Go.KX
/- Operations: indexes, slices, numbers, lengths. -/
namespace Go.KX
open Go.RowKit

section
variable {P : Program} {ti : TypeId → TyI}

theorem intX_ok {g : Gh} {w : World} {x : X} {v : Value} {i : Int} (hx : RX ti g w x v) (h : intX x = some i) : ∃ k, v = .int k i ∧ k.min ≤ i ∧ i ≤ k.max := by
  cases hx with
  | t h1 =>
    cases h1 with
    | int h2 h3 => simp only [intX, Option.some.injEq] at h; subst h; exact ⟨_, rfl, h2, h3⟩
    | _ => simp [intX] at h
  | _ => simp [intX] at h

theorem le_mul_row {n cap sz i j : Nat} (h : i < n) (hn : n ≤ cap) (hj : j < sz) : i * sz + j < cap * sz := by
  have : (i + 1) * sz ≤ cap * sz := Nat.mul_le_mul_right _ (by omega)
  rw [Nat.add_mul, Nat.one_mul] at this
  omega

variable (H : TabOk P ti)
include H

theorem indexK_ok {R : Type} {res : R} {c : Ctx} {s : St} {ts : List (Array Value)} {g : Gh} {w : World} (hs : Sim ti c s ts g w) {t : TypeId} {x ix : X} {vx vi : Value} {K : X → St → Option R}
    (h : indexK ti t x ix s K = some res) (hx : RX ti g w x vx) (hi : RX ti g w ix vi) :
    ∃ y v, K y s = some res ∧ (Instr.indexAt t vx vi).run P w = .ok v w ∧ RX ti g w y v := by
  unfold indexK at h
  split at h
  · cases h
  · rename_i i hii
    obtain ⟨k, rfl, _, _⟩ := intX_ok hi hii
    split at h
    · rename_i e hok hd
      obtain ⟨hu, heok, _, _⟩ := und_slice H hok hd
      cases hx with
      | @t l τ _ h1 =>
        cases h1 with
        | empty he =>
          simp only at h
          split at h
          · rename_i e1
            split at h
            · rename_i hb; rw [he] at hb; simp at hb; omega
            · cases h
          · cases h
        | @slice e' _ b o cp cs hb hc hn hcell hr =>
          simp only at h
          split at h
          · rename_i e1
            subst e1
            split at h
            · rename_i hlt
              refine ⟨_, .pointer (some ⟨b, o + i.toNat * (ti e').size, none⟩), h, ?_, ?_⟩
              · simp [Instr.indexAt, asIntOf, run_und hu, hlt, run_sizeOf H heok, addr_add]
              · have := RX.pt (ti := ti) (g := g) (w := w) (e := e') (τ := at_ τ.L i) (off := 0) (b := b) (o := o + i.toNat * (ti e').size) (fun j => cs i.toNat j) hb
                  (fun j hj => hcell i.toNat j (by omega) hj) (fun j hj => hr i.toNat j (by omega) hj)
                simpa using this
            · cases h
          · cases h
        | _ => simp at h
      | @own e' r A hn ha =>
        simp only at h
        split at h
        · rename_i e2 xs heq
          split at h
          · rename_i he
            obtain ⟨rfl, rfl⟩ := he
            split at h
            · rename_i hlt
              have h0 : RegOk ti g w r (.arr e2 xs) := heq ▸ hs.reg r hn
              have hl : g.len r = xs.length := by cases h0; assumption
              have hcp : xs.length ≤ g.cap r := by cases h0; assumption
              have hA := ha (by omega)
              subst hA
              refine ⟨_, .pointer (some ⟨(g.loc r).1, (g.loc r).2 + i.toNat * (ti e2).size, none⟩), h, ?_, ?_⟩
              · rw [hl]
                simp [Instr.indexAt, asIntOf, run_und hu, hlt, run_sizeOf H heok, addr_add]
              · have := RX.pa (ti := ti) (g := g) (w := w) (e := e2) (r := r) (idx := i.toNat) (off := 0) hn (by omega)
                simpa using this
            · cases h
          · cases h
        · cases h
      | @ref e' r off len A hn ha hl =>
        simp only at h
        split at h
        · rename_i e2 xs heq
          split at h
          · rename_i he
            obtain ⟨rfl, rfl⟩ := he
            split at h
            · rename_i hlt
              have h0 : RegOk ti g w r (.arr e2 xs) := heq ▸ hs.reg r hn
              have hl2 : g.len r = xs.length := by cases h0; assumption
              have hcp : xs.length ≤ g.cap r := by cases h0; assumption
              have hA := ha (by omega)
              subst hA
              refine ⟨_, .pointer (some ⟨(g.loc r).1, (g.loc r).2 + (off + i.toNat) * (ti e2).size, none⟩), h, ?_, ?_⟩
              · simp [Instr.indexAt, asIntOf, run_und hu, hlt, run_sizeOf H heok, addr_add, Nat.add_mul, Nat.add_assoc]
              · have := RX.pa (ti := ti) (g := g) (w := w) (e := e2) (r := r) (idx := off + i.toNat) (off := 0) hn (by omega)
                simpa using this
            · cases h
          · cases h
        · cases h
      | _ => simp at h
    · cases h

omit H in
theorem run_bound {w : World} {k : IntKind} {i : Int} {y : Nat} {code : BoundsCode} (h : 0 ≤ i ∧ i ≤ (y : Int)) : (Instr.sliceBound (.int k i) y code).run P w = .ok i.toNat w := by
  simp [Instr.sliceBound, asIntOf, h]

/-- An optional bound's value. -/
def Bd (v : Option Value) (d : Int) (l : Int) : Prop := (v = none ∧ l = d) ∨ ∃ k, v = some (.int k l)

omit H in
theorem run_bounds {w : World} {lo hi : Option Value} {l h : Int} {len cap : Nat} (hl : Bd lo 0 l) (hh : Bd hi len h) (h1 : 0 ≤ l) (h2 : l ≤ h) (h3 : h ≤ (cap : Int)) :
    (Instr.sliceBounds true len cap lo hi none).run P w = .ok (l.toNat, h.toNat, cap) w := by
  rcases hl with ⟨rfl, rfl⟩ | ⟨k, rfl⟩ <;> rcases hh with ⟨rfl, rfl⟩ | ⟨k', rfl⟩
  · simp [Instr.sliceBounds]
  · simp [Instr.sliceBounds, run_bound (P := P) (w := w) (k := k') (i := h) (y := cap) (code := .sliceAcap) ⟨by omega, h3⟩]
  · have := run_bound (P := P) (w := w) (k := k) (i := l) (y := len) (code := .sliceB) ⟨h1, h2⟩
    simp [Instr.sliceBounds, this]
  · have e : ((h.toNat : Nat) : Int) = h := by omega
    have := run_bound (P := P) (w := w) (k := k) (i := l) (y := h.toNat) (code := .sliceB) ⟨h1, by omega⟩
    simp [Instr.sliceBounds, this, run_bound (P := P) (w := w) (k := k') (i := h) (y := cap) (code := .sliceAcap) ⟨by omega, h3⟩]

theorem run_sliceAt {t e : TypeId} (hok : (ti t).ok = true) (hd : (ti t).d = .slice e) {w : World} {A : Option Addr} {lo hi : Option Value} {l h : Int} {len cap : Nat} (hl : Bd lo 0 l) (hh : Bd hi len h) (h1 : 0 ≤ l) (h2 : l ≤ h) (h3 : h ≤ (cap : Int)) :
    (Instr.sliceAt t (.slice A len cap) lo hi none).run P w = .ok (.slice (if cap = l.toNat then A else A.map (·.add (l.toNat * (ti e).size))) (h.toNat - l.toNat) (cap - l.toNat)) w := by
  obtain ⟨hu, heok, _, _⟩ := und_slice H hok hd
  simp [Instr.sliceAt, Instr.slice, run_und hu, run_bounds (P := P) (w := w) hl hh h1 h2 h3, run_sizeOf H heok]

theorem run_sliceAt3 {t e : TypeId} (hok : (ti t).ok = true) (hd : (ti t).d = .slice e) {w : World} {A : Option Addr} {lo : Option Value} {l h m : Int} {k k' : IntKind} {len cap : Nat} (hl : Bd lo 0 l) (h1 : 0 ≤ l) (h2 : l ≤ h) (h3 : h ≤ m) (h4 : m ≤ (cap : Int)) :
    ∃ A', (Instr.sliceAt t (.slice A len cap) lo (some (.int k h)) (some (.int k' m))).run P w = .ok (.slice A' (h.toNat - l.toNat) (m.toNat - l.toNat)) w := by
  obtain ⟨hu, heok, _, _⟩ := und_slice H hok hd
  have e1 : ((m.toNat : Nat) : Int) = m := by omega
  have e2 : ((h.toNat : Nat) : Int) = h := by omega
  have b1 := run_bound (P := P) (w := w) (k := k') (i := m) (y := cap) (code := .slice3Acap) ⟨by omega, h4⟩
  have b2 := run_bound (P := P) (w := w) (k := k) (i := h) (y := m.toNat) (code := .slice3B) ⟨by omega, by omega⟩
  rcases hl with ⟨rfl, rfl⟩ | ⟨k2, rfl⟩
  · exact ⟨_, by (simp [Instr.sliceAt, Instr.slice, run_und hu, Instr.sliceBounds, b1, b2, run_sizeOf H heok]; rfl)⟩
  · have b3 := run_bound (P := P) (w := w) (k := k2) (i := l) (y := h.toNat) (code := .slice3C) ⟨h1, by omega⟩
    exact ⟨_, by (simp [Instr.sliceAt, Instr.slice, run_und hu, Instr.sliceBounds, b1, b2, b3, run_sizeOf H heok]; rfl)⟩

end
end Go.KX
/- Operations: slices of slices. -/
namespace Go.KX
open Go.RowKit

section
variable {P : Program} {ti : TypeId → TyI}

def OptRX (ti : TypeId → TyI) (g : Gh) (w : World) (x : Option X) (v : Option Value) : Prop := (x = none ∧ v = none) ∨ ∃ y u, x = some y ∧ v = some u ∧ RX ti g w y u

theorem OptRX.lo {g : Gh} {w : World} {x : Option X} {v : Option Value} (h : OptRX ti g w x v) {l : Int} (hl : (match x with | none => some (0 : Int) | some v => intX v) = some l) : Bd v 0 l := by
  rcases h with ⟨rfl, rfl⟩ | ⟨y, u, rfl, rfl, hx⟩
  · simp only [Option.some.injEq] at hl; subst hl; exact .inl ⟨rfl, rfl⟩
  · obtain ⟨k, rfl, _⟩ := intX_ok hx hl; exact .inr ⟨k, rfl⟩

theorem OptRX.hi {g : Gh} {w : World} {y : X} {v : Option Value} (h : OptRX ti g w (some y) v) {d l : Int} (hl : intX y = some l) : Bd v d l := by
  rcases h with ⟨h, _⟩ | ⟨z, u, hz, rfl, hx⟩
  · cases h
  · cases hz; obtain ⟨k, rfl, _⟩ := intX_ok hx hl; exact .inr ⟨k, rfl⟩

/-- What a part of a slice that is only read reads as. -/
theorem RL.cut {im : Nat → Prop} {w : World} {e : TypeId} {τ : T} {A : Option Addr} {n cap : Nat} (h : RL ti im w (.slice e) τ (.slice A n cap)) {l h' : Nat} (h1 : l ≤ h') (h2 : h' ≤ n) :
    n = τ.L.length ∧ RL ti im w (.slice e) (.l ((τ.L.take h').drop l)) (.slice (if cap = l then A else A.map (·.add (l * (ti e).size))) (h' - l) (cap - l)) := by
  cases h with
  | empty he =>
    refine ⟨by simp [he], ?_⟩
    have : h' - l = 0 := by omega
    rw [this]
    exact .empty (by simp [he])
  | @slice _ _ b o _ cs hb hc hn hcell hr =>
    refine ⟨rfl, ?_⟩
    by_cases hz : h' - l = 0
    · rw [hz]
      refine .empty ?_
      simp only [T.L_l, List.drop_eq_nil_iff, List.length_take]
      omega
    · have hne : cap ≠ l := by omega
      simp only [if_neg hne, Option.map_some, addr_add]
      have hlen : ((τ.L.take h').drop l).length = h' - l := by simp; omega
      have := RL.slice (ti := ti) (im := im) (w := w) (e := e) (τ := .l ((τ.L.take h').drop l)) (b := b) (o := o + l * (ti e).size) (c := cap - l) (fun i j => cs (l + i) j) hb (by simp only [T.L_l, hlen]; omega) (by simp only [T.L_l, hlen]; omega)
        (fun i j hi hj => ?_) (fun i j hi hj => ?_)
      · simpa only [T.L_l, hlen] using this
      · simp only [T.L_l, hlen] at hi
        have := hcell (l + i) j (by omega) hj
        rw [← this]
        congr 2
        rw [Nat.add_mul]; omega
      · simp only [T.L_l, hlen] at hi
        have e1 : ((τ.L.take h').drop l).getD i (.i 0) = τ.L.getD (l + i) (.i 0) := by
          have : l + i < h' := by omega
          simp [List.getElem?_drop, this]
        simp only [T.L_l, e1]
        exact hr (l + i) j (by omega) hj

theorem addr_cut {g : Gh} {r off sz l : Nat} {A : Option Addr} (h : g.addr r off sz A) : g.addr r (off + l) sz (if g.cap r - off = l then A else A.map (·.add (l * sz))) := by
  unfold Gh.addr at *
  intro hlt
  have hA := h (by omega)
  have hne : g.cap r - off ≠ l := by omega
  rw [if_neg hne, hA]
  simp [addr_add, Nat.add_mul, Nat.add_assoc]

variable (H : TabOk P ti)
include H

set_option maxHeartbeats 1000000 in
theorem sliceK_ok {R : Type} {res : R} {c : Ctx} {s : St} {ts : List (Array Value)} {g : Gh} {w : World} (hs : Sim ti c s ts g w) {t e : TypeId} (hok : (ti t).ok = true) (hd : (ti t).d = .slice e) {x : X} {lo hi mx : Option X} {vx : Value}
    {vlo vhi vmx : Option Value} {K : X → St → Option R} (h : sliceK e x lo hi mx s K = some res) (hx : RX ti g w x vx) (hlo : OptRX ti g w lo vlo) (hhi : OptRX ti g w hi vhi) (hmx : OptRX ti g w mx vmx) :
    ∃ y v, K y s = some res ∧ (Instr.sliceAt t vx vlo vhi vmx).run P w = .ok v w ∧ RX ti g w y v := by
  unfold sliceK at h
  simp only at h
  split at h
  · cases h
  · rename_i l hl
    have hbl : Bd vlo 0 l := by
      cases lo with
      | none => exact hlo.lo (l := l) hl
      | some v => exact hlo.lo (l := l) hl
    split at h
    · rename_i m
      split at h
      · rename_i hh cc h3 h4
        split at h
        · rename_i xs hel
          split at h
          · rename_i hb
            obtain ⟨b1, b2, b3, b4⟩ := hb
            rcases hmx with ⟨h5, _⟩ | ⟨ym, um, h5, rfl, hxm⟩
            · cases h5
            cases h5
            obtain ⟨km, rfl, _⟩ := intX_ok hxm h4
            cases hi with
            | none => simp at h3
            | some yh =>
              rcases hhi with ⟨h6, _⟩ | ⟨y2, uh, h6, rfl, hxh⟩
              · cases h6
              cases h6
              obtain ⟨kh, rfl, _⟩ := intX_ok hxh (by simpa using h3)
              -- the slice itself
              simp only [X.elems, Option.map_eq_some_iff] at hel
              obtain ⟨τ, hsn, rfl⟩ := hel
              have hrl := snap_ok hs hx hsn (im := fun _ => True) (fun _ _ => trivial) (fun _ _ _ _ => trivial)
              obtain ⟨A, n, cp, rfl, hn⟩ : ∃ A n cp, vx = .slice A n cp ∧ τ.L.length ≤ cp := by
                cases hrl with
                | empty he => exact ⟨_, _, _, rfl, by simp [he]⟩
                | slice cs hb hc hn hcell hr => exact ⟨_, _, _, rfl, hc⟩
              obtain ⟨A', hrun⟩ := run_sliceAt3 H hok hd (w := w) (A := A) (len := n) (cap := cp) (k := kh) (k' := km) hbl b1 b2 b3 (by omega)
              refine ⟨_, _, h, hrun, ?_⟩
              split
              · rename_i hz
                obtain ⟨rfl, rfl⟩ := hz
                have : l.toNat = 0 := by omega
                simp only [Int.toNat_zero, Nat.zero_sub]
                exact .nil
              · exact .un
          · cases h
        · cases h
      · cases h
    · have hvm : vmx = none := by
        rcases hmx with ⟨_, h5⟩ | ⟨_, _, h5, _⟩
        · exact h5
        · cases h5
      subst hvm
      cases hx with
      | @nil A =>
        simp only at h
        split at h
        · rename_i hnone
          split at h
          · rename_i hl0
            subst hl0
            have hh : Bd vhi ((0 : Nat) : Int) 0 := by
              rcases hhi with ⟨_, rfl⟩ | ⟨_, _, h5, _⟩
              · exact .inl ⟨rfl, rfl⟩
              · cases h5
            exact ⟨_, _, h, run_sliceAt H hok hd hbl hh (by omega) (by omega) (by simp), by simpa using RX.nil⟩
          · cases h
        · rename_i yh
          split at h
          · rename_i hv hiv
            split at h
            · rename_i hb
              have h0 : l = 0 := by omega
              have h1 : hv = 0 := by omega
              subst h0 h1
              exact ⟨_, _, h, run_sliceAt H hok hd hbl (hhi.hi hiv) (by omega) (by omega) (by simp), by simpa using RX.nil⟩
            · cases h
          · cases h
      | @t lt τ _ h1 =>
        cases lt with
        | slice e' =>
          simp only at h
          split at h
          · rename_i he
            subst he
            obtain ⟨A, n, cp, rfl, hn, hcp⟩ : ∃ A n cp, vx = .slice A n cp ∧ n = τ.L.length ∧ n ≤ cp := by
              cases h1 with
              | empty he => exact ⟨_, _, _, rfl, by simp [he], by simp⟩
              | slice cs hb hc hn hcell hr => exact ⟨_, _, _, rfl, rfl, hc⟩
            split at h
            · rename_i hnone
              split at h
              · rename_i hb
                have hh : Bd vhi (n : Int) (n : Int) := by
                  rcases hhi with ⟨_, rfl⟩ | ⟨_, _, h5, _⟩
                  · exact .inl ⟨rfl, rfl⟩
                  · cases h5
                have hc := (h1.cut (l := l.toNat) (h' := n) (by omega) (Nat.le_refl _)).2
                rw [hn, List.take_length] at hc
                refine ⟨_, _, h, run_sliceAt H hok hd hbl hh (by omega) (by omega) (by omega), .t ?_⟩
                rw [hn]
                simpa using hc
              · cases h
            · rename_i yh
              split at h
              · rename_i hv hiv
                split at h
                · rename_i hb
                  have hc := (h1.cut (l := l.toNat) (h' := hv.toNat) (by omega) (by omega)).2
                  exact ⟨_, _, h, run_sliceAt H hok hd hbl (hhi.hi hiv) (by omega) (by omega) (by omega), .t hc⟩
                · cases h
              · cases h
          · cases h
        | _ => simp at h
      | @own e' r A hn ha =>
        simp only at h
        split at h
        · rename_i e2 xs heq
          split at h
          · rename_i he
            obtain ⟨rfl, rfl⟩ := he
            have h0 : RegOk ti g w r (.arr e2 xs) := heq ▸ hs.reg r hn
            have hl2 : g.len r = xs.length := by cases h0; assumption
            have hcp : xs.length ≤ g.cap r := by cases h0; assumption
            split at h
            · rename_i hnone
              split at h
              · rename_i hb
                have hh : Bd vhi ((g.len r : Nat) : Int) (g.len r : Int) := by
                  rcases hhi with ⟨_, rfl⟩ | ⟨_, _, h5, _⟩
                  · exact .inl ⟨rfl, rfl⟩
                  · cases h5
                refine ⟨_, _, h, run_sliceAt H hok hd hbl hh (by omega) (by omega) (by omega), ?_⟩
                have := RX.ref (ti := ti) (g := g) (w := w) (e := e2) (r := r) (off := l.toNat) (len := xs.length - l.toNat) hn (by simpa using addr_cut (l := l.toNat) ha) (by omega)
                simpa [hl2] using this
              · cases h
            · rename_i yh
              split at h
              · rename_i hv hiv
                split at h
                · rename_i hb
                  refine ⟨_, _, h, run_sliceAt H hok hd hbl (hhi.hi hiv) (by omega) (by omega) (by omega), ?_⟩
                  have := RX.ref (ti := ti) (g := g) (w := w) (e := e2) (r := r) (off := l.toNat) (len := hv.toNat - l.toNat) hn (by simpa using addr_cut (l := l.toNat) ha) (by omega)
                  simpa using this
                · cases h
              · cases h
          · cases h
        · cases h
      | @ref e' r off len A hn ha hlr =>
        simp only at h
        split at h
        · rename_i e2 xs heq
          split at h
          · rename_i he
            obtain ⟨rfl, rfl⟩ := he
            have h0 : RegOk ti g w r (.arr e2 xs) := heq ▸ hs.reg r hn
            have hl2 : g.len r = xs.length := by cases h0; assumption
            have hcp : xs.length ≤ g.cap r := by cases h0; assumption
            split at h
            · rename_i hnone
              split at h
              · rename_i hb
                have hh : Bd vhi ((len : Nat) : Int) (len : Int) := by
                  rcases hhi with ⟨_, rfl⟩ | ⟨_, _, h5, _⟩
                  · exact .inl ⟨rfl, rfl⟩
                  · cases h5
                refine ⟨_, _, h, run_sliceAt H hok hd hbl hh (by omega) (by omega) (by omega), ?_⟩
                have := RX.ref (ti := ti) (g := g) (w := w) (e := e2) (r := r) (off := off + l.toNat) (len := len - l.toNat) hn (addr_cut (l := l.toNat) ha) (by omega)
                simpa [Nat.sub_sub] using this
              · cases h
            · rename_i yh
              split at h
              · rename_i hv hiv
                split at h
                · rename_i hb
                  refine ⟨_, _, h, run_sliceAt H hok hd hbl (hhi.hi hiv) (by omega) (by omega) (by omega), ?_⟩
                  have := RX.ref (ti := ti) (g := g) (w := w) (e := e2) (r := r) (off := off + l.toNat) (len := hv.toNat - l.toNat) hn (addr_cut (l := l.toNat) ha) (by omega)
                  simpa [Nat.sub_sub] using this
                · cases h
              · cases h
          · cases h
        · cases h
      | _ => simp at h

end
end Go.KX
/- Operations: numbers, comparisons, conversions. -/
namespace Go.KX
open Go.RowKit

section
variable {P : Program} {ti : TypeId → TyI}

theorem wrap_ok (k : IntKind) (n : Int) : k.min ≤ (T.i (k.wrap n)).I ∧ (T.i (k.wrap n)).I ≤ k.max := wrap_within k n

theorem RX.int {g : Gh} {w : World} {k : IntKind} {n : Int} (h1 : k.min ≤ n) (h2 : n ≤ k.max) : RX ti g w (.t (.int k) (.i n)) (.int k n) := .t (.int (τ := .i n) h1 h2)
theorem RX.bool {g : Gh} {w : World} {b : Bool} : RX ti g w (.t .bool (.b b)) (.bool b) := .t (.bool (τ := .b b))

theorem RX.int_inv {g : Gh} {w : World} {k : IntKind} {τ : T} {v : Value} (h : RX ti g w (.t (.int k) τ) v) : v = .int k τ.I ∧ k.min ≤ τ.I ∧ τ.I ≤ k.max := by
  cases h with
  | t h => cases h with | int h1 h2 => exact ⟨rfl, h1, h2⟩
theorem RX.bool_inv {g : Gh} {w : World} {τ : T} {v : Value} (h : RX ti g w (.t .bool τ) v) : v = .bool τ.B := by
  cases h with
  | t h => cases h with | bool => rfl
theorem RX.str_inv {g : Gh} {w : World} {τ : T} {v : Value} (h : RX ti g w (.t .str τ) v) : ∃ s, v = .string s ∧ s.toList = τ.S := by
  cases h with
  | t h => cases h with | str h => exact ⟨_, rfl, h⟩

theorem min_le0 (k : IntKind) : k.min ≤ 0 := by cases k <;> decide
theorem max_ge0 (k : IntKind) : 0 ≤ k.max := by cases k <;> decide

theorem fdiv_in {k : IntKind} {a : Int} (h1 : k.min ≤ a) (h2 : a ≤ k.max) (n : Nat) : k.min ≤ a.fdiv (2 ^ n) ∧ a.fdiv (2 ^ n) ≤ k.max := by
  have hp : (0 : Int) < 2 ^ n := Int.pow_pos (by omega)
  have h3 := min_le0 k
  have h4 := max_ge0 k
  rw [Int.fdiv_eq_ediv_of_nonneg _ (Int.le_of_lt hp)]
  have hp1 : (1 : Int) ≤ 2 ^ n := hp
  by_cases ha : 0 ≤ a
  · have := Int.ediv_le_self (2 ^ n) ha
    have := Int.ediv_nonneg ha (Int.le_of_lt hp)
    omega
  · have h5 : a / 2 ^ n ≤ 0 := by
      have : a / 2 ^ n < 0 := Int.ediv_neg_of_neg_of_pos (by omega) hp
      omega
    have h6 : a ≤ a / 2 ^ n := by
      rw [Int.le_ediv_iff_mul_le hp]
      have : a * 2 ^ n ≤ a * 1 := Int.mul_le_mul_of_nonpos_left (by omega) hp1
      omega
    omega

theorem tmod_in {k : IntKind} {a b : Int} (h1 : k.min ≤ a) (h2 : a ≤ k.max) : k.min ≤ a.tmod b ∧ a.tmod b ≤ k.max := by
  have h3 := min_le0 k
  have h4 := max_ge0 k
  have h5 : (a.tmod b).natAbs ≤ a.natAbs := by
    rw [Int.natAbs_tmod]
    exact Nat.mod_le _ _
  by_cases ha : 0 ≤ a
  · have := Int.tmod_nonneg b ha
    omega
  · have h7 : (-a).tmod b = -(a.tmod b) := Int.neg_tmod a b
    have := Int.tmod_nonneg b (show 0 ≤ -a by omega)
    omega

theorem run_equal_bool {w : World} {t : TypeId} (hu : P.underlying t = some .bool) (a b : Bool) : (Op.equal t (.bool a) (.bool b)).run P w = .ok (a == b) w := by
  have h : ∀ d, (Op.equalIn (d + 1) t (.bool a) (.bool b)).run P w = .ok (a == b) w := fun d => by simp [Op.equalIn, run_und hu]
  exact h 9999

theorem binK_ok {R : Type} {res : R} {g : Gh} {w : World} {op : BinOp} {xt : TypeId} {x y : X} {ox oy : Operand} {vx vy : Value} {K : X → Option R} {bt : Bool} (hbt : bt = true → P.underlying xt = some .bool) (h : binK bt op x y K = some res) (hx : RX ti g w x vx) (hy : RX ti g w y vy) :
    ∃ z v, K z = some res ∧ (do eqGuard op xt ox oy vx vy; binOp op xt vx vy : Sem Value).run P w = .ok v w ∧ RX ti g w z v := by
  unfold binK at h
  split at h
  · rename_i k a k' b
    obtain ⟨rfl, a1, a2⟩ := hx.int_inv
    obtain ⟨rfl, b1, b2⟩ := hy.int_inv
    split at h
    · split at h
      · rename_i hb
        have hb' : ¬ b.I < 0 := by omega
        exact ⟨_, _, h, by simp [eqGuard, binOp, Op.shift, hb'], RX.int (wrap_ok _ _).1 (wrap_ok _ _).2⟩
      · cases h
    · split at h
      · rename_i hb
        have hb' : ¬ b.I < 0 := by omega
        exact ⟨_, _, h, by simp [eqGuard, binOp, Op.shift, hb'], RX.int (fdiv_in a1 a2 _).1 (fdiv_in a1 a2 _).2⟩
      · cases h
    · split at h
      · rename_i hk
        subst hk
        split at h
        · rename_i hb
          exact ⟨_, _, h, by simp [eqGuard, binOp, Op.intDiv, hb], RX.int (wrap_ok _ _).1 (wrap_ok _ _).2⟩
        · cases h
      · cases h
    · split at h
      · rename_i hk
        subst hk
        split at h
        · rename_i hb
          exact ⟨_, _, h, by simp [eqGuard, binOp, Op.intDiv, hb], RX.int (tmod_in a1 a2).1 (tmod_in a1 a2).2⟩
        · cases h
      · cases h
    · split at h
      · rename_i hk
        subst hk
        split at h
        · rename_i n hn
          refine ⟨_, .int k' n, h, ?_, ?_⟩
          · cases op <;> simp [intOp] at hn <;> subst hn <;> simp [eqGuard, binOp, Op.intArith, Op.intBits]
          · cases op <;> simp [intOp] at hn <;> subst hn <;> exact RX.int (wrap_ok _ _).1 (wrap_ok _ _).2
        · rename_i hn
          split at h
          · rename_i cc hc
            refine ⟨_, .bool cc, h, ?_, RX.bool⟩
            cases op <;> simp [cmpOp] at hc <;> subst hc <;> simp [eqGuard, binOp, Op.intCmp]
          · cases h
      · cases h
  · rename_i a b
    have hx' := hx.bool_inv
    have hy' := hy.bool_inv
    subst hx' hy'
    split at h
    · split at h
      · rename_i hb
        exact ⟨_, _, h, by simp [eqGuard, binOp, run_equal_bool (P := P) (hbt hb)], RX.bool⟩
      · cases h
    · split at h
      · rename_i hb
        exact ⟨_, _, h, by simp [eqGuard, binOp, run_equal_bool (P := P) (hbt hb)], RX.bool⟩
      · cases h
    · cases h
  · rename_i a b
    obtain ⟨s1, rfl, e1⟩ := hx.str_inv
    obtain ⟨s2, rfl, e2⟩ := hy.str_inv
    split at h
    · rename_i cc hc
      refine ⟨_, .bool cc, h, ?_, RX.bool⟩
      rw [← e1, ← e2] at hc
      cases op <;> simp only [strOp, Option.some.injEq, reduceCtorEq] at hc <;> subst hc <;> simp [eqGuard, binOp, Op.stringOp]
    · cases h
  · cases h

theorem toList_push (s : ByteArray) (b : UInt8) : (s.push b).data.toList = s.data.toList ++ [b] := by
  show (s.data.push b).toList = _
  simp

theorem foldl_push (ns : List Int) : ∀ s : ByteArray, (ns.foldl (fun r n => r.push (UInt8.ofNat n.toNat)) s).data.toList = s.data.toList ++ ns.map fun n => UInt8.ofNat n.toNat := by
  induction ns with
  | nil => intro s; simp
  | cons n ns ih => intro s; rw [List.foldl_cons, ih, toList_push]; simp

end
end Go.KX
/- Conversions, lengths, and what leaves memory alone among the built-ins. -/
namespace Go.KX
open Go.RowKit

section
variable {P : Program} {ti : TypeId → TyI} (H : TabOk P ti)
include H

theorem und_leaf {t : TypeId} (h : (ti t).ok = true) (hd : (ti t).d = .leaf) : (ti t).agg = false ∧
    ((∃ k, (ti t).lv = [.int k] ∧ P.underlying t = some (.int k)) ∨ ((ti t).lv = [.bool] ∧ P.underlying t = some .bool) ∨ ((ti t).lv = [.str] ∧ P.underlying t = some .string)) := by
  obtain ⟨d, h1, h2⟩ := (H t h).und
  unfold dOk at h2
  rw [hd] at h2
  obtain ⟨h3, h4⟩ := h2
  refine ⟨h3, ?_⟩
  rcases h4 with ⟨k, h5, rfl⟩ | ⟨h5, rfl⟩ | ⟨h5, rfl⟩
  · exact .inl ⟨k, h5, h1⟩
  · exact .inr (.inl ⟨h5, h1⟩)
  · exact .inr (.inr ⟨h5, h1⟩)

omit H in
/-- Bytes that read as a list of trees, loaded. -/
theorem run_load_bytes {im : Nat → Prop} {w : World} {e : TypeId} {τ : T} {A : Option Addr} {n cap : Nat} (hlv : (ti e).lv = [.int .u8]) (hag : (ti e).agg = false) (h : RL ti im w (.slice e) τ (.slice A n cap)) :
    (Conv.bytesToString (.slice A n cap)).run P w = .ok (.string ((τ.L.map T.I).foldl (fun r n => r.push (UInt8.ofNat n.toNat)) ByteArray.empty)) w := by
  cases h with
  | empty he =>
    cases A with
    | none => simp [Conv.bytesToString, he]
    | some a =>
      have := run_bytesToString (P := P) w a 0 cap [] (by simp [loadCells, loadCellsFrom])
      rw [this, he]
      rfl
  | @slice _ _ b o _ cs hb hc hn hcell hr =>
    have hsz : (ti e).size = 1 := by simp [TyI.size, hlv]
    refine run_bytesToString (P := P) w _ _ cap (τ.L.map T.I) ?_
    have := run_loadCells_at (P := P) w b o τ.L.length (fun j => .int .u8 (τ.L.getD j (.i 0)).I) (fun j hj => by
      have h1 := hcell j 0 hj (by omega)
      have h2 := hr j 0 hj (by omega)
      rw [hlv] at h2
      simp only [List.getD_cons_zero, TyI.leaf, hag, Bool.false_eq_true, if_false] at h2
      generalize cs j 0 = v at h1 h2
      cases h2 with
      | int _ _ =>
        rw [hsz] at h1
        simpa using h1)
    rw [this]
    congr 2
    apply List.ext_getElem
    · simp
    · intro j h1 h2
      simp at h1
      simp [h1]

theorem convK_ok {R : Type} {res : R} {c : Ctx} {s : St} {ts : List (Array Value)} {g : Gh} {w : World} (hs : Sim ti c s ts g w) {src dst : TypeId} {x : X} {vx : Value} {K : X → St → Option R}
    (h : convK ti src dst x s K = some res) (hx : RX ti g w x vx) : ∃ y v, K y s = some res ∧ (convert src dst vx).run P w = .ok v w ∧ RX ti g w y v := by
  unfold convK at h
  split at h
  · rename_i hc
    obtain ⟨hsok, hdok, hdl⟩ := hc
    have hdst := und_leaf H hdok hdl
    obtain ⟨sd, hsd, _⟩ := (H src hsok).und
    split at h
    · rename_i x0 k k' τ ha hlv
      obtain ⟨rfl, _, _⟩ := hx.int_inv
      have hu : P.underlying dst = some (.int k) := by
        rcases hdst.2 with ⟨k2, h5, h6⟩ | ⟨h5, _⟩ | ⟨h5, _⟩ <;> rw [hlv] at h5 <;> simp at h5
        rw [h5]; exact h6
      refine ⟨_, .int k (k.wrap τ.I), h, ?_, RX.int (wrap_ok _ _).1 (wrap_ok _ _).2⟩
      simp [convert, run_und hsd, run_und hu, Conv.intToInt]
    · rename_i x0 τ ha hlv
      obtain ⟨s1, rfl, e1⟩ := hx.str_inv
      have hu : P.underlying dst = some .string := by
        rcases hdst.2 with ⟨k2, h5, h6⟩ | ⟨h5, _⟩ | ⟨h5, h6⟩ <;> rw [hlv] at h5 <;> simp at h5
        exact h6
      exact ⟨_, .string s1, h, by simp [convert, run_und hsd, run_und hu], hx⟩
    · rename_i ha hlv _
      have hu : P.underlying dst = some .string := by
        rcases hdst.2 with ⟨k2, h5, h6⟩ | ⟨h5, _⟩ | ⟨h5, h6⟩ <;> rw [hlv] at h5 <;> simp at h5
        exact h6
      split at h
      · rename_i e hse
        obtain ⟨hus, heok, _, _⟩ := und_slice H hsok hse
        split at h
        · rename_i he
          obtain ⟨hag, helv⟩ := he
          have hue : P.underlying e = some (.int .u8) := by
            obtain ⟨d, h1, h2⟩ := (H e heok).und
            unfold dOk at h2
            rw [h1]
            split at h2
            · obtain ⟨_, h2⟩ := h2
              rcases h2 with ⟨k, h3, rfl⟩ | ⟨h3, rfl⟩ | ⟨h3, rfl⟩ <;> rw [helv] at h3 <;> simp at h3
              rw [h3]
            · obtain ⟨_, h3, _⟩ := h2; rw [helv] at h3; simp at h3
            · rw [hag] at h2; cases h2.1
            · rw [hag] at h2; cases h2.1
            · rcases h2.2.1 with h3 | h3 <;> (rw [helv] at h3; simp at h3)
          split at h
          · rename_i xs hel
            simp only [X.elems, Option.map_eq_some_iff] at hel
            obtain ⟨τ, hsn, rfl⟩ := hel
            have hrl := snap_ok hs hx hsn (im := fun _ => True) (fun _ _ => trivial) (fun _ _ _ _ => trivial)
            obtain ⟨A, n, cp, rfl⟩ : ∃ A n cp, vx = .slice A n cp := by
              cases hrl with
              | empty he => exact ⟨_, _, _, rfl⟩
              | slice cs hb hc hn hcell hr => exact ⟨_, _, _, rfl⟩
            have hrun := run_load_bytes (P := P) helv hag hrl
            refine ⟨_, _, h, by rw [run_convert_bytes_string w src dst e A n cp hus hue hu, hrun], .t (.str ?_)⟩
            rw [ByteArray.toList_eq, foldl_push]
            simp
          · cases h
        · cases h
      · cases h
    · cases h
  · cases h

end
end Go.KX
/- Operations: variables, structs, stores. -/
namespace Go.KX
open Go.RowKit

section
variable {P : Program} {ti : TypeId → TyI}

theorem zx_ok (g : Gh) (w : World) (l : Lt) : RX ti g w l.zx l.zv := by
  cases l with
  | int k => exact RX.int (min_le0 k) (max_ge0 k)
  | bool => exact RX.bool
  | str => exact .t (.str (by rw [ByteArray.toList_eq]; rfl))
  | slice e => exact .nil
  | ptr => exact .un
  | fn => exact .un
  | box e => exact .un
  | fnc g => exact .un

theorem zt_ok (im : Nat → Prop) (w : World) {l : Lt} (h : l.plain = true) : RL ti im w l l.zt l.zv := by
  cases l with
  | int k => exact .int (τ := .i 0) (min_le0 k) (max_ge0 k)
  | bool => exact .bool (τ := .b false)
  | str => exact .str (τ := .s []) (by rw [ByteArray.toList_eq]; rfl)
  | slice e => exact .empty rfl
  | ptr => simp [Lt.plain] at h
  | fn => simp [Lt.plain] at h
  | box e => simp [Lt.plain] at h
  | fnc g => simp [Lt.plain] at h

theorem RL.oneCell {im : Nat → Prop} {w : World} {l : Lt} {τ : T} {v : Value} (h : RL ti im w l τ v) : v.oneCell' = true := by cases h <;> rfl

theorem RX.oneCell {g : Gh} {w : World} {x : X} {v : Value} (h : RX ti g w x v) (hl : x.leafy = true) : v.oneCell' = true := by
  cases h with
  | t h => exact h.oneCell
  | un => simp [X.leafy] at hl
  | agg _ _ => simp [X.leafy] at hl
  | tup _ _ => simp [X.leafy] at hl
  | _ => rfl

theorem cells_ok {g : Gh} {w : World} {x : X} {v : Value} (h : RX ti g w x v) (hne : x ≠ .un) : v.cells.size = x.cells.length ∧ ∀ j, j < x.cells.length → RX ti g w (x.cells.getD j .un) (v.cells.getD j undef) := by
  cases h with
  | un => exact absurd rfl hne
  | agg hs hx => exact ⟨by simpa [Value.cells, X.cells] using hs, fun j hj => by simpa [Value.cells, X.cells] using hx j (by simpa [X.cells] using hj)⟩
  | t h =>
    have h1 : v.cells = #[v] := by cases h <;> rfl
    rw [h1]
    refine ⟨by simp [X.cells], fun j hj => ?_⟩
    have : j = 0 := by simpa [X.cells] using hj
    subst this
    simpa [X.cells] using RX.t h
  | tup hs hx =>
    refine ⟨by simp [X.cells, Value.cells], fun j hj => ?_⟩
    have : j = 0 := by simpa [X.cells] using hj
    subst this
    simpa [X.cells, Value.cells] using RX.tup hs hx
  | nil =>
    refine ⟨by simp [X.cells, Value.cells], fun j hj => ?_⟩
    have : j = 0 := by simpa [X.cells] using hj
    subst this
    simpa [X.cells, Value.cells] using RX.nil
  | own hn ha =>
    refine ⟨by simp [X.cells, Value.cells], fun j hj => ?_⟩
    have : j = 0 := by simpa [X.cells] using hj
    subst this
    simpa [X.cells, Value.cells] using RX.own hn ha
  | ref hn ha hl =>
    refine ⟨by simp [X.cells, Value.cells], fun j hj => ?_⟩
    have : j = 0 := by simpa [X.cells] using hj
    subst this
    simpa [X.cells, Value.cells] using RX.ref hn ha hl
  | pb hn =>
    refine ⟨by simp [X.cells, Value.cells], fun j hj => ?_⟩
    have : j = 0 := by simpa [X.cells] using hj
    subst this
    simpa [X.cells, Value.cells] using RX.pb hn
  | pa hn hi =>
    refine ⟨by simp [X.cells, Value.cells], fun j hj => ?_⟩
    have : j = 0 := by simpa [X.cells] using hj
    subst this
    simpa [X.cells, Value.cells] using RX.pa hn hi
  | pt cs hb hc hr =>
    refine ⟨by simp [X.cells, Value.cells], fun j hj => ?_⟩
    have : j = 0 := by simpa [X.cells] using hj
    subst this
    simpa [X.cells, Value.cells] using RX.pt cs hb hc hr
  | fn hs hx =>
    refine ⟨by simp [X.cells, Value.cells], fun j hj => ?_⟩
    have : j = 0 := by simpa [X.cells] using hj
    subst this
    simpa [X.cells, Value.cells] using RX.fn hs hx

theorem getD_splice {α : Type} (l m : List α) (o j : Nat) (d : α) (h : o + m.length ≤ l.length) :
    (l.take o ++ m ++ l.drop (o + m.length)).getD j d = if o ≤ j ∧ j < o + m.length then m.getD (j - o) d else l.getD j d := by
  have ho : (l.take o).length = o := by simp; omega
  by_cases h1 : j < o
  · rw [if_neg (by omega)]
    simp [List.getElem?_append, h1, show j < l.length by omega]
    have : j < min o l.length := by omega
    simp [this]
  · by_cases h2 : j < o + m.length
    · rw [if_pos ⟨by omega, h2⟩]
      simp only [List.getD_eq_getElem?_getD, List.append_assoc]
      rw [List.getElem?_append_right (by omega), ho, List.getElem?_append_left (by omega)]
    · rw [if_neg (by omega)]
      simp only [List.getD_eq_getElem?_getD]
      rw [List.getElem?_append_right (by simp; omega)]
      simp only [List.length_append, ho, List.getElem?_drop]
      congr 2
      omega

theorem getD_splice_arr (c : Array Value) (vs : List Value) (o j : Nat) (h : o + vs.length ≤ c.size) :
    ((c.toList.take o ++ vs ++ c.toList.drop (o + vs.length)).toArray).getD j undef = if o ≤ j ∧ j < o + vs.length then vs.getD (j - o) undef else c.getD j undef := by
  have := getD_splice c.toList vs o j undef (by simpa using h)
  simpa using this

theorem size_splice_arr (c : Array Value) (vs : List Value) (o : Nat) (h : o + vs.length ≤ c.size) : (c.toList.take o ++ vs ++ c.toList.drop (o + vs.length)).toArray.size = c.size := by
  simp; omega

variable (H : TabOk P ti)
include H

theorem alloc_ok {c : Ctx} {s : St} {ts : List (Array Value)} {g : Gh} {w : World} (hs : Sim ti c s ts g w) {t : TypeId} (hok : (ti t).ok = true) :
    ∃ v w' g', (Instr.alloc t true (.tuple #[])).run P w = .ok v w' ∧ Sim ti c (s.new (.box ((ti t).lv.map Lt.zx))) ts g' w' ∧ RX ti g' w' (.pb s.m.length 0) v := by
  obtain ⟨z, hz, hzc⟩ := run_zeroValue H hok w
  have hlen : z.cells.size = ((ti t).lv.map Lt.zx).length := by rw [← Array.length_toList, hzc]; simp
  obtain ⟨g', h1, h2, _⟩ := hs.newBox (xs := (ti t).lv.map Lt.zx) (vs := z.cells) t hlen (fun j hj => by
    have hj' : j < (ti t).lv.length := by simpa using hj
    have e1 : z.cells.getD j undef = ((ti t).lv.getD j .fn).zv := by
      have : z.cells.toList.getD j undef = ((ti t).lv.map Lt.zv).getD j undef := by rw [hzc]
      simpa [hj'] using this
    have e2 : ((ti t).lv.map Lt.zx).getD j .un = ((ti t).lv.getD j .fn).zx := by simp [hj']
    rw [e1, e2]
    exact zx_ok g w _)
  refine ⟨_, _, g', ?_, h1, h2⟩
  simp [Instr.alloc, hz, newVar, newRow]

omit H in
theorem box_ok {c : Ctx} {s : St} {ts : List (Array Value)} {g : Gh} {w : World} (hs : Sim ti c s ts g w) {t : TypeId} {x : X} {v : Value} (hx : RX ti g w x v) (hne : x ≠ .un) :
    ∃ v' w' g', (Instr.box t v).run P w = .ok v' w' ∧ Sim ti c (s.new (.box x.cells)) ts g' w' ∧ RX ti g' w' (.pb s.m.length 0) v' := by
  obtain ⟨h1, h2⟩ := cells_ok hx hne
  obtain ⟨g', h3, h4, _⟩ := hs.newBox (xs := x.cells) (vs := v.cells) t h1 h2
  refine ⟨_, _, g', ?_, h3, h4⟩
  simp [Instr.box, newVar, newRow]

theorem leaf_join {e : TypeId} (hok : (ti e).ok = true) (f : Nat → T) {j : Nat} (hj : j < (ti e).size) : (ti e).leaf ((ti e).join ((List.range (ti e).size).map f)) j = f j := by
  unfold TyI.leaf TyI.join
  cases ha : (ti e).agg with
  | true => simp [T.F, hj]
  | false =>
    have h1 := size_one H hok ha
    have : j = 0 := by omega
    subst this
    simp [h1]

omit H in
theorem RX.still {g g' : Gh} {w : World} (h : Still g g') {x : X} {v : Value} (hx : RX ti g w x v) : RX ti g' w x v :=
  hx.mor1 ⟨fun b hb => ⟨h.im b hb, rfl⟩, fun r r' hn hr => by cases hr; exact ⟨by rw [h.nr]; exact hn, by rw [h.loc], by rw [h.cap], by rw [h.len]⟩⟩

theorem storeK_ok {R : Type} {res : R} {c : Ctx} {s : St} {ts : List (Array Value)} {g : Gh} {w : World} (hs : Sim ti c s ts g w) {t : TypeId} {a x : X} {va vx : Value} {K : X → St → Option R}
    (h : storeK ti t a x s K = some res) (ha : RX ti g w a va) (hx : RX ti g w x vx) :
    ∃ s' w' g', K (.tup []) s' = some res ∧ (Instr.storeAt t va vx).run P w = .ok () w' ∧ Sim ti c s' ts g' w' := by
  unfold storeK at h
  simp only at h
  split at h
  case isFalse => cases h
  case isTrue hc =>
    obtain ⟨hok, hlen⟩ := hc
    cases ha with
    | @pb r off hn =>
      simp only at h
      split at h
      · rename_i hlf
        split at h
        · rename_i xs heq
          split at h
          · rename_i hfit
            have hne : x ≠ .un := fun e => by subst e; simp [X.cells, X.leafy] at hlf
            obtain ⟨c1, c2⟩ := cells_ok hx hne
            have h0 : RegOk ti g w r (.box xs) := heq ▸ hs.reg r hn
            cases h0 with
            | @box _ cs te ho hh hsz hxs =>
              have hvl : vx.cells.toList.length = x.cells.length := by simpa using c1
              have hone : ∀ v ∈ vx.cells.toList, v.oneCell' = true := by
                intro v hv
                obtain ⟨j, hj, rfl⟩ := List.getElem_of_mem hv
                have hj' : j < x.cells.length := by rw [← hvl]; exact hj
                have h5 := c2 j hj'
                have h6 : x.cells.getD j .un ∈ x.cells := by simp [hj']
                have := h5.oneCell (by simpa using (List.all_eq_true.1 hlf) _ h6)
                simpa [show j < vx.cells.size by omega] using this
              have hrun := run_storeCells_at P (g.loc r).1 ((g.loc r).2 + off) te vx.cells.toList 0 cs w hh (by rw [hvl]; omega) hone
              obtain ⟨h7, _⟩ := hs.write (r := r) (R := .box (xs.take off ++ x.cells ++ xs.drop (off + x.cells.length))) hn ho
                ((cs.toList.take ((g.loc r).2 + off + 0) ++ vx.cells.toList ++ cs.toList.drop ((g.loc r).2 + off + 0 + vx.cells.toList.length)).toArray) (fun m => by
                  refine .box (c := (cs.toList.take ((g.loc r).2 + off + 0) ++ vx.cells.toList ++ cs.toList.drop ((g.loc r).2 + off + 0 + vx.cells.toList.length)).toArray) (te := te) ho (setRow_heap w _ cs _ te _ hh) ?_ (fun j hj => ?_)
                  · rw [size_splice_arr _ _ _ (by rw [hvl]; omega)]
                    simp; omega
                  · have hj' : j < xs.length := by simp at hj; omega
                    have e0 := getD_splice_arr cs vx.cells.toList ((g.loc r).2 + off + 0) ((g.loc r).2 + j) (by rw [hvl]; omega)
                    rw [e0, getD_splice _ _ _ _ _ hfit]
                    by_cases hin : off ≤ j ∧ j < off + x.cells.length
                    · rw [if_pos hin, if_pos ⟨by omega, by omega⟩]
                      have := (c2 (j - off) (by omega)).mor1 m
                      have e1 : (g.loc r).2 + j - ((g.loc r).2 + off + 0) = j - off := by omega
                      have e2 : vx.cells.toList.getD (j - off) undef = vx.cells.getD (j - off) undef := by simp
                      rw [e1, e2]
                      exact this
                    · rw [if_neg hin, if_neg (by omega)]
                      exact (hxs j hj').mor1 m)
              refine ⟨_, _, g, h, ?_, h7⟩
              have hsz2 : vx.cells.size = (ti t).size := by omega
              simp only [Instr.storeAt, Instr.sureAddr, storeVar, Sem.run_bind, Sem.run_pure, Result.andThen_ok, run_sizeOf H hok, hsz2, ne_eq, not_true_eq_false, if_false]
              simpa using hrun
          · cases h
        · cases h
      · cases h
    | @pa e r idx off hn hi =>
      simp only at h
      split at h
      · rename_i hfit0
        obtain ⟨heok, hfit⟩ := hfit0
        have hne : x ≠ .un := fun e => by
          subst e
          simp only [X.cells] at h hlen
          cases hl : (List.drop off (ti _).lv).take [X.un].length with
          | nil => rw [hl] at h; simp [toTs] at h
          | cons l ls => rw [hl] at h; simp [toTs, X.snap] at h
        obtain ⟨c1, c2⟩ := cells_ok hx hne
        have hvl : vx.cells.toList.length = x.cells.length := by simpa using c1
        obtain ⟨τs, s', g', k1, k2, k3, k4, k5, k6⟩ := toTs_ok _ _ _ _ g vx.cells.toList h hs hvl (fun i hi => by simpa using c2 i hi)
        split at k1
        · rename_i e' xs heq
          split at k1
          · rename_i he
            obtain ⟨rfl, hix⟩ := he
            have hn' : r < g'.nr := by rw [k3.nr]; exact hn
            have h0 : RegOk ti g' w r (.arr e' xs) := heq ▸ k2.reg r hn'
            cases h0 with
            | arr h1 h2 h3 hm =>
              obtain ⟨cs, te, a1, a2, a3, a4⟩ := hm (by omega)
              have hone : ∀ v ∈ vx.cells.toList, v.oneCell' = true := by
                intro v hv
                obtain ⟨j, hj, rfl⟩ := List.getElem_of_mem hv
                have hj' : j < x.cells.length := by rw [← hvl]; exact hj
                have := (k6 j hj').oneCell
                simpa [show j < vx.cells.size by omega] using this
              have hb : (idx + 1) * (ti e').size ≤ g'.cap r * (ti e').size := Nat.mul_le_mul_right _ (by omega)
              rw [Nat.add_mul, Nat.one_mul] at hb
              have hfit2 : (g'.loc r).2 + idx * (ti e').size + off + 0 + vx.cells.toList.length ≤ cs.size := by rw [hvl]; omega
              have hrun := run_storeCells_at P (g'.loc r).1 ((g'.loc r).2 + idx * (ti e').size + off) te vx.cells.toList 0 cs w a2 hfit2 hone
              obtain ⟨h7, _⟩ := k2.write (r := r) (R := .arr e' (xs.set idx (setCells (ti e') (xs.getD idx (.i 0)) off τs))) hn' a1
                ((cs.toList.take ((g'.loc r).2 + idx * (ti e').size + off + 0) ++ vx.cells.toList ++ cs.toList.drop ((g'.loc r).2 + idx * (ti e').size + off + 0 + vx.cells.toList.length)).toArray) (fun m => by
                  refine .arr (by simpa using h1) (by simpa using h2) (by simpa using h3) (fun hp => ⟨_, te, a1, setRow_heap w _ cs _ te _ a2, ?_, fun i j hi2 hj => ?_⟩)
                  · rw [size_splice_arr _ _ _ hfit2]; exact a3
                  · have hi' : i < xs.length := by simpa using hi2
                    have e0 := getD_splice_arr cs vx.cells.toList _ ((g'.loc r).2 + i * (ti e').size + j) hfit2
                    rw [e0]
                    by_cases hidx : i = idx
                    · subst hidx
                      have e1 : (xs.set i (setCells (ti e') (xs.getD i (.i 0)) off τs)).getD i (.i 0) = setCells (ti e') (xs.getD i (.i 0)) off τs := by simp [hi']
                      rw [e1, setCells, leaf_join H heok _ hj]
                      by_cases hin : off ≤ j ∧ j < off + τs.length
                      · rw [if_pos hin, if_pos ⟨by omega, by omega⟩]
                        have := k6 (j - off) (by omega)
                        have e2 : (g'.loc r).2 + i * (ti e').size + j - ((g'.loc r).2 + i * (ti e').size + off + 0) = j - off := by omega
                        rw [e2]
                        have e3 : (List.take x.cells.length (List.drop off (ti e').lv)).getD (j - off) .fn = (ti e').lv.getD j .fn := by
                          have : off + (j - off) = j := by omega
                          simp [show j - off < x.cells.length by omega, this]
                        rw [e3] at this
                        exact this.mono m.im
                      · rw [if_neg hin, if_neg (by omega)]
                        exact (a4 i j hi' hj).mono m.im
                    · have e1 : (xs.set idx (setCells (ti e') (xs.getD idx (.i 0)) off τs)).getD i (.i 0) = xs.getD i (.i 0) := by
                        simp [List.getElem?_set_ne (Ne.symm hidx)]
                      rw [e1, if_neg (fun hin => ?_)]
                      · exact (a4 i j hi' hj).mono m.im
                      · rcases Nat.lt_or_gt_of_ne hidx with hlt | hgt
                        · have := Nat.mul_le_mul_right (ti e').size (show i + 1 ≤ idx by omega)
                          rw [Nat.add_mul, Nat.one_mul] at this
                          omega
                        · have := Nat.mul_le_mul_right (ti e').size (show idx + 1 ≤ i by omega)
                          rw [Nat.add_mul, Nat.one_mul] at this
                          omega)
              refine ⟨_, _, g', k1, ?_, h7⟩
              have hsz2 : vx.cells.size = (ti t).size := by omega
              simp only [Instr.storeAt, Instr.sureAddr, storeVar, Sem.run_bind, Sem.run_pure, Result.andThen_ok, run_sizeOf H hok, hsz2, ne_eq, not_true_eq_false, if_false]
              rw [← k3.loc]
              simpa using hrun
          · cases k1
        · cases k1
      · cases h
    | _ => simp at h

end
end Go.KX
