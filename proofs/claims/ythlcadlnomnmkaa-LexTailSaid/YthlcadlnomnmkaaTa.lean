/-
  The abstract values of the T-layer and their relation to the model's values and worlds.
-/
import Derived.WalkKit
import Derived.Deep.Quiet
namespace Go.TL
open Go

/-- An immutable value, as a tree: a scalar, a slice of elements (each of sz cells), a struct by its cells. -/
inductive T where
  | v (x : Value)
  | sl (sz : Nat) (es : List T)
  | ag (cs : List T)

instance : Inhabited T := ⟨.v undef⟩

def T.cells : T → List T
  | .ag cs => cs
  | t => [t]

abbrev Foot := Nat → Nat → Prop

/-- The value x stands for the tree t in the world w; the memory that is read lies in A. -/
inductive TRel (A : Foot) (w : World) : T → Value → Prop
  | v (x : Value) : TRel A w (.v x) x
  | ag (cs : List T) (arr : Array Value) (hs : arr.size = cs.length) (h1 : ∀ (i : Nat) y, arr[i]? = some y → y.oneCell' = true) (h : ∀ (i : Nat) c y, cs[i]? = some c → arr[i]? = some y → TRel A w c y) : TRel A w (.ag cs) (.agg arr)
  | nil (sz : Nat) : TRel A w (.sl sz []) (.slice none 0 0)
  | empty (sz : Nat) (a : Addr) : TRel A w (.sl sz []) (.slice (some a) 0 0)
  | sl (sz : Nat) (es : List T) (b off cap : Nat) (f : Nat → Value) (hcap : es.length ≤ cap)
      (hsz : ∀ (i : Nat) e, es[i]? = some e → e.cells.length = sz)
      (hA : ∀ i j, i < es.length → j < sz → A b (off + (i * sz + j)))
      (hw : ∀ i j, i < es.length → j < sz → w.cell? ⟨b, off + (i * sz + j), none⟩ = some (f (i * sz + j)))
      (h1 : ∀ i j, i < es.length → j < sz → (f (i * sz + j)).oneCell' = true)
      (h : ∀ (i : Nat) e (j : Nat) c, es[i]? = some e → e.cells[j]? = some c → TRel A w c (f (i * sz + j))) : TRel A w (.sl sz es) (.slice (some ⟨b, off, none⟩) es.length cap)

/-- Where an owned block lies: in the block b, from lo to hi. -/
structure Place where
  b : Nat
  lo : Nat
  hi : Nat

/-- A value in the course of a call. -/
inductive SV where
  | t (t : T)
  | sl (sz : Nat) (es : List T) (id : Nat)
  | ms (sz : Nat) (id off len : Nat)
  | cp (cs : List T) (off : Nat)
  | ref (id off : Nat)
  | tref (e : TypeId) (n id off : Nat)
  | rw (id len : Nat)
  | mp (id : Nat)
  | ag (cs : List SV)
  | tup (vs : List SV)
  | fn (f : FuncId) (caps : List SV)
  | ifc (ty : TypeId) (x : SV)
  | any

instance : Inhabited SV := ⟨.any⟩

def SV.cells : SV → List SV
  | .ag cs => cs
  | .t (.ag cs) => cs.map .t
  | x => [x]

/-- What an owned block holds. -/
inductive Blk where
  | cells (cs : List SV)
  | tail (n : Nat)
  | row (e : TypeId) (cs : List T)
  | map (kt vt : TypeId) (es : List (Value × T))
  | dead

instance : Inhabited Blk := ⟨.dead⟩

abbrev Heap := List Blk

def Blk.live : Blk → Bool
  | .dead => false
  | _ => true

/-- The slice value x has its spare cells, and no others, at the place p. -/
def OwnTail (p : Place) (sz : Nat) (x : Value) : Prop :=
  ∃ ad len cap, x = .slice ad len cap ∧ len ≤ cap ∧ (match ad with
    | none => len = 0 ∧ cap = 0 ∧ p.lo = p.hi
    | some a => a.block = p.b ∧ p.lo = a.off + len * sz ∧ p.hi = a.off + cap * sz ∧ a.spot = none)

/-- The memory's abstract state: what must not change, where the owned blocks lie, what they hold, the world. -/
structure M where
  A : Foot
  β : List Place
  H : Heap
  w : World

/-- How long the elements are that lie ahead of a block's end, where the block may move. -/
def tlOf : Option Blk → Option Nat
  | some (.tail n) => some n
  | some (.row _ cs) => some cs.length
  | _ => none

def NoTail (H : Heap) (id : Nat) : Prop := ∀ n, tlOf H[id]? ≠ some n

/-- The slice value x, of len cells, is the head of the place p and owns all of it. -/
def HeadOf (p : Place) (len : Nat) (x : Value) : Prop :=
  ∃ ad cap, x = .slice ad len cap ∧ len ≤ cap ∧ p.lo = 0 ∧ p.hi = cap ∧ (match ad with
    | none => cap = 0
    | some a => a = ⟨p.b, 0, none⟩ ∧ 0 < cap)

inductive SRel (m : M) : SV → Value → Prop
  | t (t : T) (x : Value) (h : TRel m.A m.w t x) : SRel m (.t t) x
  | sl (sz : Nat) (es : List T) (id : Nat) (x : Value) (p : Place) (h : TRel m.A m.w (.sl sz es) x) (hp : m.β[id]? = some p)
      (ho : ∀ n, tlOf m.H[id]? = some n → es.length ≤ n ∧ (es.length = n → OwnTail p sz x)) : SRel m (.sl sz es id) x
  | ms (sz id off len cap : Nat) (p : Place) (hp : m.β[id]? = some p) (hn : NoTail m.H id) (hc : len ≤ cap) (hh : p.lo + off + cap * sz ≤ p.hi) :
      SRel m (.ms sz id off len) (.slice (some ⟨p.b, p.lo + off, none⟩) len cap)
  | cp (cs : List T) (off b o : Nat) (f : Nat → Value) (h1 : ∀ j, j < cs.length → (f j).oneCell' = true) (hA : ∀ j, j < cs.length → m.A b (o + j)) (hw : ∀ j, j < cs.length → m.w.cell? ⟨b, o + j, none⟩ = some (f j))
      (h : ∀ (j : Nat) c, cs[j]? = some c → TRel m.A m.w c (f j)) : SRel m (.cp cs off) (.pointer (some ⟨b, o + off, none⟩))
  | ref (id off : Nat) (p : Place) (hp : m.β[id]? = some p) (hn : NoTail m.H id) : SRel m (.ref id off) (.pointer (some ⟨p.b, p.lo + off, none⟩))
  | tref (e : TypeId) (n id off : Nat) (p : Place) (hp : m.β[id]? = some p) (hn : NoTail m.H id) (h0 : p.lo = 0) (hs : m.w.shape? p.b = some (e, n)) : SRel m (.tref e n id off) (.pointer (some ⟨p.b, p.lo + off, none⟩))
  | rw (id len : Nat) (x : Value) (p : Place) (hp : m.β[id]? = some p) (hx : ∃ ad n c, x = .slice ad n c) (ho : ∀ n, tlOf m.H[id]? = some n → len ≤ n ∧ (len = n → HeadOf p len x)) : SRel m (.rw id len) x
  | mp (id : Nat) (p : Place) (hp : m.β[id]? = some p) (hn : NoTail m.H id) : SRel m (.mp id) (.map (some p.b))
  | ag (cs : List SV) (arr : Array Value) (hs : arr.size = cs.length) (h1 : ∀ (i : Nat) y, arr[i]? = some y → y.oneCell' = true) (h : ∀ (i : Nat) c y, cs[i]? = some c → arr[i]? = some y → SRel m c y) : SRel m (.ag cs) (.agg arr)
  | tup (cs : List SV) (arr : Array Value) (hs : arr.size = cs.length) (h : ∀ (i : Nat) c y, cs[i]? = some c → arr[i]? = some y → SRel m c y) : SRel m (.tup cs) (.tuple arr)
  | fn (f : FuncId) (cs : List SV) (arr : Array Value) (hs : arr.size = cs.length) (h : ∀ (i : Nat) c y, cs[i]? = some c → arr[i]? = some y → SRel m c y) : SRel m (.fn f cs) (.func (.func f) #[] arr)
  | ifc (ty : TypeId) (s : SV) (x : Value) (h : SRel m s x) : SRel m (.ifc ty s) (.iface ty x)
  | any (x : Value) : SRel m .any x

/-- The cells that the live blocks own. -/
def Own (m : M) : Foot := fun b o => ∃ (i : Nat) (p : Place) (k : Blk), m.β[i]? = some p ∧ m.H[i]? = some k ∧ k.live = true ∧ p.b = b ∧ p.lo ≤ o ∧ o < p.hi

/-- A cell that is there and may be written. -/
def Free (w : World) (b o : Nat) : Prop := (w.cell? ⟨b, o, none⟩).isSome = true ∧ w.frozen? ⟨b, o, none⟩ = false

/-- A block's content, at its place. -/
def BlkOk (m : M) (p : Place) : Blk → Prop
  | .cells cs => p.lo + cs.length ≤ p.hi ∧ (∀ o, p.lo ≤ o → o < p.hi → Free m.w p.b o) ∧ ∀ (j : Nat) c, cs[j]? = some c → ∃ y, m.w.cell? ⟨p.b, p.lo + j, none⟩ = some y ∧ y.oneCell' = true ∧ SRel m c y
  | .tail _ => ∀ o, p.lo ≤ o → o < p.hi → Free m.w p.b o
  | .row e cs => (p.lo = 0 ∧ cs.length ≤ p.hi ∧ (0 < p.hi → m.w.shape? p.b = some (e, p.hi))) ∧ (∀ o, p.lo ≤ o → o < p.hi → Free m.w p.b o) ∧ ∀ (j : Nat) c, cs[j]? = some c → ∃ y, m.w.cell? ⟨p.b, p.lo + j, none⟩ = some y ∧ y.oneCell' = true ∧ TRel m.A m.w c y
  | .map _ _ es => p.lo = 0 ∧ p.hi = 1 ∧ ∃ (a : Array MapEntry) (clock : Nat), m.w.heap[p.b]? = some (.map a clock) ∧ a.size = es.length ∧
      ∀ (i : Nat) k t (e : MapEntry), es[i]? = some (k, t) → a[i]? = some e → e.key = k ∧ TRel m.A m.w t e.val ∧ e.born < clock
  | .dead => True

def Place.apart (p q : Place) : Prop := p.b = q.b → p.hi ≤ q.lo ∨ q.hi ≤ p.lo ∨ p.hi ≤ p.lo ∨ q.hi ≤ q.lo

/-- The owned blocks hold what the heap says; they lie apart, and apart from what must not change. -/
structure HRel (m : M) : Prop where
  len : m.β.length = m.H.length
  blk : ∀ (i : Nat) p k, m.β[i]? = some p → m.H[i]? = some k → BlkOk m p k
  apart : ∀ (i j : Nat) p q k l, i ≠ j → m.β[i]? = some p → m.H[i]? = some k → m.β[j]? = some q → m.H[j]? = some l → k.live = true → l.live = true → p.apart q
  still : ∀ b o, m.A b o → ¬ Own m b o
  inA : ∀ b o, m.A b o → b < m.w.heap.size
  inO : ∀ (i : Nat) p k, m.β[i]? = some p → m.H[i]? = some k → k.live = true → p.lo < p.hi → p.b < m.w.heap.size

/-- What becomes of a name: its place stays; a tail may move when it grows. -/
def IdStep (h h' : Option Blk) (p p' : Place) : Prop :=
  match tlOf h with
  | some n => ∀ n', tlOf h' = some n' → n ≤ n' ∧ (n = n' → p' = p)
  | none => p' = p ∧ ∀ n', tlOf h' ≠ some n'

/-- What a stretch of a run may have done. -/
structure Step (m m' : M) : Prop where
  os : m'.w.os = m.w.os
  tape : m'.w.tape = m.w.tape
  output : m'.w.output = m.w.output
  size : m.w.heap.size ≤ m'.w.heap.size
  more : ∀ b o, m.A b o → m'.A b o
  fromA : ∀ b o, m'.A b o → m.A b o ∨ Own m b o ∨ m.w.heap.size ≤ b
  fromO : ∀ b o, Own m' b o → Own m b o ∨ m.w.heap.size ≤ b
  cell : ∀ b o, b < m.w.heap.size → ¬ Own m b o → m'.w.cell? ⟨b, o, none⟩ = m.w.cell? ⟨b, o, none⟩
  frozen : ∀ b o, b < m.w.heap.size → ¬ Own m b o → (m.w.cell? ⟨b, o, none⟩).isSome = true → m'.w.frozen? ⟨b, o, none⟩ = m.w.frozen? ⟨b, o, none⟩
  block : ∀ b, b < m.w.heap.size → (∀ o, ¬ Own m b o) → m'.w.heap[b]? = m.w.heap[b]?
  shape : ∀ b s, m.w.shape? b = some s → m'.w.shape? b = some s
  isSome : ∀ b o, b < m.w.heap.size → (m.w.cell? ⟨b, o, none⟩).isSome = true → (m'.w.cell? ⟨b, o, none⟩).isSome = true
  ids : ∀ (i : Nat) p, m.β[i]? = some p → ∃ p', m'.β[i]? = some p' ∧ IdStep m.H[i]? m'.H[i]? p p'

/-- The slots of a frame that are known. -/
abbrev Env := List (Nat × SV)

def Env.look : Env → Nat → Option SV
  | [], _ => none
  | (k, v) :: r, i => bif Nat.beq k i then some v else Env.look r i

/-- The slots hold what the environment says. -/
def ERel (m : M) (n : Nat) (env : Env) (tmps : Array Value) : Prop :=
  tmps.size = n ∧ ∀ i v, env.look i = some v → ∃ x, tmps[i]? = some x ∧ SRel m v x

inductive TExit where
  | normal
  | exit (id : Nat)
  | ret
  | panic (v : SV)

def ExRel (m : M) : TExit → Exit → Prop
  | .normal, .normal => True
  | .exit i, .exit j => i = j
  | .ret, .ret => True
  | .panic v, .panic ch => ∃ x, ch = [{ v := x, recovered := false }] ∧ SRel m v x
  | _, _ => False

abbrev TK := TExit → Env → Heap → Prop

def Post (m : M) (n : Nat) (K : TK) (e : Exit) (a : Act) (w : World) : Prop :=
  ∃ (m' : M) (env : Env) (te : TExit), m'.w = w ∧ Step m m' ∧ HRel m' ∧ ERel m' n env a.tmps ∧ a.defers = [] ∧ ExRel m' te e ∧ K te env m'.H

/-- The code c, from the slots env and the heap H on, ends as K says. -/
def TR (P : Program) (n : Nat) (c : Code) (env : Env) (H : Heap) (K : TK) : Prop :=
  ∀ (m : M) (a : Act), m.H = H → HRel m → ERel m n env a.tmps → a.defers = [] → c.wp P (Post m n K) a m.w

/-- A world in which all that was there is as it was. -/
structure Keeps (w w' : World) : Prop where
  os : w'.os = w.os
  tape : w'.tape = w.tape
  output : w'.output = w.output
  size : w.heap.size ≤ w'.heap.size
  block : ∀ b, b < w.heap.size → w'.heap[b]? = w.heap[b]?

/-- The operations that are left of a region: one after the other (q false); or, where each leaves the memory alone, in whatever order the region allows (q true). -/
def TO (q : Bool) (P : Program) (n : Nat) (all : Array Oper) (ops : List Oper) (env : Env) (H : Heap) (K : TK) : Prop :=
  ∀ (m : M) (a : Act), m.H = H → HRel m → ERel m n env a.tmps → a.defers = [] →
    match q with
    | false => wpList P all (Post m n K) ops a m.w
    | true => wpQuiet P all (Keeps m.w) (fun a' => ∃ env', ERel m n env' a'.tmps ∧ a'.defers = [] ∧ K .normal env' m.H) ops a

inductive Res where
  | ret (v : SV)
  | panic (v : SV)

def ResRel (m : M) : Res → Ending → Prop
  | .ret v, .returned x => SRel m v x
  | .panic v, .panicked ch => ∃ x, ch = [{ v := x, recovered := false }] ∧ SRel m v x
  | _, _ => False

def ARel (m : M) (args : List SV) (vs : Array Value) : Prop := vs.size = args.length ∧ ∀ (i : Nat) s x, args[i]? = some s → vs[i]? = some x → SRel m s x

/-- The function has a body, and is none that the model answers. -/
def Callable (P : Program) (f : FuncId) : Prop := ∃ fn, P.funcs[f]? = some fn ∧ (fn.name == "runtime.NumGoroutine") = false ∧ fn.body.isNone = false

/-- A call of the function f with arguments args in the heap H ends as R says. -/
def Sound (P : Program) (f : FuncId) (args : List SV) (H : Heap) (R : Res → Heap → Prop) : Prop :=
  Callable P f ∧ ∀ (m : M) (vs : Array Value), m.H = H → HRel m → ARel m args vs → Calls P f vs m.w fun e w' => ∃ (m' : M) (r : Res), m'.w = w' ∧ Step m m' ∧ HRel m' ∧ ResRel m' r e ∧ R r m'.H

end Go.TL
