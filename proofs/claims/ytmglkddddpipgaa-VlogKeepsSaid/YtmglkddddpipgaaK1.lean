/-
  A reckoner for a Go function's code (the symbolic executor), what its text means, and how its state stands to the machine: definitions and first laws.
-/
import Derived.Calls
import Derived.Orders
import Derived.Below
import Derived.MapKept
import Derived.LoopN
import Derived.Laws.Append
import Derived.Laws.AppendOwn
import Derived.Laws.OwnMore
import Derived.Deep.MidRow
import Derived.Great.BuildSlice
import Derived.Laws.Slices
import Derived.Laws.Strings
import Derived.Laws.StructEq
import Derived.Lib.ConvBytes
import Derived.Laws.BytesString
set_option linter.unusedVariables false
set_option linter.unusedSimpArgs false
namespace Go.Proofs.Ytmglkddddpipgaa.Sx
theorem oi {α : Type _} (a b : α) : (some a = some b) = (a = b) := Option.some.injEq a b

inductive Ty where
  | unit | int (k : IntKind) | bool | str | sl (e : Ty) | pair (a b : Ty)
  | pt (e : Ty)      -- a pointer to what changes no more
  | nd (e : Ty)      -- a tree of nodes that never change: what a node holds, two more trees, a number
  | ref (k : Nat)    -- an object of an arena: its place; none: no object (of an even one: a pointer; of an odd one: a map)
  deriving DecidableEq

inductive BT (α : Type) where
  | leaf | node (x : α) (l r : BT α) (k : Int)

abbrev Ty.den : Ty → Type
  | .unit => Unit | .int _ => Int | .bool => Bool | .str => List Int | .sl e => List e.den | .pair a b => a.den × b.den
  | .nd e => BT e.den
  | .pt e => Option e.den
  | .ref _ => Option Nat

def Ty.width : Ty → Nat
  | .unit => 0 | .pair a b => a.width + b.width | _ => 1

def Ty.flat : Ty → Bool
  | .sl _ => false | .nd _ => false | .pt _ => false | .ref _ => false | .pair a b => a.flat && b.flat | _ => true

def Ty.cells : Ty → List Ty
  | .unit => [] | .pair a b => a.cells ++ b.cells | t => [t]

def Ty.single : Ty → Bool
  | .unit => false | .pair _ _ => false | _ => true

structure ArT where
  t : Ty
  own : List (Nat × TypeId)
  deriving DecidableEq

class Arn where
  of : TypeId → Option Nat

structure D where
  t : Ty
  x : t.den

inductive L where
  | int (k : IntKind) (n : Int) | bool (b : Bool) | str (l : List Int) | nil (e : Ty) | leaf (e : Ty) | np (e : Ty) | nr (k : Nat)
  deriving DecidableEq

def L.ty : L → Ty
  | .int k _ => .int k | .bool _ => .bool | .str _ => .str | .nil e => .sl e | .leaf e => .nd e | .np e => .pt e | .nr k => .ref k

def L.d : L → D
  | .int k n => ⟨.int k, n⟩ | .bool b => ⟨.bool, b⟩ | .str l => ⟨.str, l⟩ | .nil e => ⟨.sl e, []⟩ | .leaf e => ⟨.nd e, .leaf⟩ | .np e => ⟨.pt e, none⟩ | .nr k => ⟨.ref k, none⟩

inductive A where
  | v (i : Nat) | l (c : L)
  deriving DecidableEq

inductive Pr where
  | ibin (op : BinOp) (k : IntKind)
  | icmp (op : BinOp) | scmp (op : BinOp) | bcmp (op : BinOp)
  | scat | not | neg (k : IntKind) | com (k : IntKind) | conv (k : IntKind) | s2b | b2s
  | len | inb | sidx | idx (e : Ty) | sub | ssub | app | apps | mk (e : Ty) (n : Nat)
  | min | max | eqs (neg : Bool) (n : Nat) | call (id : Nat)
  | mkz (e : Ty)      -- a list of zeros
  | isp (neg : Bool) | npp | pod (e : Ty) | mkp (e : Ty)      -- the same, of pointers to what changes no more
  | isn (neg : Bool) | nnl | nod (e : Ty) | mkn (e : Ty)      -- a tree: is it empty? it is not; what its node is; a node that is made
  | hget (e : Ty) (k : Nat) | hset (e : Ty) (k : Nat) | hnew (e : Ty) (k : Nat)      -- an object of an arena is read, is written, is made
  | mget (K V : Ty) (k : Nat) (ok : Bool) | mput (K V : Ty) (k : Nat) | mdel (K V : Ty) (k : Nat) | mlen (K V : Ty) (k : Nat)      -- a map: what a key is given; it is given; it is taken away; how many
  | cpy (e : Ty)      -- a list's beginning is written
  | isr (neg : Bool) | eqr (neg : Bool)                                              -- is there no object? are two the same?
  | upd (e : Ty) (off : Nat) | clr (e : Ty) | appn | appd | ful      -- an element is written; the rest is set to zero; an append to a list without room (of something); a list with a bound
  deriving DecidableEq

inductive IR where
  | ret (outs : List A)
  | jump (l : Nat) (outs : List A)
  | op (p : Pr) (args : List A) (k : IR)
  | ite (c : A) (a b : IR)
  | loop (init : List A) (tys : List Ty) (body : IR)
  | nilc (c : A) (a b : IR)
  | fail
  deriving DecidableEq

inductive SC where
  | a (x : A) (t : Ty) | nl (t : Ty) (e : TypeId) | own (i k : Nat) (t : Ty) (e : TypeId)
  | adr (β off : Nat) | el (x i : A) (e : Ty) (off : Nat) | fn (f : FuncId) (caps : List (Nat × Nat)) | nilp
  | nlp | lst (k : Nat) (ps : List (Nat × Nat)) (e : TypeId) | pel (β off : Nat)      -- lists of addresses: none, one of the call's own; an element's address
  | dsl (k : Nat) | del (k : Nat) (i : A) (off : Nat) | dvw (k : Nat) (lo : A)        -- a list of the call's own that may be written: itself, an element's address, what is behind a place
  | ful (i : Nat) (t : Ty)                                                             -- a list without room
  | ptl (x : A) (e : Ty) (off : Nat)                                                   -- an address within what changes no more
  | nel (x : A) (e : Ty) (off : Nat)                                                   -- an address within a node
  deriving DecidableEq

inductive SV where
  | unk | dead | one (c : SC) | agg (cs : List SC) | tup (vs : List (Bool × List SC))
  deriving DecidableEq

structure SS where
  n : Nat                                       -- how many slots
  slots : List (Nat × SV)                       -- the newest first; what is not told is dead
  saved : List (Nat × List (Nat × SV)) := []
  nb : Nat := 0                                 -- how many boxes
  boxes : List (Nat × List SC) := []            -- the newest first
  live : List Nat := []
  ntok : Nat := 0
  nv : Nat := 0
  facts : List (Nat × Bool) := []
  dyn : List (Nat × Option (Nat × Ty × TypeId)) := []     -- what lists are that may be written: the newest first
  ar : List (Nat × (ArT × A)) := []                       -- what arenas hold: the newest first
  hn : List (Nat × Nat) := []                             -- variables that are an arena's by their type
  out : List (Nat × Option (A × Nat)) := []               -- the object of an arena that stands open, as a variable: the newest first

structure Sig where
  id : Nat
  ins : List (Bool × Ty)
  outs : List (Bool × List (Ty × Option TypeId))
  ars : List (Nat × ArT) := []      -- the arenas that it is handed, and hands back

inductive Loc where
  | sl (i : Nat) | bx (β j : Nat) | dn (k : Nat) | ar (k : Nat)
  deriving DecidableEq

structure Head where
  lvl : Nat
  nv : Nat
  st : SS
  car : List Loc

inductive KI where
  | code (c : Code) | ops (ops : Array Oper) (l : List Nat) | blk (id : Nat) | loop (c : Code) (h : Head) | unr (c : Code) (n : Nat) | sc | stop | frame (fn : Func) (dst : Option Tmp)

inductive Ex where
  | norm | ret | exit (id : Nat)

inductive Task where
  | code (c : Code) | ops (ops : Array Oper) (l : List Nat) | dops (q : Bool) (ops : Array Oper) (l : List Nat) | res (e : Ex)

structure Cx where
  P : Program
  Γ : FuncId → Option Sig
  inl : FuncId → Bool
  nop : Bool := false            -- loops carry all that they may, unpruned
  unr : Nat → Bool := fun _ => false     -- a loop that is gone through round by round, by how many variables there are
  mt : FuncId → Bool := fun _ => false   -- a function whose result is a list that may be written
  mc : FuncId → FuncId → Option Nat := fun _ _ => none      -- a function that, handed another one, writes a list
  loc : List (Nat × ArT) := []           -- arenas of the call's own: empty when it begins, let go when it ends

noncomputable def look {α : Type} (l : List (Nat × α)) (i : Nat) : Option α :=
  List.rec none (fun p _ ih => bif Nat.beq p.1 i then some p.2 else ih) l

noncomputable abbrev nth {α : Type} (l : List α) : Nat → Option α :=
  List.rec (fun _ => none) (fun a _ ih n => Nat.rec (some a) (fun m _ => ih m) n) l

noncomputable abbrev fN {β : Type} (n : Nat) (k : Nat → β) : β := Nat.rec (k 0) (fun m _ => k (m + 1)) n

noncomputable abbrev fL {α β : Type} (l : List α) : (List α → β) → β :=
  List.rec (fun k => k []) (fun a _ ih k => ih fun l => k (a :: l)) l

abbrev pairs : List Ty → Ty
  | [] => .unit | [t] => t | t :: u :: ts => .pair t (pairs (u :: ts))

def offsOk : Nat → List Field → List Ty → Bool
  | _, [], [] => true
  | o, f :: fs, t :: ts => f.offset == o && offsOk (o + t.width) fs ts
  | _, _, _ => false

def tysOf (f : TypeId → Option Ty) : List Field → Option (List Ty)
  | [] => some []
  | x :: r => match f x.type, tysOf f r with | some t, some ts => some (t :: ts) | _, _ => none

def sizeT (P : Program) (t : TypeId) : Nat := ((P.info? t).map (·.size)).getD 0

def bytesT (P : Program) (t : TypeId) : Nat := ((P.info? t).map (·.bytes)).getD 0

def nodeOf (P : Program) (f : TypeId → Option Ty) (s : TypeId) : Option Ty :=
  match P.underlying s with
  | some (.struct fs) => match fs.toList with
    | [f0, f1, f2, f3] => match f f0.type, P.underlying f1.type, P.underlying f2.type, P.underlying f3.type with
      | some t, some (.pointer s1), some (.pointer s2), some (.int .i64) =>
        if s1 == s && s2 == s && f0.offset == 0 && f1.offset == t.width && f2.offset == t.width + 1 && f3.offset == t.width + 2 && sizeT P s == t.width + 3 then some t else none
      | _, _, _, _ => none
    | _ => none
  | _ => none

def ptrOf [Arn] (P : Program) (f : TypeId → Option Ty) (t : TypeId) : Option Ty :=
  match P.underlying t with
  | some (.map _ _) => if sizeT P t == 1 then (match Arn.of t with
    | some k => if k % 2 == 1 then some (.ref k) else none
    | none => none) else none
  | some (.pointer s) => if sizeT P t == 1 then (match Arn.of s with
    | some k => if k % 2 == 0 then some (.ref k) else none
    | none => match nodeOf P f s with
    | some u => some (.nd u)
    | none => match P.underlying s, f s with
      | some (.struct _), some u => if Nat.blt 0 u.width && sizeT P s == u.width then some (.pt u) else none
      | _, _ => none) else none
  | _ => none

def tyOf [Arn] (P : Program) : Nat → TypeId → Option Ty
  | 0, _ => none
  | n + 1, t =>
    match P.underlying t with
    | some (.int k) => if sizeT P t == 1 then some (.int k) else none
    | some .bool => if sizeT P t == 1 then some .bool else none
    | some .string => if sizeT P t == 1 then some .str else none
    | some (.slice e) => if sizeT P t == 1 then (match tyOf P n e with | some u => some (.sl u) | none => none) else none
    | some (.struct fs) => match tysOf (tyOf P n) fs.toList with
      | some ts => if offsOk 0 fs.toList ts && sizeT P t == (pairs ts).width then some (pairs ts) else none
      | none => none
    | _ => ptrOf P (tyOf P n) t

def typeOf [Arn] (P : Program) (t : TypeId) : Option Ty := tyOf P 9 t

def isAgg' (P : Program) (t : TypeId) : Bool :=
  match P.underlying t with | some (.struct _) | some (.array _ _) => true | _ => false

def elemOf' (P : Program) (t : TypeId) : Option TypeId :=
  match P.underlying t with | some (.slice e) => some e | _ => none

def elemsL (f : TypeId → List (Option TypeId)) : List Field → List (Option TypeId)
  | [] => []
  | x :: r => f x.type ++ elemsL f r

def elemIds (P : Program) : Nat → TypeId → List (Option TypeId)
  | 0, _ => []
  | n + 1, t => match P.underlying t with
    | some (.slice e) => [some e]
    | some (.struct fs) => elemsL (elemIds P n) fs.toList
    | _ => [none]

def SC.arg : SC → Option (A × Ty)
  | .a x t => some (x, t) | .own i _ t _ => some (.v i, .sl t) | .nl t _ => some (.l (.nil t), .sl t) | .ful i t => some (.v i, .sl t) | _ => none

def litOf (h : Option Ty) (e : Option TypeId) : Value → Option SC
  | .int k n => if decide (k.min ≤ n) && decide (n ≤ k.max) then some (.a (.l (.int k n)) (.int k)) else none
  | .bool b => some (.a (.l (.bool b)) .bool)
  | .string s => if s.size ≤ 1099511627776 then some (.a (.l (.str (s.data.toList.map fun b => (b.toNat : Int)))) .str) else none
  | .slice none 0 0 => match h, e with
    | some (.sl u), some e => some (.nl u e)
    | some (.sl u), none => some (.a (.l (.nil u)) (.sl u))
    | none, some _ => some .nlp
    | _, _ => none
  | .pointer none => match h with
    | some (.nd u) => some (.a (.l (.leaf u)) (.nd u))
    | some (.pt u) => some (.a (.l (.np u)) (.pt u))
    | some (.ref k) => if k % 2 == 0 then some (.a (.l (.nr k)) (.ref k)) else none
    | _ => some .nilp
  | .map none => match h with
    | some (.ref k) => if k % 2 == 1 then some (.a (.l (.nr k)) (.ref k)) else none
    | _ => none
  | _ => none

def litCells : List Ty → List (Option TypeId) → List Value → Option (List SC)
  | [], _, [] => some []
  | t :: ts, es, v :: vs => match litOf (some t) (es.head?.getD none) v, litCells ts es.tail vs with | some c, some cs => some (c :: cs) | _, _ => none
  | _, _, _ => none

def litSV [Arn] (P : Program) (h : Option TypeId) (v : Value) : Option SV :=
  match v with
  | .agg cs => match h.bind (typeOf P) with
    | some t => (litCells t.cells (elemIds P 9 (h.getD 0)) cs.toList).map .agg
    | none => none
  | .int _ _ | .bool _ | .string _ => (litOf none none v).map .one
  | v => (litOf (h.bind (typeOf P)) (h.bind (elemOf' P)) v).map .one

noncomputable def SS.boxAt (st : SS) (β : Nat) : Option (List SC) :=
  match Nat.blt β st.nb with
  | true => look st.boxes β
  | false => none

noncomputable def SS.slot (st : SS) (i : Nat) : Option SV :=
  match Nat.blt i st.n with
  | true => match look st.slots i with
    | some v => some v
    | none => some .dead
  | false => none

noncomputable def SS.ev [Arn] (P : Program) (st : SS) (h : Option TypeId) : Operand → Option SV
  | .tmp i => st.slot i
  | .const v => litSV P h v
  | .func f => some (.one (.fn f []))
  | .global _ => none

noncomputable def SS.dynAt (st : SS) (k : Nat) : Option (Nat × Ty × TypeId) := (look st.dyn k).getD none

noncomputable def SS.arAt (st : SS) (k : Nat) : Option (ArT × A) := look st.ar k
noncomputable def SS.outAt (st : SS) (k : Nat) : Option (A × Nat) := (look st.out k).getD none

noncomputable def SS.dynL (st : SS) (k : Nat) : Option (Nat × Ty × TypeId) := match st.live.contains k with | true => st.dynAt k | false => none

def SV.cells : SV → Option (List SC)
  | .one c => some [c] | .agg cs => some cs | _ => none

def SV.c1 : SV → Option SC
  | .one c => some c | _ => none

def args : List SC → Option (List A × List Ty)
  | [] => some ([], [])
  | c :: r => match c.arg, args r with | some (a, t), some (xs, ts) => some (a :: xs, t :: ts) | _, _ => none

def fieldOf (P : Program) (t : TypeId) (i : Nat) : Option (Nat × TypeId) :=
  match P.underlying t with
  | some (.struct fs) => (fs[i]?).map fun f => (f.offset, f.type)
  | _ => none

def mkSV (agg : Bool) (cs : List SC) : Option SV :=
  if agg then some (.agg cs) else match cs with | [c] => some (.one c) | _ => none

def take2 {α : Type} (cs : List α) (off n : Nat) : List α := (cs.drop off).take n

def setAt {α : Type} (cs : List α) (off : Nat) (v : List α) : List α := cs.take off ++ (v ++ cs.drop (off + v.length))

structure Δ where
  dst : Option Tmp
  sv : SV := .dead
  newb : Option (List SC) := none
  setb : Option (Nat × List SC) := none
  kill : Option Nat := none
  nt : Nat := 0                  -- how many tokens are new
  nv : Nat := 0                  -- how many variables are new
  dy : List (Nat × Option (Nat × Ty × TypeId)) := []      -- lists that may be written
  dr : List (Nat × (ArT × A)) := []                       -- what arenas hold

def toks (k : Nat) : Nat → List Nat
  | 0 => [] | n + 1 => k :: toks (k + 1) n

noncomputable def SS.app {β : Type} (st : SS) (δ : Δ) (k : SS → β) : β :=
  match st, δ with
  | ⟨n, sl, sv, nb, bx, lv, nt, nv, fa, dn, ar, hn, ou⟩, ⟨dst, v, newb, setb, kill, t, m, dy, dr⟩ =>
    let sl' := match dst with | some i => (i, v) :: sl | none => sl
    let bx1 := match setb with | some p => p :: bx | none => bx
    let bx2 := match newb with | some r => (nb, r) :: bx1 | none => bx1
    let lv1 := match kill with | some k => lv.filter (fun j => !Nat.beq j k) | none => lv
    fL (toks nt t ++ lv1) fun lv' => fL (dy ++ dn) fun dn' => fL (dr ++ ar) fun ar' =>
    fN (nv + m) fun nv' => fN (nt + t) fun nt' => fN (match newb with | some _ => nb + 1 | none => nb) fun nb' =>
    k ⟨n, sl', sv, nb', bx2, lv', nt', nv', fa, dn', ar', hn, ou⟩

inductive Eff where
  | go (e : Option (Pr × List A × List Ty)) (δ : Δ)
  | fail
  | enter (f : FuncId) (args : List SV)
  | brk (i : Nat)                     -- part on a bool
  | nilc (c : A) (yes no : Δ)         -- part on whether a list is nil

def eOne (o : Oper) (sv : SV) : Option Eff := some (.go none { dst := o.dst, sv })

def ePr (st : SS) (o : Oper) (p : Pr) (xs : List A) (t : Ty) : Option Eff :=
  some (.go (some (p, xs, [t])) { dst := o.dst, sv := .one (.a (.v st.nv) t), nv := 1 })

def boolSV (b : Bool) : SV := .one (.a (.l (.bool b)) .bool)

def isCmp : BinOp → Bool
  | .eql | .neq | .lss | .leq | .gtr | .geq => true
  | _ => false

def isShift : BinOp → Bool
  | .shl | .shr => true
  | _ => false

def isPtr : Option TypeDesc → Bool
  | some (.pointer _) => true | _ => false

def isMapT : Option TypeDesc → Bool
  | some (.map _ _) => true | _ => false

def isSlT : Option TypeDesc → Bool
  | some (.slice _) => true | _ => false

def isBoolT : Option TypeDesc → Bool
  | some .bool => true | _ => false

def foldI (op : BinOp) (k k' : IntKind) : A → A → Option SV
  | .l (.int _ x), .l (.int _ y) => if k = k' then
      match op with
      | .add => some (.one (.a (.l (.int k (k.wrap (x + y)))) (.int k)))
      | .eql => some (boolSV (decide (x = y)))
      | .neq => some (boolSV (!decide (x = y)))
      | .lss => some (boolSV (decide (x < y)))
      | .leq => some (boolSV (decide (x ≤ y)))
      | .gtr => some (boolSV (decide (y < x)))
      | .geq => some (boolSV (decide (y ≤ x)))
      | _ => none
    else none
  | _, _ => none

def doBinC (td : Option TypeDesc) (st : SS) (o : Oper) (op : BinOp) (cx cy : SC) : Option Eff :=
  match cx, cy with
  | .nilp, .nilp => if isPtr td then (match op with | .eql => eOne o (boolSV true) | .neq => eOne o (boolSV false) | _ => none) else none
  | .adr _ _, .a (.l (.np _)) _ => if isPtr td then (match op with | .eql => eOne o (boolSV false) | .neq => eOne o (boolSV true) | _ => none) else none
  | .adr _ _, .nilp => if isPtr td then (match op with | .eql => eOne o (boolSV false) | .neq => eOne o (boolSV true) | _ => none) else none
  | _, _ =>
    match cx.arg, cy.arg with
    | some (ax, tx), some (ay, ty) =>
      match tx, ty with
      | .int k, .int k' =>
        match foldI op k k' ax ay with
        | some sv => eOne o sv
        | none =>
        if isCmp op then (if k = k' then ePr st o (.icmp op) [ax, ay] .bool else none)
        else if k = k' || isShift op then ePr st o (.ibin op k) [ax, ay] (.int k) else none
      | .str, .str =>
        if isCmp op then ePr st o (.scmp op) [ax, ay] .bool
        else match op with | .add => ePr st o .scat [ax, ay] .str | _ => none
      | .bool, .bool => if isBoolT td then (match op with | .eql | .neq => ePr st o (.bcmp op) [ax, ay] .bool | _ => none) else none
      | .sl _, .sl _ =>
        if isSlT td then
        match cy, op with
        | .nl _ _, .eql => some (.nilc ax { dst := o.dst, sv := boolSV true } { dst := o.dst, sv := boolSV false })
        | .nl _ _, .neq => some (.nilc ax { dst := o.dst, sv := boolSV false } { dst := o.dst, sv := boolSV true })
        | _, _ => none
        else none
      | .nd _, .nd _ =>
        if isPtr td then
        match ay, op with
        | .l (.leaf _), .eql => ePr st o (.isn false) [ax] .bool
        | .l (.leaf _), .neq => ePr st o (.isn true) [ax] .bool
        | _, _ => none
        else none
      | .ref k, .ref k' =>
        if ((isPtr td && k % 2 == 0) || (isMapT td && k % 2 == 1)) && k == k' then
        match ax, ay, op with
        | .l (.nr _), .l (.nr _), .eql => eOne o (boolSV true)
        | .l (.nr _), .l (.nr _), .neq => eOne o (boolSV false)
        | _, .l (.nr _), .eql => ePr st o (.isr false) [ax] .bool
        | _, .l (.nr _), .neq => ePr st o (.isr true) [ax] .bool
        | _, _, _ => none
        else none
      | .pt _, .pt _ =>
        if isPtr td then
        match ax, ay, op with
        | .l (.np _), .l (.np _), .eql => eOne o (boolSV true)
        | .l (.np _), .l (.np _), .neq => eOne o (boolSV false)
        | _, .l (.np _), .eql => ePr st o (.isp false) [ax] .bool
        | _, .l (.np _), .neq => ePr st o (.isp true) [ax] .bool
        | _, _, _ => none
        else none
      | _, _ => none
    | _, _ => none

def eqOk (P : Program) : Nat → TypeId → Bool
  | 0, _ => false
  | n + 1, t => match P.underlying t with
    | some (.int _) | some .bool | some .string => true
    | some (.struct fs) => !P.stoodInHeld t && fs.toList.all fun f => f.name != "_" && eqOk P n f.type
    | _ => false

def doBin [Arn] (P : Program) (st : SS) (o : Oper) (op : BinOp) (t : TypeId) (x y : SV) : Option Eff :=
  match x, y with
  | .one cx, .one cy => doBinC (P.underlying t) st o op cx cy
  | .agg cx, .agg cy =>
    match args cx, args cy, typeOf P t with
    | some (ax, tx), some (ay, ty), some u =>
      if eqOk P 6 t && !P.eqGuardType P.depth t && isAgg' P t && tx == u.cells && ty == u.cells then
        match op with
        | .eql => ePr st o (.eqs false ax.length) (ax ++ ay) .bool
        | .neq => ePr st o (.eqs true ax.length) (ax ++ ay) .bool
        | _ => none
      else none
    | _, _, _ => none
  | _, _ => none

def zeroCells' [Arn] (P : Program) (t : TypeId) : Option (List SC) :=
  match typeOf P t, P.info? t with
  | some ty, some i => match i.zero with
    | some z => litCells ty.cells (elemIds P 9 t) z.cells.toList
    | none => none
  | _, _ => none

noncomputable def fillP [Arn] (P : Program) (st : SS) (place : Nat → Option (Nat × TypeId)) : List SC → List (Nat × Operand) → Option (List SC)
  | cs, [] => some cs
  | cs, (i, x) :: rest =>
    match place i with
    | none => none
    | some (off, t) =>
      match (st.ev P (some t) x).bind SV.cells with
      | some v => if v.length == sizeT P t && Nat.ble (off + v.length) cs.length then fillP P st place (setAt cs off v) rest else none
      | none => none

def rep {α : Type} (l : List α) : Nat → List α
  | 0 => [] | n + 1 => l ++ rep l n

def cellsL : List SV → Option (List SC)
  | [] => some []
  | v :: r => match v.cells, cellsL r with | some c, some cs => some (c ++ cs) | _, _ => none

def fits : List (Bool × Ty) → List SV → Bool
  | [], [] => true
  | (ag, t) :: ts, v :: vs => (match v, ag with
      | .agg cs, true => (match args cs with | some (_, us) => us == t.cells | none => false)
      | .one c, false => (match c.arg with | some (_, u) => [u] == t.cells | none => false)
      | _, _ => false) && fits ts vs
  | _, _ => false

def resCells : Nat → Nat → List (Ty × Option TypeId) → List SC
  | _, _, [] => []
  | i, k, (.sl t, some e) :: r => .own i k t e :: resCells (i + 1) (k + 1) r
  | i, k, (t, _) :: r => .a (.v i) t :: resCells (i + 1) k r

def nOwn : List (Ty × Option TypeId) → Nat
  | [] => 0
  | (.sl _, some _) :: r => nOwn r + 1
  | _ :: r => nOwn r

def resParts : Nat → Nat → List (Bool × List (Ty × Option TypeId)) → List (Bool × List SC)
  | _, _, [] => []
  | i, k, (ag, l) :: r => (ag, resCells i k l) :: resParts (i + l.length) (k + nOwn l) r

def resAll : List (Bool × List SC) → Option SV
  | [(ag, cs)] => mkSV ag cs
  | ps => some (.tup ps)

def thaw : List (Bool × List (Ty × Option TypeId)) → Option (Ty × TypeId)
  | [(false, [(.sl t, some e)])] => if t.flat then some (t, e) else none
  | _ => none

noncomputable def arArgs (st : SS) : List (Nat × ArT) → Option (List A)
  | [] => some []
  | (k, T) :: r => match st.arAt k, st.outAt k, arArgs st r with
    | some (T', x), none, some xs => if T' == T then some (x :: xs) else none
    | _, _, _ => none

def arNew : Nat → List (Nat × ArT) → List (Nat × (ArT × A))
  | _, [] => []
  | i, (k, T) :: r => (k, T, .v i) :: arNew (i + 1) r

noncomputable def doCall (X : Cx) (st : SS) (o : Oper) (f : FuncId) (vs : List SV) : Option Eff :=
  match X.Γ f with
  | some sig =>
    if fits sig.ins vs then
      match (cellsL vs).bind args, resAll (resParts st.nv st.ntok sig.outs) with
      | some (xs, _), some sv =>
        match sig.ars with
        | _ :: _ => match arArgs st sig.ars with
          | some as =>
            let l := (sig.outs.map (·.2)).flatten
            some (.go (some (.call sig.id, xs ++ as, l.map (·.1) ++ sig.ars.map fun q => .sl q.2.t)) { dst := o.dst, sv, nt := nOwn l, nv := l.length + sig.ars.length, dr := arNew (st.nv + l.length) sig.ars })
          | none => none
        | [] =>
        let l := (sig.outs.map (·.2)).flatten
        match X.mt f, thaw sig.outs with
        | true, some (t, e) => some (.go (some (.call sig.id, xs, l.map (·.1))) { dst := o.dst, sv := .one (.dsl st.ntok), nt := nOwn l, nv := l.length, dy := [(st.ntok, some (st.nv, t, e))] })
        | _, _ => some (.go (some (.call sig.id, xs, l.map (·.1))) { dst := o.dst, sv, nt := nOwn l, nv := l.length })
      | _, _ => none
    else none
  | none => if X.inl f then some (.enter f vs) else none

noncomputable def evA [Arn] (P : Program) (st : SS) (h : Option TypeId) (x : Operand) : Option (A × Ty) := ((st.ev P h x).bind SV.c1).bind SC.arg

def appTok (st : SS) (te : Ty) (e : TypeId) : SC → Option (Option Nat)
  | .own _ k t e' => if st.live.contains k && e' == e && t == te then some (some k) else none
  | .nl t _ => if t = te then some none else none
  | _ => none

def fulOf (te : Ty) : SC → Option A
  | .ful i t => if t = te then some (.v i) else none
  | _ => none

def adrsOf : List SC → Option (List (Nat × Nat))
  | [] => some []
  | .adr β off :: r => match adrsOf r with | some l => some ((β, off) :: l) | none => none
  | _ => none

def zero1 (P : Program) (t : TypeId) : Bool :=
  match P.info? t with
  | some i => (match i.zero with | some (.pointer none) => true | _ => false) && Nat.beq i.size 1 && Nat.ble i.bytes 256
  | none => false

def lstOf (st : SS) (e : TypeId) : SC → Option (List (Nat × Nat) × Option Nat)
  | .nlp => some ([], none)
  | .lst k ps e' => if st.live.contains k && e' == e then some (ps, some k) else none
  | _ => none

noncomputable def doAppendP [Arn] (P : Program) (st : SS) (o : Oper) (e t0 t1 : TypeId) (x y : Operand) : Option Eff :=
  match (st.ev P (some t0) x).bind SV.c1, (st.ev P (some t1) y).bind SV.c1, P.underlying t1 with
  | some cx, some (.lst _ qs _), some (.slice _) =>
    match lstOf st e cx with
    | some (ps, kl) => if zero1 P e && Nat.ble (ps ++ qs).length 1000 then
        fL (ps ++ qs) fun l => some (.go none { dst := o.dst, sv := .one (.lst st.ntok l e), kill := kl, nt := 1 }) else none
    | none => none
  | _, _, _ => none

noncomputable def doAppend [Arn] (P : Program) (st : SS) (o : Oper) (t0 t1 : TypeId) (x y : Operand) : Option Eff :=
  match P.underlying t0, typeOf P t0 with
  | some (.slice e), some (.sl te) =>
    match (st.ev P (some t0) x).bind SV.c1, evA P st (some t1) y with
    | some cx, some (ay, ty) =>
      if Nat.ble (bytesT P e) 256 && Nat.beq te.width (sizeT P e) && Nat.blt 0 te.width && (zeroCells' P e).isSome then
        match fulOf te cx, P.underlying t1, ty with
        | some ax, some (.slice _), .sl u => if u = te then some (.go (some (.appn, [ax, ay], [.sl te])) { dst := o.dst, sv := .one (.own st.nv st.ntok te e), nt := 1, nv := 1 }) else none
        | some _, _, _ => none
        | none, _, _ =>
        match appTok st te e cx, cx.arg with
        | some kl, some (ax, _) =>
          let δ : Δ := { dst := o.dst, sv := .one (.own st.nv st.ntok te e), kill := kl, nt := 1, nv := 1 }
          match P.underlying t1, ty with
          | some .string, .str => if te = .int .u8 then some (.go (some (.apps, [ax, ay], [.sl te])) δ) else none
          | some (.slice e1), .sl u => if u = te then some (.go (some (.app, [ax, ay], [.sl te])) δ) else none
          | _, _ => none
        | _, _ => none
      else none
    | _, _ => none
  | some (.slice e), none => doAppendP P st o e t0 t1 x y
  | _, _ => none

def zeroLit : Ty → Option L
  | .int k => some (.int k 0) | .bool => some (.bool false) | .str => some (.str []) | _ => none

def zeroOk : List SC → List Ty → Bool
  | [], [] => true
  | .a (.l l) t :: z, u :: ts => decide (t = u) && decide (zeroLit u = some l) && zeroOk z ts
  | .nl t _ :: z, .sl u :: ts => decide (t = u) && zeroOk z ts
  | _, _ => false

def zeroIs [Arn] (P : Program) (te : Ty) (e : TypeId) : Bool :=
  match zeroCells' P e with
  | some z => zeroOk z te.cells
  | none => false

def keyOk : Ty → TypeDesc → Bool
  | .int i, .int i' => i == i' | .str, .string => true | _, _ => false

noncomputable def mapOf [Arn] (P : Program) (st : SS) (t : TypeId) (k : Nat) : Option (ArT × A × Ty × Ty × TypeId) :=
  match P.underlying t, st.arAt k, st.outAt k with
  | some (.map kt et), some (T, a), none =>
    match typeOf P kt, typeOf P et, P.underlying kt with
    | some K, some V, some d =>
      if k % 2 == 1 && T.t == .sl (.pair K V) && V.single && !isAgg' P et && keyOk K d then some (T, a, K, V, et) else none
    | _, _, _ => none
  | _, _, _ => none

def dflL : Ty → Option L
  | .int k => some (.int k 0) | .bool => some (.bool false) | .str => some (.str []) | .ref k => some (.nr k) | _ => none

def zeroV [Arn] (P : Program) (V : Ty) (et : TypeId) : Bool :=
  match zeroCells' P et, dflL V, (P.info? et).bind (·.zero) with
  | some [.a (.l l) t], some l', some z => t == V && l == l' && (match z with | .int _ _ | .bool _ | .string _ | .pointer _ | .map _ => true | _ => false)
  | _, _, _ => false

noncomputable def mapKey [Arn] (P : Program) (st : SS) (t : TypeId) (m key : Operand) : Option (A × Nat × ArT × A × Ty × Ty × TypeId × A) :=
  match P.underlying t with
  | some (.map kt _) => match evA P st (some t) m, evA P st (some kt) key with
    | some (x, .ref k), some (y, K') => match mapOf P st t k with
      | some (T, a, K, V, et) => if K' = K then some (x, k, T, a, K, V, et, y) else none
      | none => none
    | _, _ => none
  | _ => none

noncomputable def opLookup [Arn] (P : Program) (st : SS) (o : Oper) (t : TypeId) (m key : Operand) (ok : Bool) : Option Eff :=
  match mapKey P st t m key with
  | some (x, k, T, a, K, V, et, y) =>
    if zeroV P V et then
      match ok with
      | true => some (.go (some (.mget K V k true, [a, x, y], [V, .bool])) { dst := o.dst, sv := .tup [(false, [.a (.v st.nv) V]), (false, [.a (.v (st.nv + 1)) .bool])], nv := 2 })
      | false => ePr st o (.mget K V k false) [a, x, y] V
    else none
  | none => none

noncomputable def opMapUpdate [Arn] (P : Program) (st : SS) (o : Oper) (t : TypeId) (m key val : Operand) : Option Eff :=
  match mapKey P st t m key with
  | some (x, k, T, a, K, V, et, y) =>
    match evA P st (some et) val with
    | some (v, V') => if V' = V then some (.go (some (.mput K V k, [a, x, y, v], [.sl T.t])) { dst := o.dst, sv := .dead, nv := 1, dr := [(k, T, .v st.nv)] }) else none
    | none => none
  | none => none

noncomputable def opDelete [Arn] (P : Program) (st : SS) (o : Oper) (t : TypeId) (m key : Operand) : Option Eff :=
  match mapKey P st t m key with
  | some (x, k, T, a, K, V, et, y) => some (.go (some (.mdel K V k, [a, x, y], [.sl T.t])) { dst := o.dst, sv := .tup [], nv := 1, dr := [(k, T, .v st.nv)] })
  | none => none

noncomputable def opMakeMap [Arn] (P : Program) (st : SS) (o : Oper) (t : TypeId) : Option Eff :=
  match ptrOf P (tyOf P 8) t with
  | some (.ref k) => match mapOf P st t k with
    | some (T, a, _, _, _) => match T.t with
      | .sl e => some (.go (some (.hnew T.t k, [a, .l (.nil e)], [.sl T.t, .ref k])) { dst := o.dst, sv := .one (.a (.v (st.nv + 1)) (.ref k)), nv := 2, dr := [(k, T, .v st.nv)] })
      | _ => none
    | none => none
  | _ => none

noncomputable def opMapLen [Arn] (P : Program) (st : SS) (o : Oper) (t : TypeId) (x : A) (k : Nat) : Option Eff :=
  match mapOf P st t k with
  | some (_, a, K, V, _) => ePr st o (.mlen K V k) [a, x] (.int .i64)
  | none => none

noncomputable def opAppD [Arn] (P : Program) (st : SS) (o : Oper) (t0 t1 : TypeId) (x y : Operand) : Option Eff :=
  match P.underlying t0, typeOf P t0, (st.ev P (some t0) x).bind SV.c1, evA P st (some t1) y, P.underlying t1 with
  | some (.slice e), some (.sl te), some cx, some (ay, .sl u), some (.slice _) =>
    if Nat.ble (bytesT P e) 256 && Nat.beq te.width (sizeT P e) && Nat.blt 0 te.width && (zeroCells' P e).isSome && u == te then
      match cx with
      | .dsl k => match st.dynL k with
        | some (i, t', e') => if t' == te && e' == e then some (.go (some (.app, [.v i, ay], [.sl te])) { dst := o.dst, sv := .one (.dsl st.ntok), kill := some k, nt := 1, nv := 1, dy := [(st.ntok, some (st.nv, te, e)), (k, none)] }) else none
        | none => none
      | .own i k t' e' => if st.live.contains k && t' == te && e' == e then some (.go (some (.appd, [.v i, ay], [.sl te])) { dst := o.dst, sv := .one (.dsl st.ntok), kill := some k, nt := 1, nv := 1, dy := [(st.ntok, some (st.nv, te, e)), (k, none)] }) else none
      | _ => none
    else none
  | _, _, _, _, _ => none

noncomputable def doBuiltin [Arn] (X : Cx) (st : SS) (o : Oper) (b : Builtin) (ts : List TypeId) (xs : List Operand) : Option Eff :=
  let P := X.P
  match b, xs, ts with
  | .len, [x], [t] =>
    match evA P st (some t) x with
    | some (a, ty) => match ty, P.underlying t with
      | .str, some .string => ePr st o .len [a] (.int .i64)
      | .sl _, some (.slice _) => ePr st o .len [a] (.int .i64)
      | .ref k, some (.map _ _) => opMapLen P st o t a k
      | _, _ => none
    | none =>
      match (st.ev P (some t) x).bind SV.c1, P.underlying t with
      | some (.lst _ ps _), some (.slice _) => if Nat.ble ps.length 1000 then eOne o (.one (.a (.l (.int .i64 (Int.ofNat ps.length))) (.int .i64))) else none
      | some .nlp, some (.slice _) => eOne o (.one (.a (.l (.int .i64 0)) (.int .i64)))
      | some (.dsl k), some (.slice _) => match st.dynL k with
        | some (i, _, _) => ePr st o .len [.v i] (.int .i64)
        | none => none
      | _, _ => none
  | .clear, [x], [t] =>
    match (st.ev P (some t) x).bind SV.c1, P.underlying t with
    | some (.dvw k lo), some (.slice e') => match st.dynL k with
      | some (i, te, e) => if e == e' && Nat.beq te.width (sizeT P e) && Nat.blt 0 te.width && zeroIs P te e then
          some (.go (some (.clr te, [.v i, lo], [.sl te])) { dst := o.dst, sv := .tup [], nv := 1, dy := [(k, some (st.nv, te, e))] }) else none
      | none => none
    | _, _ => none
  | .append, [x, y], [t0, t1] => if X.mt (1000000 + t0) then opAppD P st o t0 t1 x y else doAppend P st o t0 t1 x y
  | .delete, [m, x], [t, _] => opDelete P st o t m x
  | .copy, [x, y], [t, t'] =>
    match (st.ev P (some t) x).bind SV.c1, evA P st (some t') y, P.underlying t, P.underlying t' with
    | some (.dsl k), some (b, .sl u), some (.slice e'), some (.slice e'') => match st.dynL k with
      | some (i, te, e) => if e == e' && u == te && e'' == e' && Nat.beq te.width (sizeT P e) && Nat.blt 0 te.width && te.flat then
          some (.go (some (.cpy te, [.v i, b], [.sl te, .int .i64])) { dst := o.dst, sv := .one (.a (.v (st.nv + 1)) (.int .i64)), nv := 2, dy := [(k, some (st.nv, te, e))] }) else none
      | none => none
    | _, _, _, _ => none
  | .min, [x, y], _ =>
    match evA P st none x, evA P st none y with
    | some (a, .int k), some (c, .int k') => if k = k' then ePr st o .min [a, c] (.int k) else none
    | some (a, .str), some (c, .str) => ePr st o .min [a, c] .str
    | _, _ => none
  | .max, [x, y], _ =>
    match evA P st none x, evA P st none y with
    | some (a, .int k), some (c, .int k') => if k = k' then ePr st o .max [a, c] (.int k) else none
    | some (a, .str), some (c, .str) => ePr st o .max [a, c] .str
    | _, _ => none
  | _, _, _ => none

noncomputable def evL [Arn] (P : Program) (st : SS) : List Operand → List TypeId → Option (List SV)
  | [], [] => some []
  | x :: xs, t :: ts => match st.ev P (some t) x, evL P st xs ts with | some v, some vs => some (v :: vs) | _, _ => none
  | _, _ => none

noncomputable def capsOf [Arn] (P : Program) (st : SS) : List Operand → Option (List (Nat × Nat))
  | [] => some []
  | x :: r => match st.ev P none x, capsOf P st r with | some (.one (.adr β off)), some l => some ((β, off) :: l) | _, _ => none

noncomputable def SS.known (st : SS) (i : Nat) : Option Bool := look st.facts i

noncomputable def opPick [Arn] (P : Program) (st : SS) (o : Oper) (c a b : Operand) : Option Eff :=
  match st.ev P none c with
  | some (.one (.a (.l (.bool v)) _)) => (st.ev P (some o.type) (if v then a else b)).bind fun sv => eOne o sv
  | some (.one (.a (.v i) .bool)) =>
    match st.known i with
    | some v => (st.ev P (some o.type) (if v then a else b)).bind fun sv => eOne o sv
    | none => some (.brk i)
  | _ => none

def vars (i : Nat) : List Ty → List SC
  | [] => [] | t :: ts => .a (.v i) t :: vars (i + 1) ts

def Ty.nod (e : Ty) : List Ty := e.cells ++ [.nd e, .nd e, .int .i64]

noncomputable def opLoad [Arn] (P : Program) (st : SS) (o : Oper) (t : TypeId) (a : Operand) : Option Eff :=
  match st.ev P none a with
  | some (.one (.adr β off)) =>
    match st.boxAt β with
    | some row => if (P.underlying t).isSome && Nat.ble (off + sizeT P t) row.length then (mkSV (isAgg' P t) (take2 row off (sizeT P t))).bind fun sv => eOne o sv else none
    | none => none
  | some (.one (.el x i e off)) =>
    if (P.underlying t).isSome && Nat.ble (off + sizeT P t) e.cells.length then
      (mkSV (isAgg' P t) (take2 (vars st.nv e.cells) off (sizeT P t))).bind fun sv =>
        some (.go (some (.idx e, [x, i], e.cells)) { dst := o.dst, sv, nv := e.cells.length })
    else none
  | some (.one (.pel β off)) => if (P.underlying t).isSome && Nat.beq (sizeT P t) 1 && !isAgg' P t then eOne o (.one (.adr β off)) else none
  | some (.one (.ptl x e off)) =>
    if (P.underlying t).isSome && Nat.ble (off + sizeT P t) e.cells.length then
      (mkSV (isAgg' P t) (take2 (vars st.nv e.cells) off (sizeT P t))).bind fun sv =>
        some (.go (some (.pod e, [x], e.cells)) { dst := o.dst, sv, nv := e.cells.length })
    else none
  | some (.one (.nel x e off)) =>
    if (P.underlying t).isSome && Nat.ble (off + sizeT P t) e.nod.length then
      (mkSV (isAgg' P t) (take2 (vars st.nv e.nod) off (sizeT P t))).bind fun sv =>
        some (.go (some (.nod e, [x], e.nod)) { dst := o.dst, sv, nv := e.nod.length })
    else none
  | some (.one (.del k i off)) =>
    match st.dynL k with
    | some (x, e, _) =>
      if (P.underlying t).isSome && Nat.ble (off + sizeT P t) e.cells.length then
        (mkSV (isAgg' P t) (take2 (vars st.nv e.cells) off (sizeT P t))).bind fun sv =>
          some (.go (some (.idx e, [.v x, i], e.cells)) { dst := o.dst, sv, nv := e.cells.length })
      else none
    | none => none
  | _ => none

noncomputable def opStore [Arn] (P : Program) (st : SS) (o : Oper) (t : TypeId) (a x : Operand) : Option Eff :=
  match st.ev P none a with
  | some (.one (.adr β off)) =>
    match st.boxAt β, (st.ev P (some t) x).bind SV.cells with
    | some row, some v => if Nat.beq v.length (sizeT P t) && Nat.ble (off + v.length) row.length && Nat.blt 0 (sizeT P t) then
        fL (setAt row off v) fun row' => some (.go none { dst := o.dst, sv := .dead, setb := some (β, row') }) else none
    | _, _ => none
  | some (.one (.del k i off)) =>
    match st.dynL k, ((st.ev P (some t) x).bind SV.cells).bind args with
    | some (y, te, e), some (xs, ts) => if Nat.beq ts.length (sizeT P t) && ts == take2 te.cells off ts.length && Nat.blt 0 (sizeT P t) && Nat.ble (off + ts.length) te.width then
        some (.go (some (.upd te off, .v y :: i :: xs, [.sl te])) { dst := o.dst, sv := .dead, nv := 1, dy := [(k, some (st.nv, te, e))] }) else none
    | _, _ => none
  | _ => none

noncomputable def opConvert [Arn] (P : Program) (st : SS) (o : Oper) (src dst : TypeId) (x : Operand) : Option Eff :=
  match (st.ev P (some src) x).bind SV.c1 with
  | some c =>
    match c.arg with
    | some (a, ty) =>
      match P.underlying src, P.underlying dst, ty with
      | some (.int _), some (.int k), .int _ => ePr st o (.conv k) [a] (.int k)
      | some .string, some .string, .str => eOne o (.one c)
      | some .string, some (.slice e), .str => match P.underlying e with
        | some (.int .u8) => if Nat.beq (sizeT P e) 1 then ePr st o .s2b [a] (.sl (.int .u8)) else none
        | _ => none
      | some (.slice e), some .string, .sl (.int .u8) => match P.underlying e with
        | some (.int .u8) => ePr st o .b2s [a] .str
        | _ => none
      | _, _, _ => none
    | none => none
  | none => none

noncomputable def SS.dslOf [Arn] (st : SS) (P : Program) (t : TypeId) (x : Operand) : Option (Nat × Nat × Ty × TypeId) :=
  match (st.ev P (some t) x).bind SV.c1 with
  | some (.dsl k) => (st.dynL k).map fun y => (k, y)
  | _ => none

noncomputable def opSliceD [Arn] (P : Program) (st : SS) (o : Oper) (t : TypeId) (k i : Nat) (te : Ty) (e : TypeId) (lo hi mx : Option Operand) : Option Eff :=
  match lo, hi, mx, P.underlying t with
  | none, some h, none, some (.slice e') =>
    match evA P st none h with
    | some (h, .int _) =>
      if e == e' && Nat.beq te.width (sizeT P e') && Nat.blt 0 te.width && st.live.contains k then
        some (.go (some (.sub, [.v i, .l (.int .i64 0), h], [.sl te])) { dst := o.dst, sv := .one (.dsl st.ntok), kill := some k, nt := 1, nv := 1, dy := [(st.ntok, some (st.nv, te, e)), (k, none)] })
      else none
    | _ => none
  | some l, none, none, some (.slice e') =>
    match evA P st none l with
    | some (l, .int _) => if e == e' && Nat.beq te.width (sizeT P e') && Nat.blt 0 te.width then some (.go (some (.sub, [.v i, l], [.sl te])) { dst := o.dst, sv := .one (.dvw k l), nv := 1 }) else none
    | _ => none
  | _, _, _, _ => none

noncomputable def opSlice [Arn] (P : Program) (st : SS) (o : Oper) (t : TypeId) (x : Operand) (lo hi mx : Option Operand) : Option Eff :=
  match st.dslOf P t x with
  | some (k, i, te, e) => opSliceD P st o t k i te e lo hi mx
  | none =>
  match mx, evA P st (some t) x, (match lo with | some l => evA P st none l | none => some (.l (.int .i64 0), .int .i64)) with
  | some m, some (a, .sl te), some (l, .int _) =>
    match hi.bind (evA P st none), evA P st none m, P.underlying t with
    | some (h, .int _), some (m, .int _), some (.slice e') =>
      if Nat.beq te.width (sizeT P e') && Nat.blt 0 te.width then some (.go (some (.ful, [a, l, h, m], [.sl te])) { dst := o.dst, sv := .one (.ful st.nv te), nv := 1 }) else none
    | _, _, _ => none
  | none, some (a, ty), some (l, .int _) =>
      let xs : Option (List A) := match hi with
        | some h => match evA P st none h with | some (h, .int _) => some [a, l, h] | _ => none
        | none => some [a, l]
      match xs, ty, P.underlying t with
      | some xs, .str, some .string => ePr st o .ssub xs ty
      | some xs, .sl e, some (.slice e') => if Nat.beq e.width (sizeT P e') && Nat.blt 0 e.width then ePr st o .sub xs ty else none
      | _, _, _ => none
  | _, _, _ => none

noncomputable def opIndexD [Arn] (P : Program) (st : SS) (o : Oper) (t : TypeId) (x : Operand) (n : A) (e' : TypeId) : Option Eff :=
  match st.dslOf P t x with
  | some (k, i, te, e) => if e == e' && Nat.beq te.width (sizeT P e') && Nat.blt 0 te.width then some (.go (some (.inb, [.v i, n], [])) { dst := o.dst, sv := .one (.del k n 0) }) else none
  | none => none

noncomputable def opIndexAddr [Arn] (P : Program) (st : SS) (o : Oper) (t : TypeId) (x i : Operand) : Option Eff :=
  match evA P st (some t) x, evA P st none i, P.underlying t with
  | some (a, .sl e), some (n, .int _), some (.slice e') =>
    if Nat.beq e.width (sizeT P e') && Nat.blt 0 e.width then some (.go (some (.inb, [a, n], [])) { dst := o.dst, sv := .one (.el a n e 0) }) else none
  | none, some (.l (.int k n), .int _), some (.slice e') =>
    match (st.ev P (some t) x).bind SV.c1 with
    | some (.lst _ ps _) => if Nat.beq (sizeT P e') 1 && decide (0 ≤ n) then (nth ps n.toNat).bind fun p => eOne o (.one (.pel p.1 p.2)) else none
    | _ => opIndexD P st o t x (.l (.int k n)) e'
  | none, some (n, .int _), some (.slice e') => opIndexD P st o t x n e'
  | _, _, _ => none

noncomputable def opMakeSlice [Arn] (P : Program) (st : SS) (o : Oper) (t : TypeId) (l c : Operand) : Option Eff :=
  match P.underlying t, evA P st none l, evA P st none c with
  | some (.slice e), some (al, .int kl), some (ac, .int kc) =>
    match typeOf P e with
    | some te =>
      if al == ac && kl == kc && Nat.beq te.width (sizeT P e) && Nat.blt 0 te.width && zeroIs P te e && Nat.ble (bytesT P e) 256 then
        some (.go (some (.mkz te, [al], [.sl te])) { dst := o.dst, sv := .one (.dsl st.ntok), nt := 1, nv := 1, dy := [(st.ntok, some (st.nv, te, e))] })
      else none
    | none => none
  | _, _, _ => none

noncomputable def opBuildSlice [Arn] (P : Program) (st : SS) (o : Oper) (t : TypeId) (len : Nat) (parts : List (Nat × Operand)) : Option Eff :=
  match P.underlying t with
  | some (.slice e) =>
    match typeOf P e, zeroCells' P e with
    | some te, some z =>
      if Nat.beq te.width (sizeT P e) && Nat.blt 0 te.width && Nat.beq z.length te.width && Nat.ble (len * te.width) 16777216 then
        match (fillP P st (fun i => some (i * te.width, e)) (Sx.rep z len) parts).bind args with
        | some (xs, us) => if us == Sx.rep te.cells len then some (.go (some (.mk te len, xs, [.sl te])) { dst := o.dst, sv := .one (.own st.nv st.ntok te e), nt := 1, nv := 1 }) else none
        | none => none
      else none
    | none, _ =>
      if isPtr (P.underlying e) && zero1 P e && Nat.blt 0 len && Nat.ble len 1000 then
        match (fillP P st (fun i => some (i, e)) (Sx.rep [SC.nilp] len) parts).bind adrsOf with
        | some l => fL l fun l => some (.go none { dst := o.dst, sv := .one (.lst st.ntok l e), nt := 1 })
        | none => none
      else none
    | _, _ => none
  | _ => none

noncomputable def mcOf (X : Cx) (st : SS) (f : FuncId) (vs : List SV) (caps : List (Nat × Nat)) : Option (Nat × Nat × Nat × Ty × TypeId) :=
  match vs, caps with
  | [.one (.dsl k), .one (.fn g [])], [] => match X.mc f g with
    | some id => (st.dynL k).bind fun y => if y.2.1.flat then some (id, k, y) else none
    | none => none
  | _, _ => none

noncomputable def opCallV [Arn] (X : Cx) (st : SS) (o : Oper) (f : Operand) (xs : List Operand) (ts : List TypeId) : Option Eff :=
  match st.ev X.P none f with
  | some (.one (.fn f caps)) =>
    match evL X.P st xs ts with
    | some vs =>
      match mcOf X st f vs caps with
      | some (id, k, i, t, e) => some (.go (some (.call id, [.v i], [.sl t])) { dst := o.dst, sv := .tup [], nv := 1, dy := [(k, some (st.nv, t, e))] })
      | none => doCall X st o f (vs ++ caps.map fun p => .one (.adr p.1 p.2))
    | none => none
  | _ => none

noncomputable def notOf (st : SS) : A → Option Bool
  | .l (.bool b) => some (!b)
  | .v i => (st.known i).map (!·)
  | _ => none

noncomputable def stepOp [Arn] (X : Cx) (st : SS) (o : Oper) : Option Eff :=
  let P := X.P
  match o.op with
  | .move x | .assign x => (st.ev P (some o.type) x).bind fun sv => eOne o sv
  | .pick c a b => opPick P st o c a b
  | .alloc t => match zeroCells' P t with
    | some z => if Nat.beq z.length (sizeT P t) then some (.go none { dst := o.dst, sv := .one (.adr st.nb 0), newb := some z }) else none
    | none => none
  | .box t x => match (st.ev P (some t) x).bind SV.cells with
    | some v => match nodeOf P (tyOf P 8) t with
      | some e => match args v with
        | some (xs, ts) => if ts == e.nod then ePr st o (.mkn e) xs (.nd e) else none
        | none => none
      | none => some (.go none { dst := o.dst, sv := .one (.adr st.nb 0), newb := some v })
    | none => none
  | .build t parts => match zeroCells' P t, P.underlying t with
    | some z, some (.struct _) => (fillP P st (fieldOf P t) z parts.toList).bind fun cs => fL cs fun cs => eOne o (.agg cs)
    | _, _ => none
  | .buildSlice t len parts => opBuildSlice P st o t len parts.toList
  | .load t a => opLoad P st o t a
  | .store t a x => opStore P st o t a x
  | .nilCheck x =>
    match st.ev P none x with
    | some (.one (.adr β off)) => eOne o (.one (.adr β off))
    | some (.one (.el x i e off)) => eOne o (.one (.el x i e off))
    | some (.one (.del k i off)) => eOne o (.one (.del k i off))
    | some (.one (.fn f cs)) => eOne o (.one (.fn f cs))
    | some (.one (.pel β off)) => eOne o (.one (.pel β off))
    | some (.one (.ptl x e off)) => eOne o (.one (.ptl x e off))
    | some (.one (.nel x e off)) => eOne o (.one (.nel x e off))
    | some (.one (.a (.l (.np _)) (.pt _))) => some .fail
    | some (.one (.a (.l (.nr k)) (.ref _))) => if k % 2 == 0 then some .fail else none
    | some (.one (.a x (.ref k))) => match st.outAt k with
      | some (y, β) => if y == x && k % 2 == 0 then eOne o (.one (.adr β 0)) else none
      | none => none
    | some (.one (.a x (.pt e))) => some (.go (some (.npp, [x], [])) { dst := o.dst, sv := .one (.ptl x e 0) })
    | some (.one (.a x (.nd e))) => some (.go (some (.nnl, [x], [])) { dst := o.dst, sv := .one (.nel x e 0) })
    | some (.one .nilp) => some .fail
    | _ => none
  | .binOp op t x y _ =>
    match st.ev P (some t) x, st.ev P (some t) y with
    | some x, some y => doBin P st o op t x y
    | _, _ => none
  | .unOp op t x =>
    match evA P st (some t) x with
    | some (a, ty) => match op, ty with
      | .not, .bool => match notOf st a with | some b => eOne o (boolSV b) | none => ePr st o .not [a] .bool
      | .neg, .int k => ePr st o (.neg k) [a] (.int k)
      | .xor, .int k => ePr st o (.com k) [a] (.int k)
      | _, _ => none
    | none => none
  | .convert src dst x => opConvert P st o src dst x
  | .makeInterface _ _ => some .fail
  | .panic _ => some .fail
  | .makeFunc (.func f) first captured =>
    if Nat.beq first.size 0 then (capsOf P st captured.toList).bind fun caps => eOne o (.one (.fn f caps)) else none
  | .slice t x lo hi mx => opSlice P st o t x lo hi mx
  | .fieldAddr s x f =>
    match fieldOf P s f, st.ev P none x with
    | some (off', t), some (.one (.adr β off)) => if Nat.blt 0 (sizeT P t) then eOne o (.one (.adr β (off + off'))) else none
    | some (off', t), some (.one (.el x i e off)) => if Nat.blt 0 (sizeT P t) then eOne o (.one (.el x i e (off + off'))) else none
    | some (off', t), some (.one (.del k i off)) => if Nat.blt 0 (sizeT P t) then eOne o (.one (.del k i (off + off'))) else none
    | some (off', t), some (.one (.ptl x e off)) => if Nat.blt 0 (sizeT P t) then eOne o (.one (.ptl x e (off + off'))) else none
    | some (off', t), some (.one (.nel x e off)) => if Nat.blt 0 (sizeT P t) then eOne o (.one (.nel x e (off + off'))) else none
    | _, _ => none
  | .field s x f =>
    match fieldOf P s f, st.ev P (some s) x with
    | some (off, t), some (.agg cs) => if (P.underlying t).isSome && Nat.ble (off + sizeT P t) cs.length then (mkSV (isAgg' P t) (take2 cs off (sizeT P t))).bind fun sv => eOne o sv else none
    | _, _ => none
  | .indexAddr t x i => opIndexAddr P st o t x i
  | .index t x i =>
    match evA P st (some t) x, evA P st none i, P.underlying t with
    | some (a, .str), some (n, .int _), some .string => ePr st o .sidx [a, n] (.int .u8)
    | _, _, _ => none
  | .extract x k =>
    match st.ev P none x with
    | some (.tup vs) => match nth vs k with
      | some (ag, cs) => (mkSV ag cs).bind fun sv => eOne o sv
      | none => none
    | _ => none
  | .call c =>
    match c.callee with
    | .builtin b => doBuiltin X st o b c.argTypes.toList c.args.toList
    | .value f => opCallV X st o f c.args.toList c.argTypes.toList
    | _ => none
  | .makeSlice t l c => opMakeSlice P st o t l c
  | .makeMap t r => match r with | none => opMakeMap P st o t | some _ => none
  | .lookup t m x ok => opLookup P st o t m x ok
  | .mapUpdate t m x v => opMapUpdate P st o t m x v
  | _ => none

def svData : SV → Bool
  | .one (.a _ _) | .one (.own _ _ _ _) | .one (.nl _ _) => true
  | _ => false

def dsts : Code → List Nat
  | .region _ ops _ => ops.toList.filterMap (·.dst)
  | .seq a b => dsts a ++ dsts b
  | .cond _ a b => dsts a ++ dsts b
  | .block _ c | .loop c | .scope c => dsts c
  | .rangeFunc _ _ a b => dsts a ++ dsts b
  | _ => []

def hasStore : Code → Bool
  | .region _ ops _ => ops.toList.any fun o => match o.op with | .store .. => true | .call { callee := .value _, .. } => true | .call { callee := .builtin .clear, .. } => true | _ => false
  | .seq a b => hasStore a || hasStore b
  | .cond _ a b => hasStore a || hasStore b
  | .block _ c | .loop c | .scope c => hasStore c
  | _ => false

noncomputable def getLoc (st : SS) : Loc → Option SC
  | .sl i => (st.slot i).bind SV.c1
  | .bx β j => if Nat.blt β st.nb then (look st.boxes β).bind fun row => nth row j else none
  | .dn k => (st.dynAt k).map fun x => .a (.v x.1) (.sl x.2.1)
  | .ar k => (st.arAt k).map fun x => .a x.2 (.sl x.1.t)

noncomputable def setLoc (st : SS) (c : SC) : Loc → SS
  | .sl i => { st with slots := (i, .one c) :: st.slots }
  | .bx β j => match look st.boxes β with
    | some row => { st with boxes := (β, row.set j c) :: st.boxes }
    | none => st
  | .dn k => match c, st.dynAt k with
    | .a (.v i) _, some (_, t, e) => { st with dyn := (k, some (i, t, e)) :: st.dyn }
    | _, _ => st
  | .ar k => match c, st.arAt k with
    | .a x _, some (T, _) => { st with ar := (k, T, x) :: st.ar }
    | _, _ => st

def headCell (fz : Bool) (st : SS) (c : SC) (t : Ty) : SC × SS :=
  match (if fz then SC.nilp else c) with
  | .own _ k te e =>
    if st.live.contains k then (.own st.nv st.ntok te e, { st with live := st.ntok :: st.live.filter (fun j => !Nat.beq j k), ntok := st.ntok + 1, nv := st.nv + 1 })
    else (.a (.v st.nv) t, { st with nv := st.nv + 1 })
  | .nl te e => (.own st.nv st.ntok te e, { st with live := st.ntok :: st.live, ntok := st.ntok + 1, nv := st.nv + 1 })
  | _ => (.a (.v st.nv) t, { st with nv := st.nv + 1 })

noncomputable def genHead (fz : Bool) : List Loc → SS → Option (List A × List Ty × SS)
  | [], st => some ([], [], st)
  | l :: r, st =>
    match getLoc st l with
    | none => none
    | some c =>
      match c.arg with
      | none => none
      | some (a, t) =>
        match headCell fz st c t with
        | (c1, st1) =>
          match genHead fz r (setLoc st1 c1 l) with
          | some (xs, ts, s) => some (a :: xs, t :: ts, s)
          | none => none

noncomputable def jumpArgs (pb : Bool) (st hd : SS) : List Loc → Option (List A)
  | [] => some []
  | l :: r =>
    match getLoc st l, getLoc hd l with
    | some c, some h =>
      match c.arg, h.arg, jumpArgs pb st hd r with
      | some (a, t), some (_, t'), some xs =>
        if t == t' then
          match h, c with
          | .own _ _ _ e, .own _ k _ e' => if pb || st.live.contains k && e == e' then some (a :: xs) else none
          | .own _ _ _ _, .nl _ _ => some (a :: xs)
          | .own _ _ _ _, _ => if pb then some (a :: xs) else none
          | _, _ => some (a :: xs)
        else none
      | _, _, _ => none
    | _, _ => none

def nodup : List Nat → Bool
  | [] => true | a :: r => !r.contains a && nodup r

def A.inScope (nv : Nat) : A → Bool
  | .v i => Nat.blt i nv | .l _ => true

def SC.inScope (nv nb nt : Nat) (ct : List Nat) : SC → Bool
  | .a x _ => x.inScope nv
  | .own i k _ _ => Nat.blt i nv && Nat.blt k nt && !ct.contains k
  | .el x i _ _ => x.inScope nv && i.inScope nv
  | .nel x _ _ => x.inScope nv
  | .ptl x _ _ => x.inScope nv
  | .adr β _ => Nat.blt β nb
  | .fn _ caps => caps.all fun p => Nat.blt p.1 nb
  | .lst k ps _ => Nat.blt k nt && !ct.contains k && ps.all fun p => Nat.blt p.1 nb
  | .pel β _ => Nat.blt β nb
  | .dsl k => Nat.blt k nt && !ct.contains k
  | .del k i _ => Nat.blt k nt && !ct.contains k && i.inScope nv
  | .dvw k i => Nat.blt k nt && !ct.contains k && i.inScope nv
  | .ful i _ => Nat.blt i nv
  | _ => true

def SV.inScope (nv nb nt : Nat) (ct : List Nat) : SV → Bool
  | .one c => c.inScope nv nb nt ct
  | .agg cs => cs.all (SC.inScope nv nb nt ct)
  | .tup vs => vs.all fun p => p.2.all (SC.inScope nv nb nt ct)
  | _ => true

noncomputable def carOne (st hd : SS) (i : Nat) (l : Loc) : Option (A × Option (Nat × Option Nat)) :=
  match getLoc st l, getLoc hd l with
  | some c, some (.a (.v j) t) => match c.arg with
    | some (a, u) => if Nat.beq j i && u == t then some (a, none) else none
    | none => none
  | some (.own x k0 u e'), some (.own j k t e) => if Nat.beq j i && u == t && Nat.beq e e' && st.live.contains k0 then some (.v x, some (k, some k0)) else none
  | some (.nl u _), some (.own j k t _) => if Nat.beq j i && u == t then some (.l (.nil u), some (k, none)) else none
  | _, _ => none

noncomputable def carAll (st hd : SS) : Nat → List Loc → Option (List (A × Option (Nat × Option Nat)))
  | _, [] => some []
  | i, l :: r => match carOne st hd i l, carAll st hd (i + 1) r with
    | some x, some xs => some (x :: xs)
    | _, _ => none

def hdToks : List (A × Option (Nat × Option Nat)) → List Nat
  | [] => [] | (_, some (k, _)) :: r => k :: hdToks r | _ :: r => hdToks r

def srcToks : List (A × Option (Nat × Option Nat)) → List Nat
  | [] => [] | (_, some (_, some k)) :: r => k :: srcToks r | _ :: r => srcToks r

noncomputable def slotsOk (st hd : SS) (nv : Nat) (ct : List Nat) (car : List Loc) : Nat → Bool
  | 0 => true
  | i + 1 => slotsOk st hd nv ct car i && (car.contains (.sl i) || (match hd.slot i with
      | some .unk => true
      | some h => st.slot i == some h && h.inScope nv hd.nb hd.ntok ct
      | none => false))

noncomputable def rowOk (hd : SS) (nv : Nat) (ct : List Nat) (car : List Loc) (β : Nat) : Nat → List SC → List SC → Bool
  | _, [], [] => true
  | j, s :: ss, h :: hs => (car.contains (.bx β j) || (s == h && h.inScope nv hd.nb hd.ntok ct)) && rowOk hd nv ct car β (j + 1) ss hs
  | _, _, _ => false

noncomputable def boxesOk (st hd : SS) (nv : Nat) (ct : List Nat) (car : List Loc) : Nat → Bool
  | 0 => true
  | β + 1 => boxesOk st hd nv ct car β && (match look st.boxes β, look hd.boxes β with
      | some s, some h => rowOk hd nv ct car β 0 s h
      | none, none => true
      | _, _ => false)

noncomputable def dynsOk (st hd : SS) (nv : Nat) (ct : List Nat) (car : List Loc) : Nat → Bool
  | 0 => true
  | k + 1 => dynsOk st hd nv ct car k && (match hd.dynAt k with
      | none => true
      | some (i, t, e) => !ct.contains k && (match st.dynAt k with
        | some (j, u, e') => t == u && e == e' && (car.contains (.dn k) || Nat.beq i j && Nat.blt i nv)
        | none => false))

noncomputable def arsOk (st hd : SS) (nv : Nat) (car : List Loc) : Bool :=
  hd.ar.all (fun p => match hd.arAt p.1, st.arAt p.1 with
    | some (T, x), some (T', y) => T == T' && (car.contains (.ar p.1) || x == y && x.inScope nv)
    | _, _ => false) &&
  st.ar.all (fun p => hd.ar.any fun q => Nat.beq q.1 p.1) && hd.out.all (fun p => match hd.outAt p.1 with | none => true | some _ => false) && st.out.all (fun p => match st.outAt p.1 with | none => true | some _ => false)

def savedOk (nv nb nt : Nat) (ct : List Nat) (l : List (Nat × List (Nat × SV))) : Bool :=
  l.all fun q => q.2.all fun p => p.2.inScope nv nb nt ct

noncomputable def jumpTo (st hd : SS) (nv : Nat) (car : List Loc) : Option (List A) :=
  match carAll st hd nv car with
  | some l =>
    fL (hdToks l) fun ct => fL (srcToks l) fun src =>
    if Nat.beq st.n hd.n && nodup ct && nodup src && slotsOk st hd nv ct car hd.n && st.saved == hd.saved && savedOk nv hd.nb hd.ntok ct hd.saved && Nat.ble hd.nb st.nb && boxesOk st hd nv ct car hd.nb && dynsOk st hd nv ct car hd.ntok && (hd.dyn.all fun p => Nat.blt p.1 hd.ntok) && arsOk st hd nv car &&
      (hd.live.all fun k => Nat.blt k hd.ntok && (ct.contains k || (st.live.contains k && !src.contains k))) && (ct.all fun k => Nat.blt k hd.ntok) && Nat.beq hd.nv (nv + car.length)
    then some (l.map (·.1)) else none
  | none => none

def popTo (id : Nat) : List KI → Option (List KI)
  | .blk i :: K => if i = id then some K else popTo id K
  | .code _ :: K => popTo id K
  | .ops _ _ :: K => popTo id K
  | .loop _ _ :: K => popTo id K
  | .unr _ _ :: K => popTo id K
  | .sc :: K => popTo id K
  | .stop :: K => popTo id K
  | _ => none

def cutK : List KI → List KI
  | [] => [.stop]
  | .blk id :: K => .blk id :: .stop :: cutK K
  | .frame _ _ :: _ => [.stop]
  | _ :: K => cutK K

def stopAhead : List KI → Bool
  | [] => false
  | .stop :: _ => true
  | .frame _ _ :: _ => false
  | _ :: K => stopAhead K

def popRet : List KI → Option (Func × Option Tmp) × List KI
  | [] => (none, [])
  | .frame fn d :: K => (some (fn, d), K)
  | _ :: K => popRet K

noncomputable def resSV (P : Program) (st : SS) : List ResultVar → Option (List (Bool × List SC))
  | [] => some []
  | .tmp t :: r =>
    match st.slot t, resSV P st r with
    | some (.agg cs), some l => some ((true, cs) :: l)
    | some (.one c), some l => some ((false, [c]) :: l)
    | _, _ => none
  | .cell a t :: r =>
    match st.slot a, resSV P st r with
    | some (.one (.adr β off)), some l =>
      match st.boxAt β with
      | some row => if (P.underlying t).isSome && Nat.ble (off + sizeT P t) row.length && (isAgg' P t || Nat.beq (sizeT P t) 1) then some ((isAgg' P t, take2 row off (sizeT P t)) :: l) else none
      | none => none
    | _, _ => none

def resFits (st : SS) : List Nat → List SC → List (Ty × Option TypeId) → Bool
  | _, [], [] => true
  | used, c :: cs, (t, own) :: r =>
    (match c.arg with | some (_, u) => u == t | none => false) &&
    (match own, t, c with
      | some e, .sl _, .own _ k _ e' => e == e' && st.live.contains k && !used.contains k && resFits st (k :: used) cs r
      | some _, .sl _, .nl _ _ => resFits st used cs r
      | some _, .sl _, _ => false
      | _, _, _ => resFits st used cs r)
  | _, _, _ => false

def resFitsAll (st : SS) (rs : List (Bool × List SC)) (outs : List (Bool × List (Ty × Option TypeId))) : Bool :=
  rs.map (·.1) == outs.map (·.1) && rs.map (·.2.length) == outs.map (·.2.length) && resFits st [] (rs.map (·.2)).flatten (outs.map (·.2)).flatten

def jumpsTo (lv : Nat) : IR → List (List A)
  | .ret _ | .fail => []
  | .jump l outs => if l == lv then [outs] else []
  | .op _ _ k => jumpsTo lv k
  | .ite _ a b | .nilc _ a b => jumpsTo lv a ++ jumpsTo lv b
  | .loop _ _ b => jumpsTo lv b

def prune (lv nv : Nat) (b : IR) (locs : List Loc) : List Loc :=
  let js := jumpsTo lv b
  (locs.zipIdx.filter fun (_, j) => !(js.all fun outs => outs[j]? == some (.v (nv + j)))).map (·.1)

def arKeys : List (Nat × (ArT × A)) → List Nat → List Nat
  | [], acc => acc
  | p :: r, acc => arKeys r (if acc.contains p.1 then acc else p.1 :: acc)

noncomputable def loopLocs (st : SS) (c : Code) : List Loc :=
  let ds := dsts c
  ((List.range st.n).filter fun i => ds.contains i && (match st.slot i with | some sv => svData sv | none => false)).map .sl ++
  (if hasStore c then ((List.range st.nb).map fun β => match look st.boxes β with
    | some row => row.zipIdx.filterMap fun (cc, j) => if cc.arg.isSome then some (.bx β j) else none
    | none => []).flatten ++ (((List.range st.ntok).filter fun k => (st.dynAt k).isSome).map .dn) else []) ++ (arKeys st.ar []).map .ar

def SV.adr? : SV → Option Nat
  | .one (.adr β _) => some β | _ => none

noncomputable def moved (ds : List Nat) (st : SS) : List Nat :=
  (List.range st.n).filterMap fun i => if ds.contains i then (st.slot i).bind SV.adr? else none

noncomputable def clear (ds : List Nat) (locs : List Loc) (st : SS) : List (Nat × SV) :=
  ((List.range st.n).filter fun i => (match st.slot i with
    | some sv => (match sv.adr? with
      | some β => !ds.contains i && (moved ds st).contains β
      | none => ds.contains i && !locs.contains (.sl i) && !svData sv)
    | none => false)).map fun i => (i, .unk)

noncomputable def boxPair (st hd : SS) : Nat → Option (Nat × Nat)
  | 0 => none
  | i + 1 => match (hd.slot i).bind SV.adr?, (st.slot i).bind SV.adr? with
    | some β, some β' => if Nat.beq β β' then boxPair st hd i else some (β, β')
    | _, _ => boxPair st hd i

def SC.ren (β β' : Nat) : SC → Option SC
  | .adr γ o => if γ = β then none else if γ = β' then some (.adr β o) else some (.adr γ o)
  | .fn f caps => if caps.all fun p => p.1 != β && p.1 != β' then some (.fn f caps) else none
  | .lst k ps e => if ps.all fun p => p.1 != β && p.1 != β' then some (.lst k ps e) else none
  | .pel γ o => if γ = β || γ = β' then none else some (.pel γ o)
  | c => some c

def renL (β β' : Nat) : List SC → Option (List SC)
  | [] => some []
  | c :: r => match c.ren β β', renL β β' r with | some c, some r => some (c :: r) | _, _ => none

def SV.ren (β β' : Nat) : SV → SV
  | .one c => match c.ren β β' with | some c => .one c | none => .unk
  | .agg cs => match renL β β' cs with | some cs => .agg cs | none => .unk
  | .tup vs => if vs.all fun p => match renL β β' p.2 with | some cs => cs == p.2 | none => false then .tup vs else .unk
  | v => v

def renB (β β' : Nat) : List (Nat × List SC) → Option (List (Nat × List SC))
  | [] => some []
  | (γ, row) :: r => if γ = β || γ = β' then renB β β' r else
    match renL β β' row, renB β β' r with | some row, some r => some ((γ, row) :: r) | _, _ => none

noncomputable def noOut (st : SS) (β : Nat) : Bool := st.out.all fun p => match st.outAt p.1 with | some (_, γ) => !Nat.beq γ β | none => true

noncomputable def SS.ren {τ : Type} (st : SS) (β β' : Nat) (κ : SS → Option τ) : Option τ :=
  if Nat.beq β β' || !noOut st β || !noOut st β' then none else
  match st.boxAt β', st.boxAt β with
  | some row, some _ => match renL β β' row, renB β β' st.boxes with
    | some row, some bx => fL row fun row => fL bx fun bx =>
      fL (st.slots.map fun q => (q.1, q.2.ren β β')) fun sl => fL (st.saved.map fun q => (q.1, q.2.map fun r => (r.1, r.2.ren β β'))) fun sv =>
      κ { st with slots := sl, saved := sv, boxes := (β, row) :: bx }
    | _, _ => none
  | _, _ => none

noncomputable def headSS {β : Type} (ds : List Nat) (locs : List Loc) (st : SS) (k : SS → β) : β :=
  fL (clear ds locs st) fun cl => fL (cl ++ st.slots) fun sl => fL st.live fun lv => fN st.ntok fun nt => fN st.nv fun nv => fL st.boxes fun bx => fL st.dyn fun dy => fL st.ar fun ar =>
    k { n := st.n, slots := sl, saved := st.saved, nb := st.nb, boxes := bx, live := lv, ntok := nt, nv := nv, facts := [], dyn := dy, ar := ar, hn := st.hn, out := [] }

def enter (st : SS) (fn : Func) (vs : List SV) : SS :=
  { st with n := fn.ntmps, slots := vs.zipIdx.map fun (v, i) => (i, v), saved := (st.n, st.slots) :: st.saved }

def SS.fact (st : SS) (i : Nat) (b : Bool) : SS := match st with
  | ⟨n, sl, sv, nb, bx, lv, nt, nv, fa, dn, ar, hn, ou⟩ => ⟨n, sl, sv, nb, bx, lv, nt, nv, (i, b) :: fa, dn, ar, hn, ou⟩

def addOp (e : Option (Pr × List A × List Ty)) (k : Option IR) : Option IR :=
  match e, k with
  | some (p, xs, _), some k => some (.op p xs k)
  | none, some k => some k
  | _, none => none

def both (f : IR → IR → IR) : Option IR → Option IR → Option IR
  | some a, some b => some (f a b)
  | _, _ => none

def edgesOn (o : Oper) : List Nat := (o.after.toList.filter (Region.binds .any)).map (·.on)

def ancs : List Oper → List (List Nat) → List (List Nat)
  | [], acc => acc
  | o :: r, acc => ancs r ((edgesOn o ++ ((edgesOn o).map fun j => acc.getD (acc.length - 1 - j) []).flatten) :: acc)

def touches : Oper → Bool
  | { op := .load _ _, .. } | { op := .store _ _ _, .. } => true
  | _ => false

def stores : Oper → Bool
  | { op := .store _ _ _, .. } => true
  | _ => false

def callOk (X : Cx) (o : Oper) : Bool :=
  match o.op with
  | .call { callee := .builtin _, argTypes := ts, .. } => !(ts.toList.any fun t => X.mt (1000000 + t))
  | .call { callee := .value (.func f), .. } => (match X.Γ f with | some _ => true | none => false) && !X.mt f
  | .call _ => false
  | .binOp _ t _ _ _ => !isSlT (X.P.underlying t)
  | .select _ _ => false
  | .makeSlice _ _ _ => false
  | _ => true

def usesAr (X : Cx) (o : Oper) : Bool :=
  match o.op with
  | .lookup _ _ _ _ | .mapUpdate _ _ _ _ | .makeMap _ _ => true
  | .call { callee := .builtin .delete, .. } => true
  | .call { callee := .builtin .len, argTypes := ts, .. } => ts.toList.any fun t => isMapT (X.P.underlying t)
  | .call { callee := .value (.func f), .. } => match X.Γ f with | some sig => !sig.ars.isEmpty | none => true
  | .call { callee := .value _, .. } => true
  | _ => false

def chgsAr (X : Cx) (o : Oper) : Bool :=
  match o.op with
  | .mapUpdate _ _ _ _ | .makeMap _ _ => true
  | .call { callee := .builtin .delete, .. } => true
  | .call { callee := .value (.func f), .. } => match X.Γ f with | some sig => !sig.ars.isEmpty | none => true
  | .call { callee := .value _, .. } => true
  | _ => false

def rootOf (ops : Array Oper) (o : Oper) : Operand → Option Tmp
  | .tmp t => match (edgesOn o).find? (fun k => match ops[k]? with | some o' => o'.dst == some t | none => false) with
    | some k => match ops[k]? with
      | some o' => match o'.op with
        | .fieldAddr _ (.tmp b) _ => if ops.toList.all (fun o' => o'.dst != some b) then some b else none
        | _ => none
      | none => none
    | none => if ops.toList.all (fun o' => o'.dst != some t) then some t else none
  | _ => none

def addrOf : Oper → Option Operand
  | { op := .load _ a, .. } => some a
  | { op := .store _ a _, .. } => some a
  | _ => none

noncomputable def boxOf (st : SS) (ops : Array Oper) (o : Oper) : Option Nat :=
  match (addrOf o).bind (rootOf ops o) with
  | some b => match st.slot b with | some (.one (.adr β _)) => some β | _ => none
  | none => none

noncomputable def apart (st : SS) (ops : Array Oper) (o o' : Oper) : Bool :=
  match boxOf st ops o, boxOf st ops o' with
  | some β, some β' => !Nat.beq β β'
  | _, _ => false

noncomputable def drawOk (X : Cx) (st : SS) (ops : Array Oper) : Bool :=
  let l := ops.toList
  let an := (ancs l []).reverse
  let q := l.zip an
  l.all (callOk X) &&
  q.zipIdx.all fun ((o, a), i) => (edgesOn o).all (fun j => Nat.blt j i) &&
    q.zipIdx.all fun ((o', a'), j) =>
      (match o'.dst with | some d => !(o.looksAt ops).contains d || a.contains j || a'.contains i | none => true) &&
      (Nat.beq i j || ((match o.dst with | some d => o'.dst != some d | none => true) && (!(stores o && touches o') || a.contains j || a'.contains i || apart st ops o o') && (!(chgsAr X o && usesAr X o') || a.contains j || a'.contains i)))

def quiet (o : Oper) : Bool :=
  match o.op with
  | .move _ | .assign _ | .load _ _ | .indexAddr _ _ _ | .index _ _ _ | .binOp _ _ _ _ _ | .unOp _ _ _ | .convert _ _ _ | .fieldAddr _ _ _ | .field _ _ _ | .nilCheck _ => true
  | .call { callee := .builtin .len, .. } => true
  | _ => false

def quietOk : List Oper → Bool
  | [] => false
  | [o] => stores o
  | o :: r => quiet o && quietOk r

def lastOk (ops : Array Oper) : Bool :=
  quietOk ops.toList && (List.range (ops.size - 1)).all fun i => ((ancs ops.toList []).head?.getD []).contains i

def calm (rest : List Nat) (δ : Δ) : Bool :=
  (match δ.kill with | some _ => false | none => true) && (match rest, δ.dy with | [], _ => true | _, [] => true | _, _ => false)

def SC.frb (β : Nat) (x : A) (t : Ty) : SC → Option SC
  | .adr γ o => if γ = β then (if o = 0 then some (.a x t) else none) else some (.adr γ o)
  | .fn f caps => if caps.all fun p => p.1 != β then some (.fn f caps) else none
  | .lst k ps e => if ps.all fun p => p.1 != β then some (.lst k ps e) else none
  | .pel γ o => if γ = β then none else some (.pel γ o)
  | c => some c

def frbL (β : Nat) (x : A) (t : Ty) : List SC → Option (List SC)
  | [] => some []
  | c :: r => match c.frb β x t, frbL β x t r with | some c, some r => some (c :: r) | _, _ => none

def SV.frb (β : Nat) (x : A) (t : Ty) : SV → SV
  | .one c => match c.frb β x t with | some c => .one c | none => .unk
  | .agg cs => match frbL β x t cs with | some cs => .agg cs | none => .unk
  | .tup vs => if vs.all fun p => match frbL β x t p.2 with | some cs => cs == p.2 | none => false then .tup vs else .unk
  | v => v

def frbB (β : Nat) (x : A) (t : Ty) : List (Nat × List SC) → Option (List (Nat × List SC))
  | [] => some []
  | (γ, row) :: r => if γ = β then frbB β x t r else
    match frbL β x t row, frbB β x t r with | some row, some r => some ((γ, row) :: r) | _, _ => none

noncomputable def SS.frb (st : SS) (β : Nat) (e : Ty) (κ : List A → SS → Option IR) : Option IR :=
  match st.boxAt β with
  | some row => match args row, frbB β (.v st.nv) (.pt e) st.boxes with
    | some (xs, ts), some bx =>
      if ts == e.cells && Nat.blt 0 e.width && noOut st β then
        fL bx fun bx => fL (st.slots.map fun q => (q.1, q.2.frb β (.v st.nv) (.pt e))) fun sl => fL (st.saved.map fun q => (q.1, q.2.map fun r => (r.1, r.2.frb β (.v st.nv) (.pt e)))) fun sv =>
        fN (st.nv + 1) fun nv => κ xs { st with slots := sl, saved := sv, boxes := bx, nv := nv }
      else none
    | _, _ => none
  | none => none

noncomputable def boxArgs [Arn] (P : Program) (st : SS) : List (Bool × Ty) → List Operand → List TypeId → Option (Nat × Ty)
  | (ag, .pt e) :: ins, x :: xs, t :: ts => match ag, st.ev P (some t) x with
    | false, some (.one (.adr β 0)) => some (β, e)
    | _, _ => boxArgs P st ins xs ts
  | _ :: ins, _ :: xs, _ :: ts => boxArgs P st ins xs ts
  | _, _, _ => none

noncomputable def boxArg [Arn] (X : Cx) (st : SS) (o : Oper) : Option (Nat × Ty) :=
  match o.op with
  | .call { callee := .value f, args := xs, argTypes := ts } => match st.ev X.P none f with
    | some (.one (.fn f [])) => match X.Γ f with
      | some sig => boxArgs X.P st sig.ins xs.toList ts.toList
      | none => none
    | _ => none
  | _ => none

def boxRet : List (Bool × List SC) → List (Bool × List (Ty × Option TypeId)) → Option (Nat × Ty)
  | (false, [.adr β 0]) :: _, (false, [(.pt e, _)]) :: _ => some (β, e)
  | _ :: r, _ :: q => boxRet r q
  | _, _ => none

noncomputable def ownT (own : List (Nat × TypeId)) : Nat → List Ty → List (Ty × Option TypeId)
  | _, [] => []
  | c, t :: ts => (t, match t with | .sl _ => look own c | _ => none) :: ownT own (c + 1) ts

noncomputable def ownToks (st : SS) (row : List SC) : List (Nat × TypeId) → Option (List Nat)
  | [] => some []
  | (c, e) :: r => match nth row c, ownToks st row r with
    | some (.own _ k _ e'), some l => if e == e' && st.live.contains k && !l.contains k then some (k :: l) else none
    | some (.nl _ _), some l => some l
    | _, _ => none

noncomputable def SS.open (st : SS) (k : Nat) (x : A) (κ : Pr × List A × List Ty → SS → Option IR) : Option IR :=
  match st.arAt k, st.outAt k with
  | some (T, a), none =>
    if k % 2 == 0 then
      fL (resCells st.nv st.ntok (ownT T.own 0 T.t.cells)) fun row => fL (toks st.ntok (nOwn (ownT T.own 0 T.t.cells)) ++ st.live) fun lv =>
      fN (st.nv + T.t.cells.length) fun nv => fN (st.ntok + nOwn (ownT T.own 0 T.t.cells)) fun nt => fN (st.nb + 1) fun nb =>
      κ (.hget T.t k, [a, x], T.t.cells) { st with boxes := (st.nb, row) :: st.boxes, nb := nb, live := lv, nv := nv, ntok := nt, out := (k, some (x, st.nb)) :: st.out }
    else none
  | _, _ => none

noncomputable def SS.shut (st : SS) (β : Nat) (x : A) (k : Nat) (T : ArT) (κ : List A → SS → Option IR) : Option IR :=
  match st.boxAt β with
  | some row => match args row, frbB β x (.ref k) st.boxes, ownToks st row T.own with
    | some (xs, ts), some bx, some tk =>
      if ts == T.t.cells && Nat.blt 0 T.t.width && k % 2 == 0 then
        fL bx fun bx => fL (st.slots.map fun q => (q.1, q.2.frb β x (.ref k))) fun sl => fL (st.saved.map fun q => (q.1, q.2.map fun r => (r.1, r.2.frb β x (.ref k)))) fun sv =>
        fL (st.live.filter fun j => !tk.contains j) fun lv => κ xs { st with slots := sl, saved := sv, boxes := bx, live := lv }
      else none
    | _, _, _ => none
  | none => none

noncomputable def noOutX (st : SS) (k β : Nat) : Bool := st.out.all fun p => Nat.beq p.1 k || (match st.outAt p.1 with | some (_, γ) => !Nat.beq γ β | none => true)

noncomputable def SS.close (st : SS) (k : Nat) (κ : Pr × List A × List Ty → SS → Option IR) : Option IR :=
  match st.arAt k, st.outAt k with
  | some (T, a), some (x, β) => if noOutX st k β then st.shut β x k T fun xs st' => fN (st.nv + 1) fun nv => κ (.hset T.t k, a :: x :: xs, [.sl T.t]) { st' with nv := nv, ar := (k, T, .v st.nv) :: st.ar, out := (k, none) :: st.out } else none
  | _, _ => none

noncomputable def SS.push (st : SS) (β k : Nat) (κ : Pr × List A × List Ty → SS → Option IR) : Option IR :=
  match st.arAt k with
  | some (T, a) => if noOut st β then fN (st.nv + 1) fun r => st.shut β (.v r) k T fun xs st' => fN (st.nv + 2) fun nv => κ (.hnew T.t k, a :: xs, [.sl T.t, .ref k]) { st' with nv := nv, ar := (k, T, .v st.nv) :: st.ar } else none
  | none => none

noncomputable def pushAny (st : SS) : List (Nat × Nat) → Option (Nat × Nat)
  | [] => none
  | (β, k) :: r => match st.boxAt β, noOut st β with | some _, true => some (β, k) | _, _ => pushAny st r

noncomputable def openAny (st : SS) : List (Nat × Option (A × Nat)) → Option Nat
  | [] => none
  | (k, _) :: r => match st.outAt k with | some _ => some k | none => openAny st r

noncomputable def hint [Arn] (o : Oper) (st st' : SS) : SS :=
  match o.op with
  | .box t _ | .alloc t => match Arn.of t with
    | some k => match look st.ar k, Nat.beq st.nb st'.nb with
      | some _, false => if k % 2 == 0 then { st' with hn := (st.nb, k) :: st.hn } else st'
      | _, _ => st'
    | none => st'
  | _ => st'

noncomputable def hintAll [Arn] : List Oper → SS → SS
  | [], st => st
  | o :: r, st => match o.op, o.dst.bind st.slot with
    | .box t _, some (.one (.adr β 0)) | .alloc t, some (.one (.adr β 0)) => (match Arn.of t with
      | some k => (match look st.ar k with
        | some _ => if k % 2 == 0 then hintAll r { st with hn := (β, k) :: st.hn } else hintAll r st
        | none => hintAll r st)
      | none => hintAll r st)
    | _, _ => hintAll r st

def callArs (X : Cx) : List Oper → List Nat
  | [] => []
  | o :: r => (match o.op with
    | .call { callee := .value (.func f), .. } => (match X.Γ f with | some sig => sig.ars.map (·.1) | none => [])
    | _ => []) ++ callArs X r

noncomputable def openIn (st : SS) : List Nat → Option Nat
  | [] => none
  | k :: r => match st.outAt k with | some _ => some k | none => openIn st r

noncomputable def wantDraw (st : SS) (all : List Oper) : List Oper → Option (Nat × A)
  | [] => none
  | o :: r => match o.op with
    | .nilCheck (.tmp t) =>
      (match (match all.find? (fun o' => o'.dst == some t) with
        | some o' => (match o'.op with | .move (.tmp s) => some s | _ => none)
        | none => some t) with
      | some s => (match st.slot s with
        | some (.one (.a (.v i) (.ref k))) => (match st.outAt k with
          | some (.v i', _) => if Nat.beq i' i then wantDraw st all r else some (k, .v i)
          | _ => if k % 2 == 0 then some (k, .v i) else wantDraw st all r)
        | _ => wantDraw st all r)
      | none => wantDraw st all r)
    | _ => wantDraw st all r

noncomputable def wantOpen [Arn] (P : Program) (st : SS) (o : Oper) : Option (Nat × A) :=
  match o.op with
  | .nilCheck x => match st.ev P none x with
    | some (.one (.a (.v i) (.ref k))) => if k % 2 == 0 then some (k, .v i) else none
    | _ => none
  | _ => none

def SC.frz (k i : Nat) (t : Ty) (e : TypeId) : SC → SC
  | .dsl k' => match Nat.beq k' k with | true => .own i k t e | false => .dsl k'
  | c => c

def SV.frz (k i : Nat) (t : Ty) (e : TypeId) : SV → SV
  | .one c => .one (c.frz k i t e)
  | .agg cs => .agg (cs.map (SC.frz k i t e))
  | .tup vs => .tup (vs.map fun p => (p.1, p.2.map (SC.frz k i t e)))
  | v => v

noncomputable def SS.frz {β : Type} (st : SS) (k : Nat) (κ : SS → Option β) : Option β :=
  match st.dynL k with
  | some (i, t, e) =>
    fL (st.slots.map fun q => (q.1, q.2.frz k i t e)) fun sl => fL (st.saved.map fun q => (q.1, q.2.map fun r => (r.1, r.2.frz k i t e))) fun sv =>
    fL (st.boxes.map fun q => (q.1, q.2.map (SC.frz k i t e))) fun bx => fL ((k, none) :: st.dyn) fun dy =>
    κ { st with slots := sl, saved := sv, boxes := bx, dyn := dy }
  | none => none

noncomputable def dynIn (st : SS) : List SC → Option Nat
  | [] => none
  | .dsl k :: r => match st.dynL k with | some _ => some k | none => dynIn st r
  | _ :: r => dynIn st r

noncomputable def dynOps (st : SS) : List Operand → Option Nat
  | [] => none
  | .tmp i :: r => match (st.slot i).bind SV.cells with
    | some cs => match dynIn st cs with | some k => some k | none => dynOps st r
    | none => dynOps st r
  | _ :: r => dynOps st r

noncomputable def dynAny (st : SS) : Nat → Option Nat
  | 0 => none
  | k + 1 => match st.dynL k with | some _ => some k | none => dynAny st k

noncomputable def dynDst (st : SS) : List Nat → Option Nat
  | [] => none
  | i :: r => match (st.slot i).bind SV.cells with
    | some cs => match dynIn st cs with | some k => some k | none => dynDst st r
    | none => dynDst st r

inductive Gd where
  | yes | no | ask (i : Nat) | bad

noncomputable def guardOf (st : SS) (ops : Array Oper) : Option (Nat × Bool) → Gd
  | none => .yes
  | some (j, want) =>
    match ((ops[j]?).bind (·.dst)).bind st.slot with
    | some .dead => .no
    | some (.one (.a (.l (.bool v)) _)) => if v == want then .yes else .no
    | some (.one (.a (.v x) .bool)) =>
      match st.known x with
      | some v => if v == want then .yes else .no
      | none => .ask x
    | _ => .bad

def okδ (st : SS) (δ : Δ) : Bool :=
  (match δ.setb with | some (β, _) => Nat.blt β st.nb | none => true) && (match δ.kill with | some k => Nat.blt k st.ntok | none => true)

def dstOut (n : Nat) : Option Tmp → Bool
  | some d => !Nat.blt d n | none => false

noncomputable def hasLst (st : SS) : Code → Bool
  | .region _ ops _ => ops.toList.any fun o => match o.op with
    | .indexAddr _ (.tmp x) _ => (match st.slot x with | some (.one (.lst _ _ _)) => true | some (.one .nlp) => true | _ => false)
    | _ => false
  | .seq a b => hasLst st a || hasLst st b
  | .cond _ a b => hasLst st a || hasLst st b
  | .block _ c | .loop c | .scope c => hasLst st c
  | _ => false

noncomputable def runLoop (body : SS → Head → Option IR) (lv : Nat) (ds : List Nat) (st : SS) (pb fz : Bool) (locs : List Loc) : Option IR :=
  match genHead fz locs st with
  | some (xs, ts, hs) =>
    headSS ds locs hs fun hd =>
    match (if pb then some xs else jumpTo st hd st.nv locs) with
    | some xs =>
      match body hd ⟨lv, st.nv, hd, locs⟩ with
      | some b => some (.loop xs ts b)
      | none => none
    | none => none
  | none => none

noncomputable def go [Arn] (X : Cx) (top : Func) (sig : Sig) : Nat → Bool → Nat → Task → SS → List KI → Option IR
  | 0, _, _, _, _, _ => none
  | n + 1, pb, lv, t, st, K =>
    match t with
    | .code .skip => go X top sig n pb lv (.res .norm) st K
    | .code (.seq a b) => go X top sig n pb lv (.code a) st (.code b :: K)
    | .code (.region c0 ops draw) =>
      match pushAny st st.hn with
      | some (β, k) => st.push β k fun e st' => addOp (some e) (go X top sig n pb lv (.code (.region c0 ops draw)) st' K)
      | none =>
      match (if draw then openIn st (callArs X ops.toList) else none) with
      | some k => st.close k fun e st' => addOp (some e) (go X top sig n pb lv (.code (.region c0 ops draw)) st' K)
      | none =>
      match (if draw then wantDraw st ops.toList ops.toList else none) with
      | some (k, x) => if (callArs X ops.toList).contains k then none else (match st.outAt k with
        | some _ => st.close k fun e st' => addOp (some e) (go X top sig n pb lv (.code (.region c0 ops draw)) st' K)
        | none => st.open k x fun e st' => addOp (some e) (go X top sig n pb lv (.code (.region c0 ops draw)) st' K))
      | none =>
      match draw, dynAny st st.ntok with
      | true, some k => if lastOk ops && drawOk X st ops then fL (List.range ops.size) fun l => go X top sig n pb lv (.dops true ops l) st K else
        st.frz k fun st' => go X top sig n pb lv (.code (.region c0 ops draw)) st' K
      | true, none => if drawOk X st ops then fL (List.range ops.size) fun l => go X top sig n pb lv (.dops false ops l) st K else none
      | false, _ => fL (List.range ops.size) fun l => go X top sig n pb lv (.ops ops l) st K
    | .code (.cond c a b) =>
      match st.ev X.P none c with
      | some (.one (.a (.l (.bool v)) _)) => go X top sig n pb lv (.code (if v then a else b)) st K
      | some (.one (.a (.v i) .bool)) =>
        match st.known i with
        | some v => go X top sig n pb lv (.code (if v then a else b)) st K
        | none => both (.ite (.v i)) (go X top sig n pb lv (.code a) (st.fact i true) K) (go X top sig n pb lv (.code b) (st.fact i false) K)
      | _ => none
    | .code (.block id c) => go X top sig n pb lv (.code c) st (.blk id :: K)
    | .code (.loop c) =>
      match dynDst st (dsts c) with
      | some k => st.frz k fun st' => go X top sig n pb lv (.code (.loop c)) st' K
      | none =>
      match pushAny st st.hn with
      | some (β, k) => st.push β k fun e st' => addOp (some e) (go X top sig n pb lv (.code (.loop c)) st' K)
      | none =>
      match openAny st st.out with
      | some k => st.close k fun e st' => addOp (some e) (go X top sig n pb lv (.code (.loop c)) st' K)
      | none =>
      if hasLst st c || X.unr st.nv then go X top sig n pb lv (.code c) st (.unr c 63 :: K) else
      fL (loopLocs st c) fun ll =>
      if X.nop then runLoop (fun hd h => go X top sig n pb (lv + 1) (.code c) hd (.loop c h :: K)) lv (dsts c) st pb false ll else
      match runLoop (fun hd h => go X top sig n true (lv + 1) (.code c) hd (.loop c h :: cutK K)) lv (dsts c) st true false ll with
      | some (.loop _ _ b) => fL (prune lv st.nv b ll) fun l2 =>
        match runLoop (fun hd h => go X top sig n pb (lv + 1) (.code c) hd (.loop c h :: K)) lv (dsts c) st pb false l2 with
        | some r => some r
        | none => runLoop (fun hd h => go X top sig n pb (lv + 1) (.code c) hd (.loop c h :: K)) lv (dsts c) st pb true l2
      | _ => none
    | .code (.scope c) => go X top sig n pb lv (.code c) st (.sc :: K)
    | .code (.label _) => go X top sig n pb lv (.res .norm) st K
    | .code (.exit id) => go X top sig n pb lv (.res (.exit id)) st K
    | .code .ret => go X top sig n pb lv (.res .ret) st K
    | .code _ => none
    | .ops _ [] => go X top sig n pb lv (.res .norm) st K
    | .ops ops (i :: rest) =>
      match ops[i]? with
      | none => none
      | some o =>
        if dstOut st.n o.dst then none else
        match guardOf st ops o.guard with
        | .bad => none
        | .no => st.app { dst := o.dst, sv := .dead } fun st' => go X top sig n pb lv (.ops ops rest) st' K
        | .ask x => both (.ite (.v x)) (go X top sig n pb lv (.ops ops (i :: rest)) (st.fact x true) K) (go X top sig n pb lv (.ops ops (i :: rest)) (st.fact x false) K)
        | .yes =>
          match stepOp X st o with
          | none => match dynOps st o.op.operands.toList with
            | some k => st.frz k fun st' => go X top sig n pb lv (.ops ops (i :: rest)) st' K
            | none => match boxArg X st o with
              | some (β, e) => st.frb β e fun xs st' => addOp (some (.mkp e, xs, [.pt e])) (go X top sig n pb lv (.ops ops (i :: rest)) st' K)
              | none => match pushAny st st.hn with
                | some (β, k) => st.push β k fun e st' => addOp (some e) (go X top sig n pb lv (.ops ops (i :: rest)) st' K)
                | none => match wantOpen X.P st o with
                  | some (k, x) => match st.outAt k with
                    | some _ => st.close k fun e st' => addOp (some e) (go X top sig n pb lv (.ops ops (i :: rest)) st' K)
                    | none => st.open k x fun e st' => addOp (some e) (go X top sig n pb lv (.ops ops (i :: rest)) st' K)
                  | none => match openAny st st.out with
                    | some k => st.close k fun e st' => addOp (some e) (go X top sig n pb lv (.ops ops (i :: rest)) st' K)
                    | none => none
          | some (.go e δ) => if okδ st δ then st.app δ fun st' => addOp e (go X top sig n pb lv (.ops ops rest) (hint o st st') K) else none
          | some .fail => some .fail
          | some (.brk x) => both (.ite (.v x)) (go X top sig n pb lv (.ops ops (i :: rest)) (st.fact x true) K) (go X top sig n pb lv (.ops ops (i :: rest)) (st.fact x false) K)
          | some (.nilc c y z) => both (.nilc c) (st.app y fun st' => go X top sig n pb lv (.ops ops rest) st' K) (st.app z fun st' => go X top sig n pb lv (.ops ops rest) st' K)
          | some (.enter f vs) =>
            match X.P.funcs[f]? with
            | some fn =>
              match fn.body with
              | some c => if fn.name == "runtime.NumGoroutine" || Nat.blt fn.ntmps vs.length then none else go X top sig n pb lv (.code c) (enter st fn vs) (.frame fn o.dst :: .ops ops rest :: K)
              | none => none
            | none => none
    | .dops _ ops [] => go X top sig n pb lv (.res .norm) (hintAll ops.toList st) K
    | .dops q ops (i :: rest) =>
      match ops[i]? with
      | none => none
      | some o =>
        if dstOut st.n o.dst then none else
        match guardOf st ops o.guard with
        | .bad => none
        | .no => st.app { dst := o.dst, sv := .dead } fun st' => go X top sig n pb lv (.dops q ops rest) st' K
        | .ask x => both (.ite (.v x)) (go X top sig n pb lv (.dops q ops (i :: rest)) (st.fact x true) K) (go X top sig n pb lv (.dops q ops (i :: rest)) (st.fact x false) K)
        | .yes =>
          match stepOp X st o with
          | some (.go e δ) => if okδ st δ && (!q || calm rest δ) then st.app δ fun st' => addOp e (go X top sig n pb lv (.dops q ops rest) st' K) else none
          | some .fail => some .fail
          | some (.brk x) => both (.ite (.v x)) (go X top sig n pb lv (.dops q ops (i :: rest)) (st.fact x true) K) (go X top sig n pb lv (.dops q ops (i :: rest)) (st.fact x false) K)
          | _ => none
    | .res .norm =>
      match K with
      | [] => go X top sig n pb lv (.res .ret) st []
      | .code c :: K => go X top sig n pb lv (.code c) st K
      | .ops ops l :: K => go X top sig n pb lv (.ops ops l) st K
      | .blk _ :: K => go X top sig n pb lv (.res .norm) st K
      | .sc :: K => go X top sig n pb lv (.res .norm) st K
      | .stop :: _ => some .fail
      | .unr c (m + 1) :: K => go X top sig n pb lv (.code c) st (.unr c m :: K)
      | .unr _ 0 :: _ => none
      | .loop c h :: K => match boxPair st h.st h.st.n with
        | some (β, β') => st.ren β β' fun st' => go X top sig n pb lv (.res .norm) st' (.loop c h :: K)
        | none => match pushAny st st.hn with
          | some (β, k) => st.push β k fun e st' => addOp (some e) (go X top sig n pb lv (.res .norm) st' (.loop c h :: K))
          | none => match openAny st st.out with
            | some k => st.close k fun e st' => addOp (some e) (go X top sig n pb lv (.res .norm) st' (.loop c h :: K))
            | none => (if pb then jumpArgs pb st h.st h.car else jumpTo st h.st h.nv h.car).map (.jump h.lvl)
      | .frame fn d :: K => go X top sig n pb lv (.res .ret) st (.frame fn d :: K)
    | .res .ret =>
      if stopAhead K then some .fail else
      match popRet K with
      | (none, _) =>
        match dynAny st st.ntok with
        | some k => st.frz k fun st' => go X top sig n pb lv (.res .ret) st' K
        | none =>
        match pushAny st st.hn with
        | some (β, k) => st.push β k fun e st' => addOp (some e) (go X top sig n pb lv (.res .ret) st' K)
        | none =>
        match openAny st st.out with
        | some k => st.close k fun e st' => addOp (some e) (go X top sig n pb lv (.res .ret) st' K)
        | none =>
        match resSV X.P st top.results.toList with
        | some rs => match boxRet rs sig.outs with
          | some (β, e) => st.frb β e fun xs st' => addOp (some (.mkp e, xs, [.pt e])) (go X top sig n pb lv (.res .ret) st' K)
          | none => if resFitsAll st rs sig.outs then match args (rs.map (·.2)).flatten, arArgs st sig.ars with
              | some p, some as => some (.ret (p.1 ++ as))
              | _, _ => none
            else none
        | none => none
      | (some (fn, d), K') =>
        match st.saved, resSV X.P st fn.results.toList with
        | (m, σ) :: sv, some rs =>
          match resAll rs with
          | some v => if dstOut m d then none else SS.app { st with n := m, slots := σ, saved := sv } { dst := d, sv := v } fun st' => go X top sig n pb lv (.res .norm) st' K'
          | none => none
        | _, _ => none
    | .res (.exit id) =>
      match popTo id K with
      | some K' => go X top sig n pb lv (.res .norm) st K'
      | none => none

def entrySlots : Nat → Nat → List (Bool × Ty) → List (Nat × SV)
  | _, _, [] => []
  | j, i, (ag, t) :: r =>
    (j, if ag then .agg (vars i t.cells) else match vars i t.cells with | [c] => .one c | _ => .unk) :: entrySlots (j + 1) (i + t.cells.length) r

def entry (fn : Func) (sig : Sig) (loc : List (Nat × (ArT × A))) : SS :=
  { n := fn.ntmps, slots := entrySlots 0 0 sig.ins, nv := ((sig.ins.map fun p => p.2.cells).flatten).length + sig.ars.length, ar := arNew ((sig.ins.map fun p => p.2.cells).flatten).length sig.ars ++ loc }

noncomputable def sx [Arn] (X : Cx) (f : FuncId) (sig : Sig) : Option IR :=
  match X.P.funcs[f]? with
  | some fn => match fn.body with
    | some c => if fn.name == "runtime.NumGoroutine" || Nat.blt fn.ntmps sig.ins.length then none else go X fn sig 20000 false 0 (.code c) (entry fn sig (X.loc.map fun q => (q.1, q.2, .l (.nil q.2.t)))) []
    | none => none
  | none => none

end Go.Proofs.Ytmglkddddpipgaa.Sx

namespace Go.Proofs.Ytmglkddddpipgaa.Sx

def dflt : (t : Ty) → t.den
  | .unit => () | .int _ => (0 : Int) | .bool => false | .str => ([] : List Int) | .sl e => ([] : List e.den) | .pair a b => (dflt a, dflt b) | .nd e => (BT.leaf : BT e.den) | .pt e => (none : Option e.den) | .ref _ => (none : Option Nat)

def split : (t : Ty) → t.den → List D
  | .unit, _ => []
  | .int k, x => [⟨.int k, x⟩]
  | .bool, x => [⟨.bool, x⟩]
  | .str, x => [⟨.str, x⟩]
  | .sl e, x => [⟨.sl e, x⟩]
  | .nd e, x => [⟨.nd e, x⟩]
  | .pt e, x => [⟨.pt e, x⟩]
  | .ref k, x => [⟨.ref k, x⟩]
  | .pair a b, x => split a x.1 ++ split b x.2

def D.get (t : Ty) (d : D) : Option t.den := if h : d.t = t then some (h ▸ d.x) else none

def join1 (t : Ty) : List D → Option (t.den × List D)
  | [] => none
  | d :: l => match d.get t with | some x => some (x, l) | none => none

def join : (t : Ty) → List D → Option (t.den × List D)
  | .unit, l => some ((), l)
  | .pair a b, l => match join a l with
    | some (x, l1) => match join b l1 with
      | some (y, l2) => some ((x, y), l2)
      | none => none
    | none => none
  | .int k, l => join1 (.int k) l
  | .bool, l => join1 .bool l
  | .str, l => join1 .str l
  | .sl e, l => join1 (.sl e) l
  | .nd e, l => join1 (.nd e) l
  | .pt e, l => join1 (.pt e) l
  | .ref k, l => join1 (.ref k) l

def mkRows (e : Ty) : Nat → List D → Option (List e.den)
  | 0, [] => some []
  | 0, _ :: _ => none
  | n + 1, l => match join e l with
    | some (x, r) => match mkRows e n r with
      | some xs => some (x :: xs)
      | none => none
    | none => none

def toTup (ts : List Ty) (l : List D) : Option (pairs ts).den :=
  match join (pairs ts) l with | some (x, []) => some x | _ => none

def toE (e : Ty) (l : List D) : Option e.den :=
  match join e l with | some (x, []) => some x | _ => none

noncomputable abbrev A.ev (ρ : List D) : A → Option D
  | .v i => nth ρ i | .l c => some c.d

noncomputable def evs (ρ : List D) : List A → Option (List D)
  | [] => some []
  | a :: r => match a.ev ρ with
    | some d => match evs ρ r with
      | some ds => some (d :: ds)
      | none => none
    | none => none

inductive LS (σ R : Type) where
  | again (s : σ) | out (r : R)

def iterN {σ R : Type} (step : σ → Option (LS σ R)) : Nat → σ → Option R
  | 0, _ => none
  | n + 1, s => match step s with
    | some (.again s') => iterN step n s'
    | some (.out r) => some r
    | none => none

open Classical in
noncomputable def iter {σ R : Type} (step : σ → Option (LS σ R)) (s : σ) : Option R :=
  if h : ∃ n r, iterN step n s = some r then iterN step h.choose s else none

theorem iterN_mono {σ R : Type} {step : σ → Option (LS σ R)} : ∀ {n m : Nat} {s : σ} {r : R}, n ≤ m → iterN step n s = some r → iterN step m s = some r := by
  intro n; induction n with
  | zero => intro m s r _ h; simp [iterN] at h
  | succ n ih =>
    intro m s r hm h; obtain ⟨m, rfl⟩ : ∃ k, m = k + 1 := ⟨m - 1, by omega⟩
    simp only [iterN] at h ⊢; cases hs : step s with
    | none => simp [hs] at h
    | some x =>
      cases x with
      | again s' => simp only [hs] at h ⊢; exact ih (by omega) h
      | out r' => simp only [hs] at h ⊢; exact h

theorem iter_some {σ R : Type} {step : σ → Option (LS σ R)} {s : σ} {r : R} (h : iter step s = some r) : ∃ n, iterN step n s = some r := by
  unfold iter at h; split at h
  · exact ⟨_, h⟩
  · simp at h

theorem iter_of {σ R : Type} {step : σ → Option (LS σ R)} {s : σ} {r : R} {n : Nat} (h : iterN step n s = some r) : iter step s = some r := by
  have hx : ∃ n r, iterN step n s = some r := ⟨n, r, h⟩
  unfold iter; rw [dif_pos hx]; obtain ⟨r', hr'⟩ := hx.choose_spec; have h1 := iterN_mono (Nat.le_max_left n hx.choose) h
  have h2 := iterN_mono (Nat.le_max_right n hx.choose) hr'
  rw [h1] at h2; rw [hr', ← h2]

theorem iter_eq {σ R : Type} (step : σ → Option (LS σ R)) (s : σ) : iter step s = match step s with
    | some (.again s') => iter step s'
    | some (.out r) => some r
    | none => none := by
  cases hs : step s with
  | none =>
    cases h : iter step s with
    | none => rfl
    | some r =>
      obtain ⟨n, hn⟩ := iter_some h; cases n with
      | zero => simp [iterN] at hn
      | succ n => simp [iterN, hs] at hn
  | some x =>
    cases x with
    | out r => exact iter_of (n := 1) (by simp [iterN, hs])
    | again s' =>
      show iter step s = iter step s'
      cases h : iter step s' with
      | some r =>
        obtain ⟨n, hn⟩ := iter_some h; exact iter_of (n := n + 1) (by simp [iterN, hs, hn])
      | none =>
        cases h2 : iter step s with
        | none => rfl
        | some r =>
          obtain ⟨n, hn⟩ := iter_some h2; cases n with
          | zero => simp [iterN] at hn
          | succ n =>
            simp only [iterN, hs] at hn; rw [iter_of hn] at h; simp at h

def BIG : Nat := 549755813888

def bAnd (k : IntKind) (x y : Int) : Int := k.wrap (BitVec.ofInt k.bits x &&& BitVec.ofInt k.bits y).toNat
def bOr (k : IntKind) (x y : Int) : Int := k.wrap (BitVec.ofInt k.bits x ||| BitVec.ofInt k.bits y).toNat
def bXor (k : IntKind) (x y : Int) : Int := k.wrap (BitVec.ofInt k.bits x ^^^ BitVec.ofInt k.bits y).toNat
def bAndNot (k : IntKind) (x y : Int) : Int := k.wrap (BitVec.ofInt k.bits x &&& ~~~ BitVec.ofInt k.bits y).toNat

def ibin {R : Type} (op : BinOp) (k : IntKind) (x y : Int) (κ : Int → Option R) : Option R :=
  match op with
  | .add => κ (k.wrap (x + y))
  | .sub => κ (k.wrap (x - y))
  | .mul => κ (k.wrap (x * y))
  | .quo => if y = 0 then none else κ (k.wrap (x.tdiv y))
  | .rem => if y = 0 then none else κ (x.tmod y)
  | .and => κ (bAnd k x y)
  | .or => κ (bOr k x y)
  | .xor => κ (bXor k x y)
  | .andNot => κ (bAndNot k x y)
  | .shl => if y < 0 then none else κ (k.wrap (x * 2 ^ (Nat.min y.toNat k.bits)))
  | .shr => if y < 0 then none else κ (x.fdiv (2 ^ (Nat.min y.toNat k.bits)))
  | _ => none

def icmp {R : Type} (op : BinOp) (x y : Int) (κ : Bool → Option R) : Option R :=
  match op with
  | .eql => κ (decide (x = y))
  | .neq => κ (!decide (x = y))
  | .lss => κ (decide (x < y))
  | .leq => κ (decide (x ≤ y))
  | .gtr => κ (decide (y < x))
  | .geq => κ (decide (y ≤ x))
  | _ => none

def ltL : List Int → List Int → Bool
  | _, [] => false
  | [], _ :: _ => true
  | a :: x, b :: y => decide (a < b) || (decide (a = b) && ltL x y)

def scmp {R : Type} (op : BinOp) (x y : List Int) (κ : Bool → Option R) : Option R :=
  match op with
  | .eql => κ (decide (x = y))
  | .neq => κ (!decide (x = y))
  | .lss => κ (ltL x y)
  | .leq => κ (ltL x y || decide (x = y))
  | .gtr => κ (!(ltL x y || decide (x = y)))
  | .geq => κ (!ltL x y)
  | _ => none

def eqCells : List D → List D → Option Bool
  | [], [] => some true
  | ⟨.int _, x⟩ :: r, ⟨.int _, y⟩ :: s => match eqCells r s with | some b => some (decide (x = y) && b) | none => none
  | ⟨.bool, x⟩ :: r, ⟨.bool, y⟩ :: s => match eqCells r s with | some b => some ((x == y) && b) | none => none
  | ⟨.str, x⟩ :: r, ⟨.str, y⟩ :: s => match eqCells r s with | some b => some (decide (x = y) && b) | none => none
  | _, _ => none

def keyEq : (K : Ty) → K.den → K.den → Bool
  | .int _, x, y => decide ((x : Int) = y)
  | .str, x, y => decide ((x : List Int) = y)
  | _, _, _ => false

def findM {β : Type} (K : Ty) (key : K.den) : List (K.den × β) → Option β
  | [] => none
  | (a, v) :: r => if keyEq K key a = true then some v else findM K key r

def setM {β : Type} (K : Ty) (key : K.den) (v : β) : List (K.den × β) → List (K.den × β)
  | [] => [(key, v)]
  | (a, u) :: r => if keyEq K key a = true then (key, v) :: r else (a, u) :: setM K key v r

def delM {β : Type} (K : Ty) (key : K.den) : List (K.den × β) → List (K.den × β)
  | [] => []
  | (a, u) :: r => if keyEq K key a = true then r else (a, u) :: delM K key r

def mapAt {α : Type} (xs : List (List α)) : Option Nat → Option (List α)
  | none => some []
  | some j => xs[j]?

def Cont : Type 1 := (R : Type) → List D → (List D → Option R) → Option R

def evalPr {R : Type} (Φ : Nat → Cont) (p : Pr) (ds : List D) (κ : List D → Option R) : Option R :=
  match p with
  | .ibin op k => match ds with
    | [⟨.int _, x⟩, ⟨.int _, y⟩] => ibin op k x y fun r => κ [⟨.int k, r⟩]
    | _ => none
  | .icmp op => match ds with
    | [⟨.int _, x⟩, ⟨.int _, y⟩] => icmp op x y fun r => κ [⟨.bool, r⟩]
    | _ => none
  | .scmp op => match ds with
    | [⟨.str, x⟩, ⟨.str, y⟩] => scmp op x y fun r => κ [⟨.bool, r⟩]
    | _ => none
  | .bcmp op => match ds with
    | [⟨.bool, x⟩, ⟨.bool, y⟩] => match op with | .eql => κ [⟨.bool, x == y⟩] | .neq => κ [⟨.bool, !(x == y)⟩] | _ => none
    | _ => none
  | .scat => match ds with
    | [⟨.str, x⟩, ⟨.str, y⟩] => if x.length + y.length ≤ BIG then κ [⟨.str, x ++ y⟩] else none
    | _ => none
  | .not => match ds with
    | [⟨.bool, x⟩] => κ [⟨.bool, !x⟩]
    | _ => none
  | .neg k => match ds with
    | [⟨.int _, x⟩] => κ [⟨.int k, k.wrap (0 - x)⟩]
    | _ => none
  | .com k => match ds with
    | [⟨.int _, x⟩] => κ [⟨.int k, bXor k (if k.signed then -1 else k.max) x⟩]
    | _ => none
  | .conv k => match ds with
    | [⟨.int _, x⟩] => κ [⟨.int k, k.wrap x⟩]
    | _ => none
  | .s2b => match ds with
    | [⟨.str, x⟩] => κ [⟨.sl (.int .u8), x⟩]
    | _ => none
  | .b2s => match ds with
    | [⟨.sl (.int .u8), x⟩] => κ [⟨.str, x⟩]
    | _ => none
  | .len => match ds with
    | [⟨.sl _, xs⟩] => κ [⟨.int .i64, (xs.length : Int)⟩]
    | [⟨.str, xs⟩] => κ [⟨.int .i64, (xs.length : Int)⟩]
    | _ => none
  | .inb => match ds with
    | [⟨.sl _, xs⟩, ⟨.int _, i⟩] => if 0 ≤ i ∧ i < (xs.length : Int) then κ [] else none
    | _ => none
  | .idx e => match ds with
    | [⟨.sl e', xs⟩, ⟨.int _, i⟩] => if e' = e then κ (split e' (xs.getD i.toNat (dflt e'))) else none
    | _ => none
  | .sidx => match ds with
    | [⟨.str, xs⟩, ⟨.int _, i⟩] => if 0 ≤ i ∧ i < (xs.length : Int) then κ [⟨.int .u8, xs.getD i.toNat 0⟩] else none
    | _ => none
  | .sub => match ds with
    | [⟨.sl e, xs⟩, ⟨.int _, lo⟩, ⟨.int _, hi⟩] => if 0 ≤ lo ∧ lo ≤ hi ∧ hi ≤ (xs.length : Int) then κ [⟨.sl e, (xs.take hi.toNat).drop lo.toNat⟩] else none
    | [⟨.sl e, xs⟩, ⟨.int _, lo⟩] => if 0 ≤ lo ∧ lo ≤ (xs.length : Int) then κ [⟨.sl e, xs.drop lo.toNat⟩] else none
    | _ => none
  | .ssub => match ds with
    | [⟨.str, xs⟩, ⟨.int _, lo⟩, ⟨.int _, hi⟩] => if 0 ≤ lo ∧ lo ≤ hi ∧ hi ≤ (xs.length : Int) then κ [⟨.str, (xs.take hi.toNat).drop lo.toNat⟩] else none
    | [⟨.str, xs⟩, ⟨.int _, lo⟩] => if 0 ≤ lo ∧ lo ≤ (xs.length : Int) then κ [⟨.str, xs.drop lo.toNat⟩] else none
    | _ => none
  | .app => match ds with
    | [⟨.sl e, xs⟩, ⟨.sl e', ys⟩] => match (D.mk (.sl e') ys).get (.sl e) with
      | some zs => if xs.length + zs.length ≤ BIG then κ [⟨.sl e, xs ++ zs⟩] else none
      | none => none
    | _ => none
  | .apps => match ds with
    | [⟨.sl (.int .u8), xs⟩, ⟨.str, ys⟩] => if xs.length + ys.length ≤ BIG then κ [⟨.sl (.int .u8), xs ++ ys⟩] else none
    | _ => none
  | .mk e n => match mkRows e n ds with
    | some xs => κ [⟨.sl e, xs⟩]
    | none => none
  | .min => match ds with
    | [⟨.int k, x⟩, ⟨.int _, y⟩] => κ [⟨.int k, if y < x then y else x⟩]
    | [⟨.str, x⟩, ⟨.str, y⟩] => κ [⟨.str, if (ltL x y || decide (x = y)) = true then x else y⟩]
    | _ => none
  | .max => match ds with
    | [⟨.int k, x⟩, ⟨.int _, y⟩] => κ [⟨.int k, if x < y then y else x⟩]
    | [⟨.str, x⟩, ⟨.str, y⟩] => κ [⟨.str, if ltL x y = true then y else x⟩]
    | _ => none
  | .eqs neg n => match eqCells (ds.take n) (ds.drop n) with
    | some b => κ [⟨.bool, if neg then !b else b⟩]
    | none => none
  | .call id => Φ id R ds κ
  | .upd e off => match ds with
    | ⟨.sl e', xs⟩ :: ⟨.int _, i⟩ :: cs => if e' = e ∧ 0 ≤ i ∧ i < (xs.length : Int) then
        match toE e' (setAt (split e' (xs.getD i.toNat (dflt e'))) off cs) with
        | some y => κ [⟨.sl e', xs.set i.toNat y⟩]
        | none => none
      else none
    | _ => none
  | .mkz e => match ds with
    | [⟨.int _, n⟩] => if 0 ≤ n ∧ n ≤ 1099511627776 then κ [⟨.sl e, List.replicate n.toNat (dflt e)⟩] else none
    | _ => none
  | .isp neg => match ds with
    | [⟨.pt _, x⟩] => match x with
      | none => κ [⟨.bool, !neg⟩]
      | some _ => κ [⟨.bool, neg⟩]
    | _ => none
  | .npp => match ds with
    | [⟨.pt _, x⟩] => match x with
      | none => none
      | some _ => κ []
    | _ => none
  | .pod e => match ds with
    | [⟨.pt e', x⟩] => if e' = e then match x with
        | none => none
        | some y => κ (split e' y)
      else none
    | _ => none
  | .mkp e => match toE e ds with
    | some y => κ [⟨.pt e, some y⟩]
    | none => none
  | .isn neg => match ds with
    | [⟨.nd _, x⟩] => match x with
      | .leaf => κ [⟨.bool, !neg⟩]
      | .node _ _ _ _ => κ [⟨.bool, neg⟩]
    | _ => none
  | .nnl => match ds with
    | [⟨.nd _, x⟩] => match x with
      | .leaf => none
      | .node _ _ _ _ => κ []
    | _ => none
  | .nod e => match ds with
    | [⟨.nd e', x⟩] => if e' = e then match x with
        | .leaf => none
        | .node y l r k => κ (split e' y ++ [⟨.nd e', l⟩, ⟨.nd e', r⟩, ⟨.int .i64, k⟩])
      else none
    | _ => none
  | .mkn e => match join e ds with
    | some (y, [⟨.nd e1, l⟩, ⟨.nd e2, r⟩, ⟨.int _, k⟩]) => match D.get (.nd e) ⟨.nd e1, l⟩, D.get (.nd e) ⟨.nd e2, r⟩ with
      | some l, some r => κ [⟨.nd e, .node y l r k⟩]
      | _, _ => none
    | _ => none
  | .hget e k => match ds with
    | [⟨.sl e', xs⟩, ⟨.ref k', r⟩] => if e' = e ∧ k' = k then match r with
        | some j => match xs[j]? with
          | some y => κ (split e' y)
          | none => none
        | none => none
      else none
    | _ => none
  | .hset e k => match ds with
    | ⟨.sl e', xs⟩ :: ⟨.ref k', r⟩ :: cs => if e' = e ∧ k' = k then match r with
        | some j => match toE e' cs with
          | some y => if j < xs.length then κ [⟨.sl e', xs.set j y⟩] else none
          | none => none
        | none => none
      else none
    | _ => none
  | .hnew e k => match ds with
    | ⟨.sl e', xs⟩ :: cs => if e' = e then match toE e' cs with
        | some y => κ [⟨.sl e', xs ++ [y]⟩, ⟨.ref k, some xs.length⟩]
        | none => none
      else none
    | _ => none
  | .isr neg => match ds with
    | [⟨.ref _, x⟩] => match x with
      | none => κ [⟨.bool, !neg⟩]
      | some _ => κ [⟨.bool, neg⟩]
    | _ => none
  | .eqr neg => match ds with
    | [⟨.ref _, x⟩, ⟨.ref _, y⟩] => κ [⟨.bool, if neg then !decide (x = y) else decide (x = y)⟩]
    | _ => none
  | .mget K V k ok => match ds with
    | [⟨.sl e', xs⟩, ⟨.ref k', r⟩, d] => if k' = k then match (D.mk (.sl e') xs).get (.sl (.sl (.pair K V))), d.get K with
        | some ys, some key => match mapAt (ys : List (List (K.den × V.den))) r with
          | some y => match findM K key y with
            | some v => κ (⟨V, v⟩ :: (if ok = true then [⟨.bool, true⟩] else []))
            | none => κ (⟨V, dflt V⟩ :: (if ok = true then [⟨.bool, false⟩] else []))
          | none => none
        | _, _ => none
      else none
    | _ => none
  | .mput K V k => match ds with
    | [⟨.sl e', xs⟩, ⟨.ref k', r⟩, d, u] => if k' = k then match r with
        | none => none
        | some j => match (D.mk (.sl e') xs).get (.sl (.sl (.pair K V))), d.get K, u.get V with
          | some ys, some key, some v => match (ys : List (List (K.den × V.den)))[j]? with
            | some y => κ [⟨.sl (.sl (.pair K V)), (ys : List (List (K.den × V.den))).set j (setM K key v y)⟩]
            | none => none
          | _, _, _ => none
      else none
    | _ => none
  | .mdel K V k => match ds with
    | [⟨.sl e', xs⟩, ⟨.ref k', r⟩, d] => if k' = k then match (D.mk (.sl e') xs).get (.sl (.sl (.pair K V))), d.get K with
        | some ys, some key => match r with
          | none => κ [⟨.sl (.sl (.pair K V)), ys⟩]
          | some j => match (ys : List (List (K.den × V.den)))[j]? with
            | some y => κ [⟨.sl (.sl (.pair K V)), (ys : List (List (K.den × V.den))).set j (delM K key y)⟩]
            | none => none
        | _, _ => none
      else none
    | _ => none
  | .mlen K V k => match ds with
    | [⟨.sl e', xs⟩, ⟨.ref k', r⟩] => if k' = k then match (D.mk (.sl e') xs).get (.sl (.sl (.pair K V))) with
        | some ys => match mapAt (ys : List (List (K.den × V.den))) r with
          | some y => if y.length ≤ BIG then κ [⟨.int .i64, (y.length : Int)⟩] else none
          | none => none
        | none => none
      else none
    | _ => none
  | .cpy e => match ds with
    | [⟨.sl e', xs⟩, ⟨.sl e'', ys⟩] => if e' = e then match (D.mk (.sl e'') ys).get (.sl e') with
        | some zs => κ [⟨.sl e', (zs : List e'.den).take xs.length ++ xs.drop (zs : List e'.den).length⟩, ⟨.int .i64, ((min (zs : List e'.den).length xs.length : Nat) : Int)⟩]
        | none => none
      else none
    | _ => none
  | .clr e => match ds with
    | [⟨.sl e', xs⟩, ⟨.int _, lo⟩] => if e' = e ∧ 0 ≤ lo ∧ lo ≤ (xs.length : Int) then κ [⟨.sl e', xs.take lo.toNat ++ List.replicate (xs.length - lo.toNat) (dflt e')⟩] else none
    | _ => none
  | .appn => match ds with
    | [⟨.sl e, xs⟩, ⟨.sl e', ys⟩] => match (D.mk (.sl e') ys).get (.sl e) with
      | some zs => if xs.length + zs.length ≤ BIG ∧ zs.isEmpty = false then κ [⟨.sl e, xs ++ zs⟩] else none
      | none => none
    | _ => none
  | .appd => match ds with
    | [⟨.sl e, xs⟩, ⟨.sl e', ys⟩] => match (D.mk (.sl e') ys).get (.sl e) with
      | some zs => if xs.isEmpty = true ∧ xs.length + zs.length ≤ BIG then κ [⟨.sl e, xs ++ zs⟩] else none
      | none => none
    | _ => none
  | .ful => match ds with
    | [⟨.sl e, xs⟩, ⟨.int _, lo⟩, ⟨.int _, hi⟩, ⟨.int _, mx⟩] => if 0 ≤ lo ∧ lo ≤ hi ∧ hi ≤ (xs.length : Int) ∧ mx = hi then κ [⟨.sl e, (xs.take hi.toNat).drop lo.toNat⟩] else none
    | _ => none

open Classical in
noncomputable def eqO {R : Type} (a b : Option R) : Option R := if a = b then b else none

noncomputable def den (Φ : Nat → Cont) : IR → (R : Type) → Nat → List D → (List D → Option R) → (Nat → List D → Option R) → Option R
  | .ret outs, R, lv, ρ, kr, kj => match evs ρ outs with | some ds => kr ds | none => none
  | .jump l outs, R, lv, ρ, kr, kj => match evs ρ outs with | some ds => kj l ds | none => none
  | .op p xs k, R, lv, ρ, kr, kj => match evs ρ xs with
    | some ds => evalPr Φ p ds fun out => den Φ k R lv (ρ ++ out) kr kj
    | none => none
  | .ite c a b, R, lv, ρ, kr, kj => match c.ev ρ with
    | some ⟨.bool, x⟩ => if x = true then den Φ a R lv ρ kr kj else den Φ b R lv ρ kr kj
    | _ => none
  | .loop init tys body, R, lv, ρ, kr, kj => match evs ρ init with
    | some ds => match toTup tys ds with
      | some s => iter (fun s => den Φ body (LS (pairs tys).den R) (lv + 1) (ρ ++ split (pairs tys) s)
          (fun ds => (kr ds).map .out)
          (fun l ds => if l = lv then (toTup tys ds).map .again else (kj l ds).map .out)) s
      | none => none
    | none => none
  | .nilc c a b, R, lv, ρ, kr, kj => match c.ev ρ with
    | some ⟨.sl _, xs⟩ => if xs.isEmpty = true then eqO (den Φ a R lv ρ kr kj) (den Φ b R lv ρ kr kj) else den Φ b R lv ρ kr kj
    | _ => none
  | .fail, R, lv, ρ, kr, kj => none

end Go.Proofs.Ytmglkddddpipgaa.Sx

namespace Go.Proofs.Ytmglkddddpipgaa.Sx
open Go.RowKit

inductive All2 {α β : Type} (R : α → β → Prop) : List α → List β → Prop where
  | nil : All2 R [] []
  | cons {a : α} {b : β} {l : List α} {m : List β} : R a b → All2 R l m → All2 R (a :: l) (b :: m)

inductive Res where
  | box (β : Nat) | tok (k : Nat)
  | obj (k j : Nat) | obl (k j c : Nat)      -- an object of an arena; a list of an object's own

def Res.isObj : Res → Prop
  | .obj _ _ => True | .obl _ _ _ => True | _ => False

structure PF where
  c : Nat → Nat → Prop
  ad : Nat → Nat → Nat → Prop
instance : CoeFun PF (fun _ => Nat → Nat → Prop) := ⟨PF.c⟩
abbrev PF.more (p : PF) (q : Nat → Nat → Prop) : PF := ⟨fun b o => p.c b o ∨ q b o, p.ad⟩

structure G where
  p : PF
  θ : Nat → Nat
  T : Nat → Value
  te : Nat → TypeId
  tw : Nat → Nat
  ow : Nat → Option Res

structure AS where
  n : Nat
  slot : Nat → SV
  box : Nat → Option (List SC)
  known : Nat → Prop
  live : Nat → Prop
  saved : List (Nat × (Nat → SV))
  dyn : Nat → Option (Nat × Ty × TypeId)
  ar : Nat → Option (ArT × A)
  out : Nat → Option (A × Nat)

def CellsAt (p : PF) (w : World) (b o : Nat) (cs : List Value) : Prop :=
  ∀ j v, cs[j]? = some v → p b (o + j) ∧ w.cell? ⟨b, o + j, none⟩ = some v

def bytesI (ba : ByteArray) : List Int := ba.data.toList.map fun b => (b.toNat : Int)

theorem ptrOf_some [Arn] {P : Program} {f : TypeId → Option Ty} {t : TypeId} {ty : Ty} (h : ptrOf P f t = some ty) :
    ((∃ s, P.underlying t = some (.pointer s)) ∨ ∃ a b, P.underlying t = some (.map a b)) ∧ sizeT P t = 1 ∧ ((∃ u, ty = .nd u ∨ ty = .pt u) ∨ ∃ k, ty = .ref k) := by
  unfold ptrOf at h; split at h
  · rename_i a b hu; split at h
    · rename_i hs; refine ⟨.inr ⟨a, b, hu⟩, by simpa using hs, ?_⟩
      split at h
      · split at h
        · cases h; exact .inr ⟨_, rfl⟩
        · cases h
      · cases h
    · cases h
  · rename_i s hu; split at h
    · rename_i hs; refine ⟨.inl ⟨s, hu⟩, by simpa using hs, ?_⟩
      split at h
      · split at h
        · cases h; exact .inr ⟨_, rfl⟩
        · cases h
      · split at h
        · rename_i u hn; cases h; exact .inl ⟨u, .inl rfl⟩
        · split at h
          · rename_i u _ _; split at h
            · cases h; exact .inl ⟨u, .inr rfl⟩
            · cases h
          · cases h
    · cases h
  · cases h

def RepT {α : Type} (p : PF) (w : World) (Q : List Value → α → Prop) : BT α → Value → Prop
  | .leaf, v => v = .pointer none
  | .node x l r k, v => ∃ b cs vl vr, v = .pointer (some ⟨b, 0, none⟩) ∧ CellsAt p w b 0 (cs ++ [vl, vr, .int .i64 k]) ∧ Q cs x ∧ (IntKind.i64.min ≤ k ∧ k ≤ IntKind.i64.max) ∧ RepT p w Q l vl ∧ RepT p w Q r vr

theorem RepT.mono [Arn] {α : Type} {p p' : PF} {w w' : World} {Q Q' : List Value → α → Prop} (hc : ∀ b o cs, CellsAt p w b o cs → CellsAt p' w' b o cs) (hq : ∀ cs x, Q cs x → Q' cs x) :
    ∀ (t : BT α) (v : Value), RepT p w Q t v → RepT p' w' Q' t v
  | .leaf, _, h => h
  | .node x l r k, v, h => by
    obtain ⟨b, cs, vl, vr, h1, h2, h3, h4, h5, h6⟩ := h; exact ⟨b, cs, vl, vr, h1, hc _ _ _ h2, hq _ _ h3, h4, RepT.mono hc hq l _ h5, RepT.mono hc hq r _ h6⟩

theorem RepT.one [Arn] {α : Type} {p : PF} {w : World} {Q : List Value → α → Prop} {t : BT α} {v : Value} (h : RepT p w Q t v) : ∃ a, v = .pointer a := by
  cases t with
  | leaf => exact ⟨_, h⟩
  | node x l r k => obtain ⟨b, cs, vl, vr, h1, _⟩ := h; exact ⟨_, h1⟩

def refVal (k : Nat) (b : Option Nat) : Value := if k % 2 = 0 then .pointer (b.map fun b => ⟨b, 0, none⟩) else .map b

def Rep (p : PF) (w : World) : (t : Ty) → List Value → t.den → Prop
  | .ref k, vs, x => (vs = [refVal k none] ∧ x = none) ∨ ∃ b j, vs = [refVal k (some b)] ∧ x = some j ∧ p.ad k j b
  | .pt e, vs, x => (vs = [.pointer none] ∧ x = none) ∨ ∃ b cs y, vs = [.pointer (some ⟨b, 0, none⟩)] ∧ x = some y ∧ CellsAt p w b 0 cs ∧ Rep p w e cs y
  | .nd e, vs, x => ∃ v, vs = [v] ∧ RepT p w (fun cs y => Rep p w e cs y) x v
  | .unit, vs, _ => vs = []
  | .int k, vs, n => vs = [.int k n] ∧ k.min ≤ n ∧ n ≤ k.max
  | .bool, vs, b => vs = [.bool b]
  | .str, vs, s => ∃ ba : ByteArray, vs = [.string ba] ∧ s = bytesI ba ∧ ba.size ≤ maxLen
  | .pair a b, vs, x => ∃ va vb, vs = va ++ vb ∧ Rep p w a va x.1 ∧ Rep p w b vb x.2
  | .sl e, vs, xs => (vs = [.slice none 0 0] ∧ xs = []) ∨
      (∃ b off cap, vs = [.slice (some ⟨b, off, none⟩) xs.length cap] ∧ xs.length ≤ cap ∧ cap ≤ maxLen ∧
        ∀ i x, xs[i]? = some x → ∃ cs, CellsAt p w b (off + i * e.width) cs ∧ Rep p w e cs x) ∨
      (∃ ad, vs = [.slice (some ad) 0 0] ∧ xs = [])

def RepD (p : PF) (w : World) (v : Value) (d : D) : Prop := Rep p w d.t [v] d.x

def FRep : (t : Ty) → List Value → t.den → Prop
  | .unit, vs, _ => vs = []
  | .int k, vs, n => vs = [.int k n] ∧ k.min ≤ n ∧ n ≤ k.max
  | .bool, vs, b => vs = [.bool b]
  | .str, vs, s => ∃ ba : ByteArray, vs = [.string ba] ∧ s = bytesI ba ∧ ba.size ≤ maxLen
  | .pair a b, vs, x => ∃ va vb, vs = va ++ vb ∧ FRep a va x.1 ∧ FRep b vb x.2
  | .sl _, _, _ => False
  | .nd _, _, _ => False
  | .pt _, _, _ => False
  | .ref _, _, _ => False

theorem FRep.rep [Arn] {p : PF} {w : World} : ∀ (t : Ty) (vs : List Value) (x : t.den), FRep t vs x → Rep p w t vs x
  | .unit, _, _, h => h
  | .int _, _, _, h => h
  | .bool, _, _, h => h
  | .str, _, _, h => h
  | .pair a b, vs, x, h => by
    obtain ⟨va, vb, rfl, h1, h2⟩ := h; exact ⟨va, vb, rfl, FRep.rep a _ _ h1, FRep.rep b _ _ h2⟩
  | .sl _, _, _, h => h.elim
  | .nd _, _, _, h => h.elim
  | .pt _, _, _, h => h.elim
  | .ref _, _, _, h => h.elim

theorem Rep.frep [Arn] {p : PF} {w : World} : ∀ (t : Ty) (vs : List Value) (x : t.den), t.flat = true → Rep p w t vs x → FRep t vs x
  | .unit, _, _, _, h => h
  | .int _, _, _, _, h => h
  | .bool, _, _, _, h => h
  | .str, _, _, _, h => h
  | .pair a b, vs, x, hf, h => by
    simp only [Ty.flat, Bool.and_eq_true] at hf; obtain ⟨va, vb, rfl, h1, h2⟩ := h; exact ⟨va, vb, rfl, Rep.frep a _ _ hf.1 h1, Rep.frep b _ _ hf.2 h2⟩
  | .sl _, _, _, hf, _ => by simp [Ty.flat] at hf
  | .nd _, _, _, hf, _ => by simp [Ty.flat] at hf
  | .pt _, _, _, hf, _ => by simp [Ty.flat] at hf
  | .ref _, _, _, hf, _ => by simp [Ty.flat] at hf

def Flats (p : PF) (w : World) (t : Ty) : List Value → List t.den → Prop
  | xs, [] => xs = []
  | xs, y :: ys => ∃ c r, xs = c ++ r ∧ Rep p w t c y ∧ Flats p w t r ys

def Dyn (p : PF) (w : World) (ρ : List D) (te : TypeId) (tw : Nat) (n : Nat) (xs : List Value) (x : Nat × Ty × TypeId) : Prop :=
  te = x.2.2 ∧ tw = x.2.1.width ∧ ∃ ys : List x.2.1.den, nth ρ x.1 = some ⟨.sl x.2.1, ys⟩ ∧ ys.length = n ∧ Flats p w x.2.1 xs ys

section
variable (ρ : List D) (α : AS) (g : G) (w : World)

def SCRep : SC → Value → Prop
  | .a x t, v => ∃ d, x.ev ρ = some d ∧ d.t = t ∧ RepD g.p w v d
  | .nl t e, v => v = .slice none 0 0
  | .own i k t e, v => ∃ xs : List t.den, nth ρ i = some ⟨.sl t, xs⟩ ∧ Rep g.p w (.sl t) [v] xs ∧ α.known k ∧ v = g.T k ∧ g.te k = e ∧ g.tw k = t.width
  | .adr β off, v => (∃ row, α.box β = some row) ∧ v = .pointer (some ⟨g.θ β, off, none⟩)
  | .el x i e off, v => ∃ (xs : List e.den) (k : IntKind) (n : Int) (y : e.den), x.ev ρ = some ⟨.sl e, xs⟩ ∧ i.ev ρ = some ⟨.int k, n⟩ ∧ 0 ≤ n ∧ xs[n.toNat]? = some y ∧
      ∃ b o cs, v = .pointer (some ⟨b, o + off, none⟩) ∧ CellsAt g.p w b o cs ∧ Rep g.p w e cs y
  | .fn f caps, v => ∃ vs : Array Value, v = .func (.func f) #[] vs ∧
      All2 (fun (q : Nat × Nat) u => (∃ row, α.box q.1 = some row) ∧ u = Value.pointer (some ⟨g.θ q.1, q.2, none⟩)) caps vs.toList
  | .nilp, v => v = .pointer none
  | .nlp, v => v = .slice none 0 0
  | .lst k ps e, v => α.known k ∧ v = g.T k ∧ g.te k = e ∧ g.tw k = 1 ∧ ((v = .slice none 0 0 ∧ ps = []) ∨
      ∃ b cap, v = .slice (some ⟨b, 0, none⟩) ps.length cap ∧ ps.length ≤ cap ∧ cap ≤ maxLen ∧
        ∀ (j : Nat) (q : Nat × Nat), ps[j]? = some q → g.p b j ∧ (∃ row, α.box q.1 = some row) ∧ w.cell? ⟨b, j, none⟩ = some (.pointer (some ⟨g.θ q.1, q.2, none⟩)))
  | .dsl k, v => α.known k ∧ v = g.T k ∧ ∃ b n cap, v = .slice b n cap
  | .del k i off, v => α.known k ∧ ∃ (b n cap : Nat) (ki : IntKind) (m : Int), g.T k = .slice (some ⟨b, 0, none⟩) n cap ∧ i.ev ρ = some ⟨.int ki, m⟩ ∧ 0 ≤ m ∧ m < n ∧
      v = .pointer (some ⟨b, m.toNat * g.tw k + off, none⟩)
  | .dvw k i, v => α.known k ∧ ∃ (ki : IntKind) (m : Int), i.ev ρ = some ⟨.int ki, m⟩ ∧ 0 ≤ m ∧
      ((g.T k = .slice none 0 0 ∧ m = 0 ∧ v = .slice none 0 0) ∨ ∃ (b n cap : Nat), g.T k = .slice (some ⟨b, 0, none⟩) n cap ∧ n ≤ cap ∧ m ≤ n ∧
        (∃ off, v = .slice (some ⟨b, off, none⟩) (n - m.toNat) (cap - m.toNat) ∧ (m < n → off = m.toNat * g.tw k)))
  | .ptl x e off, v => ∃ (y : e.den) (b : Nat) (cs : List Value), x.ev ρ = some ⟨.pt e, some y⟩ ∧ v = .pointer (some ⟨b, off, none⟩) ∧ CellsAt g.p w b 0 cs ∧ Rep g.p w e cs y
  | .nel x e off, v => ∃ (y : e.den) (l r : BT e.den) (k : Int) (b : Nat) (cs : List Value) (vl vr : Value), x.ev ρ = some ⟨.nd e, .node y l r k⟩ ∧ v = .pointer (some ⟨b, off, none⟩) ∧
      CellsAt g.p w b 0 (cs ++ [vl, vr, .int .i64 k]) ∧ Rep g.p w e cs y ∧ (IntKind.i64.min ≤ k ∧ k ≤ IntKind.i64.max) ∧ RepT g.p w (fun cs y => Rep g.p w e cs y) l vl ∧ RepT g.p w (fun cs y => Rep g.p w e cs y) r vr
  | .ful i t, v => ∃ xs : List t.den, nth ρ i = some ⟨.sl t, xs⟩ ∧ Rep g.p w (.sl t) [v] xs ∧ (∀ b n cap, v = .slice b n cap → cap = n)
  | .pel β off, v => (∃ row, α.box β = some row) ∧ ∃ b o, v = .pointer (some ⟨b, o, none⟩) ∧ g.p b o ∧ w.cell? ⟨b, o, none⟩ = some (.pointer (some ⟨g.θ β, off, none⟩))

def SVRep : SV → Value → Prop
  | .unk, _ => True
  | .dead, v => v = undef
  | .one c, v => SCRep ρ α g w c v
  | .agg cs, v => ∃ vs : Array Value, v = .agg vs ∧ All2 (SCRep ρ α g w) cs vs.toList
  | .tup ps, v => ∃ us : Array Value, v = .tuple us ∧ All2 (fun (q : Bool × List SC) u =>
      (q.1 = true ∧ ∃ vs : Array Value, u = Value.agg vs ∧ All2 (SCRep ρ α g w) q.2 vs.toList) ∨
      (q.1 = false ∧ ∃ c, q.2 = [c] ∧ SCRep ρ α g w c u)) ps us.toList
end

structure LeC (ρ : List D) (α : AS) (g : G) (w : World) (ρ' : List D) (α' : AS) (g' : G) (w' : World) : Prop where
  env : ∀ i d, nth ρ i = some d → nth ρ' i = some d
  box : ∀ β row, α.box β = some row → (∃ row', α'.box β = some row') ∧ g'.θ β = g.θ β
  tok : ∀ k, α.known k → α'.known k ∧ g'.T k = g.T k ∧ g'.te k = g.te k ∧ g'.tw k = g.tw k
  mem : ∀ b o, g.p b o → g'.p b o ∧ w'.cell? ⟨b, o, none⟩ = w.cell? ⟨b, o, none⟩
  ad : ∀ k j b, g.p.ad k j b → g'.p.ad k j b

theorem LeC.refl [Arn] (ρ : List D) (α : AS) (g : G) (w : World) : LeC ρ α g w ρ α g w :=
  ⟨fun _ _ h => h, fun _ row h => ⟨⟨row, h⟩, rfl⟩, fun _ h => ⟨h, rfl, rfl, rfl⟩, fun _ _ h => ⟨h, rfl⟩, fun _ _ _ h => h⟩

theorem CellsAt.mono [Arn] {p p' : PF} {w w' : World} (h : ∀ b o, p b o → p' b o ∧ w'.cell? ⟨b, o, none⟩ = w.cell? ⟨b, o, none⟩)
    {b o : Nat} {cs : List Value} (hc : CellsAt p w b o cs) : CellsAt p' w' b o cs := fun j v hj => by
  obtain ⟨h1, h2⟩ := hc j v hj; obtain ⟨h3, h4⟩ := h _ _ h1; exact ⟨h3, h4.trans h2⟩

theorem Rep.mono [Arn] {p p' : PF} {w w' : World} (h : ∀ b o, p b o → p' b o ∧ w'.cell? ⟨b, o, none⟩ = w.cell? ⟨b, o, none⟩) (ha : ∀ k j b, p.ad k j b → p'.ad k j b) :
    ∀ (t : Ty) (vs : List Value) (x : t.den), Rep p w t vs x → Rep p' w' t vs x
  | .unit, _, _, hr => hr
  | .int _, _, _, hr => hr
  | .bool, _, _, hr => hr
  | .str, _, _, hr => hr
  | .pair a b, vs, x, hr => by
    obtain ⟨va, vb, rfl, h1, h2⟩ := hr; exact ⟨va, vb, rfl, Rep.mono h ha a _ _ h1, Rep.mono h ha b _ _ h2⟩
  | .sl e, vs, xs, hr => by
    rcases hr with hr | ⟨b, off, cap, rfl, h1, h2, h3⟩ | hr
    · exact .inl hr
    · refine .inr (.inl ⟨b, off, cap, rfl, h1, h2, fun i x hx => ?_⟩)
      obtain ⟨cs, hc, hr⟩ := h3 i x hx; exact ⟨cs, hc.mono h, Rep.mono h ha e _ _ hr⟩
    · exact .inr (.inr hr)
  | .pt e, vs, x, hr => by
    rcases hr with hr | ⟨b, cs, y, h1, h2, h3, h4⟩
    · exact .inl hr
    · exact .inr ⟨b, cs, y, h1, h2, h3.mono h, Rep.mono h ha e _ _ h4⟩
  | .ref k, vs, x, hr => by
    rcases hr with hr | ⟨b, j, h1, h2, h3⟩
    · exact .inl hr
    · exact .inr ⟨b, j, h1, h2, ha _ _ _ h3⟩
  | .nd e, vs, x, hr => by
    obtain ⟨v, h1, h2⟩ := hr; exact ⟨v, h1, RepT.mono (fun _ _ _ hc => hc.mono h) (fun cs y hy => Rep.mono h ha e cs y hy) x v h2⟩

theorem Rep.len [Arn] {p : PF} {w : World} : ∀ (t : Ty) (vs : List Value) (x : t.den), Rep p w t vs x → vs.length = t.width
  | .unit, _, _, hr => by simp only [Rep] at hr; subst hr; rfl
  | .int _, _, _, hr => by simp only [Rep] at hr; obtain ⟨rfl, _⟩ := hr; rfl
  | .bool, _, _, hr => by simp only [Rep] at hr; subst hr; rfl
  | .str, _, _, hr => by simp only [Rep] at hr; obtain ⟨_, rfl, _⟩ := hr; rfl
  | .pair a b, vs, x, hr => by
    simp only [Rep] at hr; obtain ⟨va, vb, rfl, h1, h2⟩ := hr; simp [Ty.width, Rep.len a _ _ h1, Rep.len b _ _ h2]
  | .sl e, vs, xs, hr => by
    simp only [Rep] at hr; rcases hr with ⟨rfl, _⟩ | ⟨b, off, cap, rfl, _⟩ | ⟨_, rfl, _⟩ <;> rfl
  | .nd e, vs, x, hr => by
    simp only [Rep] at hr; obtain ⟨v, rfl, _⟩ := hr; rfl
  | .pt e, vs, x, hr => by
    simp only [Rep] at hr; rcases hr with ⟨rfl, _⟩ | ⟨b, cs, y, rfl, _⟩ <;> rfl
  | .ref k, vs, x, hr => by
    simp only [Rep] at hr; rcases hr with ⟨rfl, _⟩ | ⟨b, j, rfl, _⟩ <;> rfl

theorem refVal_one [Arn] (k : Nat) (b : Option Nat) : (refVal k b).oneCell' = true := by unfold refVal; split <;> rfl

theorem Rep.one [Arn] {p : PF} {w : World} : ∀ (t : Ty) (vs : List Value) (x : t.den), Rep p w t vs x → ∀ v ∈ vs, v.oneCell' = true
  | .unit, _, _, hr => by simp only [Rep] at hr; subst hr; simp
  | .int _, _, _, hr => by simp only [Rep] at hr; obtain ⟨rfl, _⟩ := hr; simp [Value.oneCell']
  | .bool, _, _, hr => by simp only [Rep] at hr; subst hr; simp [Value.oneCell']
  | .str, _, _, hr => by simp only [Rep] at hr; obtain ⟨_, rfl, _⟩ := hr; simp [Value.oneCell']
  | .pair a b, vs, x, hr => by
    simp only [Rep] at hr; obtain ⟨va, vb, rfl, h1, h2⟩ := hr; intro v hv; rcases List.mem_append.1 hv with hv | hv
    · exact Rep.one a _ _ h1 v hv
    · exact Rep.one b _ _ h2 v hv
  | .sl e, vs, xs, hr => by
    simp only [Rep] at hr; rcases hr with ⟨rfl, _⟩ | ⟨b, off, cap, rfl, _⟩ | ⟨_, rfl, _⟩ <;> simp [Value.oneCell']
  | .nd e, vs, x, hr => by
    simp only [Rep] at hr; obtain ⟨v, rfl, h⟩ := hr; obtain ⟨a, rfl⟩ := RepT.one h; simp [Value.oneCell']
  | .pt e, vs, x, hr => by
    simp only [Rep] at hr; rcases hr with ⟨rfl, _⟩ | ⟨b, cs, y, rfl, _⟩ <;> simp [Value.oneCell']
  | .ref k, vs, x, hr => by
    simp only [Rep] at hr; rcases hr with ⟨rfl, _⟩ | ⟨b, j, rfl, _⟩ <;> simp [refVal_one]

theorem A.ev_mono [Arn] {ρ ρ' : List D} (h : ∀ i d, nth ρ i = some d → nth ρ' i = some d) {x : A} {d : D} (hx : x.ev ρ = some d) : x.ev ρ' = some d := by
  cases x with
  | v i => exact h i d hx
  | l c => exact hx

theorem Forall2.mono [Arn] {α β : Type} {R R' : α → β → Prop} (h : ∀ a b, R a b → R' a b) {l : List α} {m : List β} (hl : All2 R l m) : All2 R' l m := by
  induction hl with
  | nil => exact .nil
  | cons h1 _ ih => exact .cons (h _ _ h1) ih

theorem SCRep.mono [Arn] {ρ ρ' : List D} {α α' : AS} {g g' : G} {w w' : World} (h : LeC ρ α g w ρ' α' g' w') {c : SC} {v : Value} (hc : SCRep ρ α g w c v) : SCRep ρ' α' g' w' c v := by
  cases c with
  | a x t =>
    obtain ⟨d, h1, h2, h3⟩ := hc; exact ⟨d, A.ev_mono h.env h1, h2, Rep.mono h.mem h.ad _ _ _ h3⟩
  | nl t e => exact hc
  | own i k t e =>
    obtain ⟨xs, h1, h2, h3, h4, h5, h6⟩ := hc; obtain ⟨k1, k2, k3, k4⟩ := h.tok k h3; exact ⟨xs, h.env _ _ h1, Rep.mono h.mem h.ad _ _ _ h2, k1, h4.trans k2.symm, k3.trans h5, k4.trans h6⟩
  | adr β off =>
    obtain ⟨⟨row, hr⟩, h2⟩ := hc; obtain ⟨k1, k2⟩ := h.box β row hr; exact ⟨k1, by rw [k2]; exact h2⟩
  | el x i e off =>
    obtain ⟨xs, k, n, y, h1, h2, h3, h4, b, o, cs, h5, h6, h7⟩ := hc; exact ⟨xs, k, n, y, A.ev_mono h.env h1, A.ev_mono h.env h2, h3, h4, b, o, cs, h5, h6.mono h.mem, Rep.mono h.mem h.ad _ _ _ h7⟩
  | fn f caps =>
    obtain ⟨vs, h1, h2⟩ := hc; refine ⟨vs, h1, Forall2.mono ?_ h2⟩
    rintro q u ⟨⟨row, hr⟩, hu⟩
    obtain ⟨k1, k2⟩ := h.box q.1 row hr; exact ⟨k1, by rw [k2]; exact hu⟩
  | nilp => exact hc
  | nlp => exact hc
  | lst k ps e =>
    obtain ⟨h1, h2, h3, h4, h5⟩ := hc; obtain ⟨k1, k2, k3, k4⟩ := h.tok k h1; refine ⟨k1, h2.trans k2.symm, k3.trans h3, k4.trans h4, h5.imp id ?_⟩
    rintro ⟨b, cap, e1, e2, e3, e4⟩
    refine ⟨b, cap, e1, e2, e3, fun j q hq => ?_⟩
    obtain ⟨f1, ⟨row, f2⟩, f3⟩ := e4 j q hq; obtain ⟨m1, m2⟩ := h.mem _ _ f1; obtain ⟨b1, b2⟩ := h.box q.1 row f2; exact ⟨m1, b1, by rw [m2, b2]; exact f3⟩
  | pel β off =>
    obtain ⟨⟨row, hr⟩, b, o, h1, h2, h3⟩ := hc; obtain ⟨k1, k2⟩ := h.box β row hr; obtain ⟨m1, m2⟩ := h.mem _ _ h2; exact ⟨k1, b, o, h1, m1, by rw [m2, k2]; exact h3⟩
  | dsl k =>
    obtain ⟨h1, h2, h3⟩ := hc; obtain ⟨k1, k2, k3, k4⟩ := h.tok k h1; exact ⟨k1, h2.trans k2.symm, h3⟩
  | del k i off =>
    obtain ⟨h1, b, n, cap, ki, m, h2, h3, h4⟩ := hc; obtain ⟨k1, k2, k3, k4⟩ := h.tok k h1; exact ⟨k1, b, n, cap, ki, m, k2.trans h2, A.ev_mono h.env h3, by rw [k4]; exact h4⟩
  | dvw k i =>
    obtain ⟨h1, ki, m, h2, h3, h4⟩ := hc; obtain ⟨k1, k2, k3, k4⟩ := h.tok k h1; exact ⟨k1, ki, m, A.ev_mono h.env h2, h3, by rw [k2, k4]; exact h4⟩
  | ful i t =>
    obtain ⟨xs, h1, h2, h3⟩ := hc; exact ⟨xs, h.env _ _ h1, Rep.mono h.mem h.ad _ _ _ h2, h3⟩
  | ptl x e off =>
    obtain ⟨y, b, cs, h1, h2, h3, h4⟩ := hc; exact ⟨y, b, cs, A.ev_mono h.env h1, h2, h3.mono h.mem, Rep.mono h.mem h.ad _ _ _ h4⟩
  | nel x e off =>
    obtain ⟨y, l, r, k, b, cs, vl, vr, h1, h2, h3, h4, h5, h6, h7⟩ := hc; exact ⟨y, l, r, k, b, cs, vl, vr, A.ev_mono h.env h1, h2, h3.mono h.mem, Rep.mono h.mem h.ad _ _ _ h4, h5,
      RepT.mono (fun _ _ _ hc => hc.mono h.mem) (fun cs y hy => Rep.mono h.mem h.ad e cs y hy) l _ h6, RepT.mono (fun _ _ _ hc => hc.mono h.mem) (fun cs y hy => Rep.mono h.mem h.ad e cs y hy) r _ h7⟩

theorem SVRep.mono [Arn] {ρ ρ' : List D} {α α' : AS} {g g' : G} {w w' : World} (h : LeC ρ α g w ρ' α' g' w') {s : SV} {v : Value} (hc : SVRep ρ α g w s v) : SVRep ρ' α' g' w' s v := by
  cases s with
  | unk => trivial
  | dead => exact hc
  | one c => exact SCRep.mono h hc
  | agg cs =>
    obtain ⟨vs, h1, h2⟩ := hc; exact ⟨vs, h1, Forall2.mono (fun _ _ => SCRep.mono h) h2⟩
  | tup ps =>
    obtain ⟨us, h1, h2⟩ := hc; refine ⟨us, h1, Forall2.mono ?_ h2⟩
    rintro q u (⟨h3, vs, h4, h5⟩ | ⟨h3, c, h4, h5⟩)
    · exact .inl ⟨h3, vs, h4, Forall2.mono (fun _ _ => SCRep.mono h) h5⟩
    · exact .inr ⟨h3, c, h4, SCRep.mono h h5⟩

structure Base where
  B0 : Nat
  w0 : World
  p0 : PF
  om0 : Nat → Option Res      -- what was there, but may be changed: whose it is
  ks : Nat → Prop        -- which arenas there may be

def Base.mine (B : Base) (b : Nat) : Prop := ∃ r, B.om0 b = some r

structure BoxOk (B : Base) (ρ : List D) (α : AS) (g : G) (w : World) (β : Nat) (row : List SC) : Prop where
  lo : B.B0 ≤ g.θ β
  ow : g.ow (g.θ β) = some (.box β)
  np : ∀ o, ¬ g.p (g.θ β) o
  cells : ∃ cs elem, w.heap[g.θ β]? = some (.cells cs elem (0, 0)) ∧ All2 (SCRep ρ α g w) row cs.toList

def DynOk (ρ : List D) (α : AS) (g : G) (w : World) (k n : Nat) (xs : List Value) : Prop :=
  ∀ x, α.dyn k = some x → Dyn g.p w ρ (g.te k) (g.tw k) n xs x ∧ ∀ b, (g.T k).ownBlock = some b → ∀ o, ¬ g.p b o

structure TokOk (B : Base) (ρ : List D) (α : AS) (g : G) (w : World) (k : Nat) : Prop where
  own : ∃ n xs, w.ownsRow B.B0 (g.te k) (g.tw k) (g.T k) n xs ∧ (∀ b, (g.T k).ownBlock = some b → g.ow b = some (.tok k) ∧ ∀ o, n * g.tw k ≤ o → ¬ g.p b o) ∧ DynOk ρ α g w k n xs

theorem Flats.mono [Arn] {p p' : PF} {w w' : World} (h : ∀ b o, p b o → p' b o ∧ w'.cell? ⟨b, o, none⟩ = w.cell? ⟨b, o, none⟩) (ha : ∀ k j b, p.ad k j b → p'.ad k j b) {t : Ty} : ∀ {xs : List Value} {ys : List t.den}, Flats p w t xs ys → Flats p' w' t xs ys
  | _, [], hf => hf
  | _, _ :: _, ⟨c, r, h1, h2, h3⟩ => ⟨c, r, h1, Rep.mono h ha _ _ _ h2, Flats.mono h ha h3⟩

theorem Dyn.mono [Arn] {p p' : PF} {w w' : World} (hm : ∀ b o, p b o → p' b o ∧ w'.cell? ⟨b, o, none⟩ = w.cell? ⟨b, o, none⟩) (ha : ∀ k j b, p.ad k j b → p'.ad k j b) {ρ ρ' : List D} (h : ∀ i d, nth ρ i = some d → nth ρ' i = some d) {te : TypeId} {tw n : Nat} {xs : List Value} {x : Nat × Ty × TypeId} (hd : Dyn p w ρ te tw n xs x) : Dyn p' w' ρ' te tw n xs x := by
  obtain ⟨h1, h2, ys, h3, h4, h5⟩ := hd; exact ⟨h1, h2, ys, h _ _ h3, h4, h5.mono hm ha⟩

theorem DynOk.mono [Arn] {ρ ρ' : List D} {α α' : AS} {g g' : G} {w w' : World} {k n : Nat} {xs : List Value} (h : DynOk ρ α g w k n xs)
    (hm : ∀ b o, g.p b o → g'.p b o ∧ w'.cell? ⟨b, o, none⟩ = w.cell? ⟨b, o, none⟩) (ha : ∀ k j b, g.p.ad k j b → g'.p.ad k j b) (he : ∀ i d, nth ρ i = some d → nth ρ' i = some d)
    (hd : ∀ x, α'.dyn k = some x → α.dyn k = some x) (hT : g'.T k = g.T k) (hte : g'.te k = g.te k) (htw : g'.tw k = g.tw k)
    (hp : ∀ b, (g.T k).ownBlock = some b → (∀ o, ¬ g.p b o) → ∀ o, ¬ g'.p b o) : DynOk ρ' α' g' w' k n xs := by
  intro x hx; obtain ⟨h1, h2⟩ := h x (hd x hx)
  refine ⟨?_, ?_⟩
  · rw [hte, htw]; exact h1.mono hm ha he
  · rw [hT]; intro b hb; exact hp b hb (h2 b hb)

def Room (g : G) (w : World) (k j c : Nat) (e : TypeId) (sz : Nat) (v : Value) : Prop :=
  ∃ n xs, w.ownsRow 0 e sz v n xs ∧ ∀ b, v.ownBlock = some b → g.ow b = some (.obl k j c) ∧ ∀ o, n * sz ≤ o → ¬ g.p b o

def slw : Ty → Nat | .sl t => t.width | _ => 0

def RepM (p : PF) (w : World) : (t : Ty) → List MapEntry → t.den → Prop
  | .sl (.pair K V), es, y => All2 (fun (e : MapEntry) (kv : K.den × V.den) => FRep K [e.key] kv.1 ∧ Rep p w V [e.val] kv.2) es y
  | _, _, _ => False

structure ObjAt (g : G) (w : World) (k j : Nat) (T : ArT) (b : Nat) (y : T.t.den) : Prop where
  ow : g.ow b = some (.obj k j)
  np : ∀ o, ¬ g.p b o
  at' : (k % 2 = 0 ∧ ∃ cs el, w.heap[b]? = some (.cells cs el (0, 0)) ∧ Rep g.p w T.t cs.toList y ∧
      ∀ c e, (c, e) ∈ T.own → ∃ v t, cs.toList[c]? = some v ∧ T.t.cells[c]? = some t ∧ Room g w k j c e (slw t) v) ∨
    (k % 2 = 1 ∧ ∃ es clock, w.heap[b]? = some (.map es clock) ∧ RepM g.p w T.t es.toList y ∧ MapKept.Stamped es clock)

structure ArOk (ρ : List D) (α : AS) (g : G) (w : World) (k : Nat) (T : ArT) (x : A) : Prop where
  ex : ∃ xs : List T.t.den, x.ev ρ = some ⟨.sl T.t, xs⟩ ∧ (∀ j b, g.p.ad k j b → j < xs.length ∧ ∀ b', g.p.ad k j b' → b' = b) ∧
    ∀ j y, xs[j]? = some y → ∃ b, g.p.ad k j b ∧ ((∃ xv β, α.out k = some (xv, β) ∧ xv.ev ρ = some ⟨.ref k, some j⟩ ∧ b = g.θ β) ∨ ObjAt g w k j T b y)

structure ArsOk (ρ : List D) (α : AS) (g : G) (w : World) : Prop where
  ars : ∀ k T x, α.ar k = some (T, x) → ArOk ρ α g w k T x
  outs : ∀ k xv β, α.out k = some (xv, β) → (∃ row, α.box β = some row) ∧ ∃ j, xv.ev ρ = some ⟨.ref k, some j⟩ ∧ g.p.ad k j (g.θ β) ∧ ∀ b, g.p.ad k j b → b = g.θ β

theorem ownsRow_same [Arn] {w w' : World} {base : Nat} {e : TypeId} {sz : Nat} {v : Value} {n : Nat} {xs : List Value} (h : w.ownsRow base e sz v n xs) (hs : ∀ b, v.ownBlock = some b → w'.heap[b]? = w.heap[b]?) : w'.ownsRow base e sz v n xs := by
  refine ⟨h.1, h.2.imp id ?_⟩
  rintro ⟨b, cap, cur, h1, h2, h3, h4⟩
  exact ⟨b, cap, cur, h1, h2, by rw [hs b (by rw [h1]; rfl)]; exact h3, h4⟩

theorem RepM.mono [Arn] {p p' : PF} {w w' : World} (h : ∀ b o, p b o → p' b o ∧ w'.cell? ⟨b, o, none⟩ = w.cell? ⟨b, o, none⟩) (ha : ∀ k j b, p.ad k j b → p'.ad k j b) {t : Ty} {es : List MapEntry} {y : t.den} (hr : RepM p w t es y) :
    RepM p' w' t es y := by
  unfold RepM at hr ⊢
  split at hr
  · exact Forall2.mono (fun e kv ⟨h1, h2⟩ => ⟨h1, Rep.mono h ha _ _ _ h2⟩) hr
  · exact hr.elim

theorem ObjAt.mono [Arn] {ρ ρ' : List D} {α α' : AS} {g g' : G} {w w' : World} {k j : Nat} {T : ArT} {b : Nat} {y : T.t.den} (h : ObjAt g w k j T b y) (hl : LeC ρ α g w ρ' α' g' w')
    (hob : ∀ b r, g.ow b = some r → r.isObj → g'.ow b = some r ∧ w'.heap[b]? = w.heap[b]? ∧ ∀ o, g'.p b o → g.p b o) : ObjAt g' w' k j T b y := by
  obtain ⟨h1, h2, h3⟩ := h; obtain ⟨k1, k2, k3⟩ := hob b _ h1 trivial; refine ⟨k1, fun o ho => h2 o (k3 o ho), h3.imp ?_ ?_⟩
  · rintro ⟨e1, cs, el, e2, e3, e4⟩
    refine ⟨e1, cs, el, by rw [k2]; exact e2, Rep.mono hl.mem hl.ad _ _ _ e3, fun c e hc => ?_⟩
    obtain ⟨v, t, f1, f2, n, xs, f3, f4⟩ := e4 c e hc; refine ⟨v, t, f1, f2, n, xs, ownsRow_same f3 fun b hb => (hob b _ (f4 b hb).1 trivial).2.1, fun b hb => ?_⟩
    obtain ⟨g1, g2⟩ := f4 b hb; obtain ⟨m1, m2, m3⟩ := hob b _ g1 trivial; exact ⟨m1, fun o ho hp => g2 o ho (m3 o hp)⟩
  · rintro ⟨e1, es, cl, e2, e3, e4⟩
    exact ⟨e1, es, cl, by rw [k2]; exact e2, e3.mono hl.mem hl.ad, e4⟩

theorem ObjAt.relab [Arn] {g g' : G} {w : World} {k j : Nat} {T : ArT} {b : Nat} {y : T.t.den} (h : ObjAt g w k j T b y) (hob : ∀ b r, g.ow b = some r → r.isObj → g'.ow b = some r) (hp : g'.p = g.p := by rfl) : ObjAt g' w k j T b y := by
  obtain ⟨h1, h2, h3⟩ := h; refine ⟨hob _ _ h1 trivial, by rw [hp]; exact h2, ?_⟩
  rw [hp]; refine h3.imp ?_ id
  rintro ⟨e1, cs, el, e2, e3, e4⟩
  refine ⟨e1, cs, el, e2, e3, fun c e hc => ?_⟩
  obtain ⟨v, t, f1, f2, n, xs, f3, f4⟩ := e4 c e hc; exact ⟨v, t, f1, f2, n, xs, f3, fun b hb => ⟨hob _ _ (f4 b hb).1 trivial, by rw [hp]; exact (f4 b hb).2⟩⟩

theorem ArsOk.mono [Arn] {ρ ρ' : List D} {α α' : AS} {g g' : G} {w w' : World} (h : ArsOk ρ α g w) (hl : LeC ρ α g w ρ' α' g' w') (ha : α'.ar = α.ar) (ho : α'.out = α.out) (had : g'.p.ad = g.p.ad)
    (hob : ∀ b r, g.ow b = some r → r.isObj → g'.ow b = some r ∧ w'.heap[b]? = w.heap[b]? ∧ ∀ o, g'.p b o → g.p b o) : ArsOk ρ' α' g' w' := by
  have houts : ∀ k xv β, α'.out k = some (xv, β) → (∃ row, α'.box β = some row) ∧ g'.θ β = g.θ β ∧ ∃ j, xv.ev ρ' = some ⟨.ref k, some j⟩ ∧ xv.ev ρ = some ⟨.ref k, some j⟩ ∧ g'.p.ad k j (g'.θ β) ∧ ∀ b, g'.p.ad k j b → b = g'.θ β := by
    intro k xv β hk; rw [ho] at hk; obtain ⟨⟨row, h1⟩, j, h2, h3⟩ := h.outs k xv β hk; obtain ⟨k1, k2⟩ := hl.box β row h1; exact ⟨k1, k2, j, A.ev_mono hl.env h2, h2, by rw [k2, had]; exact h3.1, by rw [k2, had]; exact h3.2⟩
  refine ⟨fun k T x hk => ?_, fun k xv β hk => ?_⟩
  · rw [ha] at hk; obtain ⟨xs, h1, h2, h3⟩ := (h.ars k T x hk).ex
    refine ⟨xs, A.ev_mono hl.env h1, by rw [had]; exact h2, fun j y hy => ?_⟩
    obtain ⟨b, h4, h5⟩ := h3 j y hy; refine ⟨b, hl.ad _ _ _ h4, h5.imp ?_ fun h => h.mono hl hob⟩
    rintro ⟨xv, β, e1, e2, e3⟩
    have e1' : α'.out k = some (xv, β) := by rw [ho]; exact e1
    obtain ⟨_, k2, _⟩ := houts k xv β e1'; exact ⟨xv, β, e1', A.ev_mono hl.env e2, by rw [k2]; exact e3⟩
  · obtain ⟨k1, k2, j, k3, _, k4⟩ := houts k xv β hk; exact ⟨k1, j, k3, k4⟩

structure Held (B : Base) (ρ : List D) (α : AS) (g : G) (w : World) : Prop where
  b0 : B.B0 = 0
  om : ∀ b r, g.ow b = some r → B.mine b ∨ B.w0.heap.size ≤ b
  owb : ∀ b r, g.ow b = some r → b < w.heap.size
  fr : ∀ b, b < B.w0.heap.size → ¬ B.mine b → w.heap[b]? = B.w0.heap[b]? ∧ ∀ o, g.p b o ↔ B.p0 b o
  p0m : ∀ b o, B.p0 b o → g.p b o ∧ w.cell? ⟨b, o, none⟩ = B.w0.cell? ⟨b, o, none⟩
  adm : ∀ k j b, B.p0.ad k j b → g.p.ad k j b
  adf : ∀ k j b, ¬ B.ks k → g.p.ad k j b → B.p0.ad k j b
  ark : ∀ k x, α.ar k = some x → B.ks k
  ar : ArsOk ρ α g w

theorem Held.mono [Arn] {B : Base} {ρ ρ' : List D} {α α' : AS} {g g' : G} {w w' : World} (h : Held B ρ α g w) (hsz : B.w0.heap.size ≤ w.heap.size) (hl : LeC ρ α g w ρ' α' g' w')
    (har : α'.ar = α.ar) (hout : α'.out = α.out) (had : g'.p.ad = g.p.ad)
    (hfr : ∀ b, b < w.heap.size → (∀ r, g.ow b ≠ some r) → w'.heap[b]? = w.heap[b]? ∧ ∀ o, g'.p b o ↔ g.p b o)
    (hom : ∀ b r, g'.ow b = some r → b < w'.heap.size ∧ ((∃ r', g.ow b = some r') ∨ w.heap.size ≤ b))
    (hob : ∀ b r, g.ow b = some r → r.isObj → g'.ow b = some r ∧ w'.heap[b]? = w.heap[b]? ∧ ∀ o, g'.p b o → g.p b o) : Held B ρ' α' g' w' where
  b0 := h.b0
  om := fun b r hr => by
    rcases (hom b r hr).2 with ⟨r', h1⟩ | h1
    · exact h.om b r' h1
    · exact .inr (Nat.le_trans hsz h1)
  owb := fun b r hr => (hom b r hr).1
  fr := fun b hb hm => by
    obtain ⟨h1, h2⟩ := h.fr b hb hm; obtain ⟨h3, h4⟩ := hfr b (Nat.lt_of_lt_of_le hb hsz) (fun r hr => (h.om b r hr).elim hm (fun h => by omega))
    exact ⟨h3.trans h1, fun o => (h4 o).trans (h2 o)⟩
  p0m := fun b o hp => by
    obtain ⟨h1, h2⟩ := h.p0m b o hp; obtain ⟨h3, h4⟩ := hl.mem b o h1; exact ⟨h3, h4.trans h2⟩
  adm := fun k j b hk => hl.ad _ _ _ (h.adm k j b hk)
  adf := fun k j b hk hp => h.adf k j b hk (by rw [← had]; exact hp)
  ark := fun k x hx => h.ark k x (by rw [← har]; exact hx)
  ar := h.ar.mono hl har hout had hob

theorem Held.st [Arn] {B : Base} {ρ ρ' : List D} {α α' : AS} {g : G} {w : World} (h : Held B ρ α g w) (hsz : B.w0.heap.size ≤ w.heap.size) (hl : LeC ρ α g w ρ' α' g w)
    (har : α'.ar = α.ar) (hout : α'.out = α.out) : Held B ρ' α' g w :=
  h.mono hsz hl har hout rfl (fun _ _ _ => ⟨rfl, fun _ => Iff.rfl⟩) (fun b r hr => ⟨h.owb b r hr, .inl ⟨r, hr⟩⟩) (fun _ _ hr _ => ⟨hr, rfl, fun _ h => h⟩)

structure RelG (B : Base) (ρ : List D) (α : AS) (a : Act) (bs : List Act) (w : World) (g : G) : Prop where
  nodef : a.defers = []
  sz : a.tmps.size = α.n
  slot : ∀ i, SVRep ρ α g w (α.slot i) (a.tmps.getD i undef)
  saved : All2 (fun (q : Nat × (Nat → SV)) (b : Act) => b.defers = [] ∧ b.tmps.size = q.1 ∧ ∀ i, SVRep ρ α g w (q.2 i) (b.tmps.getD i undef)) α.saved bs
  box : ∀ β row, α.box β = some row → BoxOk B ρ α g w β row
  live : ∀ k, α.live k → α.known k ∧ TokOk B ρ α g w k
  pwf : ∀ b o, g.p b o → b < w.heap.size
  bel : Below B.B0 B.w0 w
  hB : B.B0 ≤ B.w0.heap.size
  dk : ∀ k x, α.dyn k = some x → α.known k
  hl : Held B ρ α g w

theorem RelG.BoxOk_mono [Arn] {B : Base} {ρ ρ' : List D} {α α' : AS} {g g' : G} {w w' : World} (h : LeC ρ α g w ρ' α' g' w') {β : Nat} {row : List SC}
    (hb : BoxOk B ρ α g w β row) (hθ : g'.θ β = g.θ β) (how : g'.ow (g.θ β) = g.ow (g.θ β)) (hnp : ∀ o, ¬ g'.p (g.θ β) o) (hh : w'.heap[g.θ β]? = w.heap[g.θ β]?) :
    BoxOk B ρ' α' g' w' β row := by
  obtain ⟨h1, h2, h3, cs, el, h4, h5⟩ := hb; refine ⟨by rw [hθ]; exact h1, by rw [hθ, how]; exact h2, by rw [hθ]; exact hnp, cs, el, by rw [hθ, hh]; exact h4, Forall2.mono (fun _ _ => SCRep.mono h) h5⟩

theorem RelG.env [Arn] {B : Base} {ρ ρ' : List D} {α : AS} {a : Act} {bs : List Act} {w : World} {g : G} (h : RelG B ρ α a bs w g)
    (he : ∀ i d, nth ρ i = some d → nth ρ' i = some d) : RelG B ρ' α a bs w g := by
  have hl : LeC ρ α g w ρ' α g w := ⟨he, fun _ row h => ⟨⟨row, h⟩, rfl⟩, fun _ h => ⟨h, rfl, rfl, rfl⟩, fun _ _ h => ⟨h, rfl⟩, fun _ _ _ h => h⟩
  exact { h with
    slot := fun i => (h.slot i).mono hl
    saved := Forall2.mono (fun _ _ ⟨h1, h2, h3⟩ => ⟨h1, h2, fun i => (h3 i).mono hl⟩) h.saved
    live := fun k hk => ⟨(h.live k hk).1, by
      obtain ⟨n, xs, h1, h2, h3⟩ := (h.live k hk).2
      exact ⟨n, xs, h1, h2, h3.mono hl.mem hl.ad he (fun _ h => h) rfl rfl rfl (fun _ _ h => h)⟩⟩
    box := fun β row hb => RelG.BoxOk_mono hl (h.box β row hb) rfl rfl (h.box β row hb).np rfl
    hl := h.hl.st h.bel.size hl rfl rfl }

end Go.Proofs.Ytmglkddddpipgaa.Sx

namespace Go.Proofs.Ytmglkddddpipgaa.Sx
open Go.RowKit

theorem RelG.world [Arn] {B : Base} {ρ : List D} {α α' : AS} {a : Act} {bs : List Act} {w w' : World} {g g' : G} (h : RelG B ρ α a bs w g) (hl : LeC ρ α g w ρ α' g' w')
    (hn : α'.n = α.n) (hs : α'.slot = α.slot) (hv : α'.saved = α.saved)
    (hb : ∀ β row, α'.box β = some row → BoxOk B ρ α' g' w' β row) (hk : ∀ k, α'.live k → α'.known k ∧ TokOk B ρ α' g' w' k)
    (hp : ∀ b o, g'.p b o → b < w'.heap.size) (hbel : Below B.B0 B.w0 w') (hdk : ∀ k x, α'.dyn k = some x → α'.known k)
    (har : α'.ar = α.ar) (hout : α'.out = α.out) (had : g'.p.ad = g.p.ad)
    (hfr : ∀ b, b < w.heap.size → (∀ r, g.ow b ≠ some r) → w'.heap[b]? = w.heap[b]? ∧ ∀ o, g'.p b o ↔ g.p b o)
    (hom : ∀ b r, g'.ow b = some r → b < w'.heap.size ∧ ((∃ r', g.ow b = some r') ∨ w.heap.size ≤ b))
    (hob : ∀ b r, g.ow b = some r → r.isObj → g'.ow b = some r ∧ w'.heap[b]? = w.heap[b]? ∧ ∀ o, g'.p b o → g.p b o) : RelG B ρ α' a bs w' g' where
  nodef := h.nodef
  sz := by rw [hn]; exact h.sz
  slot := fun i => by rw [hs]; exact (h.slot i).mono hl
  saved := by rw [hv]; exact Forall2.mono (fun _ _ ⟨h1, h2, h3⟩ => ⟨h1, h2, fun i => (h3 i).mono hl⟩) h.saved
  box := hb
  live := hk
  pwf := hp
  bel := hbel
  hB := h.hB
  dk := hdk
  hl := h.hl.mono h.bel.size hl har hout had hfr hom hob

theorem RelG.st [Arn] {B : Base} {ρ : List D} {α α' : AS} {a : Act} {bs : List Act} {w : World} {g : G} (h : RelG B ρ α a bs w g) (hl : LeC ρ α g w ρ α' g w)
    (hn : α'.n = α.n) (hs : α'.slot = α.slot) (hv : α'.saved = α.saved)
    (hb : ∀ β row, α'.box β = some row → BoxOk B ρ α' g w β row) (hk : ∀ k, α'.live k → α'.known k ∧ TokOk B ρ α' g w k) (hdk : ∀ k x, α'.dyn k = some x → α'.known k)
    (har : α'.ar = α.ar) (hout : α'.out = α.out) : RelG B ρ α' a bs w g :=
  h.world hl hn hs hv hb hk h.pwf h.bel hdk har hout rfl (fun _ _ _ => ⟨rfl, fun _ => Iff.rfl⟩) (fun b r hr => ⟨h.hl.owb b r hr, .inl ⟨r, hr⟩⟩) (fun _ _ hr _ => ⟨hr, rfl, fun _ h => h⟩)

def AS.put (α : AS) (dst : Option Tmp) (sv : SV) : AS := { α with slot := fun i => if dst = some i then sv else α.slot i }

theorem getD_put [Arn] (t : Array Value) (d i : Nat) (v : Value) (hd : d < t.size) : (t.setIfInBounds d v).getD i undef = if d = i then v else t.getD i undef := by
  simp only [Array.getD_eq_getD_getElem?, Array.getElem?_setIfInBounds]; by_cases e : d = i
  · subst e; simp [hd]
  · simp [e]

theorem SVRep.congr [Arn] {ρ : List D} {α α' : AS} {g : G} {w : World} (hb : α'.box = α.box) (hk : α'.known = α.known) {s : SV} {v : Value} (h : SVRep ρ α g w s v) : SVRep ρ α' g w s v :=
  h.mono ⟨fun _ _ h => h, fun β row h => ⟨⟨row, by rw [hb]; exact h⟩, rfl⟩, fun k h => ⟨by rw [hk]; exact h, rfl, rfl, rfl⟩, fun _ _ h => ⟨h, rfl⟩, fun _ _ _ h => h⟩

theorem SCRep.congr [Arn] {ρ : List D} {α α' : AS} {g : G} {w : World} (hb : α'.box = α.box) (hk : α'.known = α.known) {s : SC} {v : Value} (h : SCRep ρ α g w s v) : SCRep ρ α' g w s v :=
  SCRep.mono ⟨fun _ _ h => h, fun β row h => ⟨⟨row, by rw [hb]; exact h⟩, rfl⟩, fun k h => ⟨by rw [hk]; exact h, rfl, rfl, rfl⟩, fun _ _ h => ⟨h, rfl⟩, fun _ _ _ h => h⟩ h

theorem RelG.put [Arn] {B : Base} {ρ : List D} {α : AS} {a : Act} {bs : List Act} {w : World} {g : G} (h : RelG B ρ α a bs w g) {dst : Option Tmp} {sv : SV} {v : Value}
    (hd : ∀ d, dst = some d → d < α.n) (hv : SVRep ρ α g w sv v) : RelG B ρ (α.put dst sv) (a.put dst v) bs w g := by
  have hb : (α.put dst sv).box = α.box := rfl
  have hk : (α.put dst sv).known = α.known := rfl
  refine { nodef := ?_, sz := ?_, slot := ?_, saved := ?_, box := ?_, live := fun k hk => ⟨(h.live k hk).1, ⟨(h.live k hk).2.own⟩⟩, pwf := h.pwf, bel := h.bel, hB := h.hB, dk := h.dk, hl := h.hl.st h.bel.size ⟨fun _ _ h => h, fun β row h => ⟨⟨row, h⟩, rfl⟩, fun k h => ⟨h, rfl, rfl, rfl⟩, fun _ _ h => ⟨h, rfl⟩, fun _ _ _ h => h⟩ rfl rfl }
  · cases dst <;> exact h.nodef
  · cases dst with
    | none => exact h.sz
    | some d => simp only [Act.put, Array.size_setIfInBounds]; exact h.sz
  · intro i; cases dst with
    | none => exact (h.slot i).congr hb hk
    | some d =>
      have hlt : d < a.tmps.size := by rw [h.sz]; exact hd d rfl
      simp only [Act.put, getD_put _ _ _ _ hlt, AS.put]; by_cases e : d = i
      · subst e; simp only [if_true]; exact hv.congr hb hk
      · rw [if_neg (by simpa using e), if_neg e]; exact (h.slot i).congr hb hk
  · exact Forall2.mono (fun _ _ ⟨h1, h2, h3⟩ => ⟨h1, h2, fun i => (h3 i).congr hb hk⟩) h.saved
  · intro β row hr; obtain ⟨h1, h2, h3, cs, el, h4, h5⟩ := h.box β row hr; exact ⟨h1, h2, h3, cs, el, h4, Forall2.mono (fun _ _ h => SCRep.congr hb hk h) h5⟩

theorem cell_alloc_lt [Arn] (w : World) (o : Obj) (b off : Nat) (h : b < w.heap.size) : (w.alloc o).cell? ⟨b, off, none⟩ = w.cell? ⟨b, off, none⟩ :=
  World.cell?_of_block (Below.heap_alloc w o b h)

theorem block_lt [Arn] {w : World} {b : Nat} {o : Obj} (h : w.heap[b]? = some o) : b < w.heap.size := (Array.getElem?_eq_some_iff.1 h).1

def AS.addBox (α : AS) (β : Nat) (row : List SC) : AS := { α with box := fun i => if i = β then some row else α.box i }

theorem RelG.newBox [Arn] {B : Base} {ρ : List D} {α : AS} {a : Act} {bs : List Act} {w : World} {g : G} (h : RelG B ρ α a bs w g) {β : Nat} {row : List SC} {cs : Array Value} {el : TypeId}
    (hf : α.box β = none) (hc : All2 (SCRep ρ α g w) row cs.toList) :
    ∃ g', RelG B ρ (α.addBox β row) a bs (w.alloc (.cells cs el)) g' ∧ LeC ρ α g w ρ (α.addBox β row) g' (w.alloc (.cells cs el)) ∧ g'.θ β = w.heap.size := by
  let g' : G := { g with θ := fun i => if i = β then w.heap.size else g.θ i, ow := fun b => if b = w.heap.size then some (.box β) else g.ow b }
  have hl : LeC ρ α g w ρ (α.addBox β row) g' (w.alloc (.cells cs el)) := by
    refine ⟨fun _ _ h => h, fun β' row' hb => ?_, fun k hk => ⟨hk, rfl, rfl, rfl⟩, fun b o hp => ⟨hp, cell_alloc_lt _ _ _ _ (h.pwf b o hp)⟩, fun _ _ _ h => h⟩
    have hne : β' ≠ β := fun e => by subst e; rw [hf] at hb; cases hb
    exact ⟨⟨row', by simp [AS.addBox, hne, hb]⟩, by simp [g', hne]⟩
  have hB : B.B0 ≤ w.heap.size := Nat.le_trans h.hB h.bel.size
  have how : ∀ b, b < w.heap.size → g'.ow b = g.ow b := fun b hb => by simp only [g']; rw [if_neg (by omega)]
  have hlt : ∀ b r, g.ow b = some r → r.isObj → g'.ow b = some r ∧ (w.alloc (.cells cs el)).heap[b]? = w.heap[b]? ∧ ∀ o, g'.p b o → g.p b o := fun b r hr _ => by
    have hb := h.hl.owb b r hr
    exact ⟨by rw [how b hb]; exact hr, Below.heap_alloc w _ _ hb, fun _ h => h⟩
  refine ⟨g', h.world hl rfl rfl rfl ?_ ?_ ?_ (h.bel.alloc hB _) h.dk rfl rfl rfl (fun b hb _ => ⟨Below.heap_alloc w _ _ hb, fun _ => Iff.rfl⟩) (fun b r hr => ?_) hlt, hl, by simp [g']⟩
  rotate_left 3
  · simp only [g'] at hr; by_cases e : b = w.heap.size
    · subst e; exact ⟨by simp, .inr (Nat.le_refl _)⟩
    · rw [if_neg e] at hr; exact ⟨by have := h.hl.owb b r hr; simp; omega, .inl ⟨r, hr⟩⟩
  · intro β' row' hb; by_cases e : β' = β
    · subst e; have : row' = row := by simpa [AS.addBox] using hb.symm
      subst this; refine ⟨by simpa [g'] using hB, by simp [g'], fun o hp => ?_, cs, el, by simp only [g', if_true]; exact heap_alloc_new w _, Forall2.mono (fun _ _ => SCRep.mono hl) hc⟩
      have := h.pwf _ _ hp
      simp [g'] at this
    · have hb' : α.box β' = some row' := by simpa [AS.addBox, e] using hb
      have hbo := h.box β' row' hb'
      obtain ⟨cs', el', h4, _⟩ := hbo.cells; have hlt := block_lt h4
      refine RelG.BoxOk_mono hl hbo (by simp [g', e]) ?_ hbo.np (Below.heap_alloc w _ _ hlt)
      simp only [g']; rw [if_neg (by omega)]
  · intro k hk; obtain ⟨h1, ⟨n, xs, h2, h3, hdy⟩⟩ := h.live k hk; refine ⟨h1, n, xs, h2.alloc _, fun b hb => ?_, hdy.mono hl.mem hl.ad (fun _ _ h => h) (fun _ h => h) rfl rfl rfl (fun _ _ h => h)⟩
    obtain ⟨h4, h5⟩ := h3 b hb; refine ⟨?_, h5⟩
    have := (h2.lt b hb).2
    simp only [g']; rw [if_neg (by omega)]; exact h4
  · intro b o hp; have := h.pwf b o hp
    simp; omega

def tokAS (α : AS) (kill : Option Nat) (k : Nat) : AS :=
  { α with known := fun j => α.known j ∨ j = k, live := fun j => (α.live j ∧ kill ≠ some j) ∨ j = k }

theorem RelG.newTok [Arn] {B : Base} {ρ : List D} {α : AS} {a : Act} {bs : List Act} {w w' : World} {g : G} (h : RelG B ρ α a bs w g) {kill : Option Nat} {k : Nat} {v v' : Value} {e : TypeId} {sz n n' : Nat} {xs ys : List Value}
    (hf : ¬ α.known k) (hg : w.grownBy w' v.ownBlock)
    (hv : v.ownBlock = none ∨ ∃ j, kill = some j ∧ α.live j ∧ g.T j = v ∧ g.tw j = sz)
    (ho : v.ownBlock ≠ none → w.ownsRow B.B0 e sz v n xs)
    (ho' : w'.ownsRow B.B0 e sz v' n' (xs ++ ys)) (hpre : v.ownBlock ≠ none → n ≤ n')
    (hsame : ∀ b, v.ownBlock = some b → ∀ o, o < n * sz → w'.cell? ⟨b, o, none⟩ = w.cell? ⟨b, o, none⟩)
    (hb' : ∀ b, v'.ownBlock = some b → v.ownBlock = some b ∨ w.heap.size ≤ b) :
    ∃ g', RelG B ρ (tokAS α kill k) a bs w' g' ∧ LeC ρ α g w ρ (tokAS α kill k) g' w' ∧ g'.T k = v' ∧ g'.te k = e ∧ g'.tw k = sz ∧
      (∀ b, v'.ownBlock = some b → ∀ o, o < n' * sz → g'.p b o) := by
  let g' : G := { g with
    p := g.p.more fun b o => v'.ownBlock = some b ∧ o < n' * sz
    T := fun j => if j = k then v' else g.T j
    te := fun j => if j = k then e else g.te j
    tw := fun j => if j = k then sz else g.tw j
    ow := fun b => if v'.ownBlock = some b then some (.tok k) else g.ow b }
  have hB : B.B0 ≤ w.heap.size := Nat.le_trans h.hB h.bel.size
  have hown : ∀ b, v.ownBlock = some b → ∃ j, kill = some j ∧ g.ow b = some (.tok j) ∧ B.B0 ≤ b ∧ ∀ o, n * sz ≤ o → ¬ g.p b o := by
    intro b hb; rcases hv with hv | ⟨j, hj, hlive, hT, htw⟩
    · rw [hv] at hb; cases hb
    · obtain ⟨_, n1, xs1, h2, h3, _⟩ := h.live j hlive; rw [hT] at h2 h3; obtain ⟨h4, h5⟩ := h3 b hb; have hh := ho (by rw [hb]; simp)
      have hn : n1 = n := by
        rcases h2.2 with ⟨e1, _⟩ | ⟨_, _, _, e1, _⟩
        · rw [e1] at hb; cases hb
        · rcases hh.2 with ⟨e2, _⟩ | ⟨_, _, _, e2, _⟩
          · rw [e2] at hb; cases hb
          · rw [e1] at e2; simp only [Value.slice.injEq] at e2; exact e2.2.1
      subst hn; exact ⟨j, hj, h4, (h2.lt b hb).1, by rw [← htw]; exact h5⟩
  have hcell : ∀ b o, g.p b o → w'.cell? ⟨b, o, none⟩ = w.cell? ⟨b, o, none⟩ := by
    intro b o hp; by_cases hvb : v.ownBlock = some b
    · obtain ⟨j, _, _, _, hno⟩ := hown b hvb; exact hsame b hvb o (Nat.lt_of_not_le fun hle => hno o hle hp)
    · exact World.cell?_of_block (hg.block b (h.pwf b o hp) (fun e => hvb e.symm))
  have hl : LeC ρ α g w ρ (tokAS α kill k) g' w' := by
    refine ⟨fun _ _ h => h, fun β row hb => ⟨⟨row, hb⟩, rfl⟩, fun j hj => ?_, fun b o hp => ⟨.inl hp, hcell b o hp⟩, fun _ _ _ h => h⟩
    have hne : j ≠ k := fun e => hf (e ▸ hj)
    exact ⟨.inl hj, by simp [g', hne], by simp [g', hne], by simp [g', hne]⟩
  have hother : ∀ b r, g.ow b = some r → b < w.heap.size → (∀ j, kill = some j → r ≠ .tok j) → v.ownBlock ≠ some b ∧ v'.ownBlock ≠ some b := by
    intro b r hr hlt hrk; have h1 : v.ownBlock ≠ some b := fun hvb => by
      obtain ⟨j, hj, h4, _, _⟩ := hown b hvb; rw [hr] at h4; exact hrk j hj (by simpa using h4)
    exact ⟨h1, fun hvb => (hb' b hvb).elim h1 (fun hle => by omega)⟩
  have hobj : ∀ b r, g.ow b = some r → r.isObj → g'.ow b = some r ∧ w'.heap[b]? = w.heap[b]? ∧ ∀ o, g'.p b o → g.p b o := fun b r hr ho => by
    have hlt := h.hl.owb b r hr
    obtain ⟨h1, h2⟩ := hother b r hr hlt (fun j _ e => by subst e; exact ho)
    refine ⟨by simp only [g', if_neg h2]; exact hr, hg.block b hlt (fun e => h1 e.symm), fun o hp => ?_⟩
    rcases hp with hp | ⟨hp, _⟩
    · exact hp
    · exact absurd hp h2
  have hnone : ∀ b, b < w.heap.size → (∀ r, g.ow b ≠ some r) → v.ownBlock ≠ some b ∧ v'.ownBlock ≠ some b := fun b hlt hno => by
    have h1 : v.ownBlock ≠ some b := fun hvb => by
      obtain ⟨j, _, h4, _, _⟩ := hown b hvb; exact hno _ h4
    exact ⟨h1, fun hvb => (hb' b hvb).elim h1 (fun hle => by omega)⟩
  refine ⟨g', h.world hl rfl rfl rfl ?_ ?_ ?_ (h.bel.grown hg hB ?_) (fun j x hx => .inl (h.dk j x hx)) rfl rfl rfl (fun b hlt hno => ?_) (fun b r hr => ?_) hobj, hl, by simp [g'], by simp [g'], by simp [g'], fun b hb o ho => .inr ⟨hb, ho⟩⟩
  · intro β row hb; have hbo := h.box β row hb
    obtain ⟨cs, el, h4, _⟩ := hbo.cells; obtain ⟨h5, h6⟩ := hother _ _ hbo.ow (block_lt h4) (fun _ _ => by simp)
    refine RelG.BoxOk_mono hl hbo rfl ?_ ?_ (hg.block _ (block_lt h4) (fun e => h5 e.symm))
    · simp [g', h6]
    · rintro o (hp | ⟨hp, _⟩)
      · exact hbo.np o hp
      · exact h6 hp
  · rintro j (⟨hj, hkill⟩ | rfl)
    · obtain ⟨h1, n1, xs1, h2, h3, hdy⟩ := h.live j hj; have hne : j ≠ k := fun e => hf (e ▸ h1)
      have hdis : ∀ b, (g.T j).ownBlock = some b → v.ownBlock ≠ some b ∧ v'.ownBlock ≠ some b := fun b hb =>
        hother b _ (h3 b hb).1 (h2.lt b hb).2 (fun j' hj' => by simp only [ne_eq, Res.tok.injEq]; rintro rfl; exact hkill hj')
      refine ⟨.inl h1, n1, xs1, ?_, ?_, ?_⟩
      rotate_left 2
      · refine hdy.mono hl.mem hl.ad (fun _ _ h => h) (fun _ h => h) (by simp only [g', if_neg hne]) (by simp only [g', if_neg hne]) (by simp only [g', if_neg hne]) ?_
        rintro b hb hno o (hp | ⟨hp, _⟩)
        · exact hno o hp
        · exact (hdis b hb).2 hp
      · simp only [g', if_neg hne]; refine h2.kept hg ?_
        cases hb : (g.T j).ownBlock with
        | none => exact .inl rfl
        | some b => exact .inr (fun e => (hdis b hb).1 e.symm)
      · simp only [g', if_neg hne]; intro b hb; obtain ⟨h4, h5⟩ := h3 b hb; refine ⟨by rw [if_neg (hdis b hb).2]; exact h4, ?_⟩
        rintro o ho (hp | ⟨hp, _⟩)
        · exact h5 o ho hp
        · exact (hdis b hb).2 hp
    · refine ⟨.inr rfl, n', xs ++ ys, by simpa [g'] using ho', ?_, fun x hx => ?_⟩
      rotate_left 1
      · have hx' : α.dyn j = some x := hx
        exact absurd (h.dk j x hx') hf
      simp only [g', if_true]; intro b hb; refine ⟨by rw [if_pos hb], ?_⟩
      rintro o ho (hp | ⟨_, hp⟩)
      · rcases hb' b hb with h1 | h1
        · obtain ⟨_, _, _, _, hno⟩ := hown b h1; have hle := hpre (by rw [h1]; simp)
          exact hno o (Nat.le_trans (Nat.mul_le_mul_right sz hle) ho) hp
        · have := h.pwf b o hp; omega
      · omega
  · rintro b o (hp | ⟨hp, _⟩)
    · exact Nat.lt_of_lt_of_le (h.pwf b o hp) hg.size
    · exact (ho'.lt b hp).2
  · intro b hb; obtain ⟨_, _, _, h1, _⟩ := hown b hb; exact h1
  · obtain ⟨h1, h2⟩ := hnone b hlt hno; refine ⟨hg.block b hlt (fun e => h1 e.symm), fun o => ⟨?_, .inl⟩⟩
    rintro (hp | ⟨hp, _⟩)
    · exact hp
    · exact absurd hp h2
  · simp only [g'] at hr; split at hr
    · rename_i e; refine ⟨(ho'.lt b e).2, ?_⟩
      rcases hb' b e with h1 | h1
      · obtain ⟨_, _, h4, _⟩ := hown b h1; exact .inl ⟨_, h4⟩
      · exact .inr h1
    · exact ⟨Nat.lt_of_lt_of_le (h.hl.owb b r hr) hg.size, .inl ⟨r, hr⟩⟩

end Go.Proofs.Ytmglkddddpipgaa.Sx

namespace Go.Proofs.Ytmglkddddpipgaa.Sx
open Go.RowKit

noncomputable def AS.upd (α : AS) (δ : Δ) (nb nt : Nat) : AS :=
  { α with
    slot := fun i => if δ.dst = some i then δ.sv else α.slot i
    box := fun β => match δ.newb with
      | some r => if β = nb then some r else (match δ.setb with | some (β', row) => if β = β' then some row else α.box β | none => α.box β)
      | none => match δ.setb with | some (β', row) => if β = β' then some row else α.box β | none => α.box β
    known := fun k => α.known k ∨ (nt ≤ k ∧ k < nt + δ.nt)
    live := fun k => (α.live k ∧ δ.kill ≠ some k) ∨ (nt ≤ k ∧ k < nt + δ.nt)
    dyn := fun k => match look δ.dy k with | some x => x | none => α.dyn k
    ar := fun k => match look δ.dr k with | some x => some x | none => α.ar k }

theorem RelG.ext [Arn] {B : Base} {ρ : List D} {α α' : AS} {a : Act} {bs : List Act} {w : World} {g : G} (h : RelG B ρ α a bs w g)
    (hn : α'.n = α.n) (hs : ∀ i, α'.slot i = α.slot i) (hb : ∀ β, α'.box β = α.box β) (hk : ∀ k, α'.known k ↔ α.known k) (hl : ∀ k, α'.live k → α.live k) (hv : α'.saved = α.saved) (hdy : ∀ k x, α'.dyn k = some x → α.dyn k = some x := by exact fun _ _ h => h) (har : α'.ar = α.ar := by rfl) (hout : α'.out = α.out := by rfl) : RelG B ρ α' a bs w g := by
  have hle : LeC ρ α g w ρ α' g w := ⟨fun _ _ h => h, fun β row h => ⟨⟨row, by rw [hb]; exact h⟩, rfl⟩, fun k h => ⟨(hk k).2 h, rfl, rfl, rfl⟩, fun _ _ h => ⟨h, rfl⟩, fun _ _ _ h => h⟩
  exact h.st hle hn (funext hs) hv (fun β row hr => RelG.BoxOk_mono hle (h.box β row (by rw [← hb]; exact hr)) rfl rfl (h.box β row (by rw [← hb]; exact hr)).np rfl)
    (fun k hk' => ⟨(hk k).2 (h.live k (hl k hk')).1, by
      obtain ⟨n, xs, h1, h2, h3⟩ := (h.live k (hl k hk')).2
      exact ⟨n, xs, h1, h2, h3.mono hle.mem hle.ad (fun _ _ h => h) (hdy k) rfl rfl rfl (fun _ _ h => h)⟩⟩) (fun k x hx => (hk k).2 (h.dk k x (hdy k x hx))) har hout

def Does (P : Program) (o : Oper) (a : Act) (w : World) (Post : Act → World → Prop) : Prop :=
  ∀ (next : Act → World → Prop) (Q : Exit → Act → World → Prop), (∀ a' w', Post a' w' → next a' w') → o.wp P a w next Q

theorem does_value [Arn] {P : Program} {o : Oper} {a : Act} {w w' : World} {v : Value} {Post : Act → World → Prop} (h : (execOp a.eval o).run P w = .ok (.value v) w') (hp : Post (a.put o.dst v) w') :
    Does P o a w Post := fun next Q hn => by
  unfold Oper.wp; rw [h]; exact hn _ _ hp

theorem does_skip [Arn] {P : Program} {o : Oper} {a : Act} {w w' : World} {Post : Act → World → Prop} (h : (execOp a.eval o).run P w = .ok .skip w') (hp : Post (a.put o.dst undef) w') :
    Does P o a w Post := fun next Q hn => by
  unfold Oper.wp; rw [h]; exact hn _ _ hp

structure Pre (P : Program) (B : Base) (ρ : List D) (st : SS) (o : Oper) (α : AS) (a : Act) (bs : List Act) (w : World) (g : G) : Prop where
  rel : RelG B ρ α a bs w g
  dst : ∀ d, o.dst = some d → d < α.n
  slot : ∀ i sv, Operand.tmp i ∈ o.op.operands → st.slot i = some sv → α.slot i = sv

theorem litOf_rep [Arn] {ρ : List D} {α : AS} {g : G} {w : World} {h : Option Ty} {e : Option TypeId} {v : Value} {c : SC} (hc : litOf h e v = some c) : SCRep ρ α g w c v := by
  unfold litOf at hc; split at hc
  · split at hc
    · rename_i k n hb; simp only [Bool.and_eq_true, decide_eq_true_eq] at hb; cases hc; exact ⟨⟨.int k, n⟩, rfl, rfl, rfl, hb.1, hb.2⟩
    · cases hc
  · cases hc; exact ⟨⟨.bool, _⟩, rfl, rfl, rfl⟩
  · split at hc
    · rename_i s hs; cases hc; exact ⟨⟨.str, _⟩, rfl, rfl, s, rfl, rfl, by unfold maxLen; omega⟩
    · cases hc
  · split at hc
    · cases hc; rfl
    · cases hc; exact ⟨⟨.sl _, []⟩, rfl, rfl, .inl ⟨rfl, rfl⟩⟩
    · cases hc; rfl
    · cases hc
  · split at hc
    · cases hc; exact ⟨⟨.nd _, .leaf⟩, rfl, rfl, .pointer none, rfl, rfl⟩
    · cases hc; exact ⟨⟨.pt _, none⟩, rfl, rfl, .inl ⟨rfl, rfl⟩⟩
    · split at hc
      · rename_i k hk; cases hc; simp only [beq_iff_eq] at hk; exact ⟨⟨.ref k, none⟩, rfl, rfl, .inl ⟨by simp [refVal, hk], rfl⟩⟩
      · cases hc
    · cases hc; rfl
  · split at hc
    · split at hc
      · rename_i k hk; cases hc; simp only [beq_iff_eq] at hk; exact ⟨⟨.ref k, none⟩, rfl, rfl, .inl ⟨by simp [refVal, hk], rfl⟩⟩
      · cases hc
    · cases hc
  · cases hc

theorem litCells_rep [Arn] {ρ : List D} {α : AS} {g : G} {w : World} : ∀ (ts : List Ty) (es : List (Option TypeId)) (vs : List Value) (cs : List SC), litCells ts es vs = some cs → All2 (SCRep ρ α g w) cs vs
  | [], _, [], cs, h => by simp only [litCells, oi] at h; subst h; exact .nil
  | [], _, _ :: _, cs, h => by simp [litCells] at h
  | _ :: _, _, [], cs, h => by simp [litCells] at h
  | t :: ts, es, v :: vs, cs, h => by
    simp only [litCells] at h; split at h
    · rename_i c cs' h1 h2; cases h; exact .cons (litOf_rep h1) (litCells_rep ts _ vs _ h2)
    · cases h

theorem litSV_rep [Arn] {P : Program} {ρ : List D} {α : AS} {g : G} {w : World} {h : Option TypeId} {v : Value} {s : SV} (hs : litSV P h v = some s) : SVRep ρ α g w s v := by
  unfold litSV at hs; split at hs
  · split at hs
    · simp only [Option.map_eq_some_iff] at hs; obtain ⟨l, h1, rfl⟩ := hs; exact ⟨_, rfl, litCells_rep _ _ _ _ h1⟩
    · cases hs
  all_goals
    simp only [Option.map_eq_some_iff] at hs; obtain ⟨c, h1, rfl⟩ := hs; exact litOf_rep h1

section
variable {P : Program} {B : Base} {ρ : List D} {st : SS} {o : Oper} {α : AS} {a : Act} {bs : List Act} {w : World} {g : G}

theorem Pre.ev [Arn] (p : Pre P B ρ st o α a bs w g) {h : Option TypeId} {x : Operand} {s : SV} (hx : x ∈ o.op.operands) (hs : st.ev P h x = some s) : SVRep ρ α g w s (a.eval x) := by
  cases x with
  | tmp i =>
    have := p.slot i s hx hs
    have hr := p.rel.slot i
    rw [this] at hr; exact hr
  | const v => exact litSV_rep hs
  | func f =>
    simp only [SS.ev, oi] at hs; subst hs; exact ⟨#[], rfl, .nil⟩
  | global n => simp [SS.ev] at hs

theorem Pre.c1 [Arn] (p : Pre P B ρ st o α a bs w g) {h : Option TypeId} {x : Operand} {c : SC} (hx : x ∈ o.op.operands) (hs : (st.ev P h x).bind SV.c1 = some c) : SCRep ρ α g w c (a.eval x) := by
  cases hv : st.ev P h x with
  | none => simp [hv] at hs
  | some s =>
    have hr := p.ev hx hv
    rw [hv] at hs; cases s <;> simp [SV.c1] at hs
    subst hs; exact hr

theorem arg_rep [Arn] {c : SC} {x : A} {t : Ty} {v : Value} (hc : c.arg = some (x, t)) (hr : SCRep ρ α g w c v) : ∃ d, x.ev ρ = some d ∧ d.t = t ∧ RepD g.p w v d := by
  cases c <;> simp only [SC.arg, oi, Prod.mk.injEq, reduceCtorEq] at hc
  · obtain ⟨rfl, rfl⟩ := hc; exact hr
  · obtain ⟨rfl, rfl⟩ := hc; cases hr; exact ⟨_, rfl, rfl, .inl ⟨rfl, rfl⟩⟩
  · obtain ⟨rfl, rfl⟩ := hc; obtain ⟨xs, h1, h2, _⟩ := hr; exact ⟨_, h1, rfl, h2⟩
  · obtain ⟨rfl, rfl⟩ := hc; obtain ⟨xs, h1, h2, _⟩ := hr; exact ⟨_, h1, rfl, h2⟩

theorem Pre.evA [Arn] (p : Pre P B ρ st o α a bs w g) {h : Option TypeId} {x : Operand} {y : A} {t : Ty} (hx : x ∈ o.op.operands) (hs : evA P st h x = some (y, t)) :
    ∃ d, y.ev ρ = some d ∧ d.t = t ∧ RepD g.p w (a.eval x) d := by
  unfold Sx.evA at hs; cases hc : (st.ev P h x).bind SV.c1 with
  | none => simp [hc] at hs
  | some c =>
    rw [hc] at hs; exact arg_rep hs (p.c1 hx hc)

theorem cells_rep [Arn] {s : SV} {cs : List SC} {v : Value} (hs : s.cells = some cs) (hr : SVRep ρ α g w s v) (ho : ∀ c, s = .one c → v.cells = #[v]) : All2 (SCRep ρ α g w) cs v.cells.toList := by
  cases s <;> simp only [SV.cells, oi, reduceCtorEq] at hs
  · subst hs; rw [ho _ rfl]; exact .cons hr .nil
  · subst hs; obtain ⟨vs, rfl, h⟩ := hr; exact h

theorem RepD.cells1 [Arn] {p : PF} {v : Value} {d : D} (h : RepD p w v d) : v.cells = #[v] := by
  have := Rep.one _ _ _ h v (by simp)
  cases v <;> first | rfl | (simp [Value.oneCell'] at this)

theorem SCRep.cells1 [Arn] {c : SC} {v : Value} (h : SCRep ρ α g w c v) : v.cells = #[v] := by
  cases c with
  | a x t => obtain ⟨d, _, _, h3⟩ := h; exact h3.cells1
  | nl t e => cases h; rfl
  | own i k t e => obtain ⟨xs, _, h2, _⟩ := h; exact RepD.cells1 (d := ⟨.sl t, xs⟩) h2
  | adr β off => obtain ⟨_, rfl⟩ := h; rfl
  | el x i e off => obtain ⟨_, _, _, _, _, _, _, _, _, _, _, rfl, _⟩ := h; rfl
  | fn f caps => obtain ⟨_, rfl, _⟩ := h; rfl
  | nilp => cases h; rfl
  | nlp => cases h; rfl
  | lst k ps e => obtain ⟨_, _, _, _, h⟩ := h; rcases h with ⟨rfl, _⟩ | ⟨_, _, rfl, _⟩ <;> rfl
  | pel β off => obtain ⟨_, _, _, rfl, _⟩ := h; rfl
  | dsl k => obtain ⟨_, _, _, _, _, rfl⟩ := h; rfl
  | del k i off => obtain ⟨_, _, _, _, _, _, _, _, _, _, rfl⟩ := h; rfl
  | dvw k i => obtain ⟨_, _, _, _, _, ⟨_, _, rfl⟩ | ⟨_, _, _, _, _, _, _, rfl, _⟩⟩ := h <;> rfl
  | ful i t => obtain ⟨xs, _, h2, _⟩ := h; exact RepD.cells1 (d := ⟨.sl t, xs⟩) h2
  | nel x e off => obtain ⟨_, _, _, _, _, _, _, _, _, rfl, _⟩ := h; rfl
  | ptl x e off => obtain ⟨_, _, _, _, rfl, _⟩ := h; rfl

theorem SCRep.oneCell [Arn] {c : SC} {v : Value} (h : SCRep ρ α g w c v) : v.oneCell' = true := by
  cases c with
  | a x t => obtain ⟨d, _, _, h3⟩ := h; exact Rep.one _ _ _ h3 v (by simp)
  | nl t e => cases h; rfl
  | own i k t e => obtain ⟨xs, _, h2, _⟩ := h; exact Rep.one _ _ _ h2 v (by simp)
  | adr β off => obtain ⟨_, rfl⟩ := h; rfl
  | el x i e off => obtain ⟨_, _, _, _, _, _, _, _, _, _, _, rfl, _⟩ := h; rfl
  | fn f caps => obtain ⟨_, rfl, _⟩ := h; rfl
  | nilp => cases h; rfl
  | nlp => cases h; rfl
  | lst k ps e => obtain ⟨_, _, _, _, h⟩ := h; rcases h with ⟨rfl, _⟩ | ⟨_, _, rfl, _⟩ <;> rfl
  | pel β off => obtain ⟨_, _, _, rfl, _⟩ := h; rfl
  | dsl k => obtain ⟨_, _, _, _, _, rfl⟩ := h; rfl
  | del k i off => obtain ⟨_, _, _, _, _, _, _, _, _, _, rfl⟩ := h; rfl
  | dvw k i => obtain ⟨_, _, _, _, _, ⟨_, _, rfl⟩ | ⟨_, _, _, _, _, _, _, rfl, _⟩⟩ := h <;> rfl
  | ful i t => obtain ⟨xs, _, h2, _⟩ := h; exact Rep.one _ _ _ h2 v (by simp)
  | nel x e off => obtain ⟨_, _, _, _, _, _, _, _, _, rfl, _⟩ := h; rfl
  | ptl x e off => obtain ⟨_, _, _, _, rfl, _⟩ := h; rfl

theorem Pre.cells [Arn] (p : Pre P B ρ st o α a bs w g) {h : Option TypeId} {x : Operand} {cs : List SC} (hx : x ∈ o.op.operands) (hs : (st.ev P h x).bind SV.cells = some cs) :
    All2 (SCRep ρ α g w) cs (a.eval x).cells.toList := by
  cases hv : st.ev P h x with
  | none => simp [hv] at hs
  | some s =>
    have hr := p.ev hx hv
    rw [hv] at hs; exact cells_rep hs hr (fun c hc => by subst hc; exact SCRep.cells1 hr)

def Post (B : Base) (ρ : List D) (α : AS) (δ : Δ) (nb nt : Nat) (bs : List Act) (a' : Act) (w' : World) : Prop := ∃ g', RelG B ρ (α.upd δ nb nt) a' bs w' g'

theorem upd_put [Arn] (α : AS) (dst : Option Tmp) (sv : SV) (nv nb nt : Nat) {a : Act} {w : World} (h : RelG B ρ (α.put dst sv) a bs w g) : RelG B ρ (α.upd { dst := dst, sv := sv, nv := nv } nb nt) a bs w g :=
  h.ext rfl (fun _ => rfl) (fun _ => rfl) (fun k => ⟨fun h => h.elim id (fun h => absurd h.2 (by simp only [Nat.add_zero]; omega)), .inl⟩)
    (fun k h => h.elim And.left (fun h => absurd h.2 (by simp only [Nat.add_zero]; omega))) rfl

theorem Pre.value [Arn] (p : Pre P B ρ st o α a bs w g) {sv : SV} {v : Value} {nv : Nat} (h : (execOp a.eval o).run P w = .ok (.value v) w) (hv : SVRep ρ α g w sv v) :
    Does P o a w (Post B ρ α { dst := o.dst, sv := sv, nv := nv } st.nb st.ntok bs) :=
  does_value h ⟨g, upd_put α o.dst sv nv _ _ (p.rel.put p.dst hv)⟩
end

def EnvOk (Φ : Nat → Cont) (ρ : List D) (nv : Nat) (p : Pr) (xs : List A) : Prop :=
  ∃ ds outs, evs ρ xs = some ds ∧ evalPr (R := List D) Φ p ds some = some outs ∧ ∀ j d, outs[j]? = some d → nth ρ (nv + j) = some d

end Go.Proofs.Ytmglkddddpipgaa.Sx

namespace Go.Proofs.Ytmglkddddpipgaa.Sx
open Go.RowKit

theorem wrap_wf [Arn] (k : IntKind) (n : Int) : k.min ≤ k.wrap n ∧ k.wrap n ≤ k.max := by
  cases k <;> simp [IntKind.wrap, IntKind.min, IntKind.max, IntKind.signed, IntKind.bits] <;> (try split) <;> omega

theorem tmod_wf [Arn] (k : IntKind) (x y : Int) (h : k.min ≤ x ∧ x ≤ k.max) : k.min ≤ x.tmod y ∧ x.tmod y ≤ k.max := by
  have hk : k.min ≤ 0 ∧ 0 ≤ k.max := by cases k <;> simp [IntKind.min, IntKind.max, IntKind.signed, IntKind.bits]
  rcases Int.le_total 0 x with h0 | h0
  · have h1 := Int.tmod_nonneg y h0
    have h2 : x.tmod y ≤ x := by
      have := Int.natAbs_tmod x y
      have h3 : (x.tmod y).natAbs ≤ x.natAbs := by rw [this]; exact Nat.mod_le _ _
      omega
    omega
  · have h1 : x.tmod y ≤ 0 := by
      have := Int.neg_tmod (-x) y
      have h5 := Int.tmod_nonneg (a := -x) y (by omega)
      rw [Int.neg_neg] at this; omega
    have h3 : (x.tmod y).natAbs ≤ x.natAbs := by rw [Int.natAbs_tmod]; exact Nat.mod_le _ _
    omega

theorem fdiv_wf [Arn] (k : IntKind) (x : Int) (n : Nat) (h : k.min ≤ x ∧ x ≤ k.max) : k.min ≤ x.fdiv (2 ^ n) ∧ x.fdiv (2 ^ n) ≤ k.max := by
  have hp : (0 : Int) < 2 ^ n := Int.pow_pos (by decide)
  have hk : k.min ≤ 0 ∧ 0 ≤ k.max := by cases k <;> simp [IntKind.min, IntKind.max, IntKind.signed, IntKind.bits]
  rw [Int.fdiv_eq_ediv_of_nonneg _ (by omega)]; rcases Int.le_total 0 x with h0 | h0
  · have h1 := Int.ediv_nonneg h0 (Int.le_of_lt hp)
    have h2 := Int.ediv_le_self (2 ^ n) h0
    omega
  · have h1 : x / 2 ^ n ≤ 0 := by
      have := Int.ediv_le_ediv hp h0
      simpa using this
    have h2 : x ≤ x / 2 ^ n := by
      rw [Int.le_ediv_iff_mul_le hp]; have : x * 2 ^ n ≤ x * 1 := Int.mul_le_mul_of_nonpos_left h0 (by omega)
      omega
    omega

theorem run_bin_int [Arn] (P : Program) (w : World) (op : BinOp) (t : TypeId) (k k' : IntKind) (x y r : Int) (hk : k = k' ∨ isShift op = true) (hc : isCmp op = false)
    (h : ibin (R := Int) op k x y some = some r) : (binOp op t (.int k x) (.int k' y)).run P w = .ok (.int k r) w := by
  cases op <;> simp only [isCmp, isShift, Bool.true_eq_false, Bool.false_eq_true, or_false, reduceCtorEq] at hk hc
  all_goals simp only [ibin, oi, Option.ite_none_left_eq_some] at h
  case shl => obtain ⟨h0, rfl⟩ := h; simp [binOp, Op.shift, h0]
  case shr => obtain ⟨h0, rfl⟩ := h; simp [binOp, Op.shift, h0]
  all_goals subst hk
  case add => subst h; simp [binOp, Op.intArith]
  case sub => subst h; simp [binOp, Op.intArith]
  case mul => subst h; simp [binOp, Op.intArith]
  case quo => obtain ⟨h0, rfl⟩ := h; simp [binOp, Op.intDiv, h0]
  case rem => obtain ⟨h0, rfl⟩ := h; simp [binOp, Op.intDiv, h0]
  case and => subst h; simp [binOp, Op.intBits, bAnd]
  case or => subst h; simp [binOp, Op.intBits, bOr]
  case xor => subst h; simp [binOp, Op.intBits, bXor]
  case andNot => subst h; simp [binOp, Op.intBits, bAndNot]

theorem ibin_wf [Arn] {op : BinOp} {k : IntKind} {x y r : Int} (hx : k.min ≤ x ∧ x ≤ k.max) (h : ibin (R := Int) op k x y some = some r) : k.min ≤ r ∧ r ≤ k.max := by
  cases op <;> simp only [ibin, oi, Option.ite_none_left_eq_some, reduceCtorEq] at h
  case shr => obtain ⟨_, rfl⟩ := h; exact fdiv_wf k x _ hx
  case rem => obtain ⟨_, rfl⟩ := h; exact tmod_wf k x y hx
  case shl => obtain ⟨_, rfl⟩ := h; exact wrap_wf _ _
  case quo => obtain ⟨_, rfl⟩ := h; exact wrap_wf _ _
  all_goals subst h; exact wrap_wf _ _

theorem run_cmp_int [Arn] (P : Program) (w : World) (op : BinOp) (t : TypeId) (k : IntKind) (x y : Int) (r : Bool) (h : icmp (R := Bool) op x y some = some r) :
    (binOp op t (.int k x) (.int k y)).run P w = .ok (.bool r) w := by
  cases op <;> simp only [icmp, oi, reduceCtorEq] at h <;> subst h <;> simp [binOp, Op.intCmp] <;> rfl

theorem eqGuard_run [Arn] (P : Program) (w : World) (op : BinOp) (t : TypeId) (x y : Operand) (u v : Value) (hu : u.oneCell' = true) (hn : u ≠ .nilIface) : (eqGuard op t x y u v).run P w = .ok () w := by
  unfold eqGuard; cases op <;> simp
  all_goals (cases u <;> first | (simp [Value.oneCell'] at hu; done) | (exact absurd rfl hn) | (cases v <;> simp))

theorem bytesI_inj [Arn] {a b : ByteArray} : bytesI a = bytesI b ↔ a.data.toList = b.data.toList := by
  unfold bytesI; constructor
  · intro h; have hinj : Function.Injective (fun b : UInt8 => (b.toNat : Int)) := fun x y hxy => UInt8.toNat_inj.1 (by have : (x.toNat : Int) = (y.toNat : Int) := hxy; omega)
    exact (List.map_inj_right (fun x y hxy => hinj hxy)).1 h
  · intro h; rw [h]

theorem ltL_bytes [Arn] : ∀ (a b : List UInt8), Op.bytesLess a b = ltL (a.map fun b => (b.toNat : Int)) (b.map fun b => (b.toNat : Int))
  | a, [] => by cases a <;> rfl
  | [], b :: bs => rfl
  | a :: x, b :: y => by
    simp only [Op.bytesLess, ltL, List.map_cons, ltL_bytes x y]; congr 1
    · rw [Bool.eq_iff_iff]; simp [UInt8.lt_iff_toNat_lt]
    · congr 1
      rw [Bool.eq_iff_iff]; simp [← UInt8.toNat_inj]; omega

theorem bytes_beq [Arn] (a b : ByteArray) : (a.toList == b.toList) = decide (bytesI a = bytesI b) := by
  rw [Bool.eq_iff_iff, beq_iff_eq, decide_eq_true_eq, ByteArray.toList_eq, ByteArray.toList_eq, bytesI_inj]

theorem run_scmp [Arn] (P : Program) (w : World) (op : BinOp) (t : TypeId) (x y : ByteArray) (r : Bool) (h : scmp (R := Bool) op (bytesI x) (bytesI y) some = some r) :
    (binOp op t (.string x) (.string y)).run P w = .ok (.bool r) w := by
  have hb := bytes_beq x y
  have hl : Op.bytesLess x.toList y.toList = ltL (bytesI x) (bytesI y) := by rw [ByteArray.toList_eq, ByteArray.toList_eq, ltL_bytes]; rfl
  cases op <;> simp only [scmp, oi, reduceCtorEq] at h <;> subst h <;> simp [binOp, Op.stringOp, hb, hl]

theorem bytesI_append [Arn] (x y : ByteArray) : bytesI (x ++ y) = bytesI x ++ bytesI y := by simp [bytesI]

theorem bytesI_len [Arn] (x : ByteArray) : (bytesI x).length = x.size := by simp [bytesI]

theorem run_scat [Arn] (P : Program) (w : World) (t : TypeId) (x y : ByteArray) (h : (bytesI x).length + (bytesI y).length ≤ BIG) :
    (binOp .add t (.string x) (.string y)).run P w = .ok (.string (x ++ y)) w := by
  rw [bytesI_len, bytesI_len] at h; have : ¬ (((x.size + y.size : Nat) : Int) > IntKind.i64.max) := by
    unfold BIG at h; simp [IntKind.max, IntKind.signed, IntKind.bits]; omega
  simp only [binOp, Op.stringOp]; rw [if_neg this]; rfl

end Go.Proofs.Ytmglkddddpipgaa.Sx

namespace Go.Proofs.Ytmglkddddpipgaa.Sx
open Go.RowKit

theorem evs1 [Arn] {ρ : List D} {a : A} {d : D} (h : a.ev ρ = some d) : evs ρ [a] = some [d] := by simp only [evs, h]
theorem evs2 [Arn] {ρ : List D} {a b : A} {d e : D} (h : a.ev ρ = some d) (k : b.ev ρ = some e) : evs ρ [a, b] = some [d, e] := by simp only [evs, h, k]
theorem evs3 [Arn] {ρ : List D} {a b c : A} {d e f : D} (h : a.ev ρ = some d) (k : b.ev ρ = some e) (l : c.ev ρ = some f) : evs ρ [a, b, c] = some [d, e, f] := by simp only [evs, h, k, l]

section
variable {P : Program} {B : Base} {ρ : List D} {st : SS} {o : Oper} {α : AS} {a : Act} {bs : List Act} {w : World} {g : G} {Φ : Nat → Cont}

theorem EnvOk.get [Arn] {q : Pr} {xs : List A} {ds : List D} (he : EnvOk Φ ρ st.nv q xs) (hx : evs ρ xs = some ds) : ∃ outs, evalPr (R := List D) Φ q ds some = some outs ∧ ∀ j d, outs[j]? = some d → nth ρ (st.nv + j) = some d := by
  obtain ⟨ds', outs, h1, h2, h3⟩ := he; rw [hx] at h1; cases h1; exact ⟨outs, h2, h3⟩

theorem var_rep [Arn] {t : Ty} {x : t.den} {v : Value} (hn : nth ρ st.nv = some ⟨t, x⟩) (hr : Rep g.p w t [v] x) : SVRep ρ α g w (.one (.a (.v st.nv) t)) v := ⟨⟨t, x⟩, hn, rfl, hr⟩

theorem Pre.prim [Arn] (p : Pre P B ρ st o α a bs w g) {t : Ty} {x : t.den} {v : Value} (h : (execOp a.eval o).run P w = .ok (.value v) w) (hn : nth ρ st.nv = some ⟨t, x⟩) (hr : Rep g.p w t [v] x) :
    Does P o a w (Post B ρ α { dst := o.dst, sv := .one (.a (.v st.nv) t), nv := 1 } st.nb st.ntok bs) := p.value h (var_rep hn hr)

theorem int_of [Arn] {v : Value} {d : D} {k : IntKind} (ht : d.t = .int k) (h : RepD g.p w v d) : ∃ n : Int, d = ⟨.int k, n⟩ ∧ v = .int k n ∧ k.min ≤ n ∧ n ≤ k.max := by
  obtain ⟨t, x⟩ := d; cases ht; obtain ⟨h1, h2, h3⟩ := h; exact ⟨x, rfl, by simpa using h1, h2, h3⟩

theorem bool_of [Arn] {v : Value} {d : D} (ht : d.t = .bool) (h : RepD g.p w v d) : ∃ b : Bool, d = ⟨.bool, b⟩ ∧ v = .bool b := by
  obtain ⟨t, x⟩ := d; cases ht; exact ⟨x, rfl, by have h' : [v] = [Value.bool x] := h; simpa using h'⟩

theorem str_of [Arn] {v : Value} {d : D} (ht : d.t = .str) (h : RepD g.p w v d) : ∃ ba : ByteArray, d = ⟨.str, bytesI ba⟩ ∧ v = .string ba ∧ ba.size ≤ maxLen := by
  obtain ⟨t, x⟩ := d; cases ht; obtain ⟨ba, h1, h2, h3⟩ := h; simp only at h2
  subst h2; exact ⟨ba, rfl, by simpa using h1, h3⟩

theorem sl_of [Arn] {v : Value} {d : D} {e : Ty} (ht : d.t = .sl e) (h : RepD g.p w v d) : ∃ xs : List e.den, d = ⟨.sl e, xs⟩ ∧ Rep g.p w (.sl e) [v] xs := by
  obtain ⟨t, x⟩ := d; cases ht; exact ⟨x, rfl, h⟩

theorem nd_of [Arn] {v : Value} {d : D} {e : Ty} (ht : d.t = .nd e) (h : RepD g.p w v d) : ∃ x : BT e.den, d = ⟨.nd e, x⟩ ∧ RepT g.p w (fun cs y => Rep g.p w e cs y) x v := by
  obtain ⟨t, x⟩ := d; cases ht; obtain ⟨u, h1, h2⟩ := h; simp only [List.cons.injEq, and_true] at h1; subst h1; exact ⟨x, rfl, h2⟩

theorem pt_of [Arn] {v : Value} {d : D} {e : Ty} (ht : d.t = .pt e) (h : RepD g.p w v d) : ∃ x : Option e.den, d = ⟨.pt e, x⟩ ∧ ((v = .pointer none ∧ x = none) ∨ ∃ b cs y, v = .pointer (some ⟨b, 0, none⟩) ∧ x = some y ∧ CellsAt g.p w b 0 cs ∧ Rep g.p w e cs y) := by
  obtain ⟨t, x⟩ := d; cases ht; refine ⟨x, rfl, ?_⟩
  rcases h with ⟨h1, h2⟩ | ⟨b, cs, y, h1, h2⟩
  · simp only [List.cons.injEq, and_true] at h1; exact .inl ⟨h1, h2⟩
  · simp only [List.cons.injEq, and_true] at h1; exact .inr ⟨b, cs, y, h1, h2⟩

theorem ref_of [Arn] {v : Value} {d : D} {k : Nat} (ht : d.t = .ref k) (h : RepD g.p w v d) : ∃ x : Option Nat, d = ⟨.ref k, x⟩ ∧ ((v = refVal k none ∧ x = none) ∨ ∃ b j, v = refVal k (some b) ∧ x = some j ∧ g.p.ad k j b) := by
  obtain ⟨t, x⟩ := d; cases ht; refine ⟨x, rfl, ?_⟩
  rcases h with ⟨h1, h2⟩ | ⟨b, j, h1, h2⟩
  · simp only [List.cons.injEq, and_true] at h1; exact .inl ⟨h1, h2⟩
  · simp only [List.cons.injEq, and_true] at h1; exact .inr ⟨b, j, h1, h2⟩

theorem run_binOp [Arn] {op : BinOp} {t : TypeId} {x y : Operand} {yt : TypeId} {r : Value} (ho : o.op = .binOp op t x y yt) (h1 : (a.eval x).oneCell' = true) (h2 : a.eval x ≠ .nilIface)
    (h : (binOp op t (a.eval x) (a.eval y)).run P w = .ok r w) : (execOp a.eval o).run P w = .ok (.value r) w := by
  unfold execOp; simp only [ho, Sem.run_bind, eqGuard_run P w op t x y _ _ h1 h2, Result.andThen_ok, h, Sem.run_pure]

theorem RepD.notIface [Arn] {v : Value} {d : D} (h : RepD g.p w v d) : v ≠ .nilIface := by
  rintro rfl
  obtain ⟨t, x⟩ := d; have key : ∀ (t : Ty) (vs : List Value) (x : t.den), Rep g.p w t vs x → Value.nilIface ∉ vs := by
    intro t; induction t with
    | unit => intro vs x h; simp only [Rep] at h; subst h; simp
    | int k => intro vs x h; simp only [Rep] at h; obtain ⟨rfl, _⟩ := h; simp
    | bool => intro vs x h; simp only [Rep] at h; subst h; simp
    | str => intro vs x h; simp only [Rep] at h; obtain ⟨_, rfl, _⟩ := h; simp
    | sl e _ => intro vs x h; simp only [Rep] at h; rcases h with ⟨rfl, _⟩ | ⟨_, _, _, rfl, _⟩ | ⟨_, rfl, _⟩ <;> simp
    | nd e _ => intro vs x h; simp only [Rep] at h; obtain ⟨v, rfl, h⟩ := h; obtain ⟨a, rfl⟩ := RepT.one h; simp
    | pt e _ => intro vs x h; simp only [Rep] at h; rcases h with ⟨rfl, _⟩ | ⟨_, _, _, rfl, _⟩ <;> simp
    | ref k => intro vs x h; simp only [Rep] at h; rcases h with ⟨rfl, _⟩ | ⟨_, _, rfl, _⟩ <;> (simp only [refVal]; split <;> simp)
    | pair a b iha ihb =>
      intro vs x h; simp only [Rep] at h; obtain ⟨va, vb, rfl, h1, h2⟩ := h; simp only [List.mem_append, not_or]; exact ⟨iha _ _ h1, ihb _ _ h2⟩
  exact key t _ x h (by simp)

theorem isPtr_some [Arn] {d : Option TypeDesc} (h : isPtr d = true) : ∃ e, d = some (.pointer e) := by
  unfold isPtr at h; split at h
  · exact ⟨_, rfl⟩
  · cases h

theorem isBoolT_some [Arn] {d : Option TypeDesc} (h : isBoolT d = true) : d = some .bool := by
  unfold isBoolT at h; split at h
  · rfl
  · cases h

theorem eq_run [Arn] {t : TypeId} {x y : Value} {b : Bool} (h : ∀ d, (Op.equalIn (d + 1) t x y).run P w = .ok b w) : (Op.equal t x y).run P w = .ok b w := h 9999

theorem eqPP [Arn] {t el : TypeId} (hu : P.underlying t = some (.pointer el)) (d : Nat) : (Op.equalIn (d + 1) t (.pointer none) (.pointer none)).run P w = .ok true w := by
  simp [Op.equalIn, run_underlying hu]
theorem eqPA [Arn] {t el : TypeId} {ad : Addr} (hu : P.underlying t = some (.pointer el)) (d : Nat) : (Op.equalIn (d + 1) t (.pointer (some ad)) (.pointer none)).run P w = .ok false w := by
  simp [Op.equalIn, run_underlying hu]

theorem isMapT_some [Arn] {d : Option TypeDesc} (h : isMapT d = true) : ∃ kt et, d = some (.map kt et) := by
  unfold isMapT at h; split at h
  · exact ⟨_, _, rfl⟩
  · cases h

theorem eqMM [Arn] {t kt et : TypeId} (hu : P.underlying t = some (.map kt et)) (d : Nat) : (Op.equalIn (d + 1) t (.map none) (.map none)).run P w = .ok true w := by
  simp [Op.equalIn, run_underlying hu]
theorem eqMA [Arn] {t kt et : TypeId} {b : Nat} (hu : P.underlying t = some (.map kt et)) (d : Nat) : (Op.equalIn (d + 1) t (.map (some b)) (.map none)).run P w = .ok false w := by
  simp [Op.equalIn, run_underlying hu]
theorem eqOf [Arn] {t : TypeId} {x y : Value} {b : Bool} (h : (Op.equal t x y).run P w = .ok b w) (hb : (binOp .eql t x y) = (do pure (.bool (← Op.equal t x y)))) : (binOp .eql t x y).run P w = .ok (.bool b) w := by
  rw [hb]; simp only [Sem.run_bind, h, Result.andThen_ok, Sem.run_pure]
theorem neqOf [Arn] {t : TypeId} {x y : Value} {b : Bool} (h : (Op.equal t x y).run P w = .ok b w) (hb : (binOp .neq t x y) = (do pure (.bool (!(← Op.equal t x y))))) : (binOp .neq t x y).run P w = .ok (.bool (!b)) w := by
  rw [hb]; simp only [Sem.run_bind, h, Result.andThen_ok, Sem.run_pure]

theorem foldI_ok [Arn] {op : BinOp} {k k' : IntKind} {ax ay : A} {sv : SV} {n m : Int} {t : TypeId} (hf : foldI op k k' ax ay = some sv) (hx : ax.ev ρ = some ⟨.int k, n⟩) (hy : ay.ev ρ = some ⟨.int k', m⟩) (bx : k.min ≤ n ∧ n ≤ k.max) :
    ∃ v, (binOp op t (.int k n) (.int k' m)).run P w = .ok v w ∧ SVRep ρ α g w sv v := by
  unfold foldI at hf; split at hf
  · rename_i k1 x k2 y; simp only [A.ev, L.d, oi, D.mk.injEq, Ty.int.injEq] at hx hy; obtain ⟨rfl, hx⟩ := hx; obtain ⟨rfl, hy⟩ := hy; have hx := eq_of_heq hx
    have hy := eq_of_heq hy
    subst hx; subst hy; split at hf
    · rename_i hk; subst hk; have bl : ∀ b : Bool, SVRep ρ α g w (boolSV b) (.bool b) := fun b => ⟨⟨.bool, b⟩, rfl, rfl, rfl⟩
      split at hf <;> simp only [oi, reduceCtorEq] at hf <;> subst hf
      · exact ⟨.int k1 (k1.wrap (x + y)), run_bin_int P w .add t k1 k1 x y _ (.inl rfl) rfl rfl, ⟨.int k1, k1.wrap (x + y)⟩, rfl, rfl, rfl, wrap_wf _ _⟩
      · exact ⟨_, run_cmp_int P w .eql t k1 x y _ rfl, bl _⟩
      · exact ⟨_, run_cmp_int P w .neq t k1 x y _ rfl, bl _⟩
      · exact ⟨_, run_cmp_int P w .lss t k1 x y _ rfl, bl _⟩
      · exact ⟨_, run_cmp_int P w .leq t k1 x y _ rfl, bl _⟩
      · exact ⟨_, run_cmp_int P w .gtr t k1 x y _ rfl, bl _⟩
      · exact ⟨_, run_cmp_int P w .geq t k1 x y _ rfl, bl _⟩
    · cases hf
  · cases hf

theorem binC_does [Arn] (p : Pre P B ρ st o α a bs w g) {op : BinOp} {t yt : TypeId} {x y : Operand} {cx cy : SC} {e : Option (Pr × List A × List Ty)} {δ : Δ}
    (ho : o.op = .binOp op t x y yt) (hx : SCRep ρ α g w cx (a.eval x)) (hy : SCRep ρ α g w cy (a.eval y)) (hs : doBinC (P.underlying t) st o op cx cy = some (.go e δ))
    (he : ∀ q xs ts, e = some (q, xs, ts) → EnvOk Φ ρ st.nv q xs) : Does P o a w (Post B ρ α δ st.nb st.ntok bs) := by
  have bl : ∀ b : Bool, ∀ {α' : AS}, SVRep ρ α' g w (boolSV b) (.bool b) := fun b => ⟨⟨.bool, b⟩, rfl, rfl, rfl⟩
  unfold doBinC at hs; split at hs
  · -- nil against nil
    have hvx : a.eval x = .pointer none := hx
    have hvy : a.eval y = .pointer none := hy
    split at hs
    · rename_i hp; obtain ⟨el, hu⟩ := isPtr_some hp; split at hs
      · simp only [eOne, oi, Eff.go.injEq] at hs; obtain ⟨rfl, rfl⟩ := hs; exact p.value (run_binOp (r := .bool true) ho (by rw [hvx]; rfl) (by rw [hvx]; simp) (by rw [hvx, hvy]; exact eqOf (eq_run (eqPP hu)) rfl)) (bl true)
      · simp only [eOne, oi, Eff.go.injEq] at hs; obtain ⟨rfl, rfl⟩ := hs; exact p.value (run_binOp (r := .bool false) ho (by rw [hvx]; rfl) (by rw [hvx]; simp) (by rw [hvx, hvy]; exact neqOf (eq_run (eqPP hu)) rfl)) (bl false)
      · cases hs
    · cases hs
  · have hvy : a.eval y = .pointer none := by
      obtain ⟨d, k1, k2, k3⟩ := hy; have : d = ⟨.pt _, none⟩ := (Option.some.inj k1).symm
      subst this; rcases k3 with ⟨h1, _⟩ | ⟨_, _, _, _, h2, _⟩
      · simpa using h1
      · cases h2
    obtain ⟨_, hvx⟩ := hx; split at hs
    · rename_i hp; obtain ⟨el, hu⟩ := isPtr_some hp; split at hs
      · simp only [eOne, oi, Eff.go.injEq] at hs; obtain ⟨rfl, rfl⟩ := hs; exact p.value (run_binOp (r := .bool false) ho (by rw [hvx]; rfl) (by rw [hvx]; simp) (by rw [hvx, hvy]; exact eqOf (eq_run (eqPA hu)) rfl)) (bl false)
      · simp only [eOne, oi, Eff.go.injEq] at hs; obtain ⟨rfl, rfl⟩ := hs; exact p.value (run_binOp (r := .bool true) ho (by rw [hvx]; rfl) (by rw [hvx]; simp) (by rw [hvx, hvy]; exact neqOf (eq_run (eqPA hu)) rfl)) (bl true)
      · cases hs
    · cases hs
  · have hvy : a.eval y = .pointer none := hy
    obtain ⟨_, hvx⟩ := hx; split at hs
    · rename_i hp; obtain ⟨el, hu⟩ := isPtr_some hp; split at hs
      · simp only [eOne, oi, Eff.go.injEq] at hs; obtain ⟨rfl, rfl⟩ := hs; exact p.value (run_binOp (r := .bool false) ho (by rw [hvx]; rfl) (by rw [hvx]; simp) (by rw [hvx, hvy]; exact eqOf (eq_run (eqPA hu)) rfl)) (bl false)
      · simp only [eOne, oi, Eff.go.injEq] at hs; obtain ⟨rfl, rfl⟩ := hs; exact p.value (run_binOp (r := .bool true) ho (by rw [hvx]; rfl) (by rw [hvx]; simp) (by rw [hvx, hvy]; exact neqOf (eq_run (eqPA hu)) rfl)) (bl true)
      · cases hs
    · cases hs
  · split at hs
    · rename_i ax tx ay ty h1 h2; obtain ⟨dx, e1, e2, e3⟩ := arg_rep h1 hx; obtain ⟨dy, f1, f2, f3⟩ := arg_rep h2 hy; have hev := evs2 e1 f1
      have hone := (Rep.one _ _ _ e3 _ (by simp) : (a.eval x).oneCell' = true)
      have hnif := RepD.notIface e3
      split at hs
      · -- numbers
        rename_i k k'; obtain ⟨n, rfl, hvx, bx⟩ := int_of e2 e3; obtain ⟨m, rfl, hvy, by'⟩ := int_of f2 f3; split at hs
        · rename_i sv hf; simp only [eOne, oi, Eff.go.injEq] at hs; obtain ⟨rfl, rfl⟩ := hs; obtain ⟨v, hr, hsv⟩ := foldI_ok (P := P) (w := w) (α := α) (g := g) (t := t) hf e1 f1 bx
          exact p.value (run_binOp (r := v) ho hone hnif (by rw [hvx, hvy]; exact hr)) hsv
        split at hs
        · rename_i hc; split at hs
          · rename_i hk; subst hk; simp only [ePr, oi, Eff.go.injEq] at hs; obtain ⟨rfl, rfl⟩ := hs; obtain ⟨outs, h3, h4⟩ := (he _ _ _ rfl).get hev
            simp only [evalPr] at h3; cases hr : icmp (R := Bool) op n m some with
            | none => exfalso; cases op <;> simp [icmp, isCmp] at hr hc h3
            | some r =>
              have h5 : outs = [⟨.bool, r⟩] := by cases op <;> simp only [icmp, oi, reduceCtorEq] at hr h3 <;> subst hr <;> exact h3.symm
              subst h5; refine p.prim (t := .bool) (x := r) (v := .bool r) (run_binOp ho hone hnif ?_) (h4 0 _ rfl) rfl
              rw [hvx, hvy]; exact run_cmp_int P w op t k n m r hr
          · cases hs
        · rename_i hc; split at hs
          · rename_i hk; simp only [ePr, oi, Eff.go.injEq] at hs; obtain ⟨rfl, rfl⟩ := hs; obtain ⟨outs, h3, h4⟩ := (he _ _ _ rfl).get hev
            simp only [evalPr] at h3; cases hr : ibin (R := Int) op k n m some with
            | none => exfalso; cases op <;> simp_all [ibin, isCmp]
            | some r =>
              have h5 : outs = [⟨.int k, r⟩] := by
                cases op <;> simp only [ibin, oi, Option.ite_none_left_eq_some, reduceCtorEq] at hr h3 <;> first | (subst hr; exact h3.symm) | (obtain ⟨_, rfl⟩ := hr; exact h3.2.symm)
              subst h5; refine p.prim (t := .int k) (x := r) (v := .int k r) (run_binOp ho hone hnif ?_) (h4 0 _ rfl) ⟨rfl, ibin_wf bx hr⟩
              rw [hvx, hvy]; exact run_bin_int P w op t k k' n m r (by simpa using hk) (by simpa using hc) hr
          · cases hs
      · -- texts
        obtain ⟨s, rfl, hvx, bx⟩ := str_of e2 e3; obtain ⟨u, rfl, hvy, by'⟩ := str_of f2 f3; split at hs
        · rename_i hc; simp only [ePr, oi, Eff.go.injEq] at hs; obtain ⟨rfl, rfl⟩ := hs; obtain ⟨outs, h3, h4⟩ := (he _ _ _ rfl).get hev
          simp only [evalPr] at h3; cases hr : scmp (R := Bool) op (bytesI s) (bytesI u) some with
          | none => exfalso; cases op <;> simp [scmp, isCmp] at hr hc h3
          | some r =>
            have h5 : outs = [⟨.bool, r⟩] := by cases op <;> simp only [scmp, oi, reduceCtorEq] at hr h3 <;> subst hr <;> exact h3.symm
            subst h5; refine p.prim (t := .bool) (x := r) (v := .bool r) (run_binOp ho hone hnif ?_) (h4 0 _ rfl) rfl
            rw [hvx, hvy]; exact run_scmp P w op t s u r hr
        · split at hs
          · simp only [ePr, oi, Eff.go.injEq] at hs; obtain ⟨rfl, rfl⟩ := hs; obtain ⟨outs, h3, h4⟩ := (he _ _ _ rfl).get hev
            simp only [evalPr, Option.ite_none_right_eq_some, oi] at h3; obtain ⟨hb, rfl⟩ := h3; refine p.prim (t := .str) (x := bytesI s ++ bytesI u) (v := .string (s ++ u)) (run_binOp ho hone hnif ?_) (h4 0 _ rfl) ⟨s ++ u, rfl, (bytesI_append s u).symm, ?_⟩
            · rw [hvx, hvy]; exact run_scat P w t s u hb
            · rw [bytesI_len, bytesI_len] at hb; rw [ByteArray.size_append]; unfold BIG at hb; unfold maxLen; omega
          · cases hs
      · -- bools
        obtain ⟨b, rfl, hvx⟩ := bool_of e2 e3; obtain ⟨c, rfl, hvy⟩ := bool_of f2 f3; split at hs
        · rename_i hb; have hu := isBoolT_some hb
          split at hs
          · simp only [ePr, oi, Eff.go.injEq] at hs; obtain ⟨rfl, rfl⟩ := hs; obtain ⟨outs, h3, h4⟩ := (he _ _ _ rfl).get hev
            simp only [evalPr, oi] at h3; subst h3; refine p.prim (t := .bool) (x := b == c) (v := .bool (b == c)) (run_binOp ho hone hnif ?_) (h4 0 _ rfl) rfl
            rw [hvx, hvy]; exact eqOf (eq_run (fun d => run_equalIn_bool' w d t b c hu)) rfl
          · simp only [ePr, oi, Eff.go.injEq] at hs; obtain ⟨rfl, rfl⟩ := hs; obtain ⟨outs, h3, h4⟩ := (he _ _ _ rfl).get hev
            simp only [evalPr, oi] at h3; subst h3; refine p.prim (t := .bool) (x := !(b == c)) (v := .bool (!(b == c))) (run_binOp ho hone hnif ?_) (h4 0 _ rfl) rfl
            rw [hvx, hvy]; exact neqOf (eq_run (fun d => run_equalIn_bool' w d t b c hu)) rfl
          · cases hs
        · cases hs
      · split at hs
        · split at hs <;> cases hs
        · cases hs
      · -- trees, against none
        obtain ⟨xt, rfl, hT⟩ := nd_of e2 e3; have leafV : ∀ u, ay = .l (.leaf u) → a.eval y = .pointer none := by
          rintro u rfl
          have : dy = ⟨.nd u, .leaf⟩ := (Option.some.inj f1).symm
          subst this; obtain ⟨v, h5, h6⟩ := f3; simp only [List.cons.injEq, and_true] at h5; rw [h5]; exact h6
        have ev1 : evs ρ [ax] = some [⟨.nd _, xt⟩] := evs1 e1
        split at hs
        · rename_i hp; obtain ⟨el, hu⟩ := isPtr_some hp; split at hs
          · have hvy := leafV _ rfl
            simp only [ePr, oi, Eff.go.injEq] at hs; obtain ⟨rfl, rfl⟩ := hs; obtain ⟨outs, h3, h4⟩ := (he _ _ _ rfl).get ev1
            cases xt with
            | leaf =>
              have hvx : a.eval x = .pointer none := hT
              simp only [evalPr, oi] at h3; subst h3; exact p.prim (t := .bool) (x := true) (v := .bool true) (run_binOp ho hone hnif (by rw [hvx, hvy]; exact eqOf (eq_run (eqPP hu)) rfl)) (h4 0 _ rfl) rfl
            | node y1 l r k =>
              obtain ⟨b, cs, vl, vr, hvx, _⟩ := hT; simp only [evalPr, oi] at h3; subst h3; exact p.prim (t := .bool) (x := false) (v := .bool false) (run_binOp ho hone hnif (by rw [hvx, hvy]; exact eqOf (eq_run (eqPA hu)) rfl)) (h4 0 _ rfl) rfl
          · have hvy := leafV _ rfl
            simp only [ePr, oi, Eff.go.injEq] at hs; obtain ⟨rfl, rfl⟩ := hs; obtain ⟨outs, h3, h4⟩ := (he _ _ _ rfl).get ev1
            cases xt with
            | leaf =>
              have hvx : a.eval x = .pointer none := hT
              simp only [evalPr, oi] at h3; subst h3; exact p.prim (t := .bool) (x := false) (v := .bool false) (run_binOp ho hone hnif (by rw [hvx, hvy]; exact neqOf (eq_run (eqPP hu)) rfl)) (h4 0 _ rfl) rfl
            | node y1 l r k =>
              obtain ⟨b, cs, vl, vr, hvx, _⟩ := hT; simp only [evalPr, oi] at h3; subst h3; exact p.prim (t := .bool) (x := true) (v := .bool true) (run_binOp ho hone hnif (by rw [hvx, hvy]; exact neqOf (eq_run (eqPA hu)) rfl)) (h4 0 _ rfl) rfl
          · cases hs
        · cases hs
      · -- objects, against none
        rename_i kx ky; obtain ⟨xt, rfl, hT⟩ := ref_of e2 e3; split at hs
        · rename_i hp; simp only [Bool.and_eq_true, Bool.or_eq_true, beq_iff_eq] at hp; obtain ⟨hp, rfl⟩ := hp; obtain ⟨nz, vb, rn, rs, eq0, ne0, eq1, ne1⟩ : ∃ (nz : Value) (vb : Nat → Value), refVal kx none = nz ∧ (∀ b, refVal kx (some b) = vb b) ∧
              ((binOp .eql t nz nz).run P w = .ok (.bool true) w) ∧ ((binOp .neq t nz nz).run P w = .ok (.bool false) w) ∧ (∀ b, (binOp .eql t (vb b) nz).run P w = .ok (.bool false) w) ∧ (∀ b, (binOp .neq t (vb b) nz).run P w = .ok (.bool true) w) := by
            rcases hp with ⟨hp, hk2⟩ | ⟨hp, hk2⟩
            · obtain ⟨el, hu⟩ := isPtr_some hp; exact ⟨.pointer none, fun b => .pointer (some ⟨b, 0, none⟩), by simp [refVal, hk2], fun b => by simp [refVal, hk2], eqOf (eq_run (eqPP hu)) rfl, neqOf (eq_run (eqPP hu)) rfl, fun b => eqOf (eq_run (eqPA hu)) rfl, fun b => neqOf (eq_run (eqPA hu)) rfl⟩
            · obtain ⟨kt, et, hu⟩ := isMapT_some hp; have hk3 : ¬ kx % 2 = 0 := by omega
              exact ⟨.map none, fun b => .map (some b), by simp [refVal, hk3], fun b => by simp [refVal, hk3], eqOf (eq_run (eqMM hu)) rfl, neqOf (eq_run (eqMM hu)) rfl, fun b => eqOf (eq_run (eqMA hu)) rfl, fun b => neqOf (eq_run (eqMA hu)) rfl⟩
          have npV : ∀ u, ay = .l (.nr u) → a.eval y = nz := by
            rintro u rfl
            have : dy = ⟨.ref u, none⟩ := (Option.some.inj f1).symm
            subst this; have hku : u = kx := by simpa [Ty.ref.injEq] using f2
            subst hku; rcases f3 with ⟨h1, _⟩ | ⟨_, _, _, h2, _⟩
            · simp only [List.cons.injEq, and_true] at h1; rw [h1, rn]
            · cases h2
          have npX : ∀ u, ax = .l (.nr u) → a.eval x = nz := by
            rintro u rfl
            have h3 : (⟨.ref u, none⟩ : D) = ⟨.ref kx, xt⟩ := Option.some.inj e1
            simp only [D.mk.injEq, Ty.ref.injEq] at h3; obtain ⟨rfl, h4⟩ := h3; rcases hT with ⟨h1, _⟩ | ⟨_, _, _, h2, _⟩
            · rw [h1, rn]
            · rw [h2] at h4; cases eq_of_heq h4
          have ev1 : evs ρ [ax] = some [⟨.ref kx, xt⟩] := evs1 e1
          split at hs
          · have hvx := npX _ rfl
            have hvy := npV _ rfl
            simp only [eOne, oi, Eff.go.injEq] at hs; obtain ⟨rfl, rfl⟩ := hs; exact p.value (run_binOp (r := .bool true) ho hone hnif (by rw [hvx, hvy]; exact eq0)) (bl true)
          · have hvx := npX _ rfl
            have hvy := npV _ rfl
            simp only [eOne, oi, Eff.go.injEq] at hs; obtain ⟨rfl, rfl⟩ := hs; exact p.value (run_binOp (r := .bool false) ho hone hnif (by rw [hvx, hvy]; exact ne0)) (bl false)
          · have hvy := npV _ rfl
            simp only [ePr, oi, Eff.go.injEq] at hs; obtain ⟨rfl, rfl⟩ := hs; obtain ⟨outs, h3, h4⟩ := (he _ _ _ rfl).get ev1
            rcases hT with ⟨hvx, rfl⟩ | ⟨b, j, hvx, rfl, _⟩
            · rw [rn] at hvx; simp only [evalPr, oi] at h3; subst h3; exact p.prim (t := .bool) (x := true) (v := .bool true) (run_binOp ho hone hnif (by rw [hvx, hvy]; exact eq0)) (h4 0 _ rfl) rfl
            · rw [rs] at hvx; simp only [evalPr, oi] at h3; subst h3; exact p.prim (t := .bool) (x := false) (v := .bool false) (run_binOp ho hone hnif (by rw [hvx, hvy]; exact eq1 _)) (h4 0 _ rfl) rfl
          · have hvy := npV _ rfl
            simp only [ePr, oi, Eff.go.injEq] at hs; obtain ⟨rfl, rfl⟩ := hs; obtain ⟨outs, h3, h4⟩ := (he _ _ _ rfl).get ev1
            rcases hT with ⟨hvx, rfl⟩ | ⟨b, j, hvx, rfl, _⟩
            · rw [rn] at hvx; simp only [evalPr, oi] at h3; subst h3; exact p.prim (t := .bool) (x := false) (v := .bool false) (run_binOp ho hone hnif (by rw [hvx, hvy]; exact ne0)) (h4 0 _ rfl) rfl
            · rw [rs] at hvx; simp only [evalPr, oi] at h3; subst h3; exact p.prim (t := .bool) (x := true) (v := .bool true) (run_binOp ho hone hnif (by rw [hvx, hvy]; exact ne1 _)) (h4 0 _ rfl) rfl
          · cases hs
        · cases hs
      · -- pointers, against none
        obtain ⟨xt, rfl, hT⟩ := pt_of e2 e3; have npV : ∀ u, ay = .l (.np u) → a.eval y = .pointer none := by
          rintro u rfl
          have : dy = ⟨.pt u, none⟩ := (Option.some.inj f1).symm
          subst this; rcases f3 with ⟨h1, _⟩ | ⟨_, _, _, _, h2, _⟩
          · simpa using h1
          · cases h2
        have npX : ∀ u, ax = .l (.np u) → a.eval x = .pointer none := by
          rintro u rfl
          rcases hT with ⟨h1, _⟩ | ⟨_, _, y1, _, h2, _⟩
          · exact h1
          · have h3 : (⟨.pt u, none⟩ : D) = ⟨.pt _, xt⟩ := Option.some.inj e1
            rw [h2] at h3; simp only [D.mk.injEq, Ty.pt.injEq] at h3; obtain ⟨rfl, h4⟩ := h3; cases eq_of_heq h4
        have ev1 : evs ρ [ax] = some [⟨.pt _, xt⟩] := evs1 e1
        split at hs
        · rename_i hp; obtain ⟨el, hu⟩ := isPtr_some hp; split at hs
          · have hvx := npX _ rfl
            have hvy := npV _ rfl
            simp only [eOne, oi, Eff.go.injEq] at hs; obtain ⟨rfl, rfl⟩ := hs; exact p.value (run_binOp (r := .bool true) ho hone hnif (by rw [hvx, hvy]; exact eqOf (eq_run (eqPP hu)) rfl)) (bl true)
          · have hvx := npX _ rfl
            have hvy := npV _ rfl
            simp only [eOne, oi, Eff.go.injEq] at hs; obtain ⟨rfl, rfl⟩ := hs; exact p.value (run_binOp (r := .bool false) ho hone hnif (by rw [hvx, hvy]; exact neqOf (eq_run (eqPP hu)) rfl)) (bl false)
          · have hvy := npV _ rfl
            simp only [ePr, oi, Eff.go.injEq] at hs; obtain ⟨rfl, rfl⟩ := hs; obtain ⟨outs, h3, h4⟩ := (he _ _ _ rfl).get ev1
            rcases hT with ⟨hvx, rfl⟩ | ⟨b, cs, y1, hvx, rfl, _⟩
            · simp only [evalPr, oi] at h3; subst h3; exact p.prim (t := .bool) (x := true) (v := .bool true) (run_binOp ho hone hnif (by rw [hvx, hvy]; exact eqOf (eq_run (eqPP hu)) rfl)) (h4 0 _ rfl) rfl
            · simp only [evalPr, oi] at h3; subst h3; exact p.prim (t := .bool) (x := false) (v := .bool false) (run_binOp ho hone hnif (by rw [hvx, hvy]; exact eqOf (eq_run (eqPA hu)) rfl)) (h4 0 _ rfl) rfl
          · have hvy := npV _ rfl
            simp only [ePr, oi, Eff.go.injEq] at hs; obtain ⟨rfl, rfl⟩ := hs; obtain ⟨outs, h3, h4⟩ := (he _ _ _ rfl).get ev1
            rcases hT with ⟨hvx, rfl⟩ | ⟨b, cs, y1, hvx, rfl, _⟩
            · simp only [evalPr, oi] at h3; subst h3; exact p.prim (t := .bool) (x := false) (v := .bool false) (run_binOp ho hone hnif (by rw [hvx, hvy]; exact neqOf (eq_run (eqPP hu)) rfl)) (h4 0 _ rfl) rfl
            · simp only [evalPr, oi] at h3; subst h3; exact p.prim (t := .bool) (x := true) (v := .bool true) (run_binOp ho hone hnif (by rw [hvx, hvy]; exact neqOf (eq_run (eqPA hu)) rfl)) (h4 0 _ rfl) rfl
          · cases hs
        · cases hs
      · cases hs
    · cases hs
end

end Go.Proofs.Ytmglkddddpipgaa.Sx

namespace Go.Proofs.Ytmglkddddpipgaa.Sx
open Go.RowKit

section
variable {α β : Type} {R : α → β → Prop}
theorem All2.len [Arn] {l : List α} {m : List β} (h : All2 R l m) : l.length = m.length := by
  induction h with
  | nil => rfl
  | cons _ _ ih => simp [ih]
theorem All2.drop [Arn] {l : List α} {m : List β} (h : All2 R l m) : ∀ n, All2 R (l.drop n) (m.drop n) := by
  induction h with
  | nil => intro n; simp; exact .nil
  | cons h1 h2 ih =>
    intro n; cases n with
    | zero => exact .cons h1 h2
    | succ n => exact ih n
theorem All2.take [Arn] {l : List α} {m : List β} (h : All2 R l m) : ∀ n, All2 R (l.take n) (m.take n) := by
  induction h with
  | nil => intro n; simp; exact .nil
  | cons h1 h2 ih =>
    intro n; cases n with
    | zero => exact .nil
    | succ n => exact .cons h1 (ih n)
theorem All2.app [Arn] {l l' : List α} {m m' : List β} (h : All2 R l m) (h' : All2 R l' m') : All2 R (l ++ l') (m ++ m') := by
  induction h with
  | nil => exact h'
  | cons h1 _ ih => exact .cons h1 ih
theorem All2.get [Arn] {l : List α} {m : List β} (h : All2 R l m) : ∀ (i : Nat) (x : α), l[i]? = some x → ∃ y, m[i]? = some y ∧ R x y := by
  induction h with
  | nil => intro i x hx; simp at hx
  | cons h1 _ ih =>
    intro i x hx; cases i with
    | zero => exact ⟨_, rfl, by simp at hx; subst hx; exact h1⟩
    | succ i => exact ih i x (by simpa using hx)
end

def valOf (P : Program) (t : TypeId) (cs : List Value) : Value := if isAgg' P t then .agg cs.toArray else cs.headD undef

section
variable {P : Program} {B : Base} {ρ : List D} {st : SS} {o : Oper} {α : AS} {a : Act} {bs : List Act} {w : World} {g : G} {Φ : Nat → Cont}

theorem info_of_underlying [Arn] {t : TypeId} (h : (P.underlying t).isSome = true) : ∃ i, P.info? t = some i ∧ sizeT P t = i.size := by
  unfold Program.underlying at h; split at h
  · rename_i hi; exact ⟨_, hi, by simp [sizeT, hi]⟩
  · rename_i hi; exact ⟨_, hi, by simp [sizeT, hi]⟩
  · cases h

theorem isAgg_run [Arn] {t : TypeId} (h : (P.underlying t).isSome = true) : (isAgg t).run P w = .ok (isAgg' P t) w := by
  obtain ⟨d, hd⟩ := Option.isSome_iff_exists.1 h; unfold isAgg isAgg'; rw [Sem.run_bind, run_underlying hd w, hd]; cases d <;> simp

theorem sizeOf_run [Arn] {t : TypeId} (h : (P.underlying t).isSome = true) : (sizeOf t).run P w = .ok (sizeT P t) w := by
  obtain ⟨i, h1, h2⟩ := info_of_underlying h; simp [sizeOf, typeInfo, h1, h2]

theorem sizeOf_pos [Arn] {t : TypeId} (h : 0 < sizeT P t) : (sizeOf t).run P w = .ok (sizeT P t) w := by
  unfold sizeT at *
  cases hi : P.info? t with
  | none => simp [hi] at h
  | some i => simp [sizeOf, typeInfo, hi]

theorem part_run [Arn] {t : TypeId} (h : (P.underlying t).isSome = true) {cs : Array Value} {off : Nat} (hl : off + sizeT P t ≤ cs.size) (h1 : isAgg' P t = false → sizeT P t = 1) :
    (part t cs off).run P w = .ok (valOf P t (take2 cs.toList off (sizeT P t))) w := by
  unfold part valOf; rw [Sem.run_bind, isAgg_run h]; simp only [Result.andThen_ok]; cases ha : isAgg' P t with
  | true =>
    simp only [if_true, Sem.run_bind, sizeOf_run h, Result.andThen_ok, Sem.run_pure]; congr 2
    apply Array.ext'
    simp [take2, Array.toList_extract, List.extract]
  | false =>
    simp only [Bool.false_eq_true, if_false]; have hs := h1 ha
    have hlt : off < cs.size := by omega
    simp only [Array.getElem?_eq_getElem hlt, Sem.run_pure]; congr 1
    simp [take2, hs, List.take_one, List.head?_drop, List.headD_eq_head?_getD, hlt]

theorem mk_rep [Arn] {ag : Bool} {cs : List SC} {vs : List Value} {sv : SV} (hs : mkSV ag cs = some sv) (h : All2 (SCRep ρ α g w) cs vs) : SVRep ρ α g w sv (if ag then .agg vs.toArray else vs.headD undef) := by
  unfold mkSV at hs; split at hs
  · cases hs; rename_i e; rw [if_pos e]; exact ⟨vs.toArray, rfl, h⟩
  · rename_i e; split at hs
    · cases hs; rw [if_neg e]; cases h with
      | cons h1 h2 => exact h1
    · cases hs

theorem mk_one [Arn] {cs : List SC} {sv : SV} (hs : mkSV false cs = some sv) : cs.length = 1 := by
  unfold mkSV at hs; simp only [Bool.false_eq_true, if_false] at hs; split at hs
  · rfl
  · cases hs

theorem take2_len [Arn] {τ : Type} {l : List τ} {off n : Nat} (h : off + n ≤ l.length) : (take2 l off n).length = n := by
  simp [take2]; omega

theorem All2.take2 [Arn] {τ υ : Type} {R : τ → υ → Prop} {l : List τ} {m : List υ} (h : All2 R l m) (off n : Nat) : All2 R (Sx.take2 l off n) (Sx.take2 m off n) := (h.drop off).take n

theorem field_does [Arn] (p : Pre P B ρ st o α a bs w g) {s : TypeId} {x : Operand} {f : Nat} {off : Nat} {t : TypeId} {cs : List SC} {sv : SV}
    (ho : o.op = .field s x f) (hf : fieldOf P s f = some (off, t)) (hx : SVRep ρ α g w (.agg cs) (a.eval x)) (hu : (P.underlying t).isSome = true)
    (hl : off + sizeT P t ≤ cs.length) (hs : mkSV (isAgg' P t) (take2 cs off (sizeT P t)) = some sv) :
    Does P o a w (Post B ρ α { dst := o.dst, sv := sv } st.nb st.ntok bs) := by
  obtain ⟨vs, hv, h2⟩ := hx; have hlen := h2.len
  simp only [Array.length_toList] at hlen; refine p.value (v := valOf P t (take2 vs.toList off (sizeT P t))) ?_ ?_
  · unfold fieldOf at hf; split at hf
    · rename_i fs hfs; cases hg : fs[f]? with
      | none => simp [hg] at hf
      | some fd =>
        simp only [hg, Option.map_some, oi, Prod.mk.injEq] at hf; obtain ⟨rfl, rfl⟩ := hf; unfold execOp; simp only [ho, Instr.field, Sem.run_bind, run_underlying hfs w, Result.andThen_ok, hg, hv, asAgg, Sem.run_pure]; rw [part_run hu (by omega) (fun ha => by rw [ha] at hs; have := mk_one hs; rw [take2_len hl] at this; exact this)]
        rfl
    · cases hf
  · exact mk_rep hs (h2.take2 off _)

theorem cellsAt_load [Arn] {b off : Nat} {vs : List Value} (h : ∀ j v, vs[j]? = some v → w.cell? ⟨b, off + j, none⟩ = some v) {t : TypeId} (hu : (P.underlying t).isSome = true) (hl : vs.length = sizeT P t)
    (h1 : isAgg' P t = false → sizeT P t = 1) : (Instr.loadAt t (.pointer (some ⟨b, off, none⟩))).run P w = .ok (valOf P t vs) w := by
  unfold Instr.loadAt Instr.sureAddr loadVar valOf; simp only [Sem.run_bind, Sem.run_pure, Result.andThen_ok, isAgg_run hu]; cases ha : isAgg' P t with
  | true =>
    simp only [if_true, Sem.run_bind, sizeOf_run hu, Result.andThen_ok]; rw [← hl, run_loadCells_list (P := P) w ⟨b, off, none⟩ vs (fun j v hj => by rw [Addr.add_mid]; exact h j v hj)]
    rfl
  | false =>
    simp only [Bool.false_eq_true, if_false]; have h2 := h1 ha
    rw [h2] at hl; match vs, hl with
    | [v], _ =>
      have := h 0 v rfl
      simp only [Nat.add_zero] at this; rw [run_load, this]; rfl

end

end Go.Proofs.Ytmglkddddpipgaa.Sx

namespace Go.Proofs.Ytmglkddddpipgaa.Sx
open Go.RowKit

section
variable {P : Program} {B : Base} {ρ : List D} {st : SS} {o : Oper} {α : AS} {a : Act} {bs : List Act} {w : World} {g : G} {Φ : Nat → Cont}

theorem take2_get [Arn] {τ : Type} (l : List τ) (off n j : Nat) : (take2 l off n)[j]? = if j < n then l[off + j]? else none := by
  simp [take2, List.getElem?_take, List.getElem?_drop]

theorem loadBox_does [Arn] (p : Pre P B ρ st o α a bs w g) {t : TypeId} {x : Operand} {β off : Nat} {row : List SC} {sv : SV}
    (ho : o.op = .load t x) (hx : SCRep ρ α g w (.adr β off) (a.eval x)) (hb : α.box β = some row) (hu : (P.underlying t).isSome = true)
    (hl : off + sizeT P t ≤ row.length) (hs : mkSV (isAgg' P t) (take2 row off (sizeT P t)) = some sv) :
    Does P o a w (Post B ρ α { dst := o.dst, sv := sv } st.nb st.ntok bs) := by
  obtain ⟨_, hv⟩ := hx; obtain ⟨cs, el, h4, h5⟩ := (p.rel.box β row hb).cells
  have hlen := h5.len
  refine p.value (v := valOf P t (take2 cs.toList off (sizeT P t))) ?_ (mk_rep hs (h5.take2 off _))
  unfold execOp; simp only [ho, hv, Sem.run_bind]; rw [cellsAt_load (vs := take2 cs.toList off (sizeT P t)) ?_ hu (take2_len (by omega)) ?_]
  · rfl
  · intro j v hj; rw [take2_get] at hj; split at hj
    · rw [cell_of_row w _ _ cs el (0, 0) h4]; simpa using hj
    · cases hj
  · intro ha; rw [ha] at hs; have := mk_one hs
    rwa [take2_len hl] at this

theorem vars_append [Arn] : ∀ (ts us : List Ty) (i : Nat), vars i (ts ++ us) = vars i ts ++ vars (i + ts.length) us
  | [], us, i => by simp [vars]
  | t :: ts, us, i => by simp [vars, vars_append ts us (i + 1)]; congr 1; omega

theorem split_len [Arn] : ∀ (t : Ty) (x : t.den), (split t x).length = t.cells.length
  | .unit, _ => rfl | .int _, _ => rfl | .bool, _ => rfl | .str, _ => rfl | .sl _, _ => rfl | .nd _, _ => rfl | .pt _, _ => rfl | .ref _, _ => rfl
  | .pair s t, x => by simp [split, Ty.cells, split_len s, split_len t]

theorem cells_width [Arn] : ∀ (t : Ty), t.cells.length = t.width
  | .unit => rfl | .int _ => rfl | .bool => rfl | .str => rfl | .sl _ => rfl | .nd _ => rfl | .pt _ => rfl | .ref _ => rfl
  | .pair s t => by simp [Ty.width, Ty.cells, cells_width s, cells_width t]

theorem split_rep [Arn] : ∀ (t : Ty) (cs : List Value) (y : t.den) (i : Nat), Rep g.p w t cs y → (∀ j d, (split t y)[j]? = some d → nth ρ (i + j) = some d) → All2 (SCRep ρ α g w) (vars i t.cells) cs
  | .unit, cs, y, i, h, _ => by simp only [Rep] at h; subst h; exact .nil
  | .int k, cs, y, i, h, hn => by obtain ⟨rfl, h2⟩ := h; exact .cons ⟨⟨.int k, y⟩, hn 0 _ rfl, rfl, rfl, h2⟩ .nil
  | .bool, cs, y, i, h, hn => by have h' : cs = [.bool y] := h; subst h'; exact .cons ⟨⟨.bool, y⟩, hn 0 _ rfl, rfl, rfl⟩ .nil
  | .str, cs, y, i, h, hn => by obtain ⟨ba, rfl, h2⟩ := h; exact .cons ⟨⟨.str, y⟩, hn 0 _ rfl, rfl, ba, rfl, h2⟩ .nil
  | .sl e, cs, y, i, h, hn => by
    have hl := Rep.len _ _ _ h
    match cs, hl with
    | [c], _ => exact .cons ⟨⟨.sl e, y⟩, hn 0 _ rfl, rfl, h⟩ .nil
  | .nd e, cs, y, i, h, hn => by
    have hl := Rep.len _ _ _ h
    match cs, hl with
    | [c], _ => exact .cons ⟨⟨.nd e, y⟩, hn 0 _ rfl, rfl, h⟩ .nil
  | .pt e, cs, y, i, h, hn => by
    have hl := Rep.len _ _ _ h
    match cs, hl with
    | [c], _ => exact .cons ⟨⟨.pt e, y⟩, hn 0 _ rfl, rfl, h⟩ .nil
  | .ref k, cs, y, i, h, hn => by
    have hl := Rep.len _ _ _ h
    match cs, hl with
    | [c], _ => exact .cons ⟨⟨.ref k, y⟩, hn 0 _ rfl, rfl, h⟩ .nil
  | .pair s t, cs, y, i, h, hn => by
    obtain ⟨va, vb, rfl, h1, h2⟩ := h; simp only [Ty.cells, vars_append]; refine (split_rep s va y.1 i h1 fun j d hj => hn j d ?_).app (split_rep t vb y.2 _ h2 fun j d hj => ?_)
    · simp only [split]; rw [List.getElem?_append_left (List.getElem?_eq_some_iff.1 hj).1]; exact hj
    · have := hn (s.cells.length + j) d ?_
      · rwa [← Nat.add_assoc] at this
      · simp only [split]; rw [← split_len s y.1, List.getElem?_append_right (Nat.le_add_right _ _), Nat.add_sub_cancel_left]; exact hj

theorem loadEl_does [Arn] (p : Pre P B ρ st o α a bs w g) {t : TypeId} {x : Operand} {ax ai : A} {e : Ty} {off : Nat} {sv : SV}
    (ho : o.op = .load t x) (hx : SCRep ρ α g w (.el ax ai e off) (a.eval x)) (hu : (P.underlying t).isSome = true)
    (hl : off + sizeT P t ≤ e.cells.length) (hs : mkSV (isAgg' P t) (take2 (vars st.nv e.cells) off (sizeT P t)) = some sv) (he : EnvOk Φ ρ st.nv (.idx e) [ax, ai]) {nv : Nat} :
    Does P o a w (Post B ρ α { dst := o.dst, sv := sv, nv := nv } st.nb st.ntok bs) := by
  obtain ⟨xs, k, n, y, h1, h2, h3, h4, b, o', cs, hv, h6, h7⟩ := hx; obtain ⟨outs, h8, h9⟩ := he.get (evs2 h1 h2)
  simp only [evalPr, if_true, oi] at h8; subst h8; have hy : xs.getD n.toNat (dflt e) = y := by simp [List.getD, h4]
  rw [hy] at h9; have hr := split_rep (ρ := ρ) (α := α) (g := g) (w := w) e cs y st.nv h7 h9
  have hlen := hr.len
  have hvl : (vars st.nv e.cells).length = e.cells.length := by rw [hlen, Rep.len _ _ _ h7, cells_width]
  have hc : cs.length = e.cells.length := by rw [Rep.len _ _ _ h7, cells_width]
  refine p.value (v := valOf P t (take2 cs off (sizeT P t))) ?_ (mk_rep hs (hr.take2 off _))
  unfold execOp; simp only [ho, hv, Sem.run_bind]; rw [cellsAt_load (vs := take2 cs off (sizeT P t)) ?_ hu (take2_len (by omega)) ?_]
  · rfl
  · intro j v hj; rw [take2_get] at hj; split at hj
    · have := (h6 _ _ hj).2
      rwa [← Nat.add_assoc] at this
    · cases hj
  · intro ha; rw [ha] at hs; have := mk_one hs
    rwa [take2_len (by rw [hvl]; exact hl)] at this

theorem All2.setAt [Arn] {τ υ : Type} {R : τ → υ → Prop} {l v : List τ} {m u : List υ} (h : All2 R l m) (off : Nat) (hv : All2 R v u) : All2 R (setAt l off v) (setAt m off u) := by
  unfold Sx.setAt; rw [hv.len]; exact (h.take off).app (hv.app (h.drop _))

theorem RelG.setBox [Arn] (h : RelG B ρ α a bs w g) {β : Nat} {row row' : List SC} {cs cs' : Array Value} {el : TypeId} (hb : α.box β = some row) (hh : w.heap[g.θ β]? = some (.cells cs el (0, 0)))
    (hc : All2 (SCRep ρ α g w) row' cs'.toList) : RelG B ρ (α.addBox β row') a bs (w.setRow (g.θ β) cs') g := by
  have hbo := h.box β row hb
  have hl : LeC ρ α g w ρ (α.addBox β row') g (w.setRow (g.θ β) cs') := by
    refine ⟨fun _ _ h => h, fun β' r' hb' => ⟨?_, rfl⟩, fun k hk => ⟨hk, rfl, rfl, rfl⟩, fun b o' hp => ⟨hp, ?_⟩, fun _ _ _ h => h⟩
    · by_cases e : β' = β
      · exact ⟨row', by simp [AS.addBox, e]⟩
      · exact ⟨r', by simp [AS.addBox, e, hb']⟩
    · refine World.cell?_of_block (setRow_other w _ _ _ ?_)
      rintro rfl
      exact hbo.np _ hp
  have hsz : (w.setRow (g.θ β) cs').heap.size = w.heap.size := by simp [World.setRow]
  have hoth : ∀ b r, g.ow b = some r → r ≠ .box β → b ≠ g.θ β := fun b r hr hne e => by
    subst e; rw [hbo.ow] at hr; simp only [oi] at hr; exact hne hr.symm
  refine h.world hl rfl rfl rfl ?_ ?_ ?_ ?_ h.dk rfl rfl rfl (fun b _ hno => ⟨setRow_other w _ _ _ (fun e => hno _ (by subst e; exact hbo.ow)), fun _ => Iff.rfl⟩) (fun b r hr => ⟨by rw [hsz]; exact h.hl.owb b r hr, .inl ⟨r, hr⟩⟩)
    (fun b r hr ho => ⟨hr, setRow_other w _ _ _ (hoth b r hr (fun e => by subst e; exact ho)), fun _ h => h⟩)
  · intro β' r' hb'; by_cases e : β' = β
    · subst e; have : r' = row' := by simpa [AS.addBox] using hb'.symm
      subst this; exact ⟨hbo.lo, hbo.ow, hbo.np, cs', el, setRow_heap w _ cs _ el _ hh, Forall2.mono (fun _ _ => SCRep.mono hl) hc⟩
    · have hb2 : α.box β' = some r' := by simpa [AS.addBox, e] using hb'
      have hbo2 := h.box β' r' hb2
      refine RelG.BoxOk_mono hl hbo2 rfl rfl hbo2.np (setRow_other w _ _ _ ?_)
      intro e2; have h1 := hbo2.ow
      rw [e2, hbo.ow] at h1; exact e (by simpa using h1.symm)
  · intro k hk; obtain ⟨h1, n, xs, h2, h3, hdy⟩ := h.live k hk; refine ⟨h1, n, xs, ?_, h3, hdy.mono hl.mem hl.ad (fun _ _ h => h) (fun _ h => h) rfl rfl rfl (fun _ _ h => h)⟩
    refine ⟨h2.1, ?_⟩
    rcases h2.2 with hn | ⟨gb, cap, cur, hv, hb0, hg0, rest⟩
    · exact .inl hn
    · refine .inr ⟨gb, cap, cur, hv, hb0, ?_, rest⟩
      rw [setRow_other w _ _ _ ?_]
      · exact hg0
      · intro e2; have h4 := (h3 gb (by rw [hv]; rfl)).1
        rw [e2, hbo.ow] at h4; cases h4
  · intro b o' hp; rw [hsz]; exact h.pwf b o' hp
  · refine h.bel.trans ⟨rfl, rfl, rfl, by rw [hsz]; exact Nat.le_refl _, fun k hk => setRow_other w _ _ _ ?_⟩
    have := hbo.lo
    omega

theorem upd_setb [Arn] (α : AS) (dst : Option Tmp) (sv : SV) (β : Nat) (row : List SC) (nb nt : Nat) {a : Act} {w : World} (h : RelG B ρ ((α.addBox β row).put dst sv) a bs w g) :
    RelG B ρ (α.upd { dst := dst, sv := sv, setb := some (β, row) } nb nt) a bs w g :=
  h.ext rfl (fun _ => rfl) (fun _ => rfl) (fun k => ⟨fun h => h.elim id (fun h => absurd h.2 (by simp only [Nat.add_zero]; omega)), .inl⟩)
    (fun k h => h.elim And.left (fun h => absurd h.2 (by simp only [Nat.add_zero]; omega))) rfl

theorem upd_newb [Arn] (α : AS) (dst : Option Tmp) (sv : SV) (row : List SC) (nb nt : Nat) {a : Act} {w : World} (h : RelG B ρ ((α.addBox nb row).put dst sv) a bs w g) :
    RelG B ρ (α.upd { dst := dst, sv := sv, newb := some row } nb nt) a bs w g :=
  h.ext rfl (fun _ => rfl) (fun _ => rfl) (fun k => ⟨fun h => h.elim id (fun h => absurd h.2 (by simp only [Nat.add_zero]; omega)), .inl⟩)
    (fun k h => h.elim And.left (fun h => absurd h.2 (by simp only [Nat.add_zero]; omega))) rfl

theorem store_does [Arn] (p : Pre P B ρ st o α a bs w g) {t : TypeId} {x y : Operand} {β off : Nat} {row v : List SC}
    (ho : o.op = .store t x y) (hx : SCRep ρ α g w (.adr β off) (a.eval x)) (hb : α.box β = some row) (hy : All2 (SCRep ρ α g w) v (a.eval y).cells.toList)
    (hl1 : v.length = sizeT P t) (hl : off + v.length ≤ row.length) (hpos : 0 < sizeT P t) :
    Does P o a w (Post B ρ α { dst := o.dst, sv := .dead, setb := some (β, setAt row off v) } st.nb st.ntok bs) := by
  obtain ⟨_, hv⟩ := hx; obtain ⟨cs, el, h4, h5⟩ := (p.rel.box β row hb).cells
  have hlen := h5.len
  have hlv := hy.len
  simp only [Array.length_toList] at hlen hlv; have hone : ∀ u ∈ (a.eval y).cells.toList, u.oneCell' = true := by
    intro u hu; have key : ∀ (l : List SC) (m : List Value), All2 (SCRep ρ α g w) l m → ∀ u ∈ m, u.oneCell' = true := by
      intro l m h; induction h with
      | nil => simp
      | cons h1 _ ih => intro u hu; rcases List.mem_cons.1 hu with rfl | hu; exact h1.oneCell; exact ih u hu
    exact key _ _ hy u hu
  have hst := run_storeCells_at (P := P) (g.θ β) off el (a.eval y).cells.toList 0 cs w h4 (by simp only [Array.length_toList]; omega) hone
  simp only [Nat.add_zero] at hst; have hset : (cs.toList.take off ++ (a.eval y).cells.toList ++ cs.toList.drop (off + (a.eval y).cells.toList.length)) = setAt cs.toList off (a.eval y).cells.toList := by
    simp [setAt, List.append_assoc]
  rw [hset] at hst; have hr := p.rel.setBox (cs' := (setAt cs.toList off (a.eval y).cells.toList).toArray) hb h4 (by simpa using h5.setAt off hy)
  refine does_skip (w' := w.setRow (g.θ β) (setAt cs.toList off (a.eval y).cells.toList).toArray) ?_ ⟨g, upd_setb α o.dst .dead β _ _ _ (hr.put p.dst rfl)⟩
  unfold execOp; simp only [ho, hv, Sem.run_bind, Instr.storeAt, Instr.sureAddr, Sem.run_pure, Result.andThen_ok, storeVar, sizeOf_pos hpos]; rw [if_neg (by simp only [ne_eq, Decidable.not_not]; omega), hst]
  rfl

theorem zero_rep [Arn] {t : TypeId} {z : List SC} (hz : zeroCells' P t = some z) : ∃ i v, P.info? t = some i ∧ i.zero = some v ∧ ∀ {ρ : List D} {α : AS} {g : G} {w : World}, All2 (SCRep ρ α g w) z v.cells.toList := by
  unfold zeroCells' at hz; split at hz
  · rename_i ty i h1 h2; split at hz
    · rename_i v hv; exact ⟨i, v, h2, hv, litCells_rep _ _ _ _ hz⟩
    · cases hz
  · cases hz

theorem alloc_does [Arn] (p : Pre P B ρ st o α a bs w g) {t : TypeId} {z : List SC} (ho : o.op = .alloc t) (hz : zeroCells' P t = some z) (hf : α.box st.nb = none) :
    Does P o a w (Post B ρ α { dst := o.dst, sv := .one (.adr st.nb 0), newb := some z } st.nb st.ntok bs) := by
  obtain ⟨i, v, h1, h2, h3⟩ := zero_rep hz; obtain ⟨g', h4, h5, h6⟩ := p.rel.newBox (el := t) hf (h3 (ρ := ρ) (α := α) (g := g) (w := w))
  refine does_value (w' := w.alloc (.cells v.cells t)) (v := .pointer (some ⟨w.heap.size, 0, none⟩)) ?_ ⟨g', upd_newb α o.dst _ z _ _ (h4.put p.dst ?_)⟩
  · unfold execOp; simp [ho, Instr.alloc, zeroValue, typeInfo, h1, h2, newVar, newRow, Sem.run_bind]
  · exact ⟨⟨z, by simp [AS.addBox]⟩, by rw [h6]⟩

theorem box_does [Arn] (p : Pre P B ρ st o α a bs w g) {t : TypeId} {x : Operand} {v : List SC} (ho : o.op = .box t x) (hx : All2 (SCRep ρ α g w) v (a.eval x).cells.toList) (hf : α.box st.nb = none) :
    Does P o a w (Post B ρ α { dst := o.dst, sv := .one (.adr st.nb 0), newb := some v } st.nb st.ntok bs) := by
  obtain ⟨g', h4, h5, h6⟩ := p.rel.newBox (el := t) hf hx
  refine does_value (w' := w.alloc (.cells (a.eval x).cells t)) (v := .pointer (some ⟨w.heap.size, 0, none⟩)) ?_ ⟨g', upd_newb α o.dst _ v _ _ (h4.put p.dst ?_)⟩
  · unfold execOp; simp [ho, Instr.box, newVar, newRow, Sem.run_bind]
  · exact ⟨⟨v, by simp [AS.addBox]⟩, by rw [h6]⟩
end

end Go.Proofs.Ytmglkddddpipgaa.Sx

namespace Go.Proofs.Ytmglkddddpipgaa.Sx
open Go.RowKit

section
variable {P : Program} {B : Base} {ρ : List D} {st : SS} {o : Oper} {α : AS} {a : Act} {bs : List Act} {w : World} {g : G} {Φ : Nat → Cont}

theorem move_does [Arn] (p : Pre P B ρ st o α a bs w g) {x : Operand} {sv : SV} (ho : o.op = .move x ∨ o.op = .assign x) (hx : SVRep ρ α g w sv (a.eval x)) :
    Does P o a w (Post B ρ α { dst := o.dst, sv := sv } st.nb st.ntok bs) := by
  refine p.value (v := a.eval x) ?_ hx
  unfold execOp; rcases ho with ho | ho <;> simp [ho]

theorem pick_does [Arn] (p : Pre P B ρ st o α a bs w g) {c x y : Operand} {v : Bool} {sv : SV} (ho : o.op = .pick c x y) (hc : a.eval c = .bool v) (hx : SVRep ρ α g w sv (a.eval (if v then x else y))) :
    Does P o a w (Post B ρ α { dst := o.dst, sv := sv } st.nb st.ntok bs) := by
  refine p.value (v := a.eval (if v then x else y)) ?_ hx
  unfold execOp; simp only [ho, hc, asBool, Sem.run_bind, Sem.run_pure, Result.andThen_ok]; cases v <;> rfl

theorem nilCheck_does [Arn] (p : Pre P B ρ st o α a bs w g) {x : Operand} {c : SC} (ho : o.op = .nilCheck x) (hx : SCRep ρ α g w c (a.eval x))
    (hk : (∃ β off, c = .adr β off) ∨ (∃ x i e off, c = .el x i e off) ∨ (∃ f cs, c = .fn f cs) ∨ (∃ β off, c = .pel β off) ∨ ∃ k i off, c = .del k i off) :
    Does P o a w (Post B ρ α { dst := o.dst, sv := .one c } st.nb st.ntok bs) := by
  refine p.value (v := a.eval x) ?_ hx
  unfold execOp; rcases hk with ⟨β, off, rfl⟩ | ⟨_, _, _, _, rfl⟩ | ⟨_, _, rfl⟩ | ⟨_, _, rfl⟩ | ⟨_, _, _, rfl⟩
  · obtain ⟨_, hv⟩ := hx; simp [ho, hv]
  · obtain ⟨_, _, _, _, _, _, _, _, _, _, _, hv, _⟩ := hx; simp [ho, hv]
  · obtain ⟨_, hv, _⟩ := hx; simp [ho, hv]
  · obtain ⟨_, _, _, hv, _⟩ := hx; simp [ho, hv]
  · obtain ⟨_, _, _, _, _, _, _, _, _, _, hv⟩ := hx; simp [ho, hv]

theorem extract_does [Arn] (p : Pre P B ρ st o α a bs w g) {x : Operand} {k : Nat} {vs : List (Bool × List SC)} {ag : Bool} {cs : List SC} {sv : SV} (ho : o.op = .extract x k)
    (hx : SVRep ρ α g w (.tup vs) (a.eval x)) (hk : vs[k]? = some (ag, cs)) (hs : mkSV ag cs = some sv) :
    Does P o a w (Post B ρ α { dst := o.dst, sv := sv } st.nb st.ntok bs) := by
  obtain ⟨us, hv, h2⟩ := hx; obtain ⟨u, hu, h3⟩ := h2.get _ _ hk; refine p.value (v := u) ?_ ?_
  · unfold execOp; simp only [ho, hv, Instr.extract, Sem.run_bind]; have : us[k]? = some u := by simpa using hu
    rw [this]; rfl
  · rcases h3 with ⟨h4, vs', h5, h6⟩ | ⟨h4, c, h5, h6⟩
    · simp only at h4 h6
      subst h4; simp only [mkSV, if_true, oi] at hs; subst hs; exact ⟨vs', h5, h6⟩
    · simp only at h4 h5
      subst h4; subst h5; simp only [mkSV, Bool.false_eq_true, if_false, oi] at hs; subst hs; exact h6

theorem fieldOf_some [Arn] {s : TypeId} {f off : Nat} {t : TypeId} (hf : fieldOf P s f = some (off, t)) : ∃ fs fd, P.underlying s = some (.struct fs) ∧ fs[f]? = some fd ∧ fd.offset = off ∧ fd.type = t := by
  unfold fieldOf at hf; split at hf
  · rename_i fs hfs; cases hg : fs[f]? with
    | none => simp [hg] at hf
    | some fd =>
      simp only [hg, Option.map_some, oi, Prod.mk.injEq] at hf; exact ⟨fs, fd, hfs, hg, hf⟩
  · cases hf

theorem fieldAt_run [Arn] {s : TypeId} {f off : Nat} {t : TypeId} {b o' : Nat} (hf : fieldOf P s f = some (off, t)) (hp : 0 < sizeT P t) :
    (Instr.fieldAt s (.pointer (some ⟨b, o', none⟩)) f).run P w = .ok (.pointer (some ⟨b, o' + off, none⟩)) w := by
  obtain ⟨fs, fd, h1, h2, rfl, rfl⟩ := fieldOf_some hf; unfold Instr.fieldAt; simp only [Sem.run_bind, run_underlying h1 w, Result.andThen_ok, h2, Instr.sureAddr, Sem.run_pure, fieldPlace, sizeOf_pos hp, Sem.run_ite]; rw [if_neg (by omega)]; simp [Addr.add_mid]

theorem fieldAddr_does [Arn] (p : Pre P B ρ st o α a bs w g) {s : TypeId} {x : Operand} {f off : Nat} {t : TypeId} {c c' : SC} (ho : o.op = .fieldAddr s x f) (hf : fieldOf P s f = some (off, t)) (hp : 0 < sizeT P t)
    (hx : SCRep ρ α g w c (a.eval x)) (hk : (∃ β o', c = .adr β o' ∧ c' = .adr β (o' + off)) ∨ (∃ y i e o', c = .el y i e o' ∧ c' = .el y i e (o' + off)) ∨ (∃ k i o', c = .del k i o' ∧ c' = .del k i (o' + off))) :
    Does P o a w (Post B ρ α { dst := o.dst, sv := .one c' } st.nb st.ntok bs) := by
  rcases hk with ⟨β, o', rfl, rfl⟩ | ⟨y, i, e, o', rfl, rfl⟩ | ⟨k, i, o', rfl, rfl⟩
  rotate_left 2
  · obtain ⟨h1, b, n, cap, ki, m, h2, h3, h4, h5, hv⟩ := hx; refine p.value (v := .pointer (some ⟨b, m.toNat * g.tw k + o' + off, none⟩)) ?_ ⟨h1, b, n, cap, ki, m, h2, h3, h4, h5, by rw [Nat.add_assoc]⟩
    unfold execOp; simp only [ho, hv, Sem.run_bind, fieldAt_run hf hp, Result.andThen_ok, Sem.run_pure]
  · obtain ⟨h1, hv⟩ := hx; refine p.value (v := .pointer (some ⟨g.θ β, o' + off, none⟩)) ?_ ⟨h1, rfl⟩
    unfold execOp; simp only [ho, hv, Sem.run_bind, fieldAt_run hf hp, Result.andThen_ok, Sem.run_pure]
  · obtain ⟨xs, k, n, z, h1, h2, h3, h4, b, o2, cs, hv, h5, h6⟩ := hx; refine p.value (v := .pointer (some ⟨b, o2 + o' + off, none⟩)) ?_ ⟨xs, k, n, z, h1, h2, h3, h4, b, o2, cs, by rw [Nat.add_assoc], h5, h6⟩
    unfold execOp; simp only [ho, hv, Sem.run_bind, fieldAt_run hf hp, Result.andThen_ok, Sem.run_pure]

theorem caps_rep [Arn] (p : Pre P B ρ st o α a bs w g) : ∀ (xs : List Operand) (caps : List (Nat × Nat)), capsOf P st xs = some caps → (∀ x ∈ xs, x ∈ o.op.operands) →
    All2 (fun (q : Nat × Nat) u => (∃ row, α.box q.1 = some row) ∧ u = Value.pointer (some ⟨g.θ q.1, q.2, none⟩)) caps (xs.map a.eval)
  | [], caps, h, _ => by simp only [capsOf, oi] at h; subst h; exact .nil
  | x :: r, caps, h, hm => by
    simp only [capsOf] at h; split at h
    · rename_i β off l h1 h2; cases h; have hr : SCRep ρ α g w (.adr β off) (a.eval x) := p.ev (hm x (by simp)) h1
      exact .cons hr (caps_rep p r l h2 fun y hy => hm y (by simp [hy]))
    · cases h

theorem makeFunc_does [Arn] (p : Pre P B ρ st o α a bs w g) {f : FuncId} {first captured : Array Operand} {caps : List (Nat × Nat)} (ho : o.op = .makeFunc (.func f) first captured)
    (hz : first.size = 0) (hc : capsOf P st captured.toList = some caps) : Does P o a w (Post B ρ α { dst := o.dst, sv := .one (.fn f caps) } st.nb st.ntok bs) := by
  have h := caps_rep p captured.toList caps hc (fun x hx => by rw [ho]; simp [Op.operands, Array.mem_toList_iff.1 hx])
  have hf : first = #[] := Array.size_eq_zero_iff.1 hz
  refine p.value (v := .func (.func f) #[] (captured.map a.eval)) ?_ ⟨_, rfl, by simpa using h⟩
  unfold execOp; simp [ho, hf, Instr.makeFunc, Sem.run_bind]

theorem sl_cases [Arn] {v : Value} {e : Ty} {xs : List e.den} (h : Rep g.p w (.sl e) [v] xs) : (v = .slice none 0 0 ∧ xs = []) ∨
    (∃ b off cap, v = .slice (some ⟨b, off, none⟩) xs.length cap ∧ xs.length ≤ cap ∧ cap ≤ maxLen ∧ ∀ i x, xs[i]? = some x → ∃ cs, CellsAt g.p w b (off + i * e.width) cs ∧ Rep g.p w e cs x) ∨
    (∃ ad, v = .slice (some ad) 0 0 ∧ xs = []) := by
  simp only [Rep, List.cons.injEq, and_true] at h; exact h

theorem sl_len [Arn] {v : Value} {e : Ty} {xs : List e.den} (h : Rep g.p w (.sl e) [v] xs) : ∃ base cap, v = .slice base xs.length cap ∧ xs.length ≤ maxLen := by
  rcases sl_cases h with ⟨rfl, rfl⟩ | ⟨b, off, cap, rfl, h1, h2, _⟩ | ⟨ad, rfl, rfl⟩
  · exact ⟨none, 0, rfl, Nat.zero_le _⟩
  · exact ⟨_, cap, rfl, Nat.le_trans h1 h2⟩
  · exact ⟨_, 0, rfl, Nat.zero_le _⟩

theorem len_wf [Arn] {n : Nat} (h : n ≤ maxLen) : IntKind.i64.min ≤ (n : Int) ∧ (n : Int) ≤ IntKind.i64.max := by
  unfold maxLen at h; simp [IntKind.min, IntKind.max, IntKind.signed, IntKind.bits]; omega

theorem call_builtin_run [Arn] {b : Builtin} {xs : Array Operand} {ts : Array TypeId} (ho : o.op = .call { callee := .builtin b, args := xs, argTypes := ts }) {r : Value} {w' : World}
    (h : ∀ consts, (builtin b ts o.type consts (xs.map a.eval)).run P w = .ok (.value r) w') : (execOp a.eval o).run P w = .ok (.value r) w' := by
  unfold execOp; simp only [ho, resolve, Sem.run_bind, Sem.run_pure, Result.andThen_ok, invoke, h]

theorem len_does [Arn] (p : Pre P B ρ st o α a bs w g) {x : Operand} {xs : Array Operand} {t : TypeId} {ts : Array TypeId} {y : A} {ty : Ty} {d : D} (ho : o.op = .call { callee := .builtin .len, args := xs, argTypes := ts })
    (hxs : xs.toList = [x]) (hts : ts.toList = [t]) (h1 : y.ev ρ = some d) (h2 : d.t = ty) (h3 : RepD g.p w (a.eval x) d)
    (hk : (ty = .str ∧ P.underlying t = some .string) ∨ (∃ e e', ty = .sl e ∧ P.underlying t = some (.slice e'))) (he : EnvOk Φ ρ st.nv .len [y]) :
    Does P o a w (Post B ρ α { dst := o.dst, sv := .one (.a (.v st.nv) (.int .i64)), nv := 1 } st.nb st.ntok bs) := by
  obtain ⟨outs, h4, h5⟩ := he.get (evs1 h1)
  have hx' : xs = #[x] := by apply Array.ext'; simpa using hxs
  have ht' : ts = #[t] := by apply Array.ext'; simpa using hts
  subst hx'; subst ht'; rcases hk with ⟨rfl, hu⟩ | ⟨e, e', rfl, hu⟩
  · obtain ⟨s, rfl, hv, hm⟩ := str_of h2 h3; simp only [evalPr, oi] at h4; subst h4; rw [bytesI_len] at h5; refine p.prim (t := .int .i64) (x := (s.size : Int)) (v := .int .i64 s.size) (call_builtin_run ho fun c => ?_) (h5 0 _ rfl) ⟨rfl, len_wf hm⟩
    simp [builtin, Builtin.len_, Sem.run_bind, run_underlying hu, hv, goInt]
  · obtain ⟨l, rfl, hr⟩ := sl_of h2 h3; simp only [evalPr, oi] at h4; subst h4; obtain ⟨base, cap, hv, hm⟩ := sl_len hr; refine p.prim (t := .int .i64) (x := (l.length : Int)) (v := .int .i64 l.length) (call_builtin_run ho fun c => ?_) (h5 0 _ rfl) ⟨rfl, len_wf hm⟩
    simp [builtin, Builtin.len_, Sem.run_bind, run_underlying hu, hv, goInt]

theorem indexAddr_does [Arn] (p : Pre P B ρ st o α a bs w g) {t e' : TypeId} {x i : Operand} {ax ai : A} {e : Ty} {k : IntKind} {dx di : D} (ho : o.op = .indexAddr t x i)
    (h1 : ax.ev ρ = some dx) (h2 : dx.t = .sl e) (h3 : RepD g.p w (a.eval x) dx) (k1 : ai.ev ρ = some di) (k2 : di.t = .int k) (k3 : RepD g.p w (a.eval i) di)
    (hu : P.underlying t = some (.slice e')) (hw : e.width = sizeT P e') (hpos : 0 < e.width) (he : EnvOk Φ ρ st.nv .inb [ax, ai]) :
    Does P o a w (Post B ρ α { dst := o.dst, sv := .one (.el ax ai e 0) } st.nb st.ntok bs) := by
  obtain ⟨xs, rfl, hr⟩ := sl_of h2 h3; obtain ⟨n, rfl, hvi, bn⟩ := int_of k2 k3; obtain ⟨outs, h4, h5⟩ := he.get (evs2 h1 k1)
  simp only [evalPr, Option.ite_none_right_eq_some, oi] at h4; obtain ⟨⟨n0, n1⟩, _⟩ := h4; have n2 : n < (xs.length : Int) := n1
  have n3 : (0 : Int) ≤ n := n0
  have hlt : n.toNat < xs.length := by omega
  obtain ⟨y, hy⟩ : ∃ y, xs[n.toNat]? = some y := ⟨_, List.getElem?_eq_getElem hlt⟩
  rcases sl_cases hr with ⟨_, rfl⟩ | ⟨b, off, cap, hv, hc1, hc2, hcs⟩ | ⟨_, _, rfl⟩
  · simp at hlt
  rotate_left
  · simp at hlt
  · obtain ⟨cs, hca, hrep⟩ := hcs _ _ hy; refine p.value (v := .pointer (some ⟨b, off + n.toNat * e.width, none⟩)) ?_ ⟨xs, k, n, y, h1, k1, n0, hy, b, off + n.toNat * e.width, cs, rfl, hca, hrep⟩
    unfold execOp; have hsz : (sizeOf e').run P w = .ok (sizeT P e') w := sizeOf_pos (by omega)
    simp only [ho, hv, hvi, Sem.run_bind, Instr.indexAt, asIntOf, Sem.run_pure, Result.andThen_ok, run_underlying hu w]; rw [if_pos ⟨n0, n2⟩]; simp only [Sem.run_bind, hsz, Result.andThen_ok, Sem.run_pure, Addr.add_mid, hw]
end

end Go.Proofs.Ytmglkddddpipgaa.Sx

namespace Go.Proofs.Ytmglkddddpipgaa.Sx
open Go.RowKit

section
variable {P : Program} {B : Base} {ρ : List D} {st : SS} {o : Oper} {α : AS} {a : Act} {bs : List Act} {w : World} {g : G} {Φ : Nat → Cont}

theorem bytesI_get [Arn] (s : ByteArray) (i : Nat) (h : i < s.size) : (bytesI s).getD i 0 = ((s[i]).toNat : Int) := by
  have : i < s.data.toList.length := by simpa using h
  simp only [bytesI, List.getD_eq_getElem?_getD, List.getElem?_map, List.getElem?_eq_getElem this, Option.map_some, Option.getD_some]; rfl

theorem u8_wf [Arn] (b : UInt8) : IntKind.u8.min ≤ ((b.toNat : Nat) : Int) ∧ ((b.toNat : Nat) : Int) ≤ IntKind.u8.max := by
  have := b.toNat_lt
  simp [IntKind.min, IntKind.max, IntKind.signed, IntKind.bits]; omega

theorem index_does [Arn] (p : Pre P B ρ st o α a bs w g) {t : TypeId} {x i : Operand} {ax ai : A} {k : IntKind} {dx di : D} (ho : o.op = .index t x i)
    (h1 : ax.ev ρ = some dx) (h2 : dx.t = .str) (h3 : RepD g.p w (a.eval x) dx) (k1 : ai.ev ρ = some di) (k2 : di.t = .int k) (k3 : RepD g.p w (a.eval i) di)
    (hu : P.underlying t = some .string) (he : EnvOk Φ ρ st.nv .sidx [ax, ai]) :
    Does P o a w (Post B ρ α { dst := o.dst, sv := .one (.a (.v st.nv) (.int .u8)), nv := 1 } st.nb st.ntok bs) := by
  obtain ⟨s, rfl, hv, hm⟩ := str_of h2 h3; obtain ⟨n, rfl, hvi, bn⟩ := int_of k2 k3; obtain ⟨outs, h4, h5⟩ := he.get (evs2 h1 k1)
  simp only [evalPr, Option.ite_none_right_eq_some, oi] at h4; obtain ⟨⟨n0, n1⟩, rfl⟩ := h4; have n2 : (0 : Int) ≤ n := n0
  have n3 : n < ((bytesI s).length : Int) := n1
  rw [bytesI_len] at n3; have hlt : n.toNat < s.size := by omega
  have h6 := h5 0 _ rfl
  rw [bytesI_get s _ hlt] at h6; refine p.prim (t := .int .u8) (x := ((s[n.toNat]).toNat : Int)) (v := .int .u8 (s[n.toNat]).toNat) ?_ h6 ⟨rfl, u8_wf _⟩
  unfold execOp; simp only [ho, hv, hvi, Sem.run_bind, run_index_string w t s k n hu]; rw [dif_pos ⟨n2, n3⟩]; rfl

theorem unOp_does [Arn] (p : Pre P B ρ st o α a bs w g) {op : UnOp} {t : TypeId} {x : Operand} {ax : A} {dx : D} {q : Pr} {ty : Ty} (ho : o.op = .unOp op t x)
    (h1 : ax.ev ρ = some dx) (h3 : RepD g.p w (a.eval x) dx)
    (hk : (op = .not ∧ dx.t = .bool ∧ q = .not ∧ ty = .bool) ∨ (∃ k, op = .neg ∧ dx.t = .int k ∧ q = .neg k ∧ ty = .int k) ∨ (∃ k, op = .xor ∧ dx.t = .int k ∧ q = .com k ∧ ty = .int k))
    (he : EnvOk Φ ρ st.nv q [ax]) : Does P o a w (Post B ρ α { dst := o.dst, sv := .one (.a (.v st.nv) ty), nv := 1 } st.nb st.ntok bs) := by
  obtain ⟨outs, h4, h5⟩ := he.get (evs1 h1)
  rcases hk with ⟨rfl, h2, rfl, rfl⟩ | ⟨k, rfl, h2, rfl, rfl⟩ | ⟨k, rfl, h2, rfl, rfl⟩
  · obtain ⟨b, rfl, hv⟩ := bool_of h2 h3; simp only [evalPr, oi] at h4; subst h4; refine p.prim (t := .bool) (x := !b) (v := .bool (!b)) ?_ (h5 0 _ rfl) rfl
    unfold execOp; simp [ho, hv, Op.unary, Sem.run_bind]
  · obtain ⟨n, rfl, hv, bn⟩ := int_of h2 h3; simp only [evalPr, oi] at h4; subst h4; refine p.prim (t := .int k) (x := k.wrap (0 - n)) (v := .int k (k.wrap (0 - n))) ?_ (h5 0 _ rfl) ⟨rfl, wrap_wf _ _⟩
    unfold execOp; simp only [ho, hv, Op.unary, Sem.run_bind, Op.intArith, Sem.run_pure, Result.andThen_ok]
  · obtain ⟨n, rfl, hv, bn⟩ := int_of h2 h3; simp only [evalPr, oi] at h4; subst h4; refine p.prim (t := .int k) (x := bXor k (if k.signed then -1 else k.max) n) (v := .int k (bXor k (if k.signed then -1 else k.max) n)) ?_ (h5 0 _ rfl) ⟨rfl, wrap_wf _ _⟩
    unfold execOp; simp only [ho, hv, Op.unary, Sem.run_bind, Op.intBits, Sem.run_pure, Result.andThen_ok, bXor]

theorem minmax_does [Arn] (p : Pre P B ρ st o α a bs w g) {b : Builtin} {q : Pr} {x y : Operand} {xs : Array Operand} {ts : Array TypeId} {ax ay : A} {dx dy : D} {ty : Ty}
    (ho : o.op = .call { callee := .builtin b, args := xs, argTypes := ts }) (hxs : xs.toList = [x, y])
    (h1 : ax.ev ρ = some dx) (h2 : dx.t = ty) (h3 : RepD g.p w (a.eval x) dx) (k1 : ay.ev ρ = some dy) (k2 : dy.t = ty) (k3 : RepD g.p w (a.eval y) dy)
    (hk : ty = .str ∨ ∃ k, ty = .int k) (hq : (b = .min ∧ q = .min) ∨ (b = .max ∧ q = .max)) (he : EnvOk Φ ρ st.nv q [ax, ay]) :
    Does P o a w (Post B ρ α { dst := o.dst, sv := .one (.a (.v st.nv) ty), nv := 1 } st.nb st.ntok bs) := by
  obtain ⟨outs, h4, h5⟩ := he.get (evs2 h1 k1)
  have hx' : xs = #[x, y] := by apply Array.ext'; simpa using hxs
  subst hx'; rcases hk with rfl | ⟨k, rfl⟩
  · obtain ⟨s, rfl, hv, hm⟩ := str_of h2 h3; obtain ⟨u, rfl, hv', hm'⟩ := str_of k2 k3; have hl : Op.bytesLess s.toList u.toList = ltL (bytesI s) (bytesI u) := by rw [ByteArray.toList_eq, ByteArray.toList_eq, ltL_bytes]; rfl
    have hl' : Op.bytesLess u.toList s.toList = ltL (bytesI u) (bytesI s) := by rw [ByteArray.toList_eq, ByteArray.toList_eq, ltL_bytes]; rfl
    rcases hq with ⟨rfl, rfl⟩ | ⟨rfl, rfl⟩
    · simp only [evalPr, oi] at h4; subst h4; refine p.prim (t := .str) (x := if (ltL (bytesI s) (bytesI u) || decide (bytesI s = bytesI u)) = true then bytesI s else bytesI u) (v := .string (if (ltL (bytesI s) (bytesI u) || decide (bytesI s = bytesI u)) = true then s else u)) (call_builtin_run ho fun c => ?_) (h5 0 _ rfl) ⟨_, rfl, by split <;> rfl, by split <;> assumption⟩
      have hb := bytes_beq s u
      simp only [builtin, Builtin.min_, Builtin.min2, hv, hv', Sem.run_bind, Op.stringOp, hl, hb, asBool, List.map_toArray, List.map_cons, List.map_nil, List.foldlM_cons, List.foldlM_nil, Sem.run_pure, Result.andThen_ok]
    · simp only [evalPr, oi] at h4; subst h4; refine p.prim (t := .str) (x := if ltL (bytesI s) (bytesI u) = true then bytesI u else bytesI s) (v := .string (if ltL (bytesI s) (bytesI u) = true then u else s)) (call_builtin_run ho fun c => ?_) (h5 0 _ rfl) ⟨_, rfl, by split <;> rfl, by split <;> assumption⟩
      simp only [builtin, Builtin.max_, Builtin.max2, hv, hv', Sem.run_bind, Op.stringOp, hl, asBool, List.map_toArray, List.map_cons, List.map_nil, List.foldlM_cons, List.foldlM_nil, Sem.run_pure, Result.andThen_ok]; cases ltL (bytesI s) (bytesI u) <;> rfl
  · obtain ⟨n, rfl, hv, bn⟩ := int_of h2 h3; obtain ⟨m, rfl, hv', bm⟩ := int_of k2 k3; rcases hq with ⟨rfl, rfl⟩ | ⟨rfl, rfl⟩
    · simp only [evalPr, oi] at h4; subst h4; refine p.prim (t := .int k) (x := if m < n then m else n) (v := .int k (if m < n then m else n)) (call_builtin_run ho fun c => ?_) (h5 0 _ rfl) ⟨rfl, by split <;> assumption⟩
      simp [builtin, Builtin.min_, Builtin.min2, hv, hv', Sem.run_bind]
    · simp only [evalPr, oi] at h4; subst h4; refine p.prim (t := .int k) (x := if n < m then m else n) (v := .int k (if n < m then m else n)) (call_builtin_run ho fun c => ?_) (h5 0 _ rfl) ⟨rfl, by split <;> assumption⟩
      simp [builtin, Builtin.max_, Builtin.max2, hv, hv', Sem.run_bind]

theorem bounds_run [Arn] {isS : Bool} {len cap l h : Nat} {lo hi : Option Value} (hl : (lo = none ∧ l = 0) ∨ ∃ k, lo = some (.int k l)) (hh : (hi = none ∧ h = len) ∨ ∃ k, hi = some (.int k h))
    (h1 : l ≤ h) (h2 : h ≤ cap) : (Instr.sliceBounds isS len cap lo hi none).run P w = .ok (l, h, cap) w := by
  unfold Instr.sliceBounds Instr.sliceBound; rcases hl with ⟨rfl, rfl⟩ | ⟨k, rfl⟩ <;> rcases hh with ⟨rfl, rfl⟩ | ⟨k', rfl⟩ <;>
    simp [Sem.run_bind, asIntOf, h1, h2]

theorem slice_does [Arn] (p : Pre P B ρ st o α a bs w g) {t e' : TypeId} {x : Operand} {lo hi : Option Operand} {ax : A} {dx : D} {e : Ty} {l h : Nat} (ho : o.op = .slice t x lo hi none)
    (h1 : ax.ev ρ = some dx) (h2 : dx.t = .sl e) (h3 : RepD g.p w (a.eval x) dx) (hu : P.underlying t = some (.slice e')) (hw : e.width = sizeT P e') (hpos : 0 < e.width)
    {xs : List e.den} (hdx : dx = ⟨.sl e, xs⟩)
    (hl : (lo.map a.eval = none ∧ l = 0) ∨ ∃ k, lo.map a.eval = some (.int k l)) (hh : (hi.map a.eval = none ∧ h = xs.length) ∨ ∃ k, hi.map a.eval = some (.int k h)) (hlh : l ≤ h) (hle : h ≤ xs.length)
    (hn : nth ρ st.nv = some ⟨.sl e, (xs.take h).drop l⟩) : Does P o a w (Post B ρ α { dst := o.dst, sv := .one (.a (.v st.nv) (.sl e)), nv := 1 } st.nb st.ntok bs) := by
  subst hdx; have hr : Rep g.p w (.sl e) [a.eval x] xs := h3
  have hsz : (sizeOf e').run P w = .ok (sizeT P e') w := sizeOf_pos (by omega)
  have hlen : ((xs.take h).drop l).length = h - l := by simp; omega
  rcases sl_cases hr with ⟨hv, rfl⟩ | ⟨b, off, cap, hv, hc1, hc2, hcs⟩ | ⟨ad, hv, rfl⟩
  · simp at hle
    subst hle; have hl0 : l = 0 := by omega
    subst hl0; refine p.prim (t := .sl e) (x := []) (v := .slice none 0 0) ?_ (by simpa using hn) (.inl ⟨rfl, rfl⟩)
    have hbd : (Instr.sliceBounds true 0 0 (lo.map a.eval) (hi.map a.eval) none).run P w = .ok (0, 0, 0) w := bounds_run hl hh (Nat.le_refl 0) (Nat.zero_le _)
    unfold execOp; simp only [ho, hv, Sem.run_bind, Instr.sliceAt, run_underlying hu w, Result.andThen_ok, Instr.slice, Option.map_none, hbd, hsz, Sem.run_pure]; simp
  rotate_left
  · simp at hle
    subst hle; have hl0 : l = 0 := by omega
    subst hl0; refine p.prim (t := .sl e) (x := []) (v := .slice (some ad) 0 0) ?_ (by simpa using hn) (.inr (.inr ⟨ad, rfl, rfl⟩))
    have hbd : (Instr.sliceBounds true 0 0 (lo.map a.eval) (hi.map a.eval) none).run P w = .ok (0, 0, 0) w := bounds_run hl hh (Nat.le_refl 0) (Nat.zero_le _)
    unfold execOp; simp only [ho, hv, Sem.run_bind, Instr.sliceAt, run_underlying hu w, Result.andThen_ok, Instr.slice, Option.map_none, hbd, hsz, Sem.run_pure]; simp
  · refine p.prim (t := .sl e) (x := (xs.take h).drop l) (v := .slice (some (if cap = l then ⟨b, off, none⟩ else ⟨b, off + l * e.width, none⟩)) (h - l) (cap - l)) ?_ hn ?_
    · have hbd : (Instr.sliceBounds true xs.length cap (lo.map a.eval) (hi.map a.eval) none).run P w = .ok (l, h, cap) w := bounds_run hl hh hlh (Nat.le_trans hle hc1)
      unfold execOp; simp only [ho, hv, Sem.run_bind, Instr.sliceAt, run_underlying hu w, Result.andThen_ok, Instr.slice, Option.map_none, hbd, hsz, Sem.run_pure, hw]; congr 2
      split <;> simp [Addr.add_mid]
    · refine .inr (.inl ⟨b, if cap = l then off else off + l * e.width, cap - l, ?_, by omega, by omega, fun i y hy => ?_⟩)
      · rw [hlen]; split <;> rfl
      · rw [List.getElem?_drop, List.getElem?_take] at hy; split at hy
        · rename_i hlt; obtain ⟨cs, h6, h7⟩ := hcs _ _ hy; refine ⟨cs, ?_, h7⟩
          have : ¬ cap = l := by omega
          rw [if_neg this]; rwa [Nat.add_mul, ← Nat.add_assoc] at h6
        · cases hy

theorem extract_bytes [Arn] (s : ByteArray) (l h : Nat) (hh : h ≤ s.size) : bytesI (s.extract l h) = ((bytesI s).take h).drop l := by
  simp [bytesI, List.map_take, List.map_drop, ByteArray.data_extract, List.extract, List.drop_take]

theorem ssub_does [Arn] (p : Pre P B ρ st o α a bs w g) {t : TypeId} {x : Operand} {lo hi : Option Operand} {ax : A} {s : ByteArray} {l h : Nat} (ho : o.op = .slice t x lo hi none)
    (hv : a.eval x = .string s) (hm : s.size ≤ maxLen) (hu : P.underlying t = some .string)
    (hl : (lo.map a.eval = none ∧ l = 0) ∨ ∃ k, lo.map a.eval = some (.int k l)) (hh : (hi.map a.eval = none ∧ h = s.size) ∨ ∃ k, hi.map a.eval = some (.int k h)) (hlh : l ≤ h) (hle : h ≤ s.size)
    (hn : nth ρ st.nv = some ⟨.str, ((bytesI s).take h).drop l⟩) : Does P o a w (Post B ρ α { dst := o.dst, sv := .one (.a (.v st.nv) .str), nv := 1 } st.nb st.ntok bs) := by
  refine p.prim (t := .str) (x := ((bytesI s).take h).drop l) (v := .string (s.extract l h)) ?_ hn ⟨_, rfl, (extract_bytes s l h hle).symm, ?_⟩
  · have hbd : (Instr.sliceBounds false s.size s.size (lo.map a.eval) (hi.map a.eval) none).run P w = .ok (l, h, s.size) w := bounds_run hl hh hlh hle
    unfold execOp; simp only [ho, hv, Sem.run_bind, Instr.sliceAt, run_underlying hu w, Result.andThen_ok, Instr.slice, Option.map_none, hbd, Sem.run_pure]; simp [hbd]
  · have : (s.extract l h).size ≤ s.size := by rw [ByteArray.size_extract]; omega
    omega
end

end Go.Proofs.Ytmglkddddpipgaa.Sx
