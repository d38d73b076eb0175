/- What the code computes, and what it means: part 1 of the proof of FnMasks. No condition of its own. -/
import Derived.ProofKit
import Derived.OrdersHeld
import Derived.Below
import Derived.Laws.MakeOwn
import Derived.Laws.NewBlocks
import Derived.Deep.Slices
import Derived.Laws.IdiomStrings
import Derived.Lib.AppendStr
namespace Go.Proofs.YtgkhakhkebjbpaaEv
open Go

/-- A plain value. 'sl e xs': a slice; e: 0 where an element is one cell and no struct, else the number of cells of the struct. -/
inductive V where
  | int (k : IntKind) (n : Int)
  | bool (b : Bool)
  | str (s : ByteArray)
  | sl (e : Nat) (xs : List V)
  | ag (cs : List V)
  deriving Inhabited

def V.isAg : V → Bool
  | .ag _ => true
  | _ => false

def cz (e : Nat) : Nat := if e = 0 then 1 else e

mutual
def Rep (S : Nat → Prop) (w : World) : V → Value → Prop
  | .int k n, u => u = .int k n
  | .bool b, u => u = .bool b
  | .str s, u => u = .string s
  | .sl e xs, u => ∃ A c, u = .slice A xs.length c ∧ xs.length ≤ c ∧ c ≤ maxLen ∧ RepAt S w A e 0 xs
  | .ag cs, u => ∃ us : List Value, u = .agg us.toArray ∧ RepL S w cs us
def RepL (S : Nat → Prop) (w : World) : List V → List Value → Prop
  | [], us => us = []
  | c :: cs, us => ∃ u us', us = u :: us' ∧ c.isAg = false ∧ Rep S w c u ∧ RepL S w cs us'
def RepAt (S : Nat → Prop) (w : World) (A : Option Addr) (e : Nat) : Nat → List V → Prop
  | _, [] => True
  | i, x :: xs => (∃ a u, A = some a ∧ S a.block ∧ Rep S w x u ∧ u.cells.size = cz e ∧ x.isAg = (e != 0) ∧ ∀ (j : Nat) y, u.cells[j]? = some y → w.cell? (a.add (i * cz e + j)) = some y) ∧ RepAt S w A e (i + 1) xs
end

/-- What a slot of a frame holds. 'un': nothing is known; 'ud': no value; 'nil e': the nil slice; 'sli i': the header of row i, which this call owns; 'ptr i off': an address in chunk i;
'ep i e k off': cell off of element k of row i; 'fp e x', 'fq cs': the address of memory that nobody writes, with its contents. -/
inductive A where
  | un
  | ud
  | v (x : V)
  | nil (e : Nat)
  | sli (i : Nat)
  | ptr (i off : Nat)
  | ep (i e : Nat) (k : Int) (off : Nat)
  | vw (i e lo n : Nat)
  | mp (i : Nat)
  | fp (e : Nat) (x : V)
  | fq (cs : List V)
  | ag (cs : List A)
  | tu (vs : List A)
  | fn (f : Nat) (cs : List A)
  deriving Inhabited

/-- A chunk of memory of the call's own. 'fz': a row that nobody writes any more. -/
inductive Ck where
  | gone
  | row (e t : Nat) (xs : List V)
  | fz (e : Nat) (xs : List V)
  | box (cs : List A)
  | fb (cs : List V)
  | map (ts : List Nat) (es : List (V × V))
  deriving Inhabited

def Ck.live : Ck → Bool
  | .row .. | .box _ | .map .. => true
  | _ => false

mutual
def AR (D : Nat → Option Ck) (μ : Nat → Nat × Nat) (S : Nat → Prop) (w : World) : A → Value → Prop
  | .un, _ => True
  | .ud, u => u = undef
  | .v x, u => Rep S w x u
  | .nil _, u => u = .slice none 0 0
  | .sli i, u => u.oneCell' = true ∧ (match D i with
    | some (.row _ _ xs) => u = .slice (some ⟨(μ i).1, 0, none⟩) xs.length (μ i).2
    | some (.fz e xs) => Rep S w (.sl e xs) u
    | some .gone => True
    | _ => False)
  | .ptr i off, u => (∃ c, D i = some c) ∧ u = .pointer (some (Addr.add ⟨(μ i).1, 0, none⟩ off))
  | .ep i e k off, u => (∃ c, D i = some c) ∧ u = .pointer (some (Addr.add ⟨(μ i).1, 0, none⟩ (k.toNat * cz e + off)))
  | .vw i e lo n, u => ∃ a, u = .slice (some a) n ((μ i).2 - lo) ∧ (∃ c, D i = some c) ∧ (0 < n → a = Addr.add ⟨(μ i).1, 0, none⟩ (lo * cz e))
  | .mp i, u => u = .map (some (μ i).1) ∧ ∃ c, D i = some c
  | .fp e x, u => ∃ a y, u = .pointer (some a) ∧ S a.block ∧ Rep S w x y ∧ y.cells.size = cz e ∧ x.isAg = (e != 0) ∧ ∀ (j : Nat) z, y.cells[j]? = some z → w.cell? (a.add j) = some z
  | .fq cs, u => ∃ a us, u = .pointer (some a) ∧ S a.block ∧ RepL S w cs us ∧ ∀ (j : Nat) z, us[j]? = some z → w.cell? (a.add j) = some z
  | .ag cs, u => ∃ us : List Value, u = .agg us.toArray ∧ ARs D μ S w cs us ∧ ∀ z ∈ us, z.oneCell' = true
  | .tu vs, u => ∃ us : List Value, u = .tuple us.toArray ∧ ARs D μ S w vs us
  | .fn f cs, u => ∃ us : List Value, u = .func (.func f) #[] us.toArray ∧ ARs D μ S w cs us
def ARs (D : Nat → Option Ck) (μ : Nat → Nat × Nat) (S : Nat → Prop) (w : World) : List A → List Value → Prop
  | [], us => us = []
  | c :: cs, us => ∃ u us', us = u :: us' ∧ AR D μ S w c u ∧ ARs D μ S w cs us'
end

/-- The cells of the elements of a row. -/
def RepR (S : Nat → Prop) (w : World) (e : Nat) : List V → List Value → Prop
  | [], us => us = []
  | x :: xs, us => ∃ u us', us = u.cells.toList ++ us' ∧ Rep S w x u ∧ u.cells.size = cz e ∧ x.isAg = (e != 0) ∧ RepR S w e xs us'

/-- The entries of a map. -/
def MapR (S : Nat → Prop) (w : World) : List (V × V) → List MapEntry → Prop
  | [], es => es = []
  | p :: l, es => ∃ e es', es = e :: es' ∧ Rep S w p.1 e.key ∧ Rep S w p.2 e.val ∧ MapR S w l es'

def CR (D : Nat → Option Ck) (μ : Nat → Nat × Nat) (S : Nat → Prop) (w : World) (i : Nat) : Prop :=
  match D i with
  | some (.row e t xs) => ∃ cur us, w.heap[(μ i).1]? = some (.cells cur t (0, 0)) ∧ cur.size = (μ i).2 * cz e ∧ xs.length ≤ (μ i).2 ∧ (μ i).2 ≤ maxLen ∧ RepR S w e xs us ∧ cur.toList.take us.length = us
  | some (.box cs) => ∃ cur t, w.heap[(μ i).1]? = some (.cells cur t (0, 0)) ∧ ARs D μ S w cs cur.toList ∧ ∀ z ∈ cur.toList, z.oneCell' = true
  | some (.map _ es) => ∃ ents clock, w.heap[(μ i).1]? = some (.map ents clock) ∧ MapR S w es ents.toList
  | some (.fb cs) => S (μ i).1 ∧ ∃ us, RepL S w cs us ∧ ∀ (j : Nat) z, us[j]? = some z → w.cell? (Addr.add ⟨(μ i).1, 0, none⟩ j) = some z
  | _ => True

/-- The program's variables that are known to hold these cells, and that nobody writes. -/
def tabs : List (Nat × (Array Value → Prop)) := []
def Tbl (w0 : World) (O0 S0 : Nat → Prop) : Prop := ∀ p ∈ tabs, S0 p.1 ∧ ¬ O0 p.1 ∧ ∃ cs t z, w0.heap[p.1]? = some (.cells cs t z) ∧ p.2 cs
/-- The world, w0 when the call began; O0: the blocks that the call was handed to write; S0, S: the blocks that nobody writes. -/
structure Rl (w0 : World) (O0 S0 : Nat → Prop) (D : Nat → Option Ck) (μ : Nat → Nat × Nat) (S : Nat → Prop) (w : World) : Prop where
  tb : Tbl w0 O0 S0
  os : w.os = w0.os
  tape : w.tape = w0.tape
  output : w.output = w0.output
  size : w0.heap.size ≤ w.heap.size
  keep : ∀ k, k < w0.heap.size → ¬ O0 k → w.heap[k]? = w0.heap[k]?
  sub : ∀ b, S0 b → S b
  new : ∀ b, S b → S0 b ∨ O0 b ∨ w0.heap.size ≤ b
  lt : ∀ b, S b → b < w.heap.size
  ck : ∀ i, CR D μ S w i
  own : ∀ i c, D i = some c → c.live = true → ¬ S (μ i).1 ∧ (μ i).1 < w.heap.size ∧ (O0 (μ i).1 ∨ w0.heap.size ≤ (μ i).1)
  inj : ∀ i j c d, D i = some c → D j = some d → c.live = true → d.live = true → (μ i).1 = (μ j).1 → i = j

/-! ### The code, as the evaluator reads it -/
inductive X where
  | t (i : Nat)
  | c (a : A)
  deriving Inhabited

inductive O where
  | mv (x : X)
  | pick (c a b : X)
  | bin (op : BinOp) (x y : X)
  | un (op : UnOp) (x : X)
  | conv (k : IntKind) (x : X)
  | fld (x : X) (off k : Nat)
  | fa (x : X) (off : Nat)
  | ia (x i : X) (e : Nat)
  | si (x i : X)
  | ld (x : X) (k : Nat)
  | st (x y : X) (k : Nat)
  | bld (zs : List A) (ps : List (Nat × Nat × X))
  | bsl (e t : Nat) (ps : List X)
  | box (x : X)
  | al (zs : List A)
  | mk (e t b : Nat) (z : V) (n c : X)
  | ssub (x : X) (lo hi : Option X)
  | sub (e : Nat) (x : X) (lo hi : Option X)
  | ext (x : X) (i : Nat)
  | call (f : Nat) (xs : List X)
  | callv (x : X) (xs : List X)
  | len (str : Bool) (x : X)
  | app (e t b : Nat) (x y : X)
  | mm (g : Bool) (x y : X)
  | eq (ne : Bool) (n : Nat) (ts : List Nat) (x y : X)
  | eqn (ne : Bool) (x : X)
  | nck (x : X)
  | mkf (f : Nat) (xs : List X)
  | clr (e : Nat) (z : V) (x : X)
  | mkm
  | mlk (k : Nat) (ts : List Nat) (z : V) (ok : Bool) (x i : X)
  | mup (k : Nat) (ts : List Nat) (x i y : X)
  | mln (x : X)
  | b2s (x : X)
  | aps (t b : Nat) (x y : X)
  | bad
  deriving Inhabited

structure AO where
  d : Option Nat
  g : Option (Nat × Bool)
  o : O
  deriving Inhabited

inductive AC where
  | skip
  | ops (os : List AO)
  | reg (tb : List Nat) (os : List AO)
  | seq (a b : AC)
  | cond (c : X) (a b : AC)
  | block (id : Nat) (b : AC)
  | loop (b : AC)
  | exit (id : Nat)
  | ret
  | bad
  deriving Inhabited

structure AF where
  np : Nat
  nt : Nat
  rs : List (Nat × Option Nat)
  body : AC
  deriving Inhabited

/-! ### From the program's code -/
def kindOf (P : Program) (t : TypeId) : Option Nat := match P.underlying t, P.info? t with
  | some (.struct _), some i => if i.size = 0 then none else some i.size
  | some (.array _ _), _ => none
  | some _, some i => if i.size = 1 then some 0 else none
  | _, _ => none

def elemKind (P : Program) (t : TypeId) : Option (Nat × Nat) := match P.underlying t with
  | some (.slice e) => (kindOf P e).map fun k => (k, e)
  | _ => none

/-- The kinds of the elements, cell by cell, of a type's slices. -/
def cellKs (P : Program) : Nat → TypeId → List Nat
  | 0, _ => []
  | n + 1, t => match P.underlying t with
    | some (.struct fs) => fs.toList.flatMap fun f => cellKs P n f.type
    | some (.slice e) => [(kindOf P e).getD 0]
    | _ => [0]

def cA1 (e : Nat) : Value → Option A
  | .int k n => some (.v (.int k n))
  | .bool b => some (.v (.bool b))
  | .string s => some (.v (.str s))
  | .slice none 0 0 => some (.nil e)
  | .func (.func f) x y => if x.size = 0 ∧ y.size = 0 then some (.fn f []) else none
  | .pointer none => some .un
  | _ => none

def cAs : List Nat → List Value → Option (List A)
  | _, [] => some []
  | ks, v :: vs => match cA1 (ks.headD 0) v, cAs ks.tail vs with
    | some a, some az => some (a :: az)
    | _, _ => none

def allV : List A → Option (List V)
  | [] => some []
  | .v x :: az => (allV az).map (x :: ·)
  | _ => none

def mkAg (az : List A) : A := match allV az with
  | some xs => .v (.ag xs)
  | none => .ag az

def cA (P : Program) (t : TypeId) (v : Value) : Option A := match v with
  | .agg cs => (cAs (cellKs P 8 t) cs.toList).map mkAg
  | v => cA1 ((cellKs P 8 t).headD 0) v

def cX (P : Program) (t : TypeId) : Operand → Option X
  | .tmp i => some (.t i)
  | .const v => (cA P t v).map .c
  | .func f => some (.c (.fn f []))
  | _ => none

/-- An optional bound, as the code reads it. -/
def cOX (P : Program) : Option Operand → Option (Option X)
  | none => some none
  | some y => (cX P 0 y).map some

def cXs (P : Program) : List TypeId → List Operand → Option (List X)
  | _, [] => some []
  | ts, x :: xs => match cX P (ts.headD 0) x, cXs P ts.tail xs with
    | some a, some az => some (a :: az)
    | _, _ => none

def zeroAs (P : Program) (t : TypeId) : Option (List A) := match P.info? t with
  | some i => match i.zero with
    | some v => cAs (cellKs P 8 t) v.cells.toList
    | none => none
  | none => none

def toVz : A → Option V
  | .v x => some x
  | .nil e => some (.sl e [])
  | _ => none

def toVzs : List A → Option (List V)
  | [] => some []
  | a :: az => match toVz a, toVzs az with
    | some x, some xs => some (x :: xs)
    | _, _ => none

def zeroV (P : Program) (t : TypeId) (e : Nat) : Option V := match P.info? t with
  | some i => match i.zero with
    | some (.agg us) => match cAs (cellKs P 8 t) us.toList with
      | some zs => match toVzs zs with
        | some vs => if e ≠ 0 ∧ vs.length = e then some (.ag vs) else none
        | none => none
      | none => none
    | some u => match cA1 ((cellKs P 8 t).headD 0) u with
      | some z => if e = 0 then toVz z else none
      | none => none
    | none => none
  | none => none

def fieldsOf' (P : Program) (t : TypeId) : Array Field := match P.underlying t with
  | some (.struct fs) => fs
  | _ => #[]

def cParts (P : Program) (fs : Array Field) : List (Nat × Operand) → Option (List (Nat × Nat × X))
  | [] => some []
  | (i, x) :: r => match fs[i]? with
    | some f => match cX P f.type x, cParts P fs r with
      | some y, some ys => some ((f.offset, P.cellsOf f.type, y) :: ys)
      | _, _ => none
    | none => none

def eqFs (P : Program) (go : TypeId → Option (List Nat)) : List Field → Nat → Option (List Nat)
  | [], _ => some []
  | f :: fs, o => match go f.type, kindOf P f.type with
    | some a, some k => if f.name ≠ "_" ∧ f.offset = o ∧ a.length = cz k then (eqFs P go fs (o + cz k)).map (a ++ ·) else none
    | _, _ => none
/-- What a value of the type is compared by, cell by cell: 0: a bool, 1: a whole number, 2: a string. -/
def eqTs (P : Program) : Nat → TypeId → Option (List Nat)
  | 0, _ => none
  | n + 1, t => match P.underlying t with
    | some .bool => some [0]
    | some (.int _) => some [1]
    | some .string => some [2]
    | some (.struct fs) => if P.stoodInHeld t = false then eqFs P (eqTs P n) fs.toList 0 else none
    | _ => none

/-- The operation, its types struck. -/
def cO0 (P : Program) (o : Oper) : Option O := match o.op with
  | .move x | .assign x => (cX P o.type x).map .mv
  | .pick c a b => match cX P o.type c, cX P o.type a, cX P o.type b with
    | some c, some a, some b => some (.pick c a b)
    | _, _, _ => none
  | .binOp op t x y u => match cX P t x, cX P u y with
    | some x', some y' => match P.underlying t with
      | some (.int _) | some .string => some (.bin op x' y')
      | some (.slice _) => if (op = .eql ∨ op = .neq) then (match y with
          | .const (.slice none _ _) => some (.eqn (op == .neq) x')
          | _ => none) else none
      | _ => if (op = .eql ∨ op = .neq) ∧ P.eqGuardType P.depth t = false then (match kindOf P t, eqTs P 8 t with
          | some k, some ts => some (.eq (op == .neq) k ts x' y')
          | _, _ => none) else none
    | _, _ => none
  | .unOp op t x => (cX P t x).map (.un op)
  | .convert s d x => match P.underlying s, P.underlying d, cX P s x with
    | some (.int _), some (.int k), some x => some (.conv k x)
    | some (.slice e), some .string, some x => match P.underlying e with
      | some (.int .u8) => some (.b2s x)
      | _ => none
    | _, _, _ => none
  | .field t x f => match cX P t x, (fieldsOf' P t)[f]? with
    | some x, some g => (kindOf P g.type).map fun k => .fld x g.offset k
    | _, _ => none
  | .fieldAddr t x f => match cX P 0 x, (fieldsOf' P t)[f]? with
    | some x, some g => (kindOf P g.type).map fun _ => .fa x g.offset
    | _, _ => none
  | .indexAddr t x i => match cX P t x, cX P 0 i, elemKind P t with
    | some x, some i, some (e, _) => some (.ia x i e)
    | _, _, _ => none
  | .index t x i => match P.underlying t, cX P t x, cX P 0 i with
    | some .string, some x, some i => some (.si x i)
    | _, _, _ => none
  | .load t x => match cX P 0 x, kindOf P t with
    | some x, some k => some (.ld x k)
    | _, _ => none
  | .store t x y => match cX P 0 x, cX P t y, kindOf P t with
    | some x, some y, some k => some (.st x y k)
    | _, _, _ => none
  | .build t ps => match P.underlying t, zeroAs P t, cParts P (fieldsOf' P t) ps.toList with
    | some (.struct fs), some zs, some ps => if fs.toList.all (fun f => (P.info? f.type).isSome) = true then some (.bld zs ps) else none
    | _, _, _ => none
  | .buildSlice t n ps => match elemKind P t with
    | some (e, t') => if ps.toList.map (·.1) = List.range n ∧ n * cz e ≤ 2 ^ 20 ∧ ((P.info? t').bind (·.zero)).isSome = true then (cXs P (List.replicate n t') (ps.toList.map (·.2))).map (.bsl e t') else none
    | none => none
  | .box t x => match kindOf P t with
    | some _ => (cX P t x).map .box
    | none => none
  | .alloc t => match kindOf P t with
    | some _ => (zeroAs P t).map .al
    | none => none
  | .makeSlice t n c => match elemKind P t with
    | some (e, t') => match P.info? t', zeroV P t' e, cX P 0 n, cX P 0 c with
      | some i, some z, some n, some c => some (.mk e t' i.bytes z n c)
      | _, _, _, _ => none
    | none => none
  | .slice t x lo hi mx => if mx.isSome then none else match cX P t x, cOX P lo, cOX P hi with
    | some x, some lo, some hi => match P.underlying t with
      | some .string => some (.ssub x lo hi)
      | some (.slice t') => (kindOf P t').map fun e => .sub e x lo hi
      | _ => none
    | _, _, _ => none
  | .makeMap t r => match r, P.underlying t with
    | none, some (.map _ _) => some .mkm
    | _, _ => none
  | .lookup t x i ok => match P.underlying t, cX P t x with
    | some (.map kt e), some x => match kindOf P kt, eqTs P 8 kt, cX P kt i, (kindOf P e).bind (zeroV P e) with
      | some k, some ts, some i, some z => some (.mlk k ts z ok x i)
      | _, _, _, _ => none
    | _, _ => none
  | .mapUpdate t x i y => match P.underlying t, cX P t x with
    | some (.map kt e), some x => match kindOf P kt, eqTs P 8 kt, cX P kt i, cX P e y with
      | some k, some ts, some i, some y => some (.mup k ts x i y)
      | _, _, _, _ => none
    | _, _ => none
  | .insert t x i y => match P.underlying t, cX P t x with
    | some (.map kt e), some x => match kindOf P kt, eqTs P 8 kt, cX P kt i, cX P e y with
      | some k, some ts, some i, some y => some (.mup k ts x i y)
      | _, _, _, _ => none
    | _, _ => none
  | .extract x i => (cX P 0 x).map fun x => .ext x i
  | .nilCheck x => (cX P 0 x).map .nck
  | .makeFunc (.func f) first caps => if first.size = 0 then (cXs P [] caps.toList).map (.mkf f) else none
  | .call c => match c.callee with
    | .value (.func f) => match P.funcs[f]? with
      | some fn => (cXs P fn.params.toList c.args.toList).map (.call f)
      | none => none
    | .value (.tmp i) => (cXs P [] c.args.toList).map (.callv (.t i))
    | .builtin .len => match c.args.toList, c.argTypes.toList with
      | [x], [t] => match P.underlying t with
        | some .string => (cX P t x).map (.len true)
        | some (.slice _) => (cX P t x).map (.len false)
        | some (.map _ _) => (cX P t x).map .mln
        | _ => none
      | _, _ => none
    | .builtin .clear => match c.args.toList, c.argTypes.toList with
      | [x], [t] => match elemKind P t, cX P t x with
        | some (e, t'), some x => (zeroV P t' e).map fun z => .clr e z x
        | _, _ => none
      | _, _ => none
    | .builtin .append => match c.args.toList, c.argTypes.toList with
      | [x, y], [t, u] => if t = u then match elemKind P t, cX P t x, cX P t y with
          | some (e, t'), some x, some y => match P.info? t' with
            | some i => match i.zero with
              | some z => if z.cells.size = i.size then some (.app e t' i.bytes x y) else none
              | none => none
            | none => none
          | _, _, _ => none
        else match P.underlying u, elemKind P t, cX P t x, cX P u y with
          | some .string, some (0, t'), some x, some y => match P.info? t' with
            | some i => match i.zero with
              | some z => if z.cells.size = i.size then some (.aps t' i.bytes x y) else none
              | none => none
            | none => none
          | _, _, _, _ => none
      | _, _ => none
    | .builtin .max => match c.args.toList with
      | [x, y] => match cX P 0 x, cX P 0 y with
        | some x, some y => some (.mm true x y)
        | _, _ => none
      | _ => none
    | .builtin .min => match c.args.toList with
      | [x, y] => match cX P 0 x, cX P 0 y with
        | some x, some y => some (.mm false x y)
        | _, _ => none
      | _ => none
    | _ => none
  | _ => none

/-- What the evaluator does not take must never be reached. -/
def cO (P : Program) (o : Oper) : Option O := some ((cO0 P o).getD .bad)

def cAO (P : Program) (ops : Array Oper) (o : Oper) : Option AO := match cO P o with
  | some x => match o.guard with
    | none => some ⟨o.dst, none, x⟩
    | some (j, b) => match (ops[j]?).bind (·.dst) with
      | some d => some ⟨o.dst, some (d, b), x⟩
      | none => none
  | none => none

def cAOs (P : Program) (ops : Array Oper) : List Oper → Option (List AO)
  | [] => some []
  | o :: os => match cAO P ops o, cAOs P ops os with
    | some a, some az => some (a :: az)
    | _, _ => none

/-- The numbers that an operation looks at or fills. -/
def looks (ops : Array Oper) (o : Oper) : List Nat :=
  o.dst.toList ++ (o.op.operands.toList.filterMap fun | .tmp t => some t | _ => none) ++ (match o.guard with
    | some (j, _) => ((ops[j]?).bind (·.dst)).toList
    | none => [])
/-- Each operation waits for earlier ones alone; the table says no more than the edges; who looks at a number and who fills it stand in order. -/
def regOk (ops : Array Oper) (tb : List Nat) : Bool :=
  (List.range ops.size).all fun d => match ops[d]? with
    | some o => (o.after.toList.all fun e => !Region.binds .any e || decide (e.on < d)) &&
        ((List.range d).all fun j => !(tb.getD d 0).testBit j || o.after.toList.any fun e => Region.binds .any e && (e.on == j || decide (j < e.on) && (tb.getD e.on 0).testBit j)) &&
        ((List.range d).all fun k => (tb.getD d 0).testBit k || match ops[k]? with
          | some q => (match q.dst with | some t => !(looks ops o).contains t | none => true) && (match o.dst with | some t => !(looks ops q).contains t | none => true)
          | none => true)
    | none => true
def cC (P : Program) : Code → Option AC
  | .skip => some .skip
  | .region _ ops draw => match cAOs P ops ops.toList with
    | some os => if draw then (if regOk ops (Region.before ops).toList = true then some (.reg (Region.before ops).toList os) else some .bad) else some (.ops os)
    | none => some .bad
  | .seq a b => match cC P a, cC P b with
    | some a, some b => some (.seq a b)
    | _, _ => none
  | .cond c a b => match cX P 0 c, cC P a, cC P b with
    | some c, some a, some b => some (.cond c a b)
    | _, _, _ => none
  | .block id b => (cC P b).map (.block id)
  | .loop b => (cC P b).map .loop
  | .exit id => some (.exit id)
  | .ret => some .ret
  | _ => some .bad

def cRs (P : Program) : List ResultVar → Option (List (Nat × Option Nat))
  | [] => some []
  | .tmp t :: r => (cRs P r).map ((t, none) :: ·)
  | .cell a t :: r => match kindOf P t, cRs P r with
    | some k, some l => some ((a, some k) :: l)
    | _, _ => none

def cF (P : Program) (f : Func) : Option AF := match f.body with
  | some c => match cC P c, cRs P f.results.toList with
    | some b, some rs => if f.name = "runtime.NumGoroutine" then none else some ⟨f.params.size, f.ntmps, rs, b⟩
    | _, _ => none
  | none => none
end Go.Proofs.YtgkhakhkebjbpaaEv
namespace Go.Proofs.YtgkhakhkebjbpaaEv
open Go

section
variable {S S' : Nat → Prop} {w w' : World}
mutual
theorem Rep.mono (hS : ∀ b, S b → S' b) (hw : ∀ b, S b → w'.heap[b]? = w.heap[b]?) : ∀ (x : V) (u : Value), Rep S w x u → Rep S' w' x u
  | .int _ _, _, h => h
  | .bool _, _, h => h
  | .str _, _, h => h
  | .sl e xs, _, ⟨A, c, h1, h2, h3, h4⟩ => ⟨A, c, h1, h2, h3, RepAt.mono hS hw A e xs 0 h4⟩
  | .ag cs, _, ⟨us, h1, h2⟩ => ⟨us, h1, RepL.mono hS hw cs us h2⟩
theorem RepL.mono (hS : ∀ b, S b → S' b) (hw : ∀ b, S b → w'.heap[b]? = w.heap[b]?) : ∀ (cs : List V) (us : List Value), RepL S w cs us → RepL S' w' cs us
  | [], _, h => h
  | c :: cs, _, ⟨u, us', h1, h2, h3, h4⟩ => ⟨u, us', h1, h2, Rep.mono hS hw c u h3, RepL.mono hS hw cs us' h4⟩
theorem RepAt.mono (hS : ∀ b, S b → S' b) (hw : ∀ b, S b → w'.heap[b]? = w.heap[b]?) (A : Option Addr) (e : Nat) : ∀ (xs : List V) (i : Nat), RepAt S w A e i xs → RepAt S' w' A e i xs
  | [], _, _ => trivial
  | x :: xs, i, ⟨⟨a, u, h1, h2, h3, h4, h5, h6⟩, h7⟩ =>
    ⟨⟨a, u, h1, hS _ h2, Rep.mono hS hw x u h3, h4, h5, fun j y hy => by
      have hb : (a.add (i * cz e + j)).block = a.block := by unfold Addr.add; split <;> rfl
      rw [World.cell?_of_block (w := w) (by rw [hb]; exact hw _ h2)]; exact h6 j y hy⟩, RepAt.mono hS hw A e xs (i + 1) h7⟩
end

theorem add_block (a : Addr) (n : Nat) : (a.add n).block = a.block := by unfold Addr.add; split <;> rfl
theorem add_base (b n : Nat) : Addr.add ⟨b, 0, none⟩ n = ⟨b, n, none⟩ := by unfold Addr.add; split <;> simp_all

theorem RepR.mono (hS : ∀ b, S b → S' b) (hw : ∀ b, S b → w'.heap[b]? = w.heap[b]?) (e : Nat) : ∀ (xs : List V) (us : List Value), RepR S w e xs us → RepR S' w' e xs us
  | [], _, h => h
  | x :: xs, _, ⟨u, us', h1, h2, h3, h4, h5⟩ => ⟨u, us', h1, Rep.mono hS hw x u h2, h3, h4, RepR.mono hS hw e xs us' h5⟩

theorem MapR.mono (hS : ∀ b, S b → S' b) (hw : ∀ b, S b → w'.heap[b]? = w.heap[b]?) : ∀ (l : List (V × V)) (es : List MapEntry), MapR S w l es → MapR S' w' l es
  | [], _, h => h
  | p :: l, _, ⟨e, es', h1, h2, h3, h4⟩ => ⟨e, es', h1, Rep.mono hS hw _ _ h2, Rep.mono hS hw _ _ h3, MapR.mono hS hw l es' h4⟩

/-- From one state to a later one: what was known of a slot is known. -/
structure Tr (D : Nat → Option Ck) (μ : Nat → Nat × Nat) (S : Nat → Prop) (w : World) (D' : Nat → Option Ck) (μ' : Nat → Nat × Nat) (S' : Nat → Prop) (w' : World) : Prop where
  sub : ∀ b, S b → S' b
  heap : ∀ b, S b → w'.heap[b]? = w.heap[b]?
  sli : ∀ i u, AR D μ S w (.sli i) u → AR D' μ' S' w' (.sli i) u
  ptr : ∀ i c, D i = some c → μ' i = μ i ∧ ∃ c', D' i = some c'

variable {D D' D'' : Nat → Option Ck} {μ μ' μ'' : Nat → Nat × Nat} {S'' : Nat → Prop} {w'' : World}
mutual
theorem AR.tr (T : Tr D μ S w D' μ' S' w') : ∀ (a : A) (u : Value), AR D μ S w a u → AR D' μ' S' w' a u
  | .un, _, _ => trivial
  | .ud, _, h => h
  | .v x, u, h => Rep.mono T.sub T.heap x u h
  | .nil _, _, h => h
  | .sli i, u, h => T.sli i u h
  | .ptr i off, u, h => by
    obtain ⟨⟨c, hc⟩, hu⟩ := h
    obtain ⟨h2, h3⟩ := T.ptr i c hc
    exact ⟨h3, by rw [hu, h2]⟩
  | .ep i e k off, u, h => by
    obtain ⟨⟨c, hc⟩, hu⟩ := h
    obtain ⟨h2, h3⟩ := T.ptr i c hc
    exact ⟨h3, by rw [hu, h2]⟩
  | .vw i e lo n, u, h => by
    obtain ⟨a, h1, ⟨c, hc⟩, h2⟩ := h
    obtain ⟨h3, h4⟩ := T.ptr i c hc
    exact ⟨a, by rw [h1, h3], h4, by rw [h3]; exact h2⟩
  | .mp i, u, h => by
    obtain ⟨h1, c, hc⟩ := h
    obtain ⟨h3, h4⟩ := T.ptr i c hc
    exact ⟨by rw [h1, h3], h4⟩
  | .fp e x, u, ⟨a, y, h1, h2, h3, h4, h5, h6⟩ => ⟨a, y, h1, T.sub _ h2, Rep.mono T.sub T.heap x y h3, h4, h5, fun j z hz => by
      rw [World.cell?_of_block (w := w) (by rw [add_block]; exact T.heap _ h2)]; exact h6 j z hz⟩
  | .fq cs, u, ⟨a, us, h1, h2, h3, h4⟩ => ⟨a, us, h1, T.sub _ h2, RepL.mono T.sub T.heap cs us h3, fun j z hz => by
      rw [World.cell?_of_block (w := w) (by rw [add_block]; exact T.heap _ h2)]; exact h4 j z hz⟩
  | .ag cs, u, ⟨us, h1, h2, h3⟩ => ⟨us, h1, ARs.tr T cs us h2, h3⟩
  | .tu vs, u, ⟨us, h1, h2⟩ => ⟨us, h1, ARs.tr T vs us h2⟩
  | .fn f cs, u, ⟨us, h1, h2⟩ => ⟨us, h1, ARs.tr T cs us h2⟩
theorem ARs.tr (T : Tr D μ S w D' μ' S' w') : ∀ (az : List A) (us : List Value), ARs D μ S w az us → ARs D' μ' S' w' az us
  | [], _, h => h
  | a :: az, _, ⟨u, us', h1, h2, h3⟩ => ⟨u, us', h1, AR.tr T a u h2, ARs.tr T az us' h3⟩
end

theorem Tr.refl : Tr D μ S w D μ S w := ⟨fun _ h => h, fun _ _ => rfl, fun _ _ h => h, fun _ c h => ⟨rfl, c, h⟩⟩

theorem Tr.trans (T : Tr D μ S w D' μ' S' w') (U : Tr D' μ' S' w' D'' μ'' S'' w'') : Tr D μ S w D'' μ'' S'' w'' where
  sub b h := U.sub b (T.sub b h)
  heap b h := (U.heap b (T.sub b h)).trans (T.heap b h)
  sli i u h := U.sli i u (T.sli i u h)
  ptr i c h := by
    obtain ⟨h2, c', h3⟩ := T.ptr i c h
    obtain ⟨h4, h5⟩ := U.ptr i c' h3
    exact ⟨h4.trans h2, h5⟩

/-! ### the same heap -/
variable {w0 : World} {O0 S0 : Nat → Prop}
theorem cell_heap {a : Addr} (h : w'.heap = w.heap) : w'.cell? a = w.cell? a := World.cell?_of_block (w := w) (by rw [h])
theorem Tr.heapEq (h : w'.heap = w.heap) : Tr D μ S w D μ S w' where
  sub _ h := h
  heap b _ := by rw [h]
  sli i u hu := by
    have : ∀ x, Rep S w x u → Rep S w' x u := fun x hx => Rep.mono (fun _ h => h) (fun b _ => by rw [h]) x u hx
    unfold AR at hu ⊢
    refine ⟨hu.1, ?_⟩
    replace hu := hu.2
    split at hu <;> simp_all
  ptr := Tr.refl.ptr (S := S) (w := w)

theorem CR.tr {i : Nat} (T : Tr D μ S w D' μ' S' w') (hD : D' i = D i) (hμ : μ' i = μ i) (hb : ∀ c, D i = some c → c.live = true → w'.heap[(μ i).1]? = w.heap[(μ i).1]?) (h : CR D μ S w i) : CR D' μ' S' w' i := by
  unfold CR at h ⊢
  rw [hD, hμ]
  split at h
  · rename_i e t xs hi
    obtain ⟨cur, us, h1, h2, h3, h4, h5, h6⟩ := h
    exact ⟨cur, us, by rw [hb _ hi rfl]; exact h1, h2, h3, h4, RepR.mono T.sub T.heap e xs us h5, h6⟩
  · rename_i cs hi
    obtain ⟨cur, t, h1, h2, h3⟩ := h
    exact ⟨cur, t, by rw [hb _ hi rfl]; exact h1, ARs.tr T cs _ h2, h3⟩
  · rename_i ts es hi
    obtain ⟨ents, clock, h1, h2⟩ := h
    exact ⟨ents, clock, by rw [hb _ hi rfl]; exact h1, MapR.mono T.sub T.heap es _ h2⟩
  · rename_i cs hi
    obtain ⟨h1, us, h2, h3⟩ := h
    exact ⟨T.sub _ h1, us, RepL.mono T.sub T.heap cs us h2, fun j z hz => by rw [World.cell?_of_block (w := w) (by rw [add_block]; exact T.heap _ h1)]; exact h3 j z hz⟩
  · trivial

theorem Rl.tbl (R : Rl w0 O0 S0 D μ S w) {O' S' : Nat → Prop} (hS : ∀ b, S b → S' b) (hO : ∀ b, O' b → ¬ S b) : Tbl w O' S' := fun p hp => by
  obtain ⟨h1, h2, cs, t, z, h3, h4⟩ := R.tb p hp
  refine ⟨hS _ (R.sub _ h1), fun h => hO _ h (R.sub _ h1), cs, t, z, ?_, h4⟩
  rw [R.keep _ (Array.getElem?_eq_some_iff.1 h3).1 h2]
  exact h3
theorem Rl.heapEq (R : Rl w0 O0 S0 D μ S w) (h : w'.heap = w.heap) (ho : w'.os = w.os) (ht : w'.tape = w.tape) (hu : w'.output = w.output) : Rl w0 O0 S0 D μ S w' where
  tb := R.tb
  os := ho.trans R.os
  tape := ht.trans R.tape
  output := hu.trans R.output
  size := by rw [h]; exact R.size
  keep := by rw [h]; exact R.keep
  sub := R.sub
  new := R.new
  lt := by rw [h]; exact R.lt
  ck i := (R.ck i).tr (Tr.heapEq h) rfl rfl (fun _ _ _ => by rw [h])
  own := by rw [h]; exact R.own
  inj := R.inj
theorem Rl.drew (R : Rl w0 O0 S0 D μ S w) : Rl w0 O0 S0 D μ S w.drew := R.heapEq rfl rfl rfl rfl

/-- One entry turned. -/
def fset {α : Type} (D : Nat → α) (i : Nat) (c : α) : Nat → α := fun j => if j = i then c else D j
theorem fset_same {α : Type} {D : Nat → α} {i : Nat} {c : α} : fset D i c i = c := by simp [fset]
theorem fset_ne {α : Type} {D : Nat → α} {i j : Nat} {c : α} (h : j ≠ i) : fset D i c j = D j := by simp [fset, h]

/-! ### a new block -/
theorem Rl.live_lt (R : Rl w0 O0 S0 D μ S w) {i : Nat} {c : Ck} (h : D i = some c) (hl : c.live = true) : (μ i).1 < w.heap.size := (R.own i c h hl).2.1

theorem Tr.fresh {i : Nat} {c : Ck} {m : Nat × Nat} (hi : D i = none) (hS : ∀ b, S b → w'.heap[b]? = w.heap[b]?) : Tr D μ S w (fset D i (some c)) (fset μ i m) S w' where
  sub _ h := h
  heap := hS
  sli j u hu := by
    by_cases hj : j = i
    · subst hj
      unfold AR at hu
      rw [hi] at hu
      exact hu.2.elim
    · have : ∀ x, Rep S w x u → Rep S w' x u := fun x hx => Rep.mono (fun _ h => h) hS x u hx
      unfold AR at hu ⊢
      rw [fset_ne hj, fset_ne hj]
      refine ⟨hu.1, ?_⟩
      replace hu := hu.2
      split at hu <;> simp_all
  ptr j d hd := by
    have hj : j ≠ i := fun e => by rw [e, hi] at hd; cases hd
    rw [fset_ne hj, fset_ne hj]
    exact Tr.refl.ptr (S := S) (w := w) j d hd

theorem Rl.alloc (R : Rl w0 O0 S0 D μ S w) {o : Obj} {i n : Nat} {c : Ck} (hi : D i = none)
    (hc : CR (fset D i (some c)) (fset μ i (w.heap.size, n)) S (w.alloc o) i) :
    Rl w0 O0 S0 (fset D i (some c)) (fset μ i (w.heap.size, n)) S (w.alloc o) ∧ Tr D μ S w (fset D i (some c)) (fset μ i (w.heap.size, n)) S (w.alloc o) := by
  have old : ∀ k, k < w.heap.size → (w.alloc o).heap[k]? = w.heap[k]? := fun k hk => RowKit.Below.heap_alloc w o k hk
  have T : Tr D μ S w (fset D i (some c)) (fset μ i (w.heap.size, n)) S (w.alloc o) := Tr.fresh hi (fun b hb => old b (R.lt b hb))
  refine ⟨⟨R.tb, R.os, R.tape, R.output, by simp; have := R.size; omega, fun k hk ho => by rw [old k (Nat.lt_of_lt_of_le hk R.size)]; exact R.keep k hk ho, R.sub, R.new, fun b hb => by simp; have := R.lt b hb; omega, ?_, ?_, ?_⟩, T⟩
  · intro j
    by_cases hj : j = i
    · subst hj; exact hc
    · exact (R.ck j).tr T (fset_ne hj) (fset_ne hj) (fun d hd hl => old _ (R.live_lt hd hl))
  · intro j d hd hl
    by_cases hj : j = i
    · subst hj
      rw [fset_same]
      refine ⟨fun h => by have := R.lt _ h; simp at this, by simp, .inr R.size⟩
    · rw [fset_ne hj] at hd ⊢
      obtain ⟨h1, h2, h3⟩ := R.own j d hd hl
      exact ⟨h1, by simp; omega, h3⟩
  · intro j k d d' hd hd' hl hl' he
    by_cases hj : j = i <;> by_cases hk : k = i
    · omega
    · subst hj
      rw [fset_same, fset_ne hk] at he
      rw [fset_ne hk] at hd'
      have := R.live_lt hd' hl'
      omega
    · subst hk
      rw [fset_same, fset_ne hj] at he
      rw [fset_ne hj] at hd
      have := R.live_lt hd hl
      omega
    · rw [fset_ne hj, fset_ne hk] at he
      rw [fset_ne hj] at hd
      rw [fset_ne hk] at hd'
      exact R.inj j k d d' hd hd' hl hl' he

/-! ### a write into a chunk of the call's own -/
/-- Only block b has turned. -/
structure Only (b : Nat) (w w' : World) : Prop where
  os : w'.os = w.os
  tape : w'.tape = w.tape
  output : w'.output = w.output
  size : w'.heap.size = w.heap.size
  block : ∀ k, k ≠ b → w'.heap[k]? = w.heap[k]?

theorem Rl.write (R : Rl w0 O0 S0 D μ S w) {i : Nat} {c c' : Ck} (hi : D i = some c) (hl : c.live = true) (ho : Only (μ i).1 w w') (_hlive : c'.live = true)
    (hsli : ∀ u, AR D μ S w (.sli i) u → AR (fset D i (some c')) μ S w' (.sli i) u)
    (hc : Tr D μ S w (fset D i (some c')) μ S w' → CR (fset D i (some c')) μ S w' i) :
    Rl w0 O0 S0 (fset D i (some c')) μ S w' ∧ Tr D μ S w (fset D i (some c')) μ S w' := by
  obtain ⟨o1, o2, o3⟩ := R.own i c hi hl
  have hS : ∀ b, S b → w'.heap[b]? = w.heap[b]? := fun b hb => ho.block b (fun e => o1 (e ▸ hb))
  have T : Tr D μ S w (fset D i (some c')) μ S w' := by
    refine ⟨fun _ h => h, hS, fun j u hu => ?_, fun j d hd => ?_⟩
    · by_cases hj : j = i
      · subst hj; exact hsli u hu
      · have : ∀ x, Rep S w x u → Rep S w' x u := fun x hx => Rep.mono (fun _ h => h) hS x u hx
        unfold AR at hu ⊢
        rw [fset_ne hj]
        refine ⟨hu.1, ?_⟩
        replace hu := hu.2
        split at hu <;> simp_all
    · by_cases hj : j = i
      · subst hj
        exact ⟨rfl, c', fset_same⟩
      · rw [fset_ne hj]
        exact Tr.refl.ptr (S := S) (w := w) j d hd
  refine ⟨⟨R.tb, ho.os.trans R.os, ho.tape.trans R.tape, ho.output.trans R.output, by rw [ho.size]; exact R.size, fun k hk hO => ?_, R.sub, R.new, by rw [ho.size]; exact R.lt, fun j => ?_, ?_, ?_⟩, T⟩
  · rw [ho.block k (fun e => ?_)]
    · exact R.keep k hk hO
    · rcases o3 with o3 | o3
      · exact hO (e ▸ o3)
      · omega
  · by_cases hj : j = i
    · subst hj; exact hc T
    · exact (R.ck j).tr T (fset_ne hj) rfl (fun d hd hdl => ho.block _ (fun e => hj (R.inj j i d c hd hi hdl hl e)))
  · intro j d hd hdl
    rw [ho.size]
    by_cases hj : j = i
    · subst hj; exact ⟨o1, o2, o3⟩
    · rw [fset_ne hj] at hd
      exact R.own j d hd hdl
  · intro j k d d' hd hd' hdl hdl' he
    by_cases hj : j = i <;> by_cases hk : k = i
    · omega
    · subst hj
      rw [fset_ne hk] at hd'
      exact R.inj j k c d' hi hd' hl hdl' he
    · subst hk
      rw [fset_ne hj] at hd
      exact R.inj j k d c hd hi hdl hl he
    · rw [fset_ne hj] at hd
      rw [fset_ne hk] at hd'
      exact R.inj j k d d' hd hd' hdl hdl' he

/-! ### a chunk given up -/
theorem Rl.drop (R : Rl w0 O0 S0 D μ S w) {i : Nat} {c : Ck} (hi : D i = some c) : Rl w0 O0 S0 (fset D i (some .gone)) μ S w ∧ Tr D μ S w (fset D i (some .gone)) μ S w := by
  have T : Tr D μ S w (fset D i (some .gone)) μ S w := by
    refine ⟨fun _ h => h, fun _ _ => rfl, fun j u hu => ?_, fun j d hd => ?_⟩
    · by_cases hj : j = i
      · subst hj
        unfold AR at hu ⊢
        rw [fset_same]
        exact ⟨hu.1, trivial⟩
      · unfold AR at hu ⊢
        rw [fset_ne hj]
        exact hu
    · by_cases hj : j = i
      · subst hj; exact ⟨rfl, _, fset_same⟩
      · rw [fset_ne hj]
        exact Tr.refl.ptr (S := S) (w := w) j d hd
  refine ⟨⟨R.tb, R.os, R.tape, R.output, R.size, R.keep, R.sub, R.new, R.lt, fun j => ?_, ?_, ?_⟩, T⟩
  · by_cases hj : j = i
    · subst hj; unfold CR; rw [fset_same]; trivial
    · exact (R.ck j).tr T (fset_ne hj) rfl (fun _ _ _ => rfl)
  · intro j d hd hdl
    by_cases hj : j = i
    · subst hj; rw [fset_same] at hd; cases hd; cases hdl
    · rw [fset_ne hj] at hd
      exact R.own j d hd hdl
  · intro j k d d' hd hd' hdl hdl' he
    by_cases hj : j = i
    · subst hj; rw [fset_same] at hd; cases hd; cases hdl
    · by_cases hk : k = i
      · subst hk; rw [fset_same] at hd'; cases hd'; cases hdl'
      · rw [fset_ne hj] at hd
        rw [fset_ne hk] at hd'
        exact R.inj j k d d' hd hd' hdl hdl' he
end
end Go.Proofs.YtgkhakhkebjbpaaEv
namespace Go.Proofs.YtgkhakhkebjbpaaEv
open Go

structure St where
  t : List A
  h : List Ck

def St.x (s : St) : X → A
  | .t i => s.t.getD i .un
  | .c a => a
def St.set (s : St) (d : Option Nat) (a : A) : St := match d with
  | some d => ⟨s.t.set d a, s.h⟩
  | none => s
def St.setX (s : St) (x : X) (a : A) : St := match x with
  | .t i => ⟨s.t.set i a, s.h⟩
  | .c _ => s

def V.nc : V → Nat
  | .ag cs => cs.length
  | _ => 1
mutual
def V.flat : V → Bool
  | .sl _ _ => false
  | .ag cs => flats cs
  | _ => true
def flats : List V → Bool
  | [] => true
  | c :: cs => c.flat && flats cs
end
def shape (e : Nat) (z : V) : Prop := z.isAg = (e != 0) ∧ z.nc = cz e

def A.cells? : A → Option (List A)
  | .v (.ag cs) => some (cs.map .v)
  | .ag cs => some cs
  | .un => none
  | .ud => none
  | .tu _ => none
  | a => some [a]

/-- A value that nobody writes any more. -/
def toV (_h : List Ck) : A → Option V
  | .v x => some x
  | .nil e => some (.sl e [])
  | _ => none
def toVs (h : List Ck) : List A → Option (List V)
  | [] => some []
  | a :: az => match toV h a, toVs h az with
    | some x, some xs => some (x :: xs)
    | _, _ => none

/-- Nothing of the call's own memory is named. -/
def A.shut : A → Bool
  | .v _ => true
  | .fp _ _ => true
  | .fq _ => true
  | _ => false

/-- An argument that the callee does not write, and the rows and boxes that are lent to it. -/
def toArg1 (h : List Ck) : A → Option (A × List Nat)
  | .v x => some (.v x, [])
  | .nil e => some (.v (.sl e []), [])
  | .sli i => match h[i]? with
    | some (.fz e xs) => some (.v (.sl e xs), [i])
    | some (.row e _ xs) => some (.v (.sl e xs), [i])
    | _ => none
  | .ptr i off => match h[i]? with
    | some (.fb cs) => some (.fq (cs.drop off), [i])
    | _ => none
  | .vw i e lo n => match h[i]? with
    | some (.row e' _ xs) => if e' = e ∧ lo + n ≤ xs.length then some (.v (.sl e ((xs.drop lo).take n)), [i]) else none
    | _ => none
  | .fp e x => some (.fp e x, [])
  | .fq cs => some (.fq cs, [])
  | .fn f cs => if cs.all A.shut = true then some (.fn f cs, []) else none
  | _ => none
def toLs (h : List Ck) : List A → Option (List V × List Nat)
  | [] => some ([], [])
  | a :: az => match toArg1 h a, toLs h az with
    | some (.v x, l), some (xs, m) => some (x :: xs, l ++ m)
    | _, _ => none
def toArg (h : List Ck) : A → Option (A × List Nat)
  | .ag cs => (toLs h cs).map fun p => (.v (.ag p.1), p.2)
  | a => toArg1 h a
def toArgs (h : List Ck) : List A → Option (List A × List Nat)
  | [] => some ([], [])
  | a :: az => match toArg h a, toArgs h az with
    | some (x, l), some (xs, m) => some (x :: xs, l ++ m)
    | _, _ => none

mutual
/-- What a call may come back with. -/
def A.res : A → Bool
  | .v _ => true
  | .nil _ => true
  | .sli _ => true
  | .ag cs => ress cs
  | .tu cs => ress cs
  | _ => false
def ress : List A → Bool
  | [] => true
  | a :: az => a.res && ress az
end
mutual
def A.flats : A → Bool
  | .v x => x.flat
  | .ag cs => flatss cs
  | .tu cs => flatss cs
  | _ => true
def flatss : List A → Bool
  | [] => true
  | a :: az => a.flats && flatss az
end
def Ck.isRow : Ck → Bool
  | .row .. => true
  | _ => false
def Ck.flat : Ck → Prop
  | .row _ _ xs => ∀ x ∈ xs, x.flat = true
  | _ => False
mutual
def A.shift (n : Nat) : A → A
  | .sli i => .sli (n + i)
  | .ag cs => .ag (shifts n cs)
  | .tu cs => .tu (shifts n cs)
  | a => a
def shifts (n : Nat) : List A → List A
  | [] => []
  | a :: az => a.shift n :: shifts n az
end

/-- A call of function f with the arguments 'as', which name the chunks 'hin', comes back with r and with the chunks 'hs': those of 'hin' and then new ones. -/
def SpG (P : Program) (f : Nat) (az : List A) (hin : List Ck) (r : A) (hs : List Ck) : Prop :=
  (∃ fn, P.funcs[f]? = some fn ∧ fn.body.isSome = true ∧ fn.name ≠ "runtime.NumGoroutine") ∧
  ∀ (S : Nat → Prop) (w : World) (us : List Value) (O : Nat → Prop) (μ : Nat → Nat × Nat), Rl w O S (fun i => hin[i]?) μ S w → ARs (fun i => hin[i]?) μ S w az us →
    Calls P f us.toArray w fun e w' => ∃ u S' μ', e = .returned u ∧ Rl w O S (fun i => hs[i]?) μ' S' w' ∧ Tr (fun i => hin[i]?) μ S w (fun i => hs[i]?) μ' S' w' ∧ AR (fun i => hs[i]?) μ' S' w' r u
/-- A call of function f with the arguments 'as' comes back with r and with the rows 'hs', which are new. -/
def Sp (P : Program) (f : Nat) (az : List A) (r : A) (hs : List Ck) : Prop := SpG P f az [] r hs

/-! ### a call that is handed chunks to write -/
def posL (x : Nat) : List Nat → Option Nat
  | [] => none
  | y :: l => if y = x then some 0 else (posL x l).map (· + 1)
def Ck.okM : Ck → Bool
  | .row .. => true
  | .gone => true
  | .box cs => cs.all A.shut
  | _ => false
mutual
def toM (h : List Ck) : A → List Nat → Option (A × List Nat)
  | .v x, L => some (.v x, L)
  | .nil e, L => some (.nil e, L)
  | .fp e x, L => some (.fp e x, L)
  | .fq cs, L => some (.fq cs, L)
  | .sli i, L => match h[i]? with
    | some (.row ..) => match posL i L with
      | some j => some (.sli j, L)
      | none => some (.sli L.length, L ++ [i])
    | _ => none
  | .ptr i off, L => match h[i]? with
    | some (.box cs) => if cs.all A.shut = true then match posL i L with
        | some j => some (.ptr j off, L)
        | none => some (.ptr L.length off, L ++ [i])
      else none
    | _ => none
  | .ag cs, L => (toMs h cs L).map fun p => (.ag p.1, p.2)
  | .fn f cs, L => if cs.all A.shut = true then some (.fn f cs, L) else none
  | _, _ => none
def toMs (h : List Ck) : List A → List Nat → Option (List A × List Nat)
  | [], L => some ([], L)
  | a :: az, L => match toM h a L with
    | some (b, L1) => (toMs h az L1).map fun p => (b :: p.1, p.2)
    | none => none
end
mutual
/-- What such a call may come back with. -/
def A.isM : A → Bool
  | .v _ => true
  | .nil _ => true
  | .sli _ => true
  | .ptr _ _ => true
  | .ag cs => isMs cs
  | .tu vs => isMs vs
  | _ => false
def isMs : List A → Bool
  | [] => true
  | a :: az => a.isM && isMs az
end
def renI (L : List Nat) (n j : Nat) : Nat := if j < L.length then L.getD j 0 else n + (j - L.length)
mutual
def A.ren (L : List Nat) (n : Nat) : A → A
  | .sli j => .sli (renI L n j)
  | .ptr j o => .ptr (renI L n j) o
  | .ag cs => .ag (rens L n cs)
  | .tu vs => .tu (rens L n vs)
  | a => a
def rens (L : List Nat) (n : Nat) : List A → List A
  | [] => []
  | a :: az => a.ren L n :: rens L n az
end
def putCks (h : List Ck) : List Nat → List Ck → List Ck
  | i :: L, c :: hs => putCks (h.set i c) L hs
  | _, _ => h

/-! ### a function made with what it has captured: nobody writes that any more -/
def sliIds : List A → List Nat
  | [] => []
  | .sli j :: cs => j :: sliIds cs
  | _ :: cs => sliIds cs
def capJ (h : List Ck) : List A → List Nat
  | [] => []
  | .ptr i _ :: az => i :: ((match h[i]? with | some (.box cs) => sliIds cs | _ => []) ++ capJ h az)
  | _ :: az => capJ h az
def toF (h : List Ck) (J : List Nat) : A → Option V
  | .v x => some x
  | .nil e => some (.sl e [])
  | .sli i => if J.contains i = true then match h[i]? with
      | some (.row e _ xs) => some (.sl e xs)
      | some (.fz e xs) => some (.sl e xs)
      | _ => none
    else none
  | _ => none
def toFs (h : List Ck) (J : List Nat) : List A → Option (List V)
  | [] => some []
  | a :: az => match toF h J a, toFs h J az with
    | some x, some xs => some (x :: xs)
    | _, _ => none
def frzC (h : List Ck) (J : List Nat) : Ck → Option Ck
  | .row e _ xs => some (.fz e xs)
  | .fz e xs => some (.fz e xs)
  | .box cs => (toFs h J cs).map .fb
  | .fb cs => some (.fb cs)
  | .map .. => none
  | .gone => none
def frzH (h : List Ck) (J : List Nat) : Nat → List Ck → Option (List Ck)
  | _, [] => some []
  | n, c :: cs => match (if J.contains n = true then frzC h J c else some c), frzH h J (n + 1) cs with
    | some c', some cs' => some (c' :: cs')
    | _, _ => none
def capA (h : List Ck) : A → Option A
  | .v x => some (.v x)
  | .fp e x => some (.fp e x)
  | .fq cs => some (.fq cs)
  | .ptr i off => match h[i]? with
    | some (.fb cs) => some (.fq (cs.drop off))
    | _ => none
  | _ => none
def capAs (h : List Ck) : List A → Option (List A)
  | [] => some []
  | a :: az => match capA h a, capAs h az with
    | some x, some xs => some (x :: xs)
    | _, _ => none

/-! ### the operations -/
def binI (op : BinOp) (k : IntKind) (a b : Int) : Option V := match op with
  | .add => some (.int k (k.wrap (a + b)))
  | .sub => some (.int k (k.wrap (a - b)))
  | .mul => some (.int k (k.wrap (a * b)))
  | .quo => if b = 0 then none else some (.int k (k.wrap (a.tdiv b)))
  | .rem => if b = 0 then none else some (.int k (a.tmod b))
  | .and => some (.int k (k.wrap (BitVec.ofInt k.bits a &&& BitVec.ofInt k.bits b).toNat))
  | .or => some (.int k (k.wrap (BitVec.ofInt k.bits a ||| BitVec.ofInt k.bits b).toNat))
  | .xor => some (.int k (k.wrap (BitVec.ofInt k.bits a ^^^ BitVec.ofInt k.bits b).toNat))
  | .andNot => some (.int k (k.wrap (BitVec.ofInt k.bits a &&& ~~~ BitVec.ofInt k.bits b).toNat))
  | .eql => some (.bool (decide (a = b)))
  | .neq => some (.bool (!decide (a = b)))
  | .lss => some (.bool (decide (a < b)))
  | .leq => some (.bool (decide (a ≤ b)))
  | .gtr => some (.bool (decide (b < a)))
  | .geq => some (.bool (decide (b ≤ a)))
  | _ => none
def binS (op : BinOp) (a b : ByteArray) : Option V := match op with
  | .add => if a.size + b.size ≤ 4611686018427387904 then some (.str (a ++ b)) else none
  | .eql => some (.bool (decide (a = b)))
  | .neq => some (.bool (!decide (a = b)))
  | .lss => some (.bool (Op.bytesLess a.toList b.toList))
  | _ => none
def binF (op : BinOp) (x y : A) : Option V := match x, y with
  | .v (.int k a), .v (.int j b) => match op with
    | .shl => if b < 0 then none else some (.int k (k.wrap (a * 2 ^ min b.toNat k.bits)))
    | .shr => if b < 0 then none else some (.int k (a.fdiv (2 ^ min b.toNat k.bits)))
    | op => if k = j then binI op k a b else none
  | .v (.str a), .v (.str b) => binS op a b
  | _, _ => none
def unF (op : UnOp) (x : A) : Option V := match op, x with
  | .neg, .v (.int k n) => some (.int k (k.wrap (0 - n)))
  | .not, .v (.bool b) => some (.bool (!b))
  | _, _ => none

def eq1 : Nat → V → V → Option Prop
  | 0, .bool a, .bool b => some (a = b)
  | 1, .int k a, .int j b => if k = j then some (a = b) else none
  | 2, .str a, .str b => some (a = b)
  | _, _, _ => none
/-- Two lists of cells: are they alike? -/
def eqT : List Nat → List V → List V → Option Prop
  | [], [], [] => some True
  | t :: ts, a :: az, b :: bs => match eq1 t a b, eqT ts az bs with
    | some p, some q => some (p ∧ q)
    | _, _ => none
  | _, _, _ => none
def V.cs : V → List V
  | .ag cs => cs
  | x => [x]

noncomputable def cdec (p : Prop) : Bool := @decide p (Classical.propDecidable p)
@[simp] theorem cdec_true {p : Prop} : cdec p = true ↔ p := by simp [cdec]
@[simp] theorem cdec_false {p : Prop} : cdec p = false ↔ ¬ p := by simp [cdec]

def optI (s : St) (d : Int) : Option X → Option Int
  | none => some d
  | some y => match s.x y with
    | .v (.int _ n) => some n
    | _ => none

/-- l, its entries from off on overwritten. -/
def put {α : Type} (l : List α) (off : Nat) (r : List α) : List α := l.take off ++ r ++ l.drop (off + r.length)

def fillA (cs : List A) : List (Nat × Nat × A) → Option (List A)
  | [] => some cs
  | (off, n, a) :: r => match a.cells? with
    | some ys => if ys.length = n ∧ off + n ≤ cs.length then fillA (put cs off ys) r else none
    | none => none

def fldF (x : A) (off k : Nat) : Option A := match x with
  | .v (.ag cs) => if k = 0 then (cs[off]?).map .v else if off + k ≤ cs.length then some (.v (.ag ((cs.drop off).take k))) else none
  | .ag cs => if k = 0 then cs[off]? else if off + k ≤ cs.length then some (mkAg ((cs.drop off).take k)) else none
  | _ => none

/-- There is a value, and it is well. -/
def oK {α : Type} (o : Option α) (K : α → Prop) : Prop := ∃ r, o = some r ∧ K r
theorem oK_some {α : Type} {r : α} {K : α → Prop} : oK (some r) K = K r := by simp [oK]
theorem oK_none {α : Type} {K : α → Prop} : oK none K = False := by simp [oK]
theorem oK_ite {α : Type} {c : Prop} [Decidable c] {x : α} {K : α → Prop} : oK (if c then some x else none) K = (c ∧ K x) := by by_cases h : c <;> simp [oK, h]
theorem oK_ite' {α : Type} {c : Prop} [Decidable c] {x : α} {K : α → Prop} : oK (if c then none else some x) K = (¬ c ∧ K x) := by by_cases h : c <;> simp [oK, h]

/-- Whatever is there. -/
def fA {α : Type} (o : Option α) (K : α → Prop) : Prop := ∀ y, o = some y → K y

abbrev KT := A → List Nat → List Nat → List Ck → Prop

/-- A row of bytes. -/
def unBs : List V → Option (List UInt8)
  | [] => some []
  | .int .u8 n :: xs => if 0 ≤ n ∧ n < 256 then (unBs xs).map (UInt8.ofNat n.toNat :: ·) else none
  | _ => none
def bsV (s : ByteArray) : List V := s.data.toList.map fun b => .int .u8 b.toNat
/-- A row, or a value of it, to be read. -/
def rowOf (h : List Ck) : A → Option (Nat × List V × List Nat)
  | .v (.sl e xs) => some (e, xs, [])
  | .nil e => some (e, [], [])
  | .sli i => match h[i]? with
    | some (.row e _ xs) => some (e, xs, [i])
    | some (.fz e xs) => some (e, xs, [i])
    | _ => none
  | .vw i e lo n => match h[i]? with
    | some (.row e' _ xs) => if e' = e ∧ lo + n ≤ xs.length then some (e, (xs.drop lo).take n, [i]) else none
    | _ => none
  | _ => none

/-- What stands at a key of a map. -/
noncomputable def mget (k : V) : List (V × V) → Option V
  | [] => none
  | p :: r => if cdec (p.1 = k) = true then some p.2 else mget k r
noncomputable def mput (k v : V) : List (V × V) → List (V × V)
  | [] => [(k, v)]
  | p :: r => if cdec (p.1 = k) = true then (k, v) :: r else p :: mput k v r
/-- The key and those of the entries are of one kind. -/
def keyed (n : Nat) (ts : List Nat) (k : V) (es : List (V × V)) : Prop := k.isAg = (n != 0) ∧ (eqT ts k.cs k.cs).isSome = true ∧ ∀ p ∈ es, p.1.isAg = (n != 0) ∧ (eqT ts k.cs p.1.cs).isSome = true
def lkA (z : V) : Bool → Option V → A
  | true, some v => .tu [.v v, .v (.bool true)]
  | true, none => .tu [.v z, .v (.bool false)]
  | false, some v => .v v
  | false, none => .v z

def callS (P : Program) (s : St) (K : KT) (f : Nat) (az : List A) : Prop :=
  oK (toArgs s.h az) fun (bs, rd) => ∃ r hs, Sp P f bs r hs ∧ (r.res = true ∧ ∀ c ∈ hs, c.isRow = true) ∧ (rd = [] ∨ r.flats = true ∧ ∀ c ∈ hs, c.flat) ∧
    K (r.shift s.h.length) rd ((List.range hs.length).map (s.h.length + ·)) (s.h ++ hs)

def callM (P : Program) (s : St) (K : KT) (f : Nat) (az : List A) : Prop :=
  oK (toMs s.h az []) fun (bs, L) => ∃ r hs, SpG P f bs (L.map fun i => s.h.getD i .gone) r hs ∧ (hs.all Ck.okM = true ∧ r.isM = true ∧ L.length ≤ hs.length) ∧
    K (r.ren L s.h.length) L (L ++ (List.range (hs.length - L.length)).map (s.h.length + ·)) (putCks s.h L hs ++ hs.drop L.length)

def aop (P : Program) (m : Nat → Bool) (s : St) (K : KT) : O → Prop
  | .mv x => K (s.x x) [] [] s.h
  | .pick c a b => match s.x c with
    | .v (.bool t) => (t = true → K (s.x a) [] [] s.h) ∧ (t = false → K (s.x b) [] [] s.h)
    | _ => False
  | .bin op x y => oK (binF op (s.x x) (s.x y)) fun r => K (.v r) [] [] s.h
  | .eq ne n ts x y => match s.x x, s.x y with
    | .v a, .v b => oK (eqT ts a.cs b.cs) fun p => a.isAg = (n != 0) ∧ b.isAg = (n != 0) ∧ K (.v (.bool (cdec p != ne))) [] [] s.h
    | _, _ => False
  | .eqn ne x => match s.x x with
    | .nil _ => K (.v (.bool (true != ne))) [] [] s.h
    | .v (.sl _ xs) => xs ≠ [] ∧ K (.v (.bool (false != ne))) [] [] s.h
    | .sli i => match s.h[i]? with
      | some (.row ..) => K (.v (.bool (false != ne))) [i] [] s.h
      | some (.fz _ xs) => xs ≠ [] ∧ K (.v (.bool (false != ne))) [i] [] s.h
      | _ => False
    | _ => False
  | .un op x => oK (unF op (s.x x)) fun r => K (.v r) [] [] s.h
  | .conv k x => match s.x x with
    | .v (.int _ n) => K (.v (.int k (k.wrap n))) [] [] s.h
    | _ => False
  | .fld x off k => oK (fldF (s.x x) off k) fun r => K r [] [] s.h
  | .fa x off => match s.x x with
    | .ptr i o => K (.ptr i (o + off)) [] [] s.h
    | .ep i e n o => K (.ep i e n (o + off)) [] [] s.h
    | .fq cs => K (.fq (cs.drop off)) [] [] s.h
    | .fp _ (.ag cs) => K (.fq (cs.drop off)) [] [] s.h
    | _ => False
  | .ia x i e => match s.x i with
    | .v (.int _ n) => match s.x x with
      | .v (.sl e' xs) => e' = e ∧ (0 ≤ n ∧ n < xs.length) ∧ ∀ y, xs[n.toNat]? = some y → K (.fp e y) [] [] s.h
      | .sli c => match s.h[c]? with
        | some (.fz e' xs) => e' = e ∧ (0 ≤ n ∧ n < xs.length) ∧ ∀ y, xs[n.toNat]? = some y → K (.fp e y) [c] [] s.h
        | some (.row e' _ xs) => e' = e ∧ (0 ≤ n ∧ n < xs.length) ∧ K (.ep c e n 0) [c] [] s.h
        | _ => False
      | .vw c e' lo n' => match s.h[c]? with
        | some (.row e'' _ xs) => (e' = e ∧ e'' = e ∧ lo + n' ≤ xs.length) ∧ (0 ≤ n ∧ n < n') ∧ K (.ep c e (lo + n) 0) [c] [] s.h
        | _ => False
      | _ => False
    | _ => False
  | .si x i => match s.x x, s.x i with
    | .v (.str b), .v (.int _ n) => (0 ≤ n ∧ n < b.size) ∧ ∀ y : UInt8, b[n.toNat]? = some y → K (.v (.int .u8 y.toNat)) [] [] s.h
    | _, _ => False
  | .ld x k => match s.x x with
    | .fp e y => e = k ∧ K (.v y) [] [] s.h
    | .fq cs => if k = 0 then oK cs[0]? fun y => K (.v y) [] [] s.h else k ≤ cs.length ∧ K (.v (.ag (cs.take k))) [] [] s.h
    | .ptr c off => match s.h[c]? with
      | some (.box cs) => if k = 0 then oK cs[off]? fun y => K y [c] [] s.h else off + k ≤ cs.length ∧ K (mkAg ((cs.drop off).take k)) [c] [] s.h
      | some (.fb cs) => if k = 0 then oK cs[off]? fun y => K (.v y) [c] [] s.h else off + k ≤ cs.length ∧ K (.v (.ag ((cs.drop off).take k))) [c] [] s.h
      | _ => False
    | .ep c e n off => match s.h[c]? with
      | some (.row e' _ xs) => e' = e ∧ n.toNat < xs.length ∧ ∀ y, xs[n.toNat]? = some y →
          if k = e ∧ off = 0 then K (.v y) [c] [] s.h else match y with
          | .ag cs => if k = 0 then oK cs[off]? fun z => K (.v z) [c] [] s.h else off + k ≤ cs.length ∧ K (.v (.ag ((cs.drop off).take k))) [c] [] s.h
          | _ => False
      | _ => False
    | _ => False
  | .st x y k => match s.x x with
    | .ptr c off => match s.h[c]? with
      | some (.box cs) => oK (s.x y).cells? fun ys => ys.length = cz k ∧ off + cz k ≤ cs.length ∧ K .ud [c] [c] (s.h.set c (.box (put cs off ys)))
      | _ => False
    | .ep c e n off => match s.h[c]? with
      | some (.row e' t xs) => if k = e ∧ off = 0 then oK (toV s.h (s.x y)) fun z => e' = e ∧ n.toNat < xs.length ∧ shape e z ∧ K .ud [c] [c] (s.h.set c (.row e t (xs.set n.toNat z)))
        else oK (toV s.h (s.x y)) fun z => e' = e ∧ n.toNat < xs.length ∧ z.cs.length = cz k ∧ fA (xs[n.toNat]?) fun x => off + cz k ≤ x.cs.length ∧ x.isAg = true ∧ K .ud [c] [c] (s.h.set c (.row e t (xs.set n.toNat (.ag (put x.cs off z.cs)))))
      | _ => False
    | _ => False
  | .bld zs ps => oK (fillA zs (ps.map fun p => (p.1, p.2.1, s.x p.2.2))) fun cs => K (mkAg cs) [] [] s.h
  | .bsl e t ps => oK (toVs s.h (ps.map s.x)) fun zs => (∀ z ∈ zs, shape e z) ∧ K (.sli s.h.length) [] [s.h.length] (s.h ++ [.row e t zs])
  | .box x => oK (s.x x).cells? fun cs => K (.ptr s.h.length 0) [] [s.h.length] (s.h ++ [.box cs])
  | .al zs => K (.ptr s.h.length 0) [] [s.h.length] (s.h ++ [.box zs])
  | .mk e t b z n c => match s.x n, s.x c with
    | .v (.int _ l), .v (.int _ c') => (0 ≤ l ∧ l ≤ c' ∧ b * c' ≤ 140737488355328 ∧ c' ≤ 140737488355328) ∧ K (.sli s.h.length) [] [s.h.length] (s.h ++ [.row e t (List.replicate l.toNat z)])
    | _, _ => False
  | .ssub x lo hi => match s.x x with
    | .v (.str b) => oK (optI s 0 lo) fun l => oK (optI s b.size hi) fun h => (0 ≤ l ∧ l ≤ h ∧ h ≤ b.size) ∧ K (.v (.str (b.extract l.toNat h.toNat))) [] [] s.h
    | _ => False
  | .sub e x lo hi => match s.x x with
    | .v (.sl e' xs) => e' = e ∧ oK (optI s 0 lo) fun l => oK (optI s xs.length hi) fun h => (0 ≤ l ∧ l ≤ h ∧ h ≤ xs.length) ∧ K (.v (.sl e ((xs.drop l.toNat).take (h.toNat - l.toNat)))) [] [] s.h
    | .sli c => match s.h[c]? with
      | some (.fz e' xs) => e' = e ∧ oK (optI s 0 lo) fun l => oK (optI s xs.length hi) fun h => (0 ≤ l ∧ l ≤ h ∧ h ≤ xs.length) ∧ K (.v (.sl e ((xs.drop l.toNat).take (h.toNat - l.toNat)))) [c] [] s.h
      | some (.row e' t xs) => e' = e ∧ oK (optI s 0 lo) fun l => oK (optI s xs.length hi) fun h => (0 ≤ l ∧ l ≤ h ∧ h ≤ xs.length) ∧
          if m 1000000 = true ∧ lo.isNone = true then K (.sli s.h.length) [c] [c, s.h.length] (s.h.set c .gone ++ [.row e t (xs.take h.toNat)]) else K (.vw c e l.toNat (h.toNat - l.toNat)) [c] [] s.h
      | _ => False
    | _ => False
  | .ext x i => match s.x x with
    | .tu vs => oK vs[i]? fun a => K a [] [] s.h
    | _ => False
  | .call f xs => if m f = true then callM P s K f (xs.map s.x) else callS P s K f (xs.map s.x)
  | .callv x xs => match s.x x with
    | .fn f cs => callS P s K f (xs.map s.x ++ cs)
    | _ => False
  | .len true x => match s.x x with
    | .v (.str b) => K (.v (.int .i64 b.size)) [] [] s.h
    | _ => False
  | .len false x => oK (rowOf s.h (s.x x)) fun (_, xs, rd) => K (.v (.int .i64 xs.length)) rd [] s.h
  | .app e t b x y => oK (rowOf s.h (s.x y)) fun (e0, ys, rd) => e0 = e ∧ match s.x x with
    | .nil _ => (ys ≠ [] ∧ ys.length * b ≤ 140737488355328 ∧ ys.length ≤ 140737488355328) ∧ K (.sli s.h.length) rd [s.h.length] (s.h ++ [.row e t ys])
    | .sli c => match s.h[c]? with
      | some (.row e' t' xs) => e' = e ∧ t' = t ∧ c ∉ rd ∧ ((xs.length + ys.length) * b ≤ 140737488355328 ∧ xs.length + ys.length ≤ 140737488355328) ∧
          K (.sli s.h.length) (c :: rd) [c, s.h.length] (s.h.set c .gone ++ [.row e t (xs ++ ys)])
      | _ => False
    | _ => False
  | .mm g x y => match s.x x, s.x y with
    | .v (.int k a), .v (.int _ b) => K (.v (.int k (if g = true then (if b > a then b else a) else (if b < a then b else a)))) [] [] s.h
    | _, _ => False
  | .nck x => match s.x x with
    | .ptr i o => K (.ptr i o) [] [] s.h
    | .ep i e n o => K (.ep i e n o) [] [] s.h
    | .fq cs => K (.fq cs) [] [] s.h
    | .fp e y => K (.fp e y) [] [] s.h
    | _ => False
  | .clr e z x => match s.x x with
    | .vw c e' lo n => match s.h[c]? with
      | some (.row e0 t xs) => e0 = e ∧ e' = e ∧ lo + n ≤ xs.length ∧ K (.tu []) [c] [c] (s.h.set c (.row e t (xs.take lo ++ List.replicate n z ++ xs.drop (lo + n))))
      | _ => False
    | _ => False
  | .mkm => K (.mp s.h.length) [] [s.h.length] (s.h ++ [.map [] []])
  | .mlk n ts z ok x i => match s.x i with
    | .v k => match s.x x with
      | .mp c => match s.h[c]? with
        | some (.map _ es) => keyed n ts k es ∧ K (lkA z ok (mget k es)) [c] [] s.h
        | _ => False
      | _ => False
    | _ => False
  | .mup n ts x i y => match s.x i with
    | .v k => match s.x x with
      | .mp c => match s.h[c]? with
        | some (.map _ es) => oK (toV s.h (s.x y)) fun v => keyed n ts k es ∧ K .ud [c] [c] (s.h.set c (.map [] (mput k v es)))
        | _ => False
      | _ => False
    | _ => False
  | .b2s x => oK (rowOf s.h (s.x x)) fun (e, xs, rd) => e = 0 ∧ oK (unBs xs) fun l => K (.v (.str ⟨l.toArray⟩)) rd [] s.h
  | .aps t b x y => match s.x y with
    | .v (.str bs) => match s.x x with
      | .nil _ => (0 < bs.size ∧ bs.size * b ≤ 140737488355328 ∧ bs.size ≤ 140737488355328) ∧ K (.sli s.h.length) [] [s.h.length] (s.h ++ [.row 0 t (bsV bs)])
      | .sli c => match s.h[c]? with
        | some (.row e' t' xs) => e' = 0 ∧ t' = t ∧ ((xs.length + bs.size) * b ≤ 140737488355328 ∧ xs.length + bs.size ≤ 140737488355328) ∧ K (.sli s.h.length) [c] [c, s.h.length] (s.h.set c .gone ++ [.row 0 t (xs ++ bsV bs)])
        | _ => False
      | _ => False
    | _ => False
  | .mln x => match s.x x with
    | .mp c => match s.h[c]? with
      | some (.map _ es) => K (.v (.int .i64 es.length)) [c] [] s.h
      | _ => False
    | _ => False
  | .bad => False
  | .mkf f xs => oK (frzH s.h (capJ s.h (xs.map s.x)) 0 s.h) fun h' => oK (capAs h' (xs.map s.x)) fun cs => K (.fn f cs) [] (capJ s.h (xs.map s.x)) h'

def aAO (P : Program) (m : Nat → Bool) (s : St) (K : St → List Nat → List Nat → Prop) (o : AO) : Prop := match o.g with
  | none => aop P m s (fun r rd wr h => K (St.set ⟨s.t, h⟩ o.d r) rd wr) o.o
  | some (g, b) => match s.x (.t g) with
    | .v (.bool t) => (t = b → aop P m (s.setX (.t g) (.v (.bool b))) (fun r rd wr h => K (St.set ⟨s.t.set g (.v (.bool b)), h⟩ o.d r) rd wr) o.o) ∧
        (t = !b → K (St.set ⟨s.t.set g (.v (.bool !b)), s.h⟩ o.d .ud) [] [])
    | .ud => K (s.set o.d .ud) [] []
    | _ => False

abbrev FP := List (List Nat × List Nat)

def aops (P : Program) (m : Nat → Bool) : List AO → St → FP → (St → FP → Prop) → Prop
  | [], s, f, K => K s f
  | o :: os, s, f, K => aAO P m s (fun s' rd wr => aops P m os s' (f ++ [(rd, wr)]) K) o

/-- Two operations of which neither waits for the other do not touch what one of them writes. -/
def fpOk (tb : List Nat) (f : FP) : Bool :=
  (List.range f.length).all fun j => (List.range j).all fun i =>
    (tb.getD j 0).testBit i ||
    (match f[i]?, f[j]? with
     | some (ri, wi), some (rj, wj) => wi.all (fun k => !rj.contains k && !wj.contains k) && wj.all (fun k => !ri.contains k)
     | _, _ => true)

inductive Ex where
  | nrm
  | exit (id : Nat)
  | ret

/-! ### a loop's head: the slots that nobody reads any more are forgotten, and so are the chunks that no slot names; the others are numbered in the order in which they are named -/
mutual
def A.rn (L : List Nat) : A → A
  | .sli i => match posL i L with
    | some j => .sli j
    | none => .un
  | .ptr i o => match posL i L with
    | some j => .ptr j o
    | none => .un
  | .ep i e k o => match posL i L with
    | some j => .ep j e k o
    | none => .un
  | .vw i e lo n => match posL i L with
    | some j => .vw j e lo n
    | none => .un
  | .mp i => match posL i L with
    | some j => .mp j
    | none => .un
  | .ag cs => .ag (rns L cs)
  | .tu cs => .tu (rns L cs)
  | .fn f cs => if cs.all A.shut = true then .fn f cs else .un
  | .un => .un
  | .ud => .ud
  | .v x => .v x
  | .nil e => .nil e
  | .fp e x => .fp e x
  | .fq cs => .fq cs
def rns (L : List Nat) : List A → List A
  | [] => []
  | a :: az => a.rn L :: rns L az
end
def Ck.rn (L : List Nat) : Ck → Ck
  | .box cs => .box (rns L cs)
  | c => c
def addI (i : Nat) (L : List Nat) : List Nat := if L.contains i = true then L else L ++ [i]
mutual
def idsA : A → List Nat → List Nat
  | .sli i, L => addI i L
  | .ptr i _, L => addI i L
  | .ep i _ _ _, L => addI i L
  | .vw i _ _ _, L => addI i L
  | .mp i, L => addI i L
  | .ag cs, L => idsAs cs L
  | .tu cs, L => idsAs cs L
  | _, L => L
def idsAs : List A → List Nat → List Nat
  | [], L => L
  | a :: az, L => idsAs az (idsA a L)
end
def idB : Bool → A → List Nat → List Nat
  | true, a, L => idsA a L
  | false, _, L => L
def idsT : List Bool → List A → List Nat → List Nat
  | _, [], L => L
  | [], _ :: _, L => L
  | b :: bs, a :: t, L => idsT bs t (idB b a L)
def idsH (h : List Ck) : List Nat → List Nat → List Nat
  | [], L => L
  | i :: is, L => idsH h is (match h[i]? with | some (.box cs) => idsAs cs L | _ => L)
def idsH2 (h : List Ck) (L : List Nat) : List Nat := idsH h L L
def upTo : Nat → List Nat
  | 0 => []
  | n + 1 => upTo n ++ [n]
def rnB (L : List Nat) : Bool → A → A
  | true, a => a.rn L
  | false, _ => .un
def cmpT (L : List Nat) : List Bool → List A → List A
  | _, [] => []
  | [], _ :: t => .un :: cmpT L [] t
  | b :: bs, a :: t => rnB L b a :: cmpT L bs t
def cmpL (ks : List Bool) (s : St) (L : List Nat) : St := ⟨cmpT L ks s.t, L.map fun i => (s.h.getD i .gone).rn L⟩
/-- ks: the slots that are read again. -/
def St.cmp (k0 : Nat) (ks : List Bool) (s : St) : St := cmpL ks s (idsH2 s.h (idsH2 s.h (idsT ks s.t (upTo k0))))

def awp (P : Program) (m : Nat → Bool) (k0 : Nat) : AC → (Ex → St → Prop) → St → Prop
  | .skip, Q, s => Q .nrm s
  | .ops os, Q, s => aops P m os s [] fun s' _ => Q .nrm s'
  | .reg tb os, Q, s => aops P m os s [] fun s' f => fpOk tb f = true ∧ Q .nrm s'
  | .seq a b, Q, s => awp P m k0 a (fun e s' => match e with | .nrm => awp P m k0 b Q s' | e => Q e s') s
  | .cond c a b, Q, s => match s.x c with
    | .v (.bool t) => (t = true → awp P m k0 a Q (s.setX c (.v (.bool true)))) ∧ (t = false → awp P m k0 b Q (s.setX c (.v (.bool false))))
    | _ => False
  | .block id b, Q, s => awp P m k0 b (fun e s' => match e with | .exit i => if i = id then Q .nrm s' else Q e s' | e => Q e s') s
  | .loop b, Q, s => ∃ (I : Nat → St → Prop) (ks : List Bool), (∃ n, I n (s.cmp k0 ks)) ∧ ∀ n s, I n s → awp P m k0 b (fun e s' => match e with | .nrm => ∃ j, j < n ∧ I j (s'.cmp k0 ks) | e => Q e s') s
  | .exit id, Q, s => Q (.exit id) s
  | .ret, Q, s => Q .ret s
  | .bad, _, _ => False

/-! ### a function -/
/-- A result, as the code reads it. -/
def resA (s : St) : Nat × Option Nat → Option A
  | (t, none) => some (s.t.getD t .un)
  | (t, some k) => match s.t.getD t .un with
    | .ptr c off => match s.h[c]? with
      | some (.box cs) => if k = 0 then cs[off]? else if off + k ≤ cs.length then some (mkAg ((cs.drop off).take k)) else none
      | _ => none
    | _ => none
def resAs (s : St) : List (Nat × Option Nat) → Option (List A)
  | [] => some []
  | r :: rs => match resA s r, resAs s rs with
    | some a, some az => some (a :: az)
    | _, _ => none
mutual
/-- A result that is handed over as a plain value; sel: the chunks that are handed over as the caller's own. -/
def retV (h : List Ck) (sel : List Nat) : A → Option V
  | .v x => some x
  | .nil e => some (.sl e [])
  | .sli i => if sel.contains i = true then none else match h[i]? with
    | some (.row e _ xs) => some (.sl e xs)
    | some (.fz e xs) => some (.sl e xs)
    | _ => none
  | .vw i e lo n => if sel.contains i = true then none else match h[i]? with
    | some (.row e' _ xs) => if e' = e ∧ lo + n ≤ xs.length then some (.sl e ((xs.drop lo).take n)) else none
    | _ => none
  | .ag cs => (retVs h sel cs).map .ag
  | _ => none
def retVs (h : List Ck) (sel : List Nat) : List A → Option (List V)
  | [] => some []
  | a :: az => match retV h sel a, retVs h sel az with
    | some x, some xs => some (x :: xs)
    | _, _ => none
end
mutual
/-- The slot's contents a are handed over as r. -/
def okR (h : List Ck) (sel : List Nat) : A → A → Prop
  | a, .v x => retV h sel a = some x
  | .nil e, .nil e' => e = e'
  | .sli i, .sli j => sel[j]? = some i
  | .ptr i o, .ptr j o' => sel[j]? = some i ∧ o = o'
  | .ag az, .ag rs => okRs h sel az rs
  | _, _ => False
def okRs (h : List Ck) (sel : List Nat) : List A → List A → Prop
  | [], [] => True
  | a :: az, r :: rs => okR h sel a r ∧ okRs h sel az rs
  | _, _ => False
end
mutual
def newIds (n : Nat) : A → A → List Nat
  | .sli i, .sli _ => if i < n then [] else [i]
  | .ptr i _, .ptr _ _ => if i < n then [] else [i]
  | .ag az, .ag rs => newIdss n az rs
  | _, _ => []
def newIdss (n : Nat) : List A → List A → List Nat
  | a :: az, r :: rs => newIds n a r ++ newIdss n az rs
  | _, _ => []
end
def unR (n : Nat) (r : A) : List A := if n = 1 then [r] else match r with
  | .tu rs => rs
  | _ => []
def retOk (s : St) (n : Nat) (rs : List (Nat × Option Nat)) (r : A) (hs : List Ck) : Prop :=
  oK (resAs s rs) fun az => hs = (List.range n ++ newIdss n az (unR rs.length r)).map (fun i => s.h.getD i .gone) ∧ (List.range n ++ newIdss n az (unR rs.length r)).Nodup ∧ hs.all Ck.okM = true ∧ (rs.length = 1 ∨ r = .tu (unR rs.length r)) ∧
    okRs s.h (List.range n ++ newIdss n az (unR rs.length r)) az (unR rs.length r)
/-- The conditions under which a call of the function comes back with r and the rows hs. -/
def awpF (P : Program) (m : Nat → Bool) (f : AF) (az : List A) (hin : List Ck) (r : A) (hs : List Ck) : Prop :=
  awp P m hin.length f.body (fun e s => match e with
    | .exit _ => False
    | _ => retOk s hin.length f.rs r hs) ⟨az ++ List.replicate (f.nt - az.length) .ud, hin⟩
end Go.Proofs.YtgkhakhkebjbpaaEv
namespace Go.Proofs.YtgkhakhkebjbpaaEv
open Go

section
variable {P : Program} {D : Nat → Option Ck} {μ : Nat → Nat × Nat} {S : Nat → Prop} {w : World}

theorem Rep.cellsNe {x : V} {u : Value} (h : Rep S w x u) (hx : x.isAg = false) : u.oneCell' = true ∧ u.cells = #[u] := by
  cases x <;> simp only [Rep] at h <;> first | (cases hx) | skip
  · subst h; exact ⟨rfl, rfl⟩
  · subst h; exact ⟨rfl, rfl⟩
  · subst h; exact ⟨rfl, rfl⟩
  · obtain ⟨A, c, rfl, _⟩ := h; exact ⟨rfl, rfl⟩
theorem one_cells {u : Value} (h : u.oneCell' = true) : u.cells = #[u] := by
  cases u <;> first | rfl | (cases h)
theorem RepL.one : ∀ {cs : List V} {us : List Value}, RepL S w cs us → us.length = cs.length ∧ ∀ z ∈ us, z.oneCell' = true
  | [], us, h => by simp only [RepL] at h; subst h; simp
  | c :: cs, us, h => by
    obtain ⟨u, us', rfl, h1, h2, h3⟩ := h
    obtain ⟨h4, h5⟩ := RepL.one h3
    refine ⟨by simp [h4], fun z hz => ?_⟩
    rcases List.mem_cons.1 hz with rfl | hz
    · exact (h2.cellsNe h1).1
    · exact h5 z hz
theorem RepL.get : ∀ {cs : List V} {us : List Value} {i : Nat} {c : V}, RepL S w cs us → cs[i]? = some c → ∃ u, us[i]? = some u ∧ Rep S w c u ∧ c.isAg = false
  | [], _, _, _, _, h => by simp at h
  | c :: cs, _, 0, d, ⟨u, us', h1, h2, h3, h4⟩, h => by simp at h; subst h; exact ⟨u, by simp [h1], h3, h2⟩
  | c :: cs, _, i + 1, d, ⟨u, us', h1, h2, h3, h4⟩, h => by
    obtain ⟨v, h5, h6⟩ := RepL.get (i := i) h4 (by simpa using h)
    exact ⟨v, by simpa [h1] using h5, h6⟩
theorem RepL.drop : ∀ {cs : List V} {us : List Value} (n : Nat), RepL S w cs us → RepL S w (cs.drop n) (us.drop n)
  | _, _, 0, h => h
  | [], us, n + 1, h => by simp only [RepL] at h; subst h; simp [RepL]
  | c :: cs, us, n + 1, ⟨u, us', h1, _, _, h4⟩ => by subst h1; exact RepL.drop n h4
theorem RepL.take : ∀ {cs : List V} {us : List Value} (n : Nat), RepL S w cs us → RepL S w (cs.take n) (us.take n)
  | _, _, 0, h => by simp [RepL]
  | [], us, n + 1, h => by simp only [RepL] at h; subst h; simp [RepL]
  | c :: cs, us, n + 1, ⟨u, us', h1, h2, h3, h4⟩ => by subst h1; exact ⟨u, us'.take n, rfl, h2, h3, RepL.take n h4⟩

theorem ARs.length : ∀ {az : List A} {us : List Value}, ARs D μ S w az us → us.length = az.length
  | [], us, h => by simp only [ARs] at h; subst h; rfl
  | a :: az, us, h => by obtain ⟨u, us', rfl, _, h2⟩ := h; simp [ARs.length h2]
theorem ARs.get : ∀ {az : List A} {us : List Value} {i : Nat} {c : A}, ARs D μ S w az us → az[i]? = some c → ∃ u, us[i]? = some u ∧ AR D μ S w c u
  | [], _, _, _, _, h => by simp at h
  | c :: cs, _, 0, d, ⟨u, us', h1, h3, h4⟩, h => by simp at h; subst h; exact ⟨u, by simp [h1], h3⟩
  | c :: cs, _, i + 1, d, ⟨u, us', h1, h3, h4⟩, h => by
    obtain ⟨v, h5, h6⟩ := ARs.get (i := i) h4 (by simpa using h)
    exact ⟨v, by simpa [h1] using h5, h6⟩
theorem ARs.drop : ∀ {cs : List A} {us : List Value} (n : Nat), ARs D μ S w cs us → ARs D μ S w (cs.drop n) (us.drop n)
  | _, _, 0, h => h
  | [], us, n + 1, h => by simp only [ARs] at h; subst h; simp [ARs]
  | c :: cs, us, n + 1, ⟨u, us', h1, _, h4⟩ => by subst h1; exact ARs.drop n h4
theorem ARs.take : ∀ {cs : List A} {us : List Value} (n : Nat), ARs D μ S w cs us → ARs D μ S w (cs.take n) (us.take n)
  | _, _, 0, h => by simp [ARs]
  | [], us, n + 1, h => by simp only [ARs] at h; subst h; simp [ARs]
  | c :: cs, us, n + 1, ⟨u, us', h1, h3, h4⟩ => by subst h1; exact ⟨u, us'.take n, rfl, h3, ARs.take n h4⟩
theorem ARs.append : ∀ {az bs : List A} {us vs : List Value}, ARs D μ S w az us → ARs D μ S w bs vs → ARs D μ S w (az ++ bs) (us ++ vs)
  | [], _, us, _, h, k => by simp only [ARs] at h; subst h; exact k
  | a :: az, _, us, vs, ⟨u, us', h1, h2, h3⟩, k => by subst h1; exact ⟨u, us' ++ vs, rfl, h2, ARs.append h3 k⟩

theorem RepL.toARs : ∀ {cs : List V} {us : List Value}, RepL S w cs us → ARs D μ S w (cs.map .v) us
  | [], _, h => h
  | c :: cs, _, ⟨u, us', h1, _, h3, h4⟩ => ⟨u, us', h1, h3, RepL.toARs h4⟩
theorem allV_rep : ∀ {az : List A} {xs : List V} {us : List Value}, allV az = some xs → ARs D μ S w az us → (∀ z ∈ us, z.oneCell' = true) → RepL S w xs us
  | [], xs, us, h, k, _ => by simp only [allV, Option.some.injEq] at h; subst h; exact k
  | .v x :: az, xs, us, h, ⟨u, us', h1, h2, h3⟩, hz => by
    simp only [allV, Option.map_eq_some_iff] at h
    obtain ⟨ys, h4, rfl⟩ := h
    subst h1
    refine ⟨u, us', rfl, ?_, h2, allV_rep h4 h3 (fun z hz' => hz z (List.mem_cons_of_mem _ hz'))⟩
    cases x <;> first | rfl | skip
    obtain ⟨vs, rfl, _⟩ := h2
    have := hz _ List.mem_cons_self
    simp [Value.oneCell'] at this
  | .un :: _, _, _, h, _, _ | .ud :: _, _, _, h, _, _ | .nil _ :: _, _, _, h, _, _ | .sli _ :: _, _, _, h, _, _ | .ptr _ _ :: _, _, _, h, _, _ | .ep _ _ _ _ :: _, _, _, h, _, _ | .vw _ _ _ _ :: _, _, _, h, _, _ | .mp _ :: _, _, _, h, _, _ | .fp _ _ :: _, _, _, h, _, _ | .fq _ :: _, _, _, h, _, _ | .ag _ :: _, _, _, h, _, _ | .tu _ :: _, _, _, h, _, _ | .fn _ _ :: _, _, _, h, _, _ => by simp [allV] at h
theorem mkAg_ar {az : List A} {us : List Value} (h : ARs D μ S w az us) (hz : ∀ z ∈ us, z.oneCell' = true) : AR D μ S w (mkAg az) (.agg us.toArray) := by
  unfold mkAg
  split
  · rename_i xs hx
    exact ⟨us, rfl, allV_rep hx h hz⟩
  · exact ⟨us, rfl, h, hz⟩

theorem cells?_ar {a : A} {cs : List A} {u : Value} (h : a.cells? = some cs) (k : AR D μ S w a u) : ARs D μ S w cs u.cells.toList ∧ ∀ z ∈ u.cells.toList, z.oneCell' = true := by
  have one : ∀ a u, AR D μ S w a u → u.oneCell' = true → u.cells = #[u] → [a] = cs → ARs D μ S w cs u.cells.toList ∧ ∀ z ∈ u.cells.toList, z.oneCell' = true := by
    rintro a u k h1 h2 rfl
    rw [h2]
    exact ⟨⟨u, [], rfl, k, rfl⟩, by simp [h1]⟩
  cases a <;> simp only [A.cells?, Option.some.injEq] at h <;> first | (cases h; done) | skip
  · rename_i x
    cases x <;> simp only [A.cells?, Option.some.injEq] at h
    case ag ds =>
      obtain ⟨us, rfl, h2⟩ := k
      subst h
      exact ⟨by simpa [Value.cells] using RepL.toARs h2, by simpa [Value.cells] using h2.one.2⟩
    all_goals
      have h3 := Rep.cellsNe (x := _) k rfl
      exact one _ u k h3.1 h3.2 h
  · rename_i e
    have : u = .slice none 0 0 := k
    subst this
    exact one _ _ k rfl rfl h
  case ag =>
    obtain ⟨us, rfl, h1, h2⟩ := k
    subst h
    exact ⟨by simpa [Value.cells] using h1, by simpa [Value.cells] using h2⟩
  all_goals
    have hu : u.oneCell' = true := by
      first
        | exact k.1
        | (obtain ⟨_, rfl⟩ := k; rfl)
        | (obtain ⟨a, y, rfl, _⟩ := k; rfl)
        | (obtain ⟨us, rfl, _⟩ := k; rfl)
        | (rw [k.1]; rfl)
    exact one _ u k hu (one_cells hu) h

/-! ### operands -/
theorem cA1_ar {e : Nat} {v : Value} {b : A} (h : cA1 e v = some b) : AR D μ S w b v ∧ v.oneCell' = true := by
  unfold cA1 at h
  split at h
  · cases h; exact ⟨rfl, rfl⟩
  · cases h; exact ⟨rfl, rfl⟩
  · cases h; exact ⟨rfl, rfl⟩
  · cases h; exact ⟨rfl, rfl⟩
  · rename_i f x y
    split at h
    · rename_i hxy
      cases h
      obtain rfl := Array.eq_empty_of_size_eq_zero hxy.1
      obtain rfl := Array.eq_empty_of_size_eq_zero hxy.2
      exact ⟨⟨[], rfl, rfl⟩, rfl⟩
    · cases h
  · cases h; exact ⟨trivial, rfl⟩
  · cases h
theorem cAs_ar : ∀ {vs : List Value} {ks : List Nat} {az : List A}, cAs ks vs = some az → ARs D μ S w az vs ∧ ∀ z ∈ vs, z.oneCell' = true
  | [], _, az, h => by simp only [cAs, Option.some.injEq] at h; subst h; exact ⟨rfl, by simp⟩
  | v :: vs, ks, az, h => by
    simp only [cAs] at h
    split at h
    · rename_i b bs h1 h2
      cases h
      obtain ⟨h3, h4⟩ := cA1_ar (D := D) (μ := μ) (S := S) (w := w) h1
      obtain ⟨h5, h6⟩ := cAs_ar h2
      exact ⟨⟨v, vs, rfl, h3, h5⟩, fun z hz => by
        rcases List.mem_cons.1 hz with rfl | hz
        · exact h4
        · exact h6 z hz⟩
    · cases h
theorem cA_ar {t : TypeId} {v : Value} {b : A} (h : cA P t v = some b) : AR D μ S w b v := by
  unfold cA at h
  split at h
  · rename_i cs
    simp only [Option.map_eq_some_iff] at h
    obtain ⟨az, h1, rfl⟩ := h
    obtain ⟨h2, h3⟩ := cAs_ar (D := D) (μ := μ) (S := S) (w := w) h1
    simpa using mkAg_ar h2 h3
  · exact (cA1_ar h).1

variable {s : St} {a : Act}
/-- The slots of the operands hold what the evaluator says. -/
def Opn (D : Nat → Option Ck) (μ : Nat → Nat × Nat) (S : Nat → Prop) (w : World) (s : St) (a : Act) (xs : Array Operand) : Prop :=
  ∀ x ∈ xs, ∀ i, x = .tmp i → AR D μ S w (s.t.getD i .un) (a.tmps.getD i undef)
theorem cX_ar {t : TypeId} {x : Operand} {y : X} {xs : Array Operand} (h : cX P t x = some y) (H : Opn D μ S w s a xs) (hx : x ∈ xs) : AR D μ S w (s.x y) (a.eval x) := by
  cases x <;> simp only [cX, Option.some.injEq, Option.map_eq_some_iff, reduceCtorEq] at h
  · subst h
    exact H _ hx _ rfl
  · obtain ⟨b, h1, rfl⟩ := h
    exact cA_ar h1
  · subst h
    exact ⟨[], rfl, rfl⟩

def Snd (P : Program) (o : Oper) (s : St) (r : A) (rd wr : List Nat) (h' : List Ck) : Prop :=
  s.h.length ≤ h'.length ∧ (∀ i, i ∉ wr → h'[i]? = s.h[i]?) ∧
  ∀ w0 O0 S0 D μ S w (a : Act), Rl w0 O0 S0 D μ S w → (∀ i, i ∈ rd ∨ i ∈ wr → D i = s.h[i]?) → Opn D μ S w s a o.op.operands →
    ∀ (next : Act → World → Prop) Q, (∀ w' u D' μ' S', Rl w0 O0 S0 D' μ' S' w' → (∀ i, D' i = if i ∈ wr then h'[i]? else D i) → Tr D μ S w D' μ' S' w' → AR D' μ' S' w' r u → next (a.put o.dst u) w') → o.wp P a w next Q

theorem Snd.pure {o : Oper} {r : A} {rd : List Nat} (H : ∀ w0 O0 S0 D μ S w (a : Act), Rl w0 O0 S0 D μ S w → (∀ i ∈ rd, D i = s.h[i]?) → Opn D μ S w s a o.op.operands →
    ∃ u, (execOp a.eval o).run P w = .ok (.value u) w ∧ AR D μ S w r u) : Snd P o s r rd [] s.h := by
  refine ⟨Nat.le_refl _, fun _ _ => rfl, fun w0 O0 S0 D μ S w a R hD hO next Q hn => ?_⟩
  obtain ⟨u, h1, h2⟩ := H w0 O0 S0 D μ S w a R (fun i hi => hD i (.inl hi)) hO
  unfold Oper.wp
  rw [h1]
  exact hn w u D μ S R (fun i => by simp) Tr.refl h2

abbrev Good (P : Program) (o : Oper) (s : St) (K : KT) : Prop := ∃ r rd wr h', K r rd wr h' ∧ Snd P o s r rd wr h'

variable {K : KT} {m : Nat → Bool} {dst : Option Tmp} {ty : TypeId} {pos : String} {after : Array Edge} {guard : Option (Nat × Bool)}

theorem good_mv {x : Operand} {y : X} (hc : cX P ty x = some y) (h : aop P m s K (.mv y)) : Good P ⟨dst, .move x, ty, pos, after, guard⟩ s K :=
  ⟨_, _, _, _, h, Snd.pure fun _ _ _ D μ S w a _ _ hO => ⟨a.eval x, by simp [execOp], cX_ar hc hO (by simp [Op.operands])⟩⟩
theorem good_as {x : Operand} {y : X} (hc : cX P ty x = some y) (h : aop P m s K (.mv y)) : Good P ⟨dst, .assign x, ty, pos, after, guard⟩ s K :=
  ⟨_, _, _, _, h, Snd.pure fun _ _ _ D μ S w a _ _ hO => ⟨a.eval x, by simp [execOp], cX_ar hc hO (by simp [Op.operands])⟩⟩
theorem AR.boolv {b : Bool} {u : Value} (h : AR D μ S w (.v (.bool b)) u) : u = .bool b := h
theorem AR.intv {k : IntKind} {n : Int} {u : Value} (h : AR D μ S w (.v (.int k n)) u) : u = .int k n := h
theorem AR.strv {b : ByteArray} {u : Value} (h : AR D μ S w (.v (.str b)) u) : u = .string b := h
theorem good_pick {c x y : Operand} {c' x' y' : X} (h1 : cX P ty c = some c') (h2 : cX P ty x = some x') (h3 : cX P ty y = some y') (h : aop P m s K (.pick c' x' y')) : Good P ⟨dst, .pick c x y, ty, pos, after, guard⟩ s K := by
  simp only [aop] at h
  split at h
  · rename_i t ht
    cases t
    · refine ⟨_, _, _, _, h.2 rfl, Snd.pure fun _ _ _ D μ S w a _ _ hO => ⟨a.eval y, ?_, cX_ar h3 hO (by simp [Op.operands])⟩⟩
      have := cX_ar h1 hO (by simp [Op.operands])
      rw [ht] at this
      simp [execOp, this.boolv, asBool]
    · refine ⟨_, _, _, _, h.1 rfl, Snd.pure fun _ _ _ D μ S w a _ _ hO => ⟨a.eval x, ?_, cX_ar h2 hO (by simp [Op.operands])⟩⟩
      have := cX_ar h1 hO (by simp [Op.operands])
      rw [ht] at this
      simp [execOp, this.boolv, asBool]
  · exact h.elim

def V.val? : V → Option Value
  | .int k n => some (.int k n)
  | .bool b => some (.bool b)
  | .str s => some (.string s)
  | _ => none

def sv : V → Value
  | .int k n => .int k n
  | .bool b => .bool b
  | .str s => .string s
  | _ => undef
theorem beq_bytes (a b : ByteArray) : (a.toList == b.toList) = decide (a = b) := by
  rw [ByteArray.toList_eq, ByteArray.toList_eq]
  obtain ⟨⟨x⟩⟩ := a
  obtain ⟨⟨y⟩⟩ := b
  rw [Bool.eq_iff_iff]
  simp
theorem run_binI {op : BinOp} {k : IntKind} {a b : Int} {r : V} {t : TypeId} (h : binI op k a b = some r) : (binOp op t (.int k a) (.int k b)).run P w = .ok (sv r) w ∧ Rep S w r (sv r) := by
  cases op <;> simp only [binI, Option.some.injEq, reduceCtorEq] at h
  case quo =>
    split at h
    · cases h
    · rename_i hb
      cases h
      exact ⟨by simp [binOp, Op.intDiv, hb, sv], rfl⟩
  case rem =>
    split at h
    · cases h
    · rename_i hb
      cases h
      exact ⟨by simp [binOp, Op.intDiv, hb, sv], rfl⟩
  all_goals
    subst h
    refine ⟨?_, rfl⟩
    simp only [binOp, ne_eq, not_true_eq_false, if_false, Op.intArith, Op.intBits, Op.intCmp, sv]
    rfl
theorem run_binS {op : BinOp} {a b : ByteArray} {r : V} {t : TypeId} (h : binS op a b = some r) : (binOp op t (.string a) (.string b)).run P w = .ok (sv r) w ∧ Rep S w r (sv r) := by
  cases op <;> simp only [binS, Option.some.injEq, reduceCtorEq] at h
  case add =>
    split at h
    · rename_i hb
      cases h
      refine ⟨?_, rfl⟩
      have : ¬ (((a.size + b.size : Nat) : Int) > IntKind.i64.max) := by
        have : IntKind.i64.max = 9223372036854775807 := by decide
        rw [this]; omega
      simp only [binOp, Op.stringOp, this, if_false]
      rfl
    · cases h
  all_goals
    subst h
    refine ⟨?_, rfl⟩
    simp only [binOp, Op.stringOp, beq_bytes, sv]
    rfl
theorem run_binF {op : BinOp} {x y : A} {u v : Value} {r : V} {t : TypeId} (h : binF op x y = some r) (hx : AR D μ S w x u) (hy : AR D μ S w y v) :
    ∃ z, (binOp op t u v).run P w = .ok z w ∧ Rep S w r z ∧ (∀ X Y, (eqGuard op t X Y u v).run P w = .ok () w) := by
  unfold binF at h
  split at h
  · rename_i k a j b
    rw [hx.intv, hy.intv]
    have hg : ∀ X Y, (eqGuard op t X Y (.int k a) (.int j b)).run P w = .ok () w := by intro X Y; unfold eqGuard; split <;> simp
    split at h
    · split at h
      · cases h
      · rename_i hb
        cases h
        exact ⟨sv (.int k _), by simp [binOp, Op.shift, hb, sv], rfl, hg⟩
    · split at h
      · cases h
      · rename_i hb
        cases h
        exact ⟨sv (.int k _), by simp [binOp, Op.shift, hb, sv], rfl, hg⟩
    · split at h
      · rename_i hk
        subst hk
        obtain ⟨h1, h2⟩ := run_binI (P := P) (S := S) (w := w) (t := t) h
        exact ⟨_, h1, h2, hg⟩
      · cases h
  · rename_i a b
    rw [hx.strv, hy.strv]
    obtain ⟨h1, h2⟩ := run_binS (P := P) (S := S) (w := w) (t := t) h
    exact ⟨_, h1, h2, by intro X Y; unfold eqGuard; split <;> simp⟩
  · cases h
theorem good_bin {op : BinOp} {t u : TypeId} {x y : Operand} {x' y' : X} (h1 : cX P t x = some x') (h2 : cX P u y = some y') (h : aop P m s K (.bin op x' y')) : Good P ⟨dst, .binOp op t x y u, ty, pos, after, guard⟩ s K := by
  obtain ⟨r, hr, hK⟩ := h
  refine ⟨_, _, _, _, hK, Snd.pure fun _ _ _ D μ S w a _ _ hO => ?_⟩
  obtain ⟨z, h3, h4, h5⟩ := run_binF (P := P) (t := t) hr (cX_ar h1 hO (by simp [Op.operands])) (cX_ar h2 hO (by simp [Op.operands]))
  exact ⟨z, by simp [execOp, h3, h5], h4⟩
theorem good_un {op : UnOp} {t : TypeId} {x : Operand} {x' : X} (h1 : cX P t x = some x') (h : aop P m s K (.un op x')) : Good P ⟨dst, .unOp op t x, ty, pos, after, guard⟩ s K := by
  obtain ⟨r, hr, hK⟩ := h
  refine ⟨_, _, _, _, hK, Snd.pure fun _ _ _ D μ S w a _ _ hO => ?_⟩
  have h2 := cX_ar h1 hO (by simp [Op.operands])
  unfold unF at hr
  split at hr
  · rename_i hx
    rw [hx] at h2
    cases hr
    exact ⟨_, by simp [execOp, h2.intv, Op.unary, Op.intArith], rfl⟩
  · rename_i hx
    rw [hx] at h2
    cases hr
    exact ⟨_, by simp [execOp, h2.boolv, Op.unary], rfl⟩
  · cases hr
theorem good_conv {t d : TypeId} {k k' : IntKind} {x : Operand} {x' : X} (ht : P.underlying t = some (.int k')) (hd : P.underlying d = some (.int k)) (h1 : cX P t x = some x') (h : aop P m s K (.conv k x')) : Good P ⟨dst, .convert t d x, ty, pos, after, guard⟩ s K := by
  simp only [aop] at h
  split at h
  · rename_i n hx
    refine ⟨_, _, _, _, h, Snd.pure fun _ _ _ D μ S w a _ _ hO => ?_⟩
    have h2 := cX_ar h1 hO (by simp [Op.operands])
    rw [hx] at h2
    exact ⟨_, by simp [execOp, h2.intv, convert, run_underlying ht, run_underlying hd, Conv.intToInt], rfl⟩
  · exact h.elim
end
end Go.Proofs.YtgkhakhkebjbpaaEv
namespace Go.Proofs.YtgkhakhkebjbpaaEv
open Go

section
variable {P : Program} {D : Nat → Option Ck} {μ : Nat → Nat × Nat} {S : Nat → Prop} {w : World} {s : St} {a : Act} {K : KT} {m : Nat → Bool} {dst : Option Tmp} {ty : TypeId} {pos : String} {after : Array Edge} {guard : Option (Nat × Bool)}

theorem RepAt.get {Ad : Option Addr} {e : Nat} : ∀ {xs : List V} {i j : Nat} {x : V}, RepAt S w Ad e i xs → xs[j]? = some x →
    ∃ b u, Ad = some b ∧ S b.block ∧ Rep S w x u ∧ u.cells.size = cz e ∧ x.isAg = (e != 0) ∧ ∀ (k : Nat) y, u.cells[k]? = some y → w.cell? (b.add ((i + j) * cz e + k)) = some y
  | [], _, _, _, _, h => by simp at h
  | x :: xs, i, 0, _, ⟨⟨b, u, h1, h2, h3, h4, h5, h6⟩, _⟩, h => by simp at h; subst h; exact ⟨b, u, h1, h2, h3, h4, h5, h6⟩
  | x :: xs, i, j + 1, y, ⟨_, h7⟩, h => by
    obtain ⟨b, u, h1, h2, h3, h4, h5, h6⟩ := RepAt.get (j := j) h7 (by simpa using h)
    exact ⟨b, u, h1, h2, h3, h4, h5, fun k z hz => by rw [show i + (j + 1) = i + 1 + j by omega]; exact h6 k z hz⟩
theorem cz_pos (e : Nat) : 0 < cz e := by unfold cz; split <;> omega
theorem RepR.length {e : Nat} : ∀ {xs : List V} {us : List Value}, RepR S w e xs us → us.length = xs.length * cz e
  | [], us, h => by simp only [RepR] at h; subst h; simp
  | x :: xs, us, ⟨u, us', h1, _, h3, _, h5⟩ => by subst h1; simp [h3, RepR.length h5, Nat.succ_mul, Nat.add_comm]
theorem RepR.get {e : Nat} : ∀ {xs : List V} {us : List Value} {j : Nat} {x : V}, RepR S w e xs us → xs[j]? = some x →
    ∃ u, Rep S w x u ∧ u.cells.size = cz e ∧ x.isAg = (e != 0) ∧ ∀ (k : Nat) y, u.cells[k]? = some y → us[j * cz e + k]? = some y
  | [], _, _, _, _, h => by simp at h
  | x :: xs, _, 0, _, ⟨u, us', h1, h2, h3, h4, _⟩, h => by
    simp at h
    subst h
    subst h1
    refine ⟨u, h2, h3, h4, fun k y hy => ?_⟩
    have hk : k < u.cells.size := (Array.getElem?_eq_some_iff.1 hy).1
    rw [List.getElem?_append_left (by simp; omega)]
    simpa using hy
  | x :: xs, _, j + 1, y, ⟨u, us', h1, _, h3, _, h5⟩, h => by
    obtain ⟨v, h6, h7, h8, h9⟩ := RepR.get (j := j) h5 (by simpa using h)
    subst h1
    refine ⟨v, h6, h7, h8, fun k z hz => ?_⟩
    rw [List.getElem?_append_right (by simp [h3, Nat.succ_mul]; omega)]
    simpa [h3, Nat.succ_mul, show j * cz e + cz e + k - cz e = j * cz e + k by omega] using h9 k z hz

/-! ### types -/
theorem kindOf_spec {t : TypeId} {k : Nat} (h : kindOf P t = some k) : ∃ d i, P.underlying t = some d ∧ P.info? t = some i ∧ i.size = cz k ∧ (∀ w, (isAgg t).run P w = .ok (k != 0) w) ∧ ((k = 0 ∧ ∀ fs, d ≠ .struct fs) ∨ (k ≠ 0 ∧ ∃ fs, d = .struct fs)) := by
  unfold kindOf at h
  split at h
  · rename_i fs i h1 h2
    split at h
    · cases h
    · rename_i h3
      cases h
      refine ⟨_, i, h1, h2, by simp [cz, h3], fun w => ?_, .inr ⟨h3, fs, rfl⟩⟩
      simp [isAgg, run_underlying h1, h3]
  · cases h
  · rename_i d i h1 h2 hs ha
    split at h
    · rename_i h3
      cases h
      refine ⟨d, i, hs, ha, by simp [cz, h3], fun w => ?_, .inl ⟨rfl, fun fs he => h1 fs he⟩⟩
      simp only [isAgg, Sem.run_bind, run_underlying hs, Result.andThen_ok]
      rfl
    · cases h
  · cases h
theorem kindOf_size {t : TypeId} {k : Nat} (h : kindOf P t = some k) (w : World) : (sizeOf t).run P w = .ok (cz k) w := by
  obtain ⟨d, i, _, h2, h3, _⟩ := kindOf_spec h
  simp [sizeOf, typeInfo, h2, h3]
theorem kindOf_agg {t : TypeId} {k : Nat} (h : kindOf P t = some k) (w : World) : (isAgg t).run P w = .ok (k != 0) w := by
  obtain ⟨d, i, _, _, _, h4, _⟩ := kindOf_spec h
  exact h4 w
theorem elemKind_spec {t e t' : Nat} (h : elemKind P t = some (e, t')) : P.underlying t = some (.slice t') ∧ kindOf P t' = some e := by
  unfold elemKind at h
  split at h
  · rename_i u hu
    simp only [Option.map_eq_some_iff, Prod.mk.injEq] at h
    obtain ⟨k, h1, rfl, rfl⟩ := h
    exact ⟨hu, h1⟩
  · cases h

theorem Rep.agg {x : V} {u : Value} (h : Rep S w x u) (hx : x.isAg = true) : ∃ cs us, x = .ag cs ∧ u = .agg us.toArray ∧ RepL S w cs us := by
  cases x <;> first | (cases hx; done) | skip
  obtain ⟨us, h1, h2⟩ := h
  exact ⟨_, us, rfl, h1, h2⟩

theorem run_loadAt {t : TypeId} {k : Nat} {b : Addr} {cs : List Value} (h : kindOf P t = some k) (hc : ∀ (j : Nat) z, cs[j]? = some z → w.cell? (b.add j) = some z) (hl : cs.length = cz k) :
    (k ≠ 0 → (Instr.loadAt t (.pointer (some b))).run P w = .ok (.agg cs.toArray) w) ∧ (k = 0 → ∃ u, cs = [u] ∧ (Instr.loadAt t (.pointer (some b))).run P w = .ok u w) := by
  have ha := kindOf_agg h w
  have hs := kindOf_size h w
  refine ⟨fun hk => ?_, fun hk => ?_⟩
  · have h1 : (k != 0) = true := by simpa using hk
    have := run_loadCells_list (P := P) w b cs hc
    rw [hl] at this
    simp [Instr.loadAt, Instr.sureAddr, loadVar, ha, h1, hs, this]
  · subst hk
    obtain ⟨u, rfl⟩ : ∃ u, cs = [u] := by
      match cs, hl with
      | [u], _ => exact ⟨u, rfl⟩
    have := hc 0 u rfl
    rw [show b.add 0 = b from rfl] at this
    exact ⟨u, rfl, by simp [Instr.loadAt, Instr.sureAddr, loadVar, ha, this]⟩

theorem take_get {α : Type} {l : List α} {n j : Nat} {z : α} (h : (l.take n)[j]? = some z) : l[j]? = some z := by
  rw [List.getElem?_take] at h
  split at h
  · exact h
  · cases h

/-! ### addresses -/
theorem base_add (b n m : Nat) : (Addr.add ⟨b, 0, none⟩ n).add m = Addr.add ⟨b, 0, none⟩ (n + m) := Deep.add_add _ _ _
theorem fieldsOf'_spec {t : TypeId} {f : Nat} {g : Field} (h : (fieldsOf' P t)[f]? = some g) : ∃ fs, P.underlying t = some (.struct fs) ∧ fs[f]? = some g := by
  unfold fieldsOf' at h
  split at h
  · rename_i fs hfs; exact ⟨fs, hfs, h⟩
  · simp at h
theorem run_fieldAt {t : TypeId} {f : Nat} {g : Field} {k : Nat} {b : Addr} (h : (fieldsOf' P t)[f]? = some g) (hk : kindOf P g.type = some k) :
    (Instr.fieldAt t (.pointer (some b)) f).run P w = .ok (.pointer (some (b.add g.offset))) w := by
  obtain ⟨fs, ht, hf⟩ := fieldsOf'_spec h
  have h1 := kindOf_size hk w
  have h2 : cz k ≠ 0 := by have := cz_pos k; omega
  simp [Instr.fieldAt, run_underlying ht, hf, Instr.sureAddr, fieldPlace, h1, h2]
theorem good_fa {t : TypeId} {x : Operand} {x' : X} {f : Nat} {g : Field} {k : Nat} (h1 : cX P 0 x = some x') (h2 : (fieldsOf' P t)[f]? = some g) (h3 : kindOf P g.type = some k) (h : aop P m s K (.fa x' g.offset)) : Good P ⟨dst, .fieldAddr t x f, ty, pos, after, guard⟩ s K := by
  simp only [aop] at h
  split at h
  · rename_i i o hx
    refine ⟨_, _, _, _, h, Snd.pure fun _ _ _ D μ S w a _ _ hO => ?_⟩
    have h4 := cX_ar h1 hO (by simp [Op.operands])
    rw [hx] at h4
    obtain ⟨h5, h6⟩ := h4
    exact ⟨_, by simp [execOp, h6, run_fieldAt h2 h3]; rfl, h5, by rw [base_add]⟩
  · rename_i i e n o hx
    refine ⟨_, _, _, _, h, Snd.pure fun _ _ _ D μ S w a _ _ hO => ?_⟩
    have h4 := cX_ar h1 hO (by simp [Op.operands])
    rw [hx] at h4
    obtain ⟨h5, h6⟩ := h4
    exact ⟨_, by simp [execOp, h6, run_fieldAt h2 h3]; rfl, h5, by rw [base_add, Nat.add_assoc]⟩
  · rename_i cs hx
    refine ⟨_, _, _, _, h, Snd.pure fun _ _ _ D μ S w a _ _ hO => ?_⟩
    have h4 := cX_ar h1 hO (by simp [Op.operands])
    rw [hx] at h4
    obtain ⟨b, us, h5, h6, h7, h8⟩ := h4
    exact ⟨_, by simp [execOp, h5, run_fieldAt h2 h3]; rfl, _, us.drop g.offset, rfl, by rw [add_block]; exact h6, h7.drop _, fun j z hz => by
      rw [Deep.add_add]; exact h8 _ z (by simpa using hz)⟩
  · rename_i e cs hx
    refine ⟨_, _, _, _, h, Snd.pure fun _ _ _ D μ S w a _ _ hO => ?_⟩
    have h4 := cX_ar h1 hO (by simp [Op.operands])
    rw [hx] at h4
    obtain ⟨b, y, h5, h6, ⟨us, rfl, h7⟩, _, _, h8⟩ := h4
    exact ⟨_, by simp [execOp, h5, run_fieldAt h2 h3]; rfl, _, us.drop g.offset, rfl, by rw [add_block]; exact h6, h7.drop _, fun j z hz => by
      rw [Deep.add_add]; exact h8 _ z (by simpa [Value.cells] using hz)⟩
  · exact h.elim

theorem run_indexAt {t e t' : Nat} {b : Addr} {len c : Nat} {k : IntKind} {n : Int} (h : elemKind P t = some (e, t')) (h0 : 0 ≤ n) (hn : n < len) :
    (Instr.indexAt t (.slice (some b) len c) (.int k n)).run P w = .ok (.pointer (some (b.add (n.toNat * cz e)))) w := by
  obtain ⟨h1, h2⟩ := elemKind_spec h
  have h3 := kindOf_size h2 w
  simp [Instr.indexAt, asIntOf, run_underlying h1, h0, hn, h3]
theorem rep_index {t e t' : Nat} {xs : List V} {u : Value} {k : IntKind} {n : Int} {y : V} (h : elemKind P t = some (e, t')) (h0 : 0 ≤ n) (hn : n < xs.length) (hu : Rep S w (.sl e xs) u) (hy : xs[n.toNat]? = some y) :
    ∃ z, (Instr.indexAt t u (.int k n)).run P w = .ok z w ∧ AR D μ S w (.fp e y) z := by
  obtain ⟨Ad, c, rfl, _, _, h3⟩ := hu
  obtain ⟨b, v, rfl, h5, h6, h7, h8, h9⟩ := h3.get hy
  exact ⟨_, run_indexAt h h0 hn, b.add (n.toNat * cz e), v, rfl, by rw [add_block]; exact h5, h6, h7, h8, fun j z hz => by
    rw [Deep.add_add]; simpa using h9 j z hz⟩
theorem AR.sli_row {i e t : Nat} {xs : List V} {u : Value} (h : AR D μ S w (.sli i) u) (hD : D i = some (.row e t xs)) : u = .slice (some ⟨(μ i).1, 0, none⟩) xs.length (μ i).2 := by
  unfold AR at h; rw [hD] at h; exact h.2
theorem AR.sli_fz {i e : Nat} {xs : List V} {u : Value} (h : AR D μ S w (.sli i) u) (hD : D i = some (.fz e xs)) : Rep S w (.sl e xs) u := by
  unfold AR at h; rw [hD] at h; exact h.2
theorem good_ia {t e t' : Nat} {x i : Operand} {x' i' : X} (h1 : cX P t x = some x') (h2 : cX P 0 i = some i') (h3 : elemKind P t = some (e, t')) (h : aop P m s K (.ia x' i' e)) : Good P ⟨dst, .indexAddr t x i, ty, pos, after, guard⟩ s K := by
  simp only [aop] at h
  split at h
  · rename_i k n hi
    split at h
    · rename_i e' xs hx
      obtain ⟨rfl, ⟨h0, hn⟩, hK⟩ := h
      obtain ⟨y, hy⟩ : ∃ y, xs[n.toNat]? = some y := ⟨_, List.getElem?_eq_getElem (by omega)⟩
      refine ⟨_, _, _, _, hK y hy, Snd.pure fun _ _ _ D μ S w a _ _ hO => ?_⟩
      have h4 := cX_ar h1 hO (by simp [Op.operands])
      have h5 := cX_ar h2 hO (by simp [Op.operands])
      rw [hx] at h4
      rw [hi] at h5
      obtain ⟨z, h6, h7⟩ := rep_index (D := D) (μ := μ) (k := k) h3 h0 hn h4 hy
      exact ⟨z, by simp [execOp, h5.intv, h6], h7⟩
    · rename_i c hx
      split at h
      · rename_i e' xs hc
        obtain ⟨rfl, ⟨h0, hn⟩, hK⟩ := h
        obtain ⟨y, hy⟩ : ∃ y, xs[n.toNat]? = some y := ⟨_, List.getElem?_eq_getElem (by omega)⟩
        refine ⟨_, _, _, _, hK y hy, Snd.pure fun _ _ _ D μ S w a _ hD hO => ?_⟩
        have h4 := cX_ar h1 hO (by simp [Op.operands])
        have h5 := cX_ar h2 hO (by simp [Op.operands])
        rw [hx] at h4
        rw [hi] at h5
        obtain ⟨z, h6, h7⟩ := rep_index (D := D) (μ := μ) (k := k) h3 h0 hn (h4.sli_fz ((hD c (by simp)).trans hc)) hy
        exact ⟨z, by simp [execOp, h5.intv, h6], h7⟩
      · rename_i e' _ xs hc
        obtain ⟨rfl, ⟨h0, hn⟩, hK⟩ := h
        refine ⟨_, _, _, _, hK, Snd.pure fun _ _ _ D μ S w a _ hD hO => ?_⟩
        have h4 := cX_ar h1 hO (by simp [Op.operands])
        have h5 := cX_ar h2 hO (by simp [Op.operands])
        rw [hx] at h4
        rw [hi] at h5
        have h6 := h4.sli_row ((hD c (by simp)).trans hc)
        exact ⟨_, by simp [execOp, h5.intv, h6, run_indexAt h3 h0 hn]; rfl, ⟨_, (hD c (by simp)).trans hc⟩, by simp⟩
      · exact h.elim
    · rename_i c e' lo n' hx
      split at h
      · rename_i e'' _ xs hc
        obtain ⟨⟨rfl, rfl, hle⟩, ⟨h0, hn⟩, hK⟩ := h
        refine ⟨_, _, _, _, hK, Snd.pure fun _ _ _ D μ S w a _ hD hO => ?_⟩
        have h4 := cX_ar h1 hO (by simp [Op.operands])
        have h5 := cX_ar h2 hO (by simp [Op.operands])
        rw [hx] at h4
        rw [hi] at h5
        obtain ⟨b, h6, _, h7⟩ := h4
        have h8 := h7 (by omega)
        subst h8
        refine ⟨_, by simp [execOp, h5.intv, h6, run_indexAt h3 h0 hn]; rfl, ⟨_, (hD c (by simp)).trans hc⟩, ?_⟩
        rw [Deep.add_add, ← Nat.add_mul, show ((lo : Int) + n).toNat = lo + n.toNat by omega, Nat.add_zero]
      · exact h.elim
    · exact h.elim
  · exact h.elim

theorem good_si {t : TypeId} {x i : Operand} {x' i' : X} (ht : P.underlying t = some .string) (h1 : cX P t x = some x') (h2 : cX P 0 i = some i') (h : aop P m s K (.si x' i')) : Good P ⟨dst, .index t x i, ty, pos, after, guard⟩ s K := by
  simp only [aop] at h
  split at h
  · rename_i b k n hx hi
    obtain ⟨⟨h0, hn⟩, hK⟩ := h
    have hlt : n.toNat < b.size := by omega
    have hy : b[n.toNat]? = some b[n.toNat] := getElem?_pos b n.toNat hlt
    refine ⟨_, _, _, _, hK _ hy, Snd.pure fun _ _ _ D μ S w a _ _ hO => ?_⟩
    have h4 := cX_ar h1 hO (by simp [Op.operands])
    have h5 := cX_ar h2 hO (by simp [Op.operands])
    rw [hx] at h4
    rw [hi] at h5
    exact ⟨_, by simp [execOp, h4.strv, h5.intv, Instr.index, asIntOf, run_underlying ht, h0, hy], rfl⟩
  · exact h.elim

theorem good_ext {x : Operand} {x' : X} {i : Nat} (h1 : cX P 0 x = some x') (h : aop P m s K (.ext x' i)) : Good P ⟨dst, .extract x i, ty, pos, after, guard⟩ s K := by
  simp only [aop] at h
  split at h
  · rename_i vs hx
    obtain ⟨b, hb, hK⟩ := h
    refine ⟨_, _, _, _, hK, Snd.pure fun _ _ _ D μ S w a _ _ hO => ?_⟩
    have h4 := cX_ar h1 hO (by simp [Op.operands])
    rw [hx] at h4
    obtain ⟨us, h5, h6⟩ := h4
    obtain ⟨u, h7, h8⟩ := h6.get hb
    exact ⟨u, by simp [execOp, h5, Instr.extract, h7], h8⟩
  · exact h.elim

theorem good_nck {x : Operand} {x' : X} (h1 : cX P 0 x = some x') (h : aop P m s K (.nck x')) : Good P ⟨dst, .nilCheck x, ty, pos, after, guard⟩ s K := by
  simp only [aop] at h
  split at h <;> first | exact h.elim | skip
  all_goals
    rename_i hx
    refine ⟨_, _, _, _, h, Snd.pure fun _ _ _ D μ S w a _ _ hO => ?_⟩
    have h4 := cX_ar h1 hO (by simp [Op.operands])
    rw [hx] at h4
    have h5 : ∃ b, a.eval x = .pointer (some b) := by
      first
        | exact ⟨_, h4.2⟩
        | (obtain ⟨b, _, h6, _⟩ := h4; exact ⟨b, h6⟩)
    obtain ⟨b, h5⟩ := h5
    exact ⟨.pointer (some b), by simp [execOp, h5], by rw [← h5]; exact h4⟩

theorem good_mm {g : Bool} {bn : Builtin} {x y : Operand} {x' y' : X} {ats : Array TypeId} (hb : g = true ∧ bn = .max ∨ g = false ∧ bn = .min) (h1 : cX P 0 x = some x') (h2 : cX P 0 y = some y') (h : aop P m s K (.mm g x' y')) :
    Good P ⟨dst, .call ⟨.builtin bn, #[x, y], ats⟩, ty, pos, after, guard⟩ s K := by
  simp only [aop] at h
  split at h
  · rename_i k n j m hx hy
    refine ⟨_, _, _, _, h, Snd.pure fun _ _ _ D μ S w a _ _ hO => ?_⟩
    have h4 := cX_ar h1 hO (by simp [Op.operands, Call.operands])
    have h5 := cX_ar h2 hO (by simp [Op.operands, Call.operands])
    rw [hx] at h4
    rw [hy] at h5
    rcases hb with ⟨rfl, rfl⟩ | ⟨rfl, rfl⟩
    · exact ⟨_, by simp [execOp, resolve, invoke, builtin, h4.intv, h5.intv, Builtin.max_, Builtin.max2], rfl⟩
    · exact ⟨_, by simp [execOp, resolve, invoke, builtin, h4.intv, h5.intv, Builtin.min_, Builtin.min2], rfl⟩
  · exact h.elim

theorem AR.rowOf {h : List Ck} {b : A} {u : Value} {e : Nat} {xs : List V} {rd : List Nat} (hr : rowOf h b = some (e, xs, rd)) (hD : ∀ i ∈ rd, D i = h[i]?) (k : AR D μ S w b u) : ∃ Ad c, u = .slice Ad xs.length c := by
  unfold Go.Proofs.YtgkhakhkebjbpaaEv.rowOf at hr
  split at hr
  · cases hr; obtain ⟨Ad, c, h1, _⟩ := k; exact ⟨Ad, c, h1⟩
  · cases hr; exact ⟨none, 0, k⟩
  · split at hr
    · rename_i i e t ys hi
      cases hr
      exact ⟨_, _, k.sli_row ((hD _ (by simp)).trans hi)⟩
    · rename_i i e ys hi
      cases hr
      obtain ⟨Ad, c, h1, _⟩ := k.sli_fz ((hD _ (by simp)).trans hi)
      exact ⟨Ad, c, h1⟩
    · cases hr
  · split at hr
    · split at hr
      · rename_i hle
        cases hr
        obtain ⟨a, h1, _⟩ := k
        exact ⟨some a, _, by rw [h1, List.length_take, List.length_drop, Nat.min_eq_left (by omega)]⟩
      · cases hr
    · cases hr
  · cases hr
end
end Go.Proofs.YtgkhakhkebjbpaaEv
namespace Go.Proofs.YtgkhakhkebjbpaaEv
open Go

section
variable {P : Program} {D : Nat → Option Ck} {μ : Nat → Nat × Nat} {S : Nat → Prop} {w : World} {s : St} {a : Act} {K : KT} {m : Nat → Bool} {dst : Option Tmp} {ty : TypeId} {pos : String} {after : Array Edge} {guard : Option (Nat × Bool)}

theorem cellsAg {k : Nat} {x : V} {z : Value} (h : Rep S w x z) (hk : x.isAg = (k != 0)) : (k ≠ 0 → z = .agg z.cells) ∧ (k = 0 → z.cells = #[z]) := by
  refine ⟨fun h0 => ?_, fun h0 => ?_⟩
  · obtain ⟨cs, us, rfl, rfl, _⟩ := h.agg (by rw [hk]; simpa using h0)
    rfl
  · exact (h.cellsNe (by rw [hk]; simp [h0])).2
/-- A load of memory that holds the cells of z. -/
theorem load_whole {t k : Nat} {b : Addr} {x : V} {z : Value} (h : kindOf P t = some k) (hr : Rep S w x z) (hx : x.isAg = (k != 0)) (hn : z.cells.size = cz k) (hc : ∀ (j : Nat) y, z.cells[j]? = some y → w.cell? (b.add j) = some y) :
    (Instr.loadAt t (.pointer (some b))).run P w = .ok z w := by
  obtain ⟨h1, h2⟩ := run_loadAt (w := w) (b := b) (cs := z.cells.toList) h (fun j y hy => hc j y (by simpa using hy)) (by simpa using hn)
  obtain ⟨h3, h4⟩ := cellsAg hr hx
  by_cases hk : k = 0
  · obtain ⟨u, h5, h6⟩ := h2 hk
    rw [h4 hk] at h5
    simp at h5
    rw [h6, h5]
  · rw [h1 hk]
    conv => rhs; rw [h3 hk]
/-- A load of some of the cells us from off on. -/
theorem load_part {t k : Nat} {b : Addr} {us : List Value} {off : Nat} (h : kindOf P t = some k) (hc : ∀ (j : Nat) y, us[j]? = some y → w.cell? (b.add j) = some y) (hl : off + cz k ≤ us.length) :
    (k ≠ 0 → (Instr.loadAt t (.pointer (some (b.add off)))).run P w = .ok (.agg ((us.drop off).take k).toArray) w) ∧ (k = 0 → ∃ u, us[off]? = some u ∧ (Instr.loadAt t (.pointer (some (b.add off)))).run P w = .ok u w) := by
  obtain ⟨h1, h2⟩ := run_loadAt (w := w) (b := b.add off) (cs := (us.drop off).take (cz k)) h (fun j y hy => by
    rw [Deep.add_add]; exact hc _ y (by simpa using take_get hy)) (by simp; omega)
  refine ⟨fun hk => ?_, fun hk => ?_⟩
  · rw [h1 hk]; simp [cz, hk]
  · obtain ⟨u, h3, h4⟩ := h2 hk
    refine ⟨u, ?_, h4⟩
    have : ((us.drop off).take (cz k))[0]? = some u := by rw [h3]; rfl
    simpa using take_get this
theorem row_cells {b : Nat} {cur : Array Value} {e : Nat} {fr : Nat × Nat} (h : w.heap[b]? = some (.cells cur e fr)) : ∀ (j : Nat) y, cur.toList[j]? = some y → w.cell? (Addr.add ⟨b, 0, none⟩ j) = some y := by
  intro j y hy
  rw [add_base, cell_of_row w b j cur e fr h]
  simpa using hy
theorem RepL.part {cs : List V} {us : List Value} {off k : Nat} (h : RepL S w cs us) : AR D μ S w (.v (.ag ((cs.drop off).take k))) (.agg ((us.drop off).take k).toArray) := ⟨_, rfl, (h.drop off).take k⟩
theorem ARs.part {cs : List A} {us : List Value} {off k : Nat} (h : ARs D μ S w cs us) (hz : ∀ z ∈ us, z.oneCell' = true) : AR D μ S w (mkAg ((cs.drop off).take k)) (.agg ((us.drop off).take k).toArray) :=
  mkAg_ar ((h.drop off).take k) (fun z hz' => hz z (List.mem_of_mem_drop (List.mem_of_mem_take hz')))

theorem good_ld {t k : Nat} {x : Operand} {x' : X} (h1 : cX P 0 x = some x') (h2 : kindOf P t = some k) (h : aop P m s K (.ld x' k)) : Good P ⟨dst, .load t x, ty, pos, after, guard⟩ s K := by
  have run : ∀ (a : Act) w u b, a.eval x = .pointer (some b) → (Instr.loadAt t (.pointer (some b))).run P w = .ok u w → (execOp a.eval ⟨dst, .load t x, ty, pos, after, guard⟩).run P w = .ok (.value u) w := by
    intro a w u b h3 h4
    simp [execOp, h3, h4]
  simp only [aop] at h
  split at h
  · rename_i e y hx
    obtain ⟨rfl, hK⟩ := h
    refine ⟨_, _, _, _, hK, Snd.pure fun _ _ _ D μ S w a _ _ hO => ?_⟩
    have h4 := cX_ar h1 hO (by simp [Op.operands])
    rw [hx] at h4
    obtain ⟨b, z, h5, _, h7, h8, h9, h10⟩ := h4
    exact ⟨z, run a w z b h5 (load_whole h2 h7 h9 h8 h10), h7⟩
  · rename_i cs hx
    split at h
    · rename_i hk
      subst hk
      obtain ⟨y, hy, hK⟩ := h
      refine ⟨_, _, _, _, hK, Snd.pure fun _ _ _ D μ S w a _ _ hO => ?_⟩
      have h4 := cX_ar h1 hO (by simp [Op.operands])
      rw [hx] at h4
      obtain ⟨b, us, h5, _, h7, h8⟩ := h4
      obtain ⟨u, h9, h10, _⟩ := h7.get hy
      have hl : 0 < us.length := (List.getElem?_eq_some_iff.1 h9).1
      obtain ⟨v, h11, h12⟩ := (load_part (off := 0) h2 h8 (by rw [show cz 0 = 1 from rfl]; omega)).2 rfl
      rw [h9] at h11
      cases h11
      exact ⟨u, run a w u b h5 h12, h10⟩
    · rename_i hk
      obtain ⟨hl, hK⟩ := h
      refine ⟨_, _, _, _, hK, Snd.pure fun _ _ _ D μ S w a _ _ hO => ?_⟩
      have h4 := cX_ar h1 hO (by simp [Op.operands])
      rw [hx] at h4
      obtain ⟨b, us, h5, _, h7, h8⟩ := h4
      have := (load_part (off := 0) h2 h8 (by rw [h7.one.1, show cz k = k by simp [cz, hk]]; omega)).1 hk
      exact ⟨_, run a w _ b h5 this, by have := RepL.part (D := D) (μ := μ) (off := 0) h7 (k := k); simpa using this⟩
  · rename_i c off hx
    split at h
    · rename_i cs hc
      split at h
      · rename_i hk
        subst hk
        obtain ⟨y, hy, hK⟩ := h
        refine ⟨_, _, _, _, hK, Snd.pure fun _ _ _ D μ S w a R hD hO => ?_⟩
        have h4 := cX_ar h1 hO (by simp [Op.operands])
        rw [hx] at h4
        have h5 := R.ck c
        unfold CR at h5
        rw [(hD c (by simp)).trans hc] at h5
        obtain ⟨cur, t', h6, h7, h8⟩ := h5
        obtain ⟨u, h9, h10⟩ := h7.get hy
        have hl : off < cur.toList.length := (List.getElem?_eq_some_iff.1 h9).1
        obtain ⟨v, h11, h12⟩ := (load_part (off := off) h2 (row_cells h6) (by rw [show cz 0 = 1 from rfl]; omega)).2 rfl
        rw [h9] at h11
        cases h11
        exact ⟨u, run a w u _ h4.2 h12, h10⟩
      · rename_i hk
        obtain ⟨hl, hK⟩ := h
        refine ⟨_, _, _, _, hK, Snd.pure fun _ _ _ D μ S w a R hD hO => ?_⟩
        have h4 := cX_ar h1 hO (by simp [Op.operands])
        rw [hx] at h4
        have h5 := R.ck c
        unfold CR at h5
        rw [(hD c (by simp)).trans hc] at h5
        obtain ⟨cur, t', h6, h7, h8⟩ := h5
        have := (load_part (off := off) h2 (row_cells h6) (by rw [h7.length, show cz k = k by simp [cz, hk]]; omega)).1 hk
        exact ⟨_, run a w _ _ h4.2 this, h7.part h8⟩
    · rename_i cs hc
      split at h
      · rename_i hk
        subst hk
        obtain ⟨y, hy, hK⟩ := h
        refine ⟨_, _, _, _, hK, Snd.pure fun _ _ _ D μ S w a R hD hO => ?_⟩
        have h4 := cX_ar h1 hO (by simp [Op.operands])
        rw [hx] at h4
        have h5 := R.ck c
        unfold CR at h5
        rw [(hD c (by simp)).trans hc] at h5
        obtain ⟨_, us, h7, h8⟩ := h5
        obtain ⟨u, h9, h10, _⟩ := h7.get hy
        have hl : off < us.length := (List.getElem?_eq_some_iff.1 h9).1
        obtain ⟨v, h11, h12⟩ := (load_part (off := off) h2 h8 (by rw [show cz 0 = 1 from rfl]; omega)).2 rfl
        rw [h9] at h11
        cases h11
        exact ⟨u, run a w u _ h4.2 h12, h10⟩
      · rename_i hk
        obtain ⟨hl, hK⟩ := h
        refine ⟨_, _, _, _, hK, Snd.pure fun _ _ _ D μ S w a R hD hO => ?_⟩
        have h4 := cX_ar h1 hO (by simp [Op.operands])
        rw [hx] at h4
        have h5 := R.ck c
        unfold CR at h5
        rw [(hD c (by simp)).trans hc] at h5
        obtain ⟨_, us, h7, h8⟩ := h5
        have := (load_part (off := off) h2 h8 (by rw [h7.one.1, show cz k = k by simp [cz, hk]]; omega)).1 hk
        exact ⟨_, run a w _ _ h4.2 this, h7.part⟩
    · exact h.elim
  · rename_i c e n off hx
    split at h
    · rename_i e' t' xs hc
      obtain ⟨rfl, hn, hK⟩ := h
      obtain ⟨y, hy⟩ : ∃ y, xs[n.toNat]? = some y := ⟨_, List.getElem?_eq_getElem hn⟩
      replace hK := hK y hy
      have key : ∀ w0 O0 S0 D μ S w (a : Act), Rl w0 O0 S0 D μ S w → (∀ i ∈ [c], D i = s.h[i]?) → Opn D μ S w s a (Op.load t x).operands →
          ∃ z, a.eval x = .pointer (some (Addr.add ⟨(μ c).1, 0, none⟩ (n.toNat * cz e' + off))) ∧ Rep S w y z ∧ z.cells.size = cz e' ∧ y.isAg = (e' != 0) ∧ ∀ (j : Nat) v, z.cells[j]? = some v → w.cell? (Addr.add ⟨(μ c).1, 0, none⟩ (n.toNat * cz e' + j)) = some v := by
        intro w0 O0 S0 D μ S w a R hD hO
        have h4 := cX_ar h1 hO (by simp [Op.operands])
        rw [hx] at h4
        have h5 := R.ck c
        unfold CR at h5
        rw [(hD c (by simp)).trans hc] at h5
        obtain ⟨cur, us, h6, _, _, _, h7, h8⟩ := h5
        obtain ⟨z, h9, h10, h11, h12⟩ := h7.get hy
        refine ⟨z, h4.2, h9, h10, h11, fun j v hv => row_cells h6 _ v ?_⟩
        have := h12 j v hv
        rw [← h8] at this
        exact take_get this
      split at hK
      · rename_i hko
        obtain ⟨rfl, rfl⟩ := hko
        refine ⟨_, _, _, _, hK, Snd.pure fun w0 O0 S0 D μ S w a R hD hO => ?_⟩
        obtain ⟨z, h5, h6, h7, h8, h9⟩ := key w0 O0 S0 D μ S w a R hD hO
        refine ⟨z, run a w z _ h5 (load_whole h2 h6 h8 h7 (fun j v hv => ?_)), h6⟩
        rw [base_add]
        simpa using h9 j v hv
      · rename_i hko
        split at hK
        · rename_i cs
          split at hK
          · rename_i hk
            subst hk
            obtain ⟨q, hq, hK⟩ := hK
            refine ⟨_, _, _, _, hK, Snd.pure fun w0 O0 S0 D μ S w a R hD hO => ?_⟩
            obtain ⟨z, h5, ⟨us, rfl, h6⟩, h7, h8, h9⟩ := key w0 O0 S0 D μ S w a R hD hO
            obtain ⟨u, h10, h11, _⟩ := h6.get hq
            have hl : off < us.length := (List.getElem?_eq_some_iff.1 h10).1
            obtain ⟨v, h12, h13⟩ := (load_part (b := Addr.add ⟨(μ c).1, 0, none⟩ (n.toNat * cz e')) (us := us) (off := off) h2 (fun j v hv => by rw [base_add]; exact h9 j v (by simpa [Value.cells] using hv)) (by rw [show cz 0 = 1 from rfl]; omega)).2 rfl
            rw [h10] at h12
            cases h12
            rw [base_add] at h13
            exact ⟨u, run a w u _ h5 h13, h11⟩
          · rename_i hk
            obtain ⟨hl, hK⟩ := hK
            refine ⟨_, _, _, _, hK, Snd.pure fun w0 O0 S0 D μ S w a R hD hO => ?_⟩
            obtain ⟨z, h5, ⟨us, rfl, h6⟩, h7, h8, h9⟩ := key w0 O0 S0 D μ S w a R hD hO
            have := (load_part (b := Addr.add ⟨(μ c).1, 0, none⟩ (n.toNat * cz e')) (us := us) (off := off) h2 (fun j v hv => by rw [base_add]; exact h9 j v (by simpa [Value.cells] using hv)) (by rw [h6.one.1, show cz k = k by simp [cz, hk]]; omega)).1 hk
            rw [base_add] at this
            exact ⟨_, run a w _ _ h5 this, h6.part⟩
        · exact hK.elim
    · exact h.elim
  · exact h.elim

theorem run_part {t k : Nat} {us : List Value} {off : Nat} (h : kindOf P t = some k) :
    (k ≠ 0 → (part t us.toArray off).run P w = .ok (.agg ((us.drop off).take k).toArray) w) ∧ (k = 0 → ∀ u, us[off]? = some u → (part t us.toArray off).run P w = .ok u w) := by
  have ha := kindOf_agg h w
  have hs := kindOf_size h w
  refine ⟨fun hk => ?_, fun hk u hu => ?_⟩
  · have h1 : (k != 0) = true := by simpa using hk
    have h2 : cz k = k := by simp [cz, hk]
    simp [part, ha, h1, hs, h2, List.extract_eq_take_drop]
  · subst hk
    simp [part, ha, hu]

theorem good_fld {t k : Nat} {x : Operand} {x' : X} {f : Nat} {g : Field} (h1 : cX P t x = some x') (h2 : (fieldsOf' P t)[f]? = some g) (h3 : kindOf P g.type = some k) (h : aop P m s K (.fld x' g.offset k)) : Good P ⟨dst, .field t x f, ty, pos, after, guard⟩ s K := by
  obtain ⟨r, hr, hK⟩ := h
  obtain ⟨fs, ht, hf⟩ := fieldsOf'_spec h2
  have run : ∀ (a : Act) w us u, a.eval x = .agg us → (part g.type us g.offset).run P w = .ok u w → (execOp a.eval ⟨dst, .field t x f, ty, pos, after, guard⟩).run P w = .ok (.value u) w := by
    intro a w us u h4 h5
    simp [execOp, h4, Instr.field, run_underlying ht, hf, asAgg, h5]
  refine ⟨_, _, _, _, hK, Snd.pure fun _ _ _ D μ S w a _ _ hO => ?_⟩
  have h4 := cX_ar h1 hO (by simp [Op.operands])
  unfold fldF at hr
  split at hr
  · rename_i cs hx
    rw [hx] at h4
    obtain ⟨us, h5, h6⟩ := h4
    obtain ⟨h7, h8⟩ := run_part (P := P) (w := w) (us := us) (off := g.offset) h3
    split at hr
    · rename_i hk
      simp only [Option.map_eq_some_iff] at hr
      obtain ⟨c, hc, rfl⟩ := hr
      obtain ⟨u, h9, h10, _⟩ := h6.get hc
      exact ⟨u, run a w _ u h5 (h8 hk u h9), h10⟩
    · rename_i hk
      split at hr
      · cases hr
        exact ⟨_, run a w _ _ h5 (h7 hk), h6.part⟩
      · cases hr
  · rename_i cs hx
    rw [hx] at h4
    obtain ⟨us, h5, h6, h6'⟩ := h4
    obtain ⟨h7, h8⟩ := run_part (P := P) (w := w) (us := us) (off := g.offset) h3
    split at hr
    · rename_i hk
      obtain ⟨u, h9, h10⟩ := h6.get hr
      exact ⟨u, run a w _ u h5 (h8 hk u h9), h10⟩
    · rename_i hk
      split at hr
      · cases hr
        exact ⟨_, run a w _ _ h5 (h7 hk), h6.part h6'⟩
      · cases hr
  · cases hr

theorem good_slen {t : TypeId} {x : Operand} {x' : X} (ht : P.underlying t = some .string) (h1 : cX P t x = some x') (h : aop P m s K (.len true x')) :
    Good P ⟨dst, .call ⟨.builtin .len, #[x], #[t]⟩, ty, pos, after, guard⟩ s K := by
  simp only [aop] at h
  split at h
  · rename_i b hx
    refine ⟨_, _, _, _, h, Snd.pure fun _ _ _ D μ S w a _ _ hO => ?_⟩
    have h4 := cX_ar h1 hO (by simp [Op.operands, Call.operands])
    rw [hx] at h4
    exact ⟨_, by simp [execOp, resolve, invoke, builtin, h4.strv, Builtin.len_, run_underlying ht]; rfl, rfl⟩
  · exact h.elim
theorem good_len {t e : TypeId} {x : Operand} {x' : X} (ht : P.underlying t = some (.slice e)) (h1 : cX P t x = some x') (h : aop P m s K (.len false x')) :
    Good P ⟨dst, .call ⟨.builtin .len, #[x], #[t]⟩, ty, pos, after, guard⟩ s K := by
  obtain ⟨⟨e, xs, rd⟩, hr, hK⟩ := h
  refine ⟨_, _, _, _, hK, Snd.pure fun _ _ _ D μ S w a _ hD hO => ?_⟩
  have h4 := cX_ar h1 hO (by simp [Op.operands, Call.operands])
  obtain ⟨Ad, c, h5⟩ := h4.rowOf hr hD
  exact ⟨_, by simp [execOp, resolve, invoke, builtin, h5, Builtin.len_, run_underlying ht]; rfl, rfl⟩

/-! ### slicing -/
theorem RepAt.drop {Ad : Option Addr} {e : Nat} : ∀ {xs : List V} (n i : Nat), RepAt S w Ad e i xs → RepAt S w Ad e (i + n) (xs.drop n)
  | _, 0, _, h => h
  | [], n + 1, i, _ => by simp [RepAt]
  | x :: xs, n + 1, i, h => by
    have := RepAt.drop n (i + 1) h.2
    rw [show i + (n + 1) = i + 1 + n by omega]
    exact this
theorem RepAt.take {Ad : Option Addr} {e : Nat} : ∀ {xs : List V} (n i : Nat), RepAt S w Ad e i xs → RepAt S w Ad e i (xs.take n)
  | _, 0, _, _ => by simp [RepAt]
  | [], n + 1, i, _ => by simp [RepAt]
  | x :: xs, n + 1, i, h => ⟨h.1, RepAt.take n (i + 1) h.2⟩
theorem RepAt.shift {b : Addr} {e : Nat} (n : Nat) : ∀ {xs : List V} (i : Nat), RepAt S w (some b) e (i + n) xs → RepAt S w (some (b.add (n * cz e))) e i xs
  | [], _, _ => by simp [RepAt]
  | x :: xs, i, ⟨⟨c, u, h1, h2, h3, h4, h5, h6⟩, h7⟩ => by
    cases h1
    refine ⟨⟨_, u, rfl, by rw [add_block]; exact h2, h3, h4, h5, fun j y hy => ?_⟩, RepAt.shift n (i + 1) (by rw [show i + 1 + n = i + n + 1 by omega]; exact h7)⟩
    rw [Deep.add_add, show n * cz e + (i * cz e + j) = (i + n) * cz e + j by rw [Nat.add_mul]; omega]
    exact h6 j y hy
theorem Rep.cut {e : Nat} {xs : List V} {Ad : Option Addr} {c l h : Nat} (hr : Rep S w (.sl e xs) (.slice Ad xs.length c)) (hl : l ≤ h) (hh : h ≤ xs.length) :
    Rep S w (.sl e ((xs.drop l).take (h - l))) (.slice (if c = l then Ad else Ad.map (·.add (l * cz e))) (h - l) (c - l)) := by
  obtain ⟨Ad', c', h1, h2, h3, h4⟩ := hr
  cases h1
  have hlen : ((xs.drop l).take (h - l)).length = h - l := by simp; omega
  refine ⟨_, c - l, by rw [hlen], by rw [hlen]; omega, by omega, ?_⟩
  have h5 : RepAt S w Ad e (0 + l) (xs.drop l) := h4.drop l 0
  by_cases hc : c = l
  · have h0 : h - l = 0 := by omega
    rw [h0]; simp [RepAt]
  · rw [if_neg hc]
    cases Ad with
    | none =>
      match hx : (xs.drop l).take (h - l) with
      | [] => simp [RepAt]
      | x :: ys =>
        have := h5.take (h - l)
        rw [hx] at this
        obtain ⟨⟨b, _, hb, _⟩, _⟩ := this
        cases hb
    | some b => exact RepAt.shift l 0 (h5.take (h - l))

theorem run_sliceBounds {isSl : Bool} {len cap : Nat} {lo hi : Option Value} {l h : Int} (h1 : lo = none ∧ l = 0 ∨ ∃ k, lo = some (.int k l)) (h2 : hi = none ∧ h = len ∨ ∃ k, hi = some (.int k h)) (h0 : 0 ≤ l) (hlh : l ≤ h) (hh : h ≤ len) (hc : len ≤ cap) :
    (Instr.sliceBounds isSl len cap lo hi none).run P w = .ok (l.toNat, h.toNat, cap) w := by
  have e1 : 0 ≤ h ∧ h ≤ cap := by omega
  have e2 : 0 ≤ l ∧ l ≤ (h.toNat : Int) := by omega
  rcases h1 with ⟨rfl, rfl⟩ | ⟨k, rfl⟩ <;> rcases h2 with ⟨rfl, rfl⟩ | ⟨j, rfl⟩
  · simp [Instr.sliceBounds]
  · simp [Instr.sliceBounds, Instr.sliceBound, asIntOf, e1]
  · simp [Instr.sliceBounds, Instr.sliceBound, asIntOf, h0, show l ≤ (len : Int) by omega]
  · simp [Instr.sliceBounds, Instr.sliceBound, asIntOf, e1, h0, show l ≤ max h 0 by omega]
end
end Go.Proofs.YtgkhakhkebjbpaaEv
namespace Go.Proofs.YtgkhakhkebjbpaaEv
open Go

section
variable {P : Program} {D : Nat → Option Ck} {μ : Nat → Nat × Nat} {S : Nat → Prop} {w : World} {s : St} {a : Act} {K : KT} {m : Nat → Bool} {dst : Option Tmp} {ty : TypeId} {pos : String} {after : Array Edge} {guard : Option (Nat × Bool)}

theorem optI_ar {lo : Option Operand} {lo' : Option X} {d l : Int} {xs : Array Operand} (h1 : cOX P lo = some lo') (h2 : optI s d lo' = some l) (H : Opn D μ S w s a xs) (hx : ∀ y, lo = some y → y ∈ xs) :
    lo.map a.eval = none ∧ l = d ∨ ∃ k, lo.map a.eval = some (.int k l) := by
  cases lo with
  | none => simp only [cOX, Option.some.injEq] at h1; subst h1; simp only [optI, Option.some.injEq] at h2; exact .inl ⟨rfl, h2.symm⟩
  | some y =>
    simp only [cOX, Option.map_eq_some_iff] at h1
    obtain ⟨y', h1, rfl⟩ := h1
    have h3 := cX_ar h1 H (hx y rfl)
    simp only [optI] at h2
    split at h2
    · rename_i k n hn
      cases h2
      rw [hn] at h3
      exact .inr ⟨k, by simp [h3.intv]⟩
    · cases h2
theorem good_ssub {t : TypeId} {x : Operand} {x' : X} {lo hi : Option Operand} {lo' hi' : Option X} (ht : P.underlying t = some .string) (h1 : cX P t x = some x') (h2 : cOX P lo = some lo') (h3 : cOX P hi = some hi') (h : aop P m s K (.ssub x' lo' hi')) :
    Good P ⟨dst, .slice t x lo hi none, ty, pos, after, guard⟩ s K := by
  simp only [aop] at h
  split at h
  · rename_i b hx
    obtain ⟨l, hl, h, hh, ⟨h4, h5, h6⟩, hK⟩ := h
    refine ⟨_, _, _, _, hK, Snd.pure fun _ _ _ D μ S w a _ _ hO => ?_⟩
    have h7 := cX_ar h1 hO (by simp [Op.operands])
    rw [hx] at h7
    have h8 := optI_ar h2 hl hO (by rintro y rfl; simp [Op.operands])
    have h9 := optI_ar h3 hh hO (by rintro y rfl; simp [Op.operands])
    have h10 := run_sliceBounds (P := P) (w := w) (isSl := false) (len := b.size) (cap := b.size) h8 h9 h4 h5 h6 (Nat.le_refl _)
    exact ⟨.string (b.extract l.toNat h.toNat), by simp [execOp, h7.strv, Instr.sliceAt, run_underlying ht, Instr.slice, h10], rfl⟩
  · exact h.elim
theorem sub_run {t e t' : TypeId} {u : Value} {xs : List V} {lo hi : Option Value} {l h : Int} (he : elemKind P t = some (e, t')) (hu : Rep S w (.sl e xs) u) (h8 : lo = none ∧ l = 0 ∨ ∃ k, lo = some (.int k l)) (h9 : hi = none ∧ h = xs.length ∨ ∃ k, hi = some (.int k h))
    (h4 : 0 ≤ l) (h5 : l ≤ h) (h6 : h ≤ xs.length) : ∃ z, (Instr.sliceAt t u lo hi none).run P w = .ok z w ∧ Rep S w (.sl e ((xs.drop l.toNat).take (h.toNat - l.toNat))) z := by
  obtain ⟨h1, h2⟩ := elemKind_spec he
  have h3 := kindOf_size h2 w
  obtain ⟨Ad, c, rfl, h11, h12, h13⟩ := hu
  have h10 := run_sliceBounds (P := P) (w := w) (isSl := true) (len := xs.length) (cap := c) h8 h9 h4 h5 h6 h11
  refine ⟨_, by simp [Instr.sliceAt, run_underlying h1, Instr.slice, h10, h3]; rfl, ?_⟩
  exact Rep.cut ⟨Ad, c, rfl, h11, h12, h13⟩ (by omega) (by omega)
/-! ### comparing -/
theorem eqT_cons {t : Nat} {ts : List Nat} {az bs : List V} {p : Prop} (h : eqT (t :: ts) az bs = some p) : ∃ a az' b bs' p1 p2, az = a :: az' ∧ bs = b :: bs' ∧ eq1 t a b = some p1 ∧ eqT ts az' bs' = some p2 ∧ p = (p1 ∧ p2) := by
  match az, bs, h with
  | [], _, h => simp [eqT] at h
  | _ :: _, [], h => simp [eqT] at h
  | a :: az, b :: bs, h =>
    simp only [eqT] at h
    split at h
    · rename_i p1 p2 h1 h2
      cases h
      exact ⟨a, az, b, bs, p1, p2, rfl, rfl, h1, h2, rfl⟩
    · cases h
theorem eqT_nil {az bs : List V} {p : Prop} (h : eqT [] az bs = some p) : az = [] ∧ bs = [] ∧ p = True := by
  match az, bs, h with
  | [], [], h => simp [eqT] at h; exact ⟨rfl, rfl, eq_true h⟩
  | [], _ :: _, h => simp [eqT] at h
  | _ :: _, _, h => simp [eqT] at h
theorem eqT_length : ∀ {ts : List Nat} {az bs : List V} {p : Prop}, eqT ts az bs = some p → az.length = ts.length ∧ bs.length = ts.length
  | [], _, _, _, h => by obtain ⟨rfl, rfl, _⟩ := eqT_nil h; simp
  | t :: ts, _, _, _, h => by
    obtain ⟨a, az, b, bs, p1, p2, rfl, rfl, _, h2, _⟩ := eqT_cons h
    have := eqT_length h2
    simp [this.1, this.2]
theorem eqT_append : ∀ {t1 t2 : List Nat} {az bs : List V} {p : Prop}, eqT (t1 ++ t2) az bs = some p →
    ∃ p1 p2, eqT t1 (az.take t1.length) (bs.take t1.length) = some p1 ∧ eqT t2 (az.drop t1.length) (bs.drop t1.length) = some p2 ∧ p = (p1 ∧ p2)
  | [], _, _, _, p, h => ⟨True, p, by simp [eqT], by simpa using h, by simp⟩
  | t :: t1, t2, _, _, p, h => by
    obtain ⟨a, az, b, bs, p1, p2, rfl, rfl, h1, h2, rfl⟩ := eqT_cons h
    obtain ⟨q1, q2, h3, h4, rfl⟩ := eqT_append h2
    exact ⟨p1 ∧ q1, q2, by simp [eqT, h1, h3], by simpa using h4, by rw [and_assoc]⟩
theorem cdec_congr {p q : Prop} (h : p ↔ q) : cdec p = cdec q := by rw [propext h]
def mkK (k : Nat) (us : List Value) : Value := if k = 0 then us.headD undef else .agg us.toArray
theorem run_partK {t k : Nat} {us : List Value} {off : Nat} (h : kindOf P t = some k) (hl : off + cz k ≤ us.length) : (part t us.toArray off).run P w = .ok (mkK k ((us.drop off).take (cz k))) w := by
  obtain ⟨h1, h2⟩ := run_part (P := P) (w := w) (us := us) (off := off) h
  unfold mkK
  split
  · rename_i hk
    subst hk
    have hlt : off < us.length := by have : cz 0 = 1 := rfl; omega
    rw [h2 rfl _ (List.getElem?_eq_getElem hlt)]
    congr 1
    rw [show cz 0 = 1 from rfl, List.drop_eq_getElem_cons hlt]
    rfl
  · rename_i hk
    rw [h1 hk]
    simp [cz, hk]
theorem kind_scalar {t k : Nat} {d : TypeDesc} (h : kindOf P t = some k) (h1 : P.underlying t = some d) (hd : ∀ fs, d ≠ .struct fs) : k = 0 := by
  obtain ⟨d', i, h2, _, _, _, h5⟩ := kindOf_spec h
  rw [h1] at h2
  cases h2
  rcases h5 with ⟨h5, _⟩ | ⟨_, fs, rfl⟩
  · exact h5
  · exact absurd rfl (hd fs)
theorem equal_cells : ∀ (n : Nat) (t k d : Nat) (ts : List Nat) (az bs : List V) (us vs : List Value) (p : Prop), eqTs P n t = some ts → kindOf P t = some k → n ≤ d → RepL S w az us → RepL S w bs vs → eqT ts az bs = some p →
    (Op.equalIn d t (mkK k us) (mkK k vs)).run P w = .ok (cdec p) w := by
  intro n
  induction n with
  | zero => intro t k d ts az bs us vs p h; simp [eqTs] at h
  | succ n ih =>
    intro t k d ts az bs us vs p hok hk hd ha hb he
    obtain ⟨d, rfl⟩ : ∃ m, d = m + 1 := ⟨d - 1, by omega⟩
    simp only [eqTs] at hok
    have one : ∀ {c : Nat}, ts = [c] → ∃ x y q u v, eq1 c x y = some q ∧ (p ↔ q) ∧ us = [u] ∧ vs = [v] ∧ Rep S w x u ∧ Rep S w y v := by
      rintro c rfl
      obtain ⟨x, az', y, bs', p1, p2, rfl, rfl, h1, h2, rfl⟩ := eqT_cons he
      obtain ⟨rfl, rfl, rfl⟩ := eqT_nil h2
      obtain ⟨u, us', rfl, _, h3, h4⟩ := ha
      obtain ⟨v, vs', rfl, _, h5, h6⟩ := hb
      simp only [RepL] at h4 h6
      subst h4
      subst h6
      exact ⟨x, y, p1, u, v, h1, by simp, rfl, rfl, h3, h5⟩
    split at hok
    · rename_i hu
      obtain rfl := kind_scalar hk hu (by simp)
      obtain ⟨x, y, q, u, v, h1, h2, rfl, rfl, h3, h4⟩ := one (by simpa using hok.symm)
      rw [cdec_congr h2]
      cases x <;> cases y <;> simp only [eq1, reduceCtorEq, Option.some.injEq] at h1
      rename_i x y
      simp only [Rep] at h3 h4
      subst h3
      subst h4
      subst h1
      simp only [mkK, if_true, List.headD_cons, run_equalIn_bool' w d t x y hu]
      congr 1
      by_cases hxy : x = y <;> simp [cdec, hxy]
    · rename_i k' hu
      obtain rfl := kind_scalar hk hu (by simp)
      obtain ⟨x, y, q, u, v, h1, h2, rfl, rfl, h3, h4⟩ := one (by simpa using hok.symm)
      rw [cdec_congr h2]
      cases x <;> cases y <;> simp only [eq1, reduceCtorEq] at h1
      rename_i j x j' y
      split at h1
      · rename_i hj
        subst hj
        simp only [Rep] at h3 h4
        subst h3
        subst h4
        cases h1
        simp only [mkK, if_true, List.headD_cons, run_equalIn_int w d t j k' x y hu]
        congr 1
        by_cases hxy : x = y <;> simp [cdec, hxy]
      · cases h1
    · rename_i hu
      obtain rfl := kind_scalar hk hu (by simp)
      obtain ⟨x, y, q, u, v, h1, h2, rfl, rfl, h3, h4⟩ := one (by simpa using hok.symm)
      rw [cdec_congr h2]
      cases x <;> cases y <;> simp only [eq1, reduceCtorEq, Option.some.injEq] at h1
      rename_i x y
      simp only [Rep] at h3 h4
      subst h3
      subst h4
      subst h1
      simp only [mkK, if_true, List.headD_cons, run_equalIn_string w d t x y hu, beq_bytes]
      congr 1
      by_cases hxy : x = y <;> simp [cdec, hxy]
    · rename_i fs hu
      split at hok
      · rename_i hst
        have hk0 : k ≠ 0 := by
          obtain ⟨d', i, h2, _, _, _, h5⟩ := kindOf_spec hk
          rw [hu] at h2
          cases h2
          rcases h5 with ⟨_, h5⟩ | ⟨h5, _⟩
          · exact absurd rfl (h5 fs)
          · exact h5
        have hf : P.fieldsOf t = fs := by simp [Program.fieldsOf, hu]
        have hut : P.underlying t = some (.struct (P.fieldsOf t)) := by rw [hf]; exact hu
        simp only [mkK, hk0, if_false]
        rw [run_equalIn_struct w d t us.toArray vs.toArray hut hst, hf]
        -- the fields, from one on
        have key : ∀ (l : List Field) (o : Nat) (ts : List Nat) (p : Prop), eqFs P (eqTs P n) l o = some ts → eqT ts (az.drop o) (bs.drop o) = some p →
            (Op.eqFields d us.toArray vs.toArray l).run P w = .ok (cdec p) w := by
          intro l
          induction l with
          | nil =>
            intro o ts p h1 h2
            simp only [eqFs, Option.some.injEq] at h1
            subst h1
            obtain ⟨_, _, rfl⟩ := eqT_nil h2
            simp [Op.eqFields, cdec]
          | cons f l ihl =>
            intro o ts p h1 h2
            simp only [eqFs] at h1
            split at h1
            · rename_i t1 kf h3 h4
              split at h1
              · rename_i h5
                obtain ⟨h5, rfl, h6⟩ := h5
                simp only [Option.map_eq_some_iff] at h1
                obtain ⟨t2, h7, rfl⟩ := h1
                have hlen := eqT_length h2
                obtain ⟨p1, p2, h8, h9, rfl⟩ := eqT_append h2
                rw [List.length_append, h6] at hlen
                rw [h6] at h8 h9
                have hu1 := ha.one.1
                have hv1 := hb.one.1
                simp only [List.length_drop] at hlen
                have hcz := cz_pos kf
                have r1 := run_partK (P := P) (w := w) (us := us) (off := f.offset) h4 (by omega)
                have r2 := run_partK (P := P) (w := w) (us := vs) (off := f.offset) h4 (by omega)
                have r3 := ih f.type kf d t1 _ _ _ _ p1 h3 h4 (by omega) ((ha.drop f.offset).take (cz kf)) ((hb.drop f.offset).take (cz kf)) h8
                have r4 := ihl (f.offset + cz kf) t2 p2 h7 (by simpa [List.drop_drop] using h9)
                simp only [Op.eqFields, h5, ne_eq, not_false_eq_true, if_true, Sem.run_bind, r1, r2, r3, Result.andThen_ok]
                by_cases hp : p1
                · have : cdec p1 = true := by simp [hp]
                  simp only [this, Bool.not_true, Bool.false_eq_true, if_false, r4]
                  rw [cdec_congr (show p2 ↔ p1 ∧ p2 by simp [hp])]
                · have h10 : cdec p1 = false := by simp [hp]
                  have h11 : cdec (p1 ∧ p2) = false := by simp [hp]
                  simp [h10, h11]
              · cases h1
            · cases h1
        exact key fs.toList 0 ts p hok (by simpa using he)
      · cases hok
    · cases hok
theorem good_eq {op : BinOp} {t k : Nat} {u : TypeId} {ts : List Nat} {x y : Operand} {x' y' : X} (ho : op = .eql ∨ op = .neq) (hg : P.eqGuardType P.depth t = false) (hk : kindOf P t = some k) (hts : eqTs P 8 t = some ts) (hni : ∀ j, P.underlying t ≠ some (.int j)) (hns : P.underlying t ≠ some .string)
    (h1 : cX P t x = some x') (h2 : cX P u y = some y') (h : aop P m s K (.eq (op == .neq) k ts x' y')) : Good P ⟨dst, .binOp op t x y u, ty, pos, after, guard⟩ s K := by
  simp only [aop] at h
  split at h
  · rename_i a' b' hx hy
    obtain ⟨p, hp, ha, hb, hK⟩ := h
    refine ⟨_, _, _, _, hK, Snd.pure fun _ _ _ D μ S w a _ _ hO => ?_⟩
    have h3 := cX_ar h1 hO (by simp [Op.operands])
    have h4 := cX_ar h2 hO (by simp [Op.operands])
    rw [hx] at h3
    rw [hy] at h4
    have cells : ∀ (x : V) (u : Value), Rep S w x u → x.isAg = (k != 0) → ∃ us, RepL S w x.cs us ∧ u = mkK k us ∧ (k = 0 → u.oneCell' = true) := by
      intro x u hr hx
      by_cases hk : k = 0
      · subst hk
        have := hr.cellsNe (by simpa using hx)
        refine ⟨[u], ?_, by simp [mkK], fun _ => this.1⟩
        cases x <;> first | exact ⟨u, [], rfl, rfl, hr, rfl⟩ | (cases hx)
      · obtain ⟨cs, us, rfl, rfl, h5⟩ := hr.agg (by rw [hx]; simpa using hk)
        exact ⟨us, h5, by simp [mkK, hk], fun h => absurd h hk⟩
    obtain ⟨us, e1, e2, e3⟩ := cells a' _ h3 ha
    obtain ⟨vs, f1, f2, f3⟩ := cells b' _ h4 hb
    have h5 := equal_cells (P := P) (S := S) (w := w) 8 t k Op.maxDepth ts _ _ us vs p hts hk (by simp [Op.maxDepth]) e1 f1 hp
    rw [← e2, ← f2] at h5
    rw [e2, f2] at h5
    have q1 : (BinOp.eql == BinOp.neq) = false := rfl
    have q2 : (BinOp.neq == BinOp.neq) = true := rfl
    have both : (eqGuard op t x y (mkK k us) (mkK k vs)).run P w = .ok () w ∧ (binOp op t (mkK k us) (mkK k vs)).run P w = .ok (.bool (cdec p != (op == .neq))) w := by
      by_cases hk0 : k = 0
      · subst hk0
        have hb : P.underlying t = some .bool ∧ ts = [0] := by
          simp only [eqTs] at hts
          split at hts
          · rename_i hu; exact ⟨hu, by simpa using hts.symm⟩
          · rename_i j hu; exact absurd hu (hni j)
          · rename_i hu; exact absurd hu hns
          · rename_i fs hu
            obtain ⟨d', i, g2, _, _, _, g5⟩ := kindOf_spec hk
            rw [hu] at g2
            cases g2
            rcases g5 with ⟨_, g5⟩ | ⟨g5, _⟩
            · exact absurd rfl (g5 fs)
            · exact absurd rfl g5
          · cases hts
        obtain ⟨hu, rfl⟩ := hb
        obtain ⟨x1, az', y1, bs', p1, p2, g1, g2, g3, g4, rfl⟩ := eqT_cons hp
        obtain ⟨rfl, rfl, rfl⟩ := eqT_nil g4
        rw [g1] at e1
        rw [g2] at f1
        obtain ⟨u1, us', rfl, _, g5, g6⟩ := e1
        obtain ⟨v1, vs', rfl, _, g7, g8⟩ := f1
        cases x1 <;> cases y1 <;> simp only [eq1, reduceCtorEq, Option.some.injEq] at g3
        rename_i x1 y1
        simp only [Rep] at g5 g7
        subst g5
        subst g7
        simp only [mkK, if_true, List.headD_cons] at h5 ⊢
        refine ⟨by unfold eqGuard; rcases ho with rfl | rfl <;> simp, ?_⟩
        rcases ho with rfl | rfl <;> simp [binOp, Op.equal, h5, q1, q2]
      · have g1 : ∀ z : List Value, mkK k z = .agg z.toArray := fun z => by simp [mkK, hk0]
        simp only [g1] at h5 ⊢
        refine ⟨run_eqGuard_agg w op t x y _ _ hg, ?_⟩
        rcases ho with rfl | rfl
        · rw [run_eql_struct]; rw [show (10000 : Nat) = Op.maxDepth from rfl, h5]; simp [q1, q2]
        · rw [run_neq_struct]; rw [show (10000 : Nat) = Op.maxDepth from rfl, h5]; simp [q1, q2]
    exact ⟨_, by simp [execOp, e2, f2, both.1, both.2], rfl⟩
  · exact h.elim
theorem good_eqn {op : BinOp} {t e : TypeId} {u : TypeId} {x : Operand} {n c : Nat} {x' : X} (ho : op = .eql ∨ op = .neq) (ht : P.underlying t = some (.slice e))
    (h1 : cX P t x = some x') (h : aop P m s K (.eqn (op == .neq) x')) : Good P ⟨dst, .binOp op t x (.const (.slice none n c)) u, ty, pos, after, guard⟩ s K := by
  have run : ∀ (a : Act) w Ad m q, a.eval x = .slice Ad m q → (execOp a.eval ⟨dst, .binOp op t x (.const (.slice none n c)) u, ty, pos, after, guard⟩).run P w = .ok (.value (.bool (Ad.isNone != (op == .neq)))) w := by
    intro a w Ad m q hx
    have g : ∀ X Y, (eqGuard op t X Y (.slice Ad m q) (.slice none n c)).run P w = .ok () w := by intro X Y; unfold eqGuard; rcases ho with rfl | rfl <;> simp
    have g2 : (Op.equal t (.slice Ad m q) (.slice none n c)).run P w = .ok Ad.isNone w := by
      have g4 : ∀ d, (Op.equalIn (d + 1) t (.slice Ad m q) (.slice none n c)).run P w = .ok Ad.isNone w := by
        intro d
        cases Ad <;> simp [Op.equalIn, run_underlying ht]
      exact g4 9999
    have g3 : (a.eval (.const (.slice none n c))) = .slice none n c := rfl
    have q1 : (BinOp.eql == BinOp.neq) = false := rfl
    have q2 : (BinOp.neq == BinOp.neq) = true := rfl
    rcases ho with rfl | rfl <;> simp [execOp, hx, g, g2, g3, binOp, q1, q2]
  have nonempty : ∀ (D : Nat → Option Ck) (μ : Nat → Nat × Nat) S w e (xs : List V) v, xs ≠ [] → Rep S w (.sl e xs) v → ∃ b m q, v = .slice (some b) m q := by
    rintro D μ S w e xs v hne ⟨Ad, q, rfl, _, _, h3⟩
    match xs, hne, h3 with
    | y :: ys, _, ⟨⟨b, _, hb, _⟩, _⟩ => subst hb; exact ⟨b, _, _, rfl⟩
  simp only [aop] at h
  split at h
  · rename_i e' hx
    refine ⟨_, _, _, _, h, Snd.pure fun _ _ _ D μ S w a _ _ hO => ?_⟩
    have h4 := cX_ar h1 hO (by simp [Op.operands])
    rw [hx] at h4
    exact ⟨_, run a w none 0 0 h4, rfl⟩
  · rename_i e' xs hx
    refine ⟨_, _, _, _, h.2, Snd.pure fun _ _ _ D μ S w a _ _ hO => ?_⟩
    have h4 := cX_ar h1 hO (by simp [Op.operands])
    rw [hx] at h4
    obtain ⟨b, m, q, h5⟩ := nonempty D μ S w _ xs _ h.1 h4
    exact ⟨_, run a w (some b) m q h5, rfl⟩
  · rename_i i hx
    split at h
    · rename_i e' t' xs hc
      refine ⟨_, _, _, _, h, Snd.pure fun _ _ _ D μ S w a _ hD hO => ?_⟩
      have h4 := cX_ar h1 hO (by simp [Op.operands])
      rw [hx] at h4
      exact ⟨_, run a w _ _ _ (h4.sli_row ((hD i (by simp)).trans hc)), rfl⟩
    · rename_i e' xs hc
      refine ⟨_, _, _, _, h.2, Snd.pure fun _ _ _ D μ S w a _ hD hO => ?_⟩
      have h4 := cX_ar h1 hO (by simp [Op.operands])
      rw [hx] at h4
      obtain ⟨b, m, q, h5⟩ := nonempty D μ S w _ xs _ h.1 (h4.sli_fz ((hD i (by simp)).trans hc))
      exact ⟨_, run a w (some b) m q h5, rfl⟩
    · exact h.elim
  · exact h.elim

/-! ### building -/
theorem put_length {α : Type} {l r : List α} {off : Nat} (h : off + r.length ≤ l.length) : (put l off r).length = l.length := by simp [put]; omega
theorem ARs.put {cs ys : List A} {us vs : List Value} {off : Nat} (h : ARs D μ S w cs us) (k : ARs D μ S w ys vs) : ARs D μ S w (put cs off ys) (put us off vs) := by
  unfold Go.Proofs.YtgkhakhkebjbpaaEv.put
  rw [k.length]
  exact ((h.take off).append k).append (h.drop _)
theorem put_one {us vs : List Value} {off : Nat} (h : ∀ z ∈ us, z.oneCell' = true) (k : ∀ z ∈ vs, z.oneCell' = true) : ∀ z ∈ put us off vs, z.oneCell' = true := by
  intro z hz
  unfold put at hz
  rcases List.mem_append.1 hz with hz | hz
  · rcases List.mem_append.1 hz with hz | hz
    · exact h z (List.mem_of_mem_take hz)
    · exact k z hz
  · exact h z (List.mem_of_mem_drop hz)
theorem put_get {α : Type} {l r : List α} {off j : Nat} (h : off + r.length ≤ l.length) : (put l off r)[j]? = if j < off then l[j]? else if j < off + r.length then r[j - off]? else l[j]? := by
  unfold put
  by_cases h1 : j < off
  · rw [if_pos h1, List.append_assoc, List.getElem?_append_left (by simp; omega), List.getElem?_take, if_pos h1]
  · rw [if_neg h1]
    by_cases h2 : j < off + r.length
    · rw [if_pos h2, List.getElem?_append_left (by simp; omega), List.getElem?_append_right (by simp; omega)]
      simp [show min off l.length = off by omega]
    · rw [if_neg h2, List.getElem?_append_right (by simp; omega)]
      simp only [List.length_append, List.length_take, List.getElem?_drop]
      congr 1
      omega
theorem foldl_put : ∀ (vs : List Value) (i : Nat) (us : Array Value) (off : Nat), off + i + vs.length ≤ us.size → (vs.zipIdx i).foldl (fun cs (c, j) => cs.setIfInBounds (off + j) c) us = (put us.toList (off + i) vs).toArray
  | [], i, us, off, _ => by simp [put]
  | v :: vs, i, us, off, h => by
    have h1 := foldl_put vs (i + 1) (us.setIfInBounds (off + i) v) off (by simp at h ⊢; omega)
    simp only [List.zipIdx_cons, List.foldl_cons]
    rw [h1]
    congr 1
    simp only [List.length_cons] at h
    apply List.ext_getElem?
    intro j
    rw [put_get (by simp; omega), put_get (by simp; omega)]
    simp only [List.length_cons, Array.toList_setIfInBounds, List.getElem?_set]
    by_cases h2 : j < off + i
    · simp [h2, show j < off + (i + 1) by omega, show ¬ off + i = j by omega]
    · by_cases h3 : j = off + i
      · subst h3
        simp [show off + i < off + (i + 1) by omega, show off + i < us.size by omega]
      · by_cases h4 : j < off + i + (vs.length + 1)
        · simp [h2, h4, show ¬ j < off + (i + 1) by omega, show j < off + (i + 1) + vs.length by omega]
          rw [show j - (off + i) = (j - (off + (i + 1))) + 1 by omega]
          rfl
        · simp [h2, h4, show ¬ j < off + (i + 1) by omega, show ¬ j < off + (i + 1) + vs.length by omega, show ¬ off + i = j by omega]
theorem fill_put {place : Nat → Option (Nat × Nat)} {i off n : Nat} {v : Value} {us : Array Value} {rest : List (Nat × Value)} (hp : place i = some (off, n)) (hn : v.cells.size = n) (hl : off + n ≤ us.size) :
    Instr.fill place us ((i, v) :: rest) = Instr.fill place (put us.toList off v.cells.toList).toArray rest := by
  subst hn
  have := foldl_put v.cells.toList 0 us off (by simpa using hl)
  simp only [Instr.fill, hp]
  rw [if_neg (by simp; omega)]
  congr 1
  rw [← Array.foldl_toList, Array.toList_zipIdx]
  simpa using this

theorem fill_ar : ∀ (ps : List (Nat × Operand)) (fs : Array Field) (places : Array (Nat × Nat)) (qs : List (Nat × Nat × X)) (zs cs : List A) (us : List Value) (xs : Array Operand),
    (∀ i : Nat, places[i]? = (fs[i]?).map fun f => (f.offset, P.cellsOf f.type)) → cParts P fs ps = some qs → Opn D μ S w s a xs → (∀ p ∈ ps, p.2 ∈ xs) → ARs D μ S w zs us → (∀ z ∈ us, z.oneCell' = true) →
    fillA zs (qs.map fun p => (p.1, p.2.1, s.x p.2.2)) = some cs →
    ∃ vs, Instr.fill (places[·]?) us.toArray (ps.map fun p => (p.1, a.eval p.2)) = some vs ∧ ARs D μ S w cs vs.toList ∧ ∀ z ∈ vs.toList, z.oneCell' = true
  | [], fs, places, qs, zs, cs, us, xs, hp, hq, hO, hm, hz, h1, hf => by
    simp only [cParts, Option.some.injEq] at hq
    subst hq
    simp only [List.map_nil, fillA, Option.some.injEq] at hf
    subst hf
    exact ⟨us.toArray, rfl, by simpa using hz, by simpa using h1⟩
  | (i, x) :: ps, fs, places, qs, zs, cs, us, xs, hp, hq, hO, hm, hz, h1, hf => by
    simp only [cParts] at hq
    split at hq
    · rename_i f hf'
      split at hq
      · rename_i y ys h2 h3
        cases hq
        simp only [List.map_cons, fillA] at hf
        split at hf
        · rename_i bs hb
          split at hf
          · rename_i hl
            have h4 := cX_ar h2 hO (hm _ List.mem_cons_self)
            obtain ⟨h5, h6⟩ := cells?_ar hb h4
            have h7 := h5.length
            have h8 := hz.length
            have h9 : places[i]? = some (f.offset, P.cellsOf f.type) := by rw [hp, hf']; rfl
            simp only [Array.length_toList] at h7
            have := fill_ar ps fs places ys (put zs f.offset bs) cs (put us f.offset (a.eval x).cells.toList) xs hp h3 hO (fun p hp => hm p (List.mem_cons_of_mem _ hp)) (hz.put h5) (put_one h1 h6) hf
            simp only [List.map_cons]
            rw [fill_put h9 (by omega) (by simp; omega)]
            simpa using this
          · cases hf
        · cases hf
      · cases hq
    · cases hq
theorem zero_ar {t : TypeId} {zs : List A} (h : zeroAs P t = some zs) : ∃ i v, P.info? t = some i ∧ i.zero = some v ∧ ARs D μ S w zs v.cells.toList ∧ ∀ z ∈ v.cells.toList, z.oneCell' = true := by
  unfold zeroAs at h
  split at h
  · rename_i i hi
    split at h
    · rename_i v hv
      obtain ⟨h1, h2⟩ := cAs_ar (D := D) (μ := μ) (S := S) (w := w) h
      exact ⟨i, v, hi, hv, h1, h2⟩
    · cases h
  · cases h
theorem mapM_info : ∀ (fs : List Field), fs.all (fun f => (P.info? f.type).isSome) = true → fs.mapM (fun f => (P.info? f.type).map fun i => (f.offset, i.size)) = some (fs.map fun f => (f.offset, P.cellsOf f.type))
  | [], _ => rfl
  | f :: fs, h => by
    simp only [List.all_cons, Bool.and_eq_true] at h
    obtain ⟨i, hi⟩ := Option.isSome_iff_exists.1 h.1
    simp [List.mapM_cons, hi, mapM_info fs h.2, Program.cellsOf]
theorem good_bld {t : TypeId} {ps : Array (Nat × Operand)} {fs : Array Field} {zs : List A} {qs : List (Nat × Nat × X)} (ht : P.underlying t = some (.struct fs)) (hall : fs.toList.all (fun f => (P.info? f.type).isSome) = true) (hz : zeroAs P t = some zs) (hq : cParts P fs ps.toList = some qs) (h : aop P m s K (.bld zs qs)) :
    Good P ⟨dst, .build t ps, ty, pos, after, guard⟩ s K := by
  obtain ⟨cs, hf, hK⟩ := h
  refine ⟨_, _, _, _, hK, Snd.pure fun _ _ _ D μ S w a _ _ hO => ?_⟩
  obtain ⟨i, v, h1, h1', h2, h3⟩ := zero_ar (D := D) (μ := μ) (S := S) (w := w) hz
  obtain ⟨us, h4, h5, h6⟩ := fill_ar (a := a) ps.toList fs (fs.map fun f => (f.offset, P.cellsOf f.type)) qs zs cs v.cells.toList _ (fun i => by simp) hq hO (fun p hp => by
    simp only [Op.operands]
    exact List.mem_toArray.2 (List.mem_map.2 ⟨p, hp, rfl⟩)) h2 h3 hf
  have hb : P.built t (ps.map fun (i, x) => (i, a.eval x)).toList = some us := by
    unfold Program.built
    simp only [h1, ht, h1', mapM_info _ hall]
    rw [← h4]
    simp
  have := run_build (P := P) w t _ us hb
  refine ⟨.agg us, by simp [execOp, this], ?_⟩
  have := mkAg_ar h5 h6
  simpa using this

/-! ### new memory -/
theorem Snd.new {o : Oper} {r : A} {c : Ck} {rd : List Nat} (H : ∀ w0 O0 S0 D μ S w (a : Act), Rl w0 O0 S0 D μ S w → (∀ i ∈ rd, D i = s.h[i]?) → Opn D μ S w s a o.op.operands →
    ∃ (w1 : World) (cells : Array Value) (t n : Nat) (u : Value), (execOp a.eval o).run P w = .ok (.value u) (w1.alloc (.cells cells t)) ∧ w1.heap = w.heap ∧ w1.os = w.os ∧ w1.tape = w.tape ∧ w1.output = w.output ∧
      ∀ D' μ', D' = fset D s.h.length (some c) → μ' = fset μ s.h.length (w.heap.size, n) → Tr D μ S w D' μ' S (w1.alloc (.cells cells t)) → (w1.alloc (.cells cells t)).heap[w.heap.size]? = some (.cells cells t (0, 0)) →
        CR D' μ' S (w1.alloc (.cells cells t)) s.h.length ∧ AR D' μ' S (w1.alloc (.cells cells t)) r u) : Snd P o s r rd [s.h.length] (s.h ++ [c]) := by
  refine ⟨by simp, fun i hi => ?_, fun w0 O0 S0 D μ S w a R hD hO next Q hn => ?_⟩
  · simp only [List.mem_singleton] at hi
    by_cases h1 : i < s.h.length
    · rw [List.getElem?_append_left h1]
    · rw [List.getElem?_eq_none (by simp; omega), List.getElem?_eq_none (by omega)]
  · obtain ⟨w1, cells, t, n, u, h1, e1, e2, e3, e4, h2⟩ := H w0 O0 S0 D μ S w a R (fun i hi => hD i (.inl hi)) hO
    have hi : D s.h.length = none := by rw [hD _ (.inr (by simp))]; simp
    have R1 : Rl w0 O0 S0 D μ S w1 := R.heapEq e1 e2 e3 e4
    have hsz : w1.heap.size = w.heap.size := by rw [e1]
    have T : Tr D μ S w (fset D s.h.length (some c)) (fset μ s.h.length (w.heap.size, n)) S (w1.alloc (.cells cells t)) := (Tr.heapEq e1).trans (by
      rw [← hsz]; exact Tr.fresh hi (fun b hb => RowKit.Below.heap_alloc w1 _ b (R1.lt b hb)))
    obtain ⟨h3, h4⟩ := h2 _ _ rfl rfl T (by rw [← hsz]; exact heap_alloc_new w1 _)
    rw [← hsz] at h3
    obtain ⟨R2, _⟩ := R1.alloc hi h3
    rw [hsz] at R2
    unfold Oper.wp
    rw [h1]
    refine hn _ u _ _ S R2 (fun i => ?_) T h4
    by_cases h5 : i = s.h.length
    · subst h5; simp [fset_same]
    · rw [fset_ne h5, if_neg (by simpa using h5)]

theorem good_box {t : TypeId} {x : Operand} {x' : X} (h1 : cX P t x = some x') (h : aop P m s K (.box x')) : Good P ⟨dst, .box t x, ty, pos, after, guard⟩ s K := by
  obtain ⟨cs, hc, hK⟩ := h
  refine ⟨_, _, _, _, hK, Snd.new fun _ _ _ D μ S w a R _ hO => ?_⟩
  obtain ⟨h4, h5⟩ := cells?_ar hc (cX_ar h1 hO (by simp [Op.operands]))
  refine ⟨w, (a.eval x).cells, t, 0, .pointer (some ⟨w.heap.size, 0, none⟩), by simp [execOp, Instr.box, newVar, newRow], rfl, rfl, rfl, rfl, ?_⟩
  rintro D' μ' rfl rfl T hh
  refine ⟨?_, ⟨_, fset_same⟩, by rw [fset_same]; rfl⟩
  unfold CR
  rw [fset_same]
  exact ⟨_, t, by rw [fset_same]; exact hh, ARs.tr T _ _ h4, h5⟩
theorem good_al {t : TypeId} {zs : List A} (hz : zeroAs P t = some zs) (h : aop P m s K (.al zs)) : Good P ⟨dst, .alloc t, ty, pos, after, guard⟩ s K := by
  refine ⟨_, _, _, _, h, Snd.new fun _ _ _ D μ S w a R _ hO => ?_⟩
  obtain ⟨i, v, h1, h2, h4, h5⟩ := zero_ar (D := D) (μ := μ) (S := S) (w := w) hz
  refine ⟨w, v.cells, t, 0, .pointer (some ⟨w.heap.size, 0, none⟩), by simp [execOp, Instr.alloc, zeroValue, typeInfo, h1, h2, newVar, newRow], rfl, rfl, rfl, rfl, ?_⟩
  rintro D' μ' rfl rfl T hh
  refine ⟨?_, ⟨_, fset_same⟩, by rw [fset_same]; rfl⟩
  unfold CR
  rw [fset_same]
  exact ⟨_, t, by rw [fset_same]; exact hh, ARs.tr T _ _ h4, h5⟩
end
end Go.Proofs.YtgkhakhkebjbpaaEv
namespace Go.Proofs.YtgkhakhkebjbpaaEv
open Go

section
variable {P : Program} {D : Nat → Option Ck} {μ : Nat → Nat × Nat} {S : Nat → Prop} {w : World} {s : St} {a : Act} {K : KT} {m : Nat → Bool} {dst : Option Tmp} {ty : TypeId} {pos : String} {after : Array Edge} {guard : Option (Nat × Bool)}

theorem toV_ar {h : List Ck} {b : A} {x : V} {u : Value} (hx : toV h b = some x) (k : AR D μ S w b u) : Rep S w x u := by
  unfold toV at hx
  split at hx
  · cases hx; exact k
  · cases hx
    exact ⟨none, 0, k, Nat.le_refl _, Nat.zero_le _, trivial⟩
  · cases hx
theorem Rep.nc {x : V} {u : Value} (h : Rep S w x u) : u.cells.size = x.nc := by
  by_cases hx : x.isAg = true
  · obtain ⟨cs, us, rfl, rfl, h2⟩ := h.agg hx
    simpa [Value.cells, V.nc] using h2.one.1
  · have h1 := h.cellsNe (by simpa using hx)
    rw [h1.2]
    cases x <;> first | rfl | (exact absurd rfl hx)
theorem RepR.one {e : Nat} : ∀ {xs : List V} {us : List Value}, RepR S w e xs us → ∀ z ∈ us, z.oneCell' = true
  | [], us, h => by simp only [RepR] at h; subst h; simp
  | x :: xs, _, ⟨u, us', h1, h2, _, h4, h5⟩ => by
    subst h1
    intro z hz
    rcases List.mem_append.1 hz with hz | hz
    · by_cases hx : x.isAg = true
      · obtain ⟨cs, vs, rfl, rfl, h6⟩ := h2.agg hx
        exact h6.one.2 z (by simpa [Value.cells] using hz)
      · have h6 := h2.cellsNe (by simpa using hx)
        rw [h6.2] at hz
        simp at hz
        subst hz
        exact h6.1
    · exact RepR.one h5 z hz
theorem RepR.append {e : Nat} : ∀ {xs ys : List V} {us vs : List Value}, RepR S w e xs us → RepR S w e ys vs → RepR S w e (xs ++ ys) (us ++ vs)
  | [], _, us, _, h, k => by simp only [RepR] at h; subst h; exact k
  | x :: xs, _, _, vs, ⟨u, us', h1, h2, h3, h4, h5⟩, k => ⟨u, us' ++ vs, by rw [h1, List.append_assoc], h2, h3, h4, h5.append k⟩
theorem RepAt.row {Ad : Option Addr} {e : Nat} : ∀ {xs : List V} (i : Nat), RepAt S w Ad e i xs → xs ≠ [] → ∃ b us, Ad = some b ∧ RepR S w e xs us ∧ ∀ (j : Nat) u, us[j]? = some u → w.cell? (b.add (i * cz e + j)) = some u
  | [], _, _, h => absurd rfl h
  | x :: xs, i, ⟨⟨b, u, h1, h2, h3, h4, h5, h6⟩, h7⟩, _ => by
    have rest : ∃ us, RepR S w e xs us ∧ ∀ (j : Nat) z, us[j]? = some z → w.cell? (b.add ((i + 1) * cz e + j)) = some z := by
      by_cases hx : xs = []
      · subst hx; exact ⟨[], rfl, by simp⟩
      · obtain ⟨b', us, h8, h9, h10⟩ := RepAt.row (i + 1) h7 hx
        rw [h1] at h8
        cases h8
        exact ⟨us, h9, h10⟩
    obtain ⟨us, h8, h9⟩ := rest
    refine ⟨b, u.cells.toList ++ us, h1, ⟨u, us, rfl, h3, h4, h5, h8⟩, fun j z hz => ?_⟩
    by_cases hj : j < cz e
    · rw [List.getElem?_append_left (by simpa [h4] using hj)] at hz
      exact h6 j z (by simpa using hz)
    · rw [List.getElem?_append_right (by simp [h4]; omega)] at hz
      have := h9 _ z hz
      simp only [Array.length_toList, h4] at this
      rwa [show (i + 1) * cz e + (j - cz e) = i * cz e + j by rw [Nat.add_mul]; omega] at this

/-! ### make -/
theorem madeCells_succ (z : Array Value) (n : Nat) (hz : 0 < z.size) : (madeCells z ((n + 1) * z.size)).toList = (madeCells z (n * z.size)).toList ++ z.toList := by
  apply List.ext_getElem?
  intro j
  have g : ∀ m, (madeCells z m).toList[j]? = if j < m then some z[j % z.size]! else none := by
    intro m
    unfold madeCells
    by_cases h : j < m <;> simp [h]
  rw [g]
  by_cases h1 : j < n * z.size
  · rw [if_pos (by rw [Nat.add_mul]; omega), List.getElem?_append_left (by simpa [size_madeCells] using h1), g, if_pos h1]
  · rw [List.getElem?_append_right (by simp [size_madeCells]; omega)]
    simp only [Array.length_toList, size_madeCells]
    by_cases h2 : j < (n + 1) * z.size
    · rw [if_pos h2]
      have h3 : j - n * z.size < z.size := by rw [Nat.add_mul] at h2; omega
      have h4 : j % z.size = j - n * z.size := by
        have : j = (j - n * z.size) + z.size * n := by rw [Nat.mul_comm z.size n]; omega
        rw [this, Nat.add_mul_mod_self_left, Nat.mod_eq_of_lt h3, Nat.mul_comm z.size n]
        omega
      rw [h4]
      simp [h3]
    · rw [if_neg h2]
      symm
      rw [List.getElem?_eq_none]
      simp only [Array.length_toList]
      rw [Nat.add_mul] at h2
      omega
theorem made_row {e : Nat} {x : V} {z : Value} (h : Rep S w x z) (h1 : z.cells.size = cz e) (h2 : x.isAg = (e != 0)) : ∀ n, RepR S w e (List.replicate n x) (madeCells z.cells (n * cz e)).toList
  | 0 => by simp [RepR, madeCells]
  | n + 1 => by
    rw [List.replicate_succ']
    have := madeCells_succ z.cells n (by rw [h1]; exact cz_pos e)
    rw [h1] at this
    rw [this]
    exact RepR.append (made_row h h1 h2 n) ⟨z, [], by simp, h, h1, h2, rfl⟩
theorem toVz_ar {b : A} {x : V} {u : Value} (hx : toVz b = some x) (k : AR D μ S w b u) : Rep S w x u := by
  unfold toVz at hx
  split at hx
  · cases hx; exact k
  · cases hx
    exact ⟨none, 0, k, Nat.le_refl _, Nat.zero_le _, trivial⟩
  · cases hx
theorem Rep.notAg {x : V} {u : Value} (h : Rep S w x u) (h1 : u.oneCell' = true) : x.isAg = false := by
  cases x <;> first | rfl | skip
  obtain ⟨us, rfl, _⟩ := h
  cases h1
theorem toVzs_ar : ∀ {az : List A} {xs : List V} {us : List Value}, toVzs az = some xs → ARs D μ S w az us → (∀ z ∈ us, z.oneCell' = true) → RepL S w xs us
  | [], xs, us, h, k, _ => by simp only [toVzs, Option.some.injEq] at h; subst h; exact k
  | b :: az, xs, us, h, ⟨u, us', h1, h2, h3⟩, hz => by
    simp only [toVzs] at h
    split at h
    · rename_i x ys h4 h5
      cases h
      subst h1
      have h6 := toVz_ar h4 h2
      exact ⟨u, us', rfl, h6.notAg (hz u List.mem_cons_self), h6, toVzs_ar h5 h3 (fun z hz' => hz z (List.mem_cons_of_mem _ hz'))⟩
    · cases h
theorem zeroV_rep {t e : TypeId} {z : V} (h : zeroV P t e = some z) : ∃ i v, P.info? t = some i ∧ i.zero = some v ∧ Rep S w z v ∧ v.cells.size = cz e ∧ z.isAg = (e != 0) := by
  unfold zeroV at h
  split at h
  · rename_i i hi
    split at h
    · rename_i us hz
      split at h
      · rename_i zs h1
        split at h
        · rename_i vs h2
          split at h
          · rename_i h3
            cases h
            obtain ⟨h4, h5⟩ := cAs_ar (D := fun _ => none) (μ := fun _ => (0, 0)) (S := S) (w := w) h1
            have h6 := toVzs_ar h2 h4 h5
            refine ⟨i, _, hi, hz, ⟨us.toList, by simp, h6⟩, ?_, by simp [V.isAg, h3.1]⟩
            have := h6.one.1
            simp only [Array.length_toList] at this
            simp [Value.cells, this, h3.2, cz, h3.1]
          · cases h
        · cases h
      · cases h
    · rename_i u hu hz
      split at h
      · rename_i b h1
        split at h
        · rename_i h3
          subst h3
          obtain ⟨h4, h5⟩ := cA1_ar (D := fun _ => none) (μ := fun _ => (0, 0)) (S := S) (w := w) h1
          have h6 := toVz_ar h h4
          exact ⟨i, u, hi, hz, h6, by rw [one_cells h5]; rfl, by rw [h6.notAg h5]; rfl⟩
        · cases h
      · cases h
    · cases h
  · cases h
theorem good_mk {t e t' : Nat} {n c : Operand} {n' c' : X} {i : TypeInfo} {z : V} (h1 : elemKind P t = some (e, t')) (h2 : P.info? t' = some i) (h3 : zeroV P t' e = some z) (h4 : cX P 0 n = some n') (h5 : cX P 0 c = some c') (h : aop P m s K (.mk e t' i.bytes z n' c')) :
    Good P ⟨dst, .makeSlice t n c, ty, pos, after, guard⟩ s K := by
  simp only [aop] at h
  split at h
  · rename_i k l k' m hl hm
    obtain ⟨⟨g0, g1, g2, g3⟩, hK⟩ := h
    refine ⟨_, _, _, _, hK, Snd.new fun _ _ _ D μ S w a R _ hO => ?_⟩
    have h6 := cX_ar h4 hO (by simp [Op.operands])
    have h7 := cX_ar h5 hO (by simp [Op.operands])
    rw [hl] at h6
    rw [hm] at h7
    obtain ⟨e1, e2⟩ := elemKind_spec h1
    obtain ⟨i', v, e3, e4, e5, e6, e7⟩ := zeroV_rep (S := S) (w := w) h3
    rw [h2] at e3
    cases e3
    obtain ⟨_, i', _, e8, e9, _⟩ := kindOf_spec e2
    rw [h2] at e8
    cases e8
    have hr := run_make (P := P) w t t' i v e1 h2 e4 k k' l m g0 g1 (by omega) (by omega)
    refine ⟨w, madeCells v.cells (m.toNat * i.size), t', m.toNat, .slice (some ⟨w.heap.size, 0, none⟩) l.toNat m.toNat, by simp [execOp, h6.intv, h7.intv, hr], rfl, rfl, rfl, rfl, ?_⟩
    rintro D' μ' rfl rfl T hh
    refine ⟨?_, ?_⟩
    · unfold CR
      rw [fset_same]
      refine ⟨_, (madeCells v.cells (l.toNat * cz e)).toList, by rw [fset_same]; exact hh, by rw [fset_same, size_madeCells, e9], by rw [fset_same]; simp; omega, by rw [fset_same]; simp only [maxLen]; omega, RepR.mono T.sub T.heap e _ _ (made_row e5 e6 e7 l.toNat), ?_⟩
      simp only [Array.length_toList, size_madeCells, e9]
      apply List.ext_getElem?
      intro j
      have g : ∀ q, (madeCells v.cells q).toList[j]? = if j < q then some v.cells[j % v.cells.size]! else none := by
        intro q
        unfold madeCells
        by_cases h : j < q <;> simp [h]
      rw [List.getElem?_take, g, g]
      have : l.toNat * cz e ≤ m.toNat * cz e := Nat.mul_le_mul_right _ (by omega)
      by_cases hj : j < l.toNat * cz e
      · rw [if_pos hj, if_pos hj, if_pos (by omega)]
      · rw [if_neg hj, if_neg hj]
    · unfold AR
      rw [fset_same, fset_same]
      exact ⟨rfl, by simp⟩
  · exact h.elim

/-! ### a literal -/
theorem fill_row {e : Nat} : ∀ (ps : List Operand) (qs : List X) (ts : List TypeId) (zs : List V) (j n : Nat) (us : List Value) (xs : Array Operand), cXs P ts ps = some qs → Opn D μ S w s a xs → (∀ p ∈ ps, p ∈ xs) →
    toVs s.h (qs.map s.x) = some zs → (∀ z ∈ zs, shape e z) → j + ps.length = n → us.length = n * cz e →
    ∃ ws, RepR S w e zs ws ∧ Instr.fill (fun i => some (i * cz e, cz e)) us.toArray (((List.range' j ps.length).zip ps).map fun p => (p.1, a.eval p.2)) = some (us.take (j * cz e) ++ ws).toArray
  | [], qs, ts, zs, j, n, us, xs, hq, hO, hm, hz, hs, hj, hl => by
    simp only [cXs, Option.some.injEq] at hq
    subst hq
    simp only [List.map_nil, toVs, Option.some.injEq] at hz
    subst hz
    refine ⟨[], rfl, ?_⟩
    simp only [List.length_nil, Nat.add_zero] at hj
    subst hj
    simp [Instr.fill, ← hl]
  | p :: ps, qs, ts, zs, j, n, us, xs, hq, hO, hm, hz, hs, hj, hl => by
    simp only [cXs] at hq
    split at hq
    · rename_i y ys h1 h2
      cases hq
      simp only [List.map_cons, toVs] at hz
      split at hz
      · rename_i x xs' h3 h4
        cases hz
        have h5 := toV_ar h3 (cX_ar h1 hO (hm _ List.mem_cons_self))
        have h6 := hs x List.mem_cons_self
        have h7 : (a.eval p).cells.size = cz e := by rw [h5.nc]; exact h6.2
        simp only [List.length_cons] at hj
        have hle : j * cz e + cz e ≤ us.length := by
          rw [hl, ← hj, show j + (ps.length + 1) = (j + 1) + ps.length by omega, Nat.add_mul, Nat.add_mul, Nat.one_mul]
          omega
        obtain ⟨ws, h8, h9⟩ := fill_row ps ys ts.tail xs' (j + 1) n (put us (j * cz e) (a.eval p).cells.toList) xs h2 hO (fun q hq => hm q (List.mem_cons_of_mem _ hq)) h4 (fun z hz => hs z (List.mem_cons_of_mem _ hz)) (by omega) (by rw [put_length (by simp [h7]; exact hle)]; exact hl)
        refine ⟨(a.eval p).cells.toList ++ ws, ⟨_, ws, rfl, h5, h7, h6.1, h8⟩, ?_⟩
        simp only [List.length_cons, List.range'_succ, List.zip_cons_cons, List.map_cons]
        rw [fill_put rfl h7 (by simpa using hle)]
        rw [h9]
        congr 2
        rw [← List.append_assoc]
        congr 1
        unfold put
        rw [List.take_append_of_le_length (by simp [h7]; rw [Nat.add_mul]; omega)]
        rw [List.take_of_length_le (by simp [h7]; rw [Nat.add_mul]; omega)]
      · cases hz
    · cases hq
theorem zip_of_range : ∀ (ps : List (Nat × Operand)) (j n : Nat), ps.map (·.1) = List.range' j n → ps = (List.range' j (ps.map (·.2)).length).zip (ps.map (·.2))
  | [], _, _, _ => by simp
  | (i, x) :: ps, j, 0, h => by simp at h
  | (i, x) :: ps, j, n + 1, h => by
    simp only [List.map_cons, List.range'_succ, List.cons.injEq] at h
    obtain ⟨rfl, h2⟩ := h
    simp only [List.map_cons, List.length_cons, List.range'_succ, List.zip_cons_cons, List.cons.injEq, true_and]
    exact zip_of_range ps (i + 1) n h2
theorem good_bsl {t e t' n : Nat} {ps : Array (Nat × Operand)} {qs : List X} {ts : List TypeId} (h1 : elemKind P t = some (e, t')) (h2 : ps.toList.map (·.1) = List.range n) (h3 : n * cz e ≤ 2 ^ 20) (h4 : ((P.info? t').bind (·.zero)).isSome = true)
    (h5 : cXs P ts (ps.toList.map (·.2)) = some qs) (h : aop P m s K (.bsl e t' qs)) : Good P ⟨dst, .buildSlice t n ps, ty, pos, after, guard⟩ s K := by
  obtain ⟨zs, hz, hs, hK⟩ := h
  refine ⟨_, _, _, _, hK, Snd.new fun _ _ _ D μ S w a R _ hO => ?_⟩
  obtain ⟨e1, e2⟩ := elemKind_spec h1
  have e3 := kindOf_size e2 w
  obtain ⟨v, hv⟩ := Option.isSome_iff_exists.1 h4
  obtain ⟨i, hi, hv⟩ := Option.bind_eq_some_iff.1 hv
  have hn : ps.toList.length = n := by have := congrArg List.length h2; simpa using this
  have hzip := zip_of_range ps.toList 0 n (by rw [h2, List.range_eq_range'])
  obtain ⟨zc, hzc⟩ : ∃ zc : Array Value, zc = if n * cz e = 0 then #[] else v.cells := ⟨_, rfl⟩
  obtain ⟨ws, h6, h7⟩ := fill_row (a := a) (e := e) (ps.toList.map (·.2)) qs ts zs 0 n ((Array.range (n * cz e)).map (zc[· % zc.size]!)).toList _ h5 hO (fun p hp => by
    simp only [Op.operands]
    exact List.mem_toArray.2 hp) hz hs (by simp [hn]) (by simp)
  have hparts : (ps.map fun (i, x) => (i, a.eval x)).toList = ((List.range' 0 (ps.toList.map (·.2)).length).zip (ps.toList.map (·.2))).map fun p => (p.1, a.eval p.2) := by
    rw [← hzip]
    simp
  rw [← hparts] at h7
  simp only [Nat.zero_mul, List.take_zero, List.nil_append] at h7
  have hr : (Instr.buildSlice t n (ps.map fun (i, x) => (i, a.eval x))).run P w = .ok (.slice (some ⟨w.heap.size, 0, none⟩) n n) (w.alloc (.cells ws.toArray t')) := by
    have hb : ¬ (2 ^ 24 < n * cz e) := by omega
    rw [Array.toArray_toList] at h7
    by_cases h0 : n * cz e = 0
    · rw [if_pos h0] at hzc
      subst hzc
      have h7' := h7
      simp only [h0] at h7'
      simp [Instr.buildSlice, run_underlying e1, e3, h0, newRow] at h7' ⊢
      simp [h7']
    · rw [if_neg h0] at hzc
      subst hzc
      simp only [Instr.buildSlice, Sem.run_bind, run_underlying e1, Result.andThen_ok, e3, gt_iff_lt, hb, if_false, h0]
      simp [newRow, zeroValue, typeInfo, hi, hv, h0, hb] at h7 ⊢
      simp [h7]
  have hlen : zs.length = n := by
    have h8 : ∀ (bs : List A) (zs : List V), toVs s.h bs = some zs → zs.length = bs.length := by
      intro bs
      induction bs with
      | nil => intro zs h; simp only [toVs, Option.some.injEq] at h; subst h; rfl
      | cons b bs ih =>
        intro zs h
        simp only [toVs] at h
        split at h
        · rename_i x xs h9 h10; cases h; simp [ih _ h10]
        · cases h
    have h9 : ∀ (ps : List Operand) (ts : List TypeId) (qs : List X), cXs P ts ps = some qs → qs.length = ps.length := by
      intro ps
      induction ps with
      | nil => intro ts qs h; simp only [cXs, Option.some.injEq] at h; subst h; rfl
      | cons b bs ih =>
        intro ts qs h
        simp only [cXs] at h
        split at h
        · rename_i x xs h9 h10; cases h; simp [ih _ _ h10]
        · cases h
    rw [h8 _ _ hz, List.length_map, h9 _ _ _ h5]
    simp [hn]
  have hws := h6.length
  refine ⟨w, ws.toArray, t', n, _, by simp [execOp, hr]; rfl, rfl, rfl, rfl, rfl, ?_⟩
  rintro D' μ' rfl rfl T hh
  refine ⟨?_, ?_⟩
  · unfold CR
    rw [fset_same]
    refine ⟨_, ws, by rw [fset_same]; exact hh, by rw [fset_same]; simp [hws, hlen], by rw [fset_same]; simp [hlen], ?_, RepR.mono T.sub T.heap e _ _ h6, by simp⟩
    rw [fset_same]
    have := cz_pos e
    have h10 : n ≤ n * cz e := Nat.le_mul_of_pos_right _ this
    simp only [maxLen]
    omega
  · unfold AR
    rw [fset_same, fset_same]
    exact ⟨rfl, by simp [hlen]⟩

/-! ### a store -/
theorem run_storeAt {t k b off : Nat} {v : Value} {cur : Array Value} {t' : TypeId} (h : kindOf P t = some k) (hg : w.heap[b]? = some (.cells cur t' (0, 0))) (hn : v.cells.size = cz k) (hl : off + cz k ≤ cur.size) (h1 : ∀ z ∈ v.cells.toList, z.oneCell' = true) :
    (Instr.storeAt t (.pointer (some (Addr.add ⟨b, 0, none⟩ off))) v).run P w = .ok () (w.setRow b (put cur.toList off v.cells.toList).toArray) := by
  have h2 := kindOf_size h w
  have h3 := run_storeCells_at P b off t' v.cells.toList 0 cur w hg (by simpa [hn] using hl) h1
  simp only [Nat.add_zero, Array.length_toList, hn] at h3
  simp only [Instr.storeAt, Instr.sureAddr, storeVar, Sem.run_bind, Sem.run_pure, Result.andThen_ok, h2, hn, ne_eq, not_true_eq_false, if_false, add_base]
  simp [h3, put, hn]
theorem Only.setRow {b : Nat} {cur : Array Value} : Only b w (w.setRow b cur) := ⟨rfl, rfl, rfl, by simp, fun k hk => setRow_other w b k cur hk⟩
theorem Snd.wr {o : Oper} {c : Nat} {ck ck' : Ck} (hc : s.h[c]? = some ck) (hl : ck.live = true) (hl' : ck'.live = true)
    (hsli : ∀ (D : Nat → Option Ck) μ S w w' u, D c = some ck → AR D μ S w (.sli c) u → AR (fset D c (some ck')) μ S w' (.sli c) u)
    (H : ∀ w0 O0 S0 D μ S w (a : Act), Rl w0 O0 S0 D μ S w → D c = some ck → Opn D μ S w s a o.op.operands →
      ∃ w', (execOp a.eval o).run P w = .ok .skip w' ∧ Only (μ c).1 w w' ∧ (Tr D μ S w (fset D c (some ck')) μ S w' → CR (fset D c (some ck')) μ S w' c)) : Snd P o s .ud [c] [c] (s.h.set c ck') := by
  have hlt : c < s.h.length := (List.getElem?_eq_some_iff.1 hc).1
  refine ⟨by simp, fun i hi => ?_, fun w0 O0 S0 D μ S w a R hD hO next Q hn => ?_⟩
  · rw [List.getElem?_set_ne (by simpa using Ne.symm (by simpa using hi))]
  · have hDc : D c = some ck := (hD c (.inl (by simp))).trans hc
    obtain ⟨w', h1, h2, h3⟩ := H w0 O0 S0 D μ S w a R hDc hO
    obtain ⟨R', T⟩ := R.write hDc hl h2 hl' (fun u hu => hsli D μ S w w' u hDc hu) h3
    unfold Oper.wp
    rw [h1]
    refine hn w' undef _ _ S R' (fun i => ?_) T rfl
    by_cases h5 : i = c
    · subst h5; simp [fset_same, hlt]
    · rw [fset_ne h5, if_neg (by simpa using h5)]
theorem Snd.wrv {o : Oper} {c : Nat} {ck ck' : Ck} (hc : s.h[c]? = some ck) (hl : ck.live = true) (hl' : ck'.live = true)
    (hsli : ∀ (D : Nat → Option Ck) μ S w w' u, D c = some ck → AR D μ S w (.sli c) u → AR (fset D c (some ck')) μ S w' (.sli c) u)
    (H : ∀ w0 O0 S0 D μ S w (a : Act), Rl w0 O0 S0 D μ S w → D c = some ck → Opn D μ S w s a o.op.operands →
      ∃ w' u, (execOp a.eval o).run P w = .ok (.value u) w' ∧ Only (μ c).1 w w' ∧ (∃ us : List Value, u = .tuple us.toArray ∧ us = []) ∧ (Tr D μ S w (fset D c (some ck')) μ S w' → CR (fset D c (some ck')) μ S w' c)) : Snd P o s (.tu []) [c] [c] (s.h.set c ck') := by
  have hlt : c < s.h.length := (List.getElem?_eq_some_iff.1 hc).1
  refine ⟨by simp, fun i hi => ?_, fun w0 O0 S0 D μ S w a R hD hO next Q hn => ?_⟩
  · rw [List.getElem?_set_ne (by simpa using Ne.symm (by simpa using hi))]
  · have hDc : D c = some ck := (hD c (.inl (by simp))).trans hc
    obtain ⟨w', u, h1, h2, ⟨us, h3, h4⟩, h5⟩ := H w0 O0 S0 D μ S w a R hDc hO
    obtain ⟨R', T⟩ := R.write hDc hl h2 hl' (fun u hu => hsli D μ S w w' u hDc hu) h5
    unfold Oper.wp
    rw [h1]
    refine hn w' u _ _ S R' (fun i => ?_) T ⟨us, h3, h4⟩
    by_cases h5 : i = c
    · subst h5; simp [fset_same, hlt]
    · rw [fset_ne h5, if_neg (by simpa using h5)]
theorem RepR.set {e : Nat} {z : V} {u : Value} (hz : Rep S w z u) (h1 : u.cells.size = cz e) (h2 : z.isAg = (e != 0)) : ∀ {xs : List V} {us : List Value} (n : Nat), RepR S w e xs us → n < xs.length → RepR S w e (xs.set n z) (put us (n * cz e) u.cells.toList)
  | [], _, _, _, h => by simp at h
  | x :: xs, _, 0, ⟨v, us', h3, h4, h5, h6, h7⟩, _ => by
    refine ⟨u, us', ?_, hz, h1, h2, h7⟩
    subst h3
    unfold put
    simp only [Nat.zero_mul, List.take_zero, List.nil_append, Nat.zero_add, Array.length_toList, h1]
    congr 1
    rw [List.drop_append, List.drop_of_length_le (by simp [h5])]
    simp [h5]
  | x :: xs, _, n + 1, ⟨v, us', h3, h4, h5, h6, h7⟩, hn => by
    have := RepR.set hz h1 h2 n h7 (by simpa using hn)
    refine ⟨v, _, ?_, h4, h5, h6, this⟩
    subst h3
    unfold put
    have e1 : (n + 1) * cz e = v.cells.toList.length + n * cz e := by rw [Nat.add_mul]; simp [h5]; omega
    rw [e1, List.take_length_add_append, Nat.add_assoc, List.drop_length_add_append, List.append_assoc, List.append_assoc, List.append_assoc]
theorem put_take {cur us vs : List Value} {off : Nat} (h : cur.take us.length = us) (hl : off + vs.length ≤ us.length) : (put cur off vs).take (put us off vs).length = put us off vs := by
  have h1 : us.length ≤ cur.length := by have := congrArg List.length h; simp at this; omega
  rw [put_length hl]
  apply List.ext_getElem?
  intro j
  rw [List.getElem?_take, put_get (by omega), put_get hl]
  have h2 : ∀ j, j < us.length → cur[j]? = us[j]? := fun j hj => by
    have := congrArg (·[j]?) h
    simpa [List.getElem?_take, hj] using this
  by_cases hj : j < us.length
  · rw [if_pos hj, h2 j hj]
  · rw [if_neg hj, if_neg (by omega), if_neg (by omega), List.getElem?_eq_none (by omega)]
theorem RepL.append' {S : Nat → Prop} {w : World} : ∀ {as bs : List V} {us vs : List Value}, RepL S w as us → RepL S w bs vs → RepL S w (as ++ bs) (us ++ vs)
  | [], _, us, _, h, k => by simp only [RepL] at h; subst h; exact k
  | a :: as, _, us, vs, ⟨u, us', h1, h2, h3, h4⟩, k => by subst h1; exact ⟨u, us' ++ vs, rfl, h2, h3, h4.append' k⟩
theorem RepL.put {S : Nat → Prop} {w : World} {cs ys : List V} {us vs : List Value} {off : Nat} (h : RepL S w cs us) (k : RepL S w ys vs) : RepL S w (put cs off ys) (put us off vs) := by
  unfold Go.Proofs.YtgkhakhkebjbpaaEv.put
  rw [k.one.1]
  exact ((h.take off).append' k).append' (h.drop _)
theorem Rep.cs {S : Nat → Prop} {w : World} {z : V} {u : Value} (h : Rep S w z u) : RepL S w z.cs u.cells.toList := by
  by_cases hz : z.isAg = true
  · cases z <;> first | (cases hz; done) | skip
    obtain ⟨us, rfl, h2⟩ := h
    simpa [V.cs, Value.cells] using h2
  · simp only [Bool.not_eq_true] at hz
    have h1 := Rep.cellsNe h hz
    have h2 : z.cs = [z] := by cases z <;> first | rfl | (cases hz; done)
    rw [h2, h1.2]
    exact ⟨u, [], rfl, hz, h, rfl⟩
theorem put_put {α : Type} {l m r : List α} {a off : Nat} (hm : ∀ j, j < m.length → l[a + j]? = m[j]?) (hl : a + m.length ≤ l.length) (hr : off + r.length ≤ m.length) : put l a (put m off r) = put l (a + off) r := by
  apply List.ext_getElem?
  intro j
  have e1 := put_get (l := l) (r := put m off r) (off := a) (j := j) (by rw [put_length hr]; exact hl)
  have e2 := put_get (l := l) (r := r) (off := a + off) (j := j) (by omega)
  have e3 := put_get (l := m) (r := r) (off := off) (j := j - a) hr
  rw [e1, e2, e3, put_length hr]
  by_cases h1 : j < a
  · rw [if_pos h1, if_pos (by omega)]
  · rw [if_neg h1]
    by_cases h2 : j < a + m.length
    · have e4 := hm (j - a) (by omega)
      rw [show a + (j - a) = j by omega] at e4
      rw [if_pos h2]
      by_cases h3 : j < a + off
      · rw [if_pos (by omega), if_pos h3, e4]
      · rw [if_neg (by omega), if_neg h3]
        by_cases h4 : j < a + off + r.length
        · rw [if_pos (by omega), if_pos h4, show j - a - off = j - (a + off) by omega]
        · rw [if_neg (by omega), if_neg h4, e4]
    · rw [if_neg h2, if_neg (by omega), if_neg (by omega)]
theorem good_st {t k : Nat} {x y : Operand} {x' y' : X} (h1 : cX P 0 x = some x') (h2 : cX P t y = some y') (h3 : kindOf P t = some k) (h : aop P m s K (.st x' y' k)) : Good P ⟨dst, .store t x y, ty, pos, after, guard⟩ s K := by
  simp only [aop] at h
  split at h
  · rename_i c off hx
    split at h
    · rename_i cs hc
      obtain ⟨ys, hy, hn, hl, hK⟩ := h
      refine ⟨_, _, _, _, hK, Snd.wr hc rfl rfl (fun D μ S w w' u hD hu => ?_) (fun _ _ _ D μ S w a R hD hO => ?_)⟩
      · unfold AR at hu
        rw [hD] at hu
        exact hu.2.elim
      · have h4 := cX_ar h1 hO (by simp [Op.operands])
        have h5 := cX_ar h2 hO (by simp [Op.operands])
        rw [hx] at h4
        obtain ⟨h6, h7⟩ := cells?_ar hy h5
        have h8 := R.ck c
        unfold CR at h8
        rw [hD] at h8
        obtain ⟨cur, t', g1, g2, g3⟩ := h8
        have g4 := g2.length
        have g5 := h6.length
        simp only [Array.length_toList] at g4 g5
        have g6 := run_storeAt (P := P) (off := off) h3 g1 (g5.trans hn) (by omega) h7
        refine ⟨w.setRow (μ c).1 (put cur.toList off (a.eval y).cells.toList).toArray, by simp [execOp, h4.2, g6], Only.setRow, fun T => ?_⟩
        unfold CR
        rw [fset_same]
        exact ⟨_, t', setRow_heap w _ cur _ t' _ g1, by simpa using (ARs.tr T _ _ g2).put (ARs.tr T _ _ h6), by simpa using put_one g3 h7⟩
    · exact h.elim
  · rename_i c e n off hx
    split at h
    · rename_i e' t' xs hc
      split at h
      case' isTrue hk =>
       obtain ⟨rfl, rfl⟩ := hk
       obtain ⟨z, hz, rfl, hn, hsh, hK⟩ := h
       refine ⟨_, _, _, _, hK, Snd.wr hc rfl rfl (fun D μ S w w' u hD hu => ?_) (fun _ _ _ D μ S w a R hD hO => ?_)⟩
       · have h4 := hu.sli_row hD
         unfold AR
         rw [fset_same]
         exact ⟨by rw [h4]; rfl, by rw [h4]; simp⟩
       · have h4 := cX_ar h1 hO (by simp [Op.operands])
         have h5 := cX_ar h2 hO (by simp [Op.operands])
         rw [hx] at h4
         have h6 := toV_ar hz h5
         have h7 : (a.eval y).cells.size = cz e' := by rw [h6.nc]; exact hsh.2
         have h7' : ∀ z ∈ (a.eval y).cells.toList, z.oneCell' = true := by
           have : RepR S w e' [z] (a.eval y).cells.toList := ⟨a.eval y, [], by simp, h6, h7, hsh.1, rfl⟩
           exact this.one
         have h8 := R.ck c
         unfold CR at h8
         rw [hD] at h8
         obtain ⟨cur, us, g1, g2, g3, g4, g5, g6⟩ := h8
         have g7 := g5.length
         have g8 : n.toNat * cz e' + cz e' ≤ us.length := by
           rw [g7, ← Nat.succ_mul]
           exact Nat.mul_le_mul_right _ hn
         have g9 : us.length ≤ cur.size := by have := congrArg List.length g6; simp at this; omega
         have g10 := run_storeAt (P := P) h3 g1 h7 (Nat.le_trans g8 g9) h7'
         refine ⟨w.setRow (μ c).1 (put cur.toList (n.toNat * cz e') (a.eval y).cells.toList).toArray, by simp [execOp, h4.2, g10], Only.setRow, fun T => ?_⟩
         unfold CR
         rw [fset_same]
         refine ⟨_, put us (n.toNat * cz e') (a.eval y).cells.toList, setRow_heap w _ cur _ t' _ g1, ?_, by simpa using g3, g4, RepR.set (Rep.mono T.sub T.heap _ _ h6) h7 hsh.1 _ (RepR.mono T.sub T.heap _ _ _ g5) hn, ?_⟩
         · rw [← g2]
           simp only [List.size_toArray]
           rw [put_length (by simp [h7]; omega)]
           simp
         · exact put_take g6 (by simpa [h7] using g8)
      case' isFalse hk =>
       obtain ⟨z, hz, rfl, hn, hlen, hK⟩ := h
       obtain ⟨x, hxn⟩ : ∃ x, xs[n.toNat]? = some x := ⟨_, List.getElem?_eq_getElem hn⟩
       obtain ⟨hoff, hag, hK⟩ := hK x hxn
       refine ⟨_, _, _, _, hK, Snd.wr hc rfl rfl (fun D μ S w w' u hD hu => ?_) (fun _ _ _ D μ S w a R hD hO => ?_)⟩
       · have h4 := hu.sli_row hD
         unfold AR
         rw [fset_same]
         exact ⟨by rw [h4]; rfl, by rw [h4]; simp⟩
       · have h4 := cX_ar h1 hO (by simp [Op.operands])
         have h5 := cX_ar h2 hO (by simp [Op.operands])
         rw [hx] at h4
         have h6 := toV_ar hz h5
         have h6c := h6.cs
         have h7 : (a.eval y).cells.toList.length = cz k := by rw [h6c.one.1]; exact hlen
         obtain ⟨vc, hvc⟩ : ∃ vc, vc = (a.eval y).cells.toList := ⟨_, rfl⟩
         rw [← hvc] at h6c h7
         have h8 := R.ck c
         unfold CR at h8
         rw [hD] at h8
         obtain ⟨cur, us, g1, g2, g3, g4, g5, g6⟩ := h8
         have g7 := g5.length
         obtain ⟨ux, e1, e2, e3, e4⟩ := g5.get hxn
         obtain ⟨cs, usx, rfl, rfl, e5⟩ := Rep.agg e1 hag
         simp only [V.cs] at hoff
         simp only [Value.cells, List.size_toArray] at e2
         have e6 := e5.one.1
         have e7 : n.toNat * cz e' + cz e' ≤ us.length := by
           rw [g7, ← Nat.succ_mul]
           exact Nat.mul_le_mul_right _ hn
         have e8 : usx.length = cz e' := by simpa using e2
         have e9 : put us (n.toNat * cz e') (put usx off vc) = put us (n.toNat * cz e' + off) vc :=
           put_put (fun j hj => by
             obtain ⟨v, hv⟩ : ∃ v, usx[j]? = some v := ⟨_, List.getElem?_eq_getElem hj⟩
             rw [hv]
             exact e4 j v (by simpa [Value.cells] using hv)) (by rw [e8]; exact e7) (by rw [h7]; omega)
         have g9 : us.length ≤ cur.size := by have := congrArg List.length g6; simp at this; omega
         have g10 := run_storeAt (P := P) (off := n.toNat * cz e' + off) (v := a.eval y) h3 g1 (by rw [hvc] at h7; simpa using h7) (by omega) (by rw [← hvc]; exact h6c.one.2)
         rw [← hvc] at g10
         refine ⟨w.setRow (μ c).1 (put cur.toList (n.toNat * cz e' + off) vc).toArray, by simp [execOp, h4.2, g10], Only.setRow, fun T => ?_⟩
         unfold CR
         rw [fset_same]
         have e10 : Rep S w (.ag (put cs off z.cs)) (.agg (put usx off vc).toArray) := ⟨_, rfl, e5.put h6c⟩
         have e11 : (Value.agg (put usx off vc).toArray).cells.size = cz e' := by
           simp only [Value.cells, List.size_toArray]
           rw [put_length (by rw [h7]; omega)]
           exact e8
         have e12 := RepR.set (Rep.mono T.sub T.heap _ _ e10) e11 (by simpa [V.isAg] using e3) n.toNat (RepR.mono T.sub T.heap _ _ _ g5) hn
         simp only [Value.cells] at e12
         rw [e9] at e12
         refine ⟨_, put us (n.toNat * cz e' + off) vc, setRow_heap w _ cur _ t' _ g1, ?_, by simpa using g3, g4, e12, ?_⟩
         · rw [← g2]
           simp only [List.size_toArray]
           rw [put_length (by rw [h7]; simp; omega)]
           simp
         · exact put_take g6 (by rw [h7]; omega)
    · exact h.elim
  · exact h.elim
end
end Go.Proofs.YtgkhakhkebjbpaaEv
namespace Go.Proofs.YtgkhakhkebjbpaaEv
open Go

section
variable {P : Program} {D : Nat → Option Ck} {μ : Nat → Nat × Nat} {S : Nat → Prop} {w w' : World} {s : St} {a : Act} {K : KT} {m : Nat → Bool} {dst : Option Tmp} {ty : TypeId} {pos : String} {after : Array Edge} {guard : Option (Nat × Bool)}
variable {w0 : World} {O0 S0 : Nat → Prop}

theorem Only.refl {b : Nat} : Only b w w := ⟨rfl, rfl, rfl, rfl, fun _ _ => rfl⟩
/-- A chunk laid over a block that the call owns and that no other chunk uses. -/
theorem Rl.adopt (R : Rl w0 O0 S0 D μ S w) {i b m : Nat} {ck : Ck} (hi : D i = none) (hb : ¬ S b) (hlt : b < w.heap.size) (hO : O0 b ∨ w0.heap.size ≤ b) (hfree : ∀ j c, D j = some c → c.live = true → (μ j).1 ≠ b) (ho : Only b w w')
    (hc : Tr D μ S w (fset D i (some ck)) (fset μ i (b, m)) S w' → CR (fset D i (some ck)) (fset μ i (b, m)) S w' i) :
    Rl w0 O0 S0 (fset D i (some ck)) (fset μ i (b, m)) S w' ∧ Tr D μ S w (fset D i (some ck)) (fset μ i (b, m)) S w' := by
  have hS : ∀ k, S k → w'.heap[k]? = w.heap[k]? := fun k hk => ho.block k (fun e => hb (e ▸ hk))
  have T : Tr D μ S w (fset D i (some ck)) (fset μ i (b, m)) S w' := Tr.fresh hi hS
  refine ⟨⟨R.tb, ho.os.trans R.os, ho.tape.trans R.tape, ho.output.trans R.output, by rw [ho.size]; exact R.size, fun k hk hOk => ?_, R.sub, R.new, by rw [ho.size]; exact R.lt, fun j => ?_, fun j d hd hdl => ?_, fun j k d d' hd hd' hdl hdl' he => ?_⟩, T⟩
  · rw [ho.block k (fun e => ?_)]
    · exact R.keep k hk hOk
    · rcases hO with hO | hO
      · exact hOk (e ▸ hO)
      · omega
  · by_cases hj : j = i
    · subst hj; exact hc T
    · exact (R.ck j).tr T (fset_ne hj) (fset_ne hj) (fun d hd hdl => ho.block _ (hfree j d hd hdl))
  · rw [ho.size]
    by_cases hj : j = i
    · subst hj; rw [fset_same]; exact ⟨hb, hlt, hO⟩
    · rw [fset_ne hj] at hd ⊢
      exact R.own j d hd hdl
  · by_cases hj : j = i <;> by_cases hk : k = i
    · omega
    · subst hj
      rw [fset_same, fset_ne hk] at he
      rw [fset_ne hk] at hd'
      exact absurd he.symm (hfree k d' hd' hdl')
    · subst hk
      rw [fset_same, fset_ne hj] at he
      rw [fset_ne hj] at hd
      exact absurd he (hfree j d hd hdl)
    · rw [fset_ne hj, fset_ne hk] at he
      rw [fset_ne hj] at hd
      rw [fset_ne hk] at hd'
      exact R.inj j k d d' hd hd' hdl hdl' he

theorem RepR.drop {e : Nat} : ∀ {xs : List V} {us : List Value}, RepR S w e xs us → ∀ n, RepR S w e (xs.drop n) (us.drop (n * cz e))
  | _, _, h, 0 => by simpa using h
  | [], us, h, n + 1 => by simp only [RepR] at h; subst h; simp [RepR]
  | x :: xs, _, ⟨u, us', h1, h2, h3, h4, h5⟩, n + 1 => by
    subst h1
    have e1 : (u.cells.toList ++ us').drop ((n + 1) * cz e) = us'.drop (n * cz e) := by
      rw [show (n + 1) * cz e = u.cells.toList.length + n * cz e by rw [Nat.add_mul]; simp [h3]; omega, List.drop_length_add_append]
    rw [e1]
    exact RepR.drop h5 n
theorem RepR.take {e : Nat} : ∀ {xs : List V} {us : List Value}, RepR S w e xs us → ∀ n, RepR S w e (xs.take n) (us.take (n * cz e))
  | _, _, _, 0 => by simp [RepR]
  | [], us, h, n + 1 => by simp only [RepR] at h; subst h; simp [RepR]
  | x :: xs, _, ⟨u, us', h1, h2, h3, h4, h5⟩, n + 1 => by
    subst h1
    refine ⟨u, us'.take (n * cz e), ?_, h2, h3, h4, RepR.take h5 n⟩
    rw [List.take_append, List.take_of_length_le (by simp [h3, Nat.succ_mul])]
    congr 2
    simp [h3, Nat.succ_mul]
theorem good_sub {t e t' : TypeId} {x : Operand} {x' : X} {lo hi : Option Operand} {lo' hi' : Option X} (ht : P.underlying t = some (.slice t')) (hk : kindOf P t' = some e) (h1 : cX P t x = some x') (h2 : cOX P lo = some lo') (h3 : cOX P hi = some hi') (h : aop P m s K (.sub e x' lo' hi')) :
    Good P ⟨dst, .slice t x lo hi none, ty, pos, after, guard⟩ s K := by
  simp only [aop] at h
  have he : elemKind P t = some (e, t') := by simp [elemKind, ht, hk]
  split at h
  · rename_i e' xs hx
    obtain ⟨rfl, l, hl, h, hh, ⟨h4, h5, h6⟩, hK⟩ := h
    refine ⟨_, _, _, _, hK, Snd.pure fun _ _ _ D μ S w a _ _ hO => ?_⟩
    have h7 := cX_ar h1 hO (by simp [Op.operands])
    rw [hx] at h7
    have h8 := optI_ar h2 hl hO (by rintro y rfl; simp [Op.operands])
    have h9 := optI_ar h3 hh hO (by rintro y rfl; simp [Op.operands])
    obtain ⟨z, h10, h11⟩ := sub_run he h7 h8 h9 h4 h5 h6
    exact ⟨z, by simp [execOp, h10], h11⟩
  · rename_i c hx
    split at h
    · rename_i e' xs hc
      obtain ⟨rfl, l, hl, h, hh, ⟨h4, h5, h6⟩, hK⟩ := h
      refine ⟨_, _, _, _, hK, Snd.pure fun _ _ _ D μ S w a _ hD hO => ?_⟩
      have h7 := cX_ar h1 hO (by simp [Op.operands])
      rw [hx] at h7
      have h8 := optI_ar h2 hl hO (by rintro y rfl; simp [Op.operands])
      have h9 := optI_ar h3 hh hO (by rintro y rfl; simp [Op.operands])
      obtain ⟨z, h10, h11⟩ := sub_run he (h7.sli_fz ((hD c (by simp)).trans hc)) h8 h9 h4 h5 h6
      exact ⟨z, by simp [execOp, h10], h11⟩
    · rename_i e' t0 xs hc
      obtain ⟨rfl, l, hl, h, hh, ⟨h4, h5, h6⟩, hK⟩ := h
      split at hK
      · rename_i hmn
        refine ⟨_, _, _, _, hK, ?_⟩
        have hlt : c < s.h.length := (List.getElem?_eq_some_iff.1 hc).1
        refine ⟨by simp, fun j hj => ?_, fun w0 O0 S0 D μ S w a R hD hO next Q hn => ?_⟩
        · simp only [List.mem_cons, List.not_mem_nil, or_false, not_or] at hj
          by_cases hj2 : j < s.h.length
          · rw [List.getElem?_append_left (by simpa using hj2), List.getElem?_set_ne (Ne.symm hj.1)]
          · rw [List.getElem?_eq_none (by simp; omega), List.getElem?_eq_none (by omega)]
        · have h7 := cX_ar h1 hO (by simp [Op.operands])
          rw [hx] at h7
          have h8 := optI_ar h2 hl hO (by rintro y rfl; simp [Op.operands])
          have h9 := optI_ar h3 hh hO (by rintro y rfl; simp [Op.operands])
          have hl0 : l = 0 := by
            cases lo' with
            | none => simp only [optI, Option.some.injEq] at hl; exact hl.symm
            | some y => cases hmn.2
          subst hl0
          have hDc : D c = some (.row e' t0 xs) := (hD c (.inl (by simp))).trans hc
          have hDn : D s.h.length = none := by rw [hD _ (.inr (by simp))]; simp
          have g0 := h7.sli_row hDc
          have h8' := R.ck c
          unfold CR at h8'
          rw [hDc] at h8'
          obtain ⟨cur, us, r1, r2, r3, r4, r5, r6⟩ := h8'
          obtain ⟨o1, o2, o3⟩ := R.own c _ hDc rfl
          obtain ⟨R1, T1⟩ := R.drop hDc
          have hcn : s.h.length ≠ c := by omega
          have hDn1 : fset D c (some .gone) s.h.length = none := by rw [fset_ne hcn]; exact hDn
          have hfree : ∀ j d, fset D c (some .gone) j = some d → d.live = true → (μ j).1 ≠ (μ c).1 := by
            intro j d hd hdl he
            by_cases hj : j = c
            · subst hj; rw [fset_same] at hd; cases hd; cases hdl
            · rw [fset_ne hj] at hd
              exact hj (R.inj j c d _ hd hDc hdl rfl he)
          have r7 := r5.length
          obtain ⟨R2, T2⟩ := R1.adopt (m := (μ c).2) (ck := .row e' t0 (xs.take h.toNat)) hDn1 o1 o2 o3 hfree (Only.refl) (w' := w) (fun T => by
            unfold CR
            rw [fset_same]
            refine ⟨cur, us.take (h.toNat * cz e'), by rw [fset_same]; exact r1, by rw [fset_same]; exact r2, by rw [fset_same]; simp; omega, by rw [fset_same]; exact r4, RepR.take (RepR.mono T.sub T.heap e' _ _ r5) _, ?_⟩
            have e : us.take (h.toNat * cz e') = cur.toList.take (min (h.toNat * cz e') us.length) := by
              conv => lhs; rw [← r6]
              rw [List.take_take]
            rw [List.length_take]
            exact e.symm)
          unfold Oper.wp
          have h10 := run_sliceBounds (P := P) (w := w) (isSl := true) (len := xs.length) (cap := (μ c).2) h8 h9 h4 h5 h6 r3
          have h3' := kindOf_size hk w
          have hrun : (execOp a.eval ⟨dst, .slice t x lo hi none, ty, pos, after, guard⟩).run P w = .ok (.value (.slice (some ⟨(μ c).1, 0, none⟩) h.toNat (μ c).2)) w := by
            simp [execOp, g0, Instr.sliceAt, run_underlying ht, Instr.slice, h10, h3', add_base]
          rw [hrun]
          refine hn w _ _ _ S R2 (fun j => ?_) (T1.trans T2) ?_
          · by_cases hj : j = s.h.length
            · subst hj; simp [fset_same]
            · rw [fset_ne hj]
              by_cases hj2 : j = c
              · subst hj2
                rw [fset_same, if_pos (by simp), List.getElem?_append_left (by simpa using hlt)]
                simp [hlt]
              · rw [fset_ne hj2, if_neg (by simp [hj, hj2])]
          · unfold AR
            rw [fset_same, fset_same]
            refine ⟨rfl, ?_⟩
            simp
            omega
      · refine ⟨_, _, _, _, hK, Snd.pure fun _ _ _ D μ S w a R hD hO => ?_⟩
        have h7 := cX_ar h1 hO (by simp [Op.operands])
        rw [hx] at h7
        have h8 := optI_ar h2 hl hO (by rintro y rfl; simp [Op.operands])
        have h9 := optI_ar h3 hh hO (by rintro y rfl; simp [Op.operands])
        have hDc := (hD c (by simp)).trans hc
        have g0 := h7.sli_row hDc
        have h8' := R.ck c
        unfold CR at h8'
        rw [hDc] at h8'
        obtain ⟨cur, us, r1, r2, r3, r4, r5, r6⟩ := h8'
        have h10 := run_sliceBounds (P := P) (w := w) (isSl := true) (len := xs.length) (cap := (μ c).2) h8 h9 h4 h5 h6 r3
        have h3' := kindOf_size hk w
        refine ⟨.slice (some (if (μ c).2 = l.toNat then ⟨(μ c).1, 0, none⟩ else Addr.add ⟨(μ c).1, 0, none⟩ (l.toNat * cz e'))) (h.toNat - l.toNat) ((μ c).2 - l.toNat), ?_, _, rfl, ⟨_, hDc⟩, fun hn => by rw [if_neg (by omega)]⟩
        simp only [execOp, g0, Instr.sliceAt, Instr.slice]
        simp [run_underlying ht, h10, h3']
        split <;> rfl
    · exact h.elim
  · exact h.elim

/-- What is appended, as it lies in memory. -/
theorem rowOf_src (R : Rl w0 O0 S0 D μ S w) {h : List Ck} {b : A} {u : Value} {e : Nat} {xs : List V} {rd : List Nat} (hr : rowOf h b = some (e, xs, rd)) (hD : ∀ i ∈ rd, D i = h[i]?) (k : AR D μ S w b u) :
    ∃ Ad c, u = .slice Ad xs.length c ∧ (xs = [] ∨ ∃ b us, Ad = some b ∧ RepR S w e xs us ∧ ∀ (j : Nat) z, us[j]? = some z → w.cell? (b.add j) = some z) := by
  have rep : ∀ e xs u, Rep S w (.sl e xs) u → ∃ Ad c, u = .slice Ad xs.length c ∧ (xs = [] ∨ ∃ b us, Ad = some b ∧ RepR S w e xs us ∧ ∀ (j : Nat) z, us[j]? = some z → w.cell? (b.add j) = some z) := by
    rintro e xs u ⟨Ad, c, rfl, _, _, h4⟩
    refine ⟨Ad, c, rfl, ?_⟩
    by_cases hx : xs = []
    · exact .inl hx
    · obtain ⟨b, us, h5, h6, h7⟩ := h4.row 0 hx
      exact .inr ⟨b, us, h5, h6, fun j z hz => by simpa using h7 j z hz⟩
  unfold Go.Proofs.YtgkhakhkebjbpaaEv.rowOf at hr
  split at hr
  · cases hr; exact rep _ _ _ k
  · cases hr; exact ⟨none, 0, k, .inl rfl⟩
  · rename_i i
    split at hr
    · rename_i e t ys hi
      cases hr
      have hDi := (hD i (by simp)).trans hi
      refine ⟨_, _, k.sli_row hDi, .inr ?_⟩
      have h1 := R.ck i
      unfold CR at h1
      rw [hDi] at h1
      obtain ⟨cur, us, h2, _, _, _, h3, h4⟩ := h1
      exact ⟨_, us, rfl, h3, fun j z hz => row_cells h2 j z (by rw [← h4] at hz; exact take_get hz)⟩
    · rename_i e ys hi
      cases hr
      exact rep _ _ _ (k.sli_fz ((hD i (by simp)).trans hi))
    · cases hr
  · rename_i i e0 lo n
    split at hr
    · rename_i e1 t xs0 hi
      split at hr
      · rename_i hle
        cases hr
        obtain ⟨rfl, hle⟩ := hle
        obtain ⟨a, h1, _, h2⟩ := k
        have hlen : ((xs0.drop lo).take n).length = n := by simp; omega
        refine ⟨some a, _, by rw [h1, hlen], ?_⟩
        by_cases hn : n = 0
        · subst hn; exact .inl (by simp)
        · have hDi := (hD i (by simp)).trans hi
          have h3 := R.ck i
          unfold CR at h3
          rw [hDi] at h3
          obtain ⟨cur, us, h4, _, _, _, h5, h6⟩ := h3
          refine .inr ⟨a, (us.drop (lo * cz e1)).take (n * cz e1), rfl, (h5.drop lo).take n, fun j z hz => ?_⟩
          rw [h2 (by omega), base_add]
          have hz' := take_get hz
          rw [List.getElem?_drop] at hz'
          exact row_cells h4 _ z (by rw [← h6] at hz'; exact take_get hz')
      · cases hr
    · cases hr
  · cases hr

theorem good_app {t e t' : Nat} {x y : Operand} {x' y' : X} {i : TypeInfo} (h1 : elemKind P t = some (e, t')) (h2 : P.info? t' = some i) (h3 : i.zero.isSome = true) (hz : ∀ z, i.zero = some z → z.cells.size = i.size) (h4 : cX P t x = some x') (h5 : cX P t y = some y') (h : aop P m s K (.app e t' i.bytes x' y')) :
    Good P ⟨dst, .call ⟨.builtin .append, #[x, y], #[t, t]⟩, ty, pos, after, guard⟩ s K := by
  obtain ⟨e1, e2⟩ := elemKind_spec h1
  obtain ⟨_, i', _, e8, e9, _⟩ := kindOf_spec e2
  rw [h2] at e8
  cases e8
  obtain ⟨zv, hzv⟩ := Option.isSome_iff_exists.1 h3
  have hzs := hz zv hzv
  have hcz := cz_pos e
  have exec : ∀ (a : Act) w u w', (Builtin.append_ #[t, t] ty #[a.eval x, a.eval y]).run P w = .ok u w' → (execOp a.eval ⟨dst, .call ⟨.builtin .append, #[x, y], #[t, t]⟩, ty, pos, after, guard⟩).run P w = .ok (.value u) w' := by
    intro a w u w' h
    simp [execOp, resolve, invoke, builtin, h]
  obtain ⟨⟨e, ys, rd⟩, hy, rfl, h⟩ := h
  split at h
  · rename_i e0 hx
    obtain ⟨⟨hne, hb, hl⟩, hK⟩ := h
    refine ⟨_, _, _, _, hK, Snd.new fun _ _ _ D μ S w a R hD hO => ?_⟩
    have g1 := cX_ar h4 hO (by simp [Op.operands, Call.operands])
    have g2 := cX_ar h5 hO (by simp [Op.operands, Call.operands])
    rw [hx] at g1
    obtain ⟨Ad, c, g3, g4⟩ := rowOf_src R hy hD g2
    rcases g4 with g4 | ⟨b, us, rfl, g5, g6⟩
    · exact absurd g4 hne
    · have g7 := g5.length
      have hlen : 0 < ys.length := List.length_pos_iff.2 hne
      have hr := run_append_nil (P := P) w t ty t' i zv e1 h2 hzv b ys.length c us (by rw [g7, e9]) g6 hlen (by omega) (by omega)
      have hge := grownCap_ge w ys.length 0 t'
      have hle := grownCap_le_maxLen w ys.length 0 t' (by simp only [maxLen]; omega)
      refine ⟨w.drew, us.toArray ++ Builtin.zeroCells zv.cells (grownCap w ys.length 0 t' - ys.length), t', grownCap w ys.length 0 t', _, exec a w _ _ (by rw [show a.eval x = .slice none 0 0 from g1, g3]; exact hr), rfl, rfl, rfl, rfl, ?_⟩
      rintro D' μ' rfl rfl T hh
      refine ⟨?_, ?_⟩
      · unfold CR
        rw [fset_same]
        refine ⟨_, us, by rw [fset_same]; exact hh, ?_, by rw [fset_same]; exact hge, by rw [fset_same]; exact hle, RepR.mono T.sub T.heap e _ _ g5, by simp⟩
        rw [fset_same]
        simp only [Array.size_append, List.size_toArray, size_zeroCells, hzs, e9, g7, ← Nat.add_mul]
        congr 1
        omega
      · unfold AR
        rw [fset_same, fset_same]
        exact ⟨rfl, rfl⟩
  · rename_i c hx
    split at h
    · rename_i e' t0 xs hc
      obtain ⟨rfl, rfl, hcr, ⟨hb, hl⟩, hK⟩ := h
      refine ⟨_, _, _, _, hK, ?_⟩
      have hlt : c < s.h.length := (List.getElem?_eq_some_iff.1 hc).1
      refine ⟨by simp, fun j hj => ?_, fun w0 O0 S0 D μ S w a R hD hO next Q hn => ?_⟩
      · simp only [List.mem_cons, List.not_mem_nil, or_false, not_or] at hj
        by_cases hj2 : j < s.h.length
        · rw [List.getElem?_append_left (by simpa using hj2), List.getElem?_set_ne (Ne.symm hj.1)]
        · rw [List.getElem?_eq_none (by simp; omega), List.getElem?_eq_none (by omega)]
      · have g1 := cX_ar h4 hO (by simp [Op.operands, Call.operands])
        have g2 := cX_ar h5 hO (by simp [Op.operands, Call.operands])
        rw [hx] at g1
        have hDc : D c = some (.row e' t0 xs) := (hD c (.inl (by simp))).trans hc
        have hDn : D s.h.length = none := by rw [hD _ (.inr (by simp))]; simp
        have g0 := g1.sli_row hDc
        obtain ⟨Ad, cp, g3, g4⟩ := rowOf_src R hy (fun j hj => hD j (.inl (by simp [hj]))) g2
        have h8 := R.ck c
        unfold CR at h8
        rw [hDc] at h8
        obtain ⟨cur, us, r1, r2, r3, r4, r5, r6⟩ := h8
        obtain ⟨o1, o2, o3⟩ := R.own c _ hDc rfl
        have r7 := r5.length
        obtain ⟨R1, T1⟩ := R.drop hDc
        have hcn : s.h.length ≠ c := by omega
        have hDn1 : fset D c (some .gone) s.h.length = none := by rw [fset_ne hcn]; exact hDn
        have finish : ∀ w' u D' μ', D' = fset (fset D c (some .gone)) s.h.length (some (.row e' t0 (xs ++ ys))) → Rl w0 O0 S0 D' μ' S w' → Tr D μ S w D' μ' S w' → AR D' μ' S w' (.sli s.h.length) u →
            (Builtin.append_ #[t, t] ty #[a.eval x, a.eval y]).run P w = .ok u w' → Oper.wp P ⟨dst, .call ⟨.builtin .append, #[x, y], #[t, t]⟩, ty, pos, after, guard⟩ a w next Q := by
          rintro w' u D' μ' rfl R' T' hu hrun
          unfold Oper.wp
          rw [exec a w u w' hrun]
          refine hn w' u _ _ S R' (fun j => ?_) T' hu
          by_cases hj : j = s.h.length
          · subst hj; simp [fset_same]
          · rw [fset_ne hj]
            by_cases hj2 : j = c
            · subst hj2
              rw [fset_same, if_pos (by simp), List.getElem?_append_left (by simpa using hlt)]
              simp [hlt]
            · rw [fset_ne hj2, if_neg (by simp [hj, hj2])]
        have hcells : ∀ (j : Nat) z, us[j]? = some z → w.cell? ((⟨(μ c).1, 0, none⟩ : Addr).add j) = some z := fun j z hz => row_cells r1 j z (by rw [← r6] at hz; exact take_get hz)
        have hfree : ∀ j d, fset D c (some .gone) j = some d → d.live = true → (μ j).1 ≠ (μ c).1 := by
          intro j d hd hdl he
          by_cases hj : j = c
          · subst hj; rw [fset_same] at hd; cases hd; cases hdl
          · rw [fset_ne hj] at hd
            exact hj (R.inj j c d _ hd hDc hdl rfl he)
        -- in place
        have inplace : ∀ vs, RepR S w e' ys vs → xs.length + ys.length ≤ (μ c).2 → (Builtin.append_ #[t, t] ty #[a.eval x, a.eval y]).run P w = .ok (.slice (some ⟨(μ c).1, 0, none⟩) (xs.length + ys.length) (μ c).2) (w.setRow (μ c).1 (cur.toList.take (xs.length * i.size) ++ vs ++ cur.toList.drop (xs.length * i.size + vs.length)).toArray) →
            Oper.wp P ⟨dst, .call ⟨.builtin .append, #[x, y], #[t, t]⟩, ty, pos, after, guard⟩ a w next Q := by
          intro vs hvs hroom hrun
          have v1 := hvs.length
          have hfit : (xs.length + ys.length) * cz e' ≤ (μ c).2 * cz e' := Nat.mul_le_mul_right _ hroom
          rw [Nat.add_mul] at hfit
          have hpre : cur.toList.take (xs.length * i.size) = us := by rw [e9, ← r7]; exact r6
          obtain ⟨R2, T2⟩ := R1.adopt (m := (μ c).2) (ck := .row e' t0 (xs ++ ys)) hDn1 o1 o2 o3 hfree Only.setRow (w' := w.setRow (μ c).1 (cur.toList.take (xs.length * i.size) ++ vs ++ cur.toList.drop (xs.length * i.size + vs.length)).toArray) (fun T => by
            unfold CR
            rw [fset_same]
            refine ⟨_, us ++ vs, by rw [fset_same]; exact setRow_heap w _ cur _ t0 _ r1, ?_, by rw [fset_same]; simpa using hroom, by rw [fset_same]; exact r4, RepR.mono T.sub T.heap e' _ _ (r5.append hvs), ?_⟩
            · rw [fset_same]
              simp only [List.size_toArray, List.length_append, List.length_take, List.length_drop, Array.length_toList, r2, e9, v1]
              omega
            · show List.take (us ++ vs).length (cur.toList.take (xs.length * i.size) ++ vs ++ cur.toList.drop (xs.length * i.size + vs.length)) = us ++ vs
              rw [hpre]
              exact List.take_left)
          refine finish _ _ _ _ rfl R2 (T1.trans T2) ?_ hrun
          unfold AR
          rw [fset_same, fset_same]
          exact ⟨rfl, by simp⟩
        rw [g0, g3] at *
        rcases g4 with rfl | ⟨b, vs, rfl, g5, g6⟩
        · -- nothing is appended
          refine inplace [] rfl (by simpa using r3) ?_
          have hself : w.setRow (μ c).1 (cur.toList.take (xs.length * i.size) ++ [] ++ cur.toList.drop (xs.length * i.size + 0)).toArray = w := by
            simp only [List.append_nil, Nat.add_zero, List.take_append_drop, Array.toArray_toList]
            exact setRow_self w _ cur t0 _ r1
          simp only [List.length_nil, Nat.add_zero] at hself ⊢
          rw [hself]
          cases Ad <;> simp [Builtin.append_, run_underlying e1, sizeOf, typeInfo, h2, Builtin.lenOf, r3, Builtin.firstCells, loadCells, loadCellsFrom, storeCells]
        · have v1 := g5.length
          by_cases hroom : xs.length + ys.length ≤ (μ c).2
          · have hfit : (xs.length + ys.length) * cz e' ≤ (μ c).2 * cz e' := Nat.mul_le_mul_right _ hroom
            rw [Nat.add_mul] at hfit
            exact inplace vs g5 hroom (run_append_room (P := P) w t ty t0 i e1 h2 (μ c).1 xs.length (μ c).2 cur r1 b ys.length cp vs (by rw [v1, e9]) g6 g5.one hroom (by rw [e9, v1, r2]; omega))
          · have hr := run_append_grow (P := P) w t ty t0 i zv e1 h2 hzv ⟨(μ c).1, 0, none⟩ xs.length (μ c).2 us (by rw [r7, e9]) hcells b ys.length cp vs (by rw [v1, e9]) g6 (by omega) (by omega) (growslice_fits (by omega) hb)
            have hge := grownCap_ge w (xs.length + ys.length) (μ c).2 t0
            have hle := grownCap_le_maxLen w (xs.length + ys.length) (μ c).2 t0 (by simp only [maxLen]; omega)
            have R1' : Rl w0 O0 S0 (fset D c (some .gone)) μ S w.drew := R1.drew
            have T1' : Tr D μ S w (fset D c (some .gone)) μ S w.drew := T1.trans (Tr.heapEq rfl)
            have Tn : Tr (fset D c (some .gone)) μ S w.drew (fset (fset D c (some .gone)) s.h.length (some (.row e' t0 (xs ++ ys)))) (fset μ s.h.length (w.drew.heap.size, grownCap w (xs.length + ys.length) (μ c).2 t0)) S (w.drew.alloc (.cells (us.toArray ++ vs.toArray ++ Builtin.zeroCells zv.cells (grownCap w (xs.length + ys.length) (μ c).2 t0 - (xs.length + ys.length))) t0)) :=
              Tr.fresh hDn1 (fun q hq => RowKit.Below.heap_alloc w.drew _ q (R1'.lt q hq))
            obtain ⟨R2, T2⟩ := R1'.alloc (n := grownCap w (xs.length + ys.length) (μ c).2 t0) (c := .row e' t0 (xs ++ ys)) (o := .cells (us.toArray ++ vs.toArray ++ Builtin.zeroCells zv.cells (grownCap w (xs.length + ys.length) (μ c).2 t0 - (xs.length + ys.length))) t0) hDn1 (by
              unfold CR
              rw [fset_same]
              refine ⟨_, us ++ vs, by rw [fset_same]; exact heap_alloc_new w.drew _, ?_, by rw [fset_same]; simpa using hge, by rw [fset_same]; exact hle, RepR.mono (T1'.trans Tn).sub (T1'.trans Tn).heap e' _ _ (r5.append g5), by rw [Array.toList_append, Array.toList_append]; exact List.take_left⟩
              rw [fset_same]
              simp only [Array.size_append, List.size_toArray, size_zeroCells, hzs, e9, r7, v1, ← Nat.add_mul]
              congr 1
              omega)
            refine finish _ _ _ _ rfl R2 (T1'.trans T2) ?_ hr
            unfold AR
            rw [fset_same, fset_same]
            exact ⟨rfl, by simp⟩
    · exact h.elim
  · exact h.elim
theorem repR_bytes {S : Nat → Prop} {w : World} (s : ByteArray) : RepR S w 0 (bsV s) (Lib.strCells s) := by
  unfold bsV Lib.strCells
  induction s.data.toList with
  | nil => rfl
  | cons x l ih => exact ⟨.int .u8 x.toNat, _, rfl, rfl, rfl, rfl, ih⟩
theorem good_aps {t u0 t' : Nat} {x y : Operand} {x' y' : X} {i : TypeInfo} (h1 : elemKind P t = some (0, t')) (hu0 : P.underlying u0 = some .string) (h2 : P.info? t' = some i) (h3 : i.zero.isSome = true) (hz : ∀ z, i.zero = some z → z.cells.size = i.size) (h4 : cX P t x = some x') (h5 : cX P u0 y = some y') (h : aop P m s K (.aps t' i.bytes x' y')) :
    Good P ⟨dst, .call ⟨.builtin .append, #[x, y], #[t, u0]⟩, ty, pos, after, guard⟩ s K := by
  obtain ⟨e1, e2⟩ := elemKind_spec h1
  obtain ⟨_, i', _, e8, e9, _⟩ := kindOf_spec e2
  rw [h2] at e8
  cases e8
  obtain ⟨zv, hzv⟩ := Option.isSome_iff_exists.1 h3
  have hzs := hz zv hzv
  have e9' : i.size = 1 := e9
  have hcz1 : cz 0 = 1 := rfl
  have exec : ∀ (a : Act) w u w', (Builtin.append_ #[t, u0] ty #[a.eval x, a.eval y]).run P w = .ok u w' → (execOp a.eval ⟨dst, .call ⟨.builtin .append, #[x, y], #[t, u0]⟩, ty, pos, after, guard⟩).run P w = .ok (.value u) w' := by
    intro a w u w' h
    simp [execOp, resolve, invoke, builtin, h]
  simp only [aop] at h
  split at h
  case h_2 => exact h.elim
  rename_i bs hy
  have hbl : (bsV bs).length = bs.size := by simp [bsV]
  have hsl := Lib.strCells_length bs
  split at h
  · rename_i e0 hx
    obtain ⟨⟨hne, hb, hl⟩, hK⟩ := h
    refine ⟨_, _, _, _, hK, Snd.new fun _ _ _ D μ S w a R hD hO => ?_⟩
    have g1 := cX_ar h4 hO (by simp [Op.operands, Call.operands])
    have g2 := cX_ar h5 hO (by simp [Op.operands, Call.operands])
    rw [hx] at g1
    rw [hy] at g2
    have g2' : a.eval y = .string bs := g2
    have g5 := repR_bytes (S := S) (w := w) bs
    have hr := run_append_nil_string (P := P) w t u0 ty t' i zv e1 hu0 h2 hzv bs hne (by omega) (by omega)
    have hge := grownCap_ge w bs.size 0 t'
    have hle := grownCap_le_maxLen w bs.size 0 t' (by simp only [maxLen]; omega)
    refine ⟨w.drew, bs.data.map (fun b => Value.int .u8 b.toNat) ++ Builtin.zeroCells zv.cells (grownCap w bs.size 0 t' - bs.size), t', grownCap w bs.size 0 t', _, exec a w _ _ (by rw [show a.eval x = .slice none 0 0 from g1, g2']; exact hr), rfl, rfl, rfl, rfl, ?_⟩
    rintro D' μ' rfl rfl T hh
    have hbs : (bs.data.map (fun b => Value.int .u8 b.toNat)).toList = Lib.strCells bs := by simp [Lib.strCells]
    refine ⟨?_, ?_⟩
    · unfold CR
      rw [fset_same]
      refine ⟨_, Lib.strCells bs, by rw [fset_same]; exact hh, ?_, by rw [fset_same, hbl]; exact hge, by rw [fset_same]; exact hle, RepR.mono T.sub T.heap 0 _ _ g5, by rw [Array.toList_append, hbs]; exact List.take_left⟩
      rw [fset_same]
      have hs1 : (bs.data.map (fun b => Value.int .u8 b.toNat)).size = bs.size := by rw [Array.size_map]; rfl
      simp only [Array.size_append, hs1, size_zeroCells, hzs, e9', cz]
      simp
      omega
    · unfold AR
      rw [fset_same, fset_same]
      exact ⟨rfl, by simp [hbl]⟩
  · rename_i c hx
    split at h
    · rename_i e' t0 xs hc
      obtain ⟨rfl, rfl, ⟨hb, hl⟩, hK⟩ := h
      refine ⟨_, _, _, _, hK, ?_⟩
      have hlt : c < s.h.length := (List.getElem?_eq_some_iff.1 hc).1
      refine ⟨by simp, fun j hj => ?_, fun w0 O0 S0 D μ S w a R hD hO next Q hn => ?_⟩
      · simp only [List.mem_cons, List.not_mem_nil, or_false, not_or] at hj
        by_cases hj2 : j < s.h.length
        · rw [List.getElem?_append_left (by simpa using hj2), List.getElem?_set_ne (Ne.symm hj.1)]
        · rw [List.getElem?_eq_none (by simp; omega), List.getElem?_eq_none (by omega)]
      · have g1 := cX_ar h4 hO (by simp [Op.operands, Call.operands])
        have g2 := cX_ar h5 hO (by simp [Op.operands, Call.operands])
        rw [hx] at g1
        have hDc : D c = some (.row 0 t0 xs) := (hD c (.inl (by simp))).trans hc
        have hDn : D s.h.length = none := by rw [hD _ (.inr (by simp))]; simp
        have g0 := g1.sli_row hDc
        rw [hy] at g2
        have g3 : a.eval y = .string bs := g2
        have g5 := repR_bytes (S := S) (w := w) bs
        have h8 := R.ck c
        unfold CR at h8
        rw [hDc] at h8
        obtain ⟨cur, us, r1, r2, r3, r4, r5, r6⟩ := h8
        obtain ⟨o1, o2, o3⟩ := R.own c _ hDc rfl
        have r7 := r5.length
        obtain ⟨R1, T1⟩ := R.drop hDc
        have hcn : s.h.length ≠ c := by omega
        have hDn1 : fset D c (some .gone) s.h.length = none := by rw [fset_ne hcn]; exact hDn
        have finish : ∀ w' u D' μ', D' = fset (fset D c (some .gone)) s.h.length (some (.row 0 t0 (xs ++ bsV bs))) → Rl w0 O0 S0 D' μ' S w' → Tr D μ S w D' μ' S w' → AR D' μ' S w' (.sli s.h.length) u →
            (Builtin.append_ #[t, u0] ty #[a.eval x, a.eval y]).run P w = .ok u w' → Oper.wp P ⟨dst, .call ⟨.builtin .append, #[x, y], #[t, u0]⟩, ty, pos, after, guard⟩ a w next Q := by
          rintro w' u D' μ' rfl R' T' hu hrun
          unfold Oper.wp
          rw [exec a w u w' hrun]
          refine hn w' u _ _ S R' (fun j => ?_) T' hu
          by_cases hj : j = s.h.length
          · subst hj; simp [fset_same]
          · rw [fset_ne hj]
            by_cases hj2 : j = c
            · subst hj2
              rw [fset_same, if_pos (by simp), List.getElem?_append_left (by simpa using hlt)]
              simp [hlt]
            · rw [fset_ne hj2, if_neg (by simp [hj, hj2])]
        have hcells : ∀ (j : Nat) z, us[j]? = some z → w.cell? ((⟨(μ c).1, 0, none⟩ : Addr).add j) = some z := fun j z hz => row_cells r1 j z (by rw [← r6] at hz; exact take_get hz)
        have hfree : ∀ j d, fset D c (some .gone) j = some d → d.live = true → (μ j).1 ≠ (μ c).1 := by
          intro j d hd hdl he
          by_cases hj : j = c
          · subst hj; rw [fset_same] at hd; cases hd; cases hdl
          · rw [fset_ne hj] at hd
            exact hj (R.inj j c d _ hd hDc hdl rfl he)
        -- in place
        have inplace : ∀ vs, RepR S w 0 (bsV bs) vs → xs.length + bs.size ≤ (μ c).2 → (Builtin.append_ #[t, u0] ty #[a.eval x, a.eval y]).run P w = .ok (.slice (some ⟨(μ c).1, 0, none⟩) (xs.length + bs.size) (μ c).2) (w.setRow (μ c).1 (cur.toList.take (xs.length * i.size) ++ vs ++ cur.toList.drop (xs.length * i.size + vs.length)).toArray) →
            Oper.wp P ⟨dst, .call ⟨.builtin .append, #[x, y], #[t, u0]⟩, ty, pos, after, guard⟩ a w next Q := by
          intro vs hvs hroom hrun
          have v1 : vs.length = bs.size := by
            have := hvs.length
            rw [hbl, hcz1, Nat.mul_one] at this
            exact this
          have r2 : cur.size = (μ c).2 := by rw [r2, hcz1, Nat.mul_one]
          have r7 : us.length = xs.length := by rw [r7, hcz1, Nat.mul_one]
          have hpre : cur.toList.take (xs.length * i.size) = us := by rw [e9', Nat.mul_one, ← r7]; exact r6
          obtain ⟨R2, T2⟩ := R1.adopt (m := (μ c).2) (ck := .row 0 t0 (xs ++ bsV bs)) hDn1 o1 o2 o3 hfree Only.setRow (w' := w.setRow (μ c).1 (cur.toList.take (xs.length * i.size) ++ vs ++ cur.toList.drop (xs.length * i.size + vs.length)).toArray) (fun T => by
            unfold CR
            rw [fset_same]
            refine ⟨_, us ++ vs, by rw [fset_same]; exact setRow_heap w _ cur _ t0 _ r1, ?_, by rw [fset_same, List.length_append, hbl]; exact hroom, by rw [fset_same]; exact r4, RepR.mono T.sub T.heap 0 _ _ (r5.append hvs), ?_⟩
            · rw [fset_same]
              simp only [List.size_toArray, List.length_append, List.length_take, List.length_drop, Array.length_toList, r2, e9', v1, hcz1, Nat.mul_one]
              omega
            · show List.take (us ++ vs).length (cur.toList.take (xs.length * i.size) ++ vs ++ cur.toList.drop (xs.length * i.size + vs.length)) = us ++ vs
              rw [hpre]
              exact List.take_left)
          refine finish _ _ _ _ rfl R2 (T1.trans T2) ?_ hrun
          unfold AR
          rw [fset_same, fset_same]
          exact ⟨rfl, by simp [hbl]⟩
        rw [g0, g3] at *
        · have v1 := hsl
          by_cases hroom : xs.length + bs.size ≤ (μ c).2
          · exact inplace (Lib.strCells bs) g5 hroom (by
              have := Lib.run_append_room_string (P := P) w t u0 ty t0 i e1 hu0 h2 e9' (μ c).1 xs.length (μ c).2 cur r1 bs hroom (by rw [r2, hcz1]; omega)
              rw [e9', Nat.mul_one, hsl]
              exact this)
          · have hr := Lib.run_append_grow_string (P := P) w t u0 ty t0 i zv e1 hu0 h2 hzv ⟨(μ c).1, 0, none⟩ xs.length (μ c).2 us (by rw [r7, e9]) hcells bs (by omega) (by omega) (growslice_fits (by omega) hb)
            have hge := grownCap_ge w (xs.length + bs.size) (μ c).2 t0
            have hle := grownCap_le_maxLen w (xs.length + bs.size) (μ c).2 t0 (by simp only [maxLen]; omega)
            have R1' : Rl w0 O0 S0 (fset D c (some .gone)) μ S w.drew := R1.drew
            have T1' : Tr D μ S w (fset D c (some .gone)) μ S w.drew := T1.trans (Tr.heapEq rfl)
            have Tn : Tr (fset D c (some .gone)) μ S w.drew (fset (fset D c (some .gone)) s.h.length (some (.row 0 t0 (xs ++ bsV bs)))) (fset μ s.h.length (w.drew.heap.size, grownCap w (xs.length + bs.size) (μ c).2 t0)) S (w.drew.alloc (.cells (us.toArray ++ (Lib.strCells bs).toArray ++ Builtin.zeroCells zv.cells (grownCap w (xs.length + bs.size) (μ c).2 t0 - (xs.length + bs.size))) t0)) :=
              Tr.fresh hDn1 (fun q hq => RowKit.Below.heap_alloc w.drew _ q (R1'.lt q hq))
            obtain ⟨R2, T2⟩ := R1'.alloc (n := grownCap w (xs.length + bs.size) (μ c).2 t0) (c := .row 0 t0 (xs ++ bsV bs)) (o := .cells (us.toArray ++ (Lib.strCells bs).toArray ++ Builtin.zeroCells zv.cells (grownCap w (xs.length + bs.size) (μ c).2 t0 - (xs.length + bs.size))) t0) hDn1 (by
              unfold CR
              rw [fset_same]
              refine ⟨_, us ++ Lib.strCells bs, by rw [fset_same]; exact heap_alloc_new w.drew _, ?_, by rw [fset_same, List.length_append, hbl]; exact hge, by rw [fset_same]; exact hle, RepR.mono (T1'.trans Tn).sub (T1'.trans Tn).heap 0 _ _ (r5.append g5), by rw [Array.toList_append, Array.toList_append]; exact List.take_left⟩
              rw [fset_same]
              simp only [Array.size_append, List.size_toArray, size_zeroCells, hzs, e9', r7, v1, hcz1, Nat.mul_one]
              omega)
            refine finish _ _ _ _ rfl R2 (T1'.trans T2) ?_ hr
            unfold AR
            rw [fset_same, fset_same]
            exact ⟨rfl, by simp [hbl]⟩
    · exact h.elim
  · exact h.elim
theorem zeroCells_made (z : Array Value) (n : Nat) : Builtin.zeroCells z n = madeCells z (n * z.size) := rfl
theorem good_clr {t e t' : TypeId} {x : Operand} {x' : X} {z : V} (h1 : elemKind P t = some (e, t')) (h2 : zeroV P t' e = some z) (h3 : cX P t x = some x') (h : aop P m s K (.clr e z x')) :
    Good P ⟨dst, .call ⟨.builtin .clear, #[x], #[t]⟩, ty, pos, after, guard⟩ s K := by
  obtain ⟨e1, e2⟩ := elemKind_spec h1
  simp only [aop] at h
  split at h
  · rename_i c e0 lo n hx
    split at h
    · rename_i e3 t0 xs hc
      obtain ⟨rfl, rfl, hle, hK⟩ := h
      refine ⟨_, _, _, _, hK, Snd.wrv hc rfl rfl (fun D μ S w w' u hD hu => ?_) (fun _ _ _ D μ S w a R hD hO => ?_)⟩
      · have h4 := hu.sli_row hD
        unfold AR
        rw [fset_same]
        exact ⟨by rw [h4]; rfl, by rw [h4]; simp; omega⟩
      · have h4 := cX_ar h3 hO (by simp [Op.operands, Call.operands])
        rw [hx] at h4
        obtain ⟨ad, h5, _, h6⟩ := h4
        obtain ⟨i, v, e4, e5, e6, e7, e8⟩ := zeroV_rep (S := S) (w := w) h2
        have h8 := R.ck c
        unfold CR at h8
        rw [hD] at h8
        obtain ⟨cur, us, g1, g2, g3, g4, g5, g6⟩ := h8
        have g7 := g5.length
        by_cases hn : n = 0
        · subst hn
          refine ⟨w, .tuple #[], by simp [execOp, resolve, invoke, builtin, h5, Builtin.clear_, run_underlying e1], Only.refl, ⟨[], rfl, rfl⟩, fun T => ?_⟩
          unfold CR
          rw [fset_same]
          refine ⟨cur, us, g1, g2, by simpa using g3, g4, ?_, g6⟩
          simp only [List.replicate_zero, List.append_nil, Nat.add_zero, List.take_append_drop]
          exact RepR.mono T.sub T.heap _ _ _ g5
        · have had := h6 (by omega)
          rw [add_base] at had
          have hz1 := (made_row (S := S) (w := w) e6 e7 e8 n)
          have hzl : (madeCells v.cells (n * cz e0)).toList.length = n * cz e0 := by simp [size_madeCells]
          have hfit : lo * cz e0 + n * cz e0 ≤ us.length := by
            rw [g7, ← Nat.add_mul]
            exact Nat.mul_le_mul_right _ hle
          have g9 : us.length ≤ cur.size := by have := congrArg List.length g6; simp at this; omega
          have hst := run_storeCells_at P (μ c).1 (lo * cz e0) t0 (madeCells v.cells (n * cz e0)).toList 0 cur w g1 (by rw [hzl]; omega) hz1.one
          have hzv : ∀ w : World, (zeroValue t').run P w = .ok v w := fun w => by simp [zeroValue, typeInfo, e4, e5]
          refine ⟨w.setRow (μ c).1 (put cur.toList (lo * cz e0) (madeCells v.cells (n * cz e0)).toList).toArray, .tuple #[], ?_, Only.setRow, ⟨[], rfl, rfl⟩, fun T => ?_⟩
          · have hst' : (storeCells ⟨(μ c).1, lo * cz e0, none⟩ (madeCells v.cells (n * cz e0)).toList).run P w = .ok () (w.setRow (μ c).1 (put cur.toList (lo * cz e0) (madeCells v.cells (n * cz e0)).toList).toArray) := by
              have := hst
              simpa [put, Nat.add_zero] using this
            obtain ⟨k, rfl⟩ : ∃ k, n = k + 1 := ⟨n - 1, by omega⟩
            have hzz : Builtin.zeroCells v.cells (k + 1) = madeCells v.cells ((k + 1) * cz e0) := by rw [zeroCells_made, e7]
            have hcl : (Builtin.clear_ #[t] ty #[.slice (some ad) (k + 1) ((μ c).2 - lo)]).run P w = .ok (.tuple #[]) (w.setRow (μ c).1 (put cur.toList (lo * cz e0) (madeCells v.cells ((k + 1) * cz e0)).toList).toArray) := by
              simp [Builtin.clear_, run_underlying e1, hzv, hzz, had]
              rw [hst']
              rfl
            simp [execOp, resolve, invoke, builtin, h5, hcl]
          · unfold CR
            rw [fset_same]
            refine ⟨_, put us (lo * cz e0) (madeCells v.cells (n * cz e0)).toList, setRow_heap w _ cur _ t0 _ g1, ?_, by simp; omega, g4, ?_, put_take g6 (by rw [hzl]; exact hfit)⟩
            · rw [← g2]
              simp only [List.size_toArray]
              rw [put_length (by rw [hzl]; simp; omega)]
              simp
            · refine RepR.mono T.sub T.heap _ _ _ ?_
              unfold Go.Proofs.YtgkhakhkebjbpaaEv.put
              rw [hzl, ← Nat.add_mul]
              exact ((g5.take lo).append hz1).append (g5.drop (lo + n))
    · exact h.elim
  · exact h.elim
/-! ### bytes made a string -/
theorem unBs_rep : ∀ {xs : List V} {us : List Value} {l : List UInt8}, unBs xs = some l → RepR S w 0 xs us → us = l.map fun b => .int .u8 (b.toNat : Int)
  | [], us, l, h, k => by
    simp only [unBs, Option.some.injEq] at h
    subst h
    exact k
  | x :: xs, us, l, h, k => by
    obtain ⟨u, us', rfl, h1, _, _, h2⟩ := k
    cases x with
    | int kd n =>
      cases kd <;> simp only [unBs] at h <;> try contradiction
      split at h
      · rename_i hn
        obtain ⟨l', h3, rfl⟩ := Option.map_eq_some_iff.1 h
        have ih := unBs_rep h3 h2
        have hu : u = .int .u8 n := h1
        rw [ih, hu, List.map_cons, show ((UInt8.ofNat n.toNat).toNat : Int) = n by simp [UInt8.toNat_ofNat']; omega]
        rfl
      · cases h
    | _ => simp [unBs] at h
theorem unBs_len : ∀ {xs : List V} {l : List UInt8}, unBs xs = some l → l.length = xs.length
  | [], l, h => by simp only [unBs, Option.some.injEq] at h; subst h; rfl
  | x :: xs, l, h => by
    cases x with
    | int kd n =>
      cases kd <;> simp only [unBs] at h <;> try contradiction
      split at h
      · obtain ⟨l', h3, rfl⟩ := Option.map_eq_some_iff.1 h
        simp [unBs_len h3]
      · cases h
    | _ => simp [unBs] at h
theorem good_b2s {t d e : TypeId} {x : Operand} {x' : X} (ht : P.underlying t = some (.slice e)) (he : P.underlying e = some (.int .u8)) (hd : P.underlying d = some .string) (h1 : cX P t x = some x') (h : aop P m s K (.b2s x')) : Good P ⟨dst, .convert t d x, ty, pos, after, guard⟩ s K := by
  obtain ⟨⟨e0, xs, rd⟩, hr, rfl, l, hl, hK⟩ := h
  refine ⟨_, _, _, _, hK, Snd.pure fun _ _ _ D μ S w a R hD hO => ?_⟩
  have h4 := cX_ar h1 hO (by simp [Op.operands])
  obtain ⟨Ad, c, h5, h6⟩ := rowOf_src R hr hD h4
  have hlen := unBs_len hl
  refine ⟨.string ⟨l.toArray⟩, ?_, rfl⟩
  rcases h6 with rfl | ⟨b, us, rfl, h7, h8⟩
  · simp only [unBs, Option.some.injEq] at hl
    subst hl
    have hrun : (convert t d (.slice Ad 0 c)).run P w = .ok (.string ⟨([] : List UInt8).toArray⟩) w := by
      cases Ad with
      | none =>
        rw [run_convert_bytes_string w t d e none 0 c ht he hd]
        simp [Conv.bytesToString]
        rfl
      | some b => exact run_convert_bytes_back w t d e b c [] ht he hd (fun j hj => by cases hj)
    simp [execOp, h5, hrun]
  · have h9 := unBs_rep hl h7
    have hrun := run_convert_bytes_back w t d e b c l ht he hd (fun j hj => h8 j _ (by rw [h9, List.getElem?_map, List.getElem?_eq_getElem hj]; rfl))
    rw [hlen] at hrun
    simp [execOp, h5, hrun]
end
end Go.Proofs.YtgkhakhkebjbpaaEv
namespace Go.Proofs.YtgkhakhkebjbpaaEv
open Go

section
variable {P : Program} {D : Nat → Option Ck} {μ : Nat → Nat × Nat} {S S' : Nat → Prop} {w w' : World} {s : St} {a : Act} {K : KT} {m : Nat → Bool} {dst : Option Tmp} {ty : TypeId} {pos : String} {after : Array Edge} {guard : Option (Nat × Bool)}
variable {w0 : World} {O0 S0 : Nat → Prop}

/-- A row, read as a slice. -/
theorem RepR.toAt {e b : Nat} (hb : S b) : ∀ {xs : List V} {us : List Value} (i : Nat), RepR S w e xs us → (∀ (j : Nat) z, us[j]? = some z → w.cell? (Addr.add ⟨b, 0, none⟩ (i * cz e + j)) = some z) → RepAt S w (some ⟨b, 0, none⟩) e i xs
  | [], _, _, _, _ => trivial
  | x :: xs, _, i, ⟨u, us', h1, h2, h3, h4, h5⟩, hc => by
    subst h1
    refine ⟨⟨_, u, rfl, hb, h2, h3, h4, fun j y hy => hc j y ?_⟩, RepR.toAt hb (i + 1) h5 (fun j z hz => ?_)⟩
    · rw [List.getElem?_append_left (by have := (Array.getElem?_eq_some_iff.1 hy).1; simpa using this)]
      simpa using hy
    · have := hc (cz e + j) z (by rw [List.getElem?_append_right (by simp [h3])]; simpa [h3] using hz)
      rwa [show i * cz e + (cz e + j) = (i + 1) * cz e + j by rw [Nat.add_mul]; omega] at this

theorem RepR.toAtA {e b o : Nat} (hb : S b) : ∀ {xs : List V} {us : List Value} (i : Nat), RepR S w e xs us → (∀ (j : Nat) z, us[j]? = some z → w.cell? ((Addr.add ⟨b, 0, none⟩ o).add (i * cz e + j)) = some z) → RepAt S w (some (Addr.add ⟨b, 0, none⟩ o)) e i xs
  | [], _, _, _, _ => trivial
  | x :: xs, _, i, ⟨u, us', h1, h2, h3, h4, h5⟩, hc => by
    subst h1
    refine ⟨⟨_, u, rfl, by rw [add_block]; exact hb, h2, h3, h4, fun j y hy => hc j y ?_⟩, RepR.toAtA hb (i + 1) h5 (fun j z hz => ?_)⟩
    · rw [List.getElem?_append_left (by have := (Array.getElem?_eq_some_iff.1 hy).1; simpa using this)]
      simpa using hy
    · have := hc (cz e + j) z (by rw [List.getElem?_append_right (by simp [h3])]; simpa [h3] using hz)
      rwa [show i * cz e + (cz e + j) = (i + 1) * cz e + j by rw [Nat.add_mul]; omega] at this

theorem AR.shut (hS : ∀ b, S b → S' b) {b : A} {u : Value} (hb : b.shut = true) (k : AR D μ S w b u) {D' : Nat → Option Ck} {μ' : Nat → Nat × Nat} : AR D' μ' S' w b u := by
  cases b <;> first | (cases hb; done) | skip
  · exact Rep.mono hS (fun _ _ => rfl) _ _ k
  · obtain ⟨b, y, h1, h2, h3, h4, h5, h6⟩ := k
    exact ⟨b, y, h1, hS _ h2, Rep.mono hS (fun _ _ => rfl) _ _ h3, h4, h5, h6⟩
  · obtain ⟨b, us, h1, h2, h3, h4⟩ := k
    exact ⟨b, us, h1, hS _ h2, RepL.mono hS (fun _ _ => rfl) _ _ h3, h4⟩
theorem ARs.shut (hS : ∀ b, S b → S' b) {D' : Nat → Option Ck} {μ' : Nat → Nat × Nat} : ∀ {bs : List A} {us : List Value}, bs.all A.shut = true → ARs D μ S w bs us → ARs D' μ' S' w bs us
  | [], _, _, k => k
  | b :: bs, _, h, ⟨u, us', h1, h2, h3⟩ => by
    simp only [List.all_cons, Bool.and_eq_true] at h
    exact ⟨u, us', h1, AR.shut hS h.1 h2, ARs.shut hS h.2 h3⟩
theorem toVs_ar {h : List Ck} : ∀ {az : List A} {xs : List V} {us : List Value}, toVs h az = some xs → ARs D μ S w az us → (∀ z ∈ us, z.oneCell' = true) → RepL S w xs us
  | [], xs, us, h, k, _ => by simp only [toVs, Option.some.injEq] at h; subst h; exact k
  | b :: az, xs, us, h, ⟨u, us', h1, h2, h3⟩, hz => by
    simp only [toVs] at h
    split at h
    · rename_i x ys h4 h5
      cases h
      subst h1
      have h6 := toV_ar h4 h2
      exact ⟨u, us', rfl, h6.notAg (hz u List.mem_cons_self), h6, toVs_ar h5 h3 (fun z hz' => hz z (List.mem_cons_of_mem _ hz'))⟩
    · cases h

/-- The blocks that are lent. -/
def lent (S : Nat → Prop) (D : Nat → Option Ck) (μ : Nat → Nat × Nat) (rd : List Nat) : Nat → Prop := fun b => S b ∨ ∃ i ∈ rd, (∃ c, D i = some c ∧ c.live = true) ∧ b = (μ i).1
theorem toArg1_ar (R : Rl w0 O0 S0 D μ S w) {h : List Ck} {b c : A} {u : Value} {rd rd' : List Nat} (hb : toArg1 h b = some (c, rd)) (hsub : ∀ i ∈ rd, i ∈ rd') (hD : ∀ i ∈ rd, D i = h[i]?) (k : AR D μ S w b u) : AR (fun _ => none) (fun _ => (0, 0)) (lent S D μ rd') w c u := by
  have hS : ∀ b, S b → lent S D μ rd' b := fun b hb => .inl hb
  have mono : ∀ x u, Rep S w x u → Rep (lent S D μ rd') w x u := fun x u hx => Rep.mono hS (fun _ _ => rfl) x u hx
  unfold toArg1 at hb
  split at hb
  · cases hb; exact mono _ _ k
  · cases hb; exact ⟨none, 0, k, Nat.le_refl _, Nat.zero_le _, trivial⟩
  · rename_i i
    split at hb
    · rename_i e xs hi
      cases hb
      exact mono _ _ (k.sli_fz ((hD i (by simp)).trans hi))
    · rename_i e t xs hi
      cases hb
      have hDi := (hD i (by simp)).trans hi
      have h1 := k.sli_row hDi
      have h2 := R.ck i
      unfold CR at h2
      rw [hDi] at h2
      obtain ⟨cur, us, g1, g2, g3, g4, g5, g6⟩ := h2
      refine ⟨_, _, h1, g3, g4, RepR.toAt (.inr ⟨i, hsub i (by simp), ⟨_, hDi, rfl⟩, rfl⟩) 0 (RepR.mono hS (fun _ _ => rfl) _ _ _ g5) (fun j z hz => ?_)⟩
      simp only [Nat.zero_mul, Nat.zero_add]
      exact row_cells g1 j z (by rw [← g6] at hz; exact take_get hz)
    · cases hb
  · rename_i i off
    split at hb
    · rename_i cs hi
      cases hb
      have hDi := (hD i (by simp)).trans hi
      have h2 := R.ck i
      unfold CR at h2
      rw [hDi] at h2
      obtain ⟨g1, us, g2, g3⟩ := h2
      exact ⟨_, us.drop off, k.2, .inl (by rw [add_block]; exact g1), (RepL.mono hS (fun _ _ => rfl) _ _ g2).drop off, fun j z hz => by
        rw [Deep.add_add]; exact g3 _ z (by simpa using hz)⟩
    · cases hb
  · rename_i i e0 lo n
    split at hb
    · rename_i e1 t xs hi
      split at hb
      · rename_i hle
        cases hb
        obtain ⟨rfl, hle⟩ := hle
        obtain ⟨a, h1, _, h2⟩ := k
        have hDi := (hD i (by simp)).trans hi
        have h3 := R.ck i
        unfold CR at h3
        rw [hDi] at h3
        obtain ⟨cur, us, g1, g2, g3, g4, g5, g6⟩ := h3
        have hlen : ((xs.drop lo).take n).length = n := by simp; omega
        refine ⟨some a, _, by rw [h1, hlen], by rw [hlen]; omega, Nat.le_trans (Nat.sub_le _ _) g4, ?_⟩
        by_cases hn : n = 0
        · subst hn; simp [RepAt]
        · rw [h2 (by omega)]
          have h5 := RepR.mono hS (fun _ _ => rfl) _ _ _ ((g5.drop lo).take n)
          refine RepR.toAtA (b := (μ i).1) (o := lo * cz e1) (.inr ⟨i, hsub i (by simp), ⟨_, hDi, rfl⟩, rfl⟩) 0 h5 (fun j z hz => ?_)
          simp only [Nat.zero_mul, Nat.zero_add]
          rw [base_add]
          have hz' := take_get hz
          rw [List.getElem?_drop] at hz'
          exact row_cells g1 _ z (by rw [← g6] at hz'; exact take_get hz')
      · cases hb
    · cases hb
  · cases hb
    obtain ⟨b, y, h1, h2, h3, h4, h5, h6⟩ := k
    exact ⟨b, y, h1, .inl h2, mono _ _ h3, h4, h5, h6⟩
  · cases hb
    obtain ⟨b, us, h1, h2, h3, h4⟩ := k
    exact ⟨b, us, h1, .inl h2, RepL.mono hS (fun _ _ => rfl) _ _ h3, h4⟩
  · rename_i f cs
    split at hb
    · rename_i hcs
      cases hb
      obtain ⟨us, h1, h2⟩ := k
      exact ⟨us, h1, ARs.shut hS hcs h2⟩
    · cases hb
  · cases hb
theorem toLs_ar (R : Rl w0 O0 S0 D μ S w) {h : List Ck} {rd' : List Nat} : ∀ {bs : List A} {xs : List V} {us : List Value} {rd : List Nat}, toLs h bs = some (xs, rd) → (∀ i ∈ rd, i ∈ rd') → (∀ i ∈ rd, D i = h[i]?) → ARs D μ S w bs us → (∀ z ∈ us, z.oneCell' = true) → RepL (lent S D μ rd') w xs us
  | [], xs, us, rd, hb, _, _, k, _ => by simp only [toLs, Option.some.injEq, Prod.mk.injEq] at hb; obtain ⟨rfl, rfl⟩ := hb; exact k
  | b :: bs, xs, us, rd, hb, hs, hD, ⟨u, us', h1, h2, h3⟩, hz => by
    simp only [toLs] at hb
    split at hb
    · rename_i x l ys m h4 h5
      cases hb
      subst h1
      have h6 : Rep (lent S D μ rd') w x u := toArg1_ar R h4 (fun i hi => hs i (by simp [hi])) (fun i hi => hD i (by simp [hi])) h2
      exact ⟨u, us', rfl, h6.notAg (hz u List.mem_cons_self), h6, toLs_ar R h5 (fun i hi => hs i (by simp [hi])) (fun i hi => hD i (by simp [hi])) h3 (fun z hz' => hz z (List.mem_cons_of_mem _ hz'))⟩
    · cases hb
theorem toArg_ar (R : Rl w0 O0 S0 D μ S w) {h : List Ck} {b c : A} {u : Value} {rd rd' : List Nat} (hb : toArg h b = some (c, rd)) (hsub : ∀ i ∈ rd, i ∈ rd') (hD : ∀ i ∈ rd, D i = h[i]?) (k : AR D μ S w b u) : AR (fun _ => none) (fun _ => (0, 0)) (lent S D μ rd') w c u := by
  unfold toArg at hb
  split at hb
  · rename_i cs
    simp only [Option.map_eq_some_iff] at hb
    obtain ⟨⟨xs, l⟩, h1, h2⟩ := hb
    cases h2
    obtain ⟨us, rfl, h3, h4⟩ := k
    exact ⟨us, rfl, toLs_ar R h1 hsub hD h3 h4⟩
  · exact toArg1_ar R hb hsub hD k
theorem toArgs_ar (R : Rl w0 O0 S0 D μ S w) {h : List Ck} {rd' : List Nat} : ∀ {bs cs : List A} {us : List Value} {rd : List Nat}, toArgs h bs = some (cs, rd) → (∀ i ∈ rd, i ∈ rd') → (∀ i ∈ rd, D i = h[i]?) → ARs D μ S w bs us → ARs (fun _ => none) (fun _ => (0, 0)) (lent S D μ rd') w cs us
  | [], cs, us, rd, hb, _, _, k => by simp only [toArgs, Option.some.injEq, Prod.mk.injEq] at hb; obtain ⟨rfl, rfl⟩ := hb; exact k
  | b :: bs, cs, us, rd, hb, hs, hD, ⟨u, us', h1, h2, h3⟩ => by
    simp only [toArgs] at hb
    split at hb
    · rename_i x l xs m h4 h5
      cases hb
      exact ⟨u, us', h1, toArg_ar R h4 (fun i hi => hs i (by simp [hi])) (fun i hi => hD i (by simp [hi])) h2, toArgs_ar R h5 (fun i hi => hs i (by simp [hi])) (fun i hi => hD i (by simp [hi])) h3⟩
    · cases hb

/-! Flat values name no memory. -/
mutual
theorem Rep.flat {S S' : Nat → Prop} {w w' : World} : ∀ (x : V) (u : Value), x.flat = true → Rep S w x u → Rep S' w' x u
  | .int _ _, _, _, h => h
  | .bool _, _, _, h => h
  | .str _, _, _, h => h
  | .sl _ _, _, hx, _ => by cases hx
  | .ag cs, _, hx, ⟨us, h1, h2⟩ => ⟨us, h1, RepL.flat cs us hx h2⟩
theorem RepL.flat {S S' : Nat → Prop} {w w' : World} : ∀ (cs : List V) (us : List Value), flats cs = true → RepL S w cs us → RepL S' w' cs us
  | [], _, _, h => h
  | c :: cs, _, hx, ⟨u, us', h1, h2, h3, h4⟩ => by
    simp only [flats, Bool.and_eq_true] at hx
    exact ⟨u, us', h1, h2, Rep.flat c u hx.1 h3, RepL.flat cs us' hx.2 h4⟩
end
theorem RepR.flat {e : Nat} : ∀ {xs : List V} {us : List Value}, (∀ x ∈ xs, x.flat = true) → RepR S w e xs us → RepR S' w' e xs us
  | [], _, _, h => h
  | x :: xs, _, hx, ⟨u, us', h1, h2, h3, h4, h5⟩ => ⟨u, us', h1, Rep.flat x u (hx x List.mem_cons_self) h2, h3, h4, RepR.flat (fun y hy => hx y (List.mem_cons_of_mem _ hy)) h5⟩

/-- A call's new rows, laid behind the caller's own. -/
def joinD (D : Nat → Option Ck) (n : Nat) (hs : List Ck) : Nat → Option Ck := fun i => if n ≤ i ∧ i < n + hs.length then hs[i - n]? else D i
def joinM (μ μ' : Nat → Nat × Nat) (n k : Nat) : Nat → Nat × Nat := fun i => if n ≤ i ∧ i < n + k then μ' (i - n) else μ i
theorem Rl.join (R : Rl w0 O0 S0 D μ S w) {n : Nat} {hs : List Ck} {Sc S'' Sn : Nat → Prop} {μ' : Nat → Nat × Nat} (hn : ∀ i, n ≤ i → i < n + hs.length → D i = none) (hrow : ∀ c ∈ hs, c.isRow = true)
    (Rc : Rl w (fun _ => False) Sc (fun i => hs[i]?) μ' S'' w') (h1 : ∀ b, Sn b → S'' b) (h2 : ∀ b, S b → Sn b) (h3 : ∀ b, Sn b → S b ∨ w.heap.size ≤ b)
    (hR : ∀ e t xs us, Ck.row e t xs ∈ hs → RepR S'' w' e xs us → RepR Sn w' e xs us) :
    Rl w0 O0 S0 (joinD D n hs) (joinM μ μ' n hs.length) Sn w' ∧ Tr D μ S w (joinD D n hs) (joinM μ μ' n hs.length) Sn w' := by
  have keep : ∀ k, k < w.heap.size → w'.heap[k]? = w.heap[k]? := fun k hk => Rc.keep k hk (fun h => h)
  have old : ∀ i c, D i = some c → ¬ (n ≤ i ∧ i < n + hs.length) := fun i c hc hh => by rw [hn i hh.1 hh.2] at hc; cases hc
  have T : Tr D μ S w (joinD D n hs) (joinM μ μ' n hs.length) Sn w' := by
    refine ⟨h2, fun b hb => keep b (R.lt b hb), fun i u hu => ?_, fun i c hc => ?_⟩
    · have hrep : ∀ x, Rep S w x u → Rep Sn w' x u := fun x hx => Rep.mono h2 (fun b hb => keep b (R.lt b hb)) x u hx
      cases hDi : D i with
      | none => unfold AR at hu; rw [hDi] at hu; exact hu.2.elim
      | some c =>
        have := old i c hDi
        unfold AR at hu ⊢
        unfold joinD joinM
        rw [if_neg this, if_neg this]
        refine ⟨hu.1, ?_⟩
        replace hu := hu.2
        split at hu <;> simp_all
    · have := old i c hc
      unfold joinD joinM
      rw [if_neg this, if_neg this]
      exact ⟨rfl, c, hc⟩
  have inside : ∀ i, n ≤ i ∧ i < n + hs.length → joinD D n hs i = hs[i - n]? ∧ joinM μ μ' n hs.length i = μ' (i - n) := fun i hi => by unfold joinD joinM; rw [if_pos hi, if_pos hi]; exact ⟨rfl, rfl⟩
  have outside : ∀ i, ¬ (n ≤ i ∧ i < n + hs.length) → joinD D n hs i = D i ∧ joinM μ μ' n hs.length i = μ i := fun i hi => by unfold joinD joinM; rw [if_neg hi, if_neg hi]; exact ⟨rfl, rfl⟩
  refine ⟨⟨R.tb, Rc.os.trans R.os, Rc.tape.trans R.tape, Rc.output.trans R.output, Nat.le_trans R.size Rc.size, fun k hk hO => ?_, fun b hb => h2 b (R.sub b hb), fun b hb => ?_, fun b hb => Rc.lt b (h1 b hb), fun i => ?_, fun i c hc hl => ?_, fun i j c d hc hd hl hl' he => ?_⟩, T⟩
  · rw [keep k (Nat.lt_of_lt_of_le hk R.size)]
    exact R.keep k hk hO
  · rcases h3 b hb with hb | hb
    · exact R.new b hb
    · exact .inr (.inr (Nat.le_trans R.size hb))
  · by_cases hi : n ≤ i ∧ i < n + hs.length
    · obtain ⟨g1, g2⟩ := inside i hi
      have h4 := Rc.ck (i - n)
      have hlt : i - n < hs.length := by omega
      have hget : hs[i - n]? = some hs[i - n] := List.getElem?_eq_getElem hlt
      have hmem : hs[i - n] ∈ hs := List.getElem_mem hlt
      have hr := hrow _ hmem
      unfold CR at h4 ⊢
      rw [g1, g2, hget]
      simp only [hget] at h4
      cases hc : hs[i - n] with
      | row e t xs =>
        rw [hc] at h4 hmem
        obtain ⟨cur, us, q1, q2, q3, q4, q5, q6⟩ := h4
        exact ⟨cur, us, q1, q2, q3, q4, hR e t xs us hmem q5, q6⟩
      | _ => rw [hc] at hr; cases hr
    · obtain ⟨g1, g2⟩ := outside i hi
      exact (R.ck i).tr T g1 g2 (fun d hd hl => keep _ (R.live_lt hd hl))
  · by_cases hi : n ≤ i ∧ i < n + hs.length
    · obtain ⟨g1, g2⟩ := inside i hi
      rw [g1] at hc
      rw [g2]
      obtain ⟨q1, q2, q3⟩ := Rc.own (i - n) c hc hl
      refine ⟨fun h => q1 (h1 _ h), q2, .inr ?_⟩
      rcases q3 with q3 | q3
      · exact q3.elim
      · exact Nat.le_trans R.size q3
    · obtain ⟨g1, g2⟩ := outside i hi
      rw [g1] at hc
      rw [g2]
      obtain ⟨q1, q2, q3⟩ := R.own i c hc hl
      refine ⟨fun h => ?_, Nat.lt_of_lt_of_le q2 Rc.size, q3⟩
      rcases h3 _ h with h | h
      · exact q1 h
      · omega
  · have low : ∀ i c, D i = some c → c.live = true → (μ i).1 < w.heap.size := fun i c h h' => R.live_lt h h'
    have high : ∀ j c, hs[j]? = some c → c.live = true → w.heap.size ≤ (μ' j).1 := fun j c h h' => by
      rcases (Rc.own j c h h').2.2 with q | q
      · exact q.elim
      · exact q
    by_cases hi : n ≤ i ∧ i < n + hs.length <;> by_cases hj : n ≤ j ∧ j < n + hs.length
    · rw [(inside i hi).1] at hc
      rw [(inside j hj).1] at hd
      rw [(inside i hi).2, (inside j hj).2] at he
      have := Rc.inj _ _ c d hc hd hl hl' he
      omega
    · rw [(inside i hi).1] at hc
      rw [(outside j hj).1] at hd
      rw [(inside i hi).2, (outside j hj).2] at he
      have := low j d hd hl'
      have := high _ c hc hl
      omega
    · rw [(outside i hi).1] at hc
      rw [(inside j hj).1] at hd
      rw [(outside i hi).2, (inside j hj).2] at he
      have := low i c hc hl
      have := high _ d hd hl'
      omega
    · rw [(outside i hi).1] at hc
      rw [(outside j hj).1] at hd
      rw [(outside i hi).2, (outside j hj).2] at he
      exact R.inj i j c d hc hd hl hl' he

mutual
theorem AR.join {n : Nat} {hs : List Ck} {S'' Sn : Nat → Prop} {μ' : Nat → Nat × Nat} (hrow : ∀ c ∈ hs, c.isRow = true) : ∀ (r : A) (u : Value), r.res = true → ((∀ x u, Rep S'' w' x u → Rep Sn w' x u) ∨ r.flats = true) →
    AR (fun i => hs[i]?) μ' S'' w' r u → AR (joinD D n hs) (joinM μ μ' n hs.length) Sn w' (r.shift n) u
  | .v x, u, _, hv, k => by
    rcases hv with hv | hv
    · exact hv x u k
    · exact Rep.flat x u hv k
  | .nil _, _, _, _, k => k
  | .sli i, u, _, _, k => by
    unfold A.shift AR
    unfold AR at k
    refine ⟨k.1, ?_⟩
    replace k := k.2
    cases hi : hs[i]? with
    | none => simp only [hi] at k
    | some c =>
      have hlt : i < hs.length := (List.getElem?_eq_some_iff.1 hi).1
      have hrw := hrow c (List.mem_of_getElem? hi)
      unfold joinD joinM
      rw [if_pos (by omega), if_pos (by omega), show n + i - n = i by omega, hi]
      simp only [hi] at k
      cases c <;> first | (cases hrw; done) | skip
      exact k
  | .ag cs, u, hr, hv, ⟨us, h1, h2, h3⟩ => ⟨us, h1, ARs.join hrow cs us hr hv h2, h3⟩
  | .tu cs, u, hr, hv, ⟨us, h1, h2⟩ => ⟨us, h1, ARs.join hrow cs us hr hv h2⟩
  | .un, _, hr, _, _ | .ud, _, hr, _, _ | .ptr _ _, _, hr, _, _ | .ep _ _ _ _, _, hr, _, _ | .vw _ _ _ _, _, hr, _, _ | .mp _, _, hr, _, _ | .fp _ _, _, hr, _, _ | .fq _, _, hr, _, _ | .fn _ _, _, hr, _, _ => by cases hr
theorem ARs.join {n : Nat} {hs : List Ck} {S'' Sn : Nat → Prop} {μ' : Nat → Nat × Nat} (hrow : ∀ c ∈ hs, c.isRow = true) : ∀ (rs : List A) (us : List Value), ress rs = true → ((∀ x u, Rep S'' w' x u → Rep Sn w' x u) ∨ flatss rs = true) →
    ARs (fun i => hs[i]?) μ' S'' w' rs us → ARs (joinD D n hs) (joinM μ μ' n hs.length) Sn w' (shifts n rs) us
  | [], _, _, _, k => k
  | r :: rs, _, hr, hv, ⟨u, us', h1, h2, h3⟩ => by
    simp only [ress, Bool.and_eq_true] at hr
    simp only [flatss, Bool.and_eq_true] at hv
    exact ⟨u, us', h1, AR.join hrow r u hr.1 (hv.imp id (·.1)) h2, ARs.join hrow rs us' hr.2 (hv.imp id (·.2)) h3⟩
end

theorem eval_args {xs : Array Operand} (H : Opn D μ S w s a xs) : ∀ {ps : List Operand} {ts : List TypeId} {qs : List X}, cXs P ts ps = some qs → (∀ p ∈ ps, p ∈ xs) → ARs D μ S w (qs.map s.x) (ps.map a.eval)
  | [], _, qs, h, _ => by simp only [cXs, Option.some.injEq] at h; subst h; rfl
  | p :: ps, ts, qs, h, hm => by
    simp only [cXs] at h
    split at h
    · rename_i y ys h1 h2
      cases h
      exact ⟨_, _, rfl, cX_ar h1 H (hm p List.mem_cons_self), eval_args H h2 (fun q hq => hm q (List.mem_cons_of_mem _ hq))⟩
    · cases h
theorem lent_lt (R : Rl w0 O0 S0 D μ S w) {rd : List Nat} : ∀ b, lent S D μ rd b → b < w.heap.size := by
  rintro b (hb | ⟨i, _, ⟨c, hc, hl⟩, rfl⟩)
  · exact R.lt b hb
  · exact R.live_lt hc hl
theorem good_callS {o : Oper} {f : Nat} {bs : List A} (h : callS P s K f bs)
    (H : ∀ w0 O0 S0 D μ S w (a : Act), Rl w0 O0 S0 D μ S w → Opn D μ S w s a o.op.operands → (∃ fn, P.funcs[f]? = some fn ∧ fn.body.isSome = true ∧ fn.name ≠ "runtime.NumGoroutine") →
      ∃ us : List Value, ARs D μ S w bs us ∧ (execOp a.eval o).run P w = .ok (.enter f us.toArray) w) : Good P o s K := by
  obtain ⟨⟨cs, rd⟩, h1, r, hs, ⟨hf, hsp⟩, ⟨hres, hrow⟩, hflat, hK⟩ := h
  refine ⟨_, _, _, _, hK, by simp, fun i hi => ?_, fun w0 O0 S0 D μ S w a R hD hO next Q hn => ?_⟩
  · simp only [List.mem_map, List.mem_range, not_exists, not_and] at hi
    by_cases h2 : i < s.h.length
    · rw [List.getElem?_append_left h2]
    · have h9 : ¬ (i - s.h.length < hs.length) := fun hh => hi _ hh (by omega)
      rw [List.getElem?_append_right (by omega), List.getElem?_eq_none (by omega), List.getElem?_eq_none (by omega)]
  · have hDr : ∀ i ∈ rd, D i = s.h[i]? := fun i hi => hD i (.inl hi)
    have hDn : ∀ i, s.h.length ≤ i → i < s.h.length + hs.length → D i = none := fun i h2 h3 => by
      rw [hD i (.inr (List.mem_map.2 ⟨i - s.h.length, List.mem_range.2 (by omega), by omega⟩)), List.getElem?_eq_none h2]
    obtain ⟨us, h2, h3⟩ := H w0 O0 S0 D μ S w a R hO hf
    have h4 := toArgs_ar R h1 (fun i hi => hi) hDr h2
    have Rc0 : Rl w (fun _ => False) (lent S D μ rd) (fun i => ([] : List Ck)[i]?) (fun _ => (0, 0)) (lent S D μ rd) w :=
      ⟨R.tbl (fun _ hb => .inl hb) (fun _ h => h.elim), rfl, rfl, rfl, Nat.le_refl _, fun _ _ _ => rfl, fun _ h => h, fun _ h => .inl h, lent_lt R, fun i => trivial, fun i c hc => (by cases hc), fun i j c d hc => (by cases hc)⟩
    have h5 := hsp (lent S D μ rd) w us (fun _ => False) (fun _ => (0, 0)) Rc0 h4
    unfold Oper.wp
    rw [h3]
    rw [Oper.upon_enter]
    refine h5.mono ?_
    rintro e w' ⟨u, S'', μ', rfl, Rc, _, hr⟩
    have fin : ∀ Sn, Rl w0 O0 S0 (joinD D s.h.length hs) (joinM μ μ' s.h.length hs.length) Sn w' → Tr D μ S w (joinD D s.h.length hs) (joinM μ μ' s.h.length hs.length) Sn w' → AR (joinD D s.h.length hs) (joinM μ μ' s.h.length hs.length) Sn w' (r.shift s.h.length) u → next (a.put o.dst u) w' := by
      intro Sn R' T' hu
      refine hn w' u _ _ Sn R' (fun i => ?_) T' hu
      unfold joinD
      by_cases hi : s.h.length ≤ i ∧ i < s.h.length + hs.length
      · rw [if_pos hi, if_pos (List.mem_map.2 ⟨i - s.h.length, List.mem_range.2 (by omega), by omega⟩), List.getElem?_append_right hi.1]
      · rw [if_neg hi, if_neg]
        simp only [List.mem_map, List.mem_range, not_exists, not_and]
        intro j hj
        omega
    rcases hflat with hrd | ⟨hfl, hfl2⟩
    · subst hrd
      have hlent : ∀ b, lent S D μ [] b → S b := by
        rintro b (hb | ⟨i, hi, _⟩)
        · exact hb
        · cases hi
      obtain ⟨R', T'⟩ := R.join hDn hrow Rc (fun b hb => hb) (fun b hb => Rc.sub b (.inl hb)) (fun b hb => by
        rcases Rc.new b hb with q | q | q
        · exact .inl (hlent b q)
        · exact q.elim
        · exact .inr q) (fun _ _ _ _ _ hq => hq)
      exact fin _ R' T' (AR.join hrow _ _ hres (.inl fun _ _ hx => hx) hr)
    · obtain ⟨R', T'⟩ := R.join hDn hrow Rc (Sn := S) (fun b hb => Rc.sub b (.inl hb)) (fun b hb => hb) (fun b hb => .inl hb) (fun e t xs us hm hq => RepR.flat (hfl2 _ hm) hq)
      exact fin _ R' T' (AR.join hrow _ _ hres (.inr hfl) hr)
theorem good_call0 {f : Nat} {xs : List X} {args : Array Operand} {ats : Array TypeId} {ts : List TypeId} (h1 : cXs P ts args.toList = some xs) (h : callS P s K f (xs.map s.x)) : Good P ⟨dst, .call ⟨.value (.func f), args, ats⟩, ty, pos, after, guard⟩ s K := by
  refine good_callS h fun _ _ _ D μ S w a R hO hf => ?_
  obtain ⟨fn, hf1, hf2, hf3⟩ := hf
  refine ⟨args.toList.map a.eval, eval_args hO h1 (fun p hp => by simp only [Op.operands, Call.operands]; simp [Array.mem_toList_iff.1 hp]), ?_⟩
  have hb : ¬ fn.body = none := by cases hh : fn.body <;> simp_all
  have he : a.eval (.func f) = .func (.func f) #[] #[] := rfl
  simp [execOp, resolve, he, Deferred.ofValue, invoke, callFunc, hf1, hf3, hb]
  rw [← Array.toList_map, Array.toArray_toList]
theorem good_callv {i : Nat} {xs : List X} {args : Array Operand} {ats : Array TypeId} {ts : List TypeId} (h1 : cXs P ts args.toList = some xs) (h : aop P m s K (.callv (.t i) xs)) : Good P ⟨dst, .call ⟨.value (.tmp i), args, ats⟩, ty, pos, after, guard⟩ s K := by
  simp only [aop] at h
  split at h
  · rename_i f cs hx
    refine good_callS h fun _ _ _ D μ S w a R hO hf => ?_
    obtain ⟨fn, hf1, hf2, hf3⟩ := hf
    have h2 : AR D μ S w (.fn f cs) (a.eval (.tmp i)) := by
      have := hO (.tmp i) (by simp [Op.operands, Call.operands]) i rfl
      have hx' : s.t.getD i .un = .fn f cs := hx
      rw [hx'] at this
      exact this
    obtain ⟨us, h3, h4⟩ := h2
    refine ⟨args.toList.map a.eval ++ us, (eval_args hO h1 (fun p hp => by simp only [Op.operands, Call.operands]; simp [Array.mem_toList_iff.1 hp])).append h4, ?_⟩
    have hb : ¬ fn.body = none := by cases hh : fn.body <;> simp_all
    simp [execOp, resolve, h3, Deferred.ofValue, invoke, callFunc, hf1, hf3, hb]
  · exact h.elim

/-! ### a call that is handed chunks to write -/
theorem posL_spec {x : Nat} : ∀ {L : List Nat} {j : Nat}, posL x L = some j → L[j]? = some x
  | [], _, h => by simp [posL] at h
  | y :: L, j, h => by
    simp only [posL] at h
    split at h
    · rename_i hy; cases h; simp [hy]
    · simp only [Option.map_eq_some_iff] at h
      obtain ⟨k, h1, rfl⟩ := h
      simpa using posL_spec h1
theorem posL_none {x : Nat} : ∀ {L : List Nat}, posL x L = none → x ∉ L
  | [], _ => by simp
  | y :: L, h => by
    simp only [posL] at h
    split at h
    · cases h
    · rename_i hy
      simp only [Option.map_eq_none_iff] at h
      simp only [List.mem_cons, not_or]
      exact ⟨fun e => hy e.symm, posL_none h⟩
theorem posL_lt {x : Nat} {L : List Nat} {j : Nat} (h : posL x L = some j) : j < L.length := by
  have := posL_spec h
  exact (List.getElem?_eq_some_iff.1 this).1
/-- What is handed over: chunks of the caller's own, each once. -/
def Handed (h : List Ck) (L : List Nat) : Prop := L.Nodup ∧ ∀ i ∈ L, ∃ c, h[i]? = some c ∧ c.live = true ∧ c.okM = true
theorem Handed.snoc {h : List Ck} {L : List Nat} {i : Nat} {c : Ck} (H : Handed h L) (hi : i ∉ L) (hc : h[i]? = some c) (hl : c.live = true) (hm : c.okM = true) : Handed h (L ++ [i]) := by
  refine ⟨?_, fun j hj => ?_⟩
  · rw [List.nodup_append]
    refine ⟨H.1, by simp, fun a ha b hb => ?_⟩
    simp only [List.mem_singleton] at hb
    subst hb
    exact fun e => hi (e ▸ ha)
  · rcases List.mem_append.1 hj with hj | hj
    · exact H.2 j hj
    · simp only [List.mem_singleton] at hj
      subst hj
      exact ⟨c, hc, hl, hm⟩
mutual
theorem toM_spec {h : List Ck} : ∀ (b : A) (L : List Nat) (c : A) (L' : List Nat), toM h b L = some (c, L') → Handed h L → Handed h L' ∧ ∃ M, L' = L ++ M
  | .v x, L, c, L', hh, H => by simp only [toM, Option.some.injEq, Prod.mk.injEq] at hh; obtain ⟨rfl, rfl⟩ := hh; exact ⟨H, [], by simp⟩
  | .nil x, L, c, L', hh, H => by simp only [toM, Option.some.injEq, Prod.mk.injEq] at hh; obtain ⟨rfl, rfl⟩ := hh; exact ⟨H, [], by simp⟩
  | .fp e x, L, c, L', hh, H => by simp only [toM, Option.some.injEq, Prod.mk.injEq] at hh; obtain ⟨rfl, rfl⟩ := hh; exact ⟨H, [], by simp⟩
  | .fq x, L, c, L', hh, H => by simp only [toM, Option.some.injEq, Prod.mk.injEq] at hh; obtain ⟨rfl, rfl⟩ := hh; exact ⟨H, [], by simp⟩
  | .fn f cs, L, c, L', hh, H => by
    simp only [toM] at hh
    split at hh
    · cases hh; exact ⟨H, [], by simp⟩
    · cases hh
  | .sli i, L, c, L', hh, H => by
    simp only [toM] at hh
    split at hh
    · rename_i hi
      split at hh
      · cases hh; exact ⟨H, [], by simp⟩
      · rename_i hp; cases hh; exact ⟨H.snoc (posL_none hp) hi rfl rfl, [i], rfl⟩
    · cases hh
  | .ptr i off, L, c, L', hh, H => by
    simp only [toM] at hh
    split at hh
    · rename_i hi
      split at hh
      · rename_i hs
        split at hh
        · cases hh; exact ⟨H, [], by simp⟩
        · rename_i hp; cases hh; exact ⟨H.snoc (posL_none hp) hi rfl hs, [i], rfl⟩
      · cases hh
    · cases hh
  | .ag cs, L, c, L', hh, H => by
    simp only [toM, Option.map_eq_some_iff] at hh
    obtain ⟨⟨d, L1⟩, h1, h2⟩ := hh
    cases h2
    exact toMs_spec cs L d _ h1 H
  | .un, _, _, _, hh, _ | .ud, _, _, _, hh, _ | .ep _ _ _ _, _, _, _, hh, _ | .vw _ _ _ _, _, _, _, hh, _ | .mp _, _, _, _, hh, _ | .tu _, _, _, _, hh, _ => by simp [toM] at hh
theorem toMs_spec {h : List Ck} : ∀ (bs : List A) (L : List Nat) (cs : List A) (L' : List Nat), toMs h bs L = some (cs, L') → Handed h L → Handed h L' ∧ ∃ M, L' = L ++ M
  | [], L, cs, L', hh, H => by simp only [toMs, Option.some.injEq, Prod.mk.injEq] at hh; obtain ⟨rfl, rfl⟩ := hh; exact ⟨H, [], by simp⟩
  | b :: bs, L, cs, L', hh, H => by
    simp only [toMs] at hh
    split at hh
    · rename_i c L1 h1
      simp only [Option.map_eq_some_iff] at hh
      obtain ⟨⟨ds, L2⟩, h2, h3⟩ := hh
      cases h3
      obtain ⟨H1, M1, rfl⟩ := toM_spec b L c L1 h1 H
      obtain ⟨H2, M2, rfl⟩ := toMs_spec bs _ ds _ h2 H1
      exact ⟨H2, M1 ++ M2, by simp⟩
    · cases hh
end
section handed
variable {h : List Ck} {L : List Nat} (hD : ∀ i ∈ L, D i = h[i]?)
include hD
theorem sli_handed {i j : Nat} {u : Value} {e t : Nat} {xs : List V} (hj : L[j]? = some i) (hi : h[i]? = some (.row e t xs)) (k : AR D μ S w (.sli i) u) : AR (fun q => (L.map fun i => h.getD i .gone)[q]?) (fun q => μ (L.getD q 0)) S w (.sli j) u := by
  have hDi : D i = some (.row e t xs) := (hD i (List.mem_of_getElem? hj)).trans hi
  have h1 := k.sli_row hDi
  have h2 : (L.map fun i => h.getD i .gone)[j]? = some (.row e t xs) := by simp [hj, hi]
  have h3 : L.getD j 0 = i := by simp [hj]
  unfold AR
  simp only [h2, h3]
  exact ⟨by rw [h1]; rfl, h1⟩
omit hD in
theorem ptr_handed {i j off : Nat} {u : Value} {c : Ck} (hj : L[j]? = some i) (hi : h[i]? = some c) (k : AR D μ S w (.ptr i off) u) : AR (fun q => (L.map fun i => h.getD i .gone)[q]?) (fun q => μ (L.getD q 0)) S w (.ptr j off) u := by
  have h2 : (L.map fun i => h.getD i .gone)[j]? = some c := by simp [hj, hi]
  have h3 : L.getD j 0 = i := by simp [hj]
  exact ⟨⟨c, h2⟩, by rw [k.2]; simp only [h3]⟩
end handed
mutual
theorem toM_ar {h : List Ck} {Lf : List Nat} (hD : ∀ i ∈ Lf, D i = h[i]?) : ∀ (b : A) (L : List Nat) (c : A) (L' M : List Nat) (u : Value), toM h b L = some (c, L') → Handed h L → Lf = L' ++ M → AR D μ S w b u → AR (fun q => (Lf.map fun i => h.getD i .gone)[q]?) (fun q => μ (Lf.getD q 0)) S w c u
  | .v x, L, c, L', M, u, hh, H, hl, k => by simp only [toM, Option.some.injEq, Prod.mk.injEq] at hh; obtain ⟨rfl, rfl⟩ := hh; exact k
  | .nil x, L, c, L', M, u, hh, H, hl, k => by simp only [toM, Option.some.injEq, Prod.mk.injEq] at hh; obtain ⟨rfl, rfl⟩ := hh; exact k
  | .fp e x, L, c, L', M, u, hh, H, hl, k => by simp only [toM, Option.some.injEq, Prod.mk.injEq] at hh; obtain ⟨rfl, rfl⟩ := hh; exact k
  | .fq x, L, c, L', M, u, hh, H, hl, k => by simp only [toM, Option.some.injEq, Prod.mk.injEq] at hh; obtain ⟨rfl, rfl⟩ := hh; exact k
  | .fn f cs, L, c, L', M, u, hh, H, hl, k => by
    simp only [toM] at hh
    split at hh
    · rename_i hs
      cases hh
      obtain ⟨us, h1, h2⟩ := k
      exact ⟨us, h1, ARs.shut (fun _ h => h) hs h2⟩
    · cases hh
  | .sli i, L, c, L', M, u, hh, H, hl, k => by
    simp only [toM] at hh
    split at hh
    · rename_i e t xs hi
      split at hh
      · rename_i j hp
        cases hh
        refine sli_handed hD ?_ hi k
        rw [hl, List.getElem?_append_left (posL_lt hp)]
        exact posL_spec hp
      · cases hh
        refine sli_handed hD ?_ hi k
        rw [hl, List.append_assoc, List.getElem?_append_right (Nat.le_refl _)]
        simp
    · cases hh
  | .ptr i off, L, c, L', M, u, hh, H, hl, k => by
    simp only [toM] at hh
    split at hh
    · rename_i cs hi
      split at hh
      · split at hh
        · rename_i j hp
          cases hh
          refine ptr_handed ?_ hi k
          rw [hl, List.getElem?_append_left (posL_lt hp)]
          exact posL_spec hp
        · cases hh
          refine ptr_handed ?_ hi k
          rw [hl, List.append_assoc, List.getElem?_append_right (Nat.le_refl _)]
          simp
      · cases hh
    · cases hh
  | .ag cs, L, c, L', M, u, hh, H, hl, k => by
    simp only [toM, Option.map_eq_some_iff] at hh
    obtain ⟨⟨d, L1⟩, h1, h2⟩ := hh
    cases h2
    obtain ⟨us, h3, h4, h5⟩ := k
    exact ⟨us, h3, toMs_ar hD cs L d _ M us h1 H hl h4, h5⟩
  | .un, _, _, _, _, _, hh, _, _, _ | .ud, _, _, _, _, _, hh, _, _, _ | .ep _ _ _ _, _, _, _, _, _, hh, _, _, _ | .vw _ _ _ _, _, _, _, _, _, hh, _, _, _ | .mp _, _, _, _, _, _, hh, _, _, _ | .tu _, _, _, _, _, _, hh, _, _, _ => by simp [toM] at hh
theorem toMs_ar {h : List Ck} {Lf : List Nat} (hD : ∀ i ∈ Lf, D i = h[i]?) : ∀ (bs : List A) (L : List Nat) (cs : List A) (L' M : List Nat) (us : List Value), toMs h bs L = some (cs, L') → Handed h L → Lf = L' ++ M → ARs D μ S w bs us → ARs (fun q => (Lf.map fun i => h.getD i .gone)[q]?) (fun q => μ (Lf.getD q 0)) S w cs us
  | [], L, cs, L', M, us, hh, H, hl, k => by simp only [toMs, Option.some.injEq, Prod.mk.injEq] at hh; obtain ⟨rfl, rfl⟩ := hh; exact k
  | b :: bs, L, cs, L', M, us, hh, H, hl, ⟨u, us', e1, k1, k2⟩ => by
    simp only [toMs] at hh
    split at hh
    · rename_i c L1 h1
      simp only [Option.map_eq_some_iff] at hh
      obtain ⟨⟨ds, L2⟩, h2, h3⟩ := hh
      cases h3
      obtain ⟨H1, M1, e2⟩ := toM_spec b L c L1 h1 H
      obtain ⟨H2, M2, e3⟩ := toMs_spec bs _ ds _ h2 H1
      exact ⟨u, us', e1, toM_ar hD b L c L1 (M2 ++ M) u h1 H (by rw [hl, e3, List.append_assoc]) k1, toMs_ar hD bs L1 ds _ M us' h2 H1 hl k2⟩
    · cases hh
end
end
end Go.Proofs.YtgkhakhkebjbpaaEv
namespace Go.Proofs.YtgkhakhkebjbpaaEv
open Go

section
variable {P : Program} {D : Nat → Option Ck} {μ : Nat → Nat × Nat} {S S' : Nat → Prop} {w w' : World} {s : St} {a : Act} {K : KT} {m : Nat → Bool} {dst : Option Tmp} {ty : TypeId} {pos : String} {after : Array Edge} {guard : Option (Nat × Bool)}
variable {w0 : World} {O0 S0 : Nat → Prop}

/-- Where chunk i of the caller stands among those of the callee. -/
def at_ (L : List Nat) (n k : Nat) (i : Nat) : Option Nat := match posL i L with
  | some j => some j
  | none => if n ≤ i ∧ i < n + (k - L.length) then some (L.length + (i - n)) else none
def gD (D : Nat → Option Ck) (L : List Nat) (n : Nat) (hs : List Ck) : Nat → Option Ck := fun i => match at_ L n hs.length i with
  | some j => hs[j]?
  | none => D i
def gM (μ μ' : Nat → Nat × Nat) (L : List Nat) (n k : Nat) : Nat → Nat × Nat := fun i => match at_ L n k i with
  | some j => μ' j
  | none => μ i
theorem posL_mem {x : Nat} : ∀ {L : List Nat}, x ∈ L → ∃ j, posL x L = some j
  | [], h => by cases h
  | y :: L, h => by
    simp only [posL]
    by_cases hy : y = x
    · exact ⟨0, by simp [hy]⟩
    · rcases List.mem_cons.1 h with h | h
      · exact absurd h.symm hy
      · obtain ⟨j, hj⟩ := posL_mem h
        exact ⟨j + 1, by simp [hy, hj]⟩
theorem posL_get : ∀ {L : List Nat}, L.Nodup → ∀ {j i : Nat}, L[j]? = some i → posL i L = some j
  | [], _, _, _, h => by simp at h
  | y :: L, hn, 0, i, h => by simp at h; simp [posL, h]
  | y :: L, hn, j + 1, i, h => by
    rw [List.nodup_cons] at hn
    have h1 : L[j]? = some i := by simpa using h
    have hy : ¬ y = i := fun e => hn.1 (e ▸ List.mem_of_getElem? h1)
    simp [posL, hy, posL_get hn.2 h1]
theorem at_inj {L : List Nat} {n k : Nat} (hL : ∀ i ∈ L, i < n) {i i' j : Nat} (h : at_ L n k i = some j) (h' : at_ L n k i' = some j) : i = i' := by
  unfold at_ at h h'
  split at h
  · rename_i q hq
    cases h
    have h1 := posL_lt hq
    split at h'
    · rename_i q' hq'
      cases h'
      have := posL_spec hq
      rw [posL_spec hq'] at this
      exact (Option.some.inj this).symm
    · split at h'
      · cases h'; omega
      · cases h'
  · split at h
    · cases h
      split at h'
      · rename_i q' hq'
        cases h'
        have := posL_lt hq'
        omega
      · split at h'
        · simp only [Option.some.injEq] at h'; omega
        · cases h'
    · cases h
theorem at_ren {L : List Nat} {n k : Nat} (hn : L.Nodup) (hL : ∀ i ∈ L, i < n) {j : Nat} (hj : j < k) (hk : L.length ≤ k) : at_ L n k (renI L n j) = some j := by
  unfold renI
  by_cases h : j < L.length
  · rw [if_pos h]
    have h1 : L[j]? = some (L.getD j 0) := by simp [h]
    unfold at_
    rw [posL_get hn h1]
  · rw [if_neg h]
    have h2 : posL (n + (j - L.length)) L = none := by
      cases hp : posL (n + (j - L.length)) L with
      | none => rfl
      | some q =>
        have := hL _ (List.mem_of_getElem? (posL_spec hp))
        omega
    unfold at_
    rw [h2]
    simp only
    rw [if_pos (by omega)]
    congr 1
    omega
theorem okM_cr {D D' : Nat → Option Ck} {μ μ' : Nat → Nat × Nat} {i j : Nat} {c : Ck} (hc : c.okM = true) (h1 : D i = some c) (h2 : D' j = some c) (h3 : μ' j = μ i) (h : CR D μ S w i) : CR D' μ' S w j := by
  unfold CR at h ⊢
  rw [h1] at h
  rw [h2, h3]
  cases c <;> first | (cases hc; done) | skip
  · trivial
  · exact h
  · obtain ⟨cur, t, g1, g2, g3⟩ := h
    exact ⟨cur, t, g1, ARs.shut (fun _ hb => hb) hc g2, g3⟩
theorem Rl.enter (R : Rl w0 O0 S0 D μ S w) {h : List Ck} {L : List Nat} (H : Handed h L) (hD : ∀ i ∈ L, D i = h[i]?) :
    Rl w (fun b => ∃ i ∈ L, b = (μ i).1) S (fun q => (L.map fun i => h.getD i .gone)[q]?) (fun q => μ (L.getD q 0)) S w := by
  have get : ∀ q c, (L.map fun i => h.getD i .gone)[q]? = some c → ∃ i, L[q]? = some i ∧ D i = some c ∧ c.live = true ∧ c.okM = true ∧ L.getD q 0 = i := by
    intro q c hq
    simp only [List.getElem?_map, Option.map_eq_some_iff] at hq
    obtain ⟨i, hi, hc⟩ := hq
    obtain ⟨c', h1, h2, h3⟩ := H.2 i (List.mem_of_getElem? hi)
    have : h.getD i .gone = c' := by simp [h1]
    rw [this] at hc
    subst hc
    exact ⟨i, hi, (hD i (List.mem_of_getElem? hi)).trans h1, h2, h3, by simp [hi]⟩
  refine ⟨R.tbl (fun _ hb => hb) (fun b ⟨i, hi, e⟩ => by
    obtain ⟨c, h1, h2, h3⟩ := H.2 i hi
    rw [e]
    exact (R.own i c ((hD i hi).trans h1) h2).1), rfl, rfl, rfl, Nat.le_refl _, fun _ _ _ => rfl, fun _ hb => hb, fun _ hb => .inl hb, R.lt, fun q => ?_, fun q c hq hl => ?_, fun q q' c c' hq hq' hl hl' he => ?_⟩
  · cases hq : (L.map fun i => h.getD i .gone)[q]? with
    | none => unfold CR; simp only [hq]
    | some c =>
      obtain ⟨i, hi, h1, h2, h3, h4⟩ := get q c hq
      exact okM_cr h3 h1 hq (by simp only [h4]) (R.ck i)
  · obtain ⟨i, hi, h1, h2, h3, h4⟩ := get q c hq
    simp only [h4]
    obtain ⟨g1, g2, _⟩ := R.own i c h1 h2
    exact ⟨g1, g2, .inl ⟨i, List.mem_of_getElem? hi, rfl⟩⟩
  · obtain ⟨i, hi, h1, h2, h3, h4⟩ := get q c hq
    obtain ⟨i', hi', h1', h2', h3', h4'⟩ := get q' c' hq'
    simp only [h4, h4'] at he
    have := R.inj i i' c c' h1 h1' h2 h2' he
    subst this
    have e1 := posL_get H.1 hi
    rw [posL_get H.1 hi'] at e1
    exact (Option.some.inj e1).symm

theorem Rl.joinG (R : Rl w0 O0 S0 D μ S w) {h : List Ck} {L : List Nat} (H : Handed h L) (hD : ∀ i ∈ L, D i = h[i]?) {n : Nat} {hs : List Ck} {S' : Nat → Prop} {μ' : Nat → Nat × Nat} (hLn : ∀ i ∈ L, i < n) (hn : ∀ i, n ≤ i → i < n + (hs.length - L.length) → D i = none) (hm : hs.all Ck.okM = true) (hle : L.length ≤ hs.length)
    (Rc : Rl w (fun b => ∃ i ∈ L, b = (μ i).1) S (fun i => hs[i]?) μ' S' w') (Tc : Tr (fun q => (L.map fun i => h.getD i .gone)[q]?) (fun q => μ (L.getD q 0)) S w (fun i => hs[i]?) μ' S' w') :
    Rl w0 O0 S0 (gD D L n hs) (gM μ μ' L n hs.length) S' w' ∧ Tr D μ S w (gD D L n hs) (gM μ μ' L n hs.length) S' w' := by
  have inside : ∀ i j, at_ L n hs.length i = some j → gD D L n hs i = hs[j]? ∧ gM μ μ' L n hs.length i = μ' j := fun i j hi => by unfold gD gM; rw [hi]; exact ⟨rfl, rfl⟩
  have outside : ∀ i, at_ L n hs.length i = none → gD D L n hs i = D i ∧ gM μ μ' L n hs.length i = μ i := fun i hi => by unfold gD gM; rw [hi]; exact ⟨rfl, rfl⟩
  -- a chunk of the caller's own that is not handed over
  have apart : ∀ i c, D i = some c → c.live = true → at_ L n hs.length i = none → ¬ ∃ k ∈ L, (μ i).1 = (μ k).1 := by
    rintro i c hc hl hi ⟨k, hk, he⟩
    obtain ⟨c', h1, h2, _⟩ := H.2 k hk
    have := R.inj i k c c' hc ((hD k hk).trans h1) hl h2 he
    subst this
    obtain ⟨j, hj⟩ := posL_mem hk
    unfold at_ at hi
    rw [hj] at hi
    cases hi
  have handS : ∀ b, (∃ i ∈ L, b = (μ i).1) → ¬ S b ∧ (O0 b ∨ w0.heap.size ≤ b) ∧ b < w.heap.size := by
    rintro b ⟨k, hk, rfl⟩
    obtain ⟨c', h1, h2, _⟩ := H.2 k hk
    obtain ⟨g1, g2, g3⟩ := R.own k c' ((hD k hk).trans h1) h2
    exact ⟨g1, g3, g2⟩
  have keepS : ∀ b, S b → w'.heap[b]? = w.heap[b]? := fun b hb => Rc.keep b (R.lt b hb) (fun e => (handS b e).1 hb)
  have atL : ∀ i, (∃ c, D i = some c) → (at_ L n hs.length i = none ∨ ∃ j, L[j]? = some i ∧ at_ L n hs.length i = some j) := by
    rintro i ⟨c, hc⟩
    unfold at_
    cases hp : posL i L with
    | some j => exact .inr ⟨j, posL_spec hp, rfl⟩
    | none =>
      simp only
      by_cases h1 : n ≤ i ∧ i < n + (hs.length - L.length)
      · rw [hn i h1.1 h1.2] at hc; cases hc
      · rw [if_neg h1]; exact .inl rfl
  have T : Tr D μ S w (gD D L n hs) (gM μ μ' L n hs.length) S' w' := by
    refine ⟨Rc.sub, keepS, fun i u hu => ?_, fun i c hc => ?_⟩
    · cases hDi : D i with
      | none => unfold AR at hu; rw [hDi] at hu; exact hu.2.elim
      | some c =>
        rcases atL i ⟨c, hDi⟩ with hi | ⟨j, hj, hi⟩
        · have hrep : ∀ x, Rep S w x u → Rep S' w' x u := fun x hx => Rep.mono Rc.sub keepS x u hx
          unfold AR at hu ⊢
          rw [(outside i hi).1, (outside i hi).2]
          refine ⟨hu.1, ?_⟩
          replace hu := hu.2
          split at hu <;> simp_all
        · obtain ⟨c', h1, h2, h3⟩ := H.2 i (List.mem_of_getElem? hj)
          have hc' : c = c' := Option.some.inj (hDi.symm.trans ((hD i (List.mem_of_getElem? hj)).trans h1))
          subst hc'
          have e1 : (L.map fun i => h.getD i .gone)[j]? = some c := by simp [hj, h1]
          have e2 : L.getD j 0 = i := by simp [hj]
          have hu2 : AR (fun q => (L.map fun i => h.getD i .gone)[q]?) (fun q => μ (L.getD q 0)) S w (.sli j) u := by
            unfold AR at hu ⊢
            rw [hDi] at hu
            simp only [e1, e2]
            exact hu
          have := Tc.sli j u hu2
          unfold AR at this ⊢
          rw [(inside i j hi).1, (inside i j hi).2]
          exact this
    · rcases atL i ⟨c, hc⟩ with hi | ⟨j, hj, hi⟩
      · rw [(outside i hi).1, (outside i hi).2]; exact ⟨rfl, c, hc⟩
      · obtain ⟨c', h1, h2, h3⟩ := H.2 i (List.mem_of_getElem? hj)
        have e1 : (L.map fun i => h.getD i .gone)[j]? = some c' := by simp [hj, h1]
        have e2 : L.getD j 0 = i := by simp [hj]
        obtain ⟨g1, g2⟩ := Tc.ptr j c' e1
        rw [(inside i j hi).1, (inside i j hi).2]
        simp only [e2] at g1
        exact ⟨g1, g2⟩
  have newS : ∀ b, S' b → S b ∨ (∃ i ∈ L, b = (μ i).1) ∨ w.heap.size ≤ b := Rc.new
  have ownc : ∀ j c, hs[j]? = some c → c.live = true → ¬ S' (μ' j).1 ∧ (μ' j).1 < w'.heap.size ∧ ((∃ i ∈ L, (μ' j).1 = (μ i).1) ∨ w.heap.size ≤ (μ' j).1) := fun j c h1 h2 => Rc.own j c h1 h2
  refine ⟨⟨R.tb, Rc.os.trans R.os, Rc.tape.trans R.tape, Rc.output.trans R.output, Nat.le_trans R.size Rc.size, fun k hk hO => ?_, fun b hb => Rc.sub b (R.sub b hb), fun b hb => ?_, Rc.lt, fun i => ?_, fun i c hc hl => ?_, fun i j c d hc hd hl hl' he => ?_⟩, T⟩
  · rw [Rc.keep k (Nat.lt_of_lt_of_le hk R.size) (fun e => ?_)]
    · exact R.keep k hk hO
    · rcases (handS k e).2.1 with q | q
      · exact hO q
      · omega
  · rcases newS b hb with q | q | q
    · exact R.new b q
    · rcases (handS b q).2.1 with p | p
      · exact .inr (.inl p)
      · exact .inr (.inr p)
    · exact .inr (.inr (Nat.le_trans R.size q))
  · cases hi : at_ L n hs.length i with
    | some j =>
      obtain ⟨g1, g2⟩ := inside i j hi
      cases hj : hs[j]? with
      | none => unfold CR; rw [g1, hj]; trivial
      | some c => exact okM_cr (List.all_eq_true.1 hm c (List.mem_of_getElem? hj)) hj (g1.trans hj) g2 (Rc.ck j)
    | none =>
      obtain ⟨g1, g2⟩ := outside i hi
      exact (R.ck i).tr T g1 g2 (fun d hd hl => Rc.keep _ (R.live_lt hd hl) (apart i d hd hl hi))
  · cases hi : at_ L n hs.length i with
    | some j =>
      obtain ⟨g1, g2⟩ := inside i j hi
      rw [g1] at hc
      rw [g2]
      obtain ⟨q1, q2, q3⟩ := ownc j c hc hl
      refine ⟨q1, q2, ?_⟩
      rcases q3 with q3 | q3
      · exact (handS _ q3).2.1
      · exact .inr (Nat.le_trans R.size q3)
    | none =>
      obtain ⟨g1, g2⟩ := outside i hi
      rw [g1] at hc
      rw [g2]
      obtain ⟨q1, q2, q3⟩ := R.own i c hc hl
      refine ⟨fun hb => ?_, Nat.lt_of_lt_of_le q2 Rc.size, q3⟩
      rcases newS _ hb with q | q | q
      · exact q1 q
      · exact apart i c hc hl hi q
      · omega
  · cases hi : at_ L n hs.length i with
    | some p =>
      obtain ⟨g1, g2⟩ := inside i p hi
      rw [g1] at hc
      rw [g2] at he
      cases hj : at_ L n hs.length j with
      | some q =>
        obtain ⟨g3, g4⟩ := inside j q hj
        rw [g3] at hd
        rw [g4] at he
        have := Rc.inj p q c d hc hd hl hl' he
        subst this
        exact at_inj hLn hi hj
      | none =>
        obtain ⟨g3, g4⟩ := outside j hj
        rw [g3] at hd
        rw [g4] at he
        exfalso
        rcases (ownc p c hc hl).2.2 with ⟨k, hk, e⟩ | e
        · exact apart j d hd hl' hj ⟨k, hk, he.symm.trans e⟩
        · have := R.live_lt hd hl'; omega
    | none =>
      obtain ⟨g1, g2⟩ := outside i hi
      rw [g1] at hc
      rw [g2] at he
      cases hj : at_ L n hs.length j with
      | some q =>
        obtain ⟨g3, g4⟩ := inside j q hj
        rw [g3] at hd
        rw [g4] at he
        exfalso
        rcases (ownc q d hd hl').2.2 with ⟨k, hk, e⟩ | e
        · exact apart i c hc hl hi ⟨k, hk, he.trans e⟩
        · have := R.live_lt hc hl; omega
      | none =>
        obtain ⟨g3, g4⟩ := outside j hj
        rw [g3] at hd
        rw [g4] at he
        exact R.inj i j c d hc hd hl hl' he
mutual
theorem AR.ren {L : List Nat} {n : Nat} {hs : List Ck} {S' : Nat → Prop} {μ' : Nat → Nat × Nat} (hn : L.Nodup) (hL : ∀ i ∈ L, i < n) (hle : L.length ≤ hs.length) : ∀ (r : A) (u : Value), r.isM = true → AR (fun i => hs[i]?) μ' S' w' r u → AR (gD D L n hs) (gM μ μ' L n hs.length) S' w' (r.ren L n) u
  | .v x, _, _, k => k
  | .nil e, _, _, k => k
  | .sli j, u, _, k => by
    unfold A.ren AR
    unfold AR at k
    refine ⟨k.1, ?_⟩
    replace k := k.2
    cases hj : hs[j]? with
    | none => simp only [hj] at k
    | some c =>
      have hlt : j < hs.length := (List.getElem?_eq_some_iff.1 hj).1
      have h1 := at_ren (k := hs.length) hn hL hlt hle
      unfold gD gM
      rw [h1]
      simp only [hj] at k ⊢
      exact k
  | .ag cs, u, h, ⟨us, h1, h2, h3⟩ => ⟨us, h1, ARs.ren hn hL hle cs us h h2, h3⟩
  | .tu cs, u, h, ⟨us, h1, h2⟩ => ⟨us, h1, ARs.ren hn hL hle cs us h h2⟩
  | .ptr j o, u, _, ⟨⟨c, k1⟩, k2⟩ => by
    have hlt : j < hs.length := (List.getElem?_eq_some_iff.1 k1).1
    have h1 := at_ren (k := hs.length) hn hL hlt hle
    refine ⟨⟨c, ?_⟩, ?_⟩
    · unfold gD
      rw [h1]
      exact k1
    · rw [k2]
      unfold gM
      rw [h1]
  | .un, _, h, _ | .ud, _, h, _ | .ep _ _ _ _, _, h, _ | .vw _ _ _ _, _, h, _ | .mp _, _, h, _ | .fp _ _, _, h, _ | .fq _, _, h, _ | .fn _ _, _, h, _ => by simp [A.isM] at h
theorem ARs.ren {L : List Nat} {n : Nat} {hs : List Ck} {S' : Nat → Prop} {μ' : Nat → Nat × Nat} (hn : L.Nodup) (hL : ∀ i ∈ L, i < n) (hle : L.length ≤ hs.length) : ∀ (rs : List A) (us : List Value), isMs rs = true → ARs (fun i => hs[i]?) μ' S' w' rs us → ARs (gD D L n hs) (gM μ μ' L n hs.length) S' w' (rens L n rs) us
  | [], _, _, k => k
  | r :: rs, _, h, ⟨u, us', h1, h2, h3⟩ => by
    simp only [isMs, Bool.and_eq_true] at h
    exact ⟨u, us', h1, AR.ren hn hL hle r u h.1 h2, ARs.ren hn hL hle rs us' h.2 h3⟩
end
theorem putCks_len : ∀ {L : List Nat} {h hs : List Ck}, (putCks h L hs).length = h.length
  | [], h, hs => by cases hs <;> rfl
  | i :: L, h, [] => rfl
  | i :: L, h, c :: hs => by simp only [putCks]; rw [putCks_len]; simp
theorem putCks_get : ∀ {L : List Nat} {h hs : List Ck}, L.Nodup → L.length ≤ hs.length → ∀ i, i < h.length → (putCks h L hs)[i]? = match posL i L with
    | some j => hs[j]?
    | none => h[i]?
  | [], h, hs, _, _, i, _ => by cases hs <;> rfl
  | k :: L, h, [], _, hl, i, _ => by simp at hl
  | k :: L, h, c :: hs, hn, hl, i, hi => by
    rw [List.nodup_cons] at hn
    simp only [putCks]
    rw [putCks_get hn.2 (by simpa using hl) i (by simpa using hi)]
    simp only [posL]
    by_cases hk : k = i
    · subst hk
      have : posL k L = none := by
        cases hp : posL k L with
        | none => rfl
        | some j => exact absurd (List.mem_of_getElem? (posL_spec hp)) hn.1
      rw [this]
      simp [hi]
    · rw [if_neg hk]
      cases posL i L with
      | none => simp [hk]
      | some j => simp
theorem good_callM {o : Oper} {f : Nat} {bs : List A} (h : callM P s K f bs)
    (HH : ∀ w0 O0 S0 D μ S w (a : Act), Rl w0 O0 S0 D μ S w → Opn D μ S w s a o.op.operands → (∃ fn, P.funcs[f]? = some fn ∧ fn.body.isSome = true ∧ fn.name ≠ "runtime.NumGoroutine") →
      ∃ us : List Value, ARs D μ S w bs us ∧ (execOp a.eval o).run P w = .ok (.enter f us.toArray) w) : Good P o s K := by
  obtain ⟨⟨cs, L⟩, h1, r, hs, ⟨hf, hsp⟩, ⟨hm, hr, hle⟩, hK⟩ := h
  have H : Handed s.h L := (toMs_spec bs [] cs L h1 ⟨List.nodup_nil, fun i hi => by cases hi⟩).1
  have hLn : ∀ i ∈ L, i < s.h.length := fun i hi => by
    obtain ⟨c, hc, _⟩ := H.2 i hi
    exact (List.getElem?_eq_some_iff.1 hc).1
  have key : ∀ i, (i ∈ L ++ (List.range (hs.length - L.length)).map (s.h.length + ·) ↔ at_ L s.h.length hs.length i ≠ none) ∧ (putCks s.h L hs ++ hs.drop L.length)[i]? = match at_ L s.h.length hs.length i with
      | some j => hs[j]?
      | none => s.h[i]? := by
    intro i
    unfold at_
    cases hp : posL i L with
    | some j =>
      have hmem := List.mem_of_getElem? (posL_spec hp)
      refine ⟨by simp [hmem], ?_⟩
      rw [List.getElem?_append_left (by rw [putCks_len]; exact hLn i hmem), putCks_get H.1 hle i (hLn i hmem), hp]
    | none =>
      have hmem : i ∉ L := posL_none hp
      simp only
      by_cases h2 : s.h.length ≤ i ∧ i < s.h.length + (hs.length - L.length)
      · rw [if_pos h2]
        refine ⟨by simp [hmem]; exact ⟨i - s.h.length, by omega, by omega⟩, ?_⟩
        rw [List.getElem?_append_right (by rw [putCks_len]; omega), putCks_len, List.getElem?_drop]
      · rw [if_neg h2]
        refine ⟨by simp [hmem]; intro x hx; omega, ?_⟩
        by_cases h3 : i < s.h.length
        · rw [List.getElem?_append_left (by rw [putCks_len]; exact h3), putCks_get H.1 hle i h3, hp]
        · rw [List.getElem?_append_right (by rw [putCks_len]; omega), putCks_len, List.getElem?_drop, List.getElem?_eq_none (by omega), List.getElem?_eq_none (by omega)]
  refine ⟨_, _, _, _, hK, by simp [putCks_len], fun i hi => ?_, fun w0 O0 S0 D μ S w a R hD hO next Q hn => ?_⟩
  · have h2 := key i
    have h3 : at_ L s.h.length hs.length i = none := Classical.byContradiction fun e => hi (h2.1.2 e)
    rw [h2.2, h3]
  · have hDL : ∀ i ∈ L, D i = s.h[i]? := fun i hi => hD i (.inl hi)
    have hDn : ∀ i, s.h.length ≤ i → i < s.h.length + (hs.length - L.length) → D i = none := fun i h2 h3 => by
      rw [hD i (.inr (List.mem_append.2 (.inr (List.mem_map.2 ⟨i - s.h.length, List.mem_range.2 (by omega), by omega⟩)))), List.getElem?_eq_none h2]
    obtain ⟨us, h2, h3⟩ := HH w0 O0 S0 D μ S w a R hO hf
    have h4 := toMs_ar (Lf := L) hDL bs [] cs L [] us h1 ⟨List.nodup_nil, fun i hi => by cases hi⟩ (by simp) h2
    have h5 := hsp S w us _ _ (R.enter H hDL) h4
    unfold Oper.wp
    rw [h3]
    rw [Oper.upon_enter]
    refine h5.mono ?_
    rintro e w' ⟨u, S', μ', rfl, Rc, Tc, hu⟩
    obtain ⟨R', T'⟩ := R.joinG H hDL hLn hDn hm hle Rc Tc
    refine hn w' u _ _ S' R' (fun i => ?_) T' (AR.ren H.1 hLn hle r u hr hu)
    have h6 := key i
    unfold gD
    cases h7 : at_ L s.h.length hs.length i with
    | none =>
      rw [if_neg (fun e => h6.1.1 e h7)]
    | some j =>
      rw [if_pos (h6.1.2 (by rw [h7]; simp)), h6.2, h7]
theorem good_call {f : Nat} {xs : List X} {args : Array Operand} {ats : Array TypeId} {ts : List TypeId} (h1 : cXs P ts args.toList = some xs) (h : aop P m s K (.call f xs)) : Good P ⟨dst, .call ⟨.value (.func f), args, ats⟩, ty, pos, after, guard⟩ s K := by
  simp only [aop] at h
  split at h
  · refine good_callM h fun _ _ _ D μ S w a R hO hf => ?_
    obtain ⟨fn, hf1, hf2, hf3⟩ := hf
    refine ⟨args.toList.map a.eval, eval_args hO h1 (fun p hp => by simp only [Op.operands, Call.operands]; simp [Array.mem_toList_iff.1 hp]), ?_⟩
    have hb : ¬ fn.body = none := by cases hh : fn.body <;> simp_all
    have he : a.eval (.func f) = .func (.func f) #[] #[] := rfl
    simp [execOp, resolve, he, Deferred.ofValue, invoke, callFunc, hf1, hf3, hb]
    rw [← Array.toList_map, Array.toArray_toList]
  · exact good_call0 h1 h
end
end Go.Proofs.YtgkhakhkebjbpaaEv
namespace Go.Proofs.YtgkhakhkebjbpaaEv
open Go

section
variable {P : Program} {D D' : Nat → Option Ck} {μ : Nat → Nat × Nat} {S S' : Nat → Prop} {w w' : World} {s : St} {a : Act} {K : KT}
variable {dst : Option Tmp} {ty : TypeId} {pos : String} {after : Array Edge} {guard : Option (Nat × Bool)} {w0 : World} {O0 S0 : Nat → Prop}

theorem frzH_spec {h : List Ck} {J : List Nat} : ∀ {cs cs' : List Ck} {n : Nat}, frzH h J n cs = some cs' → cs'.length = cs.length ∧
    ∀ k c, cs[k]? = some c → (J.contains (n + k) = true → ∃ c', frzC h J c = some c' ∧ cs'[k]? = some c') ∧ (J.contains (n + k) = false → cs'[k]? = some c)
  | [], cs', n, h1 => by simp only [frzH, Option.some.injEq] at h1; subst h1; simp
  | c :: cs, cs', n, h1 => by
    simp only [frzH] at h1
    split at h1
    · rename_i c' ds h2 h3
      cases h1
      obtain ⟨h4, h5⟩ := frzH_spec h3
      refine ⟨by simp [h4], fun k d hd => ?_⟩
      cases k with
      | zero =>
        simp only [List.getElem?_cons_zero, Option.some.injEq] at hd
        subst hd
        simp only [Nat.add_zero, List.getElem?_cons_zero, Option.some.injEq]
        refine ⟨fun hJ => ?_, fun hJ => ?_⟩
        · rw [if_pos hJ] at h2
          exact ⟨c', h2, rfl⟩
        · rw [if_neg (by rw [hJ]; simp)] at h2
          cases h2; rfl
      | succ k =>
        have := h5 k d (by simpa using hd)
        rw [show n + (k + 1) = n + 1 + k by omega]
        simpa using this
    · cases h1

theorem toF_ar (R : Rl w0 O0 S0 D μ S w) {h : List Ck} {J : List Nat} (hD : ∀ i ∈ J, D i = h[i]?) {b : A} {x : V} {u : Value} (hb : toF h J b = some x) (k : AR D μ S w b u) : Rep (lent S D μ J) w x u := by
  have mono : ∀ x u, Rep S w x u → Rep (lent S D μ J) w x u := fun x u hx => Rep.mono (fun _ hb => .inl hb) (fun _ _ => rfl) x u hx
  cases b <;> simp only [toF, reduceCtorEq, Option.some.injEq] at hb
  · subst hb; exact mono _ _ k
  · subst hb; exact ⟨none, 0, k, Nat.le_refl _, Nat.zero_le _, trivial⟩
  · rename_i i
    split at hb
    · rename_i hi
      have hi' : i ∈ J := by simpa using hi
      split at hb
      · rename_i e t xs he
        cases hb
        have hDi := (hD i hi').trans he
        have h1 := k.sli_row hDi
        have h2 := R.ck i
        unfold CR at h2
        rw [hDi] at h2
        obtain ⟨cur, us, g1, g2, g3, g4, g5, g6⟩ := h2
        refine ⟨_, _, h1, g3, g4, RepR.toAt (.inr ⟨i, hi', ⟨_, hDi, rfl⟩, rfl⟩) 0 (RepR.mono (fun _ hb => .inl hb) (fun _ _ => rfl) _ _ _ g5) (fun j z hz => ?_)⟩
        simp only [Nat.zero_mul, Nat.zero_add]
        exact row_cells g1 j z (by rw [← g6] at hz; exact take_get hz)
      · rename_i e xs he
        cases hb
        exact mono _ _ (k.sli_fz ((hD i hi').trans he))
      · cases hb
    · cases hb
theorem toFs_ar (R : Rl w0 O0 S0 D μ S w) {h : List Ck} {J : List Nat} (hD : ∀ i ∈ J, D i = h[i]?) : ∀ {bs : List A} {xs : List V} {us : List Value}, toFs h J bs = some xs → ARs D μ S w bs us → (∀ z ∈ us, z.oneCell' = true) → RepL (lent S D μ J) w xs us
  | [], xs, us, h1, k, _ => by simp only [toFs, Option.some.injEq] at h1; subst h1; exact k
  | b :: bs, xs, us, h1, ⟨u, us', h2, h3, h4⟩, hz => by
    simp only [toFs] at h1
    split at h1
    · rename_i x ys h5 h6
      cases h1
      subst h2
      have h7 := toF_ar R hD h5 h3
      exact ⟨u, us', rfl, h7.notAg (hz u List.mem_cons_self), h7, toFs_ar R hD h6 h4 (fun z hz' => hz z (List.mem_cons_of_mem _ hz'))⟩
    · cases h1

theorem Rl.freeze (R : Rl w0 O0 S0 D μ S w) {h h' : List Ck} {J : List Nat} (hD : ∀ i ∈ J, D i = h[i]?) (hf : frzH h J 0 h = some h') (hD' : ∀ i, D' i = if i ∈ J then h'[i]? else D i) :
    Rl w0 O0 S0 D' μ (lent S D μ J) w ∧ Tr D μ S w D' μ (lent S D μ J) w := by
  obtain ⟨hl, hs⟩ := frzH_spec hf
  have hin : ∀ i ∈ J, ∀ c, D i = some c → ∃ c', frzC h J c = some c' ∧ D' i = some c' := fun i hi c hc => by
    obtain ⟨c', h1, h2⟩ := (hs i c ((hD i hi).symm.trans hc)).1 (by simpa using hi)
    exact ⟨c', h1, by rw [hD', if_pos hi, h2]⟩
  have hno : ∀ i ∈ J, D i = none → D' i = none := fun i hi hc => by
    rw [hD', if_pos hi]
    rw [hD i hi] at hc
    rw [List.getElem?_eq_none_iff] at hc ⊢
    omega
  have hout : ∀ i, i ∉ J → D' i = D i := fun i hi => by rw [hD', if_neg hi]
  have dead : ∀ {c c' : Ck}, frzC h J c = some c' → c'.live = false := fun {c c'} hc => by
    cases c <;> simp only [frzC, Option.some.injEq, Option.map_eq_some_iff, reduceCtorEq] at hc
    · subst hc; rfl
    · subst hc; rfl
    · obtain ⟨_, _, rfl⟩ := hc; rfl
    · subst hc; rfl
  have live' : ∀ {i : Nat} {c : Ck}, D' i = some c → c.live = true → i ∉ J ∧ D i = some c := fun {i c} hc hl => by
    by_cases hi : i ∈ J
    · cases hd : D i with
      | none => rw [hno i hi hd] at hc; cases hc
      | some d =>
        obtain ⟨c', h1, h2⟩ := hin i hi d hd
        rw [h2] at hc; cases hc
        rw [dead h1] at hl; cases hl
    · exact ⟨hi, by rw [← hout i hi]; exact hc⟩
  have mono : ∀ x u, Rep S w x u → Rep (lent S D μ J) w x u := fun x u hx => Rep.mono (fun _ hb => .inl hb) (fun _ _ => rfl) x u hx
  have T : Tr D μ S w D' μ (lent S D μ J) w := by
    refine ⟨fun _ hb => .inl hb, fun _ _ => rfl, fun i u hu => ?_, fun i c hc => ⟨rfl, ?_⟩⟩
    · by_cases hi : i ∈ J
      · cases hd : D i with
        | none => unfold AR at hu; rw [hd] at hu; exact hu.2.elim
        | some d =>
          obtain ⟨c', h1, h2⟩ := hin i hi d hd
          have hu1 : u.oneCell' = true := by unfold AR at hu; exact hu.1
          cases d <;> simp only [frzC, Option.some.injEq, Option.map_eq_some_iff, reduceCtorEq] at h1
          · rename_i e t xs
            subst h1
            have := toF_ar R hD (b := .sli i) (x := .sl e xs) (by simp only [toF]; rw [if_pos (by simpa using hi), ← hD i hi, hd]) hu
            unfold AR; rw [h2]; exact ⟨hu1, this⟩
          · rename_i e xs
            subst h1
            have := mono _ _ (hu.sli_fz hd)
            unfold AR; rw [h2]; exact ⟨hu1, this⟩
          · unfold AR at hu; rw [hd] at hu; exact hu.2.elim
          · unfold AR at hu; rw [hd] at hu; exact hu.2.elim
      · unfold AR at hu ⊢
        rw [hout i hi]
        refine ⟨hu.1, ?_⟩
        replace hu := hu.2
        split at hu <;> simp_all
    · by_cases hi : i ∈ J
      · obtain ⟨c', _, h2⟩ := hin i hi c hc
        exact ⟨c', h2⟩
      · exact ⟨c, by rw [hout i hi]; exact hc⟩
  refine ⟨⟨R.tb, R.os, R.tape, R.output, R.size, R.keep, fun b hb => .inl (R.sub b hb), ?_, ?_, fun i => ?_, fun i c hc hcl => ?_, fun i j c d hc hd hcl hdl he => ?_⟩, T⟩
  · rintro b (hb | ⟨i, _, ⟨c, hc, hcl⟩, rfl⟩)
    · exact R.new b hb
    · exact .inr (R.own i c hc hcl).2.2
  · rintro b (hb | ⟨i, _, ⟨c, hc, hcl⟩, rfl⟩)
    · exact R.lt b hb
    · exact (R.own i c hc hcl).2.1
  · by_cases hi : i ∈ J
    · cases hd : D i with
      | none => unfold CR; rw [hno i hi hd]; trivial
      | some d =>
        obtain ⟨c', h1, h2⟩ := hin i hi d hd
        have h3 := R.ck i
        unfold CR at h3 ⊢
        rw [h2]
        rw [hd] at h3
        cases d <;> simp only [frzC, Option.some.injEq, Option.map_eq_some_iff, reduceCtorEq] at h1
        · subst h1; trivial
        · subst h1; trivial
        · obtain ⟨vs, h4, rfl⟩ := h1
          obtain ⟨cur, t, g1, g2, g3⟩ := h3
          exact ⟨.inr ⟨i, hi, ⟨_, hd, rfl⟩, rfl⟩, cur.toList, toFs_ar R hD h4 g2 g3, row_cells g1⟩
        · subst h1
          obtain ⟨g1, us, g2, g3⟩ := h3
          exact ⟨.inl g1, us, RepL.mono (fun _ hb => .inl hb) (fun _ _ => rfl) _ _ g2, g3⟩
    · exact (R.ck i).tr T (hout i hi) rfl (fun _ _ _ => rfl)
  · obtain ⟨hi, hc'⟩ := live' hc hcl
    obtain ⟨o1, o2, o3⟩ := R.own i c hc' hcl
    refine ⟨?_, o2, o3⟩
    rintro (hb | ⟨j, hj, ⟨d, hd, hdl⟩, he⟩)
    · exact o1 hb
    · exact hi (R.inj i j c d hc' hd hcl hdl he ▸ hj)
  · exact R.inj i j c d (live' hc hcl).2 (live' hd hdl).2 hcl hdl he

theorem capA_ar (R : Rl w0 O0 S0 D' μ S w) {h' : List Ck} {b c : A} {u : Value} (hi : ∀ i off, b = .ptr i off → D' i = h'[i]?) (hb : capA h' b = some c) (k : AR D' μ S w b u) : AR D' μ S w c u := by
  cases b <;> simp only [capA, reduceCtorEq, Option.some.injEq] at hb
  · subst hb; exact k
  · rename_i i off
    split at hb
    · rename_i cs he
      cases hb
      have h2 := R.ck i
      unfold CR at h2
      rw [(hi i off rfl).trans he] at h2
      obtain ⟨g1, us, g2, g3⟩ := h2
      exact ⟨_, us.drop off, k.2, by rw [add_block]; exact g1, g2.drop off, fun j z hz => by
        rw [Deep.add_add]; exact g3 _ z (by simpa using hz)⟩
    · cases hb
  · subst hb; exact k
  · subst hb; exact k
theorem capAs_ar (R : Rl w0 O0 S0 D' μ S w) {h' : List Ck} : ∀ {bs cs : List A} {us : List Value}, (∀ b ∈ bs, ∀ i off, b = .ptr i off → D' i = h'[i]?) → capAs h' bs = some cs → ARs D' μ S w bs us → ARs D' μ S w cs us
  | [], cs, us, _, hb, k => by simp only [capAs, Option.some.injEq] at hb; subst hb; exact k
  | b :: bs, cs, us, hi, hb, ⟨u, us', h1, h2, h3⟩ => by
    simp only [capAs] at hb
    split at hb
    · rename_i x ys h4 h5
      cases hb
      exact ⟨u, us', h1, capA_ar R (hi b List.mem_cons_self) h4 h2, capAs_ar R (fun b hb => hi b (List.mem_cons_of_mem _ hb)) h5 h3⟩
    · cases hb
theorem capJ_mem {h : List Ck} {i off : Nat} : ∀ {az : List A}, A.ptr i off ∈ az → i ∈ capJ h az
  | [], hm => by cases hm
  | b :: az, hm => by
    rcases List.mem_cons.1 hm with rfl | hm
    · simp [capJ]
    · have := capJ_mem (h := h) hm
      cases b <;> simp only [capJ] <;> first | exact this | (simp [this])

theorem good_mkf {f : Nat} {xs : List X} {first caps : Array Operand} {ts : List TypeId} {m : Nat → Bool} (h1 : cXs P ts caps.toList = some xs) (h0 : first.size = 0) (h : aop P m s K (.mkf f xs)) : Good P ⟨dst, .makeFunc (.func f) first caps, ty, pos, after, guard⟩ s K := by
  obtain ⟨h', hf, cs, hc, hK⟩ := h
  obtain rfl := Array.eq_empty_of_size_eq_zero h0
  obtain ⟨hl, hs⟩ := frzH_spec hf
  refine ⟨_, _, _, _, hK, by omega, fun i hi => ?_, fun w0 O0 S0 D μ S w a R hD hO next Q hn => ?_⟩
  · cases hd : s.h[i]? with
    | none => rw [List.getElem?_eq_none_iff] at hd ⊢; omega
    | some c => exact (hs i c hd).2 (by simpa using hi)
  · have hDJ : ∀ i ∈ capJ s.h (xs.map s.x), D i = s.h[i]? := fun i hi => hD i (.inr hi)
    obtain ⟨R', T⟩ := R.freeze (D' := fun i => if i ∈ capJ s.h (xs.map s.x) then h'[i]? else D i) hDJ hf (fun _ => rfl)
    have h2 := eval_args hO h1 (fun p hp => by simp only [Op.operands]; simpa using hp)
    have h3 := capAs_ar R' (fun b hb i off he => by
      subst he
      simp only [if_pos (capJ_mem hb)]) hc (ARs.tr T _ _ h2)
    unfold Oper.wp
    have : (execOp a.eval (⟨dst, .makeFunc (.func f) #[] caps, ty, pos, after, guard⟩ : Oper)).run P w = .ok (.value (.func (.func f) #[] (caps.map a.eval))) w := by simp [execOp, Instr.makeFunc]
    rw [this]
    exact hn w _ _ μ _ R' (fun i => rfl) T ⟨caps.toList.map a.eval, by congr 1; apply Array.ext'; simp, h3⟩
end
end Go.Proofs.YtgkhakhkebjbpaaEv
