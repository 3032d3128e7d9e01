/- Code of the program as abstract code: computed, and checked by computing. -/
import Derived.Test.YtkimohopfhgcjaaARun
namespace Go.AM
set_option linter.unusedSimpArgs false
set_option linter.unusedVariables false
set_option linter.unnecessarySimpa false

def cScal : Value → Option AV
  | .bool b => some (.bool b)
  | .int k n => some (.int k n)
  | .string s => some (.str s.data.toList)
  | .pointer none => some .nilp
  | .slice none l c => if l = 0 ∧ c = 0 then some .nils else none
  | .map none => some .nilm
  | .nilFunc => some .nilf
  | .nilIface => some .nili
  | _ => none
def cScals : List Value → Option (List AV)
  | [] => some []
  | v :: vs => match cScal v, cScals vs with
    | some a, some az => some (a :: az)
    | _, _ => none
def cAV : Value → Option AV
  | .agg cs => (cScals cs.toList).map .agg
  | v => cScal v
def cX (nt : Nat) : Operand → Option AX
  | .tmp t => if t < nt then some (.t t) else none
  | .const v => (cAV v).map .c
  | .func f => some (.c (.fn (.func f) [] []))
  | .global _ => none
def cXs (nt : Nat) : List Operand → Option (List AX)
  | [] => some []
  | x :: xs => match cX nt x, cXs nt xs with
    | some a, some az => some (a :: az)
    | _, _ => none
def cXo (nt : Nat) : Option Operand → Option (Option AX)
  | none => some none
  | some x => (cX nt x).map some
def cParts {α : Type} (nt : Nat) (at_ : Nat → Option α) : List (Nat × Operand) → Option (List (α × AX))
  | [] => some []
  | (i, x) :: r => match at_ i, cX nt x, cParts nt at_ r with
    | some p, some a, some az => some ((p, a) :: az)
    | _, _, _ => none

section
variable (P : Program)
def tyAg (t : TypeId) : Option Bool :=
  match P.underlying t with
  | some (.struct _) | some (.array _ _) => some true
  | some _ => some false
  | none => none
/-- The kind of elements of a type: its cells fit, and it is not too wide. -/
def tyEl (t : TypeId) : Option El :=
  match tyAg P t, P.info? t with
  | some ag, some i => if (ag || i.size == 1) && i.bytes ≤ 24 * (i.size + 1) && i.size ≤ 1000 && i.zero.any (fun v => v.cells.size == i.size) then some ⟨ag, i.size⟩ else none
  | _, _ => none
def tyZero (t : TypeId) : Option AV := (P.info? t).bind fun i => i.zero.bind cAV
/-- The kinds of a flat type's cells: such values are compared cell by cell. -/
def fieldsKinds (fk : TypeId → Option (List Kd)) : Nat → List Field → Option (List Kd)
  | _, [] => some []
  | off, f :: fs => if f.name == "_" || f.offset != off then none else match fk f.type, P.info? f.type with
    | some ks, some i => if i.size == ks.length then (fieldsKinds fk (off + ks.length) fs).map (ks ++ ·) else none
    | _, _ => none
def flatKinds : (d : Nat) → TypeId → Option (List Kd)
  | 0, _ => none
  | d + 1, t => match P.underlying t with
    | some .bool => some [.b]
    | some (.int _) => some [.i]
    | some .string => some [.s]
    | some (.struct fs) => if P.stoodInHeld t then none else fieldsKinds P (flatKinds d) 0 fs.toList
    | _ => none

/-- Hints: temporaries whose slice literal may be turned (own), whose call is not quiet, whose nil is a slice that will be appended to. -/
structure Hints where
  mt : List Nat := []
  loud : List Nat := []
  vecs : List (Nat × El) := []
  tys : List Nat := []

def tyHint (b : Bool) (t : TypeId) : Option TypeId := if b then some t else none
theorem tyHint_or (b : Bool) (t : TypeId) : tyHint b t = none ∨ tyHint b t = some t := by cases b <;> simp [tyHint]
def isNilSlice : Operand → Bool
  | .const (.slice none l c) => l == 0 && c == 0
  | _ => false
def isNilConst : Operand → Bool
  | .const (.pointer none) | .const .nilIface | .const .nilFunc | .const (.map none) => true
  | _ => false

def nilKind : TypeDesc → Option NK
  | .pointer _ => some .p
  | .interface _ => some .i
  | .func .. => some .f
  | .map .. => some .m
  | _ => none

/-- The library's function that hands a pointer back. -/
def noEsc : Operand → Option FuncId
  | .func f => match P.funcs[f]? with
    | some fn => if fn.body.isNone then some f else none
    | none => none
  | _ => none
def compileOp (nt : Nat) (h : Hints) (draw : Bool) (o : Oper) : Option AOp :=
  let has (l : List Nat) : Bool := match o.dst with
    | some d => l.contains d
    | none => false
  let vec : Option El := match o.dst with
    | some d => h.vecs.lookup d
    | none => none
  match o.op with
  | .move x => (cX nt x).map .mv
  | .assign x => match vec with
    | some el => if isNilSlice x then some (.mkvec el) else (cX nt x).map .mv
    | none => (cX nt x).map .mv
  | .pick c a b => match cX nt c, cX nt a, cX nt b with
    | some c, some a, some b => some (.pick c a b)
    | _, _, _ => none
  | .alloc t => match tyZero P t with
    | some z => if z.cells.all AV.scalar then some (.alloc (tyHint (has h.tys) t) z.cells) else none
    | none => none
  | .box _ x => (cX nt x).map .box
  | .build t parts => match tyZero P t, P.underlying t with
    | some z, some (.struct fs) =>
      if fs.toList.all (fun f => (P.info? f.type).isSome) && z.cells.all AV.scalar then
        (cParts nt (fun i => (fs[i]?).map fun f => (f.offset, P.cellsOf f.type)) parts.toList).map fun ps => .build z.cells (ps.map fun p => (p.1.1, p.1.2, p.2))
      else none
    | some z, some (.array _ el) =>
      if (P.info? el).isSome && z.cells.all AV.scalar then
        (cParts nt (fun i => some (i * P.cellsOf el, P.cellsOf el)) parts.toList).map fun ps => .build z.cells (ps.map fun p => (p.1.1, p.1.2, p.2))
      else none
    | _, _ => none
  | .buildSlice t n parts => match P.underlying t with
    | some (.slice e) => match tyEl P e, tyZero P e with
      | some el, some z => if n * el.sz ≤ 2 ^ 24 && z.fits el then (cParts nt some parts.toList).map fun ps => .bslice (has h.mt) el z n ps else none
      | _, _ => none
    | _ => none
  | .load t a => match tyAg P t, P.info? t, cX nt a with
    | some ag, some i, some x => if ag || i.size == 1 then some (.load ag i.size x) else none
    | _, _, _ => none
  | .store t a v => match P.info? t, cX nt a, cX nt v with
    | some i, some x, some y => some (.store i.size x y)
    | _, _, _ => none
  | .nilCheck x => (cX nt x).map .nilck
  | .binOp op t x y _ => match cX nt x, cX nt y with
    | some a, some b =>
      match P.underlying t with
      | some (.int _) | some .string => some (.bin op a b)
      | some d =>
        match nilKind d with
        | some k =>
          if k == .p && !(isNilConst x || isNilConst y) then
            match d with
            | .pointer te => match P.info? te, op with
              | some _, .eql => some (.eqp false a b)
              | some _, .neq => some (.eqp true a b)
              | _, _ => none
            | _ => none
          else if isNilConst x || isNilConst y then
            match op with
            | .eql => some (.eqnil false k a b)
            | .neq => some (.eqnil true k a b)
            | _ => none
          else none
        | none =>
        match flatKinds P 12 t, tyAg P t, P.info? t with
        | some ks, some ag, some i =>
          if i.size == ks.length && (!ag || !P.eqGuardType P.depth t) then
            match op with
            | .eql => some (.eqf false ag ks a b)
            | .neq => some (.eqf true ag ks a b)
            | _ => none
          else none
        | _, _, _ => none
      | none => none
    | _, _ => none
  | .unOp op _ x => (cX nt x).map (.un op)
  | .convert s d x => match P.underlying s, P.underlying d, cX nt x with
    | some (.int _), some (.int k), some a => some (.cint k a)
    | some .string, some .string, some a => some (.cid a)
    | some .string, some (.slice e), some a => match P.underlying e, P.info? e with
      | some (.int .u8), some i => if i.size == 1 && i.bytes ≤ 48 then some (.s2b a) else none
      | _, _ => none
    | some (.slice e), some .string, some a => match P.underlying e, P.info? e with
      | some (.int .u8), some i => if i.size == 1 then some (.b2s a) else none
      | _, _ => none
    | some (.pointer t), some .unsafePointer, some a => match P.info? t with
      | some i => if i.size == 0 then none else some (.p2u a)
      | none => none
    | some .unsafePointer, some (.pointer t), some a => match P.info? t with
      | some _ => some (.u2p t a)
      | none => none
    | _, _, _ => none
  | .makeInterface t x => match P.underlying t with
    | some (.interface _) | none => none
    | _ => (cX nt x).map (.mkifc t)
  | .makeFunc fn first cap => match cXs nt first.toList, cXs nt cap.toList with
    | some a, some b => some (.mkfn fn a b)
    | _, _ => none
  | .slice t x lo hi mx => match cX nt x, cXo nt lo, cXo nt hi, cXo nt mx with
    | some a, some l, some h, some m =>
      match P.underlying t with
      | some .string => if m.isNone then some (.slS a l h) else none
      | some (.slice e) => if m.isNone then (tyEl P e).map fun el => .slL el a l h else none
      | _ => none
    | _, _, _, _ => none
  | .fieldAddr s x f => match P.underlying s, cX nt x with
    | some (.struct fs), some a => (fs[f]?).bind fun fi => if ((P.info? fi.type).map (·.size)).getD 0 == 0 then none else some (.faddr fi.offset a)
    | _, _ => none
  | .field s x f => match P.underlying s, cX nt x with
    | some (.struct fs), some a => (fs[f]?).bind fun fi => match tyAg P fi.type, P.info? fi.type with
      | some ag, some i => if ag || i.size == 1 then some (.field ag fi.offset i.size a) else none
      | _, _ => none
    | _, _ => none
  | .indexAddr t x i => match P.underlying t, cX nt x, cX nt i with
    | some (.slice e), some a, some b => (tyEl P e).map fun el => .iaddr el none a b
    | some (.array n e), some a, some b => (tyEl P e).map fun el => .iaddr el (some n) a b
    | _, _, _ => none
  | .index t x i => match P.underlying t, cX nt x, cX nt i with
    | some .string, some a, some b => some (.idxS a b)
    | some (.array n e), some a, some b => (tyEl P e).map fun el => .idxA el n a b
    | _, _, _ => none
  | .extract x i => (cX nt x).map fun a => .ext a i
  | .makeSlice t l c => match P.underlying t, cX nt l, cX nt c with
    | some (.slice e), some a, some b => match tyEl P e, tyZero P e with
      | some el, some z => some (.mkslice el z a b)
      | _, _ => none
    | _, _, _ => none
  | .panic x => (cX nt x).map .panic
  | .range t x => match P.underlying t with
    | some .string => (cX nt x).map .rngS
    | _ => none
  | .next x b => if b then (cX nt x).map .nxtS else none
  | .call c => match c.callee with
    | .value f => match noEsc P f, cX nt f, cXs nt c.args.toList with
      | some g, _, some [a] => some (.noesc g a)
      | _, some a, some az => some (.call (draw && !has h.loud) a az)
      | _, _, _ => none
    | .builtin .len => match c.argTypes[0]?, c.args.toList with
      | some t, [x] => match P.underlying t with
        | some .string => (cX nt x).map (.len true)
        | some (.slice _) => (cX nt x).map (.len false)
        | _ => none
      | _, _ => none
    | .builtin .append => match c.argTypes[0]?, c.argTypes[1]?, c.args.toList with
      | some t, some u, [x, y] => match P.underlying t, P.underlying u, cX nt x, cX nt y with
        | some (.slice e), some (.slice _), some a, some b => (tyEl P e).map fun el => .app (tyHint (has h.tys) e) el a b
        | some (.slice e), some .string, some a, some b => (tyEl P e).map fun el => .app (tyHint (has h.tys) e) el a b
        | _, _, _, _ => none
      | _, _, _ => none
    | .builtin .unsafeSliceData => match c.argTypes[0]?, c.args.toList with
      | some t, [x] => match P.underlying t, cX nt x with
        | some (.slice e), some a => (tyEl P e).map fun el => .usd el a
        | _, _ => none
      | _, _ => none
    | .builtin .unsafeString => match c.argTypes.toList, c.args.toList with
      | [t, _], [x, y] => match P.underlying t, cX nt x, cX nt y with
        | some (.pointer e), some a, some b => if P.cellsOf e == 1 then some (.ustr e a b) else none
        | _, _, _ => none
      | _, _ => none
    | .builtin .min => match cXs nt c.args.toList with
      | some (a :: az) => some (.min a az)
      | _ => none
    | .builtin .max => match cXs nt c.args.toList with
      | some (a :: az) => some (.max a az)
      | _ => none
    | _ => none
  | _ => none
end
end Go.AM
