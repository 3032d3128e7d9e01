/- Part of a proof: see Root. -/
import Derived.Test.YtnfendddolhcoaaGreatDoorW02
import Derived.Laws.Sem
set_option linter.unnecessarySimpa false
set_option linter.unusedSectionVars false
set_option linter.unusedSimpArgs false
set_option linter.unusedVariables false
namespace Go.AM
def cScal : Value → Option AV
  | .bool b => some (.bool b)
  | .int k n => some (.int k n)
  | .string s => some (.str s.data.toList)
  | .pointer none => some .nilp
  | .slice none l c => if l = 0 ∧ c = 0 then some .nils else none
  | .map none => some .nilm
  | .nilFunc => some .nilf
  | .nilIface => some .nili
  | _ => none
def cScals : List Value → Option (List AV)
  | [] => some []
  | v :: vs => match cScal v, cScals vs with
    | some a, some az => some (a :: az)
    | _, _ => none
def cAV : Value → Option AV
  | .agg cs => (cScals cs.toList).map .agg
  | v => cScal v
def cX (nt : Nat) : Operand → Option AX
  | .tmp t => if t < nt then some (.t t) else none
  | .const v => (cAV v).map .c
  | .func f => some (.c (.fn (.func f) [] []))
  | .global _ => none
def cXs (nt : Nat) : List Operand → Option (List AX)
  | [] => some []
  | x :: xs => match cX nt x, cXs nt xs with
    | some a, some az => some (a :: az)
    | _, _ => none
def cXo (nt : Nat) : Option Operand → Option (Option AX)
  | none => some none
  | some x => (cX nt x).map some
def cParts {α : Type} (nt : Nat) (at_ : Nat → Option α) : List (Nat × Operand) → Option (List (α × AX))
  | [] => some []
  | (i, x) :: r => match at_ i, cX nt x, cParts nt at_ r with
    | some p, some a, some az => some ((p, a) :: az)
    | _, _, _ => none
section
variable (P : Program)
def tyAg (t : TypeId) : Option Bool :=
  match P.underlying t with
  | some (.struct _) | some (.array _ _) => some true
  | some _ => some false
  | none => none
def tyEl (t : TypeId) : Option El :=
  match tyAg P t, P.info? t with
  | some ag, some i => if (ag || i.size == 1) && i.bytes ≤ 24 * (i.size + 1) && i.size ≤ 1000 && i.zero.any (fun v => v.cells.size == i.size) then some ⟨ag, i.size⟩ else none
  | _, _ => none
def tyZero (t : TypeId) : Option AV := (P.info? t).bind fun i => i.zero.bind cAV
def fieldsKinds (fk : TypeId → Option (List Kd)) : Nat → List Field → Option (List Kd)
  | _, [] => some []
  | off, f :: fs => if f.name == "_" || f.offset != off then none else match fk f.type, P.info? f.type with
    | some ks, some i => if i.size == ks.length then (fieldsKinds fk (off + ks.length) fs).map (ks ++ ·) else none
    | _, _ => none
def flatKinds : (d : Nat) → TypeId → Option (List Kd)
  | 0, _ => none
  | d + 1, t => match P.underlying t with
    | some .bool => some [.b]
    | some (.int _) => some [.i]
    | some .string => some [.s]
    | some (.struct fs) => if P.stoodInHeld t then none else fieldsKinds P (flatKinds d) 0 fs.toList
    | some (.array n e) => match flatKinds d e, P.info? e with
      | some ks, some i => if i.size == ks.length && P.cellsOf e == ks.length then some (List.replicate n ks).flatten else none
      | _, _ => none
    | _ => none
structure Hints where
  mt : List Nat := []
  loud : List Nat := []
  vecs : List (Nat × El) := []
  tys : List Nat := []
  mth : List Nat := []
  rsv : List (Nat × Nat) := []
def tyHint (b : Bool) (t : TypeId) : Option TypeId := if b then some t else none
theorem tyHint_or (b : Bool) (t : TypeId) : tyHint b t = none ∨ tyHint b t = some t := by cases b <;> simp [tyHint]
def isNilSlice : Operand → Bool
  | .const (.slice none l c) => l == 0 && c == 0
  | _ => false
def isNilConst : Operand → Bool
  | .const (.pointer none) | .const .nilIface | .const .nilFunc | .const (.map none) => true
  | _ => false
def nilKind : TypeDesc → Option NK
  | .pointer _ => some .p
  | .interface _ => some .i
  | .func .. => some .f
  | .map .. => some .m
  | _ => none
def keyKind : TypeDesc → Option (Option IntKind)
  | .string => some none
  | .int k => some (some k)
  | _ => none
def noEsc : Operand → Option FuncId
  | .func f => match P.funcs[f]? with
    | some fn => if fn.body.isNone then some f else none
    | none => none
  | _ => none
def callOp (m q : Bool) (f : AX) (args : List AX) : AOp := if m then .meth f args else .call q f args
def sl3Op (d : Bool) (el : El) (lo : Bool) : XOp := if d then .sl3p el lo else .sl3 el lo
def hasD : Option Nat → List Nat → Bool
  | some d, l => l.contains d
  | none, _ => false
def cwOf (h : Hints) : Option Nat → List (Nat × El)
  | some d => h.vecs.filterMap fun (k, el) => if k / 100000 = d + 1 then some (k % 100000, el) else none
  | none => []
def cwOp (l : List (Nat × El)) (m q : Bool) (f : AX) (args : List AX) : AOp := match l, f with
  | _ :: _, .c (.fn (.func n) [] []) => .ex (.cw n args.length []) args
  | _, _ => callOp m q f args
def hasPc (h : Hints) : Option Nat → Bool
  | some d => h.mth.contains (200000 + d)
  | none => false
def pcOp (p : Bool) (l : List (Nat × El)) (m q : Bool) (f : AX) (args : List AX) : AOp := match p, f with
  | true, .c (.fn (.func n) [] []) => .ex (.pc n) args
  | _, _ => cwOp l m q f args
def compileOp (nt : Nat) (h : Hints) (draw : Bool) (o : Oper) : Option AOp :=
  let has (l : List Nat) : Bool := match o.dst with
    | some d => l.contains d
    | none => false
  let vec : Option El := match o.dst with
    | some d => h.vecs.lookup d
    | none => none
  match o.op with
  | .move x => (cX nt x).map fun a => if !draw && hasD o.dst h.loud then .ex .frz [a] else .mv a
  | .assign x => match vec with
    | some el => if isNilSlice x then some (.mkvec el) else (cX nt x).map .mv
    | none => (cX nt x).map .mv
  | .pick c a b => match cX nt c, cX nt a, cX nt b with
    | some c, some a, some b => some (.pick c a b)
    | _, _, _ => none
  | .alloc t => match tyZero P t with
    | some z => if z.cells.all AV.scalar then some (match o.dst.bind (fun d => h.rsv.lookup d) with | some i => .allocAt (nt + i) (tyHint (has h.tys) t) z.cells | none => .alloc (tyHint (has h.tys) t) z.cells) else none
    | none => none
  | .box t x => (cX nt x).map fun ax => if hasD o.dst h.tys then .boxT t ax else .box ax
  | .build t parts => match tyZero P t, P.underlying t with
    | some z, some (.struct fs) =>
      if fs.toList.all (fun f => (P.info? f.type).isSome) && z.cells.all AV.scalar then
        (cParts nt (fun i => (fs[i]?).map fun f => (f.offset, P.cellsOf f.type)) parts.toList).map fun ps => .build z.cells (ps.map fun p => (p.1.1, p.1.2, p.2))
      else none
    | some z, some (.array _ el) =>
      if (P.info? el).isSome && z.cells.all AV.scalar then
        (cParts nt (fun i => some (i * P.cellsOf el, P.cellsOf el)) parts.toList).map fun ps => .build z.cells (ps.map fun p => (p.1.1, p.1.2, p.2))
      else none
    | _, _ => none
  | .buildSlice t n parts => match P.underlying t with
    | some (.slice e) => match tyEl P e, tyZero P e with
      | some el, some z => if n * el.sz ≤ 2 ^ 24 && z.fits el then (cParts nt some parts.toList).map fun ps => .bslice (has h.mt) el z n ps else none
      | _, _ => none
    | _ => none
  | .load t a => match tyAg P t, P.info? t, cX nt a with
    | some ag, some i, some x => if ag || i.size == 1 then some (.load ag i.size x) else none
    | _, _, _ => none
  | .store t a v => match P.info? t, cX nt a, cX nt v with
    | some i, some x, some y => some (.store i.size x y)
    | _, _, _ => none
  | .nilCheck x => (cX nt x).map .nilck
  | .binOp op t x y _ => match cX nt x, cX nt y with
    | some a, some b =>
      match P.underlying t with
      | some (.int _) | some .string => some (.bin op a b)
      | some (.slice _) => if isNilSlice y then (match op with
          | .eql => some (.ex (if !draw && hasD o.dst h.loud then .nilU false else .nilS false) [a])
          | .neq => some (.ex (if !draw && hasD o.dst h.loud then .nilU true else .nilS true) [a])
          | _ => none) else none
      | some d =>
        match nilKind d with
        | some k =>
          if k == .p && !(isNilConst x || isNilConst y) then
            match d with
            | .pointer te => match P.info? te, op with
              | some _, .eql => some (.eqp false a b)
              | some _, .neq => some (.eqp true a b)
              | _, _ => none
            | _ => none
          else if isNilConst x || isNilConst y then
            match op with
            | .eql => some (.eqnil false k a b)
            | .neq => some (.eqnil true k a b)
            | _ => none
          else none
        | none =>
        match flatKinds P 12 t, tyAg P t, P.info? t with
        | some ks, some ag, some i =>
          if i.size == ks.length && (!ag || !P.eqGuardType P.depth t) then
            match op with
            | .eql => some (.eqf false ag ks a b)
            | .neq => some (.eqf true ag ks a b)
            | _ => none
          else none
        | _, _, _ => none
      | none => none
    | _, _ => none
  | .unOp op _ x => (cX nt x).map (.un op)
  | .convert s d x => match P.underlying s, P.underlying d, cX nt x with
    | some (.int _), some (.int k), some a => some (.cint k a)
    | some .string, some .string, some a => some (.cid a)
    | some .string, some (.slice e), some a => match P.underlying e, P.info? e with
      | some (.int .u8), some i => if i.size == 1 && i.bytes ≤ 48 then some (.s2b a) else none
      | _, _ => none
    | some (.slice e), some .string, some a => match P.underlying e, P.info? e with
      | some (.int .u8), some i => if i.size == 1 then some (.b2s a) else none
      | _, _ => none
    | some (.pointer t), some .unsafePointer, some a => match P.info? t with
      | some i => if i.size == 0 then none else some (.p2u a)
      | none => none
    | some .unsafePointer, some (.pointer t), some a => match P.info? t with
      | some _ => some (.u2p t a)
      | none => none
    | _, _, _ => none
  | .makeInterface t x => match P.underlying t with
    | some (.interface _) | none => none
    | _ => (cX nt x).map (.mkifc t)
  | .makeFunc fn first cap => match cXs nt first.toList, cXs nt cap.toList with
    | some a, some b => some (.mkfn fn a b)
    | _, _ => none
  | .slice t x lo hi mx => match cX nt x, cXo nt lo, cXo nt hi, cXo nt mx with
    | some a, some l, some h, some m =>
      match P.underlying t with
      | some .string => if m.isNone then some (.slS a l h) else none
      | some (.slice e) => match m, h with
        | none, _ => (tyEl P e).map fun el => .slL el a l h
        | some mx, some hi => (tyEl P e).map fun el => .ex (sl3Op draw el l.isSome) (a :: l.toList ++ [hi, mx])
        | _, _ => none
      | some (.array n e) => if m.isNone then (tyEl P e).map fun el => .ex (.slA el n l.isSome h.isSome) (a :: l.toList ++ h.toList) else none
      | _ => none
    | _, _, _, _ => none
  | .fieldAddr s x f => match P.underlying s, cX nt x with
    | some (.struct fs), some a => (fs[f]?).bind fun fi => if ((P.info? fi.type).map (·.size)).getD 0 == 0 then none else some (.faddr fi.offset a)
    | _, _ => none
  | .field s x f => match P.underlying s, cX nt x with
    | some (.struct fs), some a => (fs[f]?).bind fun fi => match tyAg P fi.type, P.info? fi.type with
      | some ag, some i => if ag || i.size == 1 then some (.field ag fi.offset i.size a) else none
      | _, _ => none
    | _, _ => none
  | .indexAddr t x i => match P.underlying t, cX nt x, cX nt i with
    | some (.slice e), some a, some b => (tyEl P e).map fun el => .iaddr el none a b
    | some (.array n e), some a, some b => (tyEl P e).map fun el => .iaddr el (some n) a b
    | _, _, _ => none
  | .index t x i => match P.underlying t, cX nt x, cX nt i with
    | some .string, some a, some b => some (.idxS a b)
    | some (.array n e), some a, some b => (tyEl P e).map fun el => .idxA el n a b
    | _, _, _ => none
  | .extract x i => (cX nt x).map fun a => .ext a i
  | .makeSlice t l c => match P.underlying t, cX nt l, cX nt c with
    | some (.slice e), some a, some b => match tyEl P e, tyZero P e with
      | some el, some z => some (match o.dst.bind (fun d => h.rsv.lookup d) with | some i => .mksAt (nt + i) el z a b | none => .mkslice el z a b)
      | _, _ => none
    | _, _, _ => none
  | .panic x => (cX nt x).map .panic
  | .makeMap t none => some (.ex .mkmap [])
  | .lookup t x k ok => match P.underlying t, cX nt x, cX nt k with
    | some (.map key elem), some a, some b => match (P.underlying key).bind keyKind, tyZero P elem with
      | some kd, some z => some (.ex (.lkup kd ok z) [a, b])
      | _, _ => none
    | _, _, _ => none
  | .mapUpdate t m k v | .insert t m k v => match P.underlying t, cX nt m, cX nt k, cX nt v with
    | some (.map key _), some a, some b, some c => match (P.underlying key).bind keyKind with
      | some kd => some (.ex (.mapset kd) [a, b, c])
      | none => none
    | _, _, _, _ => none
  | .mapEntry t m k => match P.underlying t, cX nt m, cX nt k with
    | some (.map key elem), some a, some b => match (P.underlying key).bind keyKind, tyZero P elem with
      | some kd, some z => some (.ex (.ment kd z) [a, b])
      | _, _ => none
    | _, _, _ => none
  | .entryStore _ m s v => match cX nt m, cX nt s, cX nt v with
    | some a, some b, some c => some (.ex .ests [a, b, c])
    | _, _, _ => none
  | .sliceToArrayPointer t x => match P.underlying t, cX nt x with
    | some (.array n _), some a => some (.ex (.s2a n) [a])
    | _, _ => none
  | .typeAssert x _ T ok => match P.underlying T with
    | some (.interface _) => none
    | none => none
    | some _ => match cX nt x, tyZero P T with
      | some a, some z => some (.ex (.tas T ok z) [a])
      | _, _ => none
  | .range t x => match P.underlying t with
    | some .string => (cX nt x).map .rngS
    | _ => none
  | .next x b => if b then (cX nt x).map .nxtS else none
  | .call c => match c.callee with
    | .value f => match noEsc P f, cX nt f, cXs nt c.args.toList with
      | some g, _, some [a] => some (.noesc g a)
      | _, some a, some az => some (pcOp (draw && hasPc h o.dst) (if draw then cwOf h o.dst else []) (draw && has h.mth) (if draw then !has h.loud else has h.loud) a az)
      | _, _, _ => none
    | .invoke r name => match cX nt r, cXs nt c.args.toList with
      | some a, some az => some (.ex (.inv name) (a :: az))
      | _, _ => none
    | .builtin .len => match c.argTypes[0]?, c.args.toList with
      | some t, [x] => match P.underlying t with
        | some .string => (cX nt x).map (.len true)
        | some (.slice _) => (cX nt x).map (.len false)
        | some (.map _ _) => (cX nt x).map fun a => .ex .lenm [a]
        | _ => none
      | _, _ => none
    | .builtin .append => match c.argTypes[0]?, c.argTypes[1]?, c.args.toList with
      | some t, some u, [x, y] => match P.underlying t, P.underlying u, cX nt x, cX nt y with
        | some (.slice e), some (.slice _), some a, some b => (tyEl P e).map fun el => if hasD o.dst h.mt then .ex (.apx el) [a, b] else if hasD o.dst h.loud then .ex (.appL el) [a, b] else (match o.dst.bind (fun d => h.rsv.lookup d) with | some i => .appAt (nt + i) none el a b | none => .app (tyHint (has h.tys) e) el a b)
        | some (.slice e), some .string, some a, some b => (tyEl P e).map fun el => if hasD o.dst h.mt then .ex (.apx el) [a, b] else .app (tyHint (has h.tys) e) el a b
        | _, _, _, _ => none
      | _, _, _ => none
    | .builtin .copy => match c.argTypes[0]?, c.args.toList with
      | some t, [x, y] => match P.underlying t, cX nt x, cX nt y with
        | some (.slice e), some a, some b => (tyEl P e).map fun el => .ex (.copy el) [a, b]
        | _, _, _ => none
      | _, _ => none
    | .builtin .clear => match c.argTypes[0]?, c.args.toList with
      | some t, [x] => match P.underlying t, cX nt x with
        | some (.slice e), some a => match tyEl P e, tyZero P e with
          | some el, some z => some (.ex (.clr el z) [a])
          | _, _ => none
        | _, _ => none
      | _, _ => none
    | .builtin .unsafeSliceData => match c.argTypes[0]?, c.args.toList with
      | some t, [x] => match P.underlying t, cX nt x with
        | some (.slice e), some a => (tyEl P e).map fun el => .usd el a
        | _, _ => none
      | _, _ => none
    | .builtin .unsafeString => match c.argTypes.toList, c.args.toList with
      | [t, _], [x, y] => match P.underlying t, cX nt x, cX nt y with
        | some (.pointer e), some a, some b => if P.cellsOf e == 1 then some (.ustr e a b) else none
        | _, _, _ => none
      | _, _ => none
    | .builtin .min => match cXs nt c.args.toList with
      | some (a :: az) => some (.min a az)
      | _ => none
    | .builtin .max => match cXs nt c.args.toList with
      | some (a :: az) => some (.max a az)
      | _ => none
    | _ => none
  | _ => none
end
end Go.AM
namespace Go.AM
structure EnvR (nt : Nat) (g : Ghost) (w : World) (e : Env) (tmps : Array Value) : Prop where
  size : tmps.size = nt
  rel : ∀ t, t < nt → VR g w (e t) (tmps.getD t Go.undef)
theorem EnvR.mono {nt : Nat} {g g' : Ghost} {w w' : World} {e : Env} {tmps : Array Value} (h : EnvR nt g w e tmps) (hm : Mono g w g' w') : EnvR nt g' w' e tmps :=
  ⟨h.size, fun t ht => (h.rel t ht).mono hm⟩
theorem EnvR.put {nt : Nat} {g : Ghost} {w : World} {e : Env} {a : Act} (h : EnvR nt g w e a.tmps) (d : Option Nat) {x : AV} {v : Value} (hv : VR g w x v) : EnvR nt g w (upd e d x) (a.put d v).tmps := by
  cases d with
  | none => exact h
  | some d =>
    refine ⟨by simp [Act.put, h.size], fun t ht => ?_⟩
    simp only [upd, Act.put]
    by_cases e1 : t = d
    · subst e1
      have : t < a.tmps.size := by rw [h.size]; exact ht
      simp [this, hv]
    · have := h.rel t ht
      simp only [if_neg e1]
      simpa [Array.getElem?_setIfInBounds_ne (Ne.symm e1)] using this
theorem cScal_rel {v : Value} {a : AV} (h : cScal v = some a) (g : Ghost) (w : World) : VR g w a v ∧ a.scalar = true := by
  cases v <;> simp only [cScal] at h
  case bool b => cases h; exact ⟨.bool b, rfl⟩
  case int k n => cases h; exact ⟨.int k n, rfl⟩
  case string s => cases h; exact ⟨by simpa using VR.str (g := g) (w := w) s.data.toList, rfl⟩
  case pointer p => cases p <;> simp [cScal] at h; subst h; exact ⟨.nilp, rfl⟩
  case slice p l c =>
    cases p with
    | none =>
      simp only [cScal] at h
      split at h
      · rename_i e; obtain ⟨rfl, rfl⟩ := e; cases h; exact ⟨.nils, rfl⟩
      · cases h
    | some p => simp [cScal] at h
  case map p => cases p <;> simp [cScal] at h; subst h; exact ⟨.nilm, rfl⟩
  case nilFunc => cases h; exact ⟨.nilf, rfl⟩
  case nilIface => cases h; exact ⟨.nili, rfl⟩
  all_goals cases h
theorem cScals_rel {vs : List Value} {az : List AV} (h : cScals vs = some az) (g : Ghost) (w : World) :
    az.length = vs.length ∧ az.all AV.scalar = true ∧ ∀ i, i < az.length → VR g w (az.getD i .undef) (vs.getD i Go.undef) := by
  induction vs generalizing az with
  | nil => cases h; exact ⟨rfl, rfl, fun i hi => absurd hi (Nat.not_lt_zero _)⟩
  | cons v vs ih =>
    simp only [cScals] at h
    split at h
    · rename_i a az' h1 h2
      cases h
      obtain ⟨i1, i2, i3⟩ := ih h2
      obtain ⟨j1, j2⟩ := cScal_rel h1 g w
      refine ⟨by simp [i1], by simpa [j2] using i2, fun i hi => ?_⟩
      cases i with
      | zero => simpa using j1
      | succ i => simpa using i3 i (by simpa using hi)
    · cases h
theorem cAV_rel {v : Value} {a : AV} (h : cAV v = some a) (g : Ghost) (w : World) : VR g w a v ∧ a.cells.all AV.scalar = true := by
  by_cases hv : ∃ cs, v = .agg cs
  · obtain ⟨cs, rfl⟩ := hv
    simp only [cAV, Option.map_eq_some_iff] at h
    obtain ⟨az, h1, rfl⟩ := h
    obtain ⟨i1, i2, i3⟩ := cScals_rel h1 g w
    exact ⟨.agg az cs (by simpa using i1) i2 (fun i hi => by simpa using i3 i hi), i2⟩
  · have h' : cScal v = some a := by
      cases v <;> simp only [cAV] at h <;> first | exact h | exact absurd ⟨_, rfl⟩ hv
    obtain ⟨j1, j2⟩ := cScal_rel h' g w
    refine ⟨j1, ?_⟩
    cases a <;> simp [AV.scalar] at j2 <;> simp [AV.cells, AV.scalar]
theorem cX_rel {nt : Nat} {x : Operand} {ax : AX} {g : Ghost} {w : World} {e : Env} {a : Act} (h : cX nt x = some ax) (hE : EnvR nt g w e a.tmps) : VR g w (ax.ev e) (a.eval x) := by
  cases x with
  | tmp t =>
    simp only [cX] at h
    split at h
    · cases h; exact hE.rel t ‹_›
    · cases h
  | const v =>
    simp only [cX, Option.map_eq_some_iff] at h
    obtain ⟨b, h1, rfl⟩ := h
    exact (cAV_rel h1 g w).1
  | global n => cases h
  | func f => cases h; exact .fn _ [] [] #[] #[] rfl rfl (fun i hi => absurd hi (Nat.not_lt_zero _)) (fun i hi => absurd hi (Nat.not_lt_zero _))
theorem cXs_rel {nt : Nat} {xs : List Operand} {az : List AX} {g : Ghost} {w : World} {e : Env} {a : Act} (h : cXs nt xs = some az) (hE : EnvR nt g w e a.tmps) :
    az.length = xs.length ∧ ∀ i, i < az.length → VR g w ((az.map (AX.ev e)).getD i .undef) ((xs.map a.eval).getD i Go.undef) := by
  induction xs generalizing az with
  | nil => cases h; exact ⟨rfl, fun i hi => absurd hi (Nat.not_lt_zero _)⟩
  | cons x xs ih =>
    simp only [cXs] at h
    split at h
    · rename_i b bs h1 h2
      cases h
      obtain ⟨i1, i2⟩ := ih h2
      refine ⟨by simp [i1], fun i hi => ?_⟩
      cases i with
      | zero => simpa using cX_rel h1 hE
      | succ i => simpa using i2 i (by simpa using hi)
    · cases h
theorem oneCell_cells {v : Value} (h : v.oneCell' = true) : v.cells = #[v] := by
  cases v <;> first | rfl | (simp [Value.oneCell'] at h; done)
theorem cells_rel {g : Ghost} {w : World} {a : AV} {v : Value} (h : VR g w a v) (hs : a.cells.all AV.scalar = true) :
    a.cells.length = v.cells.size ∧ ∀ i, i < a.cells.length → VR g w (a.cells.getD i .undef) (v.cells.getD i Go.undef) := by
  by_cases hv : ∃ cs, a = .agg cs
  · obtain ⟨cs, rfl⟩ := hv
    cases h with
    | agg cs vs hl hs h => exact ⟨hl, h⟩
  · have hc : a.cells = [a] := by cases a <;> first | rfl | exact absurd ⟨_, rfl⟩ hv
    rw [hc] at hs
    have hsc : a.scalar = true := by simpa using hs
    have h1 := oneCell_cells (h.oneCell hsc)
    rw [hc, h1]
    refine ⟨rfl, fun i hi => ?_⟩
    have : i = 0 := by simpa using hi
    subst this
    simpa using h
theorem scalar_get {cs : List AV} (h : cs.all AV.scalar = true) {i : Nat} (hi : i < cs.length) : (cs.getD i .undef).scalar = true := by
  have := List.all_eq_true.1 h (cs[i]) (List.getElem_mem _)
  simpa [hi] using this
def RunS (P : Program) (s : Sem Value) (g : Ghost) (w : World) (σ : Store) (K : AV → Store → Prop) : Prop :=
  ∃ v w' g' av σ', s.run P w = .ok v w' ∧ Rel g' w' σ' ∧ Evo σ g w σ' g' w' ∧ VR g' w' av v ∧ K av σ'
theorem RunS.pure {P : Program} {s : Sem Value} {g : Ghost} {w : World} {σ : Store} {K : AV → Store → Prop} {v : Value} {av : AV} (hR : Rel g w σ) (h : s.run P w = .ok v w) (hv : VR g w av v) (hk : K av σ) :
    RunS P s g w σ K := ⟨v, w, g, av, σ, h, hR, .refl _ _ _, hv, hk⟩
section
variable {P : Program} {g : Ghost} {w : World} {σ : Store} {K : AV → Store → Prop}
theorem run_typeInfo {t : TypeId} {i : TypeInfo} (h : P.info? t = some i) (w : World) : (typeInfo t).run P w = .ok i w := by
  simp [typeInfo, h]
theorem run_underlying' {t : TypeId} {d : TypeDesc} (h : P.underlying t = some d) (w : World) : (underlying t).run P w = .ok d w := by
  simp [underlying, h]
theorem run_sizeOf' {t : TypeId} {i : TypeInfo} (h : P.info? t = some i) (w : World) : (sizeOf t).run P w = .ok i.size w := by
  simp [sizeOf, run_typeInfo h]
theorem run_isAgg' {t : TypeId} {b : Bool} (h : tyAg P t = some b) (w : World) : (isAgg t).run P w = .ok b w := by
  unfold tyAg at h
  split at h
  · rename_i hu; cases h; simp [isAgg, run_underlying' hu]
  · rename_i hu; cases h; simp [isAgg, run_underlying' hu]
  · rename_i d h1 h2 hu; cases h
    simp only [isAgg, Sem.run_bind, run_underlying' hu, Result.andThen_ok]
    cases d <;> first | rfl | exact absurd hu (h1 _) | exact absurd hu (h2 _ _)
  · cases h
theorem run_zero {t : TypeId} {z : AV} (h : tyZero P t = some z) (w : World) : ∃ v, (zeroValue t).run P w = .ok v w ∧ ∀ g w, VR g w z v ∧ z.cells.all AV.scalar = true := by
  unfold tyZero at h
  cases hi : P.info? t with
  | none => simp [hi] at h
  | some i =>
    simp only [hi, Option.bind_some] at h
    cases hz : i.zero with
    | none => simp [hz] at h
    | some v =>
      simp only [hz, Option.bind_some] at h
      exact ⟨v, by simp [zeroValue, run_typeInfo hi, hz], fun g w => cAV_rel h g w⟩
theorem row_alloc (w : World) (vs : Array Value) (t : TypeId) : Row (w.alloc (.cells vs t)) w.heap.size vs := by
  refine ⟨t, (0, 0), heap_alloc_new w _, fun i _ => ?_⟩
  exact World.frozen?_alloc_new w vs t i
theorem rowE_alloc (el : El) (w : World) (vs : Array Value) (t : TypeId) : RowE el (w.alloc (.cells vs t)) w.heap.size vs :=
  ⟨row_alloc w vs t, fun _ i => World.frozen?_alloc_new w vs t i⟩
theorem new_cells (hR : Rel g w σ) (t : TypeId) {cs : List AV} {vs : Array Value} (hs : cs.all AV.scalar = true) (hl : cs.length = vs.size)
    (h : ∀ i, i < cs.length → VR g w (cs.getD i .undef) (vs.getD i Go.undef))
    (T : Option TypeId) (hT : T = none ∨ T = some t) : ∃ g', Rel g' (w.alloc (.cells vs t)) (σ ++ [.cellsT T cs]) ∧ Evo σ g w (σ ++ [.cellsT T cs]) g' (w.alloc (.cells vs t)) ∧
      VR g' (w.alloc (.cells vs t)) (.ref σ.length 0) (.pointer (some ⟨w.heap.size, 0, none⟩)) := by
  have hm := alloc_mono_push g w (.cells vs t) 1 (some w.heap.size) 0 hR.lt
  have hty : TyOk (w.alloc (.cells vs t)) w.heap.size cs.length T := by
    rcases hT with rfl | rfl
    · trivial
    · have : (w.alloc (.cells vs t)).heap[w.heap.size]? = some (.cells vs t) := by show (w.heap.push _)[w.heap.size]? = _; simp
      simp only [TyOk, World.shape?, this, hl]
  obtain ⟨h1, h2⟩ := hR.allocObj (.cells vs t) (.cellsT T cs) 1 0
    ⟨by simp [Ghost.push], hs, w.heap.size, vs, by simp [Ghost.push], row_alloc w vs t, hl.symm, fun i hi => (h i hi).mono hm, hty⟩
  refine ⟨_, h1, h2, .ref _ _ _ ⟨by simp [Ghost.push, hR.len], _, rfl, fun _ => ⟨by simp [Ghost.push, hR.len], rfl⟩⟩⟩
theorem alloc_sound {t : TypeId} {T : Option TypeId} (hT : T = none ∨ T = some t) {z : AV} (hR : Rel g w σ) (hz : tyZero P t = some z) (hK : K (.ref σ.length 0) (σ ++ [.cellsT T z.cells])) :
    RunS P (Instr.alloc t true (.tuple #[])) g w σ K := by
  obtain ⟨v, h1, h2⟩ := run_zero hz w
  obtain ⟨h3, h4⟩ := h2 g w
  obtain ⟨h5, h6⟩ := cells_rel h3 h4
  obtain ⟨g', r1, r2, r3⟩ := new_cells hR t h4 h5 h6 T hT
  refine ⟨_, _, g', _, _, ?_, r1, r2, r3, hK⟩
  simp [Instr.alloc, h1, newVar, newRow]
theorem allocAt_sound {t : TypeId} {T : Option TypeId} (hT : T = none ∨ T = some t) {n : Nat} {z : AV} (hR : Rel g w σ) (hn : σ[n]? = some .resv) (hz : tyZero P t = some z) (hK : K (.ref n 0) (σ.set n (.cellsT T z.cells))) :
    RunS P (Instr.alloc t true (.tuple #[])) g w σ K := by
  obtain ⟨v, h1, h2⟩ := run_zero hz w
  obtain ⟨h3, h4⟩ := h2 g w
  obtain ⟨h5, h6⟩ := cells_rel h3 h4
  obtain ⟨hv0, hb0, _⟩ := hR.ok n _ hn
  have hnn : n < g.n := by rw [← hR.len]; exact (List.getElem?_eq_some_iff.1 hn).1
  have hty : ∀ vs : Array Value, z.cells.length = vs.size → TyOk (w.alloc (.cells vs t)) w.heap.size z.cells.length T := fun vs hl => by
    rcases hT with rfl | rfl
    · trivial
    · have : (w.alloc (.cells vs t)).heap[w.heap.size]? = some (.cells vs t) := by show (w.heap.push _)[w.heap.size]? = _; simp
      simp only [TyOk, World.shape?, this, hl]
  obtain ⟨r1, r2⟩ := hR.change (w' := w.alloc (.cells _ t)) (o' := .cellsT T z.cells) hn rfl 1 (some w.heap.size) 0 0 (by omega) (fun h => by omega) (by simp) rfl rfl rfl
    (fun b hb _ => heap_alloc_old w _ hb) (fun b hb => by cases hb; exact .inr (Nat.le_refl _))
    (fun hm => ⟨by simp [Ghost.reset], h4, w.heap.size, _, by simp [Ghost.reset], row_alloc w _ t, h5.symm, fun i hi => (h6 i hi).mono hm, hty _ h5⟩)
  refine ⟨_, _, _, _, _, ?_, r1, r2, .ref _ _ _ ⟨⟨hnn, by simp [Ghost.reset]⟩, ⟨w.heap.size, 0, none⟩, rfl, fun _ => ⟨by simp [Ghost.reset], rfl⟩⟩, hK⟩
  simp [Instr.alloc, h1, newVar, newRow]
theorem box_sound {t : TypeId} {a : AV} {v : Value} (hR : Rel g w σ) (hv : VR g w a v) (hs : a.cells.all AV.scalar = true) (hK : K (.ref σ.length 0) (σ ++ [.cells a.cells])) :
    RunS P (Instr.box t v) g w σ K := by
  obtain ⟨h5, h6⟩ := cells_rel hv hs
  obtain ⟨g', r1, r2, r3⟩ := new_cells hR t hs h5 h6 none (.inl rfl)
  refine ⟨_, _, g', _, _, ?_, r1, r2, r3, hK⟩
  simp [Instr.box, newVar, newRow]
theorem boxT_sound {t : TypeId} {a : AV} {v : Value} (hR : Rel g w σ) (hv : VR g w a v) (hs : a.cells.all AV.scalar = true) (hK : K (.ref σ.length 0) (σ ++ [.cellsT (some t) a.cells])) :
    RunS P (Instr.box t v) g w σ K := by
  obtain ⟨h5, h6⟩ := cells_rel hv hs
  obtain ⟨g', r1, r2, r3⟩ := new_cells hR t hs h5 h6 (some t) (.inr rfl)
  refine ⟨_, _, g', _, _, ?_, r1, r2, r3, hK⟩
  simp [Instr.box, newVar, newRow]
theorem run_loadCells {b o : Nat} {n : Nat} (hc : ∀ c, c < n → (w.cell? ⟨b, o + c, none⟩).isSome = true) :
    ∀ (i : Nat) (acc : Array Value) (m : Nat), i + m = n → (loadCellsFrom ⟨b, o, none⟩ i m acc).run P w = .ok (acc ++ ((List.range' i m).map fun c => cellD w ⟨b, o + c, none⟩).toArray) w := by
  intro i acc m
  induction m generalizing i acc with
  | zero => intro _; simp [loadCellsFrom]
  | succ m ih =>
    intro hi
    have h1 := hc i (by omega)
    have ha : (⟨b, o, none⟩ : Addr).add i = ⟨b, o + i, none⟩ := by
      unfold Addr.add; split
      · rename_i h0; subst h0; rfl
      · rfl
    obtain ⟨v, hv⟩ := Option.isSome_iff_exists.1 h1
    simp only [loadCellsFrom, Sem.run_bind, run_load, ha, hv, Result.andThen_ok]
    rw [ih (i + 1) (acc.push v) (by omega)]
    simp [List.range'_succ, cellD, hv]
theorem load_rel {t : TypeId} {ag : Bool} {i : TypeInfo} {b o : Nat} (hA : tyAg P t = some ag) (hi : P.info? t = some i) (h1 : ag = false → i.size = 1)
    (hc : ∀ c, c < i.size → (w.cell? ⟨b, o + c, none⟩).isSome = true) :
    (loadVar t ⟨b, o, none⟩).run P w = .ok (if ag then .agg ((List.range i.size).map fun c => cellD w ⟨b, o + c, none⟩).toArray else cellD w ⟨b, o, none⟩) w := by
  cases ag with
  | true =>
    have := run_loadCells (P := P) hc 0 #[] i.size (by omega)
    simp [loadVar, run_isAgg' hA, run_sizeOf' hi, loadCells, this, List.range_eq_range']
  | false =>
    have h2 := hc 0 (by rw [h1 rfl]; omega)
    obtain ⟨v, hv⟩ := Option.isSome_iff_exists.1 h2
    simp only [Nat.add_zero] at hv
    simp [loadVar, run_isAgg' hA, hv, cellD]
end
end Go.AM
namespace Go.AM
section
variable {P : Program} {g : Ghost} {w : World} {σ : Store} {K : AV → Store → Prop}
theorem read_rel {g : Ghost} {w : World} {ag : Bool} {n : Nat} {b o : Nat} {cs : List AV} (h1 : ag = false → n = 1) (hl : cs.length = n) (hs : ag = true → cs.all AV.scalar = true)
    (h : ∀ c, c < n → VR g w (cs.getD c .undef) (cellD w ⟨b, o + c, none⟩)) :
    VR g w (if ag then .agg cs else cs.getD 0 .undef) (if ag then .agg ((List.range n).map fun c => cellD w ⟨b, o + c, none⟩).toArray else cellD w ⟨b, o, none⟩) := by
  cases ag with
  | true =>
    refine .agg cs _ (by simp [hl]) (hs rfl) (fun i hi => ?_)
    have := h i (by omega)
    have h2 : i < n := by omega
    simpa [h2] using this
  | false =>
    have := h 0 (by rw [h1 rfl]; omega)
    simpa using this
theorem getD_drop_take {cs : List AV} {off n c : Nat} (hc : c < n) : ((cs.drop off).take n).getD c .undef = cs.getD (off + c) .undef := by
  simp [hc]
theorem all_drop_take {cs : List AV} (h : cs.all AV.scalar = true) (off n : Nat) : ((cs.drop off).take n).all AV.scalar = true := by
  rw [List.all_eq_true] at h ⊢
  exact fun x hx => h x (List.mem_of_mem_drop (List.mem_of_mem_take hx))
theorem fits_sz {el : El} {x : AV} (h : x.fits el = true) (ha : el.ag = false) : el.sz = 1 := by
  cases x <;> simp_all [AV.fits]
theorem elem_whole {g : Ghost} {w : World} {el : El} {x : AV} {b o : Nat} (hel : el.ag = false → el.sz = 1) (ft : x.fits el = true)
    (h : ∀ c, c < el.sz → VR g w (x.cell c) (cellD w ⟨b, o + c, none⟩)) :
    VR g w x (if el.ag then .agg ((List.range el.sz).map fun c => cellD w ⟨b, o + c, none⟩).toArray else cellD w ⟨b, o, none⟩) := by
  by_cases hx : ∃ cs, x = .agg cs
  · obtain ⟨cs, rfl⟩ := hx
    simp only [AV.fits, Bool.and_eq_true, beq_iff_eq] at ft
    obtain ⟨⟨h1, h2⟩, h3⟩ := ft
    have := read_rel (g := g) (w := w) (ag := el.ag) (n := el.sz) (b := b) (o := o) (cs := cs) hel h2 (fun _ => h3) h
    rw [h1] at this ⊢
    simpa using this
  · have hag : el.ag = false := by
      cases x <;> first
        | exact absurd ⟨_, rfl⟩ hx
        | (simp only [AV.fits, Bool.and_eq_true, Bool.not_eq_true'] at ft; exact ft.1)
        | cases ft
    have h0 := h 0 (by rw [hel hag]; omega)
    have hc : x.cell 0 = x := by cases x <;> first | rfl | exact absurd ⟨_, rfl⟩ hx
    rw [hc] at h0
    rw [hag]
    simpa using h0
theorem part_sound {t : TypeId} {ag : Bool} {i : TypeInfo} {el : El} {x : AV} {b o off : Nat} (hel : el.ag = false → el.sz = 1) (hA : tyAg P t = some ag) (hi : P.info? t = some i) (h1 : ag = false → i.size = 1)
    (ft : x.fits el = true) (hc : ∀ c, c < el.sz → (w.cell? ⟨b, o + c, none⟩).isSome = true)
    (h : ∀ c, c < el.sz → VR g w (x.cell c) (cellD w ⟨b, o + c, none⟩)) {K : AV → Prop} (hK : partOf el x off ag i.size K) :
    ∃ v av, (loadVar t ⟨b, o + off, none⟩).run P w = .ok v w ∧ VR g w av v ∧ K av := by
  unfold partOf at hK
  split at hK
  · rename_i e
    obtain ⟨rfl, e2, rfl⟩ := e
    refine ⟨_, x, load_rel hA hi h1 (fun c hc' => hc c (by omega)), ?_, hK⟩
    have := elem_whole hel ft h
    rw [← e2] at this
    simpa using this
  · obtain ⟨h2, h3⟩ := hK
    cases x <;> simp only at h3
    case agg cs =>
      obtain ⟨h4, h5⟩ := h3
      simp only [AV.fits, Bool.and_eq_true, beq_iff_eq] at ft
      obtain ⟨⟨_, hl⟩, hs⟩ := ft
      have e : ∀ c, (⟨b, o + off + c, none⟩ : Addr) = ⟨b, o + (off + c), none⟩ := fun c => by rw [Nat.add_assoc]
      refine ⟨_, _, load_rel hA hi h1 (fun c hc' => by rw [e]; exact hc (off + c) (by omega)), ?_, h4⟩
      have := read_rel (g := g) (w := w) (ag := ag) (n := i.size) (b := b) (o := o + off) (cs := (cs.drop off).take i.size) h1 (by simp; omega) (fun _ => all_drop_take hs _ _)
        (fun c hc' => by rw [getD_drop_take hc', e]; exact h (off + c) (by omega))
      cases ag with
      | true => simpa using this
      | false =>
        rw [h1 rfl] at this
        have e0 : ((cs.drop off).take 1).getD 0 .undef = cs.getD off .undef := by rw [getD_drop_take (by omega)]; rfl
        simp only [Bool.false_eq_true, if_false] at this ⊢
        rw [e0] at this
        exact this
theorem load_pure {t : TypeId} {ag : Bool} {i : TypeInfo} {p : AV} {v : Value} (hR : Rel g w σ) (hA : tyAg P t = some ag) (hi : P.info? t = some i) (h1 : ag = false → i.size = 1)
    (hv : VR g w p v)
    {K : AV → Prop} (hK : loadA σ ag i.size p K) : ∃ u av, (Instr.loadAt t v).run P w = .ok u w ∧ VR g w av u ∧ K av := by
  cases hv <;> simp only [loadA] at hK
  case ref l off h =>
    obtain ⟨hl, A, rfl, hA'⟩ := h
    split at hK
    · rename_i cs hcs
      obtain ⟨k1, k2, k3⟩ := hK
      obtain ⟨o1, o2, b, vs, o3, o4, o5, o6, _⟩ := hR.ok l _ hcs
      obtain ⟨a1, a2⟩ := hA' o1
      have hb : A.block = b := by rw [a1] at o3; cases o3; rfl
      rw [a2, hb]
      have hcell : ∀ c, c < i.size → w.cell? ⟨b, off + c, none⟩ = some (vs.getD (off + c) Go.undef) := fun c hc => o4.cell (by omega)
      have hD : ∀ c, c < i.size → cellD w ⟨b, off + c, none⟩ = vs.getD (off + c) Go.undef := fun c hc => by simp [cellD, hcell c hc]
      have hrun := load_rel (P := P) (w := w) (b := b) (o := off) hA hi h1 (fun c hc => by simp [hcell c hc])
      refine ⟨_, _, by simpa [Instr.loadAt, Instr.sureAddr] using hrun, ?_, k3⟩
      have := read_rel (g := g) (w := w) (ag := ag) (n := i.size) (b := b) (o := off) (cs := (cs.drop off).take i.size) h1 (by simp; omega) (fun _ => all_drop_take o2 _ _)
        (fun c hc => by rw [getD_drop_take hc, hD c hc]; exact o6 (off + c) (by omega))
      cases ag with
      | true => simpa using this
      | false =>
        rw [h1 rfl] at this
        have e0 : ((cs.drop off).take 1).getD 0 .undef = cs.getD off .undef := by rw [getD_drop_take (by omega)]; rfl
        simp only [Bool.false_eq_true, if_false] at this ⊢
        rw [e0] at this
        exact this
    · exact hK.elim
  case eref el x off b o hi' ft hc h =>
    have hel : el.ag = false → el.sz = 1 := fits_sz ft
    obtain ⟨v, av, r1, r2, r3⟩ := part_sound (P := P) hel hA hi h1 ft hc h hK
    exact ⟨_, _, by simpa [Instr.loadAt, Instr.sureAddr] using r1, r2, r3⟩
  case vref el l m j off h =>
    obtain ⟨hl, hm, A, rfl, hA'⟩ := h
    split at hK
    · rename_i el' xs hxs
      obtain ⟨rfl, rfl, k3, k4⟩ := hK
      obtain ⟨o1, o2, o3⟩ := hR.ok l _ hxs
      rcases o3 with ⟨rfl, _, _⟩ | ⟨b, vs, b1, b2, b3, b4, b5, _⟩
      · exact absurd k3 (Nat.not_lt_zero _)
      · obtain ⟨a1, a2⟩ := hA' o1.symm
        have hb : A.block = b := by rw [a1] at b1; cases b1; rfl
        rw [a2, hb]
        have hlt : ∀ c, c < el'.sz → g.off l + j * el'.sz + c < vs.size := fun c hc => by
          rw [b3]
          have : j * el'.sz + el'.sz ≤ g.cap l * el'.sz := by rw [← Nat.succ_mul]; exact Nat.mul_le_mul_right _ (by omega)
          omega
        have hcell : ∀ c, c < el'.sz → w.cell? ⟨b, g.off l + j * el'.sz + c, none⟩ = some (vs.getD (g.off l + j * el'.sz + c) Go.undef) := fun c hc => b2.cell (hlt c hc)
        have hsome : ∀ c, c < el'.sz → (w.cell? ⟨b, g.off l + j * el'.sz + c, none⟩).isSome = true := fun c hc => by rw [hcell c hc]; rfl
        have hD : ∀ c, c < el'.sz → cellD w ⟨b, g.off l + j * el'.sz + c, none⟩ = vs.getD (g.off l + j * el'.sz + c) Go.undef := fun c hc => by unfold cellD; rw [hcell c hc]; rfl
        obtain ⟨v, av, r1, r2, r3⟩ := part_sound (P := P) (g := g) (b := b) (o := g.off l + j * el'.sz) (fits_sz (o2 j k3)) hA hi h1 (o2 j k3) hsome
          (fun c hc => by rw [hD c hc]; exact b5 j c k3 hc) k4
        exact ⟨_, _, by simpa [Instr.loadAt, Instr.sureAddr] using r1, r2, r3⟩
    · exact hK.elim
theorem load_cells {n : Nat} {p : AV} {A : Addr} (hR : Rel g w σ) (hv : VR g w p (.pointer (some A))) {K : AV → Prop} (hK : loadA σ true n p K) :
    ∃ b o cs, A = ⟨b, o, none⟩ ∧ cs.length = n ∧ cs.all AV.scalar = true ∧ K (.agg cs) ∧ (∀ c, c < n → (w.cell? ⟨b, o + c, none⟩).isSome = true) ∧ ∀ c, c < n → VR g w (cs.getD c .undef) (cellD w ⟨b, o + c, none⟩) := by
  have part : ∀ {el : El} {x : AV} {b o off : Nat}, x.fits el = true → (∀ c, c < el.sz → (w.cell? ⟨b, o + c, none⟩).isSome = true) → (∀ c, c < el.sz → VR g w (x.cell c) (cellD w ⟨b, o + c, none⟩)) → partOf el x off true n K →
      ∃ cs, cs.length = n ∧ cs.all AV.scalar = true ∧ K (.agg cs) ∧ (∀ c, c < n → (w.cell? ⟨b, o + off + c, none⟩).isSome = true) ∧ ∀ c, c < n → VR g w (cs.getD c .undef) (cellD w ⟨b, o + off + c, none⟩) := by
    intro el x b o off ft hc h hK
    unfold partOf at hK
    split at hK
    · rename_i e
      obtain ⟨rfl, rfl, e3⟩ := e
      cases x <;> simp only [AV.fits, ← e3, Bool.not_true, Bool.false_and, Bool.true_and, Bool.false_eq_true, Bool.and_eq_true, beq_iff_eq] at ft
      exact ⟨_, ft.1, ft.2, hK, hc, h⟩
    · obtain ⟨h2, h3⟩ := hK
      cases x <;> simp only at h3
      case agg cs =>
        simp only [AV.fits, Bool.and_eq_true, beq_iff_eq] at ft
        obtain ⟨⟨_, hl⟩, hs⟩ := ft
        refine ⟨(cs.drop off).take n, by simp; omega, all_drop_take hs _ _, by simpa using h3.1, fun c hc' => by rw [Nat.add_assoc]; exact hc _ (by omega), fun c hc' => ?_⟩
        rw [getD_drop_take hc', Nat.add_assoc]
        exact h (off + c) (by omega)
  cases hv <;> simp only [loadA] at hK
  case ref l off h =>
    obtain ⟨hl, A', e, hA'⟩ := h
    cases e
    split at hK
    · rename_i cs hcs
      obtain ⟨k1, _, k3⟩ := hK
      obtain ⟨o1, o2, b, vs, o3, o4, o5, o6, _⟩ := hR.ok l _ hcs
      obtain ⟨a1, a2⟩ := hA' o1
      have hb : A.block = b := by rw [a1] at o3; cases o3; rfl
      rw [hb] at a2
      have hcell : ∀ c, c < n → w.cell? ⟨b, off + c, none⟩ = some (vs.getD (off + c) Go.undef) := fun c hc => o4.cell (by omega)
      refine ⟨b, off, (cs.drop off).take n, a2, by simp; omega, all_drop_take o2 _ _, by simpa using k3, fun c hc => by rw [hcell c hc]; rfl, fun c hc => ?_⟩
      rw [getD_drop_take hc]
      have : cellD w ⟨b, off + c, none⟩ = vs.getD (off + c) Go.undef := by simp [cellD, hcell c hc]
      rw [this]; exact o6 (off + c) (by omega)
    · exact hK.elim
  case eref el x off b o hi' ft hc h =>
    obtain ⟨cs, h1, h2, h3, h4, h5⟩ := part ft hc h hK
    exact ⟨b, o + off, cs, rfl, h1, h2, h3, h4, h5⟩
  case vref el l m j off h =>
    obtain ⟨hl, hm, A', e, hA'⟩ := h
    cases e
    split at hK
    · rename_i el' xs hxs
      obtain ⟨rfl, rfl, k3, k4⟩ := hK
      obtain ⟨o1, o2, o3⟩ := hR.ok l _ hxs
      rcases o3 with ⟨rfl, _, _⟩ | ⟨b, vs, b1, b2, b3, b4, b5, _⟩
      · exact absurd k3 (Nat.not_lt_zero _)
      · obtain ⟨a1, a2⟩ := hA' o1.symm
        have hb : A.block = b := by rw [a1] at b1; cases b1; rfl
        rw [hb] at a2
        have hlt : ∀ c, c < el'.sz → g.off l + j * el'.sz + c < vs.size := fun c hc => by
          rw [b3]
          have : j * el'.sz + el'.sz ≤ g.cap l * el'.sz := by rw [← Nat.succ_mul]; exact Nat.mul_le_mul_right _ (by omega)
          omega
        have hcell : ∀ c, c < el'.sz → w.cell? ⟨b, g.off l + j * el'.sz + c, none⟩ = some (vs.getD (g.off l + j * el'.sz + c) Go.undef) := fun c hc => b2.cell (hlt c hc)
        have hD : ∀ c, c < el'.sz → cellD w ⟨b, g.off l + j * el'.sz + c, none⟩ = vs.getD (g.off l + j * el'.sz + c) Go.undef := fun c hc => by unfold cellD; rw [hcell c hc]; rfl
        obtain ⟨cs, h1, h2, h3, h4, h5⟩ := part (b := b) (o := g.off l + j * el'.sz) (o2 j k3) (fun c hc => by rw [hcell c hc]; rfl) (fun c hc => by rw [hD c hc]; exact b5 j c k3 hc) k4
        exact ⟨b, _, cs, a2, h1, h2, h3, h4, h5⟩
    · exact hK.elim
theorem load_sound {t : TypeId} {ag : Bool} {i : TypeInfo} {p : AV} {v : Value} (hR : Rel g w σ) (hA : tyAg P t = some ag) (hi : P.info? t = some i) (h1 : ag = false → i.size = 1)
    (hv : VR g w p v) (hK : loadA σ ag i.size p fun v => K v σ) : RunS P (Instr.loadAt t v) g w σ K := by
  obtain ⟨u, av, r1, r2, r3⟩ := load_pure (P := P) hR hA hi h1 hv hK
  exact RunS.pure hR r1 r2 r3
end
end Go.AM
