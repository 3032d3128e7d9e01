/- Part of a proof: see Root. -/
import Derived.Test.YtnfendddolhcoaaGreatDoorW00
import Derived.RangeFuncIn
import Derived.RangeFuncLeaves
import Derived.RangeFuncRecord
import Derived.OrdersIn
set_option linter.unnecessarySimpa false
set_option linter.unusedSectionVars false
set_option linter.unusedSimpArgs false
set_option linter.unusedVariables false
namespace Go.AM
inductive Out where
  | ret (a : AV)
  | panic (a : AV)
def OutR (g : Ghost) (w : World) : Out → Ending → Prop
  | .ret a, .returned v => VR g w a v
  | .panic a, .panicked chain => ∃ v, chain = [{ v, recovered := false }] ∧ VR g w a v
  | _, _ => False
def Has (P : Program) (f : FuncId) : Prop := ∃ fn, P.funcs[f]? = some fn ∧ fn.body.isSome = true ∧ (fn.name == "runtime.NumGoroutine") = false
def CallA (P : Program) (f : FuncId) (args : List AV) (σ : Store) (R : Out → Store → Prop) : Prop :=
  Has P f ∧ ∀ (g : Ghost) (w : World) (vs : Array Value), Rel g w σ → args.length = vs.size → (∀ i, i < args.length → VR g w (args.getD i .undef) (vs.getD i Go.undef)) →
    Calls P f vs w fun e w' => ∃ out g' σ', Rel g' w' σ' ∧ Evo σ g w σ' g' w' ∧ OutR g' w' out e ∧ R out σ'
theorem CallA.mono {P : Program} {f : FuncId} {args : List AV} {σ : Store} {R R' : Out → Store → Prop} (h : CallA P f args σ R) (hr : ∀ o σ', R o σ' → R' o σ') : CallA P f args σ R' :=
  ⟨h.1, fun g w vs h1 h2 h3 => (h.2 g w vs h1 h2 h3).mono fun _ _ ⟨out, g', σ', a, b, c, d⟩ => ⟨out, g', σ', a, b, c, hr _ _ d⟩⟩
def YieldA (P : Program) (l : Nat) (args : List AV) (σ : Store) (R : Out → Store → Prop) : Prop :=
  (∃ nt e ps ca cb st pe, σ[l]? = some (.loop nt e ps ca cb st pe)) ∧ ∀ (g : Ghost) (w : World) (vs : Array Value) (b : Nat), Rel g w σ → g.base l = some b → args.length = vs.size → (∀ i, i < args.length → VR g w (args.getD i .undef) (vs.getD i Go.undef)) →
    ∃ fn tmps assign body, (Instr.yield b vs).run P w = .ok (.round b fn tmps assign body) w ∧ RoundIn Fence.wide 0 P b fn tmps assign body w fun en w' => ∃ out g' σ', Rel g' w' σ' ∧ Evo σ g w σ' g' w' ∧ OutR g' w' out en ∧ R out σ'
theorem YieldA.mono {P : Program} {l : Nat} {args : List AV} {σ : Store} {R R' : Out → Store → Prop} (h : YieldA P l args σ R) (hr : ∀ o σ', R o σ' → R' o σ') : YieldA P l args σ R' := by
  refine ⟨h.1, fun g w vs b h1 h2 h3 h4 => ?_⟩
  obtain ⟨fn, tmps, ca, cb, r1, r2⟩ := h.2 g w vs b h1 h2 h3 h4
  exact ⟨fn, tmps, ca, cb, r1, r2.mono fun _ _ ⟨out, g', σ', a, b, c, d⟩ => ⟨out, g', σ', a, b, c, hr _ _ d⟩⟩
def CallQ (P : Program) (f : FuncId) (args : List AV) (σ : Store) (r : AV) : Prop := CallA P f args σ fun o σ' => o = .ret r ∧ σ' = σ
abbrev Env := Nat → AV
inductive AX where
  | t (n : Nat)
  | c (a : AV)
def AX.ev (e : Env) : AX → AV
  | .t n => e n
  | .c a => a
def upd (e : Env) (d : Option Nat) (a : AV) : Env :=
  match d with
  | some d => fun n => if n = d then a else e n
  | none => e
def setMany : List AV → Nat → List AV → List AV
  | cs, _, [] => cs
  | cs, i, a :: az => setMany (cs.set i a) (i + 1) az
inductive Kd where
  | b | i | s
deriving DecidableEq
def kdEq : Kd → AV → AV → Option Bool
  | .b, .bool a, .bool b => some (a == b)
  | .i, .int k a, .int k' b => if k = k' then some (a == b) else none
  | .s, .str a, .str b => some (a == b)
  | _, _, _ => none
def kdsEq : List Kd → List AV → List AV → Option Bool
  | [], [], [] => some true
  | k :: ks, a :: az, b :: bs => match kdEq k a b, kdsEq ks az bs with
    | some x, some y => some (x && y)
    | _, _ => none
  | _, _, _ => none
inductive NK where
  | p | i | f | m
deriving DecidableEq
def isNilK : NK → AV → Option Bool
  | .p, .nilp => some true
  | .p, .ref .. | .p, .eref .. | .p, .vref .. => some false
  | .i, .nili => some true
  | .i, .ifc .. => some false
  | .f, .nilf => some true
  | .f, .fn .. => some false
  | .m, .nilm => some true
  | .m, .mp .. => some false
  | _, _ => none
def nilEq (k : NK) (x y : AV) : Option Bool :=
  match isNilK k x, isNilK k y with
  | some true, some b => some b
  | some false, some true => some false
  | _, _ => none
def AV.obj : AV → Option Nat
  | .ref l _ => some l
  | .vref _ l _ _ _ => some l
  | .own _ l _ _ _ => some l
  | .asl _ (.ref l _) _ => some l
  | .asl _ (.vref _ l _ _ _) _ => some l
  | .mp l => some l
  | _ => none
def AV.adv (d : Nat) : AV → AV
  | .ref l o => .ref l (o + d)
  | .eref el y o => .eref el y (o + d)
  | .vref el l m i o => .vref el l m i (o + d)
  | x => x
def AV.ptr : AV → Bool
  | .ref .. | .eref .. | .vref .. => true
  | _ => false
def AObj.like : AObj → AObj → Prop
  | .vecT T el xs, o => ∃ ys, o = .vecT T el ys ∧ ys.length = xs.length
  | _, _ => True
def methA (P : Program) (n : FuncId) (args : List AV) (σ : Store) (K : AV → Store → Prop) : Prop := match args with
  | a :: _ => ∃ l ob ob' r, a.obj = some l ∧ σ[l]? = some ob ∧ ob.like ob' ∧ CallA P n args σ (fun o σ' => o = .ret r ∧ σ' = σ.set l ob') ∧ K r (σ.set l ob')
  | [] => False
inductive XOp where
  | sl3 (el : El) (lo : Bool)
  | mkmap
  | lkup (kd : Option IntKind) (ok : Bool) (zero : AV)
  | mapset (kd : Option IntKind)
  | lenm
  | slA (el : El) (n : Nat) (lo hi : Bool)
  | copy (el : El)
  | inv (name : String)
  | apx (el : El)
  | sl3p (el : El) (lo : Bool)
  | appL (el : El)
  | cw (n : FuncId) (k : Nat) (lds : List (Bool × Nat))
  | nilS (neg : Bool)
  | tas (T : TypeId) (ok : Bool) (zero : AV)
  | s2a (n : Nat)
  | ment (kd : Option IntKind) (zero : AV)
  | ests
  | clr (el : El) (zero : AV)
  | pc (n : FuncId)
  | frz
  | nilU (neg : Bool)
inductive AOp where
  | ex (o : XOp) (xs : List AX)
  | mv (x : AX)
  | pick (c a b : AX)
  | alloc (T : Option TypeId) (cs : List AV)
  | box (x : AX)
  | build (zero : List AV) (parts : List (Nat × Nat × AX))
  | bslice (mt : Bool) (el : El) (zero : AV) (n : Nat) (parts : List (Nat × AX))
  | load (ag : Bool) (n : Nat) (x : AX)
  | store (n : Nat) (x v : AX)
  | nilck (x : AX)
  | bin (op : BinOp) (x y : AX)
  | eqf (neg : Bool) (ag : Bool) (ks : List Kd) (x y : AX)
  | un (op : UnOp) (x : AX)
  | cint (k : IntKind) (x : AX)
  | cid (x : AX)
  | s2b (x : AX)
  | b2s (x : AX)
  | mkifc (t : TypeId) (x : AX)
  | mkfn (f : Fn) (first cap : List AX)
  | slS (x : AX) (lo hi : Option AX)
  | slL (el : El) (x : AX) (lo hi : Option AX)
  | faddr (off : Nat) (x : AX)
  | field (ag : Bool) (off n : Nat) (x : AX)
  | iaddr (el : El) (arr : Option Nat) (x i : AX)
  | idxS (x i : AX)
  | idxA (el : El) (ln : Nat) (x i : AX)
  | ext (x : AX) (i : Nat)
  | call (q : Bool) (f : AX) (args : List AX)
  | meth (f : AX) (args : List AX)
  | len (s : Bool) (x : AX)
  | app (T : Option TypeId) (el : El) (x y : AX)
  | usd (el : El) (x : AX)
  | ustr (T : TypeId) (x n : AX)
  | p2u (x : AX)
  | u2p (u : TypeId) (x : AX)
  | eqp (neg : Bool) (x y : AX)
  | noesc (f : FuncId) (x : AX)
  | min (x : AX) (xs : List AX)
  | max (x : AX) (xs : List AX)
  | mkslice (el : El) (zero : AV) (n c : AX)
  | panic (x : AX)
  | mkvec (el : El)
  | hold
  | boxT (T : TypeId) (x : AX)
  | allocAt (k : Nat) (T : Option TypeId) (cs : List AV)
  | appAt (k : Nat) (T : Option TypeId) (el : El) (x y : AX)
  | rngS (x : AX)
  | nxtS (x : AX)
  | eqnil (neg : Bool) (k : NK) (x y : AX)
  | mksAt (k : Nat) (el : El) (zero : AV) (n c : AX)
def wrapK (k : IntKind) (n : Int) : Int := k.wrap n
def bitsK (op : BinOp) (k : IntKind) (x y : Int) : Int :=
  let a := BitVec.ofInt k.bits x
  let b := BitVec.ofInt k.bits y
  match op with
  | .and => k.wrap (a &&& b).toNat
  | .or => k.wrap (a ||| b).toNat
  | .xor => k.wrap (a ^^^ b).toNat
  | _ => k.wrap (a &&& ~~~b).toNat
def binA (op : BinOp) (x y : AV) (K : AV → Prop) : Prop :=
  match op, x, y with
  | .shl, .int k a, .int _ b => 0 ≤ b ∧ K (.int k (wrapK k (a * 2 ^ (Nat.min b.toNat k.bits))))
  | .shr, .int k a, .int _ b => 0 ≤ b ∧ K (.int k (a.fdiv (2 ^ (Nat.min b.toNat k.bits))))
  | .add, .int k a, .int k' b => k = k' ∧ K (.int k (wrapK k (a + b)))
  | .sub, .int k a, .int k' b => k = k' ∧ K (.int k (wrapK k (a - b)))
  | .mul, .int k a, .int k' b => k = k' ∧ K (.int k (wrapK k (a * b)))
  | .quo, .int k a, .int k' b => k = k' ∧ b ≠ 0 ∧ K (.int k (wrapK k (a.tdiv b)))
  | .rem, .int k a, .int k' b => k = k' ∧ b ≠ 0 ∧ K (.int k (a.tmod b))
  | .and, .int k a, .int k' b => k = k' ∧ K (.int k (bitsK .and k a b))
  | .or, .int k a, .int k' b => k = k' ∧ K (.int k (bitsK .or k a b))
  | .xor, .int k a, .int k' b => k = k' ∧ K (.int k (bitsK .xor k a b))
  | .andNot, .int k a, .int k' b => k = k' ∧ K (.int k (bitsK .andNot k a b))
  | .eql, .int k a, .int k' b => k = k' ∧ K (.bool (a == b))
  | .neq, .int k a, .int k' b => k = k' ∧ K (.bool (!(a == b)))
  | .lss, .int k a, .int k' b => k = k' ∧ K (.bool (decide (a < b)))
  | .leq, .int k a, .int k' b => k = k' ∧ K (.bool (decide (a ≤ b)))
  | .gtr, .int k a, .int k' b => k = k' ∧ K (.bool (decide (b < a)))
  | .geq, .int k a, .int k' b => k = k' ∧ K (.bool (decide (b ≤ a)))
  | .add, .str a, .str b => ((a.length + b.length : Nat) : Int) ≤ IntKind.i64.max ∧ K (.str (a ++ b))
  | .eql, .str a, .str b => K (.bool (a == b))
  | .neq, .str a, .str b => K (.bool (!(a == b)))
  | .lss, .str a, .str b => K (.bool (Op.bytesLess a b))
  | .leq, .str a, .str b => K (.bool (Op.bytesLess a b || a == b))
  | .gtr, .str a, .str b => K (.bool (!(Op.bytesLess a b || a == b)))
  | .geq, .str a, .str b => K (.bool (!Op.bytesLess a b))
  | _, _, _ => False
def unA (op : UnOp) (x : AV) (K : AV → Prop) : Prop :=
  match op, x with
  | .not, .bool b => K (.bool (!b))
  | .neg, .int k n => K (.int k (wrapK k (0 - n)))
  | .xor, .int k n => K (.int k (bitsK .xor k (if k.signed then -1 else k.max) n))
  | _, _ => False
def bound (x : Option AV) (d : Nat) (y : Nat) (K : Nat → Prop) : Prop :=
  match x with
  | none => K d
  | some (.int _ i) => 0 ≤ i ∧ i ≤ y ∧ K i.toNat
  | _ => False
def partOf (el : El) (x : AV) (off : Nat) (ag : Bool) (n : Nat) (K : AV → Prop) : Prop :=
  if off = 0 ∧ n = el.sz ∧ ag = el.ag then K x
  else off + n ≤ el.sz ∧ match x with
    | .agg cs => K (if ag then .agg ((cs.drop off).take n) else cs.getD off .undef) ∧ (ag = false → n = 1)
    | _ => False
def loadA (σ : Store) (ag : Bool) (n : Nat) (p : AV) (K : AV → Prop) : Prop :=
  match p with
  | .ref l off => match σ[l]? with
    | some (.cellsT _ cs) => off + n ≤ cs.length ∧ (ag = false → n = 1) ∧ K (if ag then .agg ((cs.drop off).take n) else cs.getD off .undef)
    | _ => False
  | .eref el x off => partOf el x off ag n K
  | .vref el l m i off => match σ[l]? with
    | some (.vecT T el' xs) => el' = el ∧ m = xs.length ∧ i < xs.length ∧ partOf el (xs.getD i .undef) off ag n K
    | _ => False
  | _ => False
def storeA (σ : Store) (n : Nat) (p v : AV) (K : Store → Prop) : Prop :=
  v.cells.length = n ∧ v.cells.all AV.scalar = true ∧
  match p with
  | .ref l off => match σ[l]? with
    | some (.cellsT T cs) => off + n ≤ cs.length ∧ K (σ.set l (.cellsT T (setMany cs off v.cells)))
    | _ => False
  | .vref el l m i off => match σ[l]? with
    | some (.vecT T el' xs) => el' = el ∧ m = xs.length ∧ i < xs.length ∧ off + n ≤ el.sz ∧ (el.ag = false → v.fits el = true) ∧
        K (σ.set l (.vecT T el (xs.set i (if el.ag then .agg (setMany (xs.getD i .undef).cells off v.cells) else v))))
    | _ => False
  | _ => False
def listA (σ : Store) (el : El) (x : AV) (K : List AV → Prop) : Prop :=
  match x with
  | .nils => K []
  | .lst _ el' xs => el' = el ∧ K xs
  | .own el' l m lo n => el' = el ∧ match σ[l]? with
    | some (.vecT T el'' xs) => el'' = el ∧ m = xs.length ∧ K ((xs.drop lo).take n)
    | _ => False
  | .str s => el = ⟨false, 1⟩ ∧ K (s.map fun b => .int .u8 b.toNat)
  | .asl el' p n => el' = el ∧ el = ⟨false, 1⟩ ∧ loadA σ true n p fun v => K v.cells
  | _ => False
def roomOk (n : Nat) (el : El) : Prop := n * (el.sz + 1) ≤ 2 ^ 40
def appA (σ : Store) (T : Option TypeId) (el : El) (x y : AV) (K : AV → Store → Prop) : Prop :=
  listA σ el y fun ys => ys.all (fun a => a.fits el) = true ∧
  match x with
  | .nils => if ys.length = 0 then K .nils σ else roomOk ys.length el ∧ K (.own el σ.length ys.length 0 ys.length) (σ ++ [.vecT T el ys])
  | .lst true el' xs => el' = el ∧ if ys.length = 0 then K (.lst true el xs) σ else
      roomOk (xs.length + ys.length) el ∧ K (.own el σ.length (xs.length + ys.length) 0 (xs.length + ys.length)) (σ ++ [.vecT T el (xs ++ ys)])
  | .own el' l m lo n => el' = el ∧ match σ[l]? with
    | some (.vecT T' el'' xs) => (T' = none ∨ T' = T) ∧ el'' = el ∧ m = xs.length ∧ lo = 0 ∧ n = xs.length ∧ roomOk (xs.length + ys.length) el ∧
        K (.own el l (xs.length + ys.length) 0 (xs.length + ys.length)) (σ.set l (.vecT T' el (xs ++ ys)))
    | _ => False
  | _ => False
def minA (op : Bool) (x y : AV) (K : AV → Prop) : Prop :=
  match x, y with
  | .int k a, .int _ b => K (.int k (if op then (if b < a then b else a) else (if b > a then b else a)))
  | _, _ => False
def minsA (op : Bool) (x : AV) : List AV → (AV → Prop) → Prop
  | [], K => K x
  | y :: ys, K => minA op x y fun z => minsA op z ys K
def buildA (zero : List AV) (e : Env) : List (Nat × Nat × AX) → (List AV → Prop) → Prop
  | [], K => K zero
  | (off, n, x) :: r, K => (x.ev e).cells.length = n ∧ (x.ev e).cells.all AV.scalar = true ∧ off + n ≤ zero.length ∧ buildA (setMany zero off (x.ev e).cells) e r K
def bsliceA (el : El) (xs : List AV) (e : Env) : List (Nat × AX) → (List AV → Prop) → Prop
  | [], K => K xs
  | (i, x) :: r, K => (x.ev e).fits el = true ∧ i < xs.length ∧ bsliceA el (xs.set i (x.ev e)) e r K
def noneL (el : El) : AV → Bool
  | .nils => true
  | .lst true el' xs => el' == el && xs.isEmpty
  | _ => false
def pureL (el : El) : AV → Option (List AV)
  | .nils => some []
  | .lst _ el' xs => if el' = el then some xs else none
  | _ => none
def keyEq : AV → AV → Option Bool
  | .str a, .str b => some (a == b)
  | .int k a, .int k' b => if k = k' then some (a == b) else none
  | _, _ => none
def mapFind (k : AV) : List (AV × AV) → Nat → Option (Option (Nat × AV))
  | [], _ => some none
  | (q, v) :: r, i => match keyEq k q with
    | some true => some (some (i, v))
    | some false => mapFind k r (i + 1)
    | none => none
def mapSet (k v : AV) (es : List (AV × AV)) : Option (List (AV × AV)) := match mapFind k es 0 with
  | some (some (i, _)) => some (es.set i (k, v))
  | some none => some (es ++ [(k, v)])
  | none => none
def AV.keyK : Option IntKind → AV → Bool
  | none, .str _ => true
  | some k, .int k' _ => k == k'
  | _, _ => false
def methOf (P : Program) (t : TypeId) (name : String) : Option FuncId := match P.info? t, P.underlying t with
  | some i, some (.pointer _) => match i.methods.find? (·.name == name) with
    | some m => match m.func with
      | some (f, true) => if m.path.isEmpty then some f else none
      | _ => none
    | none => none
  | _, _ => none
def bound3 (lo : Option AV) (hi mx : AV) (cap : Nat) (K : Nat → Nat → Nat → Prop) : Prop :=
  bound (some mx) 0 cap fun m => bound (some hi) 0 m fun h => bound lo 0 h fun l => K l h m
def sl3A (σ : Store) (el : El) (x : AV) (lo : Option AV) (hi mx : AV) (K : AV → Store → Prop) : Prop :=
  match x with
  | .nils => bound3 lo hi mx 0 fun _ _ _ => K .nils σ
  | .lst _ el' xs => el' = el ∧ bound3 lo hi mx xs.length fun l h m => K (.lst (h == m) el ((xs.drop l).take (h - l))) σ
  | .own el' l0 m0 o n => el' = el ∧ match σ[l0]? with
    | some (.vecT _ el'' xs) => el'' = el ∧ m0 = xs.length ∧ o + n ≤ m0 ∧ bound3 lo hi mx n fun l h m =>
        if m = l then K (.lst true el []) σ else h = m ∧ K (.lst true el ((xs.drop (o + l)).take (h - l))) (σ.set l0 .dead)
    | _ => False
  | _ => False
def sl3pA (el : El) (x : AV) (lo : Option AV) (hi mx : AV) (K : AV → Prop) : Prop :=
  match x with
  | .nils => bound3 lo hi mx 0 fun _ _ _ => K .nils
  | .lst _ el' xs => el' = el ∧ bound3 lo hi mx xs.length fun l h m => K (.lst (h == m) el ((xs.drop l).take (h - l)))
  | .own el' _ _ _ _ => el' = el ∧ bound3 lo hi mx 0 fun _ _ _ => K (.lst true el [])
  | _ => False
def copyTo (σ : Store) (el : El) (x : AV) (ys : List AV) (K : AV → Store → Prop) : Prop :=
  match x with
  | .nils => K (.int .i64 0) σ
  | .lst _ el' [] => el' = el ∧ K (.int .i64 0) σ
  | .asl el' p n => el' = el ∧ el = ⟨false, 1⟩ ∧ storeA σ (min ys.length n) p (.agg (ys.take n)) fun σ' => K (.int .i64 (min ys.length n : Nat)) σ'
  | .own el' l m o n => el' = el ∧ match σ[l]? with
    | some (.vecT T el'' xs) => el'' = el ∧ m = xs.length ∧ o + n ≤ m ∧ K (.int .i64 (min ys.length n : Nat)) (σ.set l (.vecT T el (setMany xs o (ys.take n))))
    | _ => False
  | _ => False
def copyA (σ : Store) (el : El) (x y : AV) (K : AV → Store → Prop) : Prop :=
  listA σ el y fun ys => ys.all (fun a => a.fits el) = true ∧ copyTo σ el x ys K
def apxA (σ : Store) (el : El) (x y : AV) (K : AV → Store → Prop) : Prop :=
  match x with
  | .own el' l m (lo + 1) n => el' = el ∧ listA σ el y fun ys => ys.all (fun a => a.fits el) = true ∧ match σ[l]? with
    | some (.vecT _ el'' xs) => el'' = el ∧ m = xs.length ∧ lo + 1 + n = m ∧ roomOk (n + ys.length) el ∧
        K (.own el σ.length (n + ys.length) 0 (n + ys.length)) (σ.set l .dead ++ [.vec el (xs.drop (lo + 1) ++ ys)])
    | _ => False
  | x => appA σ none el x y K
def appLA (σ : Store) (el : El) (x y : AV) (K : AV → Prop) : Prop :=
  listA σ el y fun ys => ys.all (fun a => a.fits el) = true ∧ ys.length ≠ 0 ∧ match x with
    | .nils => roomOk ys.length el ∧ K (.lst false el ys)
    | .lst true el' xs => el' = el ∧ roomOk (xs.length + ys.length) el ∧ K (.lst false el (xs ++ ys))
    | _ => False
def slAA (el : El) (n : Nat) (p : AV) (lo hi : Option AV) (K : AV → Prop) : Prop :=
  p.ptr = true ∧ bound hi n n fun h => bound lo 0 h fun l => K (if h = l then .lst false el [] else .asl el (p.adv (l * el.sz)) (h - l))
def nilSA (σ : Store) (x : AV) (K : Bool → Prop) : Prop := match x with
  | .nils => K true
  | .lst _ _ (_ :: _) => K false
  | .asl .. => K false
  | .own _ l m _ n => match σ[l]? with
    | some (.vecT _ _ xs) => m = xs.length ∧ 0 < n ∧ K false
    | _ => False
  | _ => False
mutual
def AV.noL (m : Nat) : AV → Bool
  | .own _ l _ _ _ => !(l == m)
  | .ref l _ => !(l == m)
  | .vref _ l _ _ _ => !(l == m)
  | .mp l => !(l == m)
  | .yld l => !(l == m)
  | .asl _ p _ => AV.noL m p
  | .agg cs => AV.noLs m cs
  | .tup cs => AV.noLs m cs
  | .lst _ _ xs => AV.noLs m xs
  | .eref _ x _ => AV.noL m x
  | .fn _ a b => AV.noLs m a && AV.noLs m b
  | .ifc _ v => AV.noL m v
  | .undef | .bool _ | .int .. | .str _ | .nils | .nilp | .nilf | .nili | .nilm | .opq => true
def AV.noLs (m : Nat) : List AV → Bool
  | [] => true
  | a :: az => AV.noL m a && AV.noLs m az
end
def AObj.noL (m : Nat) : AObj → Bool
  | .cellsT _ cs => AV.noLs m cs
  | .vecT _ _ xs => AV.noLs m xs
  | .map es => es.all fun p => p.1.noL m && p.2.noL m
  | .loop nt e .. => (List.range nt).all fun t => (e t).noL m
  | .siter .. | .dead | .resv => true
def noAll (m : Nat) (σ : Store) : Bool := σ.all (AObj.noL m)
def nilUA (σ : Store) (x : AV) (K : Bool → Prop) : Prop := match x with
  | .lst _ _ [] => K true ∧ K false
  | x => nilSA σ x K
def resvA (az : List AV) (σ σ2 : Store) (p : AV) : Prop := match p with
  | .ref m 0 => σ2[m]? = some .resv → σ[m]? = some .resv ∧ AV.noLs m az = true ∧ noAll m σ = true
  | _ => False
def keepsA (az : List AV) (σ σ2 : Store) : List (Bool × Nat) → List AV → Prop
  | [], _ => True
  | (ag, n) :: r, p :: ps => (p = .nilp ∨ if n = 0 then resvA az σ σ2 p else ∃ v, loadA σ ag n p (fun u => u = v) ∧ loadA σ2 ag n p (fun u => u = v)) ∧ keepsA az σ σ2 r ps
  | _ :: _, [] => False
def tasA (T : TypeId) (ok : Bool) (z x : AV) (K : AV → Prop) : Prop := match x with
  | .ifc t v => if t = T then K (if ok then .tup [v, .bool true] else v) else ok = true ∧ K (.tup [z, .bool false])
  | .nili => ok = true ∧ K (.tup [z, .bool false])
  | _ => False
def s2aA (σ : Store) (n : Nat) (x : AV) (K : AV → Store → Prop) : Prop := match x with
  | .lst _ el' xs => el' = ⟨false, 1⟩ ∧ 0 < n ∧ n ≤ xs.length ∧ K (.eref ⟨true, n⟩ (.agg (xs.take n)) 0) σ
  | .own el' l m o k => el' = ⟨false, 1⟩ ∧ match σ[l]? with
    | some (.vecT _ el'' xs) => el'' = ⟨false, 1⟩ ∧ m = xs.length ∧ o + k ≤ m ∧ 0 < n ∧ n ≤ k ∧ K (.eref ⟨true, n⟩ (.agg ((xs.drop o).take n)) 0) (σ.set l .dead)
    | _ => False
  | _ => False
def mentA (σ : Store) (kd : Option IntKind) (zero x k : AV) (K : AV → Store → Prop) : Prop := match x with
  | .mp l => k.keyK kd = true ∧ match σ[l]? with
    | some (.map es) => match mapFind k es 0 with
      | some (some (i, v)) => K (.tup [v, .int .i64 i]) σ
      | some none => K (.tup [zero, .int .i64 es.length]) (σ.set l (.map (es ++ [(k, zero)])))
      | none => False
    | _ => False
  | _ => False
def estsA (σ : Store) (x s v : AV) (K : Store → Prop) : Prop := match x, s with
  | .mp l, .int .i64 z => match σ[l]? with
    | some (.map es) => 0 ≤ z ∧ z.toNat < es.length ∧ K (σ.set l (.map (es.set z.toNat ((es.getD z.toNat default).1, v))))
    | _ => False
  | _, _ => False
def clrA (σ : Store) (el : El) (zero x : AV) (K : Store → Prop) : Prop := match x with
  | .nils => K σ
  | .lst _ _ [] => K σ
  | .own el' l m o n => el' = el ∧ zero.fits el = true ∧ match σ[l]? with
    | some (.vecT T el'' xs) => el'' = el ∧ m = xs.length ∧ o + n ≤ m ∧ K (σ.set l (.vecT T el (setMany xs o (List.replicate n zero))))
    | _ => False
  | _ => False
def frzA (σ : Store) (x : AV) (K : AV → Store → Prop) : Prop := match x with
  | .nils => K .nils σ
  | .lst f el xs => K (.lst f el xs) σ
  | .own el l m lo n => match σ[l]? with
    | some (.vecT _ el' xs) => el' = el ∧ m = xs.length ∧ lo + n ≤ m ∧ K (.lst false el ((xs.drop lo).take n)) (σ.set l .dead)
    | _ => False
  | _ => False
def pcK (K Kp : AV → Prop) : Out → Prop
  | .ret r => K r
  | .panic v => Kp v
def XOp.run (P : Program) (o : XOp) (vs : List AV) (σ : Store) (K Kp : AV → Store → Prop) : Prop :=
  match o, vs with
  | .sl3 el false, [x, hi, mx] => sl3A σ el x none hi mx K
  | .sl3 el true, [x, lo, hi, mx] => sl3A σ el x (some lo) hi mx K
  | .mkmap, [] => K (.mp σ.length) (σ ++ [.map []])
  | .lkup kd ok zero, [.nilm, k] => k.keyK kd = true ∧ K (if ok then .tup [zero, .bool false] else zero) σ
  | .lkup kd ok zero, [.mp l, k] => k.keyK kd = true ∧ match σ[l]? with
    | some (.map es) => match mapFind k es 0 with
      | some (some (_, v)) => K (if ok then .tup [v, .bool true] else v) σ
      | some none => K (if ok then .tup [zero, .bool false] else zero) σ
      | none => False
    | _ => False
  | .mapset kd, [.mp l, k, v] => k.keyK kd = true ∧ match σ[l]? with
    | some (.map es) => match mapSet k v es with
      | some es' => K (.tup []) (σ.set l (.map es'))
      | none => False
    | _ => False
  | .lenm, [.nilm] => K (.int .i64 0) σ
  | .lenm, [.mp l] => match σ[l]? with
    | some (.map es) => K (.int .i64 es.length) σ
    | _ => False
  | .slA el n false false, [p] => slAA el n p none none fun v => K v σ
  | .slA el n true false, [p, a] => slAA el n p (some a) none fun v => K v σ
  | .slA el n false true, [p, b] => slAA el n p none (some b) fun v => K v σ
  | .slA el n true true, [p, a, b] => slAA el n p (some a) (some b) fun v => K v σ
  | .copy el, [x, y] => copyA σ el x y K
  | .apx el, [x, y] => apxA σ el x y K
  | .appL el, [x, y] => appLA σ el x y fun v => K v σ
  | .nilS neg, [x] => nilSA σ x fun r => K (.bool (if neg then !r else r)) σ
  | .cw n k lds, x :: vs => ∃ r σ2, CallA P n ((x :: vs).take k) σ (fun o σ' => o = .ret r ∧ σ' = σ2) ∧ keepsA ((x :: vs).take k) σ σ2 lds ((x :: vs).drop k) ∧ K r σ2
  | .sl3p el false, [x, hi, mx] => sl3pA el x none hi mx fun v => K v σ
  | .sl3p el true, [x, lo, hi, mx] => sl3pA el x (some lo) hi mx fun v => K v σ
  | .inv name, .ifc t v :: r => match methOf P t name with
    | some f => CallA P f (v :: r) σ fun
      | .ret r, σ' => K r σ'
      | .panic r, σ' => Kp r σ'
    | none => False
  | .tas T ok z, [x] => tasA T ok z x fun v => K v σ
  | .s2a n, [x] => s2aA σ n x K
  | .ment kd z, [x, k] => mentA σ kd z x k K
  | .ests, [x, s, v] => estsA σ x s v fun σ' => K (.tup []) σ'
  | .clr el z, [x] => clrA σ el z x fun σ' => K (.tup []) σ'
  | .pc n, vs => ∃ o, (∀ s, CallA P n vs s fun o' s' => o' = o ∧ s' = s) ∧ pcK (fun r => K r σ) (fun v => ∀ s, Kp v s) o
  | .frz, [x] => frzA σ x K
  | .nilU neg, [x] => nilUA σ x fun r => K (.bool (if neg then !r else r)) σ
  | _, _ => False
def AOp.run (P : Program) (o : AOp) (e : Env) (σ : Store) (K : AV → Store → Prop) (Kp : AV → Store → Prop) : Prop :=
  match o with
  | .ex o xs => o.run P (xs.map (AX.ev e)) σ K Kp
  | .mv x => K (x.ev e) σ
  | .pick c a b => match c.ev e with
    | .bool t => K (if t then a.ev e else b.ev e) σ
    | _ => False
  | .alloc T cs => K (.ref σ.length 0) (σ ++ [.cellsT T cs])
  | .box x => (x.ev e).cells.all AV.scalar = true ∧ K (.ref σ.length 0) (σ ++ [.cells (x.ev e).cells])
  | .build zero parts => buildA zero e parts fun cs => K (.agg cs) σ
  | .bslice mt el zero n parts => bsliceA el (List.replicate n zero) e parts fun xs =>
      if mt then K (.own el σ.length n 0 n) (σ ++ [.vec el xs]) else K (.lst true el xs) σ
  | .load ag n x => loadA σ ag n (x.ev e) fun v => K v σ
  | .store n x v => storeA σ n (x.ev e) (v.ev e) fun σ' => K (.tup []) σ'
  | .nilck x => match x.ev e with
    | .ref .. | .eref .. | .vref .. | .ifc .. | .fn (.func _) _ _ | .yld _ => K (x.ev e) σ
    | _ => False
  | .bin op x y => binA op (x.ev e) (y.ev e) fun v => K v σ
  | .eqf neg ag ks x y => match (if ag then (match x.ev e, y.ev e with | .agg az, .agg bs => kdsEq ks az bs | _, _ => none) else kdsEq ks [x.ev e] [y.ev e]) with
    | some b => K (.bool (if neg then !b else b)) σ
    | none => False
  | .un op x => unA op (x.ev e) fun v => K v σ
  | .cint k x => match x.ev e with
    | .int _ n => K (.int k (wrapK k n)) σ
    | _ => False
  | .cid x => match x.ev e with
    | .str s => K (.str s) σ
    | _ => False
  | .s2b x => match x.ev e with
    | .str s => s.length ≤ 2 ^ 40 ∧ K (.own ⟨false, 1⟩ σ.length s.length 0 s.length) (σ ++ [.vec ⟨false, 1⟩ (s.map fun b => .int .u8 b.toNat)])
    | _ => False
  | .b2s x => (match x.ev e with | .str _ => False | _ => True) ∧ listA σ ⟨false, 1⟩ (x.ev e) fun xs => ∃ s : List UInt8, xs = s.map (fun b => AV.int .u8 b.toNat) ∧ K (.str s) σ
  | .mkifc t x => K (.ifc t (x.ev e)) σ
  | .mkfn f first cap => K (.fn f (first.map (AX.ev e)) (cap.map (AX.ev e))) σ
  | .slS x lo hi => match x.ev e with
    | .str s => bound (hi.map (AX.ev e)) s.length s.length fun h => bound (lo.map (AX.ev e)) 0 h fun l => K (.str ((s.drop l).take (h - l))) σ
    | _ => False
  | .slL el x lo hi => match x.ev e with
    | .nils => bound (hi.map (AX.ev e)) 0 0 fun h => bound (lo.map (AX.ev e)) 0 h fun _ => K .nils σ
    | .lst _ el' xs => el' = el ∧ bound (hi.map (AX.ev e)) xs.length xs.length fun h => bound (lo.map (AX.ev e)) 0 h fun l => K (.lst false el ((xs.drop l).take (h - l))) σ
    | .own el' l m o n => el' = el ∧ match σ[l]? with
      | some (.vecT T el'' xs) => el'' = el ∧ m = xs.length ∧ o + n ≤ m ∧ bound (hi.map (AX.ev e)) n n fun h => bound (lo.map (AX.ev e)) 0 h fun k => K (.own el l m (o + k) (h - k)) σ
      | _ => False
    | _ => False
  | .faddr off x => match x.ev e with
    | .ref l o => K (.ref l (o + off)) σ
    | .eref el y o => K (.eref el y (o + off)) σ
    | .vref el l m i o => K (.vref el l m i (o + off)) σ
    | _ => False
  | .field ag off n x => match x.ev e with
    | .agg cs => off + n ≤ cs.length ∧ (ag = false → n = 1) ∧ K (if ag then .agg ((cs.drop off).take n) else cs.getD off .undef) σ
    | _ => False
  | .iaddr el arr x i => match i.ev e with
    | .int _ k => match arr, x.ev e with
      | none, .lst _ el' xs => el' = el ∧ 0 ≤ k ∧ k < xs.length ∧ K (.eref el (xs.getD k.toNat .undef) 0) σ
      | none, .own el' l m o n => el' = el ∧ 0 ≤ k ∧ k < n ∧ match σ[l]? with
        | some (.vecT T el'' xs) => el'' = el ∧ m = xs.length ∧ K (.vref el l m (o + k.toNat) 0) σ
        | _ => False
      | some n, .ref l o => 0 ≤ k ∧ k < n ∧ K (.ref l (o + k.toNat * el.sz)) σ
      | some n, .eref el' y o => 0 ≤ k ∧ k < n ∧ K (.eref el' y (o + k.toNat * el.sz)) σ
      | some n, .vref el' l m j o => 0 ≤ k ∧ k < n ∧ K (.vref el' l m j (o + k.toNat * el.sz)) σ
      | _, _ => False
    | _ => False
  | .idxS x i => match x.ev e, i.ev e with
    | .str s, .int _ k => 0 ≤ k ∧ k < s.length ∧ K (.int .u8 (s.getD k.toNat 0).toNat) σ
    | _, _ => False
  | .idxA el ln x i => match x.ev e, i.ev e with
    | .agg cs, .int _ k => 0 ≤ k ∧ k < ln ∧ (k.toNat * el.sz + el.sz ≤ cs.length) ∧ (el.ag = false → el.sz = 1) ∧
        K (if el.ag then .agg ((cs.drop (k.toNat * el.sz)).take el.sz) else cs.getD (k.toNat * el.sz) .undef) σ
    | _, _ => False
  | .ext x i => match x.ev e with
    | .tup vs => i < vs.length ∧ K (vs.getD i .undef) σ
    | _ => False
  | .call q f args => match f.ev e with
    | .fn (.func n) first cap =>
      if q then ∃ r, (∀ τ, CallQ P n (first ++ args.map (AX.ev e) ++ cap) (σ ++ τ) r) ∧ K r σ
      else CallA P n (first ++ args.map (AX.ev e) ++ cap) σ fun
        | .ret r, σ' => K r σ'
        | .panic r, σ' => Kp r σ'
    | .yld l => if q then False else YieldA P l (args.map (AX.ev e)) σ fun
        | .ret r, σ' => K r σ'
        | .panic r, σ' => Kp r σ'
    | _ => False
  | .meth f args => match f.ev e with
    | .fn (.func n) [] [] => methA P n (args.map (AX.ev e)) σ K
    | _ => False
  | .len s x => match s, x.ev e with
    | true, .str s => K (.int .i64 s.length) σ
    | false, .nils => K (.int .i64 0) σ
    | false, .lst _ _ xs => K (.int .i64 xs.length) σ
    | false, .own _ _ _ _ n => K (.int .i64 n) σ
    | _, _ => False
  | .app T el x y => appA σ T el (x.ev e) (y.ev e) K
  | .usd el x => match x.ev e with
    | .nils => K .nilp σ
    | .own el' l m lo n => el' = el ∧ match σ[l]? with
      | some (.vecT _ el'' xs) => el'' = el ∧ m = xs.length ∧ 0 < n ∧ K (.vref el l m lo 0) σ
      | _ => False
    | _ => False
  | .ustr T x n => match x.ev e, n.ev e with
    | .nilp, .int .i64 k => k = 0 ∧ K (.str []) σ
    | .vref el l m lo off, .int .i64 k => lo = 0 ∧ off = 0 ∧ el = ⟨false, 1⟩ ∧ match σ[l]? with
      | some (.vecT T' _ xs) => T' = some T ∧ m = xs.length ∧ 0 < k ∧ k ≤ xs.length ∧ xs.length ≤ 2 ^ 62 ∧ ∃ s : List UInt8, xs.take k.toNat = s.map (fun b => AV.int .u8 b.toNat) ∧ K (.str s) (σ.set l .dead)
      | _ => False
    | _, _ => False
  | .p2u x => match x.ev e with
    | .ref l off => match σ[l]? with
      | some (.cellsT _ cs) => off < cs.length ∧ K (.ref l off) σ
      | _ => False
    | _ => False
  | .u2p u x => match x.ev e with
    | .ref l off => match σ[l]? with
      | some (.cellsT (some T) cs) => liesAt P P.depth T (cs.length / P.cellsOf T) off u 1 = true ∧ K (.ref l off) σ
      | _ => False
    | _ => False
  | .eqp neg x y => match x.ev e, y.ev e with
    | .ref l o, .ref l' o' => l = l' ∧ o = o' ∧ match σ[l]? with
      | some (.cellsT _ _) => K (.bool neg.not) σ
      | _ => False
    | _, _ => False
  | .noesc f x => (∃ fn, P.funcs[f]? = some fn ∧ (fn.name == "runtime.NumGoroutine") = false ∧ fn.body.isNone = true ∧ Extern.findNext fn = none ∧ Extern.find fn = some Extern.AbiNoEscape.same) ∧ K (x.ev e) σ
  | .min x xs => minsA true (x.ev e) (xs.map (AX.ev e)) fun v => K v σ
  | .max x xs => minsA false (x.ev e) (xs.map (AX.ev e)) fun v => K v σ
  | .mkslice el zero n c => match n.ev e, c.ev e with
    | .int .i64 k, .int .i64 m => zero.fits el = true ∧ 0 ≤ k ∧ k ≤ m ∧ m * (el.sz + 1) ≤ 2 ^ 40 ∧ K (.own el σ.length k.toNat 0 k.toNat) (σ ++ [.vec el (List.replicate k.toNat zero)])
    | _, _ => False
  | .panic x => match x.ev e with
    | .ifc t v => Kp (.ifc t v) σ
    | _ => False
  | .mkvec el => K (.own el σ.length 0 0 0) (σ ++ [.vec el []])
  | .hold => K (.ref σ.length 0) (σ ++ [.resv])
  | .boxT T x => (x.ev e).cells.all AV.scalar = true ∧ K (.ref σ.length 0) (σ ++ [.cellsT (some T) (x.ev e).cells])
  | .allocAt k T cs => match e k with
    | .ref n 0 => match σ[n]? with
      | some .resv => K (.ref n 0) (σ.set n (.cellsT T cs))
      | _ => False
    | _ => False
  | .appAt k T el x y => match e k with
    | .ref n 0 => match σ[n]? with
      | some .resv => match pureL el (y.ev e) with
        | some ys => noneL el (x.ev e) = true ∧ ys.all (fun a => a.fits el) = true ∧ roomOk ys.length el ∧ K (.own el n ys.length 0 ys.length) (σ.set n (.vecT T el ys))
        | none => False
      | _ => False
    | _ => False
  | .mksAt k el zero n c => match e k with
    | .ref l 0 => match σ[l]? with
      | some .resv => match n.ev e, c.ev e with
        | .int .i64 i, .int .i64 m => zero.fits el = true ∧ 0 < i ∧ i ≤ m ∧ m * (el.sz + 1) ≤ 2 ^ 40 ∧ K (.own el l i.toNat 0 i.toNat) (σ.set l (.vec el (List.replicate i.toNat zero)))
        | _, _ => False
      | _ => False
    | _ => False
  | .rngS x => match x.ev e with
    | .str s => K (.ref σ.length 0) (σ ++ [.siter s 0])
    | _ => False
  | .nxtS x => match x.ev e with
    | .ref l 0 => match σ[l]? with
      | some (.siter s pos) =>
        if pos < s.length then K (.tup [.bool true, .int .i64 pos, .int .i32 (Utf8.decode ⟨s.toArray⟩ pos).1]) (σ.set l (.siter s (pos + (Utf8.decode ⟨s.toArray⟩ pos).2)))
        else K (.tup [.bool false]) σ
      | _ => False
    | _ => False
  | .eqnil neg k x y => match nilEq k (x.ev e) (y.ev e) with
    | some b => K (.bool (if neg then !b else b)) σ
    | none => False
end Go.AM
