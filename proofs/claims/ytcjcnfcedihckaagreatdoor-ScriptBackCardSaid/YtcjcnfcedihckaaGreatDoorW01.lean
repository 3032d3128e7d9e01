/- Part. -/
import Derived.Test.YtcjcnfcedihckaaGreatDoorW00
import Derived.RangeFuncIn
import Derived.RangeFuncLeaves
import Derived.RangeFuncRecord
import Derived.OrdersIn
set_option linter.all false
namespace Go.AM
inductive Out where
 | ret (a:AV)
 | panic (a:AV)
def Hy(g:aJ)(w:World): Out->Ending->Prop
 | .ret a,.returned v=>VR g w a v
 | .panic a,.panicked chain=> ∃ v,chain=[{ v,recovered:=false }]/\VR g w a v
 | _,_=>False
def Has (P : Program) (f : FuncId) : Prop := ∃ fn, P.funcs[f]? = some fn ∧ fn.body.isSome = true ∧ (fn.name == "runtime.NumGoroutine") = false
def cN(P:Program)(f:FuncId)(args:List AV)(σ : ae)(R:Out->ae->Prop): Prop :=
 Has P f/\ ∀(g:aJ) (w:World) (vs:Array Value),Rel g w σ->args.length=vs.size->(∀ i,i<args.length->VR g w (args.getD i .undef) (vs.getD i Go.undef)) ->
  Calls P f vs w fun e w'=> ∃ out g' σ',Rel g' w' σ'/\fg σ g w σ' g' w'/\Hy g' w' out e/\R out σ'
def cN.mono{P:Program}{f:FuncId}{args:List AV}{σ : ae}{R R':Out->ae->Prop}(h:cN P f args σ R)(hr:∀ o σ',R o σ'->R' o σ'): cN P f args σ R' :=
 ⟨h.1,fun g w vs h1 h2 h3=>(h.2 g w vs h1 h2 h3).mono fun _ _ ⟨out,g',σ',a,b,c,d⟩=>⟨out,g',σ',a,b,c,hr _ _ d⟩⟩
def rY(P:Program)(l:Nat)(args:List AV)(σ : ae)(R:Out->ae->Prop): Prop :=
 (∃ nt e ps ca cb st pe, σ[l]? = some (.loop nt e ps ca cb st pe)) /\ ∀ (g : aJ) (w : World) (vs : Array Value) (b : Nat), Rel g w σ -> g.base l = some b -> args.length = vs.size -> (∀ i, i < args.length -> VR g w (args.getD i .undef) (vs.getD i Go.undef)) ->
   ∃ fn tmps assign body,(Instr.yield b vs).run P w = .ok (.round b fn tmps assign body) w/\RoundIn Fence.wide 0 P b fn tmps assign body w fun en w'=> ∃ out g' σ',Rel g' w' σ'/\fg σ g w σ' g' w'/\Hy g' w' out en/\R out σ'
def rY.mono{P:Program}{l:Nat}{args:List AV}{σ : ae}{R R':Out->ae->Prop}(h:rY P l args σ R)(hr:∀ o σ',R o σ'->R' o σ'): rY P l args σ R':=by
 refine⟨h.1,fun g w vs b h1 h2 h3 h4=>?_⟩;obtain⟨fn,tmps,ca,cb,r1,r2⟩:=h.2 g w vs b h1 h2 h3 h4;exact⟨fn,tmps,ca,cb,r1,r2.mono fun _ _ ⟨out,g',σ',a,b,c,d⟩=>⟨out,g',σ',a,b,c,hr _ _ d⟩⟩
def xn(P:Program)(f:FuncId)(args:List AV)(σ : ae)(r:AV): Prop:=cN P f args σ fun o σ'=>o = .ret r/\σ' = σ
abbrev Env:=Nat->AV
inductive AX where
 | t (n:Nat)
 | c (a:AV)
def AX.ev(e:Env): AX->AV
 | .t n=>e n
 | .c a=>a
def eX(e:Env)(d:Option Nat)(a:AV): Env :=
 match d with
 | some d=>fun n=>if n=d then a else e n
 | none=>e
def ew: List AV->Nat->List AV->List AV
 | cs,_,[]=>cs
 | cs,i,a::az=>ew (cs.set i a) (i+1) az
inductive Kd where
 | b|i|s
deriving DecidableEq
def LA: Kd->AV->AV->Option Bool
 | .b,.bool a,.bool b=>some (a==b)
 | .i,.int k a,.int k' b=>if k=k' then some (a==b)else none
 | .s,.str a,.str b=>some (a==b)
 | _,_,_=>none
def ij: List Kd->List AV->List AV->Option Bool
 | [],[],[]=>some true
 | k :: ks, a :: az, b :: bs => match LA k a b, ij ks az bs with
   | some x,some y=>some (x && y)
   | _,_=>none
 | _,_,_=>none
inductive NK where
 | p|i|f|m
deriving DecidableEq
def qw: NK->AV->Option Bool
 | .p,.iM=>some true
 | .p,.ref .. | .p,.dO .. | .p,.eD ..=>some false
 | .i,.iT=>some true
 | .i,.kg ..=>some false
 | .f,.qY=>some true
 | .f,.fn ..=>some false
 | .m,.k_=>some true
 | .m,.mp ..=>some false
 | _,_=>none
def nk(k:NK)(x y:AV): Option Bool :=
 match qw k x,qw k y with
 | some true,some b=>some b
 | some false,some true=>some false
 | _,_=>none
def AV.obj: AV->Option Nat
 | .ref l _=>some l
 | .eD _ l _ _ _=>some l
 | .own _ l _ _ _=>some l
 | .rW _ (.ref l _) _=>some l
 | .rW _ (.eD _ l _ _ _) _=>some l
 | .mp l=>some l
 | _=>none
def AV.adv(d:Nat): AV->AV
 | .ref l o=> .ref l (o+d)
 | .dO el y o=> .dO el y (o+d)
 | .eD el l m i o=> .eD el l m i (o+d)
 | x=>x
def AV.ptr: AV->Bool
 | .ref .. | .dO .. | .eD ..=>true
 | _=>false
def aY.like: aY->aY->Prop
 | .cy T el xs,o=> ∃ ys,o = .cy T el ys/\ys.length=xs.length
 | _,_=>True
def C8(P:Program)(n:FuncId)(args:List AV)(σ : ae)(K:AV->ae->Prop): Prop:=match args with
 | a::_=> ∃ l ob mg r,a.obj=some l/\σ[l]? = some ob/\ob.like mg/\cN P n args σ (fun o σ'=>o = .ret r/\σ' = σ.set l mg)/\K r (σ.set l mg)
 | []=>False
inductive fD where
 | Yd (el:El) (lo:Bool)
 | FF
 | Eh (kd:Option IntKind) (ok:Bool) (zero:AV)
 | FG (kd:Option IntKind)
 | Ei
 | I3 (el:El) (n:Nat) (lo hi:Bool)
 | copy (el:El)
 | inv (name:String)
 | Ye (el:El)
 | Hz (el:El) (lo:Bool)
 | HA (el:El)
 | cw (n:FuncId) (k:Nat) (Bk:List (Bool × Nat))
 | Ej (neg:Bool)
 | SY (T:TypeId) (ok:Bool) (zero:AV)
 | s2a (n:Nat)
 | Wd (kd:Option IntKind) (zero:AV)
 | QJ
 | clr (el:El) (zero:AV)
 | pc (n:FuncId)
 | SZ
inductive bp where
 | ex (o:fD) (xs:List AX)
 | mv (x:AX)
 | pick (c a b:AX)
 | alloc (T:Option TypeId) (cs:List AV)
 | box (x:AX)
 | build (zero:List AV) (parts:List (Nat × Nat × AX))
 | jF (mt:Bool) (el:El) (zero:AV) (n:Nat) (parts:List (Nat × AX))
 | load (ag:Bool) (n:Nat) (x:AX)
 | store (n:Nat) (x v:AX)
 | pK (x:AX)
 | bin (op:BinOp) (x y:AX)
 | rG (neg:Bool) (ag:Bool) (ks:List Kd) (x y:AX)
 | un (op:UnOp) (x:AX)
 | qZ (k:IntKind) (x:AX)
 | Pq (x:AX)
 | Pr (x:AX)
 | Bl (x:AX)
 | C9 (t:TypeId) (x:AX)
 | wm (f:Fn) (first cap:List AX)
 | p7 (x:AX) (lo hi:Option AX)
 | uz (el:El) (x:AX) (lo hi:Option AX)
 | oM (off:Nat) (x:AX)
 | field (ag:Bool) (off n:Nat) (x:AX)
 | f_ (el:El) (arr:Option Nat) (x i:AX)
 | lC (x i:AX)
 | yd (el:El) (ln:Nat) (x i:AX)
 | ext (x:AX) (i:Nat)
 | call (q:Bool) (f:AX) (args:List AX)
 | q8 (f:AX) (args:List AX)
 | len (s:Bool) (x:AX)
 | app (T:Option TypeId) (el:El) (x y:AX)
 | AG (el:El) (x:AX)
 | wo (T:TypeId) (x n:AX)
 | FH (x:AX)
 | FI (u:TypeId) (x:AX)
 | DM (neg:Bool) (x y:AX)
 | C_ (f:FuncId) (x:AX)
 | min (x:AX) (xs:List AX)
 | max (x:AX) (xs:List AX)
 | nB (el:El) (zero:AV) (n c:AX)
 | panic (x:AX)
 | lB (el:El)
 | hold
 | wq (T:TypeId) (x:AX)
 | kS (k:Nat) (T:Option TypeId) (cs:List AV)
 | oN (k:Nat) (T:Option TypeId) (el:El) (x y:AX)
 | Ek (x:AX)
 | Em (x:AX)
 | pL (neg:Bool) (k:NK) (x y:AX)
 | oO (k:Nat) (el:El) (zero:AV) (n c:AX)
def fE(k:IntKind)(n:Int): Int:=k.wrap n
def mA(op:BinOp)(k:IntKind)(x y:Int): Int :=
 let a:=BitVec.ofInt k.bits x
 let b:=BitVec.ofInt k.bits y
 match op with
 | .and=>k.wrap (a &&& b).toNat
 | .or=>k.wrap (a ||| b).toNat
 | .xor=>k.wrap (a ^^^ b).toNat
 | _=>k.wrap (a &&& ~~~b).toNat
def jD(op:BinOp)(x y:AV)(K:AV->Prop): Prop :=
 match op,x,y with
 | .shl,.int k a,.int _ b=>0<=b/\K (.int k (fE k (a*2 ^ (Nat.min b.toNat k.bits))))
 | .shr,.int k a,.int _ b=>0<=b/\K (.int k (a.fdiv (2 ^ (Nat.min b.toNat k.bits))))
 | .add,.int k a,.int k' b=>k=k'/\K (.int k (fE k (a+b)))
 | .sub,.int k a,.int k' b=>k=k'/\K (.int k (fE k (a-b)))
 | .mul,.int k a,.int k' b=>k=k'/\K (.int k (fE k (a*b)))
 | .quo,.int k a,.int k' b=>k=k'/\b≠0/\K (.int k (fE k (a.tdiv b)))
 | .rem,.int k a,.int k' b=>k=k'/\b≠0/\K (.int k (a.tmod b))
 | .and,.int k a,.int k' b=>k=k'/\K (.int k (mA .and k a b))
 | .or,.int k a,.int k' b=>k=k'/\K (.int k (mA .or k a b))
 | .xor,.int k a,.int k' b=>k=k'/\K (.int k (mA .xor k a b))
 | .andNot,.int k a,.int k' b=>k=k'/\K (.int k (mA .andNot k a b))
 | .eql,.int k a,.int k' b=>k=k'/\K (.bool (a==b))
 | .neq,.int k a,.int k' b=>k=k'/\K (.bool (!(a==b)))
 | .lss,.int k a,.int k' b=>k=k'/\K (.bool (decide (a<b)))
 | .leq,.int k a,.int k' b=>k=k'/\K (.bool (decide (a<=b)))
 | .gtr,.int k a,.int k' b=>k=k'/\K (.bool (decide (b<a)))
 | .geq,.int k a,.int k' b=>k=k'/\K (.bool (decide (b<=a)))
 | .add,.str a,.str b=>((a.length+b.length:Nat):Int)<=IntKind.i64.max/\K (.str (a++b))
 | .eql,.str a,.str b=>K (.bool (a==b))
 | .neq,.str a,.str b=>K (.bool (!(a==b)))
 | .lss,.str a,.str b=>K (.bool (Op.bytesLess a b))
 | .leq,.str a,.str b=>K (.bool (Op.bytesLess a b || a==b))
 | .gtr,.str a,.str b=>K (.bool (!(Op.bytesLess a b || a==b)))
 | .geq,.str a,.str b=>K (.bool (!Op.bytesLess a b))
 | _,_,_=>False
def Bm(op:UnOp)(x:AV)(K:AV->Prop): Prop :=
 match op,x with
 | .not,.bool b=>K (.bool (!b))
 | .neg,.int k n=>K (.int k (fE k (0-n)))
 | .xor,.int k n=>K (.int k (mA .xor k (if k.signed then -1 else k.max) n))
 | _,_=>False
def bound(x:Option AV)(d:Nat)(y:Nat)(K:Nat->Prop): Prop :=
 match x with
 | none=>K d
 | some (.int _ i)=>0<=i/\i<=y/\K i.toNat
 | _=>False
def partOf(el:El)(x:AV)(off:Nat)(ag:Bool)(n:Nat)(K:AV->Prop): Prop :=
 if off=0/\n=el.sz/\ag=el.ag then K x
 else off+n<=el.sz/\match x with
  | .agg cs=>K (if ag then .agg ((cs.drop off).take n)else cs.getD off .undef)/\(ag=false->n=1)
  | _=>False
def ik(σ : ae)(ag:Bool)(n:Nat)(p:AV)(K:AV->Prop): Prop :=
 match p with
 | .ref l off => match σ[l]? with
   | some (.bW _ cs)=>off+n<=cs.length/\(ag=false->n=1)/\K (if ag then .agg ((cs.drop off).take n)else cs.getD off .undef)
   | _=>False
 | .dO el x off=>partOf el x off ag n K
 | .eD el l m i off => match σ[l]? with
   | some (.cy T bj xs)=>bj=el/\m=xs.length/\i<xs.length/\partOf el (xs.getD i .undef) off ag n K
   | _=>False
 | _=>False
def nC(σ : ae)(n:Nat)(p v:AV)(K:ae->Prop): Prop :=
 v.cells.length=n/\v.cells.all AV.scalar=true /\
 match p with
 | .ref l off => match σ[l]? with
   | some (.bW T cs)=>off+n<=cs.length/\K (σ.set l (.bW T (ew cs off v.cells)))
   | _=>False
 | .eD el l m i off => match σ[l]? with
   | some (.cy T bj xs) => bj = el /\ m = xs.length /\ i < xs.length /\ off + n <= el.sz /\ (el.ag = false -> v.fits el = true) /\
      K (σ.set l (.cy T el (xs.set i (if el.ag then .agg (ew (xs.getD i .undef).cells off v.cells)else v))))
   | _=>False
 | _=>False
def fM(σ : ae)(el:El)(x:AV)(K:List AV->Prop): Prop :=
 match x with
 | .au=>K []
 | .aO _ bj xs=>bj=el/\K xs
 | .own bj l m lo n => bj = el /\ match σ[l]? with
   | some (.cy T bg xs)=>bg=el/\m=xs.length/\K ((xs.drop lo).take n)
   | _=>False
 | .str s=>el=⟨false,1⟩/\K (s.map fun b=> .int .u8 b.toNat)
 | .rW bj p n=>bj=el/\el=⟨false,1⟩/\ik σ true n p fun v=>K v.cells
 | _=>False
def fJ(n:Nat)(el:El): Prop:=n*(el.sz+1)<=2 ^ 40
def oF(σ : ae)(T:Option TypeId)(el:El)(x y:AV)(K:AV->ae->Prop): Prop :=
 fM σ el y fun ys=>ys.all (fun a=>a.fits el)=true /\
 match x with
 | .au=>if ys.length=0 then K .au σ else fJ ys.length el/\K (.own el σ.length ys.length 0 ys.length) (σ++[.cy T el ys])
 | .aO true bj xs => bj = el /\ if ys.length = 0 then K (.aO true el xs) σ else
    fJ (xs.length+ys.length) el/\K (.own el σ.length (xs.length+ys.length) 0 (xs.length+ys.length)) (σ++[.cy T el (xs++ys)])
 | .own bj l m lo n => bj = el /\ match σ[l]? with
   | some (.cy T' bg xs) => (T' = none \/ T' = T) /\ bg = el /\ m = xs.length /\ lo = 0 /\ n = xs.length /\ fJ (xs.length + ys.length) el /\
      K (.own el l (xs.length+ys.length) 0 (xs.length+ys.length)) (σ.set l (.cy T' el (xs++ys)))
   | _=>False
 | _=>False
def Bn(op:Bool)(x y:AV)(K:AV->Prop): Prop :=
 match x,y with
 | .int k a,.int _ b=>K (.int k (if op then(if b<a then b else a)else (if b>a then b else a)))
 | _,_=>False
def qS(op:Bool)(x:AV): List AV->(AV->Prop)->Prop
 | [],K=>K x
 | y::ys,K=>Bn op x y fun z=>qS op z ys K
def lW(zero:List AV)(e:Env): List (Nat × Nat × AX)->(List AV->Prop)->Prop
 | [],K=>K zero
 |(off,n,x)::r,K=>(x.ev e).cells.length=n/\(x.ev e).cells.all AV.scalar=true/\off+n<=zero.length/\lW (ew zero off (x.ev e).cells) e r K
def kT(el:El)(xs:List AV)(e:Env): List (Nat × AX)->(List AV->Prop)->Prop
 | [],K=>K xs
 |(i,x)::r,K=>(x.ev e).fits el=true/\i<xs.length/\kT el (xs.set i (x.ev e)) e r K
def QK(el:El): AV->Bool
 | .au=>true
 | .aO true bj xs=>bj==el && xs.isEmpty
 | _=>false
def QL(el:El): AV->Option (List AV)
 | .au=>some []
 | .aO _ bj xs=>if bj=el then some xs else none
 | _=>none
def Ln: AV->AV->Option Bool
 | .str a,.str b=>some (a==b)
 | .int k a,.int k' b=>if k=k' then some (a==b)else none
 | _,_=>none
def nD(k:AV): List (AV × AV)->Nat->Option (Option (Nat × AV))
 | [],_=>some none
 | (q, v) :: r, i => match Ln k q with
   | some true=>some (some (i,v))
   | some false=>nD k r (i+1)
   | none=>none
def LB(k v:AV)(es:List (AV × AV)): Option (List (AV × AV)):=match nD k es 0 with
 | some (some (i,_))=>some (es.set i (k,v))
 | some none=>some (es++[(k,v)])
 | none=>none
def AV.rZ: Option IntKind->AV->Bool
 | none,.str _=>true
 | some k,.int k' _=>k==k'
 | _,_=>false
def LC(P:Program)(t:TypeId)(name:String): Option FuncId:=match P.info? t,P.underlying t with
 | some i, some (.pointer _) => match i.methods.find? (·.name == name) with
   | some m => match m.func with
     | some (f,true)=>if m.path.isEmpty then some f else none
     | _=>none
   | none=>none
 | _,_=>none
def oe(lo:Option AV)(hi mx:AV)(cap:Nat)(K:Nat->Nat->Nat->Prop): Prop :=
 bound (some mx) 0 cap fun m=>bound (some hi) 0 m fun h=>bound lo 0 h fun l=>K l h m
def ye(σ : ae)(el:El)(x:AV)(lo:Option AV)(hi mx:AV)(K:AV->ae->Prop): Prop :=
 match x with
 | .au=>oe lo hi mx 0 fun _ _ _=>K .au σ
 | .aO _ bj xs=>bj=el/\oe lo hi mx xs.length fun l h m=>K (.aO (h==m) el ((xs.drop l).take (h-l))) σ
 | .own bj l0 m0 o n => bj = el /\ match σ[l0]? with
   | some (.cy _ bg xs) => bg = el /\ m0 = xs.length /\ o + n <= m0 /\ oe lo hi mx n fun l h m =>
      if m=l then K (.aO true el []) σ else h=m/\K (.aO true el ((xs.drop (o+l)).take (h-l))) (σ.set l0 .dead)
   | _=>False
 | _=>False
def ua(el:El)(x:AV)(lo:Option AV)(hi mx:AV)(K:AV->Prop): Prop :=
 match x with
 | .au=>oe lo hi mx 0 fun _ _ _=>K .au
 | .aO _ bj xs=>bj=el/\oe lo hi mx xs.length fun l h m=>K (.aO (h==m) el ((xs.drop l).take (h-l)))
 | .own bj _ _ _ _=>bj=el/\oe lo hi mx 0 fun _ _ _=>K (.aO true el [])
 | _=>False
def Bo(σ : ae)(el:El)(x:AV)(ys:List AV)(K:AV->ae->Prop): Prop :=
 match x with
 | .au=>K (.int .i64 0) σ
 | .aO _ bj []=>bj=el/\K (.int .i64 0) σ
 | .rW bj p n=>bj=el/\el=⟨false,1⟩/\nC σ (min ys.length n) p (.agg (ys.take n)) fun σ'=>K (.int .i64 (min ys.length n:Nat)) σ'
 | .own bj l m o n => bj = el /\ match σ[l]? with
   | some (.cy T bg xs)=>bg=el/\m=xs.length/\o+n<=m/\K (.int .i64 (min ys.length n:Nat)) (σ.set l (.cy T el (ew xs o (ys.take n))))
   | _=>False
 | _=>False
def FJ(σ : ae)(el:El)(x y:AV)(K:AV->ae->Prop): Prop :=
 fM σ el y fun ys=>ys.all (fun a=>a.fits el)=true/\Bo σ el x ys K
def En(σ : ae)(el:El)(x y:AV)(K:AV->ae->Prop): Prop :=
 match x with
 | .own bj l m (lo + 1) n => bj = el /\ fM σ el y fun ys => ys.all (fun a => a.fits el) = true /\ match σ[l]? with
   | some (.cy _ bg xs) => bg = el /\ m = xs.length /\ lo + 1 + n = m /\ fJ (n + ys.length) el /\
      K (.own el σ.length (n+ys.length) 0 (n+ys.length)) (σ.set l .dead++[.vec el (xs.drop (lo+1)++ys)])
   | _=>False
 | x=>oF σ none el x y K
def Da(σ : ae)(el:El)(x y:AV)(K:AV->Prop): Prop :=
 fM σ el y fun ys=>ys.all (fun a=>a.fits el)=true/\ys.length≠0/\match x with
  | .au=>fJ ys.length el/\K (.aO false el ys)
  | .aO true bj xs=>bj=el/\fJ (xs.length+ys.length) el/\K (.aO false el (xs++ys))
  | _=>False
def zm(el:El)(n:Nat)(p:AV)(lo hi:Option AV)(K:AV->Prop): Prop :=
 p.ptr=true/\bound hi n n fun h=>bound lo 0 h fun l=>K (if h=l then .aO false el []else .rW el (p.adv (l*el.sz)) (h-l))
def vE(σ : ae)(x:AV)(K:Bool->Prop): Prop:=match x with
 | .au=>K true
 | .aO _ _ (_::_)=>K false
 | .rW ..=>K false
 | .own _ l m _ n => match σ[l]? with
   | some (.cy _ _ xs)=>m=xs.length/\0<n/\K false
   | _=>False
 | _=>False
def FK(σ σ2:ae): List (Bool × Nat)->List AV->Prop
 | [],_=>True
 |(ag,n)::r,p::ps=>(∃ v,ik σ ag n p (fun u=>u=v)/\ik σ2 ag n p (fun u=>u=v))/\FK σ σ2 r ps
 | _::_,[]=>False
def zn(T:TypeId)(ok:Bool)(z x:AV)(K:AV->Prop): Prop:=match x with
 | .kg t v=>if t=T then K (if ok then .bO [v,.bool true]else v)else ok=true/\K (.bO [z,.bool false])
 | .iT=>ok=true/\K (.bO [z,.bool false])
 | _=>False
def zo(σ : ae)(n:Nat)(x:AV)(K:AV->ae->Prop): Prop:=match x with
 | .aO _ bj xs=>bj=⟨false,1⟩/\0<n/\n<=xs.length/\K (.dO ⟨true,n⟩ (.agg (xs.take n)) 0) σ
 | .own bj l m o k => bj = ⟨false, 1⟩ /\ match σ[l]? with
   | some (.cy _ bg xs)=>bg=⟨false,1⟩/\m=xs.length/\o+k<=m/\0<n/\n<=k/\K (.dO ⟨true,n⟩ (.agg ((xs.drop o).take n)) 0) (σ.set l .dead)
   | _=>False
 | _=>False
def vF(σ : ae)(kd:Option IntKind)(zero x k:AV)(K:AV->ae->Prop): Prop:=match x with
 | .mp l => k.rZ kd = true /\ match σ[l]? with
   | some (.map es) => match nD k es 0 with
     | some (some (i,v))=>K (.bO [v,.int .i64 i]) σ
     | some none=>K (.bO [zero,.int .i64 es.length]) (σ.set l (.map (es++[(k,zero)])))
     | none=>False
   | _=>False
 | _=>False
def uc(σ : ae)(x s v:AV)(K:ae->Prop): Prop:=match x,s with
 | .mp l, .int .i64 z => match σ[l]? with
   | some (.map es)=>0<=z/\z.toNat<es.length/\K (σ.set l (.map (es.set z.toNat ((es.getD z.toNat default).1,v))))
   | _=>False
 | _,_=>False
def zp(σ : ae)(el:El)(zero x:AV)(K:ae->Prop): Prop:=match x with
 | .au=>K σ
 | .aO _ _ []=>K σ
 | .own bj l m o n => bj = el /\ zero.fits el = true /\ match σ[l]? with
   | some (.cy T bg xs)=>bg=el/\m=xs.length/\o+n<=m/\K (σ.set l (.cy T el (ew xs o (List.replicate n zero))))
   | _=>False
 | _=>False
def zq(σ : ae)(x:AV)(K:AV->ae->Prop): Prop:=match x with
 | .au=>K .au σ
 | .aO f el xs=>K (.aO f el xs) σ
 | .own el l m lo n => match σ[l]? with
   | some (.cy _ bj xs)=>bj=el/\m=xs.length/\lo+n<=m/\K (.aO false el ((xs.drop lo).take n)) (σ.set l .dead)
   | _=>False
 | _=>False
def pcK(K Kp:AV->Prop): Out->Prop
 | .ret r=>K r
 | .panic v=>Kp v
def fD.run(P:Program)(o:fD)(vs:List AV)(σ : ae)(K Kp:AV->ae->Prop): Prop :=
 match o,vs with
 | .Yd el false,[x,hi,mx]=>ye σ el x none hi mx K
 | .Yd el true,[x,lo,hi,mx]=>ye σ el x (some lo) hi mx K
 | .FF,[]=>K (.mp σ.length) (σ++[.map []])
 | .Eh kd ok zero,[.k_,k]=>k.rZ kd=true/\K (if ok then .bO [zero,.bool false]else zero) σ
 | .Eh kd ok zero, [.mp l, k] => k.rZ kd = true /\ match σ[l]? with
   | some (.map es) => match nD k es 0 with
     | some (some (_,v))=>K (if ok then .bO [v,.bool true]else v) σ
     | some none=>K (if ok then .bO [zero,.bool false]else zero) σ
     | none=>False
   | _=>False
 | .FG kd, [.mp l, k, v] => k.rZ kd = true /\ match σ[l]? with
   | some (.map es) => match LB k v es with
     | some es'=>K (.bO []) (σ.set l (.map es'))
     | none=>False
   | _=>False
 | .Ei,[.k_]=>K (.int .i64 0) σ
 | .Ei, [.mp l] => match σ[l]? with
   | some (.map es)=>K (.int .i64 es.length) σ
   | _=>False
 | .I3 el n false false,[p]=>zm el n p none none fun v=>K v σ
 | .I3 el n true false,[p,a]=>zm el n p (some a) none fun v=>K v σ
 | .I3 el n false true,[p,b]=>zm el n p none (some b) fun v=>K v σ
 | .I3 el n true true,[p,a,b]=>zm el n p (some a) (some b) fun v=>K v σ
 | .copy el,[x,y]=>FJ σ el x y K
 | .Ye el,[x,y]=>En σ el x y K
 | .HA el,[x,y]=>Da σ el x y fun v=>K v σ
 | .Ej neg,[x]=>vE σ x fun r=>K (.bool (if neg then !r else r)) σ
 | .cw n k Bk,x::vs=> ∃ r σ2,cN P n ((x::vs).take k) σ (fun o σ'=>o = .ret r/\σ' = σ2)/\FK σ σ2 Bk ((x::vs).drop k)/\K r σ2
 | .Hz el false,[x,hi,mx]=>ua el x none hi mx fun v=>K v σ
 | .Hz el true,[x,lo,hi,mx]=>ua el x (some lo) hi mx fun v=>K v σ
 | .inv name, .kg t v :: r => match LC P t name with
   | some f => cN P f (v :: r) σ fun
     | .ret r,σ'=>K r σ'
     | .panic r,σ'=>Kp r σ'
   | none=>False
 | .SY T ok z,[x]=>zn T ok z x fun v=>K v σ
 | .s2a n,[x]=>zo σ n x K
 | .Wd kd z,[x,k]=>vF σ kd z x k K
 | .QJ,[x,s,v]=>uc σ x s v fun σ'=>K (.bO []) σ'
 | .clr el z,[x]=>zp σ el z x fun σ'=>K (.bO []) σ'
 | .pc n,vs=> ∃ o,(∀ s,cN P n vs s fun o' s'=>o'=o/\s'=s)/\pcK (fun r=>K r σ) (fun v=> ∀ s,Kp v s) o
 | .SZ,[x]=>zq σ x K
 | _,_=>False
def bp.run(P:Program)(o:bp)(e:Env)(σ : ae)(K:AV->ae->Prop)(Kp:AV->ae->Prop): Prop :=
 match o with
 | .ex o xs=>o.run P (xs.map (AX.ev e)) σ K Kp
 | .mv x=>K (x.ev e) σ
 | .pick c a b => match c.ev e with
   | .bool t=>K (if t then a.ev e else b.ev e) σ
   | _=>False
 | .alloc T cs=>K (.ref σ.length 0) (σ++[.bW T cs])
 | .box x=>(x.ev e).cells.all AV.scalar=true/\K (.ref σ.length 0) (σ++[.cells (x.ev e).cells])
 | .build zero parts=>lW zero e parts fun cs=>K (.agg cs) σ
 | .jF mt el zero n parts => kT el (List.replicate n zero) e parts fun xs =>
    if mt then K (.own el σ.length n 0 n) (σ++[.vec el xs])else K (.aO true el xs) σ
 | .load ag n x=>ik σ ag n (x.ev e) fun v=>K v σ
 | .store n x v=>nC σ n (x.ev e) (v.ev e) fun σ'=>K (.bO []) σ'
 | .pK x => match x.ev e with
   | .ref .. | .dO .. | .eD .. | .kg .. | .fn (.func _) _ _ | .qv _=>K (x.ev e) σ
   | _=>False
 | .bin op x y=>jD op (x.ev e) (y.ev e) fun v=>K v σ
 | .rG neg ag ks x y => match (if ag then (match x.ev e, y.ev e with | .agg az, .agg bs => ij ks az bs | _, _ => none) else ij ks [x.ev e] [y.ev e]) with
   | some b=>K (.bool (if neg then !b else b)) σ
   | none=>False
 | .un op x=>Bm op (x.ev e) fun v=>K v σ
 | .qZ k x => match x.ev e with
   | .int _ n=>K (.int k (fE k n)) σ
   | _=>False
 | .Pq x => match x.ev e with
   | .str s=>K (.str s) σ
   | _=>False
 | .Pr x => match x.ev e with
   | .str s=>s.length<=2 ^ 40/\K (.own ⟨false,1⟩ σ.length s.length 0 s.length) (σ++[.vec ⟨false,1⟩ (s.map fun b=> .int .u8 b.toNat)])
   | _=>False
 | .Bl x=>(match x.ev e with | .str _=>False|_=>True)/\fM σ ⟨false,1⟩ (x.ev e) fun xs=> ∃ s:List UInt8,xs=s.map (fun b=>AV.int .u8 b.toNat)/\K (.str s) σ
 | .C9 t x=>K (.kg t (x.ev e)) σ
 | .wm f first cap=>K (.fn f (first.map (AX.ev e)) (cap.map (AX.ev e))) σ
 | .p7 x lo hi => match x.ev e with
   | .str s=>bound (hi.map (AX.ev e)) s.length s.length fun h=>bound (lo.map (AX.ev e)) 0 h fun l=>K (.str ((s.drop l).take (h-l))) σ
   | _=>False
 | .uz el x lo hi => match x.ev e with
   | .au=>bound (hi.map (AX.ev e)) 0 0 fun h=>bound (lo.map (AX.ev e)) 0 h fun _=>K .au σ
   | .aO _ bj xs=>bj=el/\bound (hi.map (AX.ev e)) xs.length xs.length fun h=>bound (lo.map (AX.ev e)) 0 h fun l=>K (.aO false el ((xs.drop l).take (h-l))) σ
   | .own bj l m o n => bj = el /\ match σ[l]? with
     | some (.cy T bg xs)=>bg=el/\m=xs.length/\o+n<=m/\bound (hi.map (AX.ev e)) n n fun h=>bound (lo.map (AX.ev e)) 0 h fun k=>K (.own el l m (o+k) (h-k)) σ
     | _=>False
   | _=>False
 | .oM off x => match x.ev e with
   | .ref l o=>K (.ref l (o+off)) σ
   | .dO el y o=>K (.dO el y (o+off)) σ
   | .eD el l m i o=>K (.eD el l m i (o+off)) σ
   | _=>False
 | .field ag off n x => match x.ev e with
   | .agg cs=>off+n<=cs.length/\(ag=false->n=1)/\K (if ag then .agg ((cs.drop off).take n)else cs.getD off .undef) σ
   | _=>False
 | .f_ el arr x i => match i.ev e with
   | .int _ k => match arr, x.ev e with
     | none,.aO _ bj xs=>bj=el/\0<=k/\k<xs.length/\K (.dO el (xs.getD k.toNat .undef) 0) σ
     | none, .own bj l m o n => bj = el /\ 0 <= k /\ k < n /\ match σ[l]? with
       | some (.cy T bg xs)=>bg=el/\m=xs.length/\K (.eD el l m (o+k.toNat) 0) σ
       | _=>False
     | some n,.ref l o=>0<=k/\k<n/\K (.ref l (o+k.toNat*el.sz)) σ
     | some n,.dO bj y o=>0<=k/\k<n/\K (.dO bj y (o+k.toNat*el.sz)) σ
     | some n,.eD bj l m j o=>0<=k/\k<n/\K (.eD bj l m j (o+k.toNat*el.sz)) σ
     | _,_=>False
   | _=>False
 | .lC x i => match x.ev e, i.ev e with
   | .str s,.int _ k=>0<=k/\k<s.length/\K (.int .u8 (s.getD k.toNat 0).toNat) σ
   | _,_=>False
 | .yd el ln x i => match x.ev e, i.ev e with
   | .agg cs, .int _ k => 0 <= k /\ k < ln /\ (k.toNat * el.sz + el.sz <= cs.length) /\ (el.ag = false -> el.sz = 1) /\
      K (if el.ag then .agg ((cs.drop (k.toNat*el.sz)).take el.sz)else cs.getD (k.toNat*el.sz) .undef) σ
   | _,_=>False
 | .ext x i => match x.ev e with
   | .bO vs=>i<vs.length/\K (vs.getD i .undef) σ
   | _=>False
 | .call q f args => match f.ev e with
   | .fn (.func n) first cap =>
     if q then ∃ r,(∀ τ,xn P n (first++args.map (AX.ev e)++cap) (σ++ τ) r)/\K r σ
     else cN P n (first++args.map (AX.ev e)++cap) σ fun
      | .ret r,σ'=>K r σ'
      | .panic r,σ'=>Kp r σ'
   | .qv l => if q then False else rY P l (args.map (AX.ev e)) σ fun
      | .ret r,σ'=>K r σ'
      | .panic r,σ'=>Kp r σ'
   | _=>False
 | .q8 f args => match f.ev e with
   | .fn (.func n) [] []=>C8 P n (args.map (AX.ev e)) σ K
   | _=>False
 | .len s x => match s, x.ev e with
   | true,.str s=>K (.int .i64 s.length) σ
   | false,.au=>K (.int .i64 0) σ
   | false,.aO _ _ xs=>K (.int .i64 xs.length) σ
   | false,.own _ _ _ _ n=>K (.int .i64 n) σ
   | _,_=>False
 | .app T el x y=>oF σ T el (x.ev e) (y.ev e) K
 | .AG el x => match x.ev e with
   | .au=>K .iM σ
   | .own bj l m lo n => bj = el /\ match σ[l]? with
     | some (.cy _ bg xs)=>bg=el/\m=xs.length/\0<n/\K (.eD el l m lo 0) σ
     | _=>False
   | _=>False
 | .wo T x n => match x.ev e, n.ev e with
   | .iM,.int .i64 k=>k=0/\K (.str []) σ
   | .eD el l m lo off, .int .i64 k => lo = 0 /\ off = 0 /\ el = ⟨false, 1⟩ /\ match σ[l]? with
     | some (.cy T' _ xs)=>T'=some T/\m=xs.length/\0<k/\k<=xs.length/\xs.length<=2 ^ 62/\ ∃ s:List UInt8,xs.take k.toNat=s.map (fun b=>AV.int .u8 b.toNat)/\K (.str s) (σ.set l .dead)
     | _=>False
   | _,_=>False
 | .FH x => match x.ev e with
   | .ref l off => match σ[l]? with
     | some (.bW _ cs)=>off<cs.length/\K (.ref l off) σ
     | _=>False
   | _=>False
 | .FI u x => match x.ev e with
   | .ref l off => match σ[l]? with
     | some (.bW (some T) cs)=>liesAt P P.depth T (cs.length / P.cellsOf T) off u 1=true/\K (.ref l off) σ
     | _=>False
   | _=>False
 | .DM neg x y => match x.ev e, y.ev e with
   | .ref l o, .ref l' o' => l = l' /\ o = o' /\ match σ[l]? with
     | some (.bW _ _)=>K (.bool neg.not) σ
     | _=>False
   | _,_=>False
 | .C_ f x => (∃ fn, P.funcs[f]? = some fn ∧ (fn.name == "runtime.NumGoroutine") = false ∧ fn.body.isNone = true ∧ Extern.findNext fn = none ∧ Extern.find fn = some Extern.AbiNoEscape.same) ∧ K (x.ev e) σ
 | .min x xs=>qS true (x.ev e) (xs.map (AX.ev e)) fun v=>K v σ
 | .max x xs=>qS false (x.ev e) (xs.map (AX.ev e)) fun v=>K v σ
 | .nB el zero n c => match n.ev e, c.ev e with
   | .int .i64 k,.int .i64 m=>zero.fits el=true/\0<=k/\k<=m/\m*(el.sz+1)<=2 ^ 40/\K (.own el σ.length k.toNat 0 k.toNat) (σ++[.vec el (List.replicate k.toNat zero)])
   | _,_=>False
 | .panic x => match x.ev e with
   | .kg t v=>Kp (.kg t v) σ
   | _=>False
 | .lB el=>K (.own el σ.length 0 0 0) (σ++[.vec el []])
 | .hold=>K (.ref σ.length 0) (σ++[.resv])
 | .wq T x=>(x.ev e).cells.all AV.scalar=true/\K (.ref σ.length 0) (σ++[.bW (some T) (x.ev e).cells])
 | .kS k T cs => match e k with
   | .ref n 0 => match σ[n]? with
     | some .resv=>K (.ref n 0) (σ.set n (.bW T cs))
     | _=>False
   | _=>False
 | .oN k T el x y => match e k with
   | .ref n 0 => match σ[n]? with
     | some .resv => match QL el (y.ev e) with
       | some ys=>QK el (x.ev e)=true/\ys.all (fun a=>a.fits el)=true/\fJ ys.length el/\K (.own el n ys.length 0 ys.length) (σ.set n (.cy T el ys))
       | none=>False
     | _=>False
   | _=>False
 | .oO k el zero n c => match e k with
   | .ref l 0 => match σ[l]? with
     | some .resv => match n.ev e, c.ev e with
       | .int .i64 i,.int .i64 m=>zero.fits el=true/\0<i/\i<=m/\m*(el.sz+1)<=2 ^ 40/\K (.own el l i.toNat 0 i.toNat) (σ.set l (.vec el (List.replicate i.toNat zero)))
       | _,_=>False
     | _=>False
   | _=>False
 | .Ek x => match x.ev e with
   | .str s=>K (.ref σ.length 0) (σ++[.iR s 0])
   | _=>False
 | .Em x => match x.ev e with
   | .ref l 0 => match σ[l]? with
     | some (.iR s pos) =>
       if pos<s.length then K (.bO [.bool true,.int .i64 pos,.int .i32 (Utf8.decode ⟨s.toArray⟩ pos).1]) (σ.set l (.iR s (pos+(Utf8.decode ⟨s.toArray⟩ pos).2)))
       else K (.bO [.bool false]) σ
     | _=>False
   | _=>False
 | .pL neg k x y => match nk k (x.ev e) (y.ev e) with
   | some b=>K (.bool (if neg then !b else b)) σ
   | none=>False
