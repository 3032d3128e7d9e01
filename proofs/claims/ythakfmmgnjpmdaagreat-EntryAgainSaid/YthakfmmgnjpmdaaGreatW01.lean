/- Part. -/
import Derived.Test.YthakfmmgnjpmdaaGreatW00
import Derived.RangeFuncIn
import Derived.RangeFuncLeaves
import Derived.RangeFuncRecord
import Derived.OrdersIn
set_option linter.all false
namespace Go.AM
inductive Out where
 | ret (a:AV)
 | panic (a:AV)
def C4(g:aM)(w:World): Out->Ending->Prop
 | .ret a,.returned v=>VR g w a v
 | .panic a,.panicked chain=> ∃ v,chain=[{ v,recovered:=false }]/\VR g w a v
 | _,_=>False
def Has (P : Program) (f : FuncId) : Prop := ∃ fn, P.funcs[f]? = some fn ∧ fn.body.isSome = true ∧ (fn.name == "runtime.NumGoroutine") = false
def eU(P:Program)(f:FuncId)(args:List AV)(σ : ae)(R:Out->ae->Prop): Prop :=
 Has P f/\ ∀(g:aM) (w:World) (vs:Array Value),Rel g w σ->args.length=vs.size->(∀ i,i<args.length->VR g w (args.getD i .undef) (vs.getD i Go.undef)) ->
  Calls P f vs w fun e w'=> ∃ out g' σ',Rel g' w' σ'/\fN σ g w σ' g' w'/\C4 g' w' out e/\R out σ'
def eU.mono{P:Program}{f:FuncId}{args:List AV}{σ : ae}{R R':Out->ae->Prop}(h:eU P f args σ R)(hr:∀ o σ',R o σ'->R' o σ'): eU P f args σ R' :=
 ⟨h.1,fun g w vs h1 h2 h3=>(h.2 g w vs h1 h2 h3).mono fun _ _ ⟨out,g',σ',a,b,c,d⟩=>⟨out,g',σ',a,b,c,hr _ _ d⟩⟩
def u7(P:Program)(l:Nat)(args:List AV)(σ : ae)(R:Out->ae->Prop): Prop :=
 (∃ nt e ps ca cb st pe, σ[l]? = some (.loop nt e ps ca cb st pe)) /\ ∀ (g : aM) (w : World) (vs : Array Value) (b : Nat), Rel g w σ -> g.base l = some b -> args.length = vs.size -> (∀ i, i < args.length -> VR g w (args.getD i .undef) (vs.getD i Go.undef)) ->
   ∃ fn tmps assign body,(Instr.yield b vs).run P w = .ok (.round b fn tmps assign body) w/\RoundIn Fence.wide 0 P b fn tmps assign body w fun en w'=> ∃ out g' σ',Rel g' w' σ'/\fN σ g w σ' g' w'/\C4 g' w' out en/\R out σ'
def u7.mono{P:Program}{l:Nat}{args:List AV}{σ : ae}{R R':Out->ae->Prop}(h:u7 P l args σ R)(hr:∀ o σ',R o σ'->R' o σ'): u7 P l args σ R':=by
 refine⟨h.1,fun g w vs b h1 h2 h3 h4=>?_⟩;obtain⟨fn,tmps,ca,cb,r1,r2⟩:=h.2 g w vs b h1 h2 h3 h4;exact⟨fn,tmps,ca,cb,r1,r2.mono fun _ _ ⟨out,g',σ',a,b,c,d⟩=>⟨out,g',σ',a,b,c,hr _ _ d⟩⟩
def yp(P:Program)(f:FuncId)(args:List AV)(σ : ae)(r:AV): Prop:=eU P f args σ fun o σ'=>o = .ret r/\σ' = σ
abbrev Env:=Nat->AV
inductive AX where
 | t (n:Nat)
 | c (a:AV)
def AX.ev(e:Env): AX->AV
 | .t n=>e n
 | .c a=>a
def upd(e:Env)(d:Option Nat)(a:AV): Env :=
 match d with
 | some d=>fun n=>if n=d then a else e n
 | none=>e
def fy: List AV->Nat->List AV->List AV
 | cs,_,[]=>cs
 | cs,i,a::az=>fy (cs.set i a) (i+1) az
inductive Kd where
 | b|i|s
deriving DecidableEq
def OB: Kd->AV->AV->Option Bool
 | .b,.bool a,.bool b=>some (a==b)
 | .i,.int k a,.int k' b=>if k=k' then some (a==b)else none
 | .s,.str a,.str b=>some (a==b)
 | _,_,_=>none
def ig: List Kd->List AV->List AV->Option Bool
 | [],[],[]=>some true
 | k :: ks, a :: az, b :: bs => match OB k a b, ig ks az bs with
   | some x,some y=>some (x && y)
   | _,_=>none
 | _,_,_=>none
inductive NK where
 | p|i|f|m
deriving DecidableEq
def oP: NK->AV->Option Bool
 | .p,.p7=>some true
 | .p,.ref .. | .p,.eL .. | .p,.fR ..=>some false
 | .i,.mF=>some true
 | .i,.k8 ..=>some false
 | .f,.si=>some true
 | .f,.fn ..=>some false
 | .m,.j4=>some true
 | .m,.mp ..=>some false
 | _,_=>none
def rT(k:NK)(x y:AV): Option Bool :=
 match oP k x,oP k y with
 | some true,some b=>some b
 | some false,some true=>some false
 | _,_=>none
def AV.obj: AV->Option Nat
 | .ref l _=>some l
 | .fR _ l _ _ _=>some l
 | .own _ l _ _ _=>some l
 | .wY _ (.ref l _) _=>some l
 | .wY _ (.fR _ l _ _ _) _=>some l
 | .mp l=>some l
 | _=>none
def AV.adv(d:Nat): AV->AV
 | .ref l o=> .ref l (o+d)
 | .eL el y o=> .eL el y (o+d)
 | .fR el l m i o=> .fR el l m i (o+d)
 | x=>x
def AV.ptr: AV->Bool
 | .ref .. | .eL .. | .fR ..=>true
 | _=>false
def bE.like: bE->bE->Prop
 | .dW T el xs,o=> ∃ ys,o = .dW T el ys/\ys.length=xs.length
 | _,_=>True
def E_(P:Program)(n:FuncId)(args:List AV)(σ : ae)(K:AV->ae->Prop): Prop:=match args with
 | a::_=> ∃ l ob mZ r,a.obj=some l/\σ[l]? = some ob/\ob.like mZ/\eU P n args σ (fun o σ'=>o = .ret r/\σ' = σ.set l mZ)/\K r (σ.set l mZ)
 | []=>False
inductive fX where
 | sl3 (el:El) (lo:Bool)
 | Og
 | Ki (kd:Option IntKind) (ok:Bool) (zero:AV)
 | VY (kd:Option IntKind)
 | Kj
 | OC (el:El) (n:Nat) (lo hi:Bool)
 | copy (el:El)
 | inv (name:String)
 | apx (el:El)
 | OD (el:El) (lo:Bool)
 | OE (el:El)
 | cw (n:FuncId) (k:Nat) (C5:List (Bool × Nat))
 | OG (neg:Bool)
 | OH (T:TypeId) (ok:Bool) (zero:AV)
 | s2a (n:Nat)
 | ab5 (kd:Option IntKind) (zero:AV)
 | ab6
 | clr (el:El) (zero:AV)
 | pc (n:FuncId)
 | FP
inductive bA where
 | ex (o:fX) (xs:List AX)
 | mv (x:AX)
 | pick (c a b:AX)
 | alloc (T:Option TypeId) (cs:List AV)
 | box (x:AX)
 | build (zero:List AV) (parts:List (Nat × Nat × AX))
 | j7 (mt:Bool) (el:El) (zero:AV) (n:Nat) (parts:List (Nat × AX))
 | load (ag:Bool) (n:Nat) (x:AX)
 | store (n:Nat) (x v:AX)
 | mc (x:AX)
 | bin (op:BinOp) (x y:AX)
 | jD (neg:Bool) (ag:Bool) (ks:List Kd) (x y:AX)
 | un (op:UnOp) (x:AX)
 | jE (k:IntKind) (x:AX)
 | SG (x:AX)
 | VZ (x:AX)
 | Ch (x:AX)
 | uN (t:TypeId) (x:AX)
 | q_ (f:Fn) (first cap:List AX)
 | p8 (x:AX) (lo hi:Option AX)
 | ov (el:El) (x:AX) (lo hi:Option AX)
 | iD (off:Nat) (x:AX)
 | field (ag:Bool) (off n:Nat) (x:AX)
 | fh (el:El) (arr:Option Nat) (x i:AX)
 | jh (x i:AX)
 | Kk (el:El) (ln:Nat) (x i:AX)
 | ext (x:AX) (i:Nat)
 | call (q:Bool) (f:AX) (args:List AX)
 | n7 (f:AX) (args:List AX)
 | len (s:Bool) (x:AX)
 | app (T:Option TypeId) (el:El) (x y:AX)
 | V5 (el:El) (x:AX)
 | Ys (T:TypeId) (x n:AX)
 | p2u (x:AX)
 | u2p (u:TypeId) (x:AX)
 | eqp (neg:Bool) (x y:AX)
 | T6 (f:FuncId) (x:AX)
 | min (x:AX) (xs:List AX)
 | max (x:AX) (xs:List AX)
 | po (el:El) (zero:AV) (n c:AX)
 | panic (x:AX)
 | ji (el:El)
 | hold
 | C6 (T:TypeId) (x:AX)
 | mC (k:Nat) (T:Option TypeId) (cs:List AV)
 | qF (k:Nat) (T:Option TypeId) (el:El) (x y:AX)
 | Kl (x:AX)
 | Km (x:AX)
 | rU (neg:Bool) (k:NK) (x y:AX)
 | qG (k:Nat) (el:El) (zero:AV) (n c:AX)
def de(k:IntKind)(n:Int): Int:=k.wrap n
def nA(op:BinOp)(k:IntKind)(x y:Int): Int :=
 let a:=BitVec.ofInt k.bits x
 let b:=BitVec.ofInt k.bits y
 match op with
 | .and=>k.wrap (a &&& b).toNat
 | .or=>k.wrap (a ||| b).toNat
 | .xor=>k.wrap (a ^^^ b).toNat
 | _=>k.wrap (a &&& ~~~b).toNat
def jO(op:BinOp)(x y:AV)(K:AV->Prop): Prop :=
 match op,x,y with
 | .shl,.int k a,.int _ b=>0<=b/\K (.int k (de k (a*2 ^ (Nat.min b.toNat k.bits))))
 | .shr,.int k a,.int _ b=>0<=b/\K (.int k (a.fdiv (2 ^ (Nat.min b.toNat k.bits))))
 | .add,.int k a,.int k' b=>k=k'/\K (.int k (de k (a+b)))
 | .sub,.int k a,.int k' b=>k=k'/\K (.int k (de k (a-b)))
 | .mul,.int k a,.int k' b=>k=k'/\K (.int k (de k (a*b)))
 | .quo,.int k a,.int k' b=>k=k'/\b≠0/\K (.int k (de k (a.tdiv b)))
 | .rem,.int k a,.int k' b=>k=k'/\b≠0/\K (.int k (a.tmod b))
 | .and,.int k a,.int k' b=>k=k'/\K (.int k (nA .and k a b))
 | .or,.int k a,.int k' b=>k=k'/\K (.int k (nA .or k a b))
 | .xor,.int k a,.int k' b=>k=k'/\K (.int k (nA .xor k a b))
 | .andNot,.int k a,.int k' b=>k=k'/\K (.int k (nA .andNot k a b))
 | .eql,.int k a,.int k' b=>k=k'/\K (.bool (a==b))
 | .neq,.int k a,.int k' b=>k=k'/\K (.bool (!(a==b)))
 | .lss,.int k a,.int k' b=>k=k'/\K (.bool (decide (a<b)))
 | .leq,.int k a,.int k' b=>k=k'/\K (.bool (decide (a<=b)))
 | .gtr,.int k a,.int k' b=>k=k'/\K (.bool (decide (b<a)))
 | .geq,.int k a,.int k' b=>k=k'/\K (.bool (decide (b<=a)))
 | .add,.str a,.str b=>((a.length+b.length:Nat):Int)<=IntKind.i64.max/\K (.str (a++b))
 | .eql,.str a,.str b=>K (.bool (a==b))
 | .neq,.str a,.str b=>K (.bool (!(a==b)))
 | .lss,.str a,.str b=>K (.bool (Op.bytesLess a b))
 | .leq,.str a,.str b=>K (.bool (Op.bytesLess a b || a==b))
 | .gtr,.str a,.str b=>K (.bool (!(Op.bytesLess a b || a==b)))
 | .geq,.str a,.str b=>K (.bool (!Op.bytesLess a b))
 | _,_,_=>False
def C7(op:UnOp)(x:AV)(K:AV->Prop): Prop :=
 match op,x with
 | .not,.bool b=>K (.bool (!b))
 | .neg,.int k n=>K (.int k (de k (0-n)))
 | .xor,.int k n=>K (.int k (nA .xor k (if k.signed then -1 else k.max) n))
 | _,_=>False
def bound(x:Option AV)(d:Nat)(y:Nat)(K:Nat->Prop): Prop :=
 match x with
 | none=>K d
 | some (.int _ i)=>0<=i/\i<=y/\K i.toNat
 | _=>False
def partOf(el:El)(x:AV)(off:Nat)(ag:Bool)(n:Nat)(K:AV->Prop): Prop :=
 if off=0/\n=el.sz/\ag=el.ag then K x
 else off+n<=el.sz/\match x with
  | .agg cs=>K (if ag then .agg ((cs.drop off).take n)else cs.getD off .undef)/\(ag=false->n=1)
  | _=>False
def iR(σ : ae)(ag:Bool)(n:Nat)(p:AV)(K:AV->Prop): Prop :=
 match p with
 | .ref l off => match σ[l]? with
   | some (.jK _ cs)=>off+n<=cs.length/\(ag=false->n=1)/\K (if ag then .agg ((cs.drop off).take n)else cs.getD off .undef)
   | _=>False
 | .eL el x off=>partOf el x off ag n K
 | .fR el l m i off => match σ[l]? with
   | some (.dW T bB xs)=>bB=el/\m=xs.length/\i<xs.length/\partOf el (xs.getD i .undef) off ag n K
   | _=>False
 | _=>False
def n8(σ : ae)(n:Nat)(p v:AV)(K:ae->Prop): Prop :=
 v.cells.length=n/\v.cells.all AV.scalar=true /\
 match p with
 | .ref l off => match σ[l]? with
   | some (.jK T cs)=>off+n<=cs.length/\K (σ.set l (.jK T (fy cs off v.cells)))
   | _=>False
 | .fR el l m i off => match σ[l]? with
   | some (.dW T bB xs) => bB = el /\ m = xs.length /\ i < xs.length /\ off + n <= el.sz /\ (el.ag = false -> v.fits el = true) /\
      K (σ.set l (.dW T el (xs.set i (if el.ag then .agg (fy (xs.getD i .undef).cells off v.cells)else v))))
   | _=>False
 | _=>False
def ja(σ : ae)(el:El)(x:AV)(K:List AV->Prop): Prop :=
 match x with
 | .ai=>K []
 | .aG _ bB xs=>bB=el/\K xs
 | .own bB l m lo n => bB = el /\ match σ[l]? with
   | some (.dW T dQ xs)=>dQ=el/\m=xs.length/\K ((xs.drop lo).take n)
   | _=>False
 | .str s=>el=⟨false,1⟩/\K (s.map fun b=> .int .u8 b.toNat)
 | .wY bB p n=>bB=el/\el=⟨false,1⟩/\iR σ true n p fun v=>K v.cells
 | _=>False
def jj(n:Nat)(el:El): Prop:=n*(el.sz+1)<=2 ^ 40
def uo(σ : ae)(T:Option TypeId)(el:El)(x y:AV)(K:AV->ae->Prop): Prop :=
 ja σ el y fun ys=>ys.all (fun a=>a.fits el)=true /\
 match x with
 | .ai=>if ys.length=0 then K .ai σ else jj ys.length el/\K (.own el σ.length ys.length 0 ys.length) (σ++[.dW T el ys])
 | .aG true bB xs => bB = el /\ if ys.length = 0 then K (.aG true el xs) σ else
    jj (xs.length+ys.length) el/\K (.own el σ.length (xs.length+ys.length) 0 (xs.length+ys.length)) (σ++[.dW T el (xs++ys)])
 | .own bB l m lo n => bB = el /\ match σ[l]? with
   | some (.dW T' dQ xs) => (T' = none \/ T' = T) /\ dQ = el /\ m = xs.length /\ lo = 0 /\ n = xs.length /\ jj (xs.length + ys.length) el /\
      K (.own el l (xs.length+ys.length) 0 (xs.length+ys.length)) (σ.set l (.dW T' el (xs++ys)))
   | _=>False
 | _=>False
def C8(op:Bool)(x y:AV)(K:AV->Prop): Prop :=
 match x,y with
 | .int k a,.int _ b=>K (.int k (if op then(if b<a then b else a)else (if b>a then b else a)))
 | _,_=>False
def rV(op:Bool)(x:AV): List AV->(AV->Prop)->Prop
 | [],K=>K x
 | y::ys,K=>C8 op x y fun z=>rV op z ys K
def mH(zero:List AV)(e:Env): List (Nat × Nat × AX)->(List AV->Prop)->Prop
 | [],K=>K zero
 |(off,n,x)::r,K=>(x.ev e).cells.length=n/\(x.ev e).cells.all AV.scalar=true/\off+n<=zero.length/\mH (fy zero off (x.ev e).cells) e r K
def lH(el:El)(xs:List AV)(e:Env): List (Nat × AX)->(List AV->Prop)->Prop
 | [],K=>K xs
 |(i,x)::r,K=>(x.ev e).fits el=true/\i<xs.length/\lH el (xs.set i (x.ev e)) e r K
def adR(el:El): AV->Bool
 | .ai=>true
 | .aG true bB xs=>bB==el && xs.isEmpty
 | _=>false
def adS(el:El): AV->Option (List AV)
 | .ai=>some []
 | .aG _ bB xs=>if bB=el then some xs else none
 | _=>none
def adT: AV->AV->Option Bool
 | .str a,.str b=>some (a==b)
 | .int k a,.int k' b=>if k=k' then some (a==b)else none
 | _,_=>none
def Fa(k:AV): List (AV × AV)->Nat->Option (Option (Nat × AV))
 | [],_=>some none
 | (q, v) :: r, i => match adT k q with
   | some true=>some (some (i,v))
   | some false=>Fa k r (i+1)
   | none=>none
def ab7(k v:AV)(es:List (AV × AV)): Option (List (AV × AV)):=match Fa k es 0 with
 | some (some (i,_))=>some (es.set i (k,v))
 | some none=>some (es++[(k,v)])
 | none=>none
def AV.T7: Option IntKind->AV->Bool
 | none,.str _=>true
 | some k,.int k' _=>k==k'
 | _,_=>false
def ab8(P:Program)(t:TypeId)(name:String): Option FuncId:=match P.info? t,P.underlying t with
 | some i, some (.pointer _) => match i.methods.find? (·.name == name) with
   | some m => match m.func with
     | some (f,true)=>if m.path.isEmpty then some f else none
     | _=>none
   | none=>none
 | _,_=>none
def rq(lo:Option AV)(hi mx:AV)(cap:Nat)(K:Nat->Nat->Nat->Prop): Prop :=
 bound (some mx) 0 cap fun m=>bound (some hi) 0 m fun h=>bound lo 0 h fun l=>K l h m
def C9(σ : ae)(el:El)(x:AV)(lo:Option AV)(hi mx:AV)(K:AV->ae->Prop): Prop :=
 match x with
 | .ai=>rq lo hi mx 0 fun _ _ _=>K .ai σ
 | .aG _ bB xs=>bB=el/\rq lo hi mx xs.length fun l h m=>K (.aG (h==m) el ((xs.drop l).take (h-l))) σ
 | .own bB l0 m0 o n => bB = el /\ match σ[l0]? with
   | some (.dW _ dQ xs) => dQ = el /\ m0 = xs.length /\ o + n <= m0 /\ rq lo hi mx n fun l h m =>
      if m=l then K (.aG true el []) σ else h=m/\K (.aG true el ((xs.drop (o+l)).take (h-l))) (σ.set l0 .dead)
   | _=>False
 | _=>False
def yq(el:El)(x:AV)(lo:Option AV)(hi mx:AV)(K:AV->Prop): Prop :=
 match x with
 | .ai=>rq lo hi mx 0 fun _ _ _=>K .ai
 | .aG _ bB xs=>bB=el/\rq lo hi mx xs.length fun l h m=>K (.aG (h==m) el ((xs.drop l).take (h-l)))
 | .own bB _ _ _ _=>bB=el/\rq lo hi mx 0 fun _ _ _=>K (.aG true el [])
 | _=>False
def H_(σ : ae)(el:El)(x:AV)(ys:List AV)(K:AV->ae->Prop): Prop :=
 match x with
 | .ai=>K (.int .i64 0) σ
 | .aG _ bB []=>bB=el/\K (.int .i64 0) σ
 | .wY bB p n=>bB=el/\el=⟨false,1⟩/\n8 σ (min ys.length n) p (.agg (ys.take n)) fun σ'=>K (.int .i64 (min ys.length n:Nat)) σ'
 | .own bB l m o n => bB = el /\ match σ[l]? with
   | some (.dW T dQ xs)=>dQ=el/\m=xs.length/\o+n<=m/\K (.int .i64 (min ys.length n:Nat)) (σ.set l (.dW T el (fy xs o (ys.take n))))
   | _=>False
 | _=>False
def Oh(σ : ae)(el:El)(x y:AV)(K:AV->ae->Prop): Prop :=
 ja σ el y fun ys=>ys.all (fun a=>a.fits el)=true/\H_ σ el x ys K
def OI(σ : ae)(el:El)(x y:AV)(K:AV->ae->Prop): Prop :=
 match x with
 | .own bB l m (lo + 1) n => bB = el /\ ja σ el y fun ys => ys.all (fun a => a.fits el) = true /\ match σ[l]? with
   | some (.dW _ dQ xs) => dQ = el /\ m = xs.length /\ lo + 1 + n = m /\ jj (n + ys.length) el /\
      K (.own el σ.length (n+ys.length) 0 (n+ys.length)) (σ.set l .dead++[.vec el (xs.drop (lo+1)++ys)])
   | _=>False
 | x=>uo σ none el x y K
def Ia(σ : ae)(el:El)(x y:AV)(K:AV->Prop): Prop :=
 ja σ el y fun ys=>ys.all (fun a=>a.fits el)=true/\ys.length≠0/\match x with
  | .ai=>jj ys.length el/\K (.aG false el ys)
  | .aG true bB xs=>bB=el/\jj (xs.length+ys.length) el/\K (.aG false el (xs++ys))
  | _=>False
def C_(el:El)(n:Nat)(p:AV)(lo hi:Option AV)(K:AV->Prop): Prop :=
 p.ptr=true/\bound hi n n fun h=>bound lo 0 h fun l=>K (if h=l then .aG false el []else .wY el (p.adv (l*el.sz)) (h-l))
def AZ(σ : ae)(x:AV)(K:Bool->Prop): Prop:=match x with
 | .ai=>K true
 | .aG _ _ (_::_)=>K false
 | .wY ..=>K false
 | .own _ l m _ n => match σ[l]? with
   | some (.dW _ _ xs)=>m=xs.length/\0<n/\K false
   | _=>False
 | _=>False
def Ib(σ σ2:ae): List (Bool × Nat)->List AV->Prop
 | [],_=>True
 |(ag,n)::r,p::ps=>(∃ v,iR σ ag n p (fun u=>u=v)/\iR σ2 ag n p (fun u=>u=v))/\Ib σ σ2 r ps
 | _::_,[]=>False
def w8(T:TypeId)(ok:Bool)(z x:AV)(K:AV->Prop): Prop:=match x with
 | .k8 t v=>if t=T then K (if ok then .bJ [v,.bool true]else v)else ok=true/\K (.bJ [z,.bool false])
 | .mF=>ok=true/\K (.bJ [z,.bool false])
 | _=>False
def GF(σ : ae)(n:Nat)(x:AV)(K:AV->ae->Prop): Prop:=match x with
 | .aG _ bB xs=>bB=⟨false,1⟩/\0<n/\n<=xs.length/\K (.eL ⟨true,n⟩ (.agg (xs.take n)) 0) σ
 | .own bB l m o k => bB = ⟨false, 1⟩ /\ match σ[l]? with
   | some (.dW _ dQ xs)=>dQ=⟨false,1⟩/\m=xs.length/\o+k<=m/\0<n/\n<=k/\K (.eL ⟨true,n⟩ (.agg ((xs.drop o).take n)) 0) (σ.set l .dead)
   | _=>False
 | _=>False
def A0(σ : ae)(kd:Option IntKind)(zero x k:AV)(K:AV->ae->Prop): Prop:=match x with
 | .mp l => k.T7 kd = true /\ match σ[l]? with
   | some (.map es) => match Fa k es 0 with
     | some (some (i,v))=>K (.bJ [v,.int .i64 i]) σ
     | some none=>K (.bJ [zero,.int .i64 es.length]) (σ.set l (.map (es++[(k,zero)])))
     | none=>False
   | _=>False
 | _=>False
def A1(σ : ae)(x s v:AV)(K:ae->Prop): Prop:=match x,s with
 | .mp l, .int .i64 z => match σ[l]? with
   | some (.map es)=>0<=z/\z.toNat<es.length/\K (σ.set l (.map (es.set z.toNat ((es.getD z.toNat default).1,v))))
   | _=>False
 | _,_=>False
def GG(σ : ae)(el:El)(zero x:AV)(K:ae->Prop): Prop:=match x with
 | .ai=>K σ
 | .aG _ _ []=>K σ
 | .own bB l m o n => bB = el /\ zero.fits el = true /\ match σ[l]? with
   | some (.dW T dQ xs)=>dQ=el/\m=xs.length/\o+n<=m/\K (σ.set l (.dW T el (fy xs o (List.replicate n zero))))
   | _=>False
 | _=>False
def w9(σ : ae)(x:AV)(K:AV->ae->Prop): Prop:=match x with
 | .ai=>K .ai σ
 | .aG f el xs=>K (.aG f el xs) σ
 | .own el l m lo n => match σ[l]? with
   | some (.dW _ bB xs)=>bB=el/\m=xs.length/\lo+n<=m/\K (.aG false el ((xs.drop lo).take n)) (σ.set l .dead)
   | _=>False
 | _=>False
def pcK(K Kp:AV->Prop): Out->Prop
 | .ret r=>K r
 | .panic v=>Kp v
def fX.run(P:Program)(o:fX)(vs:List AV)(σ : ae)(K Kp:AV->ae->Prop): Prop :=
 match o,vs with
 | .sl3 el false,[x,hi,mx]=>C9 σ el x none hi mx K
 | .sl3 el true,[x,lo,hi,mx]=>C9 σ el x (some lo) hi mx K
 | .Og,[]=>K (.mp σ.length) (σ++[.map []])
 | .Ki kd ok zero,[.j4,k]=>k.T7 kd=true/\K (if ok then .bJ [zero,.bool false]else zero) σ
 | .Ki kd ok zero, [.mp l, k] => k.T7 kd = true /\ match σ[l]? with
   | some (.map es) => match Fa k es 0 with
     | some (some (_,v))=>K (if ok then .bJ [v,.bool true]else v) σ
     | some none=>K (if ok then .bJ [zero,.bool false]else zero) σ
     | none=>False
   | _=>False
 | .VY kd, [.mp l, k, v] => k.T7 kd = true /\ match σ[l]? with
   | some (.map es) => match ab7 k v es with
     | some es'=>K (.bJ []) (σ.set l (.map es'))
     | none=>False
   | _=>False
 | .Kj,[.j4]=>K (.int .i64 0) σ
 | .Kj, [.mp l] => match σ[l]? with
   | some (.map es)=>K (.int .i64 es.length) σ
   | _=>False
 | .OC el n false false,[p]=>C_ el n p none none fun v=>K v σ
 | .OC el n true false,[p,a]=>C_ el n p (some a) none fun v=>K v σ
 | .OC el n false true,[p,b]=>C_ el n p none (some b) fun v=>K v σ
 | .OC el n true true,[p,a,b]=>C_ el n p (some a) (some b) fun v=>K v σ
 | .copy el,[x,y]=>Oh σ el x y K
 | .apx el,[x,y]=>OI σ el x y K
 | .OE el,[x,y]=>Ia σ el x y fun v=>K v σ
 | .OG neg,[x]=>AZ σ x fun r=>K (.bool (if neg then !r else r)) σ
 | .cw n k C5,x::vs=> ∃ r σ2,eU P n ((x::vs).take k) σ (fun o σ'=>o = .ret r/\σ' = σ2)/\Ib σ σ2 C5 ((x::vs).drop k)/\K r σ2
 | .OD el false,[x,hi,mx]=>yq el x none hi mx fun v=>K v σ
 | .OD el true,[x,lo,hi,mx]=>yq el x (some lo) hi mx fun v=>K v σ
 | .inv name, .k8 t v :: r => match ab8 P t name with
   | some f => eU P f (v :: r) σ fun
     | .ret r,σ'=>K r σ'
     | .panic r,σ'=>Kp r σ'
   | none=>False
 | .OH T ok z,[x]=>w8 T ok z x fun v=>K v σ
 | .s2a n,[x]=>GF σ n x K
 | .ab5 kd z,[x,k]=>A0 σ kd z x k K
 | .ab6,[x,s,v]=>A1 σ x s v fun σ'=>K (.bJ []) σ'
 | .clr el z,[x]=>GG σ el z x fun σ'=>K (.bJ []) σ'
 | .pc n,vs=> ∃ o,(∀ s,eU P n vs s fun o' s'=>o'=o/\s'=s)/\pcK (fun r=>K r σ) (fun v=> ∀ s,Kp v s) o
 | .FP,[x]=>w9 σ x K
 | _,_=>False
def bA.run(P:Program)(o:bA)(e:Env)(σ : ae)(K:AV->ae->Prop)(Kp:AV->ae->Prop): Prop :=
 match o with
 | .ex o xs=>o.run P (xs.map (AX.ev e)) σ K Kp
 | .mv x=>K (x.ev e) σ
 | .pick c a b => match c.ev e with
   | .bool t=>K (if t then a.ev e else b.ev e) σ
   | _=>False
 | .alloc T cs=>K (.ref σ.length 0) (σ++[.jK T cs])
 | .box x=>(x.ev e).cells.all AV.scalar=true/\K (.ref σ.length 0) (σ++[.cells (x.ev e).cells])
 | .build zero parts=>mH zero e parts fun cs=>K (.agg cs) σ
 | .j7 mt el zero n parts => lH el (List.replicate n zero) e parts fun xs =>
    if mt then K (.own el σ.length n 0 n) (σ++[.vec el xs])else K (.aG true el xs) σ
 | .load ag n x=>iR σ ag n (x.ev e) fun v=>K v σ
 | .store n x v=>n8 σ n (x.ev e) (v.ev e) fun σ'=>K (.bJ []) σ'
 | .mc x => match x.ev e with
   | .ref .. | .eL .. | .fR .. | .k8 .. | .fn (.func _) _ _ | .tZ _=>K (x.ev e) σ
   | _=>False
 | .bin op x y=>jO op (x.ev e) (y.ev e) fun v=>K v σ
 | .jD neg ag ks x y => match (if ag then (match x.ev e, y.ev e with | .agg az, .agg bs => ig ks az bs | _, _ => none) else ig ks [x.ev e] [y.ev e]) with
   | some b=>K (.bool (if neg then !b else b)) σ
   | none=>False
 | .un op x=>C7 op (x.ev e) fun v=>K v σ
 | .jE k x => match x.ev e with
   | .int _ n=>K (.int k (de k n)) σ
   | _=>False
 | .SG x => match x.ev e with
   | .str s=>K (.str s) σ
   | _=>False
 | .VZ x => match x.ev e with
   | .str s=>s.length<=2 ^ 40/\K (.own ⟨false,1⟩ σ.length s.length 0 s.length) (σ++[.vec ⟨false,1⟩ (s.map fun b=> .int .u8 b.toNat)])
   | _=>False
 | .Ch x=>(match x.ev e with | .str _=>False|_=>True)/\ja σ ⟨false,1⟩ (x.ev e) fun xs=> ∃ s:List UInt8,xs=s.map (fun b=>AV.int .u8 b.toNat)/\K (.str s) σ
 | .uN t x=>K (.k8 t (x.ev e)) σ
 | .q_ f first cap=>K (.fn f (first.map (AX.ev e)) (cap.map (AX.ev e))) σ
 | .p8 x lo hi => match x.ev e with
   | .str s=>bound (hi.map (AX.ev e)) s.length s.length fun h=>bound (lo.map (AX.ev e)) 0 h fun l=>K (.str ((s.drop l).take (h-l))) σ
   | _=>False
 | .ov el x lo hi => match x.ev e with
   | .ai=>bound (hi.map (AX.ev e)) 0 0 fun h=>bound (lo.map (AX.ev e)) 0 h fun _=>K .ai σ
   | .aG _ bB xs=>bB=el/\bound (hi.map (AX.ev e)) xs.length xs.length fun h=>bound (lo.map (AX.ev e)) 0 h fun l=>K (.aG false el ((xs.drop l).take (h-l))) σ
   | .own bB l m o n => bB = el /\ match σ[l]? with
     | some (.dW T dQ xs)=>dQ=el/\m=xs.length/\o+n<=m/\bound (hi.map (AX.ev e)) n n fun h=>bound (lo.map (AX.ev e)) 0 h fun k=>K (.own el l m (o+k) (h-k)) σ
     | _=>False
   | _=>False
 | .iD off x => match x.ev e with
   | .ref l o=>K (.ref l (o+off)) σ
   | .eL el y o=>K (.eL el y (o+off)) σ
   | .fR el l m i o=>K (.fR el l m i (o+off)) σ
   | _=>False
 | .field ag off n x => match x.ev e with
   | .agg cs=>off+n<=cs.length/\(ag=false->n=1)/\K (if ag then .agg ((cs.drop off).take n)else cs.getD off .undef) σ
   | _=>False
 | .fh el arr x i => match i.ev e with
   | .int _ k => match arr, x.ev e with
     | none,.aG _ bB xs=>bB=el/\0<=k/\k<xs.length/\K (.eL el (xs.getD k.toNat .undef) 0) σ
     | none, .own bB l m o n => bB = el /\ 0 <= k /\ k < n /\ match σ[l]? with
       | some (.dW T dQ xs)=>dQ=el/\m=xs.length/\K (.fR el l m (o+k.toNat) 0) σ
       | _=>False
     | some n,.ref l o=>0<=k/\k<n/\K (.ref l (o+k.toNat*el.sz)) σ
     | some n,.eL bB y o=>0<=k/\k<n/\K (.eL bB y (o+k.toNat*el.sz)) σ
     | some n,.fR bB l m j o=>0<=k/\k<n/\K (.fR bB l m j (o+k.toNat*el.sz)) σ
     | _,_=>False
   | _=>False
 | .jh x i => match x.ev e, i.ev e with
   | .str s,.int _ k=>0<=k/\k<s.length/\K (.int .u8 (s.getD k.toNat 0).toNat) σ
   | _,_=>False
 | .Kk el ln x i => match x.ev e, i.ev e with
   | .agg cs, .int _ k => 0 <= k /\ k < ln /\ (k.toNat * el.sz + el.sz <= cs.length) /\ (el.ag = false -> el.sz = 1) /\
      K (if el.ag then .agg ((cs.drop (k.toNat*el.sz)).take el.sz)else cs.getD (k.toNat*el.sz) .undef) σ
   | _,_=>False
 | .ext x i => match x.ev e with
   | .bJ vs=>i<vs.length/\K (vs.getD i .undef) σ
   | _=>False
 | .call q f args => match f.ev e with
   | .fn (.func n) first cap =>
     if q then ∃ r,(∀ τ,yp P n (first++args.map (AX.ev e)++cap) (σ++ τ) r)/\K r σ
     else eU P n (first++args.map (AX.ev e)++cap) σ fun
      | .ret r,σ'=>K r σ'
      | .panic r,σ'=>Kp r σ'
   | .tZ l => if q then False else u7 P l (args.map (AX.ev e)) σ fun
      | .ret r,σ'=>K r σ'
      | .panic r,σ'=>Kp r σ'
   | _=>False
 | .n7 f args => match f.ev e with
   | .fn (.func n) [] []=>E_ P n (args.map (AX.ev e)) σ K
   | _=>False
 | .len s x => match s, x.ev e with
   | true,.str s=>K (.int .i64 s.length) σ
   | false,.ai=>K (.int .i64 0) σ
   | false,.aG _ _ xs=>K (.int .i64 xs.length) σ
   | false,.own _ _ _ _ n=>K (.int .i64 n) σ
   | _,_=>False
 | .app T el x y=>uo σ T el (x.ev e) (y.ev e) K
 | .V5 el x => match x.ev e with
   | .ai=>K .p7 σ
   | .own bB l m lo n => bB = el /\ match σ[l]? with
     | some (.dW _ dQ xs)=>dQ=el/\m=xs.length/\0<n/\K (.fR el l m lo 0) σ
     | _=>False
   | _=>False
 | .Ys T x n => match x.ev e, n.ev e with
   | .p7,.int .i64 k=>k=0/\K (.str []) σ
   | .fR el l m lo off, .int .i64 k => lo = 0 /\ off = 0 /\ el = ⟨false, 1⟩ /\ match σ[l]? with
     | some (.dW T' _ xs)=>T'=some T/\m=xs.length/\0<k/\k<=xs.length/\xs.length<=2 ^ 62/\ ∃ s:List UInt8,xs.take k.toNat=s.map (fun b=>AV.int .u8 b.toNat)/\K (.str s) (σ.set l .dead)
     | _=>False
   | _,_=>False
 | .p2u x => match x.ev e with
   | .ref l off => match σ[l]? with
     | some (.jK _ cs)=>off<cs.length/\K (.ref l off) σ
     | _=>False
   | _=>False
 | .u2p u x => match x.ev e with
   | .ref l off => match σ[l]? with
     | some (.jK (some T) cs)=>liesAt P P.depth T (cs.length / P.cellsOf T) off u 1=true/\K (.ref l off) σ
     | _=>False
   | _=>False
 | .eqp neg x y => match x.ev e, y.ev e with
   | .ref l o, .ref l' o' => l = l' /\ o = o' /\ match σ[l]? with
     | some (.jK _ _)=>K (.bool neg.not) σ
     | _=>False
   | _,_=>False
 | .T6 f x => (∃ fn, P.funcs[f]? = some fn ∧ (fn.name == "runtime.NumGoroutine") = false ∧ fn.body.isNone = true ∧ Extern.findNext fn = none ∧ Extern.find fn = some Extern.AbiNoEscape.same) ∧ K (x.ev e) σ
 | .min x xs=>rV true (x.ev e) (xs.map (AX.ev e)) fun v=>K v σ
 | .max x xs=>rV false (x.ev e) (xs.map (AX.ev e)) fun v=>K v σ
 | .po el zero n c => match n.ev e, c.ev e with
   | .int .i64 k,.int .i64 m=>zero.fits el=true/\0<=k/\k<=m/\m*(el.sz+1)<=2 ^ 40/\K (.own el σ.length k.toNat 0 k.toNat) (σ++[.vec el (List.replicate k.toNat zero)])
   | _,_=>False
 | .panic x => match x.ev e with
   | .k8 t v=>Kp (.k8 t v) σ
   | _=>False
 | .ji el=>K (.own el σ.length 0 0 0) (σ++[.vec el []])
 | .hold=>K (.ref σ.length 0) (σ++[.resv])
 | .C6 T x=>(x.ev e).cells.all AV.scalar=true/\K (.ref σ.length 0) (σ++[.jK (some T) (x.ev e).cells])
 | .mC k T cs => match e k with
   | .ref n 0 => match σ[n]? with
     | some .resv=>K (.ref n 0) (σ.set n (.jK T cs))
     | _=>False
   | _=>False
 | .qF k T el x y => match e k with
   | .ref n 0 => match σ[n]? with
     | some .resv => match adS el (y.ev e) with
       | some ys=>adR el (x.ev e)=true/\ys.all (fun a=>a.fits el)=true/\jj ys.length el/\K (.own el n ys.length 0 ys.length) (σ.set n (.dW T el ys))
       | none=>False
     | _=>False
   | _=>False
 | .qG k el zero n c => match e k with
   | .ref l 0 => match σ[l]? with
     | some .resv => match n.ev e, c.ev e with
       | .int .i64 i,.int .i64 m=>zero.fits el=true/\0<i/\i<=m/\m*(el.sz+1)<=2 ^ 40/\K (.own el l i.toNat 0 i.toNat) (σ.set l (.vec el (List.replicate i.toNat zero)))
       | _,_=>False
     | _=>False
   | _=>False
 | .Kl x => match x.ev e with
   | .str s=>K (.ref σ.length 0) (σ++[.kS s 0])
   | _=>False
 | .Km x => match x.ev e with
   | .ref l 0 => match σ[l]? with
     | some (.kS s pos) =>
       if pos<s.length then K (.bJ [.bool true,.int .i64 pos,.int .i32 (Utf8.decode ⟨s.toArray⟩ pos).1]) (σ.set l (.kS s (pos+(Utf8.decode ⟨s.toArray⟩ pos).2)))
       else K (.bJ [.bool false]) σ
     | _=>False
   | _=>False
 | .rU neg k x y => match rT k (x.ev e) (y.ev e) with
   | some b=>K (.bool (if neg then !b else b)) σ
   | none=>False
