/- Part. -/
import Derived.Test.YtcjcnfcedihckaaGreatDoorW00
import Derived.RangeFuncIn
import Derived.RangeFuncLeaves
import Derived.RangeFuncRecord
import Derived.OrdersIn
set_option linter.all false
namespace Go.AM
inductive Out where
 | ret (a:AV)
 | panic (a:AV)
def IN(g:aJ)(w:World): Out->Ending->Prop
 | .ret a,.returned v=>VR g w a v
 | .panic a,.panicked chain=> ∃ v,chain=[{ v,recovered:=false }]/\VR g w a v
 | _,_=>False
def Has (P : Program) (f : FuncId) : Prop := ∃ fn, P.funcs[f]? = some fn ∧ fn.body.isSome = true ∧ (fn.name == "runtime.NumGoroutine") = false
def cR(P:Program)(f:FuncId)(args:List AV)(σ : ae)(R:Out->ae->Prop): Prop :=
 Has P f/\ ∀(g:aJ) (w:World) (vs:Array Value),Rel g w σ->args.length=vs.size->(∀ i,i<args.length->VR g w (args.getD i .undef) (vs.getD i Go.undef)) ->
  Calls P f vs w fun e w'=> ∃ out g' σ',Rel g' w' σ'/\fC σ g w σ' g' w'/\IN g' w' out e/\R out σ'
def cR.mono{P:Program}{f:FuncId}{args:List AV}{σ : ae}{R R':Out->ae->Prop}(h:cR P f args σ R)(hr:∀ o σ',R o σ'->R' o σ'): cR P f args σ R' :=
 ⟨h.1,fun g w vs h1 h2 h3=>(h.2 g w vs h1 h2 h3).mono fun _ _ ⟨out,g',σ',a,b,c,d⟩=>⟨out,g',σ',a,b,c,hr _ _ d⟩⟩
def sM(P:Program)(l:Nat)(args:List AV)(σ : ae)(R:Out->ae->Prop): Prop :=
 (∃ nt e ps ca cb st pe, σ[l]? = some (.loop nt e ps ca cb st pe)) /\ ∀ (g : aJ) (w : World) (vs : Array Value) (b : Nat), Rel g w σ -> g.base l = some b -> args.length = vs.size -> (∀ i, i < args.length -> VR g w (args.getD i .undef) (vs.getD i Go.undef)) ->
   ∃ fn tmps assign body,(Instr.yield b vs).run P w = .ok (.round b fn tmps assign body) w/\RoundIn Fence.wide 0 P b fn tmps assign body w fun en w'=> ∃ out g' σ',Rel g' w' σ'/\fC σ g w σ' g' w'/\IN g' w' out en/\R out σ'
def sM.mono{P:Program}{l:Nat}{args:List AV}{σ : ae}{R R':Out->ae->Prop}(h:sM P l args σ R)(hr:∀ o σ',R o σ'->R' o σ'): sM P l args σ R':=by
 refine⟨h.1,fun g w vs b h1 h2 h3 h4=>?_⟩;obtain⟨fn,tmps,ca,cb,r1,r2⟩:=h.2 g w vs b h1 h2 h3 h4;exact⟨fn,tmps,ca,cb,r1,r2.mono fun _ _ ⟨out,g',σ',a,b,c,d⟩=>⟨out,g',σ',a,b,c,hr _ _ d⟩⟩
def xU(P:Program)(f:FuncId)(args:List AV)(σ : ae)(r:AV): Prop:=cR P f args σ fun o σ'=>o = .ret r/\σ' = σ
abbrev Env:=Nat->AV
inductive AX where
 | t (n:Nat)
 | c (a:AV)
def AX.ev(e:Env): AX->AV
 | .t n=>e n
 | .c a=>a
def fm(e:Env)(d:Option Nat)(a:AV): Env :=
 match d with
 | some d=>fun n=>if n=d then a else e n
 | none=>e
def eE: List AV->Nat->List AV->List AV
 | cs,_,[]=>cs
 | cs,i,a::az=>eE (cs.set i a) (i+1) az
inductive Kd where
 | b|i|s
deriving DecidableEq
def ML: Kd->AV->AV->Option Bool
 | .b,.bool a,.bool b=>some (a==b)
 | .i,.int k a,.int k' b=>if k=k' then some (a==b)else none
 | .s,.str a,.str b=>some (a==b)
 | _,_,_=>none
def iH: List Kd->List AV->List AV->Option Bool
 | [],[],[]=>some true
 | k :: ks, a :: az, b :: bs => match ML k a b, iH ks az bs with
   | some x,some y=>some (x && y)
   | _,_=>none
 | _,_,_=>none
inductive NK where
 | p|i|f|m
deriving DecidableEq
def qT: NK->AV->Option Bool
 | .p,.iX=>some true
 | .p,.ref .. | .p,.dY .. | .p,.eJ ..=>some false
 | .i,.jn=>some true
 | .i,.kP ..=>some false
 | .f,.rK=>some true
 | .f,.fn ..=>some false
 | .m,.lG=>some true
 | .m,.mp ..=>some false
 | _,_=>none
def om(k:NK)(x y:AV): Option Bool :=
 match qT k x,qT k y with
 | some true,some b=>some b
 | some false,some true=>some false
 | _,_=>none
def AV.obj: AV->Option Nat
 | .ref l _=>some l
 | .eJ _ l _ _ _=>some l
 | .own _ l _ _ _=>some l
 | .sK _ (.ref l _) _=>some l
 | .sK _ (.eJ _ l _ _ _) _=>some l
 | .mp l=>some l
 | _=>none
def AV.adv(d:Nat): AV->AV
 | .ref l o=> .ref l (o+d)
 | .dY el y o=> .dY el y (o+d)
 | .eJ el l m i o=> .eJ el l m i (o+d)
 | x=>x
def AV.ptr: AV->Bool
 | .ref .. | .dY .. | .eJ ..=>true
 | _=>false
def aZ.like: aZ->aZ->Prop
 | .cz T el xs,o=> ∃ ys,o = .cz T el ys/\ys.length=xs.length
 | _,_=>True
def DJ(P:Program)(n:FuncId)(args:List AV)(σ : ae)(K:AV->ae->Prop): Prop:=match args with
 | a::_=> ∃ l ob mF r,a.obj=some l/\σ[l]? = some ob/\ob.like mF/\cR P n args σ (fun o σ'=>o = .ret r/\σ' = σ.set l mF)/\K r (σ.set l mF)
 | []=>False
inductive fM where
 | Zl (el:El) (lo:Bool)
 | Gr
 | Fa (kd:Option IntKind) (ok:Bool) (zero:AV)
 | Gs (kd:Option IntKind)
 | Fb
 | J7 (el:El) (n:Nat) (lo hi:Bool)
 | copy (el:El)
 | inv (name:String)
 | Zm (el:El)
 | IP (el:El) (lo:Bool)
 | IQ (el:El)
 | cw (n:FuncId) (k:Nat) (BU:List (Bool × Nat))
 | Fc (neg:Bool)
 | Uj (T:TypeId) (ok:Bool) (zero:AV)
 | s2a (n:Nat)
 | Xo (kd:Option IntKind) (zero:AV)
 | R0
 | clr (el:El) (zero:AV)
 | pc (n:FuncId)
 | Uk
inductive br where
 | ex (o:fM) (xs:List AX)
 | mv (x:AX)
 | pick (c a b:AX)
 | alloc (T:Option TypeId) (cs:List AV)
 | box (x:AX)
 | build (zero:List AV) (parts:List (Nat × Nat × AX))
 | jI (mt:Bool) (el:El) (zero:AV) (n:Nat) (parts:List (Nat × AX))
 | load (ag:Bool) (n:Nat) (x:AX)
 | store (n:Nat) (x v:AX)
 | qd (x:AX)
 | bin (op:BinOp) (x y:AX)
 | r_ (neg:Bool) (ag:Bool) (ks:List Kd) (x y:AX)
 | un (op:UnOp) (x:AX)
 | nw (k:IntKind) (x:AX)
 | QK (x:AX)
 | QL (x:AX)
 | uZ (x:AX)
 | DK (t:TypeId) (x:AX)
 | wS (f:Fn) (first cap:List AX)
 | pH (x:AX) (lo hi:Option AX)
 | tS (el:El) (x:AX) (lo hi:Option AX)
 | po (off:Nat) (x:AX)
 | field (ag:Bool) (off n:Nat) (x:AX)
 | gG (el:El) (arr:Option Nat) (x i:AX)
 | j_ (x i:AX)
 | yJ (el:El) (ln:Nat) (x i:AX)
 | ext (x:AX) (i:Nat)
 | call (q:Bool) (f:AX) (args:List AX)
 | rL (f:AX) (args:List AX)
 | len (s:Bool) (x:AX)
 | app (T:Option TypeId) (el:El) (x y:AX)
 | Bf (el:El) (x:AX)
 | wT (T:TypeId) (x n:AX)
 | Gt (x:AX)
 | Gu (u:TypeId) (x:AX)
 | Es (neg:Bool) (x y:AX)
 | DL (f:FuncId) (x:AX)
 | min (x:AX) (xs:List AX)
 | max (x:AX) (xs:List AX)
 | nS (el:El) (zero:AV) (n c:AX)
 | panic (x:AX)
 | lp (el:El)
 | hold
 | wU (T:TypeId) (x:AX)
 | lu (k:Nat) (T:Option TypeId) (cs:List AV)
 | pq (k:Nat) (T:Option TypeId) (el:El) (x y:AX)
 | Fe (x:AX)
 | Ff (x:AX)
 | qf (neg:Bool) (k:NK) (x y:AX)
 | pz (k:Nat) (el:El) (zero:AV) (n c:AX)
def eK(k:IntKind)(n:Int): Int:=k.wrap n
def mO(op:BinOp)(k:IntKind)(x y:Int): Int :=
 let a:=BitVec.ofInt k.bits x
 let b:=BitVec.ofInt k.bits y
 match op with
 | .and=>k.wrap (a &&& b).toNat
 | .or=>k.wrap (a ||| b).toNat
 | .xor=>k.wrap (a ^^^ b).toNat
 | _=>k.wrap (a &&& ~~~b).toNat
def jJ(op:BinOp)(x y:AV)(K:AV->Prop): Prop :=
 match op,x,y with
 | .shl,.int k a,.int _ b=>0<=b/\K (.int k (eK k (a*2 ^ (Nat.min b.toNat k.bits))))
 | .shr,.int k a,.int _ b=>0<=b/\K (.int k (a.fdiv (2 ^ (Nat.min b.toNat k.bits))))
 | .add,.int k a,.int k' b=>k=k'/\K (.int k (eK k (a+b)))
 | .sub,.int k a,.int k' b=>k=k'/\K (.int k (eK k (a-b)))
 | .mul,.int k a,.int k' b=>k=k'/\K (.int k (eK k (a*b)))
 | .quo,.int k a,.int k' b=>k=k'/\b≠0/\K (.int k (eK k (a.tdiv b)))
 | .rem,.int k a,.int k' b=>k=k'/\b≠0/\K (.int k (a.tmod b))
 | .and,.int k a,.int k' b=>k=k'/\K (.int k (mO .and k a b))
 | .or,.int k a,.int k' b=>k=k'/\K (.int k (mO .or k a b))
 | .xor,.int k a,.int k' b=>k=k'/\K (.int k (mO .xor k a b))
 | .andNot,.int k a,.int k' b=>k=k'/\K (.int k (mO .andNot k a b))
 | .eql,.int k a,.int k' b=>k=k'/\K (.bool (a==b))
 | .neq,.int k a,.int k' b=>k=k'/\K (.bool (!(a==b)))
 | .lss,.int k a,.int k' b=>k=k'/\K (.bool (decide (a<b)))
 | .leq,.int k a,.int k' b=>k=k'/\K (.bool (decide (a<=b)))
 | .gtr,.int k a,.int k' b=>k=k'/\K (.bool (decide (b<a)))
 | .geq,.int k a,.int k' b=>k=k'/\K (.bool (decide (b<=a)))
 | .add,.str a,.str b=>((a.length+b.length:Nat):Int)<=IntKind.i64.max/\K (.str (a++b))
 | .eql,.str a,.str b=>K (.bool (a==b))
 | .neq,.str a,.str b=>K (.bool (!(a==b)))
 | .lss,.str a,.str b=>K (.bool (Op.bytesLess a b))
 | .leq,.str a,.str b=>K (.bool (Op.bytesLess a b || a==b))
 | .gtr,.str a,.str b=>K (.bool (!(Op.bytesLess a b || a==b)))
 | .geq,.str a,.str b=>K (.bool (!Op.bytesLess a b))
 | _,_,_=>False
def BV(op:UnOp)(x:AV)(K:AV->Prop): Prop :=
 match op,x with
 | .not,.bool b=>K (.bool (!b))
 | .neg,.int k n=>K (.int k (eK k (0-n)))
 | .xor,.int k n=>K (.int k (mO .xor k (if k.signed then -1 else k.max) n))
 | _,_=>False
def bound(x:Option AV)(d:Nat)(y:Nat)(K:Nat->Prop): Prop :=
 match x with
 | none=>K d
 | some (.int _ i)=>0<=i/\i<=y/\K i.toNat
 | _=>False
def partOf(el:El)(x:AV)(off:Nat)(ag:Bool)(n:Nat)(K:AV->Prop): Prop :=
 if off=0/\n=el.sz/\ag=el.ag then K x
 else off+n<=el.sz/\match x with
  | .agg cs=>K (if ag then .agg ((cs.drop off).take n)else cs.getD off .undef)/\(ag=false->n=1)
  | _=>False
def iI(σ : ae)(ag:Bool)(n:Nat)(p:AV)(K:AV->Prop): Prop :=
 match p with
 | .ref l off => match σ[l]? with
   | some (.cg _ cs)=>off+n<=cs.length/\(ag=false->n=1)/\K (if ag then .agg ((cs.drop off).take n)else cs.getD off .undef)
   | _=>False
 | .dY el x off=>partOf el x off ag n K
 | .eJ el l m i off => match σ[l]? with
   | some (.cz T bq xs)=>bq=el/\m=xs.length/\i<xs.length/\partOf el (xs.getD i .undef) off ag n K
   | _=>False
 | _=>False
def nT(σ : ae)(n:Nat)(p v:AV)(K:ae->Prop): Prop :=
 v.cells.length=n/\v.cells.all AV.scalar=true /\
 match p with
 | .ref l off => match σ[l]? with
   | some (.cg T cs)=>off+n<=cs.length/\K (σ.set l (.cg T (eE cs off v.cells)))
   | _=>False
 | .eJ el l m i off => match σ[l]? with
   | some (.cz T bq xs) => bq = el /\ m = xs.length /\ i < xs.length /\ off + n <= el.sz /\ (el.ag = false -> v.fits el = true) /\
      K (σ.set l (.cz T el (xs.set i (if el.ag then .agg (eE (xs.getD i .undef).cells off v.cells)else v))))
   | _=>False
 | _=>False
def fP(σ : ae)(el:El)(x:AV)(K:List AV->Prop): Prop :=
 match x with
 | .au=>K []
 | .aO _ bq xs=>bq=el/\K xs
 | .own bq l m lo n => bq = el /\ match σ[l]? with
   | some (.cz T bj xs)=>bj=el/\m=xs.length/\K ((xs.drop lo).take n)
   | _=>False
 | .str s=>el=⟨false,1⟩/\K (s.map fun b=> .int .u8 b.toNat)
 | .sK bq p n=>bq=el/\el=⟨false,1⟩/\iI σ true n p fun v=>K v.cells
 | _=>False
def fR(n:Nat)(el:El): Prop:=n*(el.sz+1)<=2 ^ 40
def oY(σ : ae)(T:Option TypeId)(el:El)(x y:AV)(K:AV->ae->Prop): Prop :=
 fP σ el y fun ys=>ys.all (fun a=>a.fits el)=true /\
 match x with
 | .au=>if ys.length=0 then K .au σ else fR ys.length el/\K (.own el σ.length ys.length 0 ys.length) (σ++[.cz T el ys])
 | .aO true bq xs => bq = el /\ if ys.length = 0 then K (.aO true el xs) σ else
    fR (xs.length+ys.length) el/\K (.own el σ.length (xs.length+ys.length) 0 (xs.length+ys.length)) (σ++[.cz T el (xs++ys)])
 | .own bq l m lo n => bq = el /\ match σ[l]? with
   | some (.cz T' bj xs) => (T' = none \/ T' = T) /\ bj = el /\ m = xs.length /\ lo = 0 /\ n = xs.length /\ fR (xs.length + ys.length) el /\
      K (.own el l (xs.length+ys.length) 0 (xs.length+ys.length)) (σ.set l (.cz T' el (xs++ys)))
   | _=>False
 | _=>False
def BW(op:Bool)(x y:AV)(K:AV->Prop): Prop :=
 match x,y with
 | .int k a,.int _ b=>K (.int k (if op then(if b<a then b else a)else (if b>a then b else a)))
 | _,_=>False
def rE(op:Bool)(x:AV): List AV->(AV->Prop)->Prop
 | [],K=>K x
 | y::ys,K=>BW op x y fun z=>rE op z ys K
def mu(zero:List AV)(e:Env): List (Nat × Nat × AX)->(List AV->Prop)->Prop
 | [],K=>K zero
 |(off,n,x)::r,K=>(x.ev e).cells.length=n/\(x.ev e).cells.all AV.scalar=true/\off+n<=zero.length/\mu (eE zero off (x.ev e).cells) e r K
def lz(el:El)(xs:List AV)(e:Env): List (Nat × AX)->(List AV->Prop)->Prop
 | [],K=>K xs
 |(i,x)::r,K=>(x.ev e).fits el=true/\i<xs.length/\lz el (xs.set i (x.ev e)) e r K
def R4(el:El): AV->Bool
 | .au=>true
 | .aO true bq xs=>bq==el && xs.isEmpty
 | _=>false
def R5(el:El): AV->Option (List AV)
 | .au=>some []
 | .aO _ bq xs=>if bq=el then some xs else none
 | _=>none
def MD: AV->AV->Option Bool
 | .str a,.str b=>some (a==b)
 | .int k a,.int k' b=>if k=k' then some (a==b)else none
 | _,_=>none
def nU(k:AV): List (AV × AV)->Nat->Option (Option (Nat × AV))
 | [],_=>some none
 | (q, v) :: r, i => match MD k q with
   | some true=>some (some (i,v))
   | some false=>nU k r (i+1)
   | none=>none
def MN(k v:AV)(es:List (AV × AV)): Option (List (AV × AV)):=match nU k es 0 with
 | some (some (i,_))=>some (es.set i (k,v))
 | some none=>some (es++[(k,v)])
 | none=>none
def AV.sN: Option IntKind->AV->Bool
 | none,.str _=>true
 | some k,.int k' _=>k==k'
 | _,_=>false
def MO(P:Program)(t:TypeId)(name:String): Option FuncId:=match P.info? t,P.underlying t with
 | some i, some (.pointer _) => match i.methods.find? (·.name == name) with
   | some m => match m.func with
     | some (f,true)=>if m.path.isEmpty then some f else none
     | _=>none
   | none=>none
 | _,_=>none
def oK(lo:Option AV)(hi mx:AV)(cap:Nat)(K:Nat->Nat->Nat->Prop): Prop :=
 bound (some mx) 0 cap fun m=>bound (some hi) 0 m fun h=>bound lo 0 h fun l=>K l h m
def yK(σ : ae)(el:El)(x:AV)(lo:Option AV)(hi mx:AV)(K:AV->ae->Prop): Prop :=
 match x with
 | .au=>oK lo hi mx 0 fun _ _ _=>K .au σ
 | .aO _ bq xs=>bq=el/\oK lo hi mx xs.length fun l h m=>K (.aO (h==m) el ((xs.drop l).take (h-l))) σ
 | .own bq l0 m0 o n => bq = el /\ match σ[l0]? with
   | some (.cz _ bj xs) => bj = el /\ m0 = xs.length /\ o + n <= m0 /\ oK lo hi mx n fun l h m =>
      if m=l then K (.aO true el []) σ else h=m/\K (.aO true el ((xs.drop (o+l)).take (h-l))) (σ.set l0 .dead)
   | _=>False
 | _=>False
def uK(el:El)(x:AV)(lo:Option AV)(hi mx:AV)(K:AV->Prop): Prop :=
 match x with
 | .au=>oK lo hi mx 0 fun _ _ _=>K .au
 | .aO _ bq xs=>bq=el/\oK lo hi mx xs.length fun l h m=>K (.aO (h==m) el ((xs.drop l).take (h-l)))
 | .own bq _ _ _ _=>bq=el/\oK lo hi mx 0 fun _ _ _=>K (.aO true el [])
 | _=>False
def BX(σ : ae)(el:El)(x:AV)(ys:List AV)(K:AV->ae->Prop): Prop :=
 match x with
 | .au=>K (.int .i64 0) σ
 | .aO _ bq []=>bq=el/\K (.int .i64 0) σ
 | .sK bq p n=>bq=el/\el=⟨false,1⟩/\nT σ (min ys.length n) p (.agg (ys.take n)) fun σ'=>K (.int .i64 (min ys.length n:Nat)) σ'
 | .own bq l m o n => bq = el /\ match σ[l]? with
   | some (.cz T bj xs)=>bj=el/\m=xs.length/\o+n<=m/\K (.int .i64 (min ys.length n:Nat)) (σ.set l (.cz T el (eE xs o (ys.take n))))
   | _=>False
 | _=>False
def Gv(σ : ae)(el:El)(x y:AV)(K:AV->ae->Prop): Prop :=
 fP σ el y fun ys=>ys.all (fun a=>a.fits el)=true/\BX σ el x ys K
def Fg(σ : ae)(el:El)(x y:AV)(K:AV->ae->Prop): Prop :=
 match x with
 | .own bq l m (lo + 1) n => bq = el /\ fP σ el y fun ys => ys.all (fun a => a.fits el) = true /\ match σ[l]? with
   | some (.cz _ bj xs) => bj = el /\ m = xs.length /\ lo + 1 + n = m /\ fR (n + ys.length) el /\
      K (.own el σ.length (n+ys.length) 0 (n+ys.length)) (σ.set l .dead++[.vec el (xs.drop (lo+1)++ys)])
   | _=>False
 | x=>oY σ none el x y K
def DM(σ : ae)(el:El)(x y:AV)(K:AV->Prop): Prop :=
 fP σ el y fun ys=>ys.all (fun a=>a.fits el)=true/\ys.length≠0/\match x with
  | .au=>fR ys.length el/\K (.aO false el ys)
  | .aO true bq xs=>bq=el/\fR (xs.length+ys.length) el/\K (.aO false el (xs++ys))
  | _=>False
def zS(el:El)(n:Nat)(p:AV)(lo hi:Option AV)(K:AV->Prop): Prop :=
 p.ptr=true/\bound hi n n fun h=>bound lo 0 h fun l=>K (if h=l then .aO false el []else .sK el (p.adv (l*el.sz)) (h-l))
def wc(σ : ae)(x:AV)(K:Bool->Prop): Prop:=match x with
 | .au=>K true
 | .aO _ _ (_::_)=>K false
 | .sK ..=>K false
 | .own _ l m _ n => match σ[l]? with
   | some (.cz _ _ xs)=>m=xs.length/\0<n/\K false
   | _=>False
 | _=>False
def Gw(σ σ2:ae): List (Bool × Nat)->List AV->Prop
 | [],_=>True
 |(ag,n)::r,p::ps=>(∃ v,iI σ ag n p (fun u=>u=v)/\iI σ2 ag n p (fun u=>u=v))/\Gw σ σ2 r ps
 | _::_,[]=>False
def zT(T:TypeId)(ok:Bool)(z x:AV)(K:AV->Prop): Prop:=match x with
 | .kP t v=>if t=T then K (if ok then .bU [v,.bool true]else v)else ok=true/\K (.bU [z,.bool false])
 | .jn=>ok=true/\K (.bU [z,.bool false])
 | _=>False
def zU(σ : ae)(n:Nat)(x:AV)(K:AV->ae->Prop): Prop:=match x with
 | .aO _ bq xs=>bq=⟨false,1⟩/\0<n/\n<=xs.length/\K (.dY ⟨true,n⟩ (.agg (xs.take n)) 0) σ
 | .own bq l m o k => bq = ⟨false, 1⟩ /\ match σ[l]? with
   | some (.cz _ bj xs)=>bj=⟨false,1⟩/\m=xs.length/\o+k<=m/\0<n/\n<=k/\K (.dY ⟨true,n⟩ (.agg ((xs.drop o).take n)) 0) (σ.set l .dead)
   | _=>False
 | _=>False
def wg(σ : ae)(kd:Option IntKind)(zero x k:AV)(K:AV->ae->Prop): Prop:=match x with
 | .mp l => k.sN kd = true /\ match σ[l]? with
   | some (.map es) => match nU k es 0 with
     | some (some (i,v))=>K (.bU [v,.int .i64 i]) σ
     | some none=>K (.bU [zero,.int .i64 es.length]) (σ.set l (.map (es++[(k,zero)])))
     | none=>False
   | _=>False
 | _=>False
def uL(σ : ae)(x s v:AV)(K:ae->Prop): Prop:=match x,s with
 | .mp l, .int .i64 z => match σ[l]? with
   | some (.map es)=>0<=z/\z.toNat<es.length/\K (σ.set l (.map (es.set z.toNat ((es.getD z.toNat default).1,v))))
   | _=>False
 | _,_=>False
def zV(σ : ae)(el:El)(zero x:AV)(K:ae->Prop): Prop:=match x with
 | .au=>K σ
 | .aO _ _ []=>K σ
 | .own bq l m o n => bq = el /\ zero.fits el = true /\ match σ[l]? with
   | some (.cz T bj xs)=>bj=el/\m=xs.length/\o+n<=m/\K (σ.set l (.cz T el (eE xs o (List.replicate n zero))))
   | _=>False
 | _=>False
def zW(σ : ae)(x:AV)(K:AV->ae->Prop): Prop:=match x with
 | .au=>K .au σ
 | .aO f el xs=>K (.aO f el xs) σ
 | .own el l m lo n => match σ[l]? with
   | some (.cz _ bq xs)=>bq=el/\m=xs.length/\lo+n<=m/\K (.aO false el ((xs.drop lo).take n)) (σ.set l .dead)
   | _=>False
 | _=>False
def pcK(K Kp:AV->Prop): Out->Prop
 | .ret r=>K r
 | .panic v=>Kp v
def fM.run(P:Program)(o:fM)(vs:List AV)(σ : ae)(K Kp:AV->ae->Prop): Prop :=
 match o,vs with
 | .Zl el false,[x,hi,mx]=>yK σ el x none hi mx K
 | .Zl el true,[x,lo,hi,mx]=>yK σ el x (some lo) hi mx K
 | .Gr,[]=>K (.mp σ.length) (σ++[.map []])
 | .Fa kd ok zero,[.lG,k]=>k.sN kd=true/\K (if ok then .bU [zero,.bool false]else zero) σ
 | .Fa kd ok zero, [.mp l, k] => k.sN kd = true /\ match σ[l]? with
   | some (.map es) => match nU k es 0 with
     | some (some (_,v))=>K (if ok then .bU [v,.bool true]else v) σ
     | some none=>K (if ok then .bU [zero,.bool false]else zero) σ
     | none=>False
   | _=>False
 | .Gs kd, [.mp l, k, v] => k.sN kd = true /\ match σ[l]? with
   | some (.map es) => match MN k v es with
     | some es'=>K (.bU []) (σ.set l (.map es'))
     | none=>False
   | _=>False
 | .Fb,[.lG]=>K (.int .i64 0) σ
 | .Fb, [.mp l] => match σ[l]? with
   | some (.map es)=>K (.int .i64 es.length) σ
   | _=>False
 | .J7 el n false false,[p]=>zS el n p none none fun v=>K v σ
 | .J7 el n true false,[p,a]=>zS el n p (some a) none fun v=>K v σ
 | .J7 el n false true,[p,b]=>zS el n p none (some b) fun v=>K v σ
 | .J7 el n true true,[p,a,b]=>zS el n p (some a) (some b) fun v=>K v σ
 | .copy el,[x,y]=>Gv σ el x y K
 | .Zm el,[x,y]=>Fg σ el x y K
 | .IQ el,[x,y]=>DM σ el x y fun v=>K v σ
 | .Fc neg,[x]=>wc σ x fun r=>K (.bool (if neg then !r else r)) σ
 | .cw n k BU,x::vs=> ∃ r σ2,cR P n ((x::vs).take k) σ (fun o σ'=>o = .ret r/\σ' = σ2)/\Gw σ σ2 BU ((x::vs).drop k)/\K r σ2
 | .IP el false,[x,hi,mx]=>uK el x none hi mx fun v=>K v σ
 | .IP el true,[x,lo,hi,mx]=>uK el x (some lo) hi mx fun v=>K v σ
 | .inv name, .kP t v :: r => match MO P t name with
   | some f => cR P f (v :: r) σ fun
     | .ret r,σ'=>K r σ'
     | .panic r,σ'=>Kp r σ'
   | none=>False
 | .Uj T ok z,[x]=>zT T ok z x fun v=>K v σ
 | .s2a n,[x]=>zU σ n x K
 | .Xo kd z,[x,k]=>wg σ kd z x k K
 | .R0,[x,s,v]=>uL σ x s v fun σ'=>K (.bU []) σ'
 | .clr el z,[x]=>zV σ el z x fun σ'=>K (.bU []) σ'
 | .pc n,vs=> ∃ o,(∀ s,cR P n vs s fun o' s'=>o'=o/\s'=s)/\pcK (fun r=>K r σ) (fun v=> ∀ s,Kp v s) o
 | .Uk,[x]=>zW σ x K
 | _,_=>False
def br.run(P:Program)(o:br)(e:Env)(σ : ae)(K:AV->ae->Prop)(Kp:AV->ae->Prop): Prop :=
 match o with
 | .ex o xs=>o.run P (xs.map (AX.ev e)) σ K Kp
 | .mv x=>K (x.ev e) σ
 | .pick c a b => match c.ev e with
   | .bool t=>K (if t then a.ev e else b.ev e) σ
   | _=>False
 | .alloc T cs=>K (.ref σ.length 0) (σ++[.cg T cs])
 | .box x=>(x.ev e).cells.all AV.scalar=true/\K (.ref σ.length 0) (σ++[.cells (x.ev e).cells])
 | .build zero parts=>mu zero e parts fun cs=>K (.agg cs) σ
 | .jI mt el zero n parts => lz el (List.replicate n zero) e parts fun xs =>
    if mt then K (.own el σ.length n 0 n) (σ++[.vec el xs])else K (.aO true el xs) σ
 | .load ag n x=>iI σ ag n (x.ev e) fun v=>K v σ
 | .store n x v=>nT σ n (x.ev e) (v.ev e) fun σ'=>K (.bU []) σ'
 | .qd x => match x.ev e with
   | .ref .. | .dY .. | .eJ .. | .kP .. | .fn (.func _) _ _ | .qS _=>K (x.ev e) σ
   | _=>False
 | .bin op x y=>jJ op (x.ev e) (y.ev e) fun v=>K v σ
 | .r_ neg ag ks x y => match (if ag then (match x.ev e, y.ev e with | .agg az, .agg bs => iH ks az bs | _, _ => none) else iH ks [x.ev e] [y.ev e]) with
   | some b=>K (.bool (if neg then !b else b)) σ
   | none=>False
 | .un op x=>BV op (x.ev e) fun v=>K v σ
 | .nw k x => match x.ev e with
   | .int _ n=>K (.int k (eK k n)) σ
   | _=>False
 | .QK x => match x.ev e with
   | .str s=>K (.str s) σ
   | _=>False
 | .QL x => match x.ev e with
   | .str s=>s.length<=2 ^ 40/\K (.own ⟨false,1⟩ σ.length s.length 0 s.length) (σ++[.vec ⟨false,1⟩ (s.map fun b=> .int .u8 b.toNat)])
   | _=>False
 | .uZ x=>(match x.ev e with | .str _=>False|_=>True)/\fP σ ⟨false,1⟩ (x.ev e) fun xs=> ∃ s:List UInt8,xs=s.map (fun b=>AV.int .u8 b.toNat)/\K (.str s) σ
 | .DK t x=>K (.kP t (x.ev e)) σ
 | .wS f first cap=>K (.fn f (first.map (AX.ev e)) (cap.map (AX.ev e))) σ
 | .pH x lo hi => match x.ev e with
   | .str s=>bound (hi.map (AX.ev e)) s.length s.length fun h=>bound (lo.map (AX.ev e)) 0 h fun l=>K (.str ((s.drop l).take (h-l))) σ
   | _=>False
 | .tS el x lo hi => match x.ev e with
   | .au=>bound (hi.map (AX.ev e)) 0 0 fun h=>bound (lo.map (AX.ev e)) 0 h fun _=>K .au σ
   | .aO _ bq xs=>bq=el/\bound (hi.map (AX.ev e)) xs.length xs.length fun h=>bound (lo.map (AX.ev e)) 0 h fun l=>K (.aO false el ((xs.drop l).take (h-l))) σ
   | .own bq l m o n => bq = el /\ match σ[l]? with
     | some (.cz T bj xs)=>bj=el/\m=xs.length/\o+n<=m/\bound (hi.map (AX.ev e)) n n fun h=>bound (lo.map (AX.ev e)) 0 h fun k=>K (.own el l m (o+k) (h-k)) σ
     | _=>False
   | _=>False
 | .po off x => match x.ev e with
   | .ref l o=>K (.ref l (o+off)) σ
   | .dY el y o=>K (.dY el y (o+off)) σ
   | .eJ el l m i o=>K (.eJ el l m i (o+off)) σ
   | _=>False
 | .field ag off n x => match x.ev e with
   | .agg cs=>off+n<=cs.length/\(ag=false->n=1)/\K (if ag then .agg ((cs.drop off).take n)else cs.getD off .undef) σ
   | _=>False
 | .gG el arr x i => match i.ev e with
   | .int _ k => match arr, x.ev e with
     | none,.aO _ bq xs=>bq=el/\0<=k/\k<xs.length/\K (.dY el (xs.getD k.toNat .undef) 0) σ
     | none, .own bq l m o n => bq = el /\ 0 <= k /\ k < n /\ match σ[l]? with
       | some (.cz T bj xs)=>bj=el/\m=xs.length/\K (.eJ el l m (o+k.toNat) 0) σ
       | _=>False
     | some n,.ref l o=>0<=k/\k<n/\K (.ref l (o+k.toNat*el.sz)) σ
     | some n,.dY bq y o=>0<=k/\k<n/\K (.dY bq y (o+k.toNat*el.sz)) σ
     | some n,.eJ bq l m j o=>0<=k/\k<n/\K (.eJ bq l m j (o+k.toNat*el.sz)) σ
     | _,_=>False
   | _=>False
 | .j_ x i => match x.ev e, i.ev e with
   | .str s,.int _ k=>0<=k/\k<s.length/\K (.int .u8 (s.getD k.toNat 0).toNat) σ
   | _,_=>False
 | .yJ el ln x i => match x.ev e, i.ev e with
   | .agg cs, .int _ k => 0 <= k /\ k < ln /\ (k.toNat * el.sz + el.sz <= cs.length) /\ (el.ag = false -> el.sz = 1) /\
      K (if el.ag then .agg ((cs.drop (k.toNat*el.sz)).take el.sz)else cs.getD (k.toNat*el.sz) .undef) σ
   | _,_=>False
 | .ext x i => match x.ev e with
   | .bU vs=>i<vs.length/\K (vs.getD i .undef) σ
   | _=>False
 | .call q f args => match f.ev e with
   | .fn (.func n) first cap =>
     if q then ∃ r,(∀ τ,xU P n (first++args.map (AX.ev e)++cap) (σ++ τ) r)/\K r σ
     else cR P n (first++args.map (AX.ev e)++cap) σ fun
      | .ret r,σ'=>K r σ'
      | .panic r,σ'=>Kp r σ'
   | .qS l => if q then False else sM P l (args.map (AX.ev e)) σ fun
      | .ret r,σ'=>K r σ'
      | .panic r,σ'=>Kp r σ'
   | _=>False
 | .rL f args => match f.ev e with
   | .fn (.func n) [] []=>DJ P n (args.map (AX.ev e)) σ K
   | _=>False
 | .len s x => match s, x.ev e with
   | true,.str s=>K (.int .i64 s.length) σ
   | false,.au=>K (.int .i64 0) σ
   | false,.aO _ _ xs=>K (.int .i64 xs.length) σ
   | false,.own _ _ _ _ n=>K (.int .i64 n) σ
   | _,_=>False
 | .app T el x y=>oY σ T el (x.ev e) (y.ev e) K
 | .Bf el x => match x.ev e with
   | .au=>K .iX σ
   | .own bq l m lo n => bq = el /\ match σ[l]? with
     | some (.cz _ bj xs)=>bj=el/\m=xs.length/\0<n/\K (.eJ el l m lo 0) σ
     | _=>False
   | _=>False
 | .wT T x n => match x.ev e, n.ev e with
   | .iX,.int .i64 k=>k=0/\K (.str []) σ
   | .eJ el l m lo off, .int .i64 k => lo = 0 /\ off = 0 /\ el = ⟨false, 1⟩ /\ match σ[l]? with
     | some (.cz T' _ xs)=>T'=some T/\m=xs.length/\0<k/\k<=xs.length/\xs.length<=2 ^ 62/\ ∃ s:List UInt8,xs.take k.toNat=s.map (fun b=>AV.int .u8 b.toNat)/\K (.str s) (σ.set l .dead)
     | _=>False
   | _,_=>False
 | .Gt x => match x.ev e with
   | .ref l off => match σ[l]? with
     | some (.cg _ cs)=>off<cs.length/\K (.ref l off) σ
     | _=>False
   | _=>False
 | .Gu u x => match x.ev e with
   | .ref l off => match σ[l]? with
     | some (.cg (some T) cs)=>liesAt P P.depth T (cs.length / P.cellsOf T) off u 1=true/\K (.ref l off) σ
     | _=>False
   | _=>False
 | .Es neg x y => match x.ev e, y.ev e with
   | .ref l o, .ref l' o' => l = l' /\ o = o' /\ match σ[l]? with
     | some (.cg _ _)=>K (.bool neg.not) σ
     | _=>False
   | _,_=>False
 | .DL f x => (∃ fn, P.funcs[f]? = some fn ∧ (fn.name == "runtime.NumGoroutine") = false ∧ fn.body.isNone = true ∧ Extern.findNext fn = none ∧ Extern.find fn = some Extern.AbiNoEscape.same) ∧ K (x.ev e) σ
 | .min x xs=>rE true (x.ev e) (xs.map (AX.ev e)) fun v=>K v σ
 | .max x xs=>rE false (x.ev e) (xs.map (AX.ev e)) fun v=>K v σ
 | .nS el zero n c => match n.ev e, c.ev e with
   | .int .i64 k,.int .i64 m=>zero.fits el=true/\0<=k/\k<=m/\m*(el.sz+1)<=2 ^ 40/\K (.own el σ.length k.toNat 0 k.toNat) (σ++[.vec el (List.replicate k.toNat zero)])
   | _,_=>False
 | .panic x => match x.ev e with
   | .kP t v=>Kp (.kP t v) σ
   | _=>False
 | .lp el=>K (.own el σ.length 0 0 0) (σ++[.vec el []])
 | .hold=>K (.ref σ.length 0) (σ++[.resv])
 | .wU T x=>(x.ev e).cells.all AV.scalar=true/\K (.ref σ.length 0) (σ++[.cg (some T) (x.ev e).cells])
 | .lu k T cs => match e k with
   | .ref n 0 => match σ[n]? with
     | some .resv=>K (.ref n 0) (σ.set n (.cg T cs))
     | _=>False
   | _=>False
 | .pq k T el x y => match e k with
   | .ref n 0 => match σ[n]? with
     | some .resv => match R5 el (y.ev e) with
       | some ys=>R4 el (x.ev e)=true/\ys.all (fun a=>a.fits el)=true/\fR ys.length el/\K (.own el n ys.length 0 ys.length) (σ.set n (.cz T el ys))
       | none=>False
     | _=>False
   | _=>False
 | .pz k el zero n c => match e k with
   | .ref l 0 => match σ[l]? with
     | some .resv => match n.ev e, c.ev e with
       | .int .i64 i,.int .i64 m=>zero.fits el=true/\0<i/\i<=m/\m*(el.sz+1)<=2 ^ 40/\K (.own el l i.toNat 0 i.toNat) (σ.set l (.vec el (List.replicate i.toNat zero)))
       | _,_=>False
     | _=>False
   | _=>False
 | .Fe x => match x.ev e with
   | .str s=>K (.ref σ.length 0) (σ++[.jc s 0])
   | _=>False
 | .Ff x => match x.ev e with
   | .ref l 0 => match σ[l]? with
     | some (.jc s pos) =>
       if pos<s.length then K (.bU [.bool true,.int .i64 pos,.int .i32 (Utf8.decode ⟨s.toArray⟩ pos).1]) (σ.set l (.jc s (pos+(Utf8.decode ⟨s.toArray⟩ pos).2)))
       else K (.bU [.bool false]) σ
     | _=>False
   | _=>False
 | .qf neg k x y => match om k (x.ev e) (y.ev e) with
   | some b=>K (.bool (if neg then !b else b)) σ
   | none=>False
