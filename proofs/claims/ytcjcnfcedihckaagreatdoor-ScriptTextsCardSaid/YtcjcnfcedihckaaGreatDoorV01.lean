/- Part. -/
import Derived.Test.YtcjcnfcedihckaaGreatDoorV00
import Derived.RangeFuncIn
import Derived.RangeFuncLeaves
import Derived.RangeFuncRecord
import Derived.OrdersIn
set_option linter.all false
namespace Go.AM
inductive Out where
 | ret (a:AV)
 | panic (a:AV)
def QC(g:aM)(w:World): Out->Ending->Prop
 | .ret a,.returned v=>VR g w a v
 | .panic a,.panicked chain=> ∃ v,chain=[{ v,recovered:=false }]/\VR g w a v
 | _,_=>False
def Has (P : Program) (f : FuncId) : Prop := ∃ fn, P.funcs[f]? = some fn ∧ fn.body.isSome = true ∧ (fn.name == "runtime.NumGoroutine") = false
def dK(P:Program)(f:FuncId)(args:List AV)(σ : ae)(R:Out->ae->Prop): Prop :=
 Has P f/\ ∀(g:aM) (w:World) (vs:Array Value),Rel g w σ->args.length=vs.size->(∀ i,i<args.length->VR g w (args.getD i .undef) (vs.getD i Go.undef)) ->
  Calls P f vs w fun e w'=> ∃ out g' σ',Rel g' w' σ'/\ik σ g w σ' g' w'/\QC g' w' out e/\R out σ'
def dK.mono{P:Program}{f:FuncId}{args:List AV}{σ : ae}{R R':Out->ae->Prop}(h:dK P f args σ R)(hr:∀ o σ',R o σ'->R' o σ'): dK P f args σ R' :=
 ⟨h.1,fun g w vs h1 h2 h3=>(h.2 g w vs h1 h2 h3).mono fun _ _ ⟨out,g',σ',a,b,c,d⟩=>⟨out,g',σ',a,b,c,hr _ _ d⟩⟩
def tE(P:Program)(l:Nat)(args:List AV)(σ : ae)(R:Out->ae->Prop): Prop :=
 (∃ nt e ps ca cb st pe, σ[l]? = some (.loop nt e ps ca cb st pe)) /\ ∀ (g : aM) (w : World) (vs : Array Value) (b : Nat), Rel g w σ -> g.base l = some b -> args.length = vs.size -> (∀ i, i < args.length -> VR g w (args.getD i .undef) (vs.getD i Go.undef)) ->
   ∃ fn tmps assign body,(Instr.yield b vs).run P w = .ok (.round b fn tmps assign body) w/\RoundIn Fence.wide 0 P b fn tmps assign body w fun en w'=> ∃ out g' σ',Rel g' w' σ'/\ik σ g w σ' g' w'/\QC g' w' out en/\R out σ'
def tE.mono{P:Program}{l:Nat}{args:List AV}{σ : ae}{R R':Out->ae->Prop}(h:tE P l args σ R)(hr:∀ o σ',R o σ'->R' o σ'): tE P l args σ R':=by
 refine⟨h.1,fun g w vs b h1 h2 h3 h4=>?_⟩;obtain⟨fn,tmps,ca,cb,r1,r2⟩:=h.2 g w vs b h1 h2 h3 h4;exact⟨fn,tmps,ca,cb,r1,r2.mono fun _ _ ⟨out,g',σ',a,b,c,d⟩=>⟨out,g',σ',a,b,c,hr _ _ d⟩⟩
def wB(P:Program)(f:FuncId)(args:List AV)(σ : ae)(r:AV): Prop:=dK P f args σ fun o σ'=>o = .ret r/\σ' = σ
abbrev Env:=Nat->AV
inductive AX where
 | t (n:Nat)
 | c (a:AV)
def AX.ev(e:Env): AX->AV
 | .t n=>e n
 | .c a=>a
def eC(e:Env)(d:Option Nat)(a:AV): Env :=
 match d with
 | some d=>fun n=>if n=d then a else e n
 | none=>e
def eK: List AV->Nat->List AV->List AV
 | cs,_,[]=>cs
 | cs,i,a::az=>eK (cs.set i a) (i+1) az
inductive Kd where
 | b|i|s
deriving DecidableEq
def LJ: Kd->AV->AV->Option Bool
 | .b,.bool a,.bool b=>some (a==b)
 | .i,.int k a,.int k' b=>if k=k' then some (a==b)else none
 | .s,.str a,.str b=>some (a==b)
 | _,_,_=>none
def h_: List Kd->List AV->List AV->Option Bool
 | [],[],[]=>some true
 | k :: ks, a :: az, b :: bs => match LJ k a b, h_ ks az bs with
   | some x,some y=>some (x && y)
   | _,_=>none
 | _,_,_=>none
inductive NK where
 | p|i|f|m
deriving DecidableEq
def pN: NK->AV->Option Bool
 | .p,.iE=>some true
 | .p,.ref .. | .p,.eA .. | .p,.eG ..=>some false
 | .i,.ja=>some true
 | .i,.j6 ..=>some false
 | .f,.qo=>some true
 | .f,.fn ..=>some false
 | .m,.mg=>some true
 | .m,.mp ..=>some false
 | _,_=>none
def nh(k:NK)(x y:AV): Option Bool :=
 match pN k x,pN k y with
 | some true,some b=>some b
 | some false,some true=>some false
 | _,_=>none
def AV.obj: AV->Option Nat
 | .ref l _=>some l
 | .eG _ l _ _ _=>some l
 | .own _ l _ _ _=>some l
 | .vg _ (.ref l _) _=>some l
 | .vg _ (.eG _ l _ _ _) _=>some l
 | .mp l=>some l
 | _=>none
def AV.adv(d:Nat): AV->AV
 | .ref l o=> .ref l (o+d)
 | .eA el y o=> .eA el y (o+d)
 | .eG el l m i o=> .eG el l m i (o+d)
 | x=>x
def AV.ptr: AV->Bool
 | .ref .. | .eA .. | .eG ..=>true
 | _=>false
def bx.like: bx->bx->Prop
 | .cy T el xs,o=> ∃ ys,o = .cy T el ys/\ys.length=xs.length
 | _,_=>True
def CL(P:Program)(n:FuncId)(args:List AV)(σ : ae)(K:AV->ae->Prop): Prop:=match args with
 | a::_=> ∃ l ob lI r,a.obj=some l/\σ[l]? = some ob/\ob.like lI/\dK P n args σ (fun o σ'=>o = .ret r/\σ' = σ.set l lI)/\K r (σ.set l lI)
 | []=>False
inductive fI where
 | YD (el:El) (lo:Bool)
 | Ly
 | HU (kd:Option IntKind) (ok:Bool) (zero:AV)
 | Sr (kd:Option IntKind)
 | HV
 | LK (el:El) (n:Nat) (lo hi:Bool)
 | copy (el:El)
 | inv (name:String)
 | apx (el:El)
 | LL (el:El) (lo:Bool)
 | LM (el:El)
 | cw (n:FuncId) (k:Nat) (AO:List (Bool × Nat))
 | LN (neg:Bool)
 | Ss (T:TypeId) (ok:Bool) (zero:AV)
 | s2a (n:Nat)
 | YE (kd:Option IntKind) (zero:AV)
 | YF
 | clr (el:El) (zero:AV)
 | pc (n:FuncId)
 | WA
inductive br where
 | ex (o:fI) (xs:List AX)
 | mv (x:AX)
 | pick (c a b:AX)
 | alloc (T:Option TypeId) (cs:List AV)
 | box (x:AX)
 | build (zero:List AV) (parts:List (Nat × Nat × AX))
 | iG (mt:Bool) (el:El) (zero:AV) (n:Nat) (parts:List (Nat × AX))
 | load (ag:Bool) (n:Nat) (x:AX)
 | store (n:Nat) (x v:AX)
 | kI (x:AX)
 | bin (op:BinOp) (x y:AX)
 | oa (neg:Bool) (ag:Bool) (ks:List Kd) (x y:AX)
 | un (op:UnOp) (x:AX)
 | ld (k:IntKind) (x:AX)
 | Pt (x:AX)
 | St (x:AX)
 | sj (x:AX)
 | CM (t:TypeId) (x:AX)
 | vp (f:Fn) (first cap:List AX)
 | lf (x:AX) (lo hi:Option AX)
 | tF (el:El) (x:AX) (lo hi:Option AX)
 | gQ (off:Nat) (x:AX)
 | field (ag:Bool) (off n:Nat) (x:AX)
 | eH (el:El) (arr:Option Nat) (x i:AX)
 | fU (x i:AX)
 | xe (el:El) (ln:Nat) (x i:AX)
 | ext (x:AX) (i:Nat)
 | call (q:Bool) (f:AX) (args:List AX)
 | mJ (f:AX) (args:List AX)
 | len (s:Bool) (x:AX)
 | app (T:Option TypeId) (el:El) (x y:AX)
 | zZ (el:El) (x:AX)
 | vq (T:TypeId) (x n:AX)
 | FE (x:AX)
 | FF (u:TypeId) (x:AX)
 | Dl (neg:Bool) (x y:AX)
 | CN (f:FuncId) (x:AX)
 | min (x:AX) (xs:List AX)
 | max (x:AX) (xs:List AX)
 | mK (el:El) (zero:AV) (n c:AX)
 | panic (x:AX)
 | jI (el:El)
 | hold
 | vt (T:TypeId) (x:AX)
 | kW (k:Nat) (T:Option TypeId) (cs:List AV)
 | oS (k:Nat) (T:Option TypeId) (el:El) (x y:AX)
 | D3 (x:AX)
 | D4 (x:AX)
 | oT (neg:Bool) (k:NK) (x y:AX)
 | oU (k:Nat) (el:El) (zero:AV) (n c:AX)
def eS(k:IntKind)(n:Int): Int:=k.wrap n
def lT(op:BinOp)(k:IntKind)(x y:Int): Int :=
 let a:=BitVec.ofInt k.bits x
 let b:=BitVec.ofInt k.bits y
 match op with
 | .and=>k.wrap (a &&& b).toNat
 | .or=>k.wrap (a ||| b).toNat
 | .xor=>k.wrap (a ^^^ b).toNat
 | _=>k.wrap (a &&& ~~~b).toNat
def jn(op:BinOp)(x y:AV)(K:AV->Prop): Prop :=
 match op,x,y with
 | .shl,.int k a,.int _ b=>0<=b/\K (.int k (eS k (a*2 ^ (Nat.min b.toNat k.bits))))
 | .shr,.int k a,.int _ b=>0<=b/\K (.int k (a.fdiv (2 ^ (Nat.min b.toNat k.bits))))
 | .add,.int k a,.int k' b=>k=k'/\K (.int k (eS k (a+b)))
 | .sub,.int k a,.int k' b=>k=k'/\K (.int k (eS k (a-b)))
 | .mul,.int k a,.int k' b=>k=k'/\K (.int k (eS k (a*b)))
 | .quo,.int k a,.int k' b=>k=k'/\b≠0/\K (.int k (eS k (a.tdiv b)))
 | .rem,.int k a,.int k' b=>k=k'/\b≠0/\K (.int k (a.tmod b))
 | .and,.int k a,.int k' b=>k=k'/\K (.int k (lT .and k a b))
 | .or,.int k a,.int k' b=>k=k'/\K (.int k (lT .or k a b))
 | .xor,.int k a,.int k' b=>k=k'/\K (.int k (lT .xor k a b))
 | .andNot,.int k a,.int k' b=>k=k'/\K (.int k (lT .andNot k a b))
 | .eql,.int k a,.int k' b=>k=k'/\K (.bool (a==b))
 | .neq,.int k a,.int k' b=>k=k'/\K (.bool (!(a==b)))
 | .lss,.int k a,.int k' b=>k=k'/\K (.bool (decide (a<b)))
 | .leq,.int k a,.int k' b=>k=k'/\K (.bool (decide (a<=b)))
 | .gtr,.int k a,.int k' b=>k=k'/\K (.bool (decide (b<a)))
 | .geq,.int k a,.int k' b=>k=k'/\K (.bool (decide (b<=a)))
 | .add,.str a,.str b=>((a.length+b.length:Nat):Int)<=IntKind.i64.max/\K (.str (a++b))
 | .eql,.str a,.str b=>K (.bool (a==b))
 | .neq,.str a,.str b=>K (.bool (!(a==b)))
 | .lss,.str a,.str b=>K (.bool (Op.bytesLess a b))
 | .leq,.str a,.str b=>K (.bool (Op.bytesLess a b || a==b))
 | .gtr,.str a,.str b=>K (.bool (!(Op.bytesLess a b || a==b)))
 | .geq,.str a,.str b=>K (.bool (!Op.bytesLess a b))
 | _,_,_=>False
def AP(op:UnOp)(x:AV)(K:AV->Prop): Prop :=
 match op,x with
 | .not,.bool b=>K (.bool (!b))
 | .neg,.int k n=>K (.int k (eS k (0-n)))
 | .xor,.int k n=>K (.int k (lT .xor k (if k.signed then -1 else k.max) n))
 | _,_=>False
def bound(x:Option AV)(d:Nat)(y:Nat)(K:Nat->Prop): Prop :=
 match x with
 | none=>K d
 | some (.int _ i)=>0<=i/\i<=y/\K i.toNat
 | _=>False
def partOf(el:El)(x:AV)(off:Nat)(ag:Bool)(n:Nat)(K:AV->Prop): Prop :=
 if off=0/\n=el.sz/\ag=el.ag then K x
 else off+n<=el.sz/\match x with
  | .agg cs=>K (if ag then .agg ((cs.drop off).take n)else cs.getD off .undef)/\(ag=false->n=1)
  | _=>False
def ia(σ : ae)(ag:Bool)(n:Nat)(p:AV)(K:AV->Prop): Prop :=
 match p with
 | .ref l off => match σ[l]? with
   | some (.bM _ cs)=>off+n<=cs.length/\(ag=false->n=1)/\K (if ag then .agg ((cs.drop off).take n)else cs.getD off .undef)
   | _=>False
 | .eA el x off=>partOf el x off ag n K
 | .eG el l m i off => match σ[l]? with
   | some (.cy T bz xs)=>bz=el/\m=xs.length/\i<xs.length/\partOf el (xs.getD i .undef) off ag n K
   | _=>False
 | _=>False
def mL(σ : ae)(n:Nat)(p v:AV)(K:ae->Prop): Prop :=
 v.cells.length=n/\v.cells.all AV.scalar=true /\
 match p with
 | .ref l off => match σ[l]? with
   | some (.bM T cs)=>off+n<=cs.length/\K (σ.set l (.bM T (eK cs off v.cells)))
   | _=>False
 | .eG el l m i off => match σ[l]? with
   | some (.cy T bz xs) => bz = el /\ m = xs.length /\ i < xs.length /\ off + n <= el.sz /\ (el.ag = false -> v.fits el = true) /\
      K (σ.set l (.cy T el (xs.set i (if el.ag then .agg (eK (xs.getD i .undef).cells off v.cells)else v))))
   | _=>False
 | _=>False
def fZ(σ : ae)(el:El)(x:AV)(K:List AV->Prop): Prop :=
 match x with
 | .ai=>K []
 | .aF _ bz xs=>bz=el/\K xs
 | .own bz l m lo n => bz = el /\ match σ[l]? with
   | some (.cy T cK xs)=>cK=el/\m=xs.length/\K ((xs.drop lo).take n)
   | _=>False
 | .str s=>el=⟨false,1⟩/\K (s.map fun b=> .int .u8 b.toNat)
 | .vg bz p n=>bz=el/\el=⟨false,1⟩/\ia σ true n p fun v=>K v.cells
 | _=>False
def gE(n:Nat)(el:El): Prop:=n*(el.sz+1)<=2 ^ 40
def pH(σ : ae)(T:Option TypeId)(el:El)(x y:AV)(K:AV->ae->Prop): Prop :=
 fZ σ el y fun ys=>ys.all (fun a=>a.fits el)=true /\
 match x with
 | .ai=>if ys.length=0 then K .ai σ else gE ys.length el/\K (.own el σ.length ys.length 0 ys.length) (σ++[.cy T el ys])
 | .aF true bz xs => bz = el /\ if ys.length = 0 then K (.aF true el xs) σ else
    gE (xs.length+ys.length) el/\K (.own el σ.length (xs.length+ys.length) 0 (xs.length+ys.length)) (σ++[.cy T el (xs++ys)])
 | .own bz l m lo n => bz = el /\ match σ[l]? with
   | some (.cy T' cK xs) => (T' = none \/ T' = T) /\ cK = el /\ m = xs.length /\ lo = 0 /\ n = xs.length /\ gE (xs.length + ys.length) el /\
      K (.own el l (xs.length+ys.length) 0 (xs.length+ys.length)) (σ.set l (.cy T' el (xs++ys)))
   | _=>False
 | _=>False
def AS(op:Bool)(x y:AV)(K:AV->Prop): Prop :=
 match x,y with
 | .int k a,.int _ b=>K (.int k (if op then(if b<a then b else a)else (if b>a then b else a)))
 | _,_=>False
def qf(op:Bool)(x:AV): List AV->(AV->Prop)->Prop
 | [],K=>K x
 | y::ys,K=>AS op x y fun z=>qf op z ys K
def lg(zero:List AV)(e:Env): List (Nat × Nat × AX)->(List AV->Prop)->Prop
 | [],K=>K zero
 |(off,n,x)::r,K=>(x.ev e).cells.length=n/\(x.ev e).cells.all AV.scalar=true/\off+n<=zero.length/\lg (eK zero off (x.ev e).cells) e r K
def kr(el:El)(xs:List AV)(e:Env): List (Nat × AX)->(List AV->Prop)->Prop
 | [],K=>K xs
 |(i,x)::r,K=>(x.ev e).fits el=true/\i<xs.length/\kr el (xs.set i (x.ev e)) e r K
def aaT(el:El): AV->Bool
 | .ai=>true
 | .aF true bz xs=>bz==el && xs.isEmpty
 | _=>false
def aaU(el:El): AV->Option (List AV)
 | .ai=>some []
 | .aF _ bz xs=>if bz=el then some xs else none
 | _=>none
def aaV: AV->AV->Option Bool
 | .str a,.str b=>some (a==b)
 | .int k a,.int k' b=>if k=k' then some (a==b)else none
 | _,_=>none
def CO(k:AV): List (AV × AV)->Nat->Option (Option (Nat × AV))
 | [],_=>some none
 | (q, v) :: r, i => match aaV k q with
   | some true=>some (some (i,v))
   | some false=>CO k r (i+1)
   | none=>none
def YG(k v:AV)(es:List (AV × AV)): Option (List (AV × AV)):=match CO k es 0 with
 | some (some (i,_))=>some (es.set i (k,v))
 | some none=>some (es++[(k,v)])
 | none=>none
def AV.QD: Option IntKind->AV->Bool
 | none,.str _=>true
 | some k,.int k' _=>k==k'
 | _,_=>false
def YH(P:Program)(t:TypeId)(name:String): Option FuncId:=match P.info? t,P.underlying t with
 | some i, some (.pointer _) => match i.methods.find? (·.name == name) with
   | some m => match m.func with
     | some (f,true)=>if m.path.isEmpty then some f else none
     | _=>none
   | none=>none
 | _,_=>none
def pO(lo:Option AV)(hi mx:AV)(cap:Nat)(K:Nat->Nat->Nat->Prop): Prop :=
 bound (some mx) 0 cap fun m=>bound (some hi) 0 m fun h=>bound lo 0 h fun l=>K l h m
def AU(σ : ae)(el:El)(x:AV)(lo:Option AV)(hi mx:AV)(K:AV->ae->Prop): Prop :=
 match x with
 | .ai=>pO lo hi mx 0 fun _ _ _=>K .ai σ
 | .aF _ bz xs=>bz=el/\pO lo hi mx xs.length fun l h m=>K (.aF (h==m) el ((xs.drop l).take (h-l))) σ
 | .own bz l0 m0 o n => bz = el /\ match σ[l0]? with
   | some (.cy _ cK xs) => cK = el /\ m0 = xs.length /\ o + n <= m0 /\ pO lo hi mx n fun l h m =>
      if m=l then K (.aF true el []) σ else h=m/\K (.aF true el ((xs.drop (o+l)).take (h-l))) (σ.set l0 .dead)
   | _=>False
 | _=>False
def wC(el:El)(x:AV)(lo:Option AV)(hi mx:AV)(K:AV->Prop): Prop :=
 match x with
 | .ai=>pO lo hi mx 0 fun _ _ _=>K .ai
 | .aF _ bz xs=>bz=el/\pO lo hi mx xs.length fun l h m=>K (.aF (h==m) el ((xs.drop l).take (h-l)))
 | .own bz _ _ _ _=>bz=el/\pO lo hi mx 0 fun _ _ _=>K (.aF true el [])
 | _=>False
def FG(σ : ae)(el:El)(x:AV)(ys:List AV)(K:AV->ae->Prop): Prop :=
 match x with
 | .ai=>K (.int .i64 0) σ
 | .aF _ bz []=>bz=el/\K (.int .i64 0) σ
 | .vg bz p n=>bz=el/\el=⟨false,1⟩/\mL σ (min ys.length n) p (.agg (ys.take n)) fun σ'=>K (.int .i64 (min ys.length n:Nat)) σ'
 | .own bz l m o n => bz = el /\ match σ[l]? with
   | some (.cy T cK xs)=>cK=el/\m=xs.length/\o+n<=m/\K (.int .i64 (min ys.length n:Nat)) (σ.set l (.cy T el (eK xs o (ys.take n))))
   | _=>False
 | _=>False
def Lz(σ : ae)(el:El)(x y:AV)(K:AV->ae->Prop): Prop :=
 fZ σ el y fun ys=>ys.all (fun a=>a.fits el)=true/\FG σ el x ys K
def LO(σ : ae)(el:El)(x y:AV)(K:AV->ae->Prop): Prop :=
 match x with
 | .own bz l m (lo + 1) n => bz = el /\ fZ σ el y fun ys => ys.all (fun a => a.fits el) = true /\ match σ[l]? with
   | some (.cy _ cK xs) => cK = el /\ m = xs.length /\ lo + 1 + n = m /\ gE (n + ys.length) el /\
      K (.own el σ.length (n+ys.length) 0 (n+ys.length)) (σ.set l .dead++[.vec el (xs.drop (lo+1)++ys)])
   | _=>False
 | x=>pH σ none el x y K
def FH(σ : ae)(el:El)(x y:AV)(K:AV->Prop): Prop :=
 fZ σ el y fun ys=>ys.all (fun a=>a.fits el)=true/\ys.length≠0/\match x with
  | .ai=>gE ys.length el/\K (.aF false el ys)
  | .aF true bz xs=>bz=el/\gE (xs.length+ys.length) el/\K (.aF false el (xs++ys))
  | _=>False
def AW(el:El)(n:Nat)(p:AV)(lo hi:Option AV)(K:AV->Prop): Prop :=
 p.ptr=true/\bound hi n n fun h=>bound lo 0 h fun l=>K (if h=l then .aF false el []else .vg el (p.adv (l*el.sz)) (h-l))
def yL(σ : ae)(x:AV)(K:Bool->Prop): Prop:=match x with
 | .ai=>K true
 | .aF _ _ (_::_)=>K false
 | .vg ..=>K false
 | .own _ l m _ n => match σ[l]? with
   | some (.cy _ _ xs)=>m=xs.length/\0<n/\K false
   | _=>False
 | _=>False
def FI(σ σ2:ae): List (Bool × Nat)->List AV->Prop
 | [],_=>True
 |(ag,n)::r,p::ps=>(∃ v,ia σ ag n p (fun u=>u=v)/\ia σ2 ag n p (fun u=>u=v))/\FI σ σ2 r ps
 | _::_,[]=>False
def yM(T:TypeId)(ok:Bool)(z x:AV)(K:AV->Prop): Prop:=match x with
 | .j6 t v=>if t=T then K (if ok then .bJ [v,.bool true]else v)else ok=true/\K (.bJ [z,.bool false])
 | .ja=>ok=true/\K (.bJ [z,.bool false])
 | _=>False
def D5(σ : ae)(n:Nat)(x:AV)(K:AV->ae->Prop): Prop:=match x with
 | .aF _ bz xs=>bz=⟨false,1⟩/\0<n/\n<=xs.length/\K (.eA ⟨true,n⟩ (.agg (xs.take n)) 0) σ
 | .own bz l m o k => bz = ⟨false, 1⟩ /\ match σ[l]? with
   | some (.cy _ cK xs)=>cK=⟨false,1⟩/\m=xs.length/\o+k<=m/\0<n/\n<=k/\K (.eA ⟨true,n⟩ (.agg ((xs.drop o).take n)) 0) (σ.set l .dead)
   | _=>False
 | _=>False
def yN(σ : ae)(kd:Option IntKind)(zero x k:AV)(K:AV->ae->Prop): Prop:=match x with
 | .mp l => k.QD kd = true /\ match σ[l]? with
   | some (.map es) => match CO k es 0 with
     | some (some (i,v))=>K (.bJ [v,.int .i64 i]) σ
     | some none=>K (.bJ [zero,.int .i64 es.length]) (σ.set l (.map (es++[(k,zero)])))
     | none=>False
   | _=>False
 | _=>False
def yO(σ : ae)(x s v:AV)(K:ae->Prop): Prop:=match x,s with
 | .mp l, .int .i64 z => match σ[l]? with
   | some (.map es)=>0<=z/\z.toNat<es.length/\K (σ.set l (.map (es.set z.toNat ((es.getD z.toNat default).1,v))))
   | _=>False
 | _,_=>False
def D6(σ : ae)(el:El)(zero x:AV)(K:ae->Prop): Prop:=match x with
 | .ai=>K σ
 | .aF _ _ []=>K σ
 | .own bz l m o n => bz = el /\ zero.fits el = true /\ match σ[l]? with
   | some (.cy T cK xs)=>cK=el/\m=xs.length/\o+n<=m/\K (σ.set l (.cy T el (eK xs o (List.replicate n zero))))
   | _=>False
 | _=>False
def yP(σ : ae)(x:AV)(K:AV->ae->Prop): Prop:=match x with
 | .ai=>K .ai σ
 | .aF f el xs=>K (.aF f el xs) σ
 | .own el l m lo n => match σ[l]? with
   | some (.cy _ bz xs)=>bz=el/\m=xs.length/\lo+n<=m/\K (.aF false el ((xs.drop lo).take n)) (σ.set l .dead)
   | _=>False
 | _=>False
def YI(K Kp:AV->Prop): Out->Prop
 | .ret r=>K r
 | .panic v=>Kp v
def fI.run(P:Program)(o:fI)(vs:List AV)(σ : ae)(K Kp:AV->ae->Prop): Prop :=
 match o,vs with
 | .YD el false,[x,hi,mx]=>AU σ el x none hi mx K
 | .YD el true,[x,lo,hi,mx]=>AU σ el x (some lo) hi mx K
 | .Ly,[]=>K (.mp σ.length) (σ++[.map []])
 | .HU kd ok zero,[.mg,k]=>k.QD kd=true/\K (if ok then .bJ [zero,.bool false]else zero) σ
 | .HU kd ok zero, [.mp l, k] => k.QD kd = true /\ match σ[l]? with
   | some (.map es) => match CO k es 0 with
     | some (some (_,v))=>K (if ok then .bJ [v,.bool true]else v) σ
     | some none=>K (if ok then .bJ [zero,.bool false]else zero) σ
     | none=>False
   | _=>False
 | .Sr kd, [.mp l, k, v] => k.QD kd = true /\ match σ[l]? with
   | some (.map es) => match YG k v es with
     | some es'=>K (.bJ []) (σ.set l (.map es'))
     | none=>False
   | _=>False
 | .HV,[.mg]=>K (.int .i64 0) σ
 | .HV, [.mp l] => match σ[l]? with
   | some (.map es)=>K (.int .i64 es.length) σ
   | _=>False
 | .LK el n false false,[p]=>AW el n p none none fun v=>K v σ
 | .LK el n true false,[p,a]=>AW el n p (some a) none fun v=>K v σ
 | .LK el n false true,[p,b]=>AW el n p none (some b) fun v=>K v σ
 | .LK el n true true,[p,a,b]=>AW el n p (some a) (some b) fun v=>K v σ
 | .copy el,[x,y]=>Lz σ el x y K
 | .apx el,[x,y]=>LO σ el x y K
 | .LM el,[x,y]=>FH σ el x y fun v=>K v σ
 | .LN neg,[x]=>yL σ x fun r=>K (.bool (if neg then !r else r)) σ
 | .cw n k AO,x::vs=> ∃ r σ2,dK P n ((x::vs).take k) σ (fun o σ'=>o = .ret r/\σ' = σ2)/\FI σ σ2 AO ((x::vs).drop k)/\K r σ2
 | .LL el false,[x,hi,mx]=>wC el x none hi mx fun v=>K v σ
 | .LL el true,[x,lo,hi,mx]=>wC el x (some lo) hi mx fun v=>K v σ
 | .inv name, .j6 t v :: r => match YH P t name with
   | some f => dK P f (v :: r) σ fun
     | .ret r,σ'=>K r σ'
     | .panic r,σ'=>Kp r σ'
   | none=>False
 | .Ss T ok z,[x]=>yM T ok z x fun v=>K v σ
 | .s2a n,[x]=>D5 σ n x K
 | .YE kd z,[x,k]=>yN σ kd z x k K
 | .YF,[x,s,v]=>yO σ x s v fun σ'=>K (.bJ []) σ'
 | .clr el z,[x]=>D6 σ el z x fun σ'=>K (.bJ []) σ'
 | .pc n,vs=> ∃ o,(∀ s,dK P n vs s fun o' s'=>o'=o/\s'=s)/\YI (fun r=>K r σ) (fun v=> ∀ s,Kp v s) o
 | .WA,[x]=>yP σ x K
 | _,_=>False
def br.run(P:Program)(o:br)(e:Env)(σ : ae)(K:AV->ae->Prop)(Kp:AV->ae->Prop): Prop :=
 match o with
 | .ex o xs=>o.run P (xs.map (AX.ev e)) σ K Kp
 | .mv x=>K (x.ev e) σ
 | .pick c a b => match c.ev e with
   | .bool t=>K (if t then a.ev e else b.ev e) σ
   | _=>False
 | .alloc T cs=>K (.ref σ.length 0) (σ++[.bM T cs])
 | .box x=>(x.ev e).cells.all AV.scalar=true/\K (.ref σ.length 0) (σ++[.cells (x.ev e).cells])
 | .build zero parts=>lg zero e parts fun cs=>K (.agg cs) σ
 | .iG mt el zero n parts => kr el (List.replicate n zero) e parts fun xs =>
    if mt then K (.own el σ.length n 0 n) (σ++[.vec el xs])else K (.aF true el xs) σ
 | .load ag n x=>ia σ ag n (x.ev e) fun v=>K v σ
 | .store n x v=>mL σ n (x.ev e) (v.ev e) fun σ'=>K (.bJ []) σ'
 | .kI x => match x.ev e with
   | .ref .. | .eA .. | .eG .. | .j6 .. | .fn (.func _) _ _ | .si _=>K (x.ev e) σ
   | _=>False
 | .bin op x y=>jn op (x.ev e) (y.ev e) fun v=>K v σ
 | .oa neg ag ks x y => match (if ag then (match x.ev e, y.ev e with | .agg az, .agg bs => h_ ks az bs | _, _ => none) else h_ ks [x.ev e] [y.ev e]) with
   | some b=>K (.bool (if neg then !b else b)) σ
   | none=>False
 | .un op x=>AP op (x.ev e) fun v=>K v σ
 | .ld k x => match x.ev e with
   | .int _ n=>K (.int k (eS k n)) σ
   | _=>False
 | .Pt x => match x.ev e with
   | .str s=>K (.str s) σ
   | _=>False
 | .St x => match x.ev e with
   | .str s=>s.length<=2 ^ 40/\K (.own ⟨false,1⟩ σ.length s.length 0 s.length) (σ++[.vec ⟨false,1⟩ (s.map fun b=> .int .u8 b.toNat)])
   | _=>False
 | .sj x=>(match x.ev e with | .str _=>False|_=>True)/\fZ σ ⟨false,1⟩ (x.ev e) fun xs=> ∃ s:List UInt8,xs=s.map (fun b=>AV.int .u8 b.toNat)/\K (.str s) σ
 | .CM t x=>K (.j6 t (x.ev e)) σ
 | .vp f first cap=>K (.fn f (first.map (AX.ev e)) (cap.map (AX.ev e))) σ
 | .lf x lo hi => match x.ev e with
   | .str s=>bound (hi.map (AX.ev e)) s.length s.length fun h=>bound (lo.map (AX.ev e)) 0 h fun l=>K (.str ((s.drop l).take (h-l))) σ
   | _=>False
 | .tF el x lo hi => match x.ev e with
   | .ai=>bound (hi.map (AX.ev e)) 0 0 fun h=>bound (lo.map (AX.ev e)) 0 h fun _=>K .ai σ
   | .aF _ bz xs=>bz=el/\bound (hi.map (AX.ev e)) xs.length xs.length fun h=>bound (lo.map (AX.ev e)) 0 h fun l=>K (.aF false el ((xs.drop l).take (h-l))) σ
   | .own bz l m o n => bz = el /\ match σ[l]? with
     | some (.cy T cK xs)=>cK=el/\m=xs.length/\o+n<=m/\bound (hi.map (AX.ev e)) n n fun h=>bound (lo.map (AX.ev e)) 0 h fun k=>K (.own el l m (o+k) (h-k)) σ
     | _=>False
   | _=>False
 | .gQ off x => match x.ev e with
   | .ref l o=>K (.ref l (o+off)) σ
   | .eA el y o=>K (.eA el y (o+off)) σ
   | .eG el l m i o=>K (.eG el l m i (o+off)) σ
   | _=>False
 | .field ag off n x => match x.ev e with
   | .agg cs=>off+n<=cs.length/\(ag=false->n=1)/\K (if ag then .agg ((cs.drop off).take n)else cs.getD off .undef) σ
   | _=>False
 | .eH el arr x i => match i.ev e with
   | .int _ k => match arr, x.ev e with
     | none,.aF _ bz xs=>bz=el/\0<=k/\k<xs.length/\K (.eA el (xs.getD k.toNat .undef) 0) σ
     | none, .own bz l m o n => bz = el /\ 0 <= k /\ k < n /\ match σ[l]? with
       | some (.cy T cK xs)=>cK=el/\m=xs.length/\K (.eG el l m (o+k.toNat) 0) σ
       | _=>False
     | some n,.ref l o=>0<=k/\k<n/\K (.ref l (o+k.toNat*el.sz)) σ
     | some n,.eA bz y o=>0<=k/\k<n/\K (.eA bz y (o+k.toNat*el.sz)) σ
     | some n,.eG bz l m j o=>0<=k/\k<n/\K (.eG bz l m j (o+k.toNat*el.sz)) σ
     | _,_=>False
   | _=>False
 | .fU x i => match x.ev e, i.ev e with
   | .str s,.int _ k=>0<=k/\k<s.length/\K (.int .u8 (s.getD k.toNat 0).toNat) σ
   | _,_=>False
 | .xe el ln x i => match x.ev e, i.ev e with
   | .agg cs, .int _ k => 0 <= k /\ k < ln /\ (k.toNat * el.sz + el.sz <= cs.length) /\ (el.ag = false -> el.sz = 1) /\
      K (if el.ag then .agg ((cs.drop (k.toNat*el.sz)).take el.sz)else cs.getD (k.toNat*el.sz) .undef) σ
   | _,_=>False
 | .ext x i => match x.ev e with
   | .bJ vs=>i<vs.length/\K (vs.getD i .undef) σ
   | _=>False
 | .call q f args => match f.ev e with
   | .fn (.func n) first cap =>
     if q then ∃ r,(∀ τ,wB P n (first++args.map (AX.ev e)++cap) (σ++ τ) r)/\K r σ
     else dK P n (first++args.map (AX.ev e)++cap) σ fun
      | .ret r,σ'=>K r σ'
      | .panic r,σ'=>Kp r σ'
   | .si l => if q then False else tE P l (args.map (AX.ev e)) σ fun
      | .ret r,σ'=>K r σ'
      | .panic r,σ'=>Kp r σ'
   | _=>False
 | .mJ f args => match f.ev e with
   | .fn (.func n) [] []=>CL P n (args.map (AX.ev e)) σ K
   | _=>False
 | .len s x => match s, x.ev e with
   | true,.str s=>K (.int .i64 s.length) σ
   | false,.ai=>K (.int .i64 0) σ
   | false,.aF _ _ xs=>K (.int .i64 xs.length) σ
   | false,.own _ _ _ _ n=>K (.int .i64 n) σ
   | _,_=>False
 | .app T el x y=>pH σ T el (x.ev e) (y.ev e) K
 | .zZ el x => match x.ev e with
   | .ai=>K .iE σ
   | .own bz l m lo n => bz = el /\ match σ[l]? with
     | some (.cy _ cK xs)=>cK=el/\m=xs.length/\0<n/\K (.eG el l m lo 0) σ
     | _=>False
   | _=>False
 | .vq T x n => match x.ev e, n.ev e with
   | .iE,.int .i64 k=>k=0/\K (.str []) σ
   | .eG el l m lo off, .int .i64 k => lo = 0 /\ off = 0 /\ el = ⟨false, 1⟩ /\ match σ[l]? with
     | some (.cy T' _ xs)=>T'=some T/\m=xs.length/\0<k/\k<=xs.length/\xs.length<=2 ^ 62/\ ∃ s:List UInt8,xs.take k.toNat=s.map (fun b=>AV.int .u8 b.toNat)/\K (.str s) (σ.set l .dead)
     | _=>False
   | _,_=>False
 | .FE x => match x.ev e with
   | .ref l off => match σ[l]? with
     | some (.bM _ cs)=>off<cs.length/\K (.ref l off) σ
     | _=>False
   | _=>False
 | .FF u x => match x.ev e with
   | .ref l off => match σ[l]? with
     | some (.bM (some T) cs)=>liesAt P P.depth T (cs.length / P.cellsOf T) off u 1=true/\K (.ref l off) σ
     | _=>False
   | _=>False
 | .Dl neg x y => match x.ev e, y.ev e with
   | .ref l o, .ref l' o' => l = l' /\ o = o' /\ match σ[l]? with
     | some (.bM _ _)=>K (.bool neg.not) σ
     | _=>False
   | _,_=>False
 | .CN f x => (∃ fn, P.funcs[f]? = some fn ∧ (fn.name == "runtime.NumGoroutine") = false ∧ fn.body.isNone = true ∧ Extern.findNext fn = none ∧ Extern.find fn = some Extern.AbiNoEscape.same) ∧ K (x.ev e) σ
 | .min x xs=>qf true (x.ev e) (xs.map (AX.ev e)) fun v=>K v σ
 | .max x xs=>qf false (x.ev e) (xs.map (AX.ev e)) fun v=>K v σ
 | .mK el zero n c => match n.ev e, c.ev e with
   | .int .i64 k,.int .i64 m=>zero.fits el=true/\0<=k/\k<=m/\m*(el.sz+1)<=2 ^ 40/\K (.own el σ.length k.toNat 0 k.toNat) (σ++[.vec el (List.replicate k.toNat zero)])
   | _,_=>False
 | .panic x => match x.ev e with
   | .j6 t v=>Kp (.j6 t v) σ
   | _=>False
 | .jI el=>K (.own el σ.length 0 0 0) (σ++[.vec el []])
 | .hold=>K (.ref σ.length 0) (σ++[.resv])
 | .vt T x=>(x.ev e).cells.all AV.scalar=true/\K (.ref σ.length 0) (σ++[.bM (some T) (x.ev e).cells])
 | .kW k T cs => match e k with
   | .ref n 0 => match σ[n]? with
     | some .resv=>K (.ref n 0) (σ.set n (.bM T cs))
     | _=>False
   | _=>False
 | .oS k T el x y => match e k with
   | .ref n 0 => match σ[n]? with
     | some .resv => match aaU el (y.ev e) with
       | some ys=>aaT el (x.ev e)=true/\ys.all (fun a=>a.fits el)=true/\gE ys.length el/\K (.own el n ys.length 0 ys.length) (σ.set n (.cy T el ys))
       | none=>False
     | _=>False
   | _=>False
 | .oU k el zero n c => match e k with
   | .ref l 0 => match σ[l]? with
     | some .resv => match n.ev e, c.ev e with
       | .int .i64 i,.int .i64 m=>zero.fits el=true/\0<i/\i<=m/\m*(el.sz+1)<=2 ^ 40/\K (.own el l i.toNat 0 i.toNat) (σ.set l (.vec el (List.replicate i.toNat zero)))
       | _,_=>False
     | _=>False
   | _=>False
 | .D3 x => match x.ev e with
   | .str s=>K (.ref σ.length 0) (σ++[.iO s 0])
   | _=>False
 | .D4 x => match x.ev e with
   | .ref l 0 => match σ[l]? with
     | some (.iO s pos) =>
       if pos<s.length then K (.bJ [.bool true,.int .i64 pos,.int .i32 (Utf8.decode ⟨s.toArray⟩ pos).1]) (σ.set l (.iO s (pos+(Utf8.decode ⟨s.toArray⟩ pos).2)))
       else K (.bJ [.bool false]) σ
     | _=>False
   | _=>False
 | .oT neg k x y => match nh k (x.ev e) (y.ev e) with
   | some b=>K (.bool (if neg then !b else b)) σ
   | none=>False
