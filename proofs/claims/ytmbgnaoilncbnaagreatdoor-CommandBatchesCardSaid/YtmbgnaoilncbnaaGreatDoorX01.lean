/- Part. -/
import Derived.Test.YtmbgnaoilncbnaaGreatDoorX00
import Derived.RangeFuncIn
import Derived.RangeFuncLeaves
import Derived.RangeFuncRecord
import Derived.OrdersIn
set_option linter.all false
namespace Go.AM
inductive Out where
 | ret (a:AV)
 | panic (a:AV)
def Rx(g:aO)(w:World): Out->Ending->Prop
 | .ret a,.returned v=>VR g w a v
 | .panic a,.panicked chain=> ∃ v,chain=[{ v,recovered:=false }]/\VR g w a v
 | _,_=>False
def Has (P : Program) (f : FuncId) : Prop := ∃ fn, P.funcs[f]? = some fn ∧ fn.body.isSome = true ∧ (fn.name == "runtime.NumGoroutine") = false
def f_(P:Program)(f:FuncId)(args:List AV)(σ : aj)(R:Out->aj->Prop): Prop :=
 Has P f/\ ∀(g:aO) (w:World) (vs:Array Value),Rel g w σ->args.length=vs.size->(∀ i,i<args.length->VR g w (args.getD i .undef) (vs.getD i Go.undef)) ->
  Calls P f vs w fun e w'=> ∃ out g' σ',Rel g' w' σ'/\gN σ g w σ' g' w'/\Rx g' w' out e/\R out σ'
def f_.mono{P:Program}{f:FuncId}{args:List AV}{σ : aj}{R R':Out->aj->Prop}(h:f_ P f args σ R)(hr:∀ o σ',R o σ'->R' o σ'): f_ P f args σ R' :=
 ⟨h.1,fun g w vs h1 h2 h3=>(h.2 g w vs h1 h2 h3).mono fun _ _ ⟨out,g',σ',a,b,c,d⟩=>⟨out,g',σ',a,b,c,hr _ _ d⟩⟩
def wW(P:Program)(l:Nat)(args:List AV)(σ : aj)(R:Out->aj->Prop): Prop :=
 (∃ nt e ps ca cb st pe, σ[l]? = some (.loop nt e ps ca cb st pe)) /\ ∀ (g : aO) (w : World) (vs : Array Value) (b : Nat), Rel g w σ -> g.base l = some b -> args.length = vs.size -> (∀ i, i < args.length -> VR g w (args.getD i .undef) (vs.getD i Go.undef)) ->
   ∃ fn tmps assign body,(Instr.yield b vs).run P w = .ok (.round b fn tmps assign body) w/\RoundIn Fence.wide 0 P b fn tmps assign body w fun en w'=> ∃ out g' σ',Rel g' w' σ'/\gN σ g w σ' g' w'/\Rx g' w' out en/\R out σ'
def wW.mono{P:Program}{l:Nat}{args:List AV}{σ : aj}{R R':Out->aj->Prop}(h:wW P l args σ R)(hr:∀ o σ',R o σ'->R' o σ'): wW P l args σ R':=by
 refine⟨h.1,fun g w vs b h1 h2 h3 h4=>?_⟩;obtain⟨fn,tmps,ca,cb,r1,r2⟩:=h.2 g w vs b h1 h2 h3 h4;exact⟨fn,tmps,ca,cb,r1,r2.mono fun _ _ ⟨out,g',σ',a,b,c,d⟩=>⟨out,g',σ',a,b,c,hr _ _ d⟩⟩
def Eg(P:Program)(f:FuncId)(args:List AV)(σ : aj)(r:AV): Prop:=f_ P f args σ fun o σ'=>o = .ret r/\σ' = σ
abbrev Env:=Nat->AV
inductive AX where
 | t (n:Nat)
 | c (a:AV)
def AX.ev(e:Env): AX->AV
 | .t n=>e n
 | .c a=>a
def fC(e:Env)(d:Option Nat)(a:AV): Env :=
 match d with
 | some d=>fun n=>if n=d then a else e n
 | none=>e
def fE: List AV->Nat->List AV->List AV
 | cs,_,[]=>cs
 | cs,i,a::az=>fE (cs.set i a) (i+1) az
inductive Kd where
 | b|i|s
deriving DecidableEq
def U3: Kd->AV->AV->Option Bool
 | .b,.bool a,.bool b=>some (a==b)
 | .i,.int k a,.int k' b=>if k=k' then some (a==b)else none
 | .s,.str a,.str b=>some (a==b)
 | _,_,_=>none
def iz: List Kd->List AV->List AV->Option Bool
 | [],[],[]=>some true
 | k :: ks, a :: az, b :: bs => match U3 k a b, iz ks az bs with
   | some x,some y=>some (x && y)
   | _,_=>none
 | _,_,_=>none
inductive NK where
 | p|i|f|m
deriving DecidableEq
def uS: NK->AV->Option Bool
 | .p,.iN=>some true
 | .p,.ref .. | .p,.fR .. | .p,.fg ..=>some false
 | .i,.nS=>some true
 | .i,.qc ..=>some false
 | .f,.wU=>some true
 | .f,.fn ..=>some false
 | .m,.wV=>some true
 | .m,.mp ..=>some false
 | _,_=>none
def tR(k:NK)(x y:AV): Option Bool :=
 match uS k x,uS k y with
 | some true,some b=>some b
 | some false,some true=>some false
 | _,_=>none
def AV.obj: AV->Option Nat
 | .ref l _=>some l
 | .fg _ l _ _ _=>some l
 | .own _ l _ _ _=>some l
 | _=>none
def aX.like: aX->aX->Prop
 | .cn T el xs,o=> ∃ ys,o = .cn T el ys/\ys.length=xs.length
 | _,_=>True
def Mf(P:Program)(n:FuncId)(args:List AV)(σ : aj)(K:AV->aj->Prop): Prop:=match args with
 | a::_=> ∃ l ob nQ r,a.obj=some l/\σ[l]? = some ob/\ob.like nQ/\f_ P n args σ (fun o σ'=>o = .ret r/\σ' = σ.set l nQ)/\K r (σ.set l nQ)
 | []=>False
inductive bp where
 | mv (x:AX)
 | pick (c a b:AX)
 | alloc (T:Option TypeId) (cs:List AV)
 | box (x:AX)
 | build (zero:List AV) (parts:List (Nat × Nat × AX))
 | bK (mt:Bool) (el:El) (zero:AV) (n:Nat) (parts:List (Nat × AX))
 | load (ag:Bool) (n:Nat) (x:AX)
 | store (n:Nat) (x v:AX)
 | lD (x:AX)
 | bin (op:BinOp) (x y:AX)
 | qd (neg:Bool) (ag:Bool) (ks:List Kd) (x y:AX)
 | un (op:UnOp) (x:AX)
 | jP (k:IntKind) (x:AX)
 | Po (x:AX)
 | MW (x:AX)
 | wX (x:AX)
 | G8 (t:TypeId) (x:AX)
 | qu (f:Fn) (first cap:List AX)
 | pG (x:AX) (lo hi:Option AX)
 | yq (el:El) (x:AX) (lo hi:Option AX)
 | gS (off:Nat) (x:AX)
 | field (ag:Bool) (off n:Nat) (x:AX)
 | cz (el:El) (arr:Option Nat) (x i:AX)
 | gL (x i:AX)
 | Cv (el:El) (ln:Nat) (x i:AX)
 | ext (x:AX) (i:Nat)
 | call (q:Bool) (f:AX) (args:List AX)
 | mL (f:AX) (args:List AX)
 | len (s:Bool) (x:AX)
 | app (T:Option TypeId) (el:El) (x y:AX)
 | IB (el:El) (x:AX)
 | Cw (T:TypeId) (x n:AX)
 | Pp (x:AX)
 | Pq (u:TypeId) (x:AX)
 | MX (neg:Bool) (x y:AX)
 | Mg (f:FuncId) (x:AX)
 | min (x:AX) (xs:List AX)
 | max (x:AX) (xs:List AX)
 | rG (el:El) (zero:AV) (n c:AX)
 | panic (x:AX)
 | iZ (el:El)
 | hold
 | Cx (T:TypeId) (x:AX)
 | kY (k:Nat) (T:Option TypeId) (cs:List AV)
 | qv (k:Nat) (T:Option TypeId) (el:El) (x y:AX)
 | NY (x:AX)
 | NZ (x:AX)
 | vE (neg:Bool) (k:NK) (x y:AX)
def cR(k:IntKind)(n:Int): Int:=k.wrap n
def nI(op:BinOp)(k:IntKind)(x y:Int): Int :=
 let a:=BitVec.ofInt k.bits x
 let b:=BitVec.ofInt k.bits y
 match op with
 | .and=>k.wrap (a &&& b).toNat
 | .or=>k.wrap (a ||| b).toNat
 | .xor=>k.wrap (a ^^^ b).toNat
 | _=>k.wrap (a &&& ~~~b).toNat
def iV(op:BinOp)(x y:AV)(K:AV->Prop): Prop :=
 match op,x,y with
 | .shl,.int k a,.int _ b=>0<=b/\K (.int k (cR k (a*2 ^ (Nat.min b.toNat k.bits))))
 | .shr,.int k a,.int _ b=>0<=b/\K (.int k (a.fdiv (2 ^ (Nat.min b.toNat k.bits))))
 | .add,.int k a,.int k' b=>k=k'/\K (.int k (cR k (a+b)))
 | .sub,.int k a,.int k' b=>k=k'/\K (.int k (cR k (a-b)))
 | .mul,.int k a,.int k' b=>k=k'/\K (.int k (cR k (a*b)))
 | .quo,.int k a,.int k' b=>k=k'/\b≠0/\K (.int k (cR k (a.tdiv b)))
 | .rem,.int k a,.int k' b=>k=k'/\b≠0/\K (.int k (a.tmod b))
 | .and,.int k a,.int k' b=>k=k'/\K (.int k (nI .and k a b))
 | .or,.int k a,.int k' b=>k=k'/\K (.int k (nI .or k a b))
 | .xor,.int k a,.int k' b=>k=k'/\K (.int k (nI .xor k a b))
 | .andNot,.int k a,.int k' b=>k=k'/\K (.int k (nI .andNot k a b))
 | .eql,.int k a,.int k' b=>k=k'/\K (.bool (a==b))
 | .neq,.int k a,.int k' b=>k=k'/\K (.bool (!(a==b)))
 | .lss,.int k a,.int k' b=>k=k'/\K (.bool (decide (a<b)))
 | .leq,.int k a,.int k' b=>k=k'/\K (.bool (decide (a<=b)))
 | .gtr,.int k a,.int k' b=>k=k'/\K (.bool (decide (b<a)))
 | .geq,.int k a,.int k' b=>k=k'/\K (.bool (decide (b<=a)))
 | .add,.str a,.str b=>((a.length+b.length:Nat):Int)<=IntKind.i64.max/\K (.str (a++b))
 | .eql,.str a,.str b=>K (.bool (a==b))
 | .neq,.str a,.str b=>K (.bool (!(a==b)))
 | .lss,.str a,.str b=>K (.bool (Op.bytesLess a b))
 | .leq,.str a,.str b=>K (.bool (Op.bytesLess a b || a==b))
 | .gtr,.str a,.str b=>K (.bool (!(Op.bytesLess a b || a==b)))
 | .geq,.str a,.str b=>K (.bool (!Op.bytesLess a b))
 | _,_,_=>False
def JX(op:UnOp)(x:AV)(K:AV->Prop): Prop :=
 match op,x with
 | .not,.bool b=>K (.bool (!b))
 | .neg,.int k n=>K (.int k (cR k (0-n)))
 | .xor,.int k n=>K (.int k (nI .xor k (if k.signed then -1 else k.max) n))
 | _,_=>False
def bound(x:Option AV)(d:Nat)(y:Nat)(K:Nat->Prop): Prop :=
 match x with
 | none=>K d
 | some (.int _ i)=>0<=i/\i<=y/\K i.toNat
 | _=>False
def partOf(el:El)(x:AV)(off:Nat)(ag:Bool)(n:Nat)(K:AV->Prop): Prop :=
 if off=0/\n=el.sz/\ag=el.ag then K x
 else off+n<=el.sz/\match x with
  | .agg cs=>K (if ag then .agg ((cs.drop off).take n)else cs.getD off .undef)/\(ag=false->n=1)
  | _=>False
def nJ(σ : aj)(ag:Bool)(n:Nat)(p:AV)(K:AV->Prop): Prop :=
 match p with
 | .ref l off => match σ[l]? with
   | some (.bF _ cs)=>off+n<=cs.length/\(ag=false->n=1)/\K (if ag then .agg ((cs.drop off).take n)else cs.getD off .undef)
   | _=>False
 | .fR el x off=>partOf el x off ag n K
 | .fg el l m i off => match σ[l]? with
   | some (.cn T bN xs)=>bN=el/\m=xs.length/\i<xs.length/\partOf el (xs.getD i .undef) off ag n K
   | _=>False
 | _=>False
def sG(σ : aj)(n:Nat)(p v:AV)(K:aj->Prop): Prop :=
 v.cells.length=n/\v.cells.all AV.scalar=true /\
 match p with
 | .ref l off => match σ[l]? with
   | some (.bF T cs)=>off+n<=cs.length/\K (σ.set l (.bF T (fE cs off v.cells)))
   | _=>False
 | .fg el l m i off => match σ[l]? with
   | some (.cn T bN xs) => bN = el /\ m = xs.length /\ i < xs.length /\ off + n <= el.sz /\ (el.ag = false -> v.fits el = true) /\
      K (σ.set l (.cn T el (xs.set i (if el.ag then .agg (fE (xs.getD i .undef).cells off v.cells)else v))))
   | _=>False
 | _=>False
def iA(σ : aj)(el:El)(x:AV)(K:List AV->Prop): Prop :=
 match x with
 | .ae=>K []
 | .aK _ bN xs=>bN=el/\K xs
 | .own bN l m lo n => bN = el /\ match σ[l]? with
   | some (.cn T dM xs)=>dM=el/\m=xs.length/\K ((xs.drop lo).take n)
   | _=>False
 | .str s=>el=⟨false,1⟩/\K (s.map fun b=> .int .u8 b.toNat)
 | _=>False
def fS(n:Nat)(el:El): Prop:=n*(el.sz+1)<=2 ^ 40
def uL(σ : aj)(T:Option TypeId)(el:El)(x y:AV)(K:AV->aj->Prop): Prop :=
 iA σ el y fun ys=>ys.all (fun a=>a.fits el)=true /\
 match x with
 | .ae=>if ys.length=0 then K .ae σ else fS ys.length el/\K (.own el σ.length ys.length 0 ys.length) (σ++[.cn T el ys])
 | .aK true bN xs => bN = el /\ if ys.length = 0 then K (.aK true el xs) σ else
    fS (xs.length+ys.length) el/\K (.own el σ.length (xs.length+ys.length) 0 (xs.length+ys.length)) (σ++[.cn T el (xs++ys)])
 | .own bN l m lo n => bN = el /\ match σ[l]? with
   | some (.cn T' dM xs) => (T' = none \/ T' = T) /\ dM = el /\ m = xs.length /\ lo = 0 /\ n = xs.length /\ fS (xs.length + ys.length) el /\
      K (.own el l (xs.length+ys.length) 0 (xs.length+ys.length)) (σ.set l (.cn T' el (xs++ys)))
   | _=>False
 | _=>False
def JY(op:Bool)(x y:AV)(K:AV->Prop): Prop :=
 match x,y with
 | .int k a,.int _ b=>K (.int k (if op then(if b<a then b else a)else (if b>a then b else a)))
 | _,_=>False
def vF(op:Bool)(x:AV): List AV->(AV->Prop)->Prop
 | [],K=>K x
 | y::ys,K=>JY op x y fun z=>vF op z ys K
def nu(zero:List AV)(e:Env): List (Nat × Nat × AX)->(List AV->Prop)->Prop
 | [],K=>K zero
 |(off,n,x)::r,K=>(x.ev e).cells.length=n/\(x.ev e).cells.all AV.scalar=true/\off+n<=zero.length/\nu (fE zero off (x.ev e).cells) e r K
def lX(el:El)(xs:List AV)(e:Env): List (Nat × AX)->(List AV->Prop)->Prop
 | [],K=>K xs
 |(i,x)::r,K=>(x.ev e).fits el=true/\i<xs.length/\lX el (xs.set i (x.ev e)) e r K
def G9(el:El): AV->Bool
 | .ae=>true
 | .aK true bN xs=>bN==el && xs.isEmpty
 | _=>false
def G_(el:El): AV->Option (List AV)
 | .ae=>some []
 | .aK _ bN xs=>if bN=el then some xs else none
 | _=>none
def bp.run(P:Program)(o:bp)(e:Env)(σ : aj)(K:AV->aj->Prop)(Kp:AV->aj->Prop): Prop :=
 match o with
 | .mv x=>K (x.ev e) σ
 | .pick c a b => match c.ev e with
   | .bool t=>K (if t then a.ev e else b.ev e) σ
   | _=>False
 | .alloc T cs=>K (.ref σ.length 0) (σ++[.bF T cs])
 | .box x=>(x.ev e).cells.all AV.scalar=true/\K (.ref σ.length 0) (σ++[.cells (x.ev e).cells])
 | .build zero parts=>nu zero e parts fun cs=>K (.agg cs) σ
 | .bK mt el zero n parts => lX el (List.replicate n zero) e parts fun xs =>
    if mt then K (.own el σ.length n 0 n) (σ++[.vec el xs])else K (.aK true el xs) σ
 | .load ag n x=>nJ σ ag n (x.ev e) fun v=>K v σ
 | .store n x v=>sG σ n (x.ev e) (v.ev e) fun σ'=>K (.bX []) σ'
 | .lD x => match x.ev e with
   | .ref .. | .fR .. | .fg .. | .qc .. | .fn (.func _) _ _ | .ux _=>K (x.ev e) σ
   | _=>False
 | .bin op x y=>iV op (x.ev e) (y.ev e) fun v=>K v σ
 | .qd neg ag ks x y => match (if ag then (match x.ev e, y.ev e with | .agg az, .agg bs => iz ks az bs | _, _ => none) else iz ks [x.ev e] [y.ev e]) with
   | some b=>K (.bool (if neg then !b else b)) σ
   | none=>False
 | .un op x=>JX op (x.ev e) fun v=>K v σ
 | .jP k x => match x.ev e with
   | .int _ n=>K (.int k (cR k n)) σ
   | _=>False
 | .Po x => match x.ev e with
   | .str s=>K (.str s) σ
   | _=>False
 | .MW x => match x.ev e with
   | .str s=>s.length<=2 ^ 40/\K (.own ⟨false,1⟩ σ.length s.length 0 s.length) (σ++[.vec ⟨false,1⟩ (s.map fun b=> .int .u8 b.toNat)])
   | _=>False
 | .wX x=>(match x.ev e with | .str _=>False|_=>True)/\iA σ ⟨false,1⟩ (x.ev e) fun xs=> ∃ s:List UInt8,xs=s.map (fun b=>AV.int .u8 b.toNat)/\K (.str s) σ
 | .G8 t x=>K (.qc t (x.ev e)) σ
 | .qu f first cap=>K (.fn f (first.map (AX.ev e)) (cap.map (AX.ev e))) σ
 | .pG x lo hi => match x.ev e with
   | .str s=>bound (hi.map (AX.ev e)) s.length s.length fun h=>bound (lo.map (AX.ev e)) 0 h fun l=>K (.str ((s.drop l).take (h-l))) σ
   | _=>False
 | .yq el x lo hi => match x.ev e with
   | .ae=>bound (hi.map (AX.ev e)) 0 0 fun h=>bound (lo.map (AX.ev e)) 0 h fun _=>K .ae σ
   | .aK _ bN xs=>bN=el/\bound (hi.map (AX.ev e)) xs.length xs.length fun h=>bound (lo.map (AX.ev e)) 0 h fun l=>K (.aK false el ((xs.drop l).take (h-l))) σ
   | .own bN l m o n => bN = el /\ match σ[l]? with
     | some (.cn T dM xs)=>dM=el/\m=xs.length/\o+n<=m/\bound (hi.map (AX.ev e)) n n fun h=>bound (lo.map (AX.ev e)) 0 h fun k=>K (.own el l m (o+k) (h-k)) σ
     | _=>False
   | _=>False
 | .gS off x => match x.ev e with
   | .ref l o=>K (.ref l (o+off)) σ
   | .fR el y o=>K (.fR el y (o+off)) σ
   | .fg el l m i o=>K (.fg el l m i (o+off)) σ
   | _=>False
 | .field ag off n x => match x.ev e with
   | .agg cs=>off+n<=cs.length/\(ag=false->n=1)/\K (if ag then .agg ((cs.drop off).take n)else cs.getD off .undef) σ
   | _=>False
 | .cz el arr x i => match i.ev e with
   | .int _ k => match arr, x.ev e with
     | none,.aK _ bN xs=>bN=el/\0<=k/\k<xs.length/\K (.fR el (xs.getD k.toNat .undef) 0) σ
     | none, .own bN l m o n => bN = el /\ 0 <= k /\ k < n /\ match σ[l]? with
       | some (.cn T dM xs)=>dM=el/\m=xs.length/\K (.fg el l m (o+k.toNat) 0) σ
       | _=>False
     | some n,.ref l o=>0<=k/\k<n/\K (.ref l (o+k.toNat*el.sz)) σ
     | some n,.fR bN y o=>0<=k/\k<n/\K (.fR bN y (o+k.toNat*el.sz)) σ
     | some n,.fg bN l m j o=>0<=k/\k<n/\K (.fg bN l m j (o+k.toNat*el.sz)) σ
     | _,_=>False
   | _=>False
 | .gL x i => match x.ev e, i.ev e with
   | .str s,.int _ k=>0<=k/\k<s.length/\K (.int .u8 (s.getD k.toNat 0).toNat) σ
   | _,_=>False
 | .Cv el ln x i => match x.ev e, i.ev e with
   | .agg cs, .int _ k => 0 <= k /\ k < ln /\ (k.toNat * el.sz + el.sz <= cs.length) /\ (el.ag = false -> el.sz = 1) /\
      K (if el.ag then .agg ((cs.drop (k.toNat*el.sz)).take el.sz)else cs.getD (k.toNat*el.sz) .undef) σ
   | _,_=>False
 | .ext x i => match x.ev e with
   | .bX vs=>i<vs.length/\K (vs.getD i .undef) σ
   | _=>False
 | .call q f args => match f.ev e with
   | .fn (.func n) first cap =>
     if q then ∃ r,(∀ τ,Eg P n (first++args.map (AX.ev e)++cap) (σ++ τ) r)/\K r σ
     else f_ P n (first++args.map (AX.ev e)++cap) σ fun
      | .ret r,σ'=>K r σ'
      | .panic r,σ'=>Kp r σ'
   | .ux l => if q then False else wW P l (args.map (AX.ev e)) σ fun
      | .ret r,σ'=>K r σ'
      | .panic r,σ'=>Kp r σ'
   | _=>False
 | .mL f args => match f.ev e with
   | .fn (.func n) [] []=>Mf P n (args.map (AX.ev e)) σ K
   | _=>False
 | .len s x => match s, x.ev e with
   | true,.str s=>K (.int .i64 s.length) σ
   | false,.ae=>K (.int .i64 0) σ
   | false,.aK _ _ xs=>K (.int .i64 xs.length) σ
   | false,.own _ _ _ _ n=>K (.int .i64 n) σ
   | _,_=>False
 | .app T el x y=>uL σ T el (x.ev e) (y.ev e) K
 | .IB el x => match x.ev e with
   | .ae=>K .iN σ
   | .own bN l m lo n => bN = el /\ match σ[l]? with
     | some (.cn _ dM xs)=>dM=el/\m=xs.length/\0<n/\K (.fg el l m lo 0) σ
     | _=>False
   | _=>False
 | .Cw T x n => match x.ev e, n.ev e with
   | .iN,.int .i64 k=>k=0/\K (.str []) σ
   | .fg el l m lo off, .int .i64 k => lo = 0 /\ off = 0 /\ el = ⟨false, 1⟩ /\ match σ[l]? with
     | some (.cn T' _ xs)=>T'=some T/\m=xs.length/\0<k/\k<=xs.length/\xs.length<=2 ^ 62/\ ∃ s:List UInt8,xs.take k.toNat=s.map (fun b=>AV.int .u8 b.toNat)/\K (.str s) (σ.set l .dead)
     | _=>False
   | _,_=>False
 | .Pp x => match x.ev e with
   | .ref l off => match σ[l]? with
     | some (.bF _ cs)=>off<cs.length/\K (.ref l off) σ
     | _=>False
   | _=>False
 | .Pq u x => match x.ev e with
   | .ref l off => match σ[l]? with
     | some (.bF (some T) cs)=>liesAt P P.depth T (cs.length / P.cellsOf T) off u 1=true/\K (.ref l off) σ
     | _=>False
   | _=>False
 | .MX neg x y => match x.ev e, y.ev e with
   | .ref l o, .ref l' o' => l = l' /\ o = o' /\ match σ[l]? with
     | some (.bF _ _)=>K (.bool neg.not) σ
     | _=>False
   | _,_=>False
 | .Mg f x => (∃ fn, P.funcs[f]? = some fn ∧ (fn.name == "runtime.NumGoroutine") = false ∧ fn.body.isNone = true ∧ Extern.findNext fn = none ∧ Extern.find fn = some Extern.AbiNoEscape.same) ∧ K (x.ev e) σ
 | .min x xs=>vF true (x.ev e) (xs.map (AX.ev e)) fun v=>K v σ
 | .max x xs=>vF false (x.ev e) (xs.map (AX.ev e)) fun v=>K v σ
 | .rG el zero n c => match n.ev e, c.ev e with
   | .int .i64 k,.int .i64 m=>zero.fits el=true/\0<=k/\k<=m/\m*(el.sz+1)<=2 ^ 40/\K (.own el σ.length k.toNat 0 k.toNat) (σ++[.vec el (List.replicate k.toNat zero)])
   | _,_=>False
 | .panic x => match x.ev e with
   | .qc t v=>Kp (.qc t v) σ
   | _=>False
 | .iZ el=>K (.own el σ.length 0 0 0) (σ++[.vec el []])
 | .hold=>K (.ref σ.length 0) (σ++[.lM])
 | .Cx T x=>(x.ev e).cells.all AV.scalar=true/\K (.ref σ.length 0) (σ++[.bF (some T) (x.ev e).cells])
 | .kY k T cs => match e k with
   | .ref n 0 => match σ[n]? with
     | some .lM=>K (.ref n 0) (σ.set n (.bF T cs))
     | _=>False
   | _=>False
 | .qv k T el x y => match e k with
   | .ref n 0 => match σ[n]? with
     | some .lM => match G_ el (y.ev e) with
       | some ys=>G9 el (x.ev e)=true/\ys.all (fun a=>a.fits el)=true/\fS ys.length el/\K (.own el n ys.length 0 ys.length) (σ.set n (.cn T el ys))
       | none=>False
     | _=>False
   | _=>False
 | .NY x => match x.ev e with
   | .str s=>K (.ref σ.length 0) (σ++[.iY s 0])
   | _=>False
 | .NZ x => match x.ev e with
   | .ref l 0 => match σ[l]? with
     | some (.iY s pos) =>
       if pos<s.length then K (.bX [.bool true,.int .i64 pos,.int .i32 (Utf8.decode ⟨s.toArray⟩ pos).1]) (σ.set l (.iY s (pos+(Utf8.decode ⟨s.toArray⟩ pos).2)))
       else K (.bX [.bool false]) σ
     | _=>False
   | _=>False
 | .vE neg k x y => match tR k (x.ev e) (y.ev e) with
   | some b=>K (.bool (if neg then !b else b)) σ
   | none=>False
end Go.AM
