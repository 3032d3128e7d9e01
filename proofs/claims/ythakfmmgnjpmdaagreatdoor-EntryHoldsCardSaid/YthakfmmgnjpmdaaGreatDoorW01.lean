/- Part. -/
import Derived.Test.YthakfmmgnjpmdaaGreatDoorW00
import Derived.RangeFuncIn
import Derived.RangeFuncLeaves
import Derived.RangeFuncRecord
import Derived.OrdersIn
set_option linter.all false
namespace Go.AM
inductive Out where
 | ret (a:AV)
 | panic (a:AV)
def zA(g:aE)(w:World): Out->Ending->Prop
 | .ret a,.returned v=>VR g w a v
 | .panic a,.panicked chain=> ∃ v,chain=[{ v,recovered:=false }]/\VR g w a v
 | _,_=>False
def Has (P : Program) (f : FuncId) : Prop := ∃ fn, P.funcs[f]? = some fn ∧ fn.body.isSome = true ∧ (fn.name == "runtime.NumGoroutine") = false
def dZ(P:Program)(f:FuncId)(args:List AV)(σ : ae)(R:Out->ae->Prop): Prop :=
 Has P f/\ ∀(g:aE) (w:World) (vs:Array Value),Rel g w σ->args.length=vs.size->(∀ i,i<args.length->VR g w (args.getD i .undef) (vs.getD i Go.undef)) ->
  Calls P f vs w fun e w'=> ∃ out g' σ',Rel g' w' σ'/\e7 σ g w σ' g' w'/\zA g' w' out e/\R out σ'
def dZ.mono{P:Program}{f:FuncId}{args:List AV}{σ : ae}{R R':Out->ae->Prop}(h:dZ P f args σ R)(hr:∀ o σ',R o σ'->R' o σ'): dZ P f args σ R' :=
 ⟨h.1,fun g w vs h1 h2 h3=>(h.2 g w vs h1 h2 h3).mono fun _ _ ⟨out,g',σ',a,b,c,d⟩=>⟨out,g',σ',a,b,c,hr _ _ d⟩⟩
def tH(P:Program)(l:Nat)(args:List AV)(σ : ae)(R:Out->ae->Prop): Prop :=
 (∃ nt e ps ca cb st pe, σ[l]? = some (.loop nt e ps ca cb st pe)) /\ ∀ (g : aE) (w : World) (vs : Array Value) (b : Nat), Rel g w σ -> g.base l = some b -> args.length = vs.size -> (∀ i, i < args.length -> VR g w (args.getD i .undef) (vs.getD i Go.undef)) ->
   ∃ fn tmps assign body,(Instr.yield b vs).run P w = .ok (.round b fn tmps assign body) w/\RoundIn Fence.wide 0 P b fn tmps assign body w fun en w'=> ∃ out g' σ',Rel g' w' σ'/\e7 σ g w σ' g' w'/\zA g' w' out en/\R out σ'
def tH.mono{P:Program}{l:Nat}{args:List AV}{σ : ae}{R R':Out->ae->Prop}(h:tH P l args σ R)(hr:∀ o σ',R o σ'->R' o σ'): tH P l args σ R':=by
 refine⟨h.1,fun g w vs b h1 h2 h3 h4=>?_⟩;obtain⟨fn,tmps,ca,cb,r1,r2⟩:=h.2 g w vs b h1 h2 h3 h4;exact⟨fn,tmps,ca,cb,r1,r2.mono fun _ _ ⟨out,g',σ',a,b,c,d⟩=>⟨out,g',σ',a,b,c,hr _ _ d⟩⟩
def yX(P:Program)(f:FuncId)(args:List AV)(σ : ae)(r:AV): Prop:=dZ P f args σ fun o σ'=>o = .ret r/\σ' = σ
abbrev Env:=Nat->AV
inductive AX where
 | t (n:Nat)
 | c (a:AV)
def AX.ev(e:Env): AX->AV
 | .t n=>e n
 | .c a=>a
def upd(e:Env)(d:Option Nat)(a:AV): Env :=
 match d with
 | some d=>fun n=>if n=d then a else e n
 | none=>e
def ff: List AV->Nat->List AV->List AV
 | cs,_,[]=>cs
 | cs,i,a::az=>ff (cs.set i a) (i+1) az
inductive Kd where
 | b|i|s
deriving DecidableEq
def Oc: Kd->AV->AV->Option Bool
 | .b,.bool a,.bool b=>some (a==b)
 | .i,.int k a,.int k' b=>if k=k' then some (a==b)else none
 | .s,.str a,.str b=>some (a==b)
 | _,_,_=>none
def iB: List Kd->List AV->List AV->Option Bool
 | [],[],[]=>some true
 | k :: ks, a :: az, b :: bs => match Oc k a b, iB ks az bs with
   | some x,some y=>some (x && y)
   | _,_=>none
 | _,_,_=>none
inductive NK where
 | p|i|f|m
deriving DecidableEq
def oX: NK->AV->Option Bool
 | .p,.jA=>some true
 | .p,.ref .. | .p,.eK .. | .p,.fm ..=>some false
 | .i,.kj=>some true
 | .i,.lq ..=>some false
 | .f,.sC=>some true
 | .f,.fn ..=>some false
 | .m,.jB=>some true
 | .m,.mp ..=>some false
 | _,_=>none
def qa(k:NK)(x y:AV): Option Bool :=
 match oX k x,oX k y with
 | some true,some b=>some b
 | some false,some true=>some false
 | _,_=>none
def AV.obj: AV->Option Nat
 | .ref l _=>some l
 | .fm _ l _ _ _=>some l
 | .own _ l _ _ _=>some l
 | .tG _ (.ref l _) _=>some l
 | .tG _ (.fm _ l _ _ _) _=>some l
 | .mp l=>some l
 | _=>none
def AV.adv(d:Nat): AV->AV
 | .ref l o=> .ref l (o+d)
 | .eK el y o=> .eK el y (o+d)
 | .fm el l m i o=> .fm el l m i (o+d)
 | x=>x
def AV.ptr: AV->Bool
 | .ref .. | .eK .. | .fm ..=>true
 | _=>false
def bj.like: bj->bj->Prop
 | .cj T el xs,o=> ∃ ys,o = .cj T el ys/\ys.length=xs.length
 | _,_=>True
def Fa(P:Program)(n:FuncId)(args:List AV)(σ : ae)(K:AV->ae->Prop): Prop:=match args with
 | a::_=> ∃ l ob nj r,a.obj=some l/\σ[l]? = some ob/\ob.like nj/\dZ P n args σ (fun o σ'=>o = .ret r/\σ' = σ.set l nj)/\K r (σ.set l nj)
 | []=>False
inductive fV where
 | sl3 (el:El) (lo:Bool)
 | HV
 | GA (kd:Option IntKind) (ok:Bool) (zero:AV)
 | HW (kd:Option IntKind)
 | GB
 | La (el:El) (n:Nat) (lo hi:Bool)
 | copy (el:El)
 | inv (name:String)
 | apx (el:El)
 | JZ (el:El) (lo:Bool)
 | J0 (el:El)
 | cw (n:FuncId) (k:Nat) (C8:List (Bool × Nat))
 | GC (neg:Bool)
 | Od (T:TypeId) (ok:Bool) (zero:AV)
 | s2a (n:Nat)
 | Zr (kd:Option IntKind) (zero:AV)
 | T8
 | clr (el:El) (zero:AV)
 | pc (n:FuncId)
 | Wx
inductive bg where
 | ex (o:fV) (xs:List AX)
 | mv (x:AX)
 | pick (c a b:AX)
 | alloc (T:Option TypeId) (cs:List AV)
 | box (x:AX)
 | build (zero:List AV) (parts:List (Nat × Nat × AX))
 | mc (mt:Bool) (el:El) (zero:AV) (n:Nat) (parts:List (Nat × AX))
 | load (ag:Bool) (n:Nat) (x:AX)
 | store (n:Nat) (x v:AX)
 | sj (x:AX)
 | bin (op:BinOp) (x y:AX)
 | mN (neg:Bool) (ag:Bool) (ks:List Kd) (x y:AX)
 | un (op:UnOp) (x:AX)
 | ko (k:IntKind) (x:AX)
 | Sw (x:AX)
 | Sx (x:AX)
 | C9 (x:AX)
 | vy (t:TypeId) (x:AX)
 | rH (f:Fn) (first cap:List AX)
 | uK (x:AX) (lo hi:Option AX)
 | uL (el:El) (x:AX) (lo hi:Option AX)
 | qU (off:Nat) (x:AX)
 | field (ag:Bool) (off n:Nat) (x:AX)
 | jT (el:El) (arr:Option Nat) (x i:AX)
 | nR (x i:AX)
 | zB (el:El) (ln:Nat) (x i:AX)
 | ext (x:AX) (i:Nat)
 | call (q:Bool) (f:AX) (args:List AX)
 | sD (f:AX) (args:List AX)
 | len (s:Bool) (x:AX)
 | app (T:Option TypeId) (el:El) (x y:AX)
 | Cx (el:El) (x:AX)
 | xS (T:TypeId) (x n:AX)
 | HX (x:AX)
 | HY (u:TypeId) (x:AX)
 | FW (neg:Bool) (x y:AX)
 | Fb (f:FuncId) (x:AX)
 | min (x:AX) (xs:List AX)
 | max (x:AX) (xs:List AX)
 | pK (el:El) (zero:AV) (n c:AX)
 | panic (x:AX)
 | kK (el:El)
 | hold
 | xU (T:TypeId) (x:AX)
 | lR (k:Nat) (T:Option TypeId) (cs:List AV)
 | qb (k:Nat) (T:Option TypeId) (el:El) (x y:AX)
 | GD (x:AX)
 | GF (x:AX)
 | qV (neg:Bool) (k:NK) (x y:AX)
 | qc (k:Nat) (el:El) (zero:AV) (n c:AX)
def dF(k:IntKind)(n:Int): Int:=k.wrap n
def nr(op:BinOp)(k:IntKind)(x y:Int): Int :=
 let a:=BitVec.ofInt k.bits x
 let b:=BitVec.ofInt k.bits y
 match op with
 | .and=>k.wrap (a &&& b).toNat
 | .or=>k.wrap (a ||| b).toNat
 | .xor=>k.wrap (a ^^^ b).toNat
 | _=>k.wrap (a &&& ~~~b).toNat
def kp(op:BinOp)(x y:AV)(K:AV->Prop): Prop :=
 match op,x,y with
 | .shl,.int k a,.int _ b=>0<=b/\K (.int k (dF k (a*2 ^ (Nat.min b.toNat k.bits))))
 | .shr,.int k a,.int _ b=>0<=b/\K (.int k (a.fdiv (2 ^ (Nat.min b.toNat k.bits))))
 | .add,.int k a,.int k' b=>k=k'/\K (.int k (dF k (a+b)))
 | .sub,.int k a,.int k' b=>k=k'/\K (.int k (dF k (a-b)))
 | .mul,.int k a,.int k' b=>k=k'/\K (.int k (dF k (a*b)))
 | .quo,.int k a,.int k' b=>k=k'/\b≠0/\K (.int k (dF k (a.tdiv b)))
 | .rem,.int k a,.int k' b=>k=k'/\b≠0/\K (.int k (a.tmod b))
 | .and,.int k a,.int k' b=>k=k'/\K (.int k (nr .and k a b))
 | .or,.int k a,.int k' b=>k=k'/\K (.int k (nr .or k a b))
 | .xor,.int k a,.int k' b=>k=k'/\K (.int k (nr .xor k a b))
 | .andNot,.int k a,.int k' b=>k=k'/\K (.int k (nr .andNot k a b))
 | .eql,.int k a,.int k' b=>k=k'/\K (.bool (a==b))
 | .neq,.int k a,.int k' b=>k=k'/\K (.bool (!(a==b)))
 | .lss,.int k a,.int k' b=>k=k'/\K (.bool (decide (a<b)))
 | .leq,.int k a,.int k' b=>k=k'/\K (.bool (decide (a<=b)))
 | .gtr,.int k a,.int k' b=>k=k'/\K (.bool (decide (b<a)))
 | .geq,.int k a,.int k' b=>k=k'/\K (.bool (decide (b<=a)))
 | .add,.str a,.str b=>((a.length+b.length:Nat):Int)<=IntKind.i64.max/\K (.str (a++b))
 | .eql,.str a,.str b=>K (.bool (a==b))
 | .neq,.str a,.str b=>K (.bool (!(a==b)))
 | .lss,.str a,.str b=>K (.bool (Op.bytesLess a b))
 | .leq,.str a,.str b=>K (.bool (Op.bytesLess a b || a==b))
 | .gtr,.str a,.str b=>K (.bool (!(Op.bytesLess a b || a==b)))
 | .geq,.str a,.str b=>K (.bool (!Op.bytesLess a b))
 | _,_,_=>False
def C_(op:UnOp)(x:AV)(K:AV->Prop): Prop :=
 match op,x with
 | .not,.bool b=>K (.bool (!b))
 | .neg,.int k n=>K (.int k (dF k (0-n)))
 | .xor,.int k n=>K (.int k (nr .xor k (if k.signed then -1 else k.max) n))
 | _,_=>False
def bound(x:Option AV)(d:Nat)(y:Nat)(K:Nat->Prop): Prop :=
 match x with
 | none=>K d
 | some (.int _ i)=>0<=i/\i<=y/\K i.toNat
 | _=>False
def partOf(el:El)(x:AV)(off:Nat)(ag:Bool)(n:Nat)(K:AV->Prop): Prop :=
 if off=0/\n=el.sz/\ag=el.ag then K x
 else off+n<=el.sz/\match x with
  | .agg cs=>K (if ag then .agg ((cs.drop off).take n)else cs.getD off .undef)/\(ag=false->n=1)
  | _=>False
def iS(σ : ae)(ag:Bool)(n:Nat)(p:AV)(K:AV->Prop): Prop :=
 match p with
 | .ref l off => match σ[l]? with
   | some (.bM _ cs)=>off+n<=cs.length/\(ag=false->n=1)/\K (if ag then .agg ((cs.drop off).take n)else cs.getD off .undef)
   | _=>False
 | .eK el x off=>partOf el x off ag n K
 | .fm el l m i off => match σ[l]? with
   | some (.cj T aZ xs)=>aZ=el/\m=xs.length/\i<xs.length/\partOf el (xs.getD i .undef) off ag n K
   | _=>False
 | _=>False
def oc(σ : ae)(n:Nat)(p v:AV)(K:ae->Prop): Prop :=
 v.cells.length=n/\v.cells.all AV.scalar=true /\
 match p with
 | .ref l off => match σ[l]? with
   | some (.bM T cs)=>off+n<=cs.length/\K (σ.set l (.bM T (ff cs off v.cells)))
   | _=>False
 | .fm el l m i off => match σ[l]? with
   | some (.cj T aZ xs) => aZ = el /\ m = xs.length /\ i < xs.length /\ off + n <= el.sz /\ (el.ag = false -> v.fits el = true) /\
      K (σ.set l (.cj T el (xs.set i (if el.ag then .agg (ff (xs.getD i .undef).cells off v.cells)else v))))
   | _=>False
 | _=>False
def gj(σ : ae)(el:El)(x:AV)(K:List AV->Prop): Prop :=
 match x with
 | .aA=>K []
 | .aN _ aZ xs=>aZ=el/\K xs
 | .own aZ l m lo n => aZ = el /\ match σ[l]? with
   | some (.cj T aY xs)=>aY=el/\m=xs.length/\K ((xs.drop lo).take n)
   | _=>False
 | .str s=>el=⟨false,1⟩/\K (s.map fun b=> .int .u8 b.toNat)
 | .tG aZ p n=>aZ=el/\el=⟨false,1⟩/\iS σ true n p fun v=>K v.cells
 | _=>False
def gN(n:Nat)(el:El): Prop:=n*(el.sz+1)<=2 ^ 40
def pU(σ : ae)(T:Option TypeId)(el:El)(x y:AV)(K:AV->ae->Prop): Prop :=
 gj σ el y fun ys=>ys.all (fun a=>a.fits el)=true /\
 match x with
 | .aA=>if ys.length=0 then K .aA σ else gN ys.length el/\K (.own el σ.length ys.length 0 ys.length) (σ++[.cj T el ys])
 | .aN true aZ xs => aZ = el /\ if ys.length = 0 then K (.aN true el xs) σ else
    gN (xs.length+ys.length) el/\K (.own el σ.length (xs.length+ys.length) 0 (xs.length+ys.length)) (σ++[.cj T el (xs++ys)])
 | .own aZ l m lo n => aZ = el /\ match σ[l]? with
   | some (.cj T' aY xs) => (T' = none \/ T' = T) /\ aY = el /\ m = xs.length /\ lo = 0 /\ n = xs.length /\ gN (xs.length + ys.length) el /\
      K (.own el l (xs.length+ys.length) 0 (xs.length+ys.length)) (σ.set l (.cj T' el (xs++ys)))
   | _=>False
 | _=>False
def Da(op:Bool)(x y:AV)(K:AV->Prop): Prop :=
 match x,y with
 | .int k a,.int _ b=>K (.int k (if op then(if b<a then b else a)else (if b>a then b else a)))
 | _,_=>False
def sk(op:Bool)(x:AV): List AV->(AV->Prop)->Prop
 | [],K=>K x
 | y::ys,K=>Da op x y fun z=>sk op z ys K
def mO(zero:List AV)(e:Env): List (Nat × Nat × AX)->(List AV->Prop)->Prop
 | [],K=>K zero
 |(off,n,x)::r,K=>(x.ev e).cells.length=n/\(x.ev e).cells.all AV.scalar=true/\off+n<=zero.length/\mO (ff zero off (x.ev e).cells) e r K
def lT(el:El)(xs:List AV)(e:Env): List (Nat × AX)->(List AV->Prop)->Prop
 | [],K=>K xs
 |(i,x)::r,K=>(x.ev e).fits el=true/\i<xs.length/\lT el (xs.set i (x.ev e)) e r K
def T9(el:El): AV->Bool
 | .aA=>true
 | .aN true aZ xs=>aZ==el && xs.isEmpty
 | _=>false
def T_(el:El): AV->Option (List AV)
 | .aA=>some []
 | .aN _ aZ xs=>if aZ=el then some xs else none
 | _=>none
def NY: AV->AV->Option Bool
 | .str a,.str b=>some (a==b)
 | .int k a,.int k' b=>if k=k' then some (a==b)else none
 | _,_=>none
def od(k:AV): List (AV × AV)->Nat->Option (Option (Nat × AV))
 | [],_=>some none
 | (q, v) :: r, i => match NY k q with
   | some true=>some (some (i,v))
   | some false=>od k r (i+1)
   | none=>none
def Oe(k v:AV)(es:List (AV × AV)): Option (List (AV × AV)):=match od k es 0 with
 | some (some (i,_))=>some (es.set i (k,v))
 | some none=>some (es++[(k,v)])
 | none=>none
def AV.tI: Option IntKind->AV->Bool
 | none,.str _=>true
 | some k,.int k' _=>k==k'
 | _,_=>false
def Og(P:Program)(t:TypeId)(name:String): Option FuncId:=match P.info? t,P.underlying t with
 | some i, some (.pointer _) => match i.methods.find? (·.name == name) with
   | some m => match m.func with
     | some (f,true)=>if m.path.isEmpty then some f else none
     | _=>none
   | none=>none
 | _,_=>none
def oY(lo:Option AV)(hi mx:AV)(cap:Nat)(K:Nat->Nat->Nat->Prop): Prop :=
 bound (some mx) 0 cap fun m=>bound (some hi) 0 m fun h=>bound lo 0 h fun l=>K l h m
def zC(σ : ae)(el:El)(x:AV)(lo:Option AV)(hi mx:AV)(K:AV->ae->Prop): Prop :=
 match x with
 | .aA=>oY lo hi mx 0 fun _ _ _=>K .aA σ
 | .aN _ aZ xs=>aZ=el/\oY lo hi mx xs.length fun l h m=>K (.aN (h==m) el ((xs.drop l).take (h-l))) σ
 | .own aZ l0 m0 o n => aZ = el /\ match σ[l0]? with
   | some (.cj _ aY xs) => aY = el /\ m0 = xs.length /\ o + n <= m0 /\ oY lo hi mx n fun l h m =>
      if m=l then K (.aN true el []) σ else h=m/\K (.aN true el ((xs.drop (o+l)).take (h-l))) (σ.set l0 .dead)
   | _=>False
 | _=>False
def vz(el:El)(x:AV)(lo:Option AV)(hi mx:AV)(K:AV->Prop): Prop :=
 match x with
 | .aA=>oY lo hi mx 0 fun _ _ _=>K .aA
 | .aN _ aZ xs=>aZ=el/\oY lo hi mx xs.length fun l h m=>K (.aN (h==m) el ((xs.drop l).take (h-l)))
 | .own aZ _ _ _ _=>aZ=el/\oY lo hi mx 0 fun _ _ _=>K (.aN true el [])
 | _=>False
def Db(σ : ae)(el:El)(x:AV)(ys:List AV)(K:AV->ae->Prop): Prop :=
 match x with
 | .aA=>K (.int .i64 0) σ
 | .aN _ aZ []=>aZ=el/\K (.int .i64 0) σ
 | .tG aZ p n=>aZ=el/\el=⟨false,1⟩/\oc σ (min ys.length n) p (.agg (ys.take n)) fun σ'=>K (.int .i64 (min ys.length n:Nat)) σ'
 | .own aZ l m o n => aZ = el /\ match σ[l]? with
   | some (.cj T aY xs)=>aY=el/\m=xs.length/\o+n<=m/\K (.int .i64 (min ys.length n:Nat)) (σ.set l (.cj T el (ff xs o (ys.take n))))
   | _=>False
 | _=>False
def HZ(σ : ae)(el:El)(x y:AV)(K:AV->ae->Prop): Prop :=
 gj σ el y fun ys=>ys.all (fun a=>a.fits el)=true/\Db σ el x ys K
def GG(σ : ae)(el:El)(x y:AV)(K:AV->ae->Prop): Prop :=
 match x with
 | .own aZ l m (lo + 1) n => aZ = el /\ gj σ el y fun ys => ys.all (fun a => a.fits el) = true /\ match σ[l]? with
   | some (.cj _ aY xs) => aY = el /\ m = xs.length /\ lo + 1 + n = m /\ gN (n + ys.length) el /\
      K (.own el σ.length (n+ys.length) 0 (n+ys.length)) (σ.set l .dead++[.vec el (xs.drop (lo+1)++ys)])
   | _=>False
 | x=>pU σ none el x y K
def Fc(σ : ae)(el:El)(x y:AV)(K:AV->Prop): Prop :=
 gj σ el y fun ys=>ys.all (fun a=>a.fits el)=true/\ys.length≠0/\match x with
  | .aA=>gN ys.length el/\K (.aN false el ys)
  | .aN true aZ xs=>aZ=el/\gN (xs.length+ys.length) el/\K (.aN false el (xs++ys))
  | _=>False
def Bl(el:El)(n:Nat)(p:AV)(lo hi:Option AV)(K:AV->Prop): Prop :=
 p.ptr=true/\bound hi n n fun h=>bound lo 0 h fun l=>K (if h=l then .aN false el []else .tG el (p.adv (l*el.sz)) (h-l))
def wZ(σ : ae)(x:AV)(K:Bool->Prop): Prop:=match x with
 | .aA=>K true
 | .aN _ _ (_::_)=>K false
 | .tG ..=>K false
 | .own _ l m _ n => match σ[l]? with
   | some (.cj _ _ xs)=>m=xs.length/\0<n/\K false
   | _=>False
 | _=>False
def H6(σ σ2:ae): List (Bool × Nat)->List AV->Prop
 | [],_=>True
 |(ag,n)::r,p::ps=>(∃ v,iS σ ag n p (fun u=>u=v)/\iS σ2 ag n p (fun u=>u=v))/\H6 σ σ2 r ps
 | _::_,[]=>False
def xV(T:TypeId)(ok:Bool)(z x:AV)(K:AV->Prop): Prop:=match x with
 | .lq t v=>if t=T then K (if ok then .bH [v,.bool true]else v)else ok=true/\K (.bH [z,.bool false])
 | .kj=>ok=true/\K (.bH [z,.bool false])
 | _=>False
def Bm(σ : ae)(n:Nat)(x:AV)(K:AV->ae->Prop): Prop:=match x with
 | .aN _ aZ xs=>aZ=⟨false,1⟩/\0<n/\n<=xs.length/\K (.eK ⟨true,n⟩ (.agg (xs.take n)) 0) σ
 | .own aZ l m o k => aZ = ⟨false, 1⟩ /\ match σ[l]? with
   | some (.cj _ aY xs)=>aY=⟨false,1⟩/\m=xs.length/\o+k<=m/\0<n/\n<=k/\K (.eK ⟨true,n⟩ (.agg ((xs.drop o).take n)) 0) (σ.set l .dead)
   | _=>False
 | _=>False
def w5(σ : ae)(kd:Option IntKind)(zero x k:AV)(K:AV->ae->Prop): Prop:=match x with
 | .mp l => k.tI kd = true /\ match σ[l]? with
   | some (.map es) => match od k es 0 with
     | some (some (i,v))=>K (.bH [v,.int .i64 i]) σ
     | some none=>K (.bH [zero,.int .i64 es.length]) (σ.set l (.map (es++[(k,zero)])))
     | none=>False
   | _=>False
 | _=>False
def vA(σ : ae)(x s v:AV)(K:ae->Prop): Prop:=match x,s with
 | .mp l, .int .i64 z => match σ[l]? with
   | some (.map es)=>0<=z/\z.toNat<es.length/\K (σ.set l (.map (es.set z.toNat ((es.getD z.toNat default).1,v))))
   | _=>False
 | _,_=>False
def Bn(σ : ae)(el:El)(zero x:AV)(K:ae->Prop): Prop:=match x with
 | .aA=>K σ
 | .aN _ _ []=>K σ
 | .own aZ l m o n => aZ = el /\ zero.fits el = true /\ match σ[l]? with
   | some (.cj T aY xs)=>aY=el/\m=xs.length/\o+n<=m/\K (σ.set l (.cj T el (ff xs o (List.replicate n zero))))
   | _=>False
 | _=>False
def xW(σ : ae)(x:AV)(K:AV->ae->Prop): Prop:=match x with
 | .aA=>K .aA σ
 | .aN f el xs=>K (.aN f el xs) σ
 | .own el l m lo n => match σ[l]? with
   | some (.cj _ aZ xs)=>aZ=el/\m=xs.length/\lo+n<=m/\K (.aN false el ((xs.drop lo).take n)) (σ.set l .dead)
   | _=>False
 | _=>False
def pcK(K Kp:AV->Prop): Out->Prop
 | .ret r=>K r
 | .panic v=>Kp v
def fV.run(P:Program)(o:fV)(vs:List AV)(σ : ae)(K Kp:AV->ae->Prop): Prop :=
 match o,vs with
 | .sl3 el false,[x,hi,mx]=>zC σ el x none hi mx K
 | .sl3 el true,[x,lo,hi,mx]=>zC σ el x (some lo) hi mx K
 | .HV,[]=>K (.mp σ.length) (σ++[.map []])
 | .GA kd ok zero,[.jB,k]=>k.tI kd=true/\K (if ok then .bH [zero,.bool false]else zero) σ
 | .GA kd ok zero, [.mp l, k] => k.tI kd = true /\ match σ[l]? with
   | some (.map es) => match od k es 0 with
     | some (some (_,v))=>K (if ok then .bH [v,.bool true]else v) σ
     | some none=>K (if ok then .bH [zero,.bool false]else zero) σ
     | none=>False
   | _=>False
 | .HW kd, [.mp l, k, v] => k.tI kd = true /\ match σ[l]? with
   | some (.map es) => match Oe k v es with
     | some es'=>K (.bH []) (σ.set l (.map es'))
     | none=>False
   | _=>False
 | .GB,[.jB]=>K (.int .i64 0) σ
 | .GB, [.mp l] => match σ[l]? with
   | some (.map es)=>K (.int .i64 es.length) σ
   | _=>False
 | .La el n false false,[p]=>Bl el n p none none fun v=>K v σ
 | .La el n true false,[p,a]=>Bl el n p (some a) none fun v=>K v σ
 | .La el n false true,[p,b]=>Bl el n p none (some b) fun v=>K v σ
 | .La el n true true,[p,a,b]=>Bl el n p (some a) (some b) fun v=>K v σ
 | .copy el,[x,y]=>HZ σ el x y K
 | .apx el,[x,y]=>GG σ el x y K
 | .J0 el,[x,y]=>Fc σ el x y fun v=>K v σ
 | .GC neg,[x]=>wZ σ x fun r=>K (.bool (if neg then !r else r)) σ
 | .cw n k C8,x::vs=> ∃ r σ2,dZ P n ((x::vs).take k) σ (fun o σ'=>o = .ret r/\σ' = σ2)/\H6 σ σ2 C8 ((x::vs).drop k)/\K r σ2
 | .JZ el false,[x,hi,mx]=>vz el x none hi mx fun v=>K v σ
 | .JZ el true,[x,lo,hi,mx]=>vz el x (some lo) hi mx fun v=>K v σ
 | .inv name, .lq t v :: r => match Og P t name with
   | some f => dZ P f (v :: r) σ fun
     | .ret r,σ'=>K r σ'
     | .panic r,σ'=>Kp r σ'
   | none=>False
 | .Od T ok z,[x]=>xV T ok z x fun v=>K v σ
 | .s2a n,[x]=>Bm σ n x K
 | .Zr kd z,[x,k]=>w5 σ kd z x k K
 | .T8,[x,s,v]=>vA σ x s v fun σ'=>K (.bH []) σ'
 | .clr el z,[x]=>Bn σ el z x fun σ'=>K (.bH []) σ'
 | .pc n,vs=> ∃ o,(∀ s,dZ P n vs s fun o' s'=>o'=o/\s'=s)/\pcK (fun r=>K r σ) (fun v=> ∀ s,Kp v s) o
 | .Wx,[x]=>xW σ x K
 | _,_=>False
def bg.run(P:Program)(o:bg)(e:Env)(σ : ae)(K:AV->ae->Prop)(Kp:AV->ae->Prop): Prop :=
 match o with
 | .ex o xs=>o.run P (xs.map (AX.ev e)) σ K Kp
 | .mv x=>K (x.ev e) σ
 | .pick c a b => match c.ev e with
   | .bool t=>K (if t then a.ev e else b.ev e) σ
   | _=>False
 | .alloc T cs=>K (.ref σ.length 0) (σ++[.bM T cs])
 | .box x=>(x.ev e).cells.all AV.scalar=true/\K (.ref σ.length 0) (σ++[.cells (x.ev e).cells])
 | .build zero parts=>mO zero e parts fun cs=>K (.agg cs) σ
 | .mc mt el zero n parts => lT el (List.replicate n zero) e parts fun xs =>
    if mt then K (.own el σ.length n 0 n) (σ++[.vec el xs])else K (.aN true el xs) σ
 | .load ag n x=>iS σ ag n (x.ev e) fun v=>K v σ
 | .store n x v=>oc σ n (x.ev e) (v.ev e) fun σ'=>K (.bH []) σ'
 | .sj x => match x.ev e with
   | .ref .. | .eK .. | .fm .. | .lq .. | .fn (.func _) _ _ | .rM _=>K (x.ev e) σ
   | _=>False
 | .bin op x y=>kp op (x.ev e) (y.ev e) fun v=>K v σ
 | .mN neg ag ks x y => match (if ag then (match x.ev e, y.ev e with | .agg az, .agg bs => iB ks az bs | _, _ => none) else iB ks [x.ev e] [y.ev e]) with
   | some b=>K (.bool (if neg then !b else b)) σ
   | none=>False
 | .un op x=>C_ op (x.ev e) fun v=>K v σ
 | .ko k x => match x.ev e with
   | .int _ n=>K (.int k (dF k n)) σ
   | _=>False
 | .Sw x => match x.ev e with
   | .str s=>K (.str s) σ
   | _=>False
 | .Sx x => match x.ev e with
   | .str s=>s.length<=2 ^ 40/\K (.own ⟨false,1⟩ σ.length s.length 0 s.length) (σ++[.vec ⟨false,1⟩ (s.map fun b=> .int .u8 b.toNat)])
   | _=>False
 | .C9 x=>(match x.ev e with | .str _=>False|_=>True)/\gj σ ⟨false,1⟩ (x.ev e) fun xs=> ∃ s:List UInt8,xs=s.map (fun b=>AV.int .u8 b.toNat)/\K (.str s) σ
 | .vy t x=>K (.lq t (x.ev e)) σ
 | .rH f first cap=>K (.fn f (first.map (AX.ev e)) (cap.map (AX.ev e))) σ
 | .uK x lo hi => match x.ev e with
   | .str s=>bound (hi.map (AX.ev e)) s.length s.length fun h=>bound (lo.map (AX.ev e)) 0 h fun l=>K (.str ((s.drop l).take (h-l))) σ
   | _=>False
 | .uL el x lo hi => match x.ev e with
   | .aA=>bound (hi.map (AX.ev e)) 0 0 fun h=>bound (lo.map (AX.ev e)) 0 h fun _=>K .aA σ
   | .aN _ aZ xs=>aZ=el/\bound (hi.map (AX.ev e)) xs.length xs.length fun h=>bound (lo.map (AX.ev e)) 0 h fun l=>K (.aN false el ((xs.drop l).take (h-l))) σ
   | .own aZ l m o n => aZ = el /\ match σ[l]? with
     | some (.cj T aY xs)=>aY=el/\m=xs.length/\o+n<=m/\bound (hi.map (AX.ev e)) n n fun h=>bound (lo.map (AX.ev e)) 0 h fun k=>K (.own el l m (o+k) (h-k)) σ
     | _=>False
   | _=>False
 | .qU off x => match x.ev e with
   | .ref l o=>K (.ref l (o+off)) σ
   | .eK el y o=>K (.eK el y (o+off)) σ
   | .fm el l m i o=>K (.fm el l m i (o+off)) σ
   | _=>False
 | .field ag off n x => match x.ev e with
   | .agg cs=>off+n<=cs.length/\(ag=false->n=1)/\K (if ag then .agg ((cs.drop off).take n)else cs.getD off .undef) σ
   | _=>False
 | .jT el arr x i => match i.ev e with
   | .int _ k => match arr, x.ev e with
     | none,.aN _ aZ xs=>aZ=el/\0<=k/\k<xs.length/\K (.eK el (xs.getD k.toNat .undef) 0) σ
     | none, .own aZ l m o n => aZ = el /\ 0 <= k /\ k < n /\ match σ[l]? with
       | some (.cj T aY xs)=>aY=el/\m=xs.length/\K (.fm el l m (o+k.toNat) 0) σ
       | _=>False
     | some n,.ref l o=>0<=k/\k<n/\K (.ref l (o+k.toNat*el.sz)) σ
     | some n,.eK aZ y o=>0<=k/\k<n/\K (.eK aZ y (o+k.toNat*el.sz)) σ
     | some n,.fm aZ l m j o=>0<=k/\k<n/\K (.fm aZ l m j (o+k.toNat*el.sz)) σ
     | _,_=>False
   | _=>False
 | .nR x i => match x.ev e, i.ev e with
   | .str s,.int _ k=>0<=k/\k<s.length/\K (.int .u8 (s.getD k.toNat 0).toNat) σ
   | _,_=>False
 | .zB el ln x i => match x.ev e, i.ev e with
   | .agg cs, .int _ k => 0 <= k /\ k < ln /\ (k.toNat * el.sz + el.sz <= cs.length) /\ (el.ag = false -> el.sz = 1) /\
      K (if el.ag then .agg ((cs.drop (k.toNat*el.sz)).take el.sz)else cs.getD (k.toNat*el.sz) .undef) σ
   | _,_=>False
 | .ext x i => match x.ev e with
   | .bH vs=>i<vs.length/\K (vs.getD i .undef) σ
   | _=>False
 | .call q f args => match f.ev e with
   | .fn (.func n) first cap =>
     if q then ∃ r,(∀ τ,yX P n (first++args.map (AX.ev e)++cap) (σ++ τ) r)/\K r σ
     else dZ P n (first++args.map (AX.ev e)++cap) σ fun
      | .ret r,σ'=>K r σ'
      | .panic r,σ'=>Kp r σ'
   | .rM l => if q then False else tH P l (args.map (AX.ev e)) σ fun
      | .ret r,σ'=>K r σ'
      | .panic r,σ'=>Kp r σ'
   | _=>False
 | .sD f args => match f.ev e with
   | .fn (.func n) [] []=>Fa P n (args.map (AX.ev e)) σ K
   | _=>False
 | .len s x => match s, x.ev e with
   | true,.str s=>K (.int .i64 s.length) σ
   | false,.aA=>K (.int .i64 0) σ
   | false,.aN _ _ xs=>K (.int .i64 xs.length) σ
   | false,.own _ _ _ _ n=>K (.int .i64 n) σ
   | _,_=>False
 | .app T el x y=>pU σ T el (x.ev e) (y.ev e) K
 | .Cx el x => match x.ev e with
   | .aA=>K .jA σ
   | .own aZ l m lo n => aZ = el /\ match σ[l]? with
     | some (.cj _ aY xs)=>aY=el/\m=xs.length/\0<n/\K (.fm el l m lo 0) σ
     | _=>False
   | _=>False
 | .xS T x n => match x.ev e, n.ev e with
   | .jA,.int .i64 k=>k=0/\K (.str []) σ
   | .fm el l m lo off, .int .i64 k => lo = 0 /\ off = 0 /\ el = ⟨false, 1⟩ /\ match σ[l]? with
     | some (.cj T' _ xs)=>T'=some T/\m=xs.length/\0<k/\k<=xs.length/\xs.length<=2 ^ 62/\ ∃ s:List UInt8,xs.take k.toNat=s.map (fun b=>AV.int .u8 b.toNat)/\K (.str s) (σ.set l .dead)
     | _=>False
   | _,_=>False
 | .HX x => match x.ev e with
   | .ref l off => match σ[l]? with
     | some (.bM _ cs)=>off<cs.length/\K (.ref l off) σ
     | _=>False
   | _=>False
 | .HY u x => match x.ev e with
   | .ref l off => match σ[l]? with
     | some (.bM (some T) cs)=>liesAt P P.depth T (cs.length / P.cellsOf T) off u 1=true/\K (.ref l off) σ
     | _=>False
   | _=>False
 | .FW neg x y => match x.ev e, y.ev e with
   | .ref l o, .ref l' o' => l = l' /\ o = o' /\ match σ[l]? with
     | some (.bM _ _)=>K (.bool neg.not) σ
     | _=>False
   | _,_=>False
 | .Fb f x => (∃ fn, P.funcs[f]? = some fn ∧ (fn.name == "runtime.NumGoroutine") = false ∧ fn.body.isNone = true ∧ Extern.findNext fn = none ∧ Extern.find fn = some Extern.AbiNoEscape.same) ∧ K (x.ev e) σ
 | .min x xs=>sk true (x.ev e) (xs.map (AX.ev e)) fun v=>K v σ
 | .max x xs=>sk false (x.ev e) (xs.map (AX.ev e)) fun v=>K v σ
 | .pK el zero n c => match n.ev e, c.ev e with
   | .int .i64 k,.int .i64 m=>zero.fits el=true/\0<=k/\k<=m/\m*(el.sz+1)<=2 ^ 40/\K (.own el σ.length k.toNat 0 k.toNat) (σ++[.vec el (List.replicate k.toNat zero)])
   | _,_=>False
 | .panic x => match x.ev e with
   | .lq t v=>Kp (.lq t v) σ
   | _=>False
 | .kK el=>K (.own el σ.length 0 0 0) (σ++[.vec el []])
 | .hold=>K (.ref σ.length 0) (σ++[.resv])
 | .xU T x=>(x.ev e).cells.all AV.scalar=true/\K (.ref σ.length 0) (σ++[.bM (some T) (x.ev e).cells])
 | .lR k T cs => match e k with
   | .ref n 0 => match σ[n]? with
     | some .resv=>K (.ref n 0) (σ.set n (.bM T cs))
     | _=>False
   | _=>False
 | .qb k T el x y => match e k with
   | .ref n 0 => match σ[n]? with
     | some .resv => match T_ el (y.ev e) with
       | some ys=>T9 el (x.ev e)=true/\ys.all (fun a=>a.fits el)=true/\gN ys.length el/\K (.own el n ys.length 0 ys.length) (σ.set n (.cj T el ys))
       | none=>False
     | _=>False
   | _=>False
 | .qc k el zero n c => match e k with
   | .ref l 0 => match σ[l]? with
     | some .resv => match n.ev e, c.ev e with
       | .int .i64 i,.int .i64 m=>zero.fits el=true/\0<i/\i<=m/\m*(el.sz+1)<=2 ^ 40/\K (.own el l i.toNat 0 i.toNat) (σ.set l (.vec el (List.replicate i.toNat zero)))
       | _,_=>False
     | _=>False
   | _=>False
 | .GD x => match x.ev e with
   | .str s=>K (.ref σ.length 0) (σ++[.jo s 0])
   | _=>False
 | .GF x => match x.ev e with
   | .ref l 0 => match σ[l]? with
     | some (.jo s pos) =>
       if pos<s.length then K (.bH [.bool true,.int .i64 pos,.int .i32 (Utf8.decode ⟨s.toArray⟩ pos).1]) (σ.set l (.jo s (pos+(Utf8.decode ⟨s.toArray⟩ pos).2)))
       else K (.bH [.bool false]) σ
     | _=>False
   | _=>False
 | .qV neg k x y => match qa k (x.ev e) (y.ev e) with
   | some b=>K (.bool (if neg then !b else b)) σ
   | none=>False
