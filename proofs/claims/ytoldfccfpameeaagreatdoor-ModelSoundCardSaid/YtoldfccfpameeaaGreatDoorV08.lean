/- Part. -/
import Derived.Test.YtoldfccfpameeaaGreatDoorV07
set_option linter.all false
namespace Go.Proofs.YtoldfccfpameeaaGreatDoor
open Go.AM
abbrev aT:=List UInt8
structure aW where
 kind:Int
 n:Int
 s:aT
deriving DecidableEq,Inhabited
structure Tok where
 kind:Int
 s:aT
 n:Int
 pos:Int
deriving DecidableEq,Inhabited
inductive Expr where
 | mk (op:Int) (v:aW) (s:aT) (l:List Expr)
instance:Inhabited Expr:=⟨.mk 0 ⟨0,0,[]⟩ [] []⟩
def Expr.op: Expr->Int | .mk op _ _ _=>op
def Expr.v: Expr->aW | .mk _ v _ _=>v
def Expr.s: Expr->aT | .mk _ _ s _=>s
def Expr.l: Expr->List Expr | .mk _ _ _ l=>l
structure Test where
 kind:Int
 a:Expr
 b:Expr
 lo:Bool
 hi:Bool
deriving Inhabited
structure Cell where
 any:Bool
 neg:Bool
 tests:List Test
deriving Inhabited
structure cJ where
 name:aT
 kind:Int
 order:List aW
deriving Inhabited
structure h_ where
 cells:List aT
 outs:List aT
deriving Inhabited
structure Table where
 name:aT
 ins:List cJ
 outs:List cJ
 bY:Int
 agg:Int
 rules:List h_
deriving Inhabited
structure kF where
 cells:List Cell
 outs:List Expr
deriving Inhabited
structure Ready where
 table:Table
 lines:List kF
deriving Inhabited
abbrev I(n:Int): AV:= .int .i64 n
abbrev E1: El:=⟨false,1⟩
abbrev EV: El:=⟨true,3⟩
abbrev ET: El:=⟨true,4⟩
abbrev EX: El:=⟨true,6⟩
abbrev ES: El:=⟨true,15⟩
abbrev EC: El:=⟨true,3⟩
abbrev ER: El:=⟨true,2⟩
def cR(v:aW): AV:= .agg [I v.kind,I v.n,.str v.s]
def tN(t:Tok): AV:= .agg [I t.kind,.str t.s,I t.n,I t.pos]
def eZ(s:aT): AV:= .str s
def bt: Expr->AV
 | .mk op v s l=> .agg [I op,I v.kind,I v.n,.str v.s,.str s,.aS false EX (l.map bt)]
def eA(l:List Expr): AV:= .aS false EX (l.map bt)
def dR(t:Test): AV:= .agg [I t.kind,I t.a.op,I t.a.v.kind,I t.a.v.n,.str t.a.v.s,.str t.a.s,eA t.a.l,I t.b.op,I t.b.v.kind,I t.b.v.n,.str t.b.v.s,.str t.b.s,eA t.b.l,.bool t.lo,.bool t.hi]
def jt(l:List Test): AV:= .aS false ES (l.map dR)
def ei(c:Cell): AV:= .agg [.bool c.any,.bool c.neg,jt c.tests]
def br(l:List aW): AV:= .aS false EV (l.map cR)
def wk(l:List Tok): AV:= .aS false ET (l.map tN)
def jL(l:List aT): AV:= .aS false E1 (l.map eZ)
def dU(c:cJ): AV:= .agg [.str c.name,I c.kind,br c.order]
def b_(l:List cJ): AV:= .aS false EC (l.map dU)
def fZ(r:h_): AV:= .agg [jL r.cells,jL r.outs]
def eL(l:List h_): AV:= .aS false ER (l.map fZ)
def fU(t:Table): List AV:=[.str t.name,b_ t.ins,b_ t.outs,I t.bY,I t.agg,eL t.rules]
def dP(t:Table): AV:= .agg (fU t)
def sR(l:List Cell): AV:= .aS false EC (l.map ei)
def mF(l:kF): AV:= .agg [sR l.cells,eA l.outs]
def qb(l:List kF): AV:= .aS false ER (l.map mF)
def lB(r:Ready): AV:= .agg [.str r.table.name,b_ r.table.ins,b_ r.table.outs,I r.table.bY,I r.table.agg,eL r.table.rules,qb r.lines]
def bK(x:Expr): bt x = .agg [I x.op,I x.v.kind,I x.v.n,.str x.v.s,.str x.s,.aS false EX (x.l.map bt)]:=by
 cases x;simp only[bt];rfl
def Expr.ind{C:Expr->Prop}(h:∀ op v s l,(∀ y ∈ l,C y)->C (.mk op v s l)): ∀ x,C x
 | .mk op v s l=>h op v s l fun y _=>Expr.ind h y
attribute [go_sem] bK cR tN dR ei dU fZ fU dP mF lB eZ eA jt br wk jL b_ eL sR qb
@[go_sem] def Expr.aeO (op:Int) (v:aW) (s:aT) (l:List Expr):(Expr.mk op v s l).op=op:=_root_.id rfl
@[go_sem] def Expr.ahI (op:Int) (v:aW) (s:aT) (l:List Expr):(Expr.mk op v s l).v=v:=_root_.id rfl
@[go_sem] def Expr.ahJ (op:Int) (v:aW) (s:aT) (l:List Expr):(Expr.mk op v s l).s=s:=_root_.id rfl
@[go_sem] def Expr.ahK (op:Int) (v:aW) (s:aT) (l:List Expr):(Expr.mk op v s l).l=l:=_root_.id rfl
def Dc(v:aW): (cR v).dy=true:=rfl
def Jr(t:Tok): (tN t).dy=true:=rfl
def iF(x:Expr): (bt x).dy=true:=by
 induction x using Expr.ind with
 | h op v s l ih =>
   simp only[bt,AV.dy,AV.cE,gH,jy];rw[q9];intro a ha;obtain⟨y,hy,rfl⟩:=dG.1 ha;exact ih y hy
def rY(l:List Expr): (eA l).dy=true:=by simp only[eA,AV.dy];exact fN _ _ iF
def FB(t:Test): (dR t).dy=true:=by simp[dR,AV.dy,AV.cE,rY]
def x8(l:List Test): (jt l).dy=true:=by simp only[jt,AV.dy];exact fN _ _ FB
def Ac(c:Cell): (ei c).dy=true:=by simp[ei,AV.dy,AV.cE,x8]
def uc(l:List aW): (br l).dy=true:=by simp only[br,AV.dy];exact fN _ _ Dc
def aac(l:List Tok): (wk l).dy=true:=by simp only[wk,AV.dy];exact fN _ _ Jr
def FC(l:List aT): (jL l).dy=true:=by simp only[jL,AV.dy];exact fN _ _ (fun _=>rfl)
def Dd(c:cJ): (dU c).dy=true:=by simp[dU,AV.dy,AV.cE,uc]
def j7(l:List cJ): (b_ l).dy=true:=by simp only[b_,AV.dy];exact fN _ _ Dd
def FD(r:h_): (fZ r).dy=true:=by simp[fZ,AV.dy,AV.cE,FC]
def rZ(l:List h_): (eL l).dy=true:=by simp only[eL,AV.dy];exact fN _ _ FD
def XE(t:Table): (dP t).dy=true:=by simp[dP,fU,AV.dy,AV.cE,j7,rZ]
def K6(l:List Cell): (sR l).dy=true:=by simp only[sR,AV.dy];exact fN _ _ Ac
def Ol(l:kF): (mF l).dy=true:=by simp[mF,AV.dy,AV.cE,K6,rY]
def RW(l:List Expr): AV.cE (l.map bt)=true:=fN _ _ iF
def ahL(l:List aW): AV.cE (l.map cR)=true:=fN _ _ Dc
def RX(l:List Tok): AV.cE (l.map tN)=true:=fN _ _ Jr
def uF(l:List aT): AV.cE (l.map eZ)=true:=fN _ _ (fun _=>rfl)
def Om(l:List Test): AV.cE (l.map dR)=true:=fN _ _ FB
def ud(l:List Cell): AV.cE (l.map ei)=true:=fN _ _ Ac
def acV(l:List cJ): AV.cE (l.map dU)=true:=fN _ _ Dd
def aad(l:List h_): AV.cE (l.map fZ)=true:=fN _ _ FD
def On(l:List kF): AV.cE (l.map mF)=true:=fN _ _ Ol
attribute [simp] AV.dy AV.cE Dc Jr iF rY FB x8 Ac uc aac FC Dd j7 FD rZ XE K6 Ol RW ahL RX uF Om ud acV aad On
def bx{α : Type}[Inhabited α]{l:List α}{i:Nat}(h:i<l.length): l.getD i default ∈ l:=by
 rw[aq,aG h];exact dK h
def oV(c:UInt8): Bool:=decide (32<=c.toNat) && decide (c.toNat<=126)
def yo(c:UInt8): Bool:=(decide (97<=c.toNat) && decide (c.toNat<=122)) ||(decide (65<=c.toNat) && decide (c.toNat<=90)) || decide (c.toNat=95)
def gQ(c:UInt8): Bool:=decide (48<=c.toNat) && decide (c.toNat<=57)
def K7(c:UInt8): Bool:=yo c || gQ c
def mj(s:aT): Bool:=decide (s.length<=40) && s.all oV
def bZ(v:aW): Bool :=
 if v.kind=0 then decide (v.n=0) && decide (v.s=[])
 else if v.kind=1 then decide (v.s=[])
 else if v.kind=2 then decide (v.n=0) && mj v.s
 else if v.kind=3 then decide (v.s=[]) && (decide (v.n=0) || decide (v.n=1))
 else false
def wm(s:aT): Nat:=match s with
 | []=>0
 | c::_=>if yo c then(s.takeWhile K7).length else 0
structure PR where
 kind:Int
 s:aT
 n:Int
 len:Nat
 e:Int
deriving Inhabited,DecidableEq
def VJ(p:PR): AV:= .bR [.agg [I p.kind,.str p.s,I p.n,I 0,I p.len],I p.e]
attribute [go_sem] VJ
def PR.err(e:Int): PR:=⟨0,[],0,0,e⟩
def G8(s:aT): PR:=if 16<wm s then .err 5 else⟨1,s.take (wm s),0,wm s,0⟩
def vM: aT->Int->Option Int
 | [],v=>some v
 | c::r,v=>if v>(9223372036854775807-((c.toNat:Int)-48)) / 10 then none else vM r (v*10+((c.toNat:Int)-48))
def qy(s:aT): PR :=
 let n:=(s.takeWhile gQ).length
 if 1<n/\(s.getD 0 0).toNat=48 then .err 11
 else match vM (s.takeWhile gQ) 0 with
  | none=> .err 15
  | some v=>⟨2,[],v,n,0⟩
def mG: aT->aT->Nat->PR
 | [],_,_=> .err 11
 | c :: r, b, i =>
   if c.toNat=34 then(if 40<b.length then .err 5 else⟨3,b,0,i+1,0⟩)
   else if c.toNat=92 then
    match r with
    | []=> .err 11
    | d::r'=>if d.toNat=34\/d.toNat=92 then mG r' (b++[d]) (i+2)else .err 11
   else if oV c then mG r (b++[c]) (i+1)else .err 11
def mX (c : UInt8) (r b : aT) (i : Nat) : mG (c :: r) b i =
    if c.toNat=34 then(if 40<b.length then .err 5 else⟨3,b,0,i+1,0⟩)
    else if c.toNat=92 then
     match r with
     | []=> .err 11
     | d::r'=>if d.toNat=34\/d.toNat=92 then mG r' (b++[d]) (i+2)else .err 11
    else if oV c then mG r (b++[c]) (i+1)else .err 11:=by
 rw[mG.eq_def];rfl
def y3: List aT:=[[46,46],[33,61],[60,61],[62,61],[40],[41],[91],[93],[44],[43],[45],[42],[47],[61],[60],[62]]
def x9(s:aT): PR:=match y3.find? (fun m=>m.isPrefixOf s)with
 | some m=>⟨4,m,0,m.length,0⟩
 | none=> .err 11
def kG(s:aT): PR :=
 let c:=s.getD 0 0
 if yo c then G8 s else if gQ c then qy s else if c.toNat=34 then mG (s.drop 1) [] 1 else x9 s
def tO: Nat->aT->Nat->List Tok->List Tok × Int × Int
 | 0,_,_,acc=>(acc,0,0)
 | _+1,[],_,acc=>(acc,0,0)
 | f + 1, c :: r, pos, acc =>
   if c.toNat=32 then tO f r (pos+1) acc
   else if(kG (c::r)).e=0 then tO f ((c::r).drop (kG (c::r)).len) (pos+(kG (c::r)).len) (acc++[⟨(kG (c::r)).kind,(kG (c::r)).s,(kG (c::r)).n,pos⟩])
   else([],pos,(kG (c::r)).e)
def dQ(s:aT): List Tok × Int × Int:=if 200<s.length then([],0,5)else tO (s.length+1) s 0 []
def Oo: List aT:=[[97,110,100],[111,114],[110,111,116],[105,102],[116,104,101,110],[101,108,115,101],[116,114,117,101],[102,97,108,115,101],[110,117,108,108]]
def FE(s:aT): Bool:=Oo.contains s
def iL(s:aT): Bool:=decide (s≠[]) && decide (wm s=s.length) && decide (s.length<=16) && !FE s
def uG{p:UInt8->Bool}(s:aT): (s.takeWhile p).length<=s.length:=by
 induction s with
 | nil=>simp
 | cons c s ih=>simp only[ig];split<;>simp;omega
def RY(s:aT): wm s<=s.length:=by
 unfold wm;split
 ·simp
 split
 ·exact uG _
 simp
def aae{s:aT}(h:yo (s.getD 0 0)=true)(hs:s≠[]): 1<=wm s:=by
 cases s with
 | nil=>exact absurd rfl hs
 | cons c r =>
   simp only[de]at h;simp only[wm,h,if_true,ig,K7,Bool.true_or];simp
def aaf(r b:aT)(i:Nat): (mG r b i).e=0->i+1<=(mG r b i).len/\(mG r b i).len<=i+r.length:=by
 fun_induction mG r b i<;>simp_all[PR.err]<;>omega
def Us{s:aT}(h:(qy s).e=0): (qy s).len=(s.takeWhile gQ).length:=by
 unfold qy at *;simp only at *;split at h
 ·simp[PR.err]at h
 rename_i h1;rw[aj h1];split at h
 ·simp[PR.err]at h
 rfl
def aag{s:aT}(h:(x9 s).e=0): 1<=(x9 s).len/\(x9 s).len<=s.length:=by
 unfold x9 at *;split at h
 ·rename_i m hm;have h1:=fA hm;have h2:=ij hm;refine⟨?_,(List.isPrefixOf_iff_prefix.1 h1).length_le⟩;show 1<=m.length;simp only[y3,fY,fF,or_false]at h2;rcases h2 with h|h|h|h|h|h|h|h|h|h|h|h|h|h|h|h<;>subst h<;>simp
 simp[PR.err]at h
def RZ{s:aT}(hs:s≠[])(h:(kG s).e=0): 1<=(kG s).len/\(kG s).len<=s.length:=by
 unfold kG at *;simp only at *;split at h
 ·rename_i h1;rw[au h1];unfold G8 at *;split at h
  ·simp[PR.err]at h
  rename_i h2;rw[aj h2];exact⟨aae h1 hs,RY s⟩
 rename_i h1;rw[aj h1];split at h
 ·rename_i h2;rw[au h2,Us h];refine⟨?_,uG _⟩;cases s with
  | nil=>exact absurd rfl hs
  | cons c r=>simp only[de]at h2;simp[ig,h2]
 rename_i h2;rw[aj h2];split at h
 ·rename_i h3;rw[au h3];have:=aaf _ _ _ h;have h4:1<=s.length:=by cases s with|nil=>exact absurd rfl hs|cons=>simp
  rw[eu]at this;omega
 rename_i h3;rw[aj h3];exact aag h
def ahM(c:UInt8): iW .or .u8 (c.toNat:Int) 32=((c.toNat ||| 32:Nat):Int):=by
 rw[oH];have h:∀ n:Fin 256,nW .or .u8 (n.val:Int) 32=((n.val ||| 32:Nat):Int):=by decide +kernel
 exact h ⟨c.toNat,c.toNat_lt⟩
def Ut(c:UInt8): (decide (97<=c.toNat ||| 32) && decide (c.toNat ||| 32<=122) || decide (c.toNat=95))=yo c:=by
 have h:∀ n:Fin 256,(decide (97<=n.val ||| 32) && decide (n.val ||| 32<=122) || decide (n.val=95))=((decide (97<=n.val) && decide (n.val<=122)) ||(decide (65<=n.val) && decide (n.val<=90)) || decide (n.val=95)):=by decide +kernel
 exact h ⟨c.toNat,c.toNat_lt⟩
def De(c:UInt8): aQ aI 92 [.int .u8 c.toNat] (.bool (yo c)):=by
 rw[<-Ut];refine aY P8 ?_;intro Q aJ aK aL;repeat' first|refine aC ?_|refine aB ?_ ?_<;>intro hw<;>try omega|fail
 all_goals refine a_ ?_ rfl
 all_goals (rw[ahM]at *;(refine bj AV.bool ?_;rw[cQ];simp only[ahM,aD,cH,aM,beq_iff_eq,ey,decide_eq_false_iff_not,beq_eq_false_iff_ne,ne_eq,true_iff,false_iff,iff_true,iff_false,aP,Bool.true_eq_false,not_and,not_or]at *;omega))
def FF(c:UInt8): aQ aI 95 [.int .u8 c.toNat] (.bool (gQ c)):=by
 refine aY RN ?_;intro Q aJ aK aL;repeat' first|refine aC ?_|refine aB ?_ ?_<;>intro hw<;>try omega|fail
 all_goals refine a_ ?_ rfl
 all_goals (refine bj AV.bool ?_;rw[cQ];simp only[gQ,aD,cH,aM,beq_iff_eq,ey,decide_eq_false_iff_not,beq_eq_false_iff_ne,ne_eq,true_iff,false_iff,iff_true,iff_false,aP,Bool.true_eq_false,not_and,not_or]at *;omega)
def FG{p:UInt8->Bool}{s:aT}{i:Nat}(hi:i<s.length): ((s.drop i).takeWhile p).length=if p (s.getD i 0)then 1+((s.drop (i+1)).takeWhile p).length else 0:=by
 rw[dW hi,ig,aq,aG hi];simp only[bO];split<;>simp;omega
def VK (fn : FuncId) (cap : List AV) (hcap : AV.cE cap = true) (p : UInt8 -> Bool) (h : ∀ c : UInt8, aQ aI fn (.int .u8 c.toNat :: cap) (.bool (p c))) (s : aT) (hs : s.length <= 2 ^ 62) :
    aQ aI 93 [.str s,.fn (.func fn) [] cap] (I (s.takeWhile p).length):=by
 refine aY XC ?_ (by simp[AV.dy,AV.cE,hcap]);intro Q aJ aK aL;repeat' first|refine aC ?_|refine aB ?_ ?_<;>intro hw<;>try omega|fail
 with_reducible refine bG [4,2,8,11] (fun i:Nat=>[(8,I i)]) (fun _=>[]) (fun i=>i<=s.length/\(s.takeWhile p).length=i+((s.drop i).takeWhile p).length) (fun i=>s.length-i) (0) ?_ ?_ ?_ ?_
 ·simp
 ·rfl
 ·exact at_
 rintro i r ⟨hi,hp⟩;repeat' first|refine aC ?_|refine eS (h _) ?_|refine aB ?_ ?_<;>intro hw<;>try omega|fail
 ·rw[FG ae]at hp;rw[hw]at hp;exact a_ (by simp at hp;simp[hp]) rfl
 ·rw[FG ae]at hp;rw[hw]at hp;refine⟨i+1,?_,?_,by first|rfl|(simp[go_sem];done),c8,at_⟩<;>(try dsimp only)
  ·simp at hp;exact⟨ae,ae⟩
  omega
 have:i=s.length:=ae;subst this;exact a_ (by simp at hp;simp[hp]) rfl
def XF(c:UInt8): aQ aI 94 [.int .u8 c.toNat] (.bool (K7 c)):=by
 refine aY Qa ?_;intro Q aJ aK aL;repeat' first|refine aC ?_|refine eS (De _) ?_|refine eS (FF _) ?_|refine aB ?_ ?_<;>intro hw<;>try omega|fail
 all_goals refine a_ ?_ rfl
 all_goals simp_all[K7]
def R5(s:aT)(hs:s.length<=2 ^ 62): aQ aI 57 [.str s] (I (wm s)):=by
 refine aY Up ?_;intro Q aJ aK aL;cases s with
 | nil =>
   repeat' first|refine aC ?_|refine aB ?_ ?_<;>intro hw<;>try omega|fail
   all_goals (refine a_ ?_ ?_<;>rfl)
 | cons c r =>
   repeat' first|refine aC ?_|refine eS (De _) ?_|refine eS (VK _ _ rfl K7 XF _ hs) ?_|refine aB ?_ ?_<;>intro hw<;>try omega|fail
   all_goals refine a_ ?_ rfl
   all_goals simp_all[wm]
def R6(s:aT)(hs:s.length<=2 ^ 62): aQ aI 270 [.str s] (VJ (G8 s)):=by
 refine aY Um ?_;intro Q aJ aK aL;have:=RY s;repeat' first|refine aC ?_|refine eS (R5 _ hs) ?_|refine aB ?_ ?_<;>intro hw<;>try omega|fail
 all_goals refine cg ?_ rfl
 all_goals (unfold G8;split<;>first|omega|rfl)
def vN{p:UInt8->Bool}{s:aT}{i:Nat}(hi:i<(s.takeWhile p).length): s.getD i 0=(s.takeWhile p).getD i 0/\p (s.getD i 0)=true:=by
 induction s generalizing i with
 | nil=>simp at hi
 | cons c r ih =>
   simp only[ig]at hi ⊢;split at hi
   ·rename_i hc;simp only[hc,if_true];cases i with
    | zero=>simp[hc]
    | succ i=>simpa using ih (by simpa using hi)
   simp at hi
def K8(s:aT)(hs:s.length<=2 ^ 62): aQ aI 271 [.str s] (VJ (qy s)):=by
 refine aY P_ ?_;intro Q aJ aK aL;have hle:=uG (p:=gQ) s;obtain⟨n,hn⟩:=cq ((s.takeWhile gQ).length);have hrun:aQ aI 93 [.str s,.fn (.func 95) [] []] (I n):=hn ▸ VK _ [] rfl gQ FF _ hs
 have hd:∀ i,i<n->48<=(s.getD i 0).toNat/\(s.getD i 0).toNat<=57/\(s.takeWhile gQ).drop i=s.getD i 0::(s.takeWhile gQ).drop (i+1):=fun i hi=>by
  obtain⟨h1,h2⟩:=vN (s:=s) (p:=gQ) (i:=i) ae;simp only[gQ,aD,aM]at h2;refine⟨h2.1,h2.2,?_⟩;rw[dW (by omega:i<(s.takeWhile gQ).length),h1,aq,aG (by omega:i<(s.takeWhile gQ).length)];rfl
 repeat' first|refine aC ?_|refine aB ?_ ?_<;>intro hw<;>try omega|fail
 ·refine cg ?_ rfl;unfold qy;rw[hn];simp only;rw[au (by constructor<;>omega)];rfl
 all_goals (
  have hno:¬ (1<n/\(s.getD 0 0).toNat=48):=ae;with_reducible refine bG [3,1,5,3,19,19] (fun p:Nat × Int=>[(19,I p.1),(5,I p.2)]) (fun _=>[.cells [I 0,.str [],I 0,I 0,I 0]]) (fun p=>p.1<=n/\0<=p.2/\p.2<=9223372036854775807/\vM (s.takeWhile gQ) 0=vM ((s.takeWhile gQ).drop p.1) p.2) (fun p=>n-p.1) (0,0) ?_ ?_ ?_ ?_
  ·simp
  ·rfl
  ·exact at_
  ·rintro⟨i,v⟩ r ⟨hi,hv,hv2,hf⟩;simp only at hi hv hv2 hf;by_cases hin:i<n
   ·obtain⟨d1,d2,d3⟩:=hd i hin;rw[d3]at hf;simp only[vM]at hf;repeat' first|refine aC ?_|refine aB ?_ ?_<;>intro hw<;>try omega|fail
    ·rw[au hw]at hf;refine cg ?_ rfl;unfold qy;rw[hn];simp only;rw[aj hno,hf];rfl
    rw[aj ae]at hf;refine⟨(i+1,v*10+(((s.getD i 0).toNat:Int)-48)),?_,?_,by first|rfl|(simp[go_sem];done),c8,at_⟩<;>(try dsimp only)
    ·exact⟨ae,ae,ae,hf⟩
    omega
   ·have:i=n:=ae;subst this;rw[cy ae]at hf;repeat' first|refine aC ?_|refine aB ?_ ?_<;>intro hw<;>try omega|fail
    ·refine cg ?_ rfl;unfold qy;rw[hn];simp only;rw[aj hno,hf];rfl)
def kC{α : Type}[Inhabited α]{l:List α}{i:Nat}(h:i<l.length): l.drop i=l.getD i default::l.drop (i+1):=by
 rw[dW h,aq,aG h];rfl
def ri{l:aT}{i:Nat}(h:i<l.length): l.drop i=l.getD i 0::l.drop (i+1):=by
 rw[dW h,aq,aG h];rfl
abbrev sS(s:aT): List AV:=s.map fun b=>AV.int .u8 b.toNat
def acW(s:aT)(h0:s≠[])(hs:s.length<=2 ^ 30): aQ aI 272 [.str s] (VJ (mG (s.drop 1) [] 1)):=by
 refine aY Uo ?_;intro Q aJ aK aL;have hl:1<=s.length:=by cases s with|nil=>exact absurd rfl h0|cons=>simp
 generalize hT:mG (s.drop 1) [] 1=T at *;repeat' first|refine aC ?_|refine aB ?_ ?_<;>intro hw<;>try omega|fail
 with_reducible refine bG [3,67] (fun p:Nat × aT=>[(5,I p.1),(4,.own E1 1 p.2.length 0 p.2.length)]) (fun p=>[.cells [I 0,.str [],I 0,I 0,I 0],.vec E1 (sS p.2)]) (fun p=>1<=p.1/\p.1<=s.length/\p.2.length<=p.1/\T=mG (s.drop p.1) p.2 p.1) (fun p=>s.length-p.1) ((1,[])) ?_ ?_ ?_ ?_
 ·exact⟨bf _,hl,aR,hT.symm⟩
 ·rfl
 ·exact at_
 rintro⟨i,b⟩ r ⟨Vm,hi,hb,hf⟩;simp only at Vm hi hb hf;by_cases hin:i<s.length
 ·rw[ri hin]at hf;repeat' first|refine aC ?_|refine aB ?_ ?_<;>intro hw<;>try omega|fail
  ·refine cg ?_ rfl;rw[hf,mX,au ae,au ae];rfl
  ·refine cg ?_ rfl;rw[hf,mX,au ae,aj ae];simp
  ·refine cg ?_ rfl;rw[hf,mX,aj ae,au ae,ri ae];simp only;rw[aj ae];rfl
  ·rw[mX,aj ae,au ae,ri ae]at hf;try dsimp only at hf
   rw[au ae]at hf;refine⟨(i+2,b++[s.getD (i+1) 0]),?_,?_,by first|rfl|(simp[go_sem];done),c8,at_⟩<;>(try dsimp only)
   ·simp only[aA,aO,bu];exact⟨ae,ae,ae,hf⟩
   omega
  ·rw[mX,aj ae,au ae,ri ae]at hf;try dsimp only at hf
   rw[au ae]at hf;refine⟨(i+2,b++[s.getD (i+1) 0]),?_,?_,by first|rfl|(simp[go_sem];done),c8,at_⟩<;>(try dsimp only)
   ·simp only[aA,aO,bu];exact⟨ae,ae,ae,hf⟩
   omega
  ·refine cg ?_ rfl;rw[hf,mX,aj ae,au ae,cy ae];rfl
  ·refine cg ?_ rfl;rw[hf,mX,aj ae,aj ae,aj (by simp only[oV,aD,aM];omega)];rfl
  ·rw[mX,aj ae,aj ae,au (by simp only[oV,aD,aM];omega)]at hf;refine⟨(i+1,b++[s.getD i 0]),?_,?_,by first|rfl|(simp[go_sem];done),c8,at_⟩<;>(try dsimp only)
   ·simp only[aA,aO,bu];exact⟨ae,ae,ae,hf⟩
   omega
  refine cg ?_ rfl;rw[hf,mX,aj ae,aj ae,aj (by simp only[oV,aD,aM];omega)];rfl
 rw[cy ae]at hf;repeat' first|refine aC ?_|refine aB ?_ ?_<;>intro hw<;>try omega|fail
 all_goals (refine cg ?_ rfl;rw[hf];simp[mG,PR.err])
def FH(s p:aT): aQ aI 131 [.str s,.str p] (.bool (p.isPrefixOf s)):=by
 refine aY sP ?_;intro Q aJ aK aL;repeat' first|refine aC ?_|refine aB ?_ ?_<;>intro hw<;>try omega|fail
 all_goals refine a_ ?_ rfl
 all_goals refine bj AV.bool ?_
 ·rw[cQ,beq_iff_eq,List.isPrefixOf_iff_prefix,List.prefix_iff_eq_take];exact eq_comm
 symm;rw[Bool.eq_false_iff];intro h
 have:=(List.isPrefixOf_iff_prefix.1 h).length_le;omega
def strings_HasPrefix(s p:aT): aQ aI 87 [.str s,.str p] (.bool (p.isPrefixOf s)):=by
 refine aY Db ?_;intro Q aJ aK aL;repeat' first|refine aC ?_|refine eS (FH _ _) ?_|refine aB ?_ ?_<;>intro hw<;>try omega|fail
 all_goals exact a_ rfl rfl
def Oq: aQ aI 292 [] (jL y3):=by
 refine aY RO ?_;intro Q aJ aK aL;repeat' first|refine aC ?_|refine aB ?_ ?_<;>intro hw<;>try omega|fail
 all_goals exact zZ (View.weak _ _ _ (by simp[AV.dy,AV.cE]))
def kP{α : Type}(p : α->Bool)(l:List α): Int:=match l.findIdx? p with
 | some i=>i
 | none=> -1
def nu{α : Type}[Inhabited α]{p : α->Bool}{l:List α}(h:∀ k,k<l.length->p (l.getD k default)=false): kP p l = -1:=by
 have:l.findIdx? p=none:=by
  rw[List.findIdx?_eq_none_iff];intro x hx;obtain⟨k,hk,rfl⟩:=bP hx;have:=h k hk;rwa[aq,aG hk]at this
 simp[kP,this]
def qz{α : Type}[Inhabited α]{p : α->Bool}{l:List α}{i:Nat}(hi:i<l.length)(h:∀ k,k<i->p (l.getD k default)=false)(hp:p (l.getD i default)=true): kP p l=i:=by
 have:l.findIdx? p=some i:=by
  rw[List.findIdx?_eq_some_iff_getElem];refine⟨hi,?_,fun j hj=>?_⟩
  ·rwa[aq,aG hi]at hp
  have:=h j hj;rw[aq,aG ae]at this;simpa using this
 simp[kP,this]
def zG (fn : FuncId) (cap : List AV) (hcap : AV.cE cap = true) (p : aT -> Bool) (l : List aT) (h : ∀ x ∈ l, aQ aI fn (.str x :: cap) (.bool (p x))) (hl : l.length <= 2 ^ 62) :
    aQ aI 293 [jL l,.fn (.func fn) [] cap] (I (kP p l)):=by
 refine aY xy ?_ (by simp[AV.dy,AV.cE,hcap,FC]);intro Q aJ aK aL;repeat' first|refine aC ?_|refine aB ?_ ?_<;>intro hw<;>try omega|fail
 with_reducible refine bG [4,2,8,11] (fun i:Nat=>[(8,I i)]) (fun _=>[]) (fun i=>i<=l.length/\ ∀ k,k<i->p (l.getD k default)=false) (fun i=>l.length-i) (0) ?_ ?_ ?_ ?_
 ·simp
 ·rfl
 ·exact at_
 rintro i r ⟨hi,hp⟩;by_cases hin:i<l.length
 ·have hx:=h _ (bx hin);repeat' first|refine aC ?_|refine aB ?_ ?_<;>intro hw<;>try omega|fail
  ·refine a_ ?_ rfl;refine bj I ?_;exact(qz hin hp hw).symm
  refine⟨i+1,?_,?_,by first|rfl|(simp[go_sem];done),c8,at_⟩<;>(try dsimp only)
  ·refine⟨ae,fun k hk=>?_⟩;by_cases k8:k<i
   ·exact hp k k8
   have:k=i:=ae;subst this;exact hw
  omega
 repeat' first|refine aC ?_|refine aB ?_ ?_<;>intro hw<;>try omega|fail
 refine a_ ?_ rfl;refine bj I ?_;exact(nu fun k hk=>hp k ae).symm
def vO{α : Type}[Inhabited α](p : α->Bool): ∀ l:List α,(kP p l = -1/\l.find? p=none)\/ ∃ i:Nat,i<l.length/\kP p l=i/\l.find? p=some (l.getD i default)
 | []=> .inl ⟨rfl,rfl⟩
 | x :: l => by
   by_cases hp:p x=true
   ·exact .inr ⟨0,aR,by simp[kP,List.findIdx?_cons,hp],by simp[hp]⟩
   rcases vO p l with⟨h1,h2⟩|⟨i,h1,h2,h3⟩
   ·left;simp only[kP]at h1;refine⟨?_,by simp[hp,h2]⟩;cases h:l.findIdx? p with
    | none=>simp[kP,List.findIdx?_cons,hp,h]
    | some k=>rw[h]at h1;simp at h1
   right;refine⟨i+1,by simp;omega,?_,by simp[hp,h3]⟩;simp only[kP]at h2;cases h:l.findIdx? p with
   | none=>rw[h]at h2;simp at h2
   | some k=>rw[h]at h2;simp at h2;simp[kP,List.findIdx?_cons,hp,h];omega
def XG(m s:aT): aQ aI 294 [.str m,.eY E1 (.str s) 0] (.bool (m.isPrefixOf s)):=by
 refine aY P9 ?_;intro Q aJ aK aL;repeat' first|refine aC ?_|refine eS (strings_HasPrefix _ _) ?_|refine aB ?_ ?_<;>intro hw<;>try omega|fail
 all_goals exact a_ rfl rfl
def acX(s:aT): aQ aI 273 [.str s] (VJ (x9 s)):=by
 have hc:=zG 294 [.eY E1 (.str s) 0] rfl (fun m=>m.isPrefixOf s) y3 (fun m _=>XG m s) da;unfold x9;rcases vO (fun m:aT=>m.isPrefixOf s) y3 with⟨h1,h2⟩|⟨i,hi,h1,h2⟩
 ·rw[h1]at hc;rw[h2];refine aY HY ?_;intro Q aJ aK aL;repeat' first|refine aC ?_|refine eS Oq ?_|refine HZ hc ?_|refine aB ?_ ?_<;>intro hw<;>try omega|fail
  all_goals (refine cg ?_ rfl;rfl)
 rw[h1]at hc;rw[h2];have hi2:i<16:=hi;have hl:(y3.map eZ).length=16:=rfl;refine aY HY ?_;intro Q aJ aK aL;repeat' first|refine aC ?_|refine eS Oq ?_|refine HZ hc ?_|refine aB ?_ ?_<;>intro hw<;>try omega|fail
 all_goals (refine cg ?_ rfl;rfl)
def acY(s:aT)(h0:s≠[])(hs:s.length<=2 ^ 30): aQ aI 251 [.str s] (VJ (kG s)):=by
 refine aY Un ?_;intro Q aJ aK aL;have hl:1<=s.length:=by cases s with|nil=>exact absurd rfl h0|cons=>simp
 repeat' first|refine aC ?_|refine eS (De _) ?_|refine eS (FF _) ?_|with_reducible refine yn (R6 _ ae) ?_|with_reducible refine BJ (R6 _ ae) ?_|with_reducible refine yn (K8 _ ae) ?_|with_reducible refine BJ (K8 _ ae) ?_|refine eS (acW _ h0 hs) ?_|refine eS (acX _) ?_|refine aB ?_ ?_<;>intro hw<;>try omega|fail
 all_goals refine cg ?_ rfl
 all_goals (unfold kG;dsimp only;first
  |(rw[au (by assumption)]<;>rfl)
  |(rw[aj (ne_true_of_eq_false (by assumption)),au (by assumption)]<;>rfl)
  |(rw[aj (ne_true_of_eq_false (by assumption)),aj (ne_true_of_eq_false (by assumption)),au ae]<;>rfl)
  |(rw[aj (ne_true_of_eq_false (by assumption)),aj (ne_true_of_eq_false (by assumption)),aj ae]<;>rfl))
def R7(s:aT): aQ aI 58 [.str s] (.bool (FE s)):=by
 refine aY KX ?_;intro Q aJ aK aL;repeat' first|refine aC ?_|refine aB ?_ ?_<;>intro hw<;>try omega|fail
 all_goals refine a_ ?_ rfl
 all_goals (refine bj AV.bool ?_;simp_all[FE,Oo])
def vP(s:aT)(hs:s.length<=2 ^ 62): aQ aI 36 [.str s] (.bool (iL s)):=by
 refine aY Ul ?_;intro Q aJ aK aL;repeat' first|refine aC ?_|refine eS (R5 _ hs) ?_|refine eS (R7 _) ?_|refine aB ?_ ?_<;>intro hw<;>try omega|fail
 all_goals refine a_ ?_ rfl
 all_goals (refine bj AV.bool ?_;simp[iL];try simp_all;try omega)
def XH(p:List Tok × Int × Int): AV:= .bR [wk p.1,I p.2.1,I p.2.2]
attribute [go_sem] XH
def acZ(f pos:Nat)(acc:List Tok): tO f [] pos acc=(acc,0,0):=by cases f<;>rfl
def wR (f pos : Nat) (acc : List Tok) (c : UInt8) (r : aT) : tO (f + 1) (c :: r) pos acc =
    if c.toNat=32 then tO f r (pos+1) acc
    else if(kG (c::r)).e=0 then tO f ((c::r).drop (kG (c::r)).len) (pos+(kG (c::r)).len) (acc++[⟨(kG (c::r)).kind,(kG (c::r)).s,(kG (c::r)).n,pos⟩])
    else([],pos,(kG (c::r)).e):=rfl
def VL(s:aT)(hs:s.length<=2 ^ 30): aQ aI 219 [.str s] (XH (dQ s)):=by
 unfold dQ;by_cases hbig:200<s.length
 ·rw[au hbig];refine aY KW ?_;intro Q aJ aK aL;repeat' first|refine aC ?_|refine aB ?_ ?_<;>intro hw<;>try omega|fail
  refine gN ?_;exact vw_
 rw[aj hbig];generalize hT:tO (s.length+1) s 0 []=T;refine aY KW ?_;intro Q aJ aK aL;repeat' first|refine aC ?_|refine aB ?_ ?_<;>intro hw<;>try omega|fail
 with_reducible refine bG [2,7,12,39] (fun p:Nat × List Tok × List aX=>[(6,I p.1),(5,.own ET 0 p.2.1.length 0 p.2.1.length)]) (fun p=> .vec ET (p.2.1.map tN)::p.2.2) (fun p=>p.1<=s.length/\p.2.1.length<=p.1/\ ∃ f,s.length-p.1<f/\T=tO f (s.drop p.1) p.1 p.2.1) (fun p=>s.length-p.1) (0,[],[]) ?_ ?_ ?_ ?_
 ·exact⟨aR,aR,s.length+1,ae,hT.symm⟩
 ·rfl
 ·exact at_
 rintro⟨pos,acc,τ⟩ r ⟨h1,h2,f,h3,h4⟩;dsimp only at h1 h2 h3 h4;repeat' first|refine aC ?_|refine aB ?_ ?_<;>intro hw<;>try omega|fail
 with_reducible refine bG [6,1,12,12] (fun p:Nat=>[(6,I p)]) (fun _=> .vec ET (acc.map tN):: τ) (fun p=>pos<=p/\p<=s.length/\ ∃ f,s.length-p<f/\T=tO f (s.drop p) p acc) (fun p=>s.length-p) pos ?_ ?_ ?_ ?_
 ·exact⟨bf _,h1,f,h3,h4⟩
 ·rfl
 ·exact at_
 clear h3 h4;clear f;rintro p r2 ⟨k0,k1,f,k2,k3⟩;obtain⟨f,rfl⟩:∃ g,f=g+1:=⟨f-1,ae⟩;by_cases hp:p<s.length
 ·rw[ri hp,wR]at k3;have hne:s.drop p≠[]:=by rw[ri hp];simp
  have hlen:(s.drop p).length<=2 ^ 30:=by rw[eu];omega
  rw[<-ri hp]at k3;have hnx:=acY (s.drop p) hne hlen;have D_:=RZ hne;rw[eu]at D_;generalize kG (s.drop p)=q at *;obtain⟨qk,qs,qn,ql,qe⟩:=q;dsimp only at k3 D_;repeat' first|refine aC ?_|refine aB ?_ ?_<;>intro hw<;>try omega|fail
  ·rw[au ae]at k3;refine⟨p+1,?_,?_,by first|rfl|(simp[go_sem];done),c8,at_⟩<;>(try dsimp only)
   ·exact⟨ae,ae,f,ae,k3⟩
   omega
  ·rw[aj ae,aj hw]at k3;refine gN ?_;rw[k3];exact cN.cons (View.aU _) (cN.refl rfl)
  rw[aj ae,au hw,List.drop_drop]at k3;refine⟨(p+ql,acc++[⟨qk,qs,qn,p⟩],τ++[.cells [I qk,.str qs,I qn,I p,I ql]]),?_,?_,by first|rfl|(simp[go_sem];done),c8,at_⟩<;>(try dsimp only)
  ·exact⟨ae,by simp;omega,f,ae,k3⟩
  omega
 rw[cy ae,acZ]at k3;repeat' first|refine aC ?_|refine aB ?_ ?_<;>intro hw<;>try omega|fail
 refine gN ?_;rw[k3];exact cN.cons (View.vec rfl aR aR (RX _)) (cN.refl rfl)
def vQ{p:UInt8->Bool}: ∀ {s:aT} {i:Nat},i<=(s.takeWhile p).length->i<s.length->p (s.getD i 0)=true->i<(s.takeWhile p).length
 | [],i,_,h,_=>by simp at h
 | c::r,0,_,_,hp=>by simp only[de]at hp;simp[ig,hp]
 | c :: r, i + 1, h1, h2, hp => by
   simp only[ie]at hp;simp only[ig]at h1 ⊢;split at h1
   ·simp only[aO]at h1 h2 ⊢;have:=vQ (p:=p) (s:=r) (i:=i) ae ae hp;split<;>simp_all
   simp at h1
def Df(s:aT)(i:Nat)(v:Int)(over:Bool): Prop:=i<=(s.takeWhile gQ).length/\(over=false->vM (s.takeWhile gQ) 0=vM ((s.takeWhile gQ).drop i) v)/\(over=true->vM (s.takeWhile gQ) 0=none)
def Df.step {s : aT} {i : Nat} {v : Int} (h : Df s i v false) (hi : i < s.length) (hd : gQ (s.getD i 0) = true) :
    (v>(9223372036854775807-(((s.getD i 0).toNat:Int)-48)) / 10->Df s (i+1) v true) /\
    (¬ v>(9223372036854775807-(((s.getD i 0).toNat:Int)-48)) / 10->Df s (i+1) (v*10+(((s.getD i 0).toNat:Int)-48)) false):=by
 obtain⟨h1,h2,_⟩:=h;have hlt:i<(s.takeWhile gQ).length:=vQ h1 hi hd;have h3:=vN hlt;have h4:(s.takeWhile gQ).drop i=s.getD i 0::(s.takeWhile gQ).drop (i+1):=by rw[ri hlt,<-h3.1]
 rw[h4]at h2;simp only[vM]at h2;refine⟨fun hv=>⟨ae,fun h=>by simp at h,fun _=>?_⟩,fun hv=>⟨ae,fun _=>?_,fun h=>by simp at h⟩⟩
 ·rw[h2 trivial,au hv]
 rw[h2 trivial,aj hv]
def Df.over{s:aT}{i:Nat}{v:Int}(h:Df s i v true)(hi:i<s.length)(hd:gQ (s.getD i 0)=true): Df s (i+1) v true :=
 ⟨vQ h.1 hi hd,fun h=>by simp at h,h.2.2⟩
def Df.fin{s:aT}{i:Nat}{v:Int}{o:Bool}(h:Df s i v o)(hi:i<s.length->gQ (s.getD i 0)=false)(hl:i<=s.length): (s.takeWhile gQ).length=i/\vM (s.takeWhile gQ) 0=if o then none else some v:=by
 have hlen:(s.takeWhile gQ).length=i:=by
  have h1:=h.1;apply Nat.le_antisymm _ h1;apply ja;intro hlt;have h3:=(vN hlt).2;have:i<s.length:=c7 hlt (uG s);rw[hi this]at h3;cases h3
 refine⟨hlen,?_⟩;cases o with
 | false=>rw[h.2.1 rfl,cy ae];rfl
 | true=>rw[h.2.2 rfl];rfl
def yp{α : Type}[Inhabited α]{p : α->Bool}{l:List α}{i:Nat}(hi:i<l.length)(h:∀ k,k<i->p (l.getD k default)=false)(hp:p (l.getD i default)=true): l.find? p=some (l.getD i default):=by
 have h1:=qz hi h hp;rcases vO p l with⟨h2,h3⟩|⟨j,h2,h3,h4⟩
 ·omega
 have:j=i:=ae;subst this;exact h4
def vR{α : Type}[Inhabited α]{p : α->Bool}{l:List α}(h:∀ k,k<l.length->p (l.getD k default)=false): l.find? p=none:=by
 have h1:=nu h;rcases vO p l with⟨h2,h3⟩|⟨j,h2,h3,h4⟩
 ·exact h3
 omega
def aah{α : Type}[Inhabited α]{p : α->Bool}{l:List α}{i:Nat}(hi:i<l.length)(hp:p (l.getD i default)=true): l.any p=true:=by
 rw[List.any_eq_true];exact⟨_,bx hi,hp⟩
def VM{α : Type}[Inhabited α]{p : α->Bool}{l:List α}(h:∀ k,k<l.length->p (l.getD k default)=false): l.any p=false:=by
 rw[List.any_eq_false];intro x hx;obtain⟨k,hk,rfl⟩:=bP hx;have:=h k hk;rw[aq,aG hk,bO]at this;simp[this]
def cn{q:Nat->Prop}{i:Nat}(h:∀ k,k<i->q k)(hi:q i): ∀ k,k<i+1->q k:=fun k hk=>by
 by_cases h2:k<i
 ·exact h k h2
 have:k=i:=ae;subst this;exact hi
def R8{s:aT}{p:UInt8->Bool}{i:Nat}(hi:i<s.length)(hp:p (s.getD i 0)=false): s.all p=false:=by
 rw[g_];refine⟨s.getD i 0,?_,ne_true_of_eq_false hp⟩;rw[aq,aG hi];exact dK hi
def afK{s:aT}{p:UInt8->Bool}(h:∀ k,k<s.length->p (s.getD k 0)=true): s.all p=true:=by
 rw[aZ];intro x hx;obtain⟨k,hk,rfl⟩:=bP hx;have:=h k hk;rwa[aq,aG hk]at this
def Dg(c:UInt8): oV c=true↔32<=c.toNat/\c.toNat<=126:=by simp[oV]
def Ba(c:UInt8): oV c=false↔c.toNat<32\/126<c.toNat:=by
 rw[<-kB,Dg];omega
def Uu(s:aT): aQ aI 177 [.str s] (.bool (mj s)):=by
 refine aY MW ?_;intro Q aJ aK aL;repeat' first|refine aC ?_|refine aB ?_ ?_<;>intro hw<;>try omega|fail
 ·refine a_ ?_ rfl;simp only[mj];rw[cI ae,gP]
 with_reducible refine bG [2,1,4,1,10,9] (fun i:Nat=>[]) (fun i=>[.jC s i]) (fun i=>i<=s.length/\ ∀ k,k<i->oV (s.getD k 0)=true) (fun i=>s.length-i) 0 ?_ ?_ ?_ ?_
 ·simp
 ·rfl
 ·exact at_
 rintro i r ⟨h1,h2⟩;by_cases hi:i<s.length
 ·by_cases ha:(s.getD i 0).toNat<128
  ·repeat' first|refine aC ?_|refine aB ?_ ?_<;>intro hw<;>try omega|fail
   ·refine a_ ?_ rfl;simp only[mj];rw[R8 (p:=oV) hi ((Ba _).2 (.inr ae)),iI]
   ·refine⟨i+1,?_,?_,by first|rfl|(simp[go_sem];done),c8,at_⟩<;>(try dsimp only)
    ·exact⟨ae,cn h2 ((Dg _).2 ⟨ae,ae⟩)⟩
    omega
   refine a_ ?_ rfl;simp only[mj];rw[R8 (p:=oV) hi ((Ba _).2 (.inl ae)),iI]
  have hw2:=Ue hi ae;repeat' first|refine aC ?_|refine aB ?_ ?_<;>intro hw<;>try omega|fail
  all_goals refine a_ ?_ rfl
  all_goals (simp only[mj];rw[R8 (p:=oV) hi ((Ba _).2 (.inr ae)),iI])
 have:i=s.length:=ae;repeat' first|refine aC ?_|refine aB ?_ ?_<;>intro hw<;>try omega|fail
 refine a_ ?_ rfl;simp only[mj];rw[bN ae,afK (fun k hk=>h2 k ae)];rfl
def Dh(n:Int)(s:aT): bZ ⟨0,n,s⟩=(decide (n=0) && decide (s=[])):=rfl
def Js(n:Int)(s:aT): bZ ⟨1,n,s⟩=decide (s=[]):=rfl
def R9(n:Int)(s:aT): bZ ⟨2,n,s⟩=(decide (n=0) && mj s):=rfl
def Jt(n:Int)(s:aT): bZ ⟨3,n,s⟩=(decide (s=[]) && (decide (n=0) || decide (n=1))):=rfl
def R_(k n:Int)(s:aT)(h0:k≠0)(h1:k≠1)(h2:k≠2)(h3:k≠3): bZ ⟨k,n,s⟩=false:=by
 simp[bZ,h0,h1,h2,h3]
def ji(b:Bool): Int:=if b then 0 else 2
def XI(x:BitVec 64): x &&& ~~~ 1#64=0#64↔x=0#64\/x=1#64:=by
 constructor
 ·intro h
  have hb:∀ i,1<=i->i<64->x.getLsbD i=false:=fun i h1 h2=>by
   have:=bj (fun y=>BitVec.getLsbD y i) h
   have h3:(1#64).getLsbD i=false:=by
    rw[BitVec.getLsbD_one];simp;omega
   simp only[BitVec.getLsbD_and,BitVec.getLsbD_not,h3,h2,decide_true,iH,jy,BitVec.getLsbD_zero]at this;exact this
  cases h0:x.getLsbD 0 with
  | false =>
    left;apply BitVec.eq_of_getLsbD_eq;intro i hi;by_cases hz:i=0
    ·subst hz;rw[h0];rfl
    rw[hb i ae hi];simp
  | true =>
    right;apply BitVec.eq_of_getLsbD_eq;intro i hi;by_cases hz:i=0
    ·subst hz;rw[h0];rfl
    rw[hb i ae hi,BitVec.getLsbD_one];simp[hz]
 rintro(rfl|rfl)<;>decide
def Uv(m:Nat)(h:m<18446744073709551616): IntKind.wrap .i64 m=0↔m=0:=by
 simp only[IntKind.wrap,IntKind.bits,IntKind.signed];simp;omega
def al1(n:Int)(h : -9223372036854775808<=n)(h':n<=9223372036854775807): iW .andNot .i64 n 1=0↔n=0\/n=1:=by
 rw[oH];show IntKind.wrap .i64 ((BitVec.ofInt 64 n &&& ~~~ BitVec.ofInt 64 1).toNat:Int)=0↔_;rw[Uv _ (BitVec.isLt _)]
 have h1:(BitVec.ofInt 64 n &&& ~~~ BitVec.ofInt 64 1).toNat=0↔BitVec.ofInt 64 n &&& ~~~ 1#64=0#64:=by
  rw[<-BitVec.toNat_inj];rfl
 rw[h1,XI,<-BitVec.toNat_inj,<-BitVec.toNat_inj];simp only[BitVec.toNat_ofInt,BitVec.toNat_ofNat];omega
def lR(k n:Int)(s:aT)(h : -9223372036854775808<=n)(h':n<=9223372036854775807): aQ aI 136 [.agg [I k,I n,.str s]] (I (ji (bZ ⟨k,n,s⟩))):=by
 refine aY MV ?_;intro Q aJ aK aL;repeat' first|refine aC ?_|refine eS (Uu _) ?_|refine aB ?_ ?_<;>intro hw<;>try omega|fail
 all_goals refine a_ ?_ rfl
 all_goals (refine congrArg I ?_;unfold ji;try rw[al1 n h h']at hw)
 all_goals (try subst k)
 all_goals first
  |(rw[aj (by rw[Dh];simp_all)];done)
  |(rw[au (by rw[Dh];simp_all)];done)
  |(rw[aj (by rw[Js];simp_all)];done)
  |(rw[au (by rw[Js];simp_all)];done)
  |(rw[aj (by rw[R9];simp_all)];done)
  |(rw[au (by rw[R9];simp_all)];done)
  |(rw[aj (by rw[Jt];simp_all)];done)
  |(rw[au (by rw[Jt];simp_all)];done)
  |(rw[aj (by rw[R_ _ _ _ (by assumption) (by assumption) (by assumption) (by assumption)];simp)])
structure FI where
 op:Int
 sign:aT
 level:Int
deriving Inhabited,DecidableEq
def Sb(b:FI): AV:= .agg [I b.op,.str b.sign,I b.level]
attribute [go_sem] Sb
def lf: List FI:=[⟨4,[43],4⟩,⟨5,[45],4⟩,⟨6,[42],5⟩,⟨7,[47],5⟩,⟨8,[61],3⟩,⟨9,[33,61],3⟩,⟨10,[60],3⟩,⟨11,[60,61],3⟩,⟨12,[62],3⟩,⟨13,[62,61],3⟩,⟨14,[97,110,100],2⟩,⟨15,[111,114],1⟩]
def fg(op:Int): FI:=(lf.find? fun b=>b.op==op).getD ⟨0,[],0⟩
def j8(op:Int): Int:=if op=1\/op=2 then 0 else if op=3 then 1 else if op=16 then 3 else if 0<(fg op).level then 2 else -1
def fJ(op:Int): Int:=if op=16 then 0 else if op=3 then 6 else if op=1\/op=2 then 7 else(fg op).level
def XJ(op:Int)(h:op<4\/15<op): fg op=⟨0,[],0⟩:=by
 have:lf.find? (fun b=>b.op==op)=none:=by
  rw[fC];intro b hb;simp only[lf,fY,fF,or_false]at hb;rcases hb with rfl|rfl|rfl|rfl|rfl|rfl|rfl|rfl|rfl|rfl|rfl|rfl<;>(simp only[beq_iff_eq];omega)
 simp[fg,this]
def XK(op:Int)(h1:4<=op)(h2:op<=15): (fg op).sign≠[]/\0<(fg op).level:=by
 have:op=4\/op=5\/op=6\/op=7\/op=8\/op=9\/op=10\/op=11\/op=12\/op=13\/op=14\/op=15:=ae;rcases this with rfl|rfl|rfl|rfl|rfl|rfl|rfl|rfl|rfl|rfl|rfl|rfl<;>decide
def Ad: aQ aI 215 [] (.aS false ⟨true,3⟩ (lf.map Sb)):=by
 refine aY FA ?_;intro Q aJ aK aL;repeat' first|refine aC ?_|refine aB ?_ ?_<;>intro hw<;>try omega|fail
 all_goals exact zZ (View.weak _ _ _ aR)
def Bb(op:Int): aQ aI 172 [I op] (Sb (fg op)):=by
 refine aY MQ ?_;intro Q aJ aK aL;have hl:lf.length=12:=rfl;repeat' first|refine aC ?_|refine eS Ad ?_|refine aB ?_ ?_<;>intro hw<;>try omega|fail
 with_reducible refine bG [4,1,7,10] (fun p:Nat × List aX=>[(7,I p.1)]) (fun p=> .cells [I 0,.str [],I 0]::p.2) (fun p=>p.1<=12/\ ∀ k,k<p.1->((lf.getD k default).op==op)=false) (fun p=>12-p.1) (0,[]) ?_ ?_ ?_ ?_
 ·simp
 ·rfl
 ·exact at_
 rintro⟨i,τ⟩ r ⟨h1,h2⟩;dsimp only at h1 h2;by_cases hi:i<12
 ·repeat' first|refine aC ?_|refine aB ?_ ?_<;>intro hw<;>try omega|fail
  ·refine a_ ?_ rfl
   have:fg op=lf.getD i default:=by
    unfold fg;rw[yp (p:=fun b:FI=>b.op==op) hi h2 (by simpa using hw)];rfl
   rw[this];try rfl
  refine⟨(i+1,τ++[.cells [I (lf.getD i default).op,.str (lf.getD i default).sign,I (lf.getD i default).level]]),?_,?_,by first|rfl|(simp[go_sem];done),c8,at_⟩<;>(try dsimp only)
  ·exact⟨ae,cn h2 (by simpa using hw)⟩
  omega
 repeat' first|refine aC ?_|refine aB ?_ ?_<;>intro hw<;>try omega|fail
 refine a_ ?_ rfl
 have:fg op=⟨0,[],0⟩:=by
  unfold fg;rw[vR (p:=fun b:FI=>b.op==op) (fun k hk=>h2 k ae)];rfl
 rw[this];try rfl
def Sc(op:Int): aQ aI 166 [I op] (I (j8 op)):=by
 refine aY KZ ?_;intro Q aJ aK aL;repeat' first|refine aC ?_|refine eS (Bb _) ?_|refine aB ?_ ?_<;>intro hw<;>try omega|fail
 all_goals refine a_ ?_ rfl
 all_goals (refine congrArg I ?_;unfold j8)
 all_goals first|(simp_all;done)
mutual
def mH: Expr->Nat
 | .mk _ _ _ l=>mY l+1
def mY: List Expr->Nat
 | []=>0
 | x::r=>Nat.max (mH x) (mY r)
end
mutual
def gM: Expr->Nat
 | .mk _ _ _ l=>nD l+1
def nD: List Expr->Nat
 | []=>0
 | x::r=>gM x+nD r
end
def G9(l:List Expr): l.length<=nD l:=by
 induction l with
 | nil=>simp[nD]
 | cons x r ih=>cases x;simp only[nD,gM,List.length_cons];omega
def B3{l:List Expr}{x:Expr}(h:x ∈ l): gM x<=nD l:=by
 induction l with
 | nil=>cases h
 | cons y r ih =>
   simp only[nD];rcases List.mem_cons.1 h with rfl|h
   ·omega
   have:=ih h;omega
def afL: ∀ x,mH x<=gM x:=by
 intro x
 induction x using Expr.ind with
 | h op v s l ih =>
   simp only[mH,gM]
   have:mY l<=nD l:=by
    clear op v s
    induction l with
    | nil=>simp[mY]
    | cons y r Zp =>
      simp only[mY,nD];have h1:=ih y aR;have h2:=Zp (fun z hz=>ih z (dm _ hz));exact Nat.max_le.2 ⟨ae,ae⟩
   omega
def XL(l:List Expr)(x:Expr): mY (l++[x])=Nat.max (mY l) (mH x):=by
 induction l with
 | nil=>simp only[bX,mY];exact Nat.max_comm _ _
 | cons y r ih=>simp only[bQ,mY,ih];exact(Nat.max_assoc _ _ _).symm
def take_succ{α : Type}[Inhabited α]{l:List α}{k:Nat}(h:k<l.length): l.take (k+1)=l.take k++[l.getD k default]:=by
 rw[dz h,aq,aG h];rfl
def XM{l:List Expr}{k:Nat}(h:k<l.length): mY (l.take (k+1))=Nat.max (mY (l.take k)) (mH (l.getD k default)):=by
 rw[take_succ h,XL]
def Sd(l:List Expr)(k:Nat): mY (l.take k)<=nD l:=by
 have:∀ l:List Expr,mY l<=nD l:=fun l=>by
  have:=afL (.mk 0 default [] l);simp only[mH,gM]at this;omega
 refine cZ (this _) ?_
 induction l generalizing k with
 | nil=>simp[nD]
 | cons x r ih => cases k with
   | zero=>simp[nD]
   | succ k=>simp only[List.take_succ_cons,nD];have:=ih k;omega
def Bc(x:Expr)(hx:gM x<=2 ^ 60): aQ aI 123 [bt x] (I (mH x)):=by
 induction x using Expr.ind with
 | h op v s l ih =>
   simp only[gM]at hx;have hlen:=G9 l
   have hih:∀ k,k<l.length->aQ aI 123 [bt (l.getD k default)] (I (mH (l.getD k default))):=fun k hk =>
    ih _ (bx hk) (by have:=B3 (bx hk);omega)
   refine aY MO ?_;intro Q aJ aK aL;repeat' first|refine aC ?_|refine aB ?_ ?_<;>intro hw<;>try omega|fail
   with_reducible refine bG [3,1,5,1,9,9] (fun p:Nat × List aX=>[(9,I p.1),(3,I (mY (l.take p.1)))]) (fun p=> .cells [I op,I v.kind,I v.n,.str v.s,.str s,.aS false EX (l.map bt)]::p.2) (fun p=>p.1<=l.length) (fun p=>l.length-p.1) (0,[]) ?_ ?_ ?_ ?_
   ·simp
   ·rfl
   ·exact at_
   rintro⟨i,τ⟩ r h1;dsimp only at h1;by_cases hi:i<l.length
   ·have hy:=hih i hi
    have al2:(if((mY (l.take i):Nat):Int)<((mH (l.getD i default):Nat):Int)then ((mH (l.getD i default):Nat):Int)else ((mY (l.take i):Nat):Int))=((mY (l.take (i+1)):Nat):Int):=by
     rw[XM hi];show _=((max (mY (l.take i)) (mH (l.getD i default)):Nat):Int);by_cases hm:mY (l.take i)<=mH (l.getD i default)
     ·rw[Nat.max_eq_right hm];split<;>omega
     rw[Nat.max_eq_left ae];split<;>omega
    rw[bK]at hy;repeat' first|refine cB al2 ?_|refine aC ?_|refine aB ?_ ?_<;>intro hw<;>try omega|fail
    refine⟨(i+1,τ++[.cells [I (l.getD i default).op,I (l.getD i default).v.kind,I (l.getD i default).v.n,.str (l.getD i default).v.s,.str (l.getD i default).s,.aS false EX ((l.getD i default).l.map bt)]]),?_,?_,by first|rfl|(simp[go_sem];done),c8,at_⟩<;>(try dsimp only)
    ·omega
    omega
   have h3:=Sd l l.length;rw[gG]at h3;have h2:l.take i=l:=bH ae;have h4:=Sd l i;rw[h2]at h4;repeat' first|refine cB h2 ?_|refine aC ?_|refine aB ?_ ?_<;>intro hw<;>try omega|fail
   refine a_ ?_ rfl;refine bj I ?_;simp only[mH];omega
def fq{α β : Type}(p : α-> β->Bool): List α->List β->Bool
 | [],[]=>true
 | x::r,y::t=>p x y && fq p r t
 | _,_=>false
def oW{α β : Type}{p : α-> β->Bool}: ∀ {l:List α} {m:List β},l.length≠m.length->fq p l m=false
 | [],[],h=>absurd rfl h
 | [],_::_,_=>rfl
 | _::_,[],_=>rfl
 | x::r,y::t,h=>by simp only[fq];rw[oW (by simpa using h),iI]
def rj{α β : Type}[Inhabited α][Inhabited β]{p : α-> β->Bool}: ∀ {l:List α} {m:List β} {i:Nat},i<l.length->p (l.getD i default) (m.getD i default)=false->i<m.length->fq p l m=false
 | x::r,y::t,0,_,h,_=>by simp only[de]at h;simp only[fq,h,gP]
 | x :: r, y :: t, i + 1, h1, h, h2 => by
   simp only[ie]at h;simp only[fq];rw[rj (i:=i) (by simpa using h1) h (by simpa using h2),iI]
def oX{α β : Type}[Inhabited α][Inhabited β]{p : α-> β->Bool}: ∀ {l:List α} {m:List β},l.length=m.length->(∀ k,k<l.length->p (l.getD k default) (m.getD k default)=true)->fq p l m=true
 | [],[],_,_=>rfl
 | x :: r, y :: t, h, hp => by
   have h0:=hp 0 aR;simp only[de]at h0;simp only[fq,h0,gH];exact oX (by simpa using h) (fun k hk=>by have:=hp (k+1) (by simpa using hk);simpa only[ie]using this)
@[go_sem] def anU {α : Type} (τ : List α) (c d : α):(τ++[c]++[d])[τ.length+1]? = some d:=aR
@[go_sem] def anV {α : Type} (τ : List α) (c d : α):(τ++[c]++[d])[τ.length]? = some c:=aR
@[go_sem] def an5 {α : Type} (τ : List α) (c d e : α):(τ++[c]++[d]).set (τ.length+1) e = τ++[c]++[e]:=aR
def B4 (fn : FuncId) (cap : List AV) (hcap : AV.cE cap = true) (p : Expr -> Expr -> Bool) (l m : List Expr)
    (h:∀ k,k<l.length->k<m.length->aQ aI fn (bt (l.getD k default)::bt (m.getD k default)::cap) (.bool (p (l.getD k default) (m.getD k default)))) (hl:l.length<=2 ^ 62) (hm:m.length<=2 ^ 62) :
    aQ aI 246 [eA l,eA m,.fn (.func fn) [] cap] (.bool (fq p l m)):=by
 refine aY yW ?_ (by simp[AV.dy,AV.cE,hcap,rY]);intro Q aJ aK aL;repeat' first|refine aC ?_|refine aB ?_ ?_<;>intro hw<;>try omega|fail
 ·refine a_ ?_ rfl;rw[oW ae]
 have rq:l.length=m.length:=ae;with_reducible refine bG [6,4,17,15] (fun p:Nat × List aX=>[(17,I p.1)]) (fun p=>p.2) (fun q=>q.1<=l.length/\ ∀ k,k<q.1->p (l.getD k default) (m.getD k default)=true) (fun p=>l.length-p.1) (0,[]) ?_ ?_ ?_ ?_
 ·simp
 ·rfl
 ·exact at_
 rintro⟨i,τ⟩ r ⟨h1,h2⟩;dsimp only at h1 h2;by_cases hi:i<l.length
 ·have hy:=h i hi ae;rw[bK,bK]at hy;repeat' first|refine aC ?_|refine aB ?_ ?_<;>intro hw<;>try omega|fail
  ·refine a_ ?_ rfl;rw[rj hi hw ae]
  refine⟨(i+1,τ++[.cells [I (l.getD i default).op,I (l.getD i default).v.kind,I (l.getD i default).v.n,.str (l.getD i default).v.s,.str (l.getD i default).s,.aS false EX ((l.getD i default).l.map bt)]]++[.cells [I (m.getD i default).op,I (m.getD i default).v.kind,I (m.getD i default).v.n,.str (m.getD i default).v.s,.str (m.getD i default).s,.aS false EX ((m.getD i default).l.map bt)]]),?_,?_,by first|rfl|(simp[go_sem];done),c8,at_⟩<;>(try dsimp only)
  ·exact⟨ae,cn h2 hw⟩
  omega
 repeat' first|refine aC ?_|refine aB ?_ ?_<;>intro hw<;>try omega|fail
 refine a_ ?_ rfl;rw[oX rq (fun k hk=>h2 k ae)]
mutual
def Ae: Expr->Expr->Bool
 | .mk o v s l,y=>decide (o=y.op) && decide (v=y.v) && decide (s=y.s) && Qz l y.l
def Qz: List Expr->List Expr->Bool
 | [],[]=>true
 | x::r,y::t=>Ae x y && Qz r t
 | _,_=>false
end
def Se: ∀(l m:List Expr),Qz l m=fq Ae l m
 | [],[]=>rfl
 | [],_::_=>rfl
 | _::_,[]=>rfl
 | x::r,y::t=>by simp only[Qz,fq,Se r t]
mutual
def Sf: Expr->Prop
 | .mk _ _ _ l=>l.length<=2 ^ 60/\brL l
def brL: List Expr->Prop
 | []=>True
 | x::r=>Sf x/\brL r
end
def VN{l:List Expr}{x:Expr}(h:brL l)(hx:x ∈ l): Sf x:=by
 induction l with
 | nil=>cases hx
 | cons y r ih =>
   simp only[brL]at h;rcases List.mem_cons.1 hx with rfl|hx
   ·exact h.1
   exact ih h.2 hx
def ahN{l:List Expr}(h:∀ x ∈ l,Sf x): brL l:=by
 induction l with
 | nil=>trivial
 | cons y r ih=>exact⟨h y aR,ih (fun x hx=>h x (dm _ hx))⟩
def aai(x:Expr): gM x<=2 ^ 60->Sf x:=by
 induction x using Expr.ind with
 | h op v s l ih =>
   intro h;simp only[gM]at h;have hl:=G9 l;exact⟨ae,ahN (fun y hy=>ih y hy (by have:=B3 hy;omega))⟩
def Uw(x:Expr): ∀ y:Expr,Sf x->Sf y->aQ aI 209 [bt x,bt y] (.bool (Ae x y)):=by
 induction x using Expr.ind with
 | h op v s l ih =>
   rintro⟨op',v',s',m⟩ hx hy;simp only[Sf]at hx hy;obtain⟨hl,Ea⟩:=hx;obtain⟨hm,Zq⟩:=hy;have hc:=B4 209 [] rfl Ae l m (fun k h1 h2=>ih _ (bx h1) _ (VN Ea (bx h1)) (VN Zq (bx h2))) ae ae;rw[<-Se]at hc;simp only[eA]at hc;obtain⟨vk,vn,vs⟩:=v;obtain⟨vk',vn',vs'⟩:=v';refine aY MP ?_;intro Q aJ aK aL;repeat' first|refine aC ?_|refine aB ?_ ?_<;>intro hw<;>try omega|fail
   all_goals refine a_ ?_ rfl
   all_goals (refine bj AV.bool ?_;simp only[Ae,Expr.op,Expr.v,Expr.s,Expr.l])
   all_goals (rw[cQ];simp_all)
def B5 (fn : FuncId) (cap : List AV) (hcap : AV.cE cap = true) (p : Expr -> Bool) (l : List Expr) (h : ∀ k, k < l.length -> aQ aI fn (bt (l.getD k default) :: cap) (.bool (p (l.getD k default)))) (hl : l.length <= 2 ^ 62) :
    aQ aI 211 [eA l,.fn (.func fn) [] cap] (I (kP p l)):=by
 refine aY yY ?_ (by simp[AV.dy,AV.cE,hcap,rY]);intro Q aJ aK aL;repeat' first|refine aC ?_|refine aB ?_ ?_<;>intro hw<;>try omega|fail
 with_reducible refine bG [4,2,8,11] (fun i:Nat=>[(8,I i)]) (fun _=>[]) (fun i=>i<=l.length/\ ∀ k,k<i->p (l.getD k default)=false) (fun i=>l.length-i) (0) ?_ ?_ ?_ ?_
 ·simp
 ·rfl
 ·exact at_
 rintro i r ⟨hi,hp⟩;by_cases hin:i<l.length
 ·have hx:=h i hin;rw[bK]at hx;repeat' first|refine aC ?_|refine aB ?_ ?_<;>intro hw<;>try omega|fail
  ·refine a_ ?_ rfl;refine bj I ?_;exact(qz hin hp hw).symm
  refine⟨i+1,?_,?_,by first|rfl|(simp[go_sem];done),c8,at_⟩<;>(try dsimp only)
  ·exact⟨ae,cn hp hw⟩
  omega
 repeat' first|refine aC ?_|refine aB ?_ ?_<;>intro hw<;>try omega|fail
 refine a_ ?_ rfl;refine bj I ?_;exact(nu fun k hk=>hp k ae).symm
def vS{α : Type}[Inhabited α](p : α->Bool)(l:List α): decide (0<=kP p l)=l.any p:=by
 rcases vO p l with⟨h1,h2⟩|⟨i,h1,h2,h3⟩
 ·rw[h1,show decide ((0:Int)<= -1)=false from da];symm;rw[List.any_eq_false];exact fC.1 h2
 rw[h2,bN ae];symm;rw[List.any_eq_true];exact⟨_,bx h1,fA h3⟩
def y4 (fn : FuncId) (cap : List AV) (hcap : AV.cE cap = true) (p : Expr -> Bool) (l : List Expr) (h : ∀ k, k < l.length -> aQ aI fn (bt (l.getD k default) :: cap) (.bool (p (l.getD k default)))) (hl : l.length <= 2 ^ 62) :
    aQ aI 167 [eA l,.fn (.func fn) [] cap] (.bool (l.any p)):=by
 refine aY wP ?_ (by simp[AV.dy,AV.cE,hcap,rY]);intro Q aJ aK aL;have hc:=B5 fn cap hcap p l h hl;simp only[eA]at hc;repeat' first|refine aC ?_|refine aB ?_ ?_<;>intro hw<;>try omega|fail
 all_goals refine a_ ?_ rfl
 all_goals rw[<-vS]
def v0: aW:=⟨0,0,[]⟩
mutual
def dY: Expr->Bool
 | .mk op v s l => decide ((l.length : Int) = j8 op) &&
    (if op=1 then decide (s=[]) && bZ v && (decide (v.kind≠1) || decide (0<=v.n))
     else if op=2 then decide (v=v0) && iL s
     else decide (v=v0) && decide (s=[]) && sU l)
def sU: List Expr->Bool
 | []=>true
 | x::r=>dY x && sU r
end
def K9(l:List Expr): sU l = !(l.any fun x=> !(dY x)):=by
 induction l with
 | nil=>rfl
 | cons x r ih=>simp[sU,ih]
mutual
def jj: Expr->Prop
 | .mk _ v s l=>s.length<=2 ^ 62/\v.s.length<=2 ^ 62/\ -9223372036854775808<=v.n/\v.n<=9223372036854775807/\H6 l
def H6: List Expr->Prop
 | []=>True
 | x::r=>jj x/\H6 r
end
def B6{l:List Expr}{x:Expr}(h:H6 l)(hx:x ∈ l): jj x:=by
 induction l with
 | nil=>cases hx
 | cons y r ih =>
   simp only[H6]at h;rcases List.mem_cons.1 hx with rfl|hx
   ·exact h.1
   exact ih h.2 hx
def MY(x:Expr)(h:aQ aI 122 [bt x] (.bool (dY x))): aQ aI 168 [bt x] (.bool (!(dY x))):=by
 refine aY HC ?_;intro Q aJ aK aL;rw[bK]at h ⊢;repeat' first|refine aC ?_|refine aB ?_ ?_<;>intro hw<;>try omega|fail
 all_goals refine a_ ?_ rfl
 all_goals simp_all
def FJ(x:Expr): jj x->gM x<=2 ^ 60->aQ aI 122 [bt x] (.bool (dY x)):=by
 induction x using Expr.ind with
 | h op v s l ih =>
   intro hx hz;simp only[gM]at hz;simp only[jj]at hx;obtain⟨o1,o2,o3,o4,o5⟩:=hx;have hl:=G9 l;have hc:=y4 168 [] rfl (fun x=> !(dY x)) l (fun k h1=>MY _ (ih _ (bx h1) (B6 o5 (bx h1)) (by have:=B3 (bx h1);omega))) ae;simp only[eA]at hc;obtain⟨vk,vn,vs⟩:=v;refine aY K3 ?_;intro Q aJ aK aL;repeat' first|refine aC ?_|refine eS (Sc _) ?_|refine eS (lR _ _ _ o3 o4) ?_|refine eS (vP _ o1) ?_|refine aB ?_ ?_<;>intro hw<;>try omega|fail
   all_goals refine a_ ?_ rfl
   all_goals (refine bj AV.bool ?_;simp only[dY,K9])
   all_goals (rw[cQ];simp_all[v0,ji])
def y5(x:Expr)(hx:jj x)(hz:gM x<=2 ^ 60): aQ aI 188 [bt x] (I (ji (dY x))):=by
 refine aY KY ?_;intro Q aJ aK aL;have h:=FJ x hx hz;rw[bK]at h ⊢;repeat' first|refine aC ?_|refine aB ?_ ?_<;>intro hw<;>try omega|fail
 all_goals refine a_ ?_ rfl
 all_goals simp_all[ji]
def ia {v r : AV} {tU ds : List AV} {τ : ai} (hv : View (.dead :: τ) v r) (hd : cN (.dead :: τ) tU ds) :
    ∃ r0 ds1 RC,Out.ret (oneOf [v])=Out.ret r0/\aX.cells tU:: τ = aX.cells ds1::RC/\View (.dead::RC) r0 r/\cN (.dead::RC) ds1 ds:=⟨_,_,_,rfl,rfl,hv,hd⟩
def x0: Expr:= .mk 0 v0 [] []
def FK(T:List Tok)(p:Nat)(b:Bool): Tok:=if b then default else T.getD p default
def qc(T:List Tok)(p:Nat)(k:Int)(s:aT): Bool:=decide (p<T.length) && (decide ((T.getD p default).kind=k) && decide ((T.getD p default).s=s))
def jo(T:List Tok)(p:Nat)(b:Bool)(k:Int)(s:aT): Bool:= !b && qc T p k s
def tE(x:FI): Int:=if x.level<3 then 1 else 4
def y6(T:List Tok)(p:Nat)(b:Bool)(lvl:Int): Option FI:=lf.find? fun x=>x.level==lvl && jo T p b (tE x) x.sign
def Ot(T:List Tok)(p:Nat)(b:Bool)(lvl:Int): Nat:=if(y6 T p b lvl).isSome then p+1 else p
def Sg(o:Option FI): Int:=match o with
 | some x=>x.op
 | none=>0
def cN.eqv{σ : ai}{a b:List AV}(h:a=b)(hp:AV.cE b=true): cN σ a b:=by subst h;exact cN.refl hp
def Af(s:aT): Option aW:=if s=[110,117,108,108]then some v0 else if s=[102,97,108,115,101]then some ⟨3,0,[]⟩else if s=[116,114,117,101]then some ⟨3,1,[]⟩else none
structure RS where
 x:Expr
 p:Nat
 bad:Bool
deriving Inhabited
def eM(T:List Tok)(p:Nat)(b:Bool): List AV:=[.aS false ET (T.map tN),I p,.bool b]
attribute [go_sem] eM
def cu(T:List Tok)(p:Nat)(b:Bool): AV.cE (eM T p b)=true:=by simp[eM,AV.dy,AV.cE,RX]
def rz{α : Type}[Inhabited α]{l:List α}{i:Nat}(h:l.length<=i): l.getD i default=default:=by
 rw[aq,iy h];rfl
def XO: (default:Tok)=⟨0,[],0,0⟩:=rfl
def afM(T:List Tok)(p:Nat)(b:Bool)(k:Int)(s:aT)(hk:k≠0): jo T p b k s=(decide ((FK T p b).kind=k) && decide ((FK T p b).s=s)):=by
 unfold jo FK qc;cases b with
 | true=>simp[XO];intro h;exact absurd h.symm hk
 | false =>
   by_cases hp:p<T.length
   ·simp[hp]
   rw[rz ae];simp[hp,XO];intro h;exact absurd h.symm hk
def K_(T:List Tok)(p:Nat)(b:Bool): dZ aI 295 0 [] (eM T p b) (eM T p b) (tN (FK T p b)):=by
 refine dZ.iK (C8.go ?_) rfl (cu _ _ _);unfold dO;intro Q aJ aK aL;cases b with
 | true =>
   repeat' first|refine aC ?_|refine aB ?_ ?_<;>intro hw<;>try omega|fail
   exact ia (View.eqv rfl rfl) (cN.refl (cu T p true))
 | false =>
   by_cases hp:p<T.length
   ·repeat' first|refine aC ?_|refine aB ?_ ?_<;>intro hw<;>try omega|fail
    refine ia (View.eqv ?_ rfl) (cN.refl (cu T p false));simp only[FK];rfl
   repeat' first|refine aC ?_|refine aB ?_ ?_<;>intro hw<;>try omega|fail
   refine ia (View.eqv ?_ rfl) (cN.refl (cu T p false));simp only[FK];rw[rz ae];rfl
def vp(T:List Tok)(p:Nat)(b:Bool)(k:Int)(s:aT): Nat:=if jo T p b k s then p+1 else p
def FL(T:List Tok)(p:Nat)(b:Bool)(k:Int)(s:aT)(hk:k≠0)(hp:p<=2 ^ 61): dZ aI 275 0 [I k,.str s] (eM T p b) (eM T (vp T p b k s) b) (.bool (jo T p b k s)):=by
 have hn:=K_ T p b;unfold vp;rw[afM T p b k s hk];generalize FK T p b=t at hn ⊢;obtain⟨tk,ts,tn,tp⟩:=t;simp only[eM,tN]at hn;refine dZ.iK (Ev.go ?_) rfl (cu _ _ _);unfold dO;intro Q aJ aK aL;repeat' first|refine aC ?_|refine dX hn ?_|refine aB ?_ ?_<;>intro hw<;>try omega|fail
 all_goals first
  |(refine ia (View.eqv ?_ rfl) (cN.eqv ?_ (cu _ _ _))<;>simp_all[eM];done)
def Bd(T:List Tok)(p:Nat)(b:Bool)(k:Int)(s:aT)(hk:k≠0)(hp:p<=2 ^ 61): dZ aI 296 0 [I k,.str s] (eM T p b) (eM T (vp T p b k s) (b || !(jo T p b k s))) (.bR []):=by
 have hn:=FL T p b k s hk hp;generalize jo T p b k s=o at hn ⊢;simp only[eM]at hn;refine dZ.iK (BM.go ?_) rfl (cu _ _ _);unfold dO;intro Q aJ aK aL;cases o
 ·repeat' first|refine aC ?_|refine dX hn ?_|refine aB ?_ ?_<;>intro hw<;>try omega|fail
  refine KN rfl (cN.eqv ?_ (cu _ _ _));simp[eM]
 repeat' first|refine aC ?_|refine dX hn ?_|refine aB ?_ ?_<;>intro hw<;>try omega|fail
 refine KN rfl (cN.eqv ?_ (cu _ _ _));simp[eM]
def Sh(s:aT): aQ aI 297 [.str s] (.bR [cR ((Af s).getD v0),.bool (Af s).isSome]):=by
 refine aY MR ?_;intro Q aJ aK aL;repeat' first|refine aC ?_|refine aB ?_ ?_<;>intro hw<;>try omega|fail
 all_goals refine cg ?_ rfl
 all_goals simp_all[Af,cR,v0]
def Eb(T:List Tok)(p:Nat)(b:Bool)(lvl:Int)(hp:p<=2 ^ 61): dZ aI 278 0 [I lvl] (eM T p b) (eM T (Ot T p b lvl) b) (I (Sg (y6 T p b lvl))):=by
 refine dZ.iK (zy.go ?_) rfl (cu _ _ _);unfold dO;intro Q aJ aK aL;have hl:lf.length=12:=rfl;have ho:=fun k s (hk:k≠0)=>FL T p b k s hk hp;simp only[eM]at ho;repeat' first|refine aC ?_|refine eS Ad ?_|refine aB ?_ ?_<;>intro hw<;>try omega|fail
 with_reducible refine bG [4,1,6,2,10,21] (fun q:Nat × List aX=>[(10,I q.1)]) (fun q=> .cells [.aS false ET (T.map tN),I p,.bool b]::q.2) (fun q=>q.1<=12/\ ∀ k,k<q.1->((lf.getD k default).level==lvl && jo T p b (tE (lf.getD k default)) (lf.getD k default).sign)=false) (fun q=>12-q.1) (0,[]) ?_ ?_ ?_ ?_
 ·simp
 ·rfl
 ·exact at_
 rintro⟨i,τ⟩ r ⟨h1,h2⟩;dsimp only at h1 h2;by_cases hi:i<12
 ·obtain⟨x,hx⟩:=cq (lf.getD i default)
  have hyes:(x.level==lvl && jo T p b (tE x) x.sign)=true->y6 T p b lvl=some x:=fun h=>by
   unfold y6;rw[yp (p:=fun y:FI=>y.level==lvl && jo T p b (tE y) y.sign) hi h2 (by rw[hx];exact h),hx]
  have ac0:(x.level==lvl && jo T p b (tE x) x.sign)=false-> ∀ k,k<i+1->((lf.getD k default).level==lvl && jo T p b (tE (lf.getD k default)) (lf.getD k default).sign)=false:=fun h=>cn h2 (by rw[hx];exact h);have k8:(x.level<3/\tE x=1)\/(¬ x.level<3/\tE x=4):=by unfold tE;split<;>simp_all
  clear h2;rcases k8 with⟨hlv,hkb⟩|⟨hlv,hkb⟩;all_goals rw[hkb]at hyes ac0
  all_goals (
   repeat' first|refine cB hx ?_|refine aC ?_|with_reducible refine Mx (ho 1 _ da) rfl ?_|with_reducible refine MA (ho 1 _ da) rfl ?_|with_reducible refine MB (ho 1 _ da) rfl ?_|with_reducible refine Mx (ho 4 _ da) rfl ?_|with_reducible refine MA (ho 4 _ da) rfl ?_|with_reducible refine MB (ho 4 _ da) rfl ?_|refine aB ?_ ?_<;>intro hw<;>try omega|fail
   ·rename_i _ hlq;have hy:=hyes (by rw[hlq,hw];simp);refine ia (View.eqv ?_ rfl) (cN.eqv ?_ (cu _ _ _))
    ·rw[hy];rfl
    simp[eM,Ot,hy,vp,hw]
   ·rename_i hlq;refine⟨(i+1,τ++[.cells [I x.op,.str x.sign,I x.level]]),?_,?_,?_,c8,at_⟩<;>(try dsimp only)
    ·exact⟨ae,ac0 (by rw[hw];simp)⟩
    ·omega
    simp[vp,hw]
   ·refine⟨(i+1,τ++[.cells [I x.op,.str x.sign,I x.level]]),?_,?_,?_,c8,at_⟩<;>(try dsimp only)
    ·exact⟨ae,ac0 (by rw[beq_eq_false_iff_ne.2 hw];rfl)⟩
    ·omega)
 have hno:y6 T p b lvl=none:=by
  unfold y6;rw[vR (p:=fun y:FI=>y.level==lvl && jo T p b (tE y) y.sign) (fun k hk=>h2 k ae)]
 repeat' first|refine aC ?_|refine aB ?_ ?_<;>intro hw<;>try omega|fail
 refine ia (View.eqv ?_ rfl) (cN.eqv ?_ (cu _ _ _))<;>simp_all[eM,Sg,Ot]
def lT(T:List Tok)(r:RS)(k:Int)(s:aT): RS:=⟨r.x,vp T r.p r.bad k s,r.bad || !(jo T r.p r.bad k s)⟩
def sV(rd:Nat->Nat->RS)(lvl p:Nat)(b:Bool): RS:=if b then⟨x0,p,true⟩else rd lvl p
def Be(v:aW)(p:Nat): RS:=⟨.mk 1 v [] [],p,false⟩
def pQ(rd:Nat->Nat->RS)(T:List Tok)(p:Nat): RS :=
 if qc T p 4 [40]then lT T (rd 0 (p+1)) 4 [41]
 else if(T.getD p default).kind=2 then Be ⟨1,(T.getD p default).n,[]⟩ (p+1)
 else if(T.getD p default).kind=3 then Be ⟨2,0,(T.getD p default).s⟩ (p+1)
 else if(T.getD p default).kind=1 then
  (match Af (T.getD p default).s with
  | some v=>Be v (p+1)
  | none=>if iL (T.getD p default).s then⟨.mk 2 v0 (T.getD p default).s [],p+1,false⟩else ⟨x0,p,true⟩)
 else⟨x0,p,true⟩
def thenS: aT:=[116,104,101,110]
def G_: aT:=[101,108,115,101]
def oY(rd:Nat->Nat->RS)(T:List Tok)(p:Nat): RS:=lT T (rd 0 p) 1 thenS
def wS(rd:Nat->Nat->RS)(T:List Tok)(p:Nat): RS:=lT T (sV rd 0 (oY rd T p).p (oY rd T p).bad) 1 G_
def FM(rd:Nat->Nat->RS)(T:List Tok)(p:Nat): RS:=sV rd 0 (wS rd T p).p (wS rd T p).bad
def Ou(rd:Nat->Nat->RS)(T:List Tok)(p:Nat): RS:=⟨.mk 16 v0 [] [(oY rd T p).x,(wS rd T p).x,(FM rd T p).x],(FM rd T p).p,(FM rd T p).bad⟩
def dJ(T:List Tok): Nat->Option Expr->Nat->Nat->RS
 | 0,_,_,p=>⟨x0,p,true⟩
 | f + 1, none, lvl, p =>
   if lvl=0 then(if qc T p 1 [105,102]then Ou (fun l q=>dJ T f none l q) T (p+1)else dJ T f none 1 p)
   else if lvl=6/\qc T p 4 [45]=true then⟨.mk 3 v0 [] [(dJ T f none 6 (p+1)).x],(dJ T f none 6 (p+1)).p,(dJ T f none 6 (p+1)).bad⟩
   else if 6<=lvl then pQ (fun l q=>dJ T f none l q) T p
   else if(dJ T f none (lvl+1) p).bad then dJ T f none (lvl+1) p
   else dJ T f (some (dJ T f none (lvl+1) p).x) lvl (dJ T f none (lvl+1) p).p
 | f + 1, some x, lvl, p =>
   match y6 T p false lvl with
   | none=>⟨x,p,false⟩
   | some o =>
     if lvl=3\/(dJ T f none (lvl+1) (p+1)).bad=true then⟨.mk o.op v0 [] [x,(dJ T f none (lvl+1) (p+1)).x],(dJ T f none (lvl+1) (p+1)).p,(dJ T f none (lvl+1) (p+1)).bad⟩
     else dJ T f (some (.mk o.op v0 [] [x,(dJ T f none (lvl+1) (p+1)).x])) lvl (dJ T f none (lvl+1) (p+1)).p
def qd{T:List Tok}{p:Nat}{k:Int}{s:aT}(h:qc T p k s=true): p<T.length:=by
 simp only[qc,aD,aM]at h;exact h.1
def oZ{T:List Tok}{p:Nat}{b:Bool}{k:Int}{s:aT}(h:jo T p b k s=true): p<T.length/\b=false:=by
 simp only[jo,aD,ey]at h;exact⟨qd h.2,h.1⟩
def FN{T:List Tok}{p:Nat}{b:Bool}{lvl:Int}{o:FI}(h:y6 T p b lvl=some o): p<T.length/\b=false/\o ∈ lf/\o.level=lvl:=by
 have h1:=fA h;simp only[aD,beq_iff_eq]at h1;exact⟨(oZ h1.2).1,(oZ h1.2).2,ij h,h1.1⟩
def kH(n p:Nat)(r:RS): Prop:=p<=r.p/\r.p<=n/\(r.bad=false->p<r.p)
def wT{T:List Tok}{p:Nat}{r:RS}(k:Int)(s:aT)(h:kH T.length p r): kH T.length p (lT T r k s):=by
 obtain⟨h1,h2,h3⟩:=h;unfold lT kH vp;dsimp only;by_cases ho:jo T r.p r.bad k s=true
 ·have:=oZ ho;have h4:=h3 this.2;rw[au ho];refine⟨ae,ae,fun _=>by omega⟩
 rw[aj ho];refine⟨h1,h2,fun h=>?_⟩;simp only[kB]at ho;rw[ho]at h;simp at h
def Ju{T:List Tok}{rd:Nat->Nat->RS}(hrd:∀ l q,q<=T.length->kH T.length q (rd l q)){l q:Nat}{b:Bool}(hq:q<=T.length): kH T.length q (sV rd l q b):=by
 unfold sV;split
 ·exact⟨Nat.le_refl _,hq,fun h=>by cases h⟩
 exact hrd l q hq
def kH.from{n p q:Nat}{r:RS}(h:kH n q r)(hpq:p<=q): kH n p r:=⟨cZ hpq h.1,h.2.1,fun hb=>Nat.lt_of_le_of_lt hpq (h.2.2 hb)⟩
def Di{T:List Tok}{rd:Nat->Nat->RS}(hrd:∀ l q,q<=T.length->kH T.length q (rd l q)){p:Nat}(hp:p<=T.length): kH T.length p (oY rd T p):=wT _ _ (hrd 0 p hp)
def Dj{T:List Tok}{rd:Nat->Nat->RS}(hrd:∀ l q,q<=T.length->kH T.length q (rd l q)){p:Nat}(hp:p<=T.length): kH T.length (oY rd T p).p (wS rd T p):=wT _ _ (Ju hrd (Di hrd hp).2.1)
def ac1{T:List Tok}{rd:Nat->Nat->RS}(hrd:∀ l q,q<=T.length->kH T.length q (rd l q)){p:Nat}(hp:p<=T.length): kH T.length (wS rd T p).p (FM rd T p):=Ju hrd (Dj hrd hp).2.1
def aaj{T:List Tok}{rd:Nat->Nat->RS}(hrd:∀ l q,q<=T.length->kH T.length q (rd l q)){p:Nat}(hp:p<=T.length): kH T.length p (pQ rd T p):=by
 have stay:∀ x,kH T.length p ⟨x,p,true⟩:=fun x=>⟨Nat.le_refl _,hp,fun h=>by cases h⟩;have k0:¬ p<T.length->(T.getD p default).kind=0:=fun h=>by rw[rz ae];rfl
 have step:(T.getD p default).kind≠0-> ∀ x,kH T.length p ⟨x,p+1,false⟩:=fun hk x=>by
  have:p<T.length:=by
   by_cases h:p<T.length
   ·exact h
   exact absurd (k0 h) hk
  exact⟨Nat.le_succ _,this,fun _=>Nat.lt_succ_self _⟩
 unfold pQ;split
 ·rename_i h;exact wT _ _ ((hrd 0 (p+1) (qd h)).from (Nat.le_succ _))
 split
 ·exact step ae _
 split
 ·exact step ae _
 split
 ·split
  ·exact step ae _
  split
  ·exact step ae _
  exact stay _
 exact stay _
def uf(T:List Tok)(f:Nat): ∀(m:Option Expr) (lvl p:Nat),p<=T.length->(m=none->kH T.length p (dJ T f m lvl p))/\p<=(dJ T f m lvl p).p/\(dJ T f m lvl p).p<=T.length:=by
 induction f with
 | zero =>
   intro m lvl p hp;simp only[dJ];exact⟨fun _=>⟨Nat.le_refl _,hp,fun h=>by cases h⟩,Nat.le_refl _,hp⟩
 | succ f ih =>
   intro m lvl p hp;have hrd:∀ l q,q<=T.length->kH T.length q (dJ T f none l q):=fun l q hq=>(ih none l q hq).1 rfl;cases m with
   | none =>
     have:kH T.length p (dJ T (f+1) none lvl p):=by
      simp only[dJ];split
      ·split
       ·rename_i h;have h1:=qd h;have a:=Di hrd (p:=p+1) h1;have b:=Dj hrd (p:=p+1) h1;have c:=ac1 hrd (p:=p+1) h1;exact(show kH T.length (wS (fun l q=>dJ T f none l q) T (p+1)).p (Ou (fun l q=>dJ T f none l q) T (p+1)) from⟨c.1,c.2.1,c.2.2⟩).from (cZ (Nat.le_succ _) (cZ a.1 b.1))
       exact hrd 1 p hp
      split
      ·rename_i h;have h1:=qd h.2;have c:=hrd 6 (p+1) h1;exact(show kH T.length (p+1) ⟨_,_,_⟩ from⟨c.1,c.2.1,c.2.2⟩).from (Nat.le_succ _)
      split
      ·exact aaj hrd hp
      split
      ·exact hrd _ _ hp
      rename_i hb;have a:=hrd (lvl+1) p hp;have b:=ih (some (dJ T f none (lvl+1) p).x) lvl _ a.2.1;have:=a.2.2 (by simpa using hb);exact⟨ae,b.2.2,fun _=>by omega⟩
     exact⟨fun _=>this,this.1,this.2.1⟩
   | some x =>
     refine⟨fun h=>(by cases h),?_⟩;simp only[dJ];split
     ·exact⟨bf _,hp⟩
     rename_i o ho;have h1:=(FN ho).1;have a:=hrd (lvl+1) (p+1) h1;split
     ·exact⟨by have:=a.1;dsimp only;omega,a.2.1⟩
     have b:=ih (some (.mk o.op v0 [] [x,(dJ T f none (lvl+1) (p+1)).x])) lvl _ a.2.1;exact⟨by have:=a.1;omega,b.2.2⟩
def r7{σ : ai}{op vk vn:Int}{vs s:aT}{L:AV}{l:List Expr}(hL:View σ L (.aS false EX (l.map bt))): View σ (.agg [I op,I vk,I vn,.str vs,.str s,L]) (bt (.mk op ⟨vk,vn,vs⟩ s l)):=by
 rw[bK];refine View.nO (.cons (.refl _ rfl) (.cons (.refl _ rfl) (.cons (.refl _ rfl) (.cons (.refl _ rfl) (.cons (.refl _ rfl) (.cons ?_ (.nil _)))))));exact hL
def Ag(T:List Tok)(n:FuncId)(rd:Nat->Nat->RS)(l q:Nat): Prop:=dZ aI n 0 [I l] (eM T q false) (eM T (rd l q).p (rd l q).bad) (bt (rd l q).x)
def rB(T:List Tok)(p:Nat)(k:Int)(s:aT)(o:Bool)(hk:k≠0)(hp:p<=2 ^ 61)(h:qc T p k s=o): dZ aI 275 0 [I k,.str s] (eM T p false) (eM T (if o then p+1 else p) false) (.bool o):=by
 have:=FL T p false k s hk hp;unfold vp at this;rw[show jo T p false k s=o from h]at this;cases o
 ·simpa using this
 simpa using this
def Ux (T : List Tok) (p : Nat) (rd : Nat -> Nat -> RS) (hp : p <= T.length) (hT : T.length <= 2 ^ 60) (hs : ∀ q, (T.getD q default).s.length <= 2 ^ 62)
    (hrd:qc T p 4 [40]=true->Ag T 256 rd 0 (p+1)/\(rd 0 (p+1)).p<=T.length) :
    dZ aI 277 0 [] (eM T p false) (eM T (pQ rd T p).p (pQ rd T p).bad) (bt (pQ rd T p).x):=by
 have tZ:=fun o (ho:qc T p 4 [40]=o)=>rB T p 4 [40] o da ae ho;have La:=K_ T p false;have hsp:=hs p;simp only[FK,aP,if_false]at La;by_cases MZ:qc T p 4 [40]=true
 ·have ha:pQ rd T p=lT T (rd 0 (p+1)) 4 [41]:=by unfold pQ;rw[if_pos MZ]
  obtain⟨hr,hb⟩:=hrd MZ;unfold Ag at hr;rw[ha];have tZ:=tZ true MZ;generalize rd 0 (p+1)=r at *;have hm:=Bd T r.p r.bad 4 [41] da ae;rw[bK]at hr;simp only[eM,if_true]at tZ hr hm;generalize hE:bt _=E;refine dZ.iK (jh.go ?_) rfl (cu _ _ _);unfold dO;intro Q aJ aK aL;repeat' first|refine aC ?_|refine dX tZ ?_|refine dX hr ?_|refine dX hm ?_|refine aB ?_ ?_<;>intro hw<;>try omega|fail
  exact ia (View.eqv (by rw[<-hE];exact(bK _).symm) (by rw[<-hE];exact iF _)) (cN.refl (cu _ _ _))
 have aeP:qc T p 4 [40]=false:=by simpa using MZ
 have tZ:=tZ false aeP;simp only[eM,aP,if_false]at tZ La;have ha:pQ rd T p=(if(T.getD p default).kind=2 then Be ⟨1,(T.getD p default).n,[]⟩ (p+1)
 else if(T.getD p default).kind=3 then Be ⟨2,0,(T.getD p default).s⟩ (p+1)
 else if(T.getD p default).kind=1 then
  (match Af (T.getD p default).s with
  | some v=>Be v (p+1)
  | none=>if iL (T.getD p default).s then⟨.mk 2 v0 (T.getD p default).s [],p+1,false⟩else ⟨x0,p,true⟩)
 else⟨x0,p,true⟩:RS):=by unfold pQ;rw[if_neg MZ]<;>rfl
 rw[ha];clear ha hrd hs MZ aeP;generalize T.getD p default=t at *;obtain⟨tk,ts,tn,tp⟩:=t;simp only[tN]at La hsp ⊢;have hname:=vP ts hsp;have hword:=Sh ts;by_cases h2:tk=2
 ·rw[au h2];generalize hE:bt _=E;refine dZ.iK (jh.go ?_) rfl (cu _ _ _);unfold dO;intro Q aJ aK aL;repeat' first|refine aC ?_|refine dX tZ ?_|refine dX La ?_|refine aB ?_ ?_<;>intro hw<;>try omega|fail
  exact ia (by rw[<-hE];exact r7 (.aU _)) (cN.eqv rfl (cu T (p+1) false))
 rw[aj h2];by_cases h3:tk=3
 ·rw[au h3];generalize hE:bt _=E;refine dZ.iK (jh.go ?_) rfl (cu _ _ _);unfold dO;intro Q aJ aK aL;repeat' first|refine aC ?_|refine dX tZ ?_|refine dX La ?_|refine aB ?_ ?_<;>intro hw<;>try omega|fail
  exact ia (by rw[<-hE];exact r7 (.aU _)) (cN.eqv rfl (cu T (p+1) false))
 rw[aj h3];by_cases h1:tk=1
 case neg =>
  rw[aj h1];generalize hE:bt _=E;refine dZ.iK (jh.go ?_) rfl (cu _ _ _);unfold dO;intro Q aJ aK aL;repeat' first|refine aC ?_|refine dX tZ ?_|refine dX La ?_|refine aB ?_ ?_<;>intro hw<;>try omega|fail
  exact ia (by rw[<-hE];exact r7 (.aU _)) (cN.eqv rfl (cu T p true))
 rw[au h1];cases hw:Af ts with
 | some v =>
   rw[hw]at hword;simp only[bO,Option.isSome_some,cR]at hword;dsimp only;generalize hE:bt _=E;refine dZ.iK (jh.go ?_) rfl (cu _ _ _);unfold dO;intro Q aJ aK aL;repeat' first|refine aC ?_|refine dX tZ ?_|refine dX La ?_|refine aB ?_ ?_<;>intro hw<;>try omega|fail
   exact ia (by rw[<-hE];exact r7 (.aU _)) (cN.eqv rfl (cu T (p+1) false))
 | none =>
   rw[hw]at hword;simp only[Option.getD_none,Option.isSome_none,cR,v0]at hword;dsimp only;cases hn:iL ts with
   | true =>
     rw[hn]at hname;simp only[if_true];generalize hE:bt _=E;refine dZ.iK (jh.go ?_) rfl (cu _ _ _);unfold dO;intro Q aJ aK aL;repeat' first|refine aC ?_|refine dX tZ ?_|refine dX La ?_|refine aB ?_ ?_<;>intro hw<;>try omega|fail
     exact ia (by rw[<-hE];exact r7 (.aU _)) (cN.eqv rfl (cu T (p+1) false))
   | false =>
     rw[hn]at hname;simp only[aP,if_false];generalize hE:bt _=E;refine dZ.iK (jh.go ?_) rfl (cu _ _ _);unfold dO;intro Q aJ aK aL;repeat' first|refine aC ?_|refine dX tZ ?_|refine dX La ?_|refine aB ?_ ?_<;>intro hw<;>try omega|fail
     exact ia (by rw[<-hE];exact r7 (.aU _)) (cN.eqv rfl (cu T p true))
def Si {T : List Tok} {n : FuncId} {rd : Nat -> Nat -> RS} {l q : Nat} {b : Bool} (h : b = false -> Ag T n rd l q) (XP : dZ aI n 0 [I l] (eM T q true) (eM T q true) (bt x0)) :
    dZ aI n 0 [I l] (eM T q b) (eM T (sV rd l q b).p (sV rd l q b).bad) (bt (sV rd l q b).x):=by
 cases b with
 | true=>exact XP
 | false=>exact h rfl
def Qf (T : List Tok) (p : Nat) (rd : Nat -> Nat -> RS) (hp : p <= T.length) (hT : T.length <= 2 ^ 60) (wU : ∀ l q, q <= T.length -> kH T.length q (rd l q))
    (XP:∀ q,dZ aI 256 0 [I 0] (eM T q true) (eM T q true) (bt x0)) (hrd:∀ q,p<=q->q<=T.length->Ag T 256 rd 0 q) :
    dZ aI 276 0 [] (eM T p false) (eM T (Ou rd T p).p (Ou rd T p).bad) (bt (Ou rd T p).x):=by
 have ga:=Di wU hp;have gb:=Dj wU hp;have g0:=wU 0 p hp;have g1:=Ju wU (l:=0) (b:=(oY rd T p).bad) ga.2.1;have c1:=hrd p (bf _) hp;have m1:=Bd T (rd 0 p).p (rd 0 p).bad 1 thenS da (by have:=g0.2.1;omega);have c2:=Si (l:=0) (q:=(oY rd T p).p) (b:=(oY rd T p).bad) (fun _=>hrd _ ga.1 ga.2.1) (XP _);have m2:=Bd T (sV rd 0 (oY rd T p).p (oY rd T p).bad).p (sV rd 0 (oY rd T p).p (oY rd T p).bad).bad 1 G_ da (by have:=g1.2.1;omega);have c3:=Si (l:=0) (q:=(wS rd T p).p) (b:=(wS rd T p).bad) (fun _=>hrd _ (cZ ga.1 gb.1) gb.2.1) (XP _)
 change dZ _ _ _ _ _ (eM T (oY rd T p).p (oY rd T p).bad) _ at m1
 change dZ _ _ _ _ _ (eM T (wS rd T p).p (wS rd T p).bad) _ at m2
 change dZ _ _ _ _ _ (eM T (FM rd T p).p (FM rd T p).bad) (bt (FM rd T p).x)at c3
 unfold Ag at c1;simp only[Ou];have xa:(oY rd T p).x=(rd 0 p).x:=rfl;have xb:(wS rd T p).x=(sV rd 0 (oY rd T p).p (oY rd T p).bad).x:=rfl;rw[xa,xb];generalize sV rd 0 (oY rd T p).p (oY rd T p).bad=rb at *;generalize oY rd T p=ra at *;generalize wS rd T p=rb2 at *;generalize FM rd T p=rc at *;generalize rd 0 p=r1 at *;rw[bK]at c1 c2 c3;simp only[eM,thenS,G_]at c1 m1 c2 m2 c3;generalize hE:bt _=E;refine dZ.iK (zz.go ?_) rfl (cu _ _ _);unfold dO;intro Q aJ aK aL;repeat' first|refine aC ?_|refine dX c1 ?_|refine dX m1 ?_|refine dX c2 ?_|refine dX m2 ?_|refine dX c3 ?_|refine aB ?_ ?_<;>intro hw<;>try omega|fail
 refine ia ?_ (cN.refl (cu _ _ _));rw[<-hE];refine r7 ?_;rw[bB,bB,bB,cY,bK,bK,bK];refine View.weak _ _ _ ?_;simp
@[go_sem ↓] def ajK (l:Nat) (J:Env->ai->Prop) (Q:AQ) (e:Env) (σ : ai):ux l J Q (.goto l) e σ = J e σ:=by simp[ux]
def VO{e':Env}: ∀(l:List (Nat × AV)),At l e'->puts l e'=e'
 | [],_=>rfl
 | (d, v) :: l, h => by
   simp only[puts];rw[VO l (fun p hp=>h p (dm _ hp))];exact oG (h (d,v) aR)
def afN {P : Program} {l : Nat} {c r : dI} {Q : AQ} {e : Env} {σ : ai} {α : Type} (cs : α -> List (Nat × AV)) (S : α -> ai) (A : α -> Prop) (μ : α -> Nat)
    (hb:jF P c (ux l (fun e' σ'=> ∃ x,A x/\σ'=S x/\At (cs x) e') Q) e σ)
    (hr:∀ x r0,A x->jF P r (ux l (fun e' σ'=> ∃ x',A x'/\ μ x' < μ x/\σ'=S x'/\At (cs x') e') Q) (puts (cs x) r0) (S x)):Rt P (.mk:Tg (l,c,r,Q,e,σ)):=by
 refine⟨fun n e' σ'=> ∃ x,A x/\At (cs x) e'/\σ'=S x/\ μ x=n,C2 (fun ex e2 σ2 hq=>?_) _ _ hb,?_⟩
 ·cases ex<;>try exact hq
  obtain⟨h1,x,a,hs,ht⟩:=hq;exact⟨h1,_,x,a,ht,hs,rfl⟩
 rintro n e' σ' ⟨x1,a1,t1,rfl,rfl⟩;have h:=hr x1 e' a1;rw[VO _ t1]at h;refine C2 (fun ex e2 σ2 hq=>?_) _ _ h;cases ex<;>try exact hq
 obtain⟨h1,x',a',hm,hs,ht⟩:=hq;exact⟨h1,_,hm,x',a',ht,hs,rfl⟩
def uH(op:Int)(zs:List AV): List AV:=[I op,I 0,I 0,.str [],.str [],.aS true EX zs]
def He{σ : ai}{op:Int}{zs:List AV}{l:List Expr}(h:cN [] zs (l.map bt)): View σ (.agg (uH op zs)) (bt (.mk op v0 [] l)) :=
 View.mono (σ:=[]) (fun _ _ h=>by simp at h) (r7 (View.Mw h))
def Lb{a b:AV}{x y:Expr}(h:View [] a (bt x))(h2:View [] b (bt y)): cN [] [a,b] ([x,y].map bt):= .cons h (.cons h2 (.nil _))
def XQ{op:Int}{zs:List AV}(h:AV.cE zs=true): AV.cE (uH op zs)=true:=by simp[uH,AV.dy,AV.cE,h]
structure Lp where
 op:Int
 l:List Expr
 zs:List AV
 p:Nat
 f:Nat
def Ld(T:List Tok)(lvl:Int)(p:Nat): dZ aI 256 0 [I lvl] (eM T p true) (eM T p true) (bt x0):=by
 generalize hE:bt x0=E;refine dZ.iK (gD.go ?_) rfl (cu _ _ _);unfold dO;intro Q aJ aK aL;repeat' first|refine aC ?_|refine aB ?_ ?_<;>intro hw<;>try omega|fail
 exact ia (by rw[<-hE];exact r7 (.aU _)) (cN.refl (cu T p true))
def M0 (T : List Tok) (hT : T.length <= 2 ^ 60) (rd : Nat -> Nat -> RS) (f lvl p : Nat) (h1 : 1 <= lvl) (h5 : lvl <= 5) (hp : p <= T.length) (hf : 8 * (T.length - p) + (8 - lvl) <= f) (hrd : rd = fun l q => dJ T f none l q)
    (ih:∀ j,j<=f-> ∀ l q,l<=7->q<=T.length->8*(T.length-q)+(8-l)<j->Ag T 256 (fun l q=>dJ T j none l q) l q) :
    dZ aI 256 0 [I lvl] (eM T p false) (eM T (dJ T (f+1) none lvl p).p (dJ T (f+1) none lvl p).bad) (bt (dJ T (f+1) none lvl p).x):=by
 have ga:=(uf T f none (lvl+1) p hp).1 rfl;have ca:=ih f (bf _) (lvl+1) p ae hp ae;simp only[Ag]at ca;obtain⟨ga1,ga2,ga3⟩:=ga
 have hR:dJ T (f+1) none lvl p=if(dJ T f none (lvl+1) p).bad then dJ T f none (lvl+1) p else dJ T f (some (dJ T f none (lvl+1) p).x) lvl (dJ T f none (lvl+1) p).p:=by
  rw[dJ];rw[aj ae,aj ae,aj ae]
 generalize dJ T (f+1) none lvl p=R at *;generalize dJ T f none (lvl+1) p=a at *;obtain⟨ax,ap,ab⟩:=a;dsimp only at *;have cb:=Eb T ap ab lvl ae;rw[bK]at ca;cases ab with
 | true =>
   simp only[if_true]at hR;subst hR;dsimp only
   have hn:y6 T ap true lvl=none:=by
    cases ho:y6 T ap true lvl with
    | none=>rfl
    | some o=>have:=(FN ho).2.1;cases this
   simp only[Ot,hn,Sg,Option.isSome_none,aP,if_false]at cb;generalize hE:bt ax=E;simp only[eM,bC,bn]at ca cb;refine dZ.iK (gD.go ?_) rfl (cu _ _ _);unfold dO;intro Q aJ aK aL;repeat' first|simp (disch:=omega) only[go_sem,aJ,aK,aL,bC,bn]|refine aC ?_|refine dX ca ?_|refine dX cb ?_|refine aB ?_ ?_<;>intro hw<;>try omega|fail
   exact ia (by rw[<-hE];exact View.eqv (bK _).symm (iF _)) (cN.refl (cu _ _ _))
 | false =>
   simp only[aP,if_false]at hR;have gp:=ga3 rfl;obtain⟨f,rfl⟩:∃ f',f=f'+1:=⟨f-1,ae⟩;rw[dJ]at hR;have e0:∀ σ : ai,View σ (.agg [I ax.op,I ax.v.kind,I ax.v.n,.str ax.v.s,.str ax.s,.aS false EX (ax.l.map bt)]) (bt ax):=fun σ=>View.eqv (bK _).symm (iF _);cases ho:y6 T ap false lvl with
   | none =>
     rw[ho]at hR;dsimp only at hR;subst hR;dsimp only;simp only[Ot,ho,Sg,Option.isSome_none,aP,if_false]at cb;generalize hE:bt ax=E at *;simp only[eM,bC,bn]at ca cb;refine dZ.iK (gD.go ?_) rfl (cu _ _ _);unfold dO;intro Q aJ aK aL;repeat' first|simp (disch:=omega) only[go_sem,aJ,aK,aL,bC,bn]|refine aC ?_|refine dX ca ?_|refine dX cb ?_|refine aB ?_ ?_<;>intro hw<;>try omega|fail
     exact ia (e0 _) (cN.refl (cu _ _ _))
   | some o =>
     rw[ho]at hR;dsimp only at hR;obtain⟨VP,_,Ov,ho3⟩:=FN ho
     have hop:o.op≠0:=by
      intro h;simp only[lf,fY,fF,or_false]at Ov;rcases Ov with rfl|rfl|rfl|rfl|rfl|rfl|rfl|rfl|rfl|rfl|rfl|rfl<;>simp at h
     have cc:=ih f ae (lvl+1) (ap+1) ae ae ae;have gc:=(uf T f none (lvl+1) (ap+1) ae).1 rfl;obtain⟨gc1,gc2,gc3⟩:=gc;simp only[Ag]at cc;simp only[Ot,ho,Sg,Option.isSome_some,if_true]at cb;generalize dJ T f none (lvl+1) (ap+1)=c at *;obtain⟨cx,cp,XR⟩:=c;dsimp only at *;by_cases hend:lvl=3\/XR=true
     ·rw[au hend]at hR;subst hR;dsimp only;have e1:∀ σ : ai,View σ (.agg (uH o.op [.agg [I ax.op,I ax.v.kind,I ax.v.n,.str ax.v.s,.str ax.s,.aS false EX (ax.l.map bt)],bt cx])) (bt (.mk o.op v0 [] [ax,cx])):=fun σ=>He (Lb (e0 _) (.refl _ (iF _)));rw[bK cx]at e1 cc;generalize hE:bt (.mk o.op v0 [] [ax,cx])=E at *;simp only[eM,bC,bn]at ca cb cc;have h3:¬ (¬ lvl=3/\XR=false):=by rcases hend with h|h<;>simp[h]
      refine dZ.iK (gD.go ?_) rfl (cu _ _ _);unfold dO;intro Q aJ aK aL;rcases hend with hend|hend
      ·subst hend;repeat' first|simp (disch:=omega) only[go_sem,aJ,aK,aL,bC,bn]|refine aC ?_|refine dX ca ?_|refine dX cb ?_|refine dX cc ?_|refine aB ?_ ?_<;>intro hw<;>try omega|fail
       all_goals first|exact ia (e1 _) (cN.refl (cu _ _ _))|(exfalso;omega)
      subst hend;repeat' first|simp (disch:=omega) only[go_sem,aJ,aK,aL,bC,bn]|refine aC ?_|refine dX ca ?_|refine dX cb ?_|refine dX cc ?_|refine aB ?_ ?_<;>intro hw<;>try omega|fail
      all_goals first|exact ia (e1 _) (cN.refl (cu _ _ _))|(exfalso;omega)
     rw[aj hend]at hR;have hl3:lvl≠3:=fun h=>hend (.inl h)
     have hcb:XR=false:=by cases XR with
      | false=>rfl
      | true=>exact absurd (.inr rfl) hend
     subst hcb;have e2:=e0 [];rw[bK cx]at cc;simp only[eM,bC,bn]at ca cb cc;have gq:=gc3 rfl;refine dZ.iK (gD.go ?_) rfl (cu _ _ _);unfold dO;intro Q aJ aK aL;repeat' first|refine gn_ ?_|refine aB ?_ ?_<;>intro hw<;>try omega|fail
     with_reducible refine afN (fun x:Lp=>[(0,.ref 0 0),(1,I lvl),(4,.ref 1 0),(5,.ref 2 0)]) (fun x=>[.cells [.aS false ET (T.map tN),I x.p,.bool false],.cells [I 0,I 0,I 0,.str [],.str [],.aU],.cells [I x.op,I 0,I 0,.str [],.str [],.aS true EX x.zs]]) (fun x=>(cN [] x.zs (x.l.map bt)/\AV.cE x.zs=true)/\x.p<=T.length/\8*(T.length-x.p)+8<=x.f/\x.f<=f/\R=dJ T x.f (some (.mk x.op v0 [] x.l)) lvl x.p) (fun x=>x.f) ?_ ?_
     ·repeat' first|simp (disch:=omega) only[go_sem,aJ,aK,aL,bC,bn]|refine aC ?_|refine dX ca ?_|refine dX cb ?_|refine dX cc ?_|refine aB ?_ ?_<;>intro hw<;>try omega|fail
      refine⟨⟨o.op,[ax,cx],[.agg [I ax.op,I ax.v.kind,I ax.v.n,.str ax.v.s,.str ax.s,.aS false EX (ax.l.map bt)],bt cx],cp,f⟩,⟨⟨Lb e2 (.refl _ (iF _)),aR⟩,gc2,by dsimp only;omega,Nat.le_refl _,hR⟩,?_,at_⟩;rw[bK cx]
     clear ca cb cc;rintro⟨Ow,xl,xz,xp,xf⟩ r0 ⟨⟨a1,a2⟩,a3,a4,a5,a6⟩;dsimp only at a1 a2 a3 a4 a5 a6;obtain⟨j,rfl⟩:∃ j,xf=j+1:=⟨xf-1,ae⟩;have cb:=Eb T xp false lvl ae;rw[dJ]at a6;clear hR;cases hq:y6 T xp false lvl with
     | none =>
       rw[hq]at a6;dsimp only at a6;subst a6;dsimp only at aJ aK aL;simp only[Ot,hq,Sg,Option.isSome_none,aP,if_false,eM,bC,bn]at cb;have ev:∀ σ : ai,View σ (.agg (uH Ow xz)) (bt (.mk Ow v0 [] xl)):=fun σ=>He a1;generalize hE:bt (.mk Ow v0 [] xl)=E at *;repeat' first|simp (disch:=omega) only[go_sem,aJ,aK,aL,bC,bn]|refine aC ?_|refine dX cb ?_|refine aB ?_ ?_<;>intro hw<;>try omega|fail
       exact ia (ev _) (cN.refl (cu _ _ _))
     | some o2 =>
       rw[hq]at a6;dsimp only at a6;obtain⟨hp1,_,hp2,Rr⟩:=FN hq
       have aoc:o2.op≠0:=by
        intro h;simp only[lf,fY,fF,or_false]at hp2;rcases hp2 with rfl|rfl|rfl|rfl|rfl|rfl|rfl|rfl|rfl|rfl|rfl|rfl<;>simp at h
       have cc:=ih j ae (lvl+1) (xp+1) ae ae ae;obtain⟨gd1,gd2,gd3⟩:=(uf T j none (lvl+1) (xp+1) ae).1 rfl;simp only[Ag]at cc;simp only[Ot,hq,Sg,Option.isSome_some,if_true,eM,bC,bn]at cb;generalize dJ T j none (lvl+1) (xp+1)=d at *;obtain⟨dx,dp,db⟩:=d;dsimp only at *;have e1:∀ σ : ai,View σ (.agg (uH o2.op [.agg (uH Ow xz),bt dx])) (bt (.mk o2.op v0 [] [.mk Ow v0 [] xl,dx])):=fun σ=>He (Lb (He a1) (.refl _ (iF _)));rw[bK dx]at cc e1;simp only[eM,bC,bn]at cc;cases db with
       | true =>
         rw[au (.inr rfl)]at a6;subst a6;dsimp only at aJ aK aL;generalize hE:bt (.mk o2.op v0 [] [.mk Ow v0 [] xl,dx])=E at *;repeat' first|simp (disch:=omega) only[go_sem,aJ,aK,aL,bC,bn]|refine aC ?_|refine dX cb ?_|refine dX cc ?_|refine aB ?_ ?_<;>intro hw<;>try omega|fail
         all_goals first|exact ia (e1 _) (cN.refl (cu _ _ _))|(exfalso;omega)
       | false =>
         rw[aj (by simp[hl3])]at a6;have gr:=gd3 rfl;repeat' first|simp (disch:=omega) only[go_sem,aJ,aK,aL,bC,bn]|refine aC ?_|refine dX cb ?_|refine dX cc ?_|refine aB ?_ ?_<;>intro hw<;>try omega|fail
         refine⟨⟨o2.op,[.mk Ow v0 [] xl,dx],[.agg (uH Ow xz),bt dx],dp,j⟩,⟨⟨Lb (He a1) (.refl _ (iF _)),by simp[AV.dy,AV.cE,XQ a2,iF]⟩,gd2,by dsimp only;omega,by dsimp only;omega,a6⟩,by dsimp only;omega,?_,at_⟩;rw[bK dx];rfl
def Uy(T:List Tok)(hT:T.length<=2 ^ 60)(hs:∀ q,(T.getD q default).s.length<=2 ^ 62): ∀ f,∀ lvl p,lvl<=7->p<=T.length->8*(T.length-p)+(8-lvl)<f->Ag T 256 (fun l q=>dJ T f none l q) lvl p:=by
 intro f
 induction f using Nat.strongRecOn with
 | ind f ih =>
 intro lvl p hl hp hf;obtain⟨f,rfl⟩:∃ f',f=f'+1:=⟨f-1,ae⟩;have ihf:=ih f (Nat.lt_succ_self _);have wU:∀ l q,q<=T.length->kH T.length q (dJ T f none l q):=fun l q hq=>(uf T f none l q hq).1 rfl;simp only[Ag];by_cases h5:1<=lvl/\lvl<=5
 ·exact M0 T hT _ f lvl p h5.1 h5.2 hp ae rfl (fun j hj l q h1 h2 h3=>ih j ae l q h1 h2 h3)
 by_cases h0:lvl=0
 ·subst h0
  have hR:dJ T (f+1) none 0 p=if qc T p 1 [105,102]then Ou (fun l q=>dJ T f none l q) T (p+1)else dJ T f none 1 p:=by
   rw[dJ,au rfl]
  by_cases hi:qc T p 1 [105,102]=true
  ·rw[au hi]at hR;have hp1:=qd hi;have co:=rB T p 1 [105,102] true da ae hi;have cb:=Qf T (p+1) (fun l q=>dJ T f none l q) hp1 hT wU (fun q=>Ld T 0 q) (fun q h1 h2=>ihf 0 q ae h2 ae);rw[hR];generalize Ou (fun l q=>dJ T f none l q) T (p+1)=R at *;simp only[if_true]at co;generalize hE:bt R.x=E at *;have hEc:∃ cs,E = .agg cs:=⟨_,by rw[<-hE,bK]⟩;have hEp:E.dy=true:=by rw[<-hE];exact iF _
   rw[<-hE,bK]at cb;simp only[eM,bC,bn]at co cb;refine dZ.iK (gD.go ?_) rfl (cu _ _ _);unfold dO;intro Q aJ aK aL;repeat' first|simp (disch:=omega) only[go_sem,aJ,aK,aL,bC,bn]|refine aC ?_|refine dX co ?_|refine dX cb ?_|refine aB ?_ ?_<;>intro hw<;>try omega|fail
   exact ia (by rw[<-hE];exact View.eqv (bK _).symm (iF _)) (cN.refl (cu _ _ _))
  rw[aj hi]at hR;have hi':qc T p 1 [105,102]=false:=by simpa using hi
  have co:=rB T p 1 [105,102] false da ae hi';have cr:=ihf 1 p ae hp ae;rw[hR];simp only[Ag]at cr;generalize dJ T f none 1 p=R at *;generalize hE:bt R.x=E at *;rw[<-hE,bK]at cr;simp only[aP,if_false]at co;simp only[eM,bC,bn]at co cr;refine dZ.iK (gD.go ?_) rfl (cu _ _ _);unfold dO;intro Q aJ aK aL;repeat' first|simp (disch:=omega) only[go_sem,aJ,aK,aL,bC,bn]|refine aC ?_|refine dX co ?_|refine dX cr ?_|refine aB ?_ ?_<;>intro hw<;>try omega|fail
  exact ia (by rw[<-hE];exact View.eqv (bK _).symm (iF _)) (cN.refl (cu _ _ _))
 by_cases h6:lvl=6/\qc T p 4 [45]=true
 ·obtain⟨rfl,hi⟩:=h6;have hp1:=qd hi
  have hR:dJ T (f+1) none 6 p=⟨.mk 3 v0 [] [(dJ T f none 6 (p+1)).x],(dJ T f none 6 (p+1)).p,(dJ T f none 6 (p+1)).bad⟩:=by
   rw[dJ,aj h0,au ⟨rfl,hi⟩]
  have co:=rB T p 4 [45] true da ae hi;have cr:=ihf 6 (p+1) ae hp1 ae;rw[hR];simp only[Ag]at cr;generalize dJ T f none 6 (p+1)=R at *;obtain⟨rx,rp,rb⟩:=R;dsimp only at *;have e1:∀ σ : ai,View σ (.agg (uH 3 [bt rx])) (bt (.mk 3 v0 [] [rx])):=fun σ=>He (.cons (.refl _ (iF _)) (.nil _));rw[bK rx]at e1 cr;generalize hE:bt (.mk 3 v0 [] [rx])=E at *;simp only[if_true]at co;simp only[eM,bC,bn]at co cr;refine dZ.iK (gD.go ?_) rfl (cu _ _ _);unfold dO;intro Q aJ aK aL;repeat' first|simp (disch:=omega) only[go_sem,aJ,aK,aL,bC,bn]|refine aC ?_|refine dX co ?_|refine dX cr ?_|refine aB ?_ ?_<;>intro hw<;>try omega|fail
  exact ia (e1 _) (cN.refl (cu _ _ _))
 have h67:6<=lvl:=ae
 have hR:dJ T (f+1) none lvl p=pQ (fun l q=>dJ T f none l q) T p:=by
  rw[dJ,aj h0,aj h6,au h67]
 have ca:=Ux T p (fun l q=>dJ T f none l q) hp hT hs (fun h=>⟨ihf 0 (p+1) ae (qd h) (by have:=qd h;omega),(wU 0 (p+1) (qd h)).2.1⟩);rw[hR];have co:=fun h=>rB T p 4 [45] false da ae h
 have hno:lvl=6->qc T p 4 [45]=false:=fun h=>by
  cases hq:qc T p 4 [45]with
  | false=>rfl
  | true=>exact absurd ⟨h,hq⟩ h6
 generalize pQ (fun l q=>dJ T f none l q) T p=R at *;generalize hE:bt R.x=E at *;rw[<-hE,bK]at ca;simp only[aP,if_false]at co;simp only[eM,bC,bn]at co ca;refine dZ.iK (gD.go ?_) rfl (cu _ _ _);unfold dO;intro Q aJ aK aL;by_cases hl6:lvl=6
 ·have co:=co (hno hl6);subst hl6;repeat' first|simp (disch:=omega) only[go_sem,aJ,aK,aL,bC,bn]|refine aC ?_|refine dX co ?_|refine dX ca ?_|refine aB ?_ ?_<;>intro hw<;>try omega|fail
  exact ia (by rw[<-hE];exact View.eqv (bK _).symm (iF _)) (cN.refl (cu _ _ _))
 obtain rfl:lvl=7:=ae;repeat' first|simp (disch:=omega) only[go_sem,aJ,aK,aL,bC,bn]|refine aC ?_|refine dX ca ?_|refine aB ?_ ?_<;>intro hw<;>try omega|fail
 exact ia (by rw[<-hE];exact View.eqv (bK _).symm (iF _)) (cN.refl (cu _ _ _))
def B7(op:Int)(v:aW)(s:aT)(l:List Expr): gM (.mk op v s l)=nD l+1:=by simp only[gM]
def Ox: Option Expr->Nat
 | none=>1
 | some x=>gM x
def M1{T:List Tok}{r:RS}{k:Int}{s:aT}: (lT T r k s).x=r.x/\r.p<=(lT T r k s).p:=by
 refine⟨rfl,?_⟩;simp only[lT,vp];split<;>omega
def aak{rd:Nat->Nat->RS}{l q:Nat}{b:Bool}(h:gM (rd l q).x+4*q<=1+4*(rd l q).p): gM (sV rd l q b).x+4*q<=1+4*(sV rd l q b).p:=by
 unfold sV;split
 ·simp[x0,gM,nD]
 exact h
def ajL(T:List Tok)(f:Nat): ∀(m:Option Expr) (lvl p:Nat),p<=T.length->gM (dJ T f m lvl p).x+4*p<=Ox m+4*(dJ T f m lvl p).p:=by
 induction f with
 | zero =>
   intro m lvl p hp
   have:1<=Ox m:=by
    cases m with
    | none=>exact bf _
    | some x=>cases x;simp[Ox,gM]
   simp only[dJ,x0,gM,nD];omega
 | succ f ih =>
   intro m lvl p hp;have hrd:∀ l q,q<=T.length->gM (dJ T f none l q).x+4*q<=1+4*(dJ T f none l q).p:=fun l q hq=>ih none l q hq;have wU:∀ l q,q<=T.length->kH T.length q (dJ T f none l q):=fun l q hq=>(uf T f none l q hq).1 rfl;cases m with
   | none =>
     simp only[dJ,Ox];split
     ·split
      ·rename_i h;have h1:=qd h;have ga:=Di wU (p:=p+1) h1;have gb:=Dj wU (p:=p+1) h1;have a:=hrd 0 (p+1) h1;have b:=aak (b:=(oY (dJ T f none) T (p+1)).bad) (hrd 0 _ ga.2.1);have c:=aak (b:=(wS (dJ T f none) T (p+1)).bad) (hrd 0 _ gb.2.1);have a2:=M1 (T:=T) (r:=dJ T f none 0 (p+1)) (k:=1) (s:=thenS);have b2:=M1 (T:=T) (r:=sV (dJ T f none) 0 (oY (dJ T f none) T (p+1)).p (oY (dJ T f none) T (p+1)).bad) (k:=1) (s:=G_);have ea:(oY (dJ T f none) T (p+1))=lT T (dJ T f none 0 (p+1)) 1 thenS:=rfl;have eb:(wS (dJ T f none) T (p+1))=lT T (sV (dJ T f none) 0 (oY (dJ T f none) T (p+1)).p (oY (dJ T f none) T (p+1)).bad) 1 G_:=rfl;have ec:(FM (dJ T f none) T (p+1))=sV (dJ T f none) 0 (wS (dJ T f none) T (p+1)).p (wS (dJ T f none) T (p+1)).bad:=rfl;show gM (.mk 16 v0 [] [(oY (dJ T f none) T (p+1)).x,(wS (dJ T f none) T (p+1)).x,(FM (dJ T f none) T (p+1)).x])+4*p<=1+4*(FM (dJ T f none) T (p+1)).p;rw[<-ea]at a2;rw[<-eb]at b2;rw[<-ec]at c;simp only[B7,nD];rw[a2.1,b2.1];omega
      exact hrd 1 p hp
     split
     ·rename_i h;have h1:=qd h.2;have c:=hrd 6 (p+1) h1;simp only[B7,nD];omega
     split
     ·have ok:∀ v s,gM (.mk 1 v s [])+4*p<=1+4*(p+1):=fun v s=>by simp only[B7,nD];omega
      unfold pQ;split
      ·rename_i h;have c:=hrd 0 (p+1) (qd h);have a2:=M1 (T:=T) (r:=dJ T f none 0 (p+1)) (k:=4) (s:=[41]);show gM (lT T (dJ T f none 0 (p+1)) 4 [41]).x+4*p<=1+4*(lT T (dJ T f none 0 (p+1)) 4 [41]).p;rw[a2.1];omega
      repeat' split
      all_goals simp only[Be,x0,B7,nD]
      all_goals omega
     split
     ·exact hrd _ _ hp
     have a:=hrd (lvl+1) p hp;have b:=ih (some (dJ T f none (lvl+1) p).x) lvl _ (wU (lvl+1) p hp).2.1;simp only[Ox]at b;omega
   | some x =>
     simp only[dJ,Ox];split
     ·exact bf _
     rename_i o ho;have h1:=(FN ho).1;have a:=hrd (lvl+1) (p+1) h1;have g:=wU (lvl+1) (p+1) h1;split
     ·simp only[B7,nD];omega
     have b:=ih (some (.mk o.op v0 [] [x,(dJ T f none (lvl+1) (p+1)).x])) lvl _ g.2.1;simp only[Ox,B7,nD]at b;omega
def jq(T:List Tok)(fr lvl:Int): Expr × Int × Int :=
 if fr<0\/(T.length:Int)<fr\/lvl<0\/7<lvl then(x0,0,2)
 else if(dJ T (8*T.length+9) none lvl.toNat fr.toNat).bad then(x0,(dJ T (8*T.length+9) none lvl.toNat fr.toNat).p,11)
 else((dJ T (8*T.length+9) none lvl.toNat fr.toNat).x,(dJ T (8*T.length+9) none lvl.toNat fr.toNat).p,0)
def Oy(r:Expr × Int × Int): AV:= .bR [bt r.1,I r.2.1,I r.2.2]
def oO{σ : ai}{a E:AV}{n m:Int}(h:View σ a E): cN σ [a,I n,I m] [E,I n,I m]:= .cons h (.cons (.refl _ rfl) (.cons (.refl _ rfl) (.nil _)))
def H7(T:List Tok)(fr lvl:Int)(hT:T.length<=2 ^ 50)(hs:∀ q,(T.getD q default).s.length<=2 ^ 62): aQ aI 224 [wk T,I fr,I lvl] (Oy (jq T fr lvl)):=by
 by_cases hg:fr<0\/(T.length:Int)<fr\/lvl<0\/7<lvl
 ·have e:jq T fr lvl=(x0,0,2):=by unfold jq;rw[if_pos hg]
  rw[e];have e1:∀ σ : ai,View σ (.agg [I 0,I 0,I 0,.str [],.str [],.aU]) (bt x0):=fun σ=>r7 (.aU _);simp only[Oy];generalize bt x0=E at *;refine aY vI ?_;intro Q aJ aK aL;repeat' first|refine aC ?_|refine aB ?_ ?_<;>intro hw<;>try omega|fail
  all_goals first|exact gN (oO (e1 _))|(exfalso;omega)
 obtain⟨p,rfl⟩:∃ p:Nat,fr=p:=⟨fr.toNat,ae⟩;obtain⟨l,rfl⟩:∃ l:Nat,lvl=l:=⟨lvl.toNat,ae⟩;have cr:=Uy T ae hs (8*T.length+9) l p ae ae ae
 have e:jq T p l=if(dJ T (8*T.length+9) none l p).bad then(x0,((dJ T (8*T.length+9) none l p).p:Int),11)else ((dJ T (8*T.length+9) none l p).x,((dJ T (8*T.length+9) none l p).p:Int),0):=by
  unfold jq;rw[if_neg hg,Int.toNat_natCast,Int.toNat_natCast]
 rw[e];simp only[Ag]at cr;generalize dJ T (8*T.length+9) none l p=r at *;obtain⟨rx,rp,rb⟩:=r;dsimp only at *;have e1:∀ σ : ai,View σ (.agg [I 0,I 0,I 0,.str [],.str [],.aU]) (bt x0):=fun σ=>r7 (.aU _);have e2:∀ σ : ai,View σ (.agg [I rx.op,I rx.v.kind,I rx.v.n,.str rx.v.s,.str rx.s,.aS false EX (rx.l.map bt)]) (bt rx):=fun σ=>View.eqv (bK _).symm (iF _);rw[bK]at cr;simp only[eM]at cr;cases rb with
 | true =>
   simp only[if_true,Oy];generalize bt x0=E at *;refine aY vI ?_;intro Q aJ aK aL;repeat' first|refine aC ?_|refine dX cr ?_|refine aB ?_ ?_<;>intro hw<;>try omega|fail
   all_goals first|exact gN (oO (e1 _))|(exfalso;omega)
 | false =>
   simp only[aP,if_false,Oy];generalize bt rx=E at *;refine aY vI ?_;intro Q aJ aK aL;repeat' first|refine aC ?_|refine dX cr ?_|refine aB ?_ ?_<;>intro hw<;>try omega|fail
   all_goals first|exact gN (oO (e2 _))|(exfalso;omega)
def afO(r b:aT)(i:Nat): (mG r b i).s.length<=b.length+r.length:=by
 fun_induction mG r b i<;>simp_all[PR.err]<;>omega
def ahO(s:aT): (kG s).s.length<=s.length+2:=by
 unfold kG;simp only;split
 ·unfold G8;split<;>simp[PR.err];omega
 split
 ·unfold qy;simp only;split
  ·simp[PR.err]
  split<;>simp[PR.err]
 split
 ·have:=afO (s.drop 1) [] 1;rw[eu]at this;simp only[bu]at this;omega
 unfold x9;split
 ·rename_i m hm;have h2:=ij hm;simp only[y3,fY,fF,or_false]at h2;rcases h2 with h|h|h|h|h|h|h|h|h|h|h|h|h|h|h|h<;>subst h<;>simp
 simp[PR.err]
def XS(f:Nat): ∀(s:aT) (pos:Nat) (acc:List Tok),(∀ t ∈ acc,t.s.length<=1000)->s.length<=900->(tO f s pos acc).1.length<=acc.length+s.length/\ ∀ t ∈ (tO f s pos acc).1,t.s.length<=1000:=by
 induction f with
 | zero=>intro s pos acc h _;exact⟨Nat.le_add_right _ _,h⟩
 | succ f ih =>
   intro s pos acc h hs;cases s with
   | nil=>exact⟨Nat.le_add_right _ _,h⟩
   | cons c r =>
     rw[wR];simp only[aO]at hs ⊢;split
     ·have:=ih r (pos+1) acc h ae;exact⟨ae,this.2⟩
     split
     ·rename_i he;have h1:=RZ (s:=c::r) aR he;have h2:=ahO (c::r);simp only[aO]at h1 h2
      have:=ih ((c::r).drop (kG (c::r)).len) (pos+(kG (c::r)).len) (acc++[⟨(kG (c::r)).kind,(kG (c::r)).s,(kG (c::r)).n,pos⟩]) (fun t ht=>by
       rcases List.mem_append.1 ht with ht|ht
       ·exact h t ht
       ·simp only[List.mem_cons,List.not_mem_nil,or_false]at ht;subst ht;dsimp only;omega) (by rw[List.length_drop,List.length_cons];omega)
      rw[eu,aA,aO]at this;simp only[aO,bu]at this;exact⟨ae,this.2⟩
     exact⟨Nat.zero_le _,fun t ht=>by cases ht⟩
def r8(s:aT): (dQ s).1.length<=200/\ ∀ q,((dQ s).1.getD q default).s.length<=1000:=by
 have h:(dQ s).1.length<=200/\ ∀ t ∈ (dQ s).1,t.s.length<=1000:=by
  unfold dQ;split
  ·exact⟨Nat.zero_le _,fun t ht=>by cases ht⟩
  have:=XS (s.length+1) s 0 [] (fun t ht=>by cases ht) ae;simp only[bu]at this;exact⟨ae,this.2⟩
 refine⟨h.1,fun q=>?_⟩;by_cases hq:q<(dQ s).1.length
 ·exact h.2 _ (bx hq)
 rw[rz ae];exact ew _
def Jv(T:List Tok)(fr lvl:Int): gM (jq T fr lvl).1<=1+4*T.length:=by
 have h0:gM x0=1:=by simp[x0,gM,nD]
 unfold jq;split
 ·dsimp only;omega
 rename_i hg;split
 ·dsimp only;omega
 have:=ajL T (8*T.length+9) none lvl.toNat fr.toNat ae;have g:=(uf T (8*T.length+9) none lvl.toNat fr.toNat ae).2.2;simp only[Ox]at this;dsimp only;omega
def jS(s:aT): Expr × Int × Int :=
 if(dQ s).2.2≠0 then(x0,(dQ s).2.1,(dQ s).2.2)
 else if(jq (dQ s).1 0 0).2.1<(dQ s).1.length then(x0,((dQ s).1.getD (jq (dQ s).1 0 0).2.1.toNat default).pos,11)
 else if(jq (dQ s).1 0 0).2.2≠0 then(x0,s.length,(jq (dQ s).1 0 0).2.2)
 else if 12<mH (jq (dQ s).1 0 0).1 then(x0,0,12)
 else((jq (dQ s).1 0 0).1,0,0)
def VQ(T:List Tok)(fr lvl:Int): 0<=(jq T fr lvl).2.1/\(jq T fr lvl).2.1<=T.length:=by
 unfold jq;split
 ·exact⟨Int.le_refl _,by dsimp only;omega⟩
 rename_i hg;have g:=(uf T (8*T.length+9) none lvl.toNat fr.toNat ae).2.2;split<;>(dsimp only;omega)
def Sj(s:aT)(hs:s.length<=2 ^ 30): aQ aI 184 [.str s] (Oy (jS s)):=by
 have cl:=VL s hs;obtain⟨f1,f2⟩:=r8 s;have cr:=H7 (dQ s).1 0 0 ae (fun q=>by have:=f2 q;omega);have hz:=Jv (dQ s).1 0 0;obtain⟨hp0,hp1⟩:=VQ (dQ s).1 0 0
 have hP:jS s=if(dQ s).2.2≠0 then(x0,(dQ s).2.1,(dQ s).2.2)
  else if(jq (dQ s).1 0 0).2.1<(dQ s).1.length then(x0,((dQ s).1.getD (jq (dQ s).1 0 0).2.1.toNat default).pos,11)
  else if(jq (dQ s).1 0 0).2.2≠0 then(x0,(s.length:Int),(jq (dQ s).1 0 0).2.2)
  else if 12<mH (jq (dQ s).1 0 0).1 then(x0,0,12)
  else((jq (dQ s).1 0 0).1,0,0):=rfl
 rw[hP];clear hP f2;generalize jq (dQ s).1 0 0=r at *;generalize dQ s=L at *;obtain⟨T,la,le⟩:=L;obtain⟨rx,rn,re⟩:=r;dsimp only at *;have cd:=Bc rx ae;obtain⟨n,rfl⟩:∃ n:Nat,rn=n:=⟨rn.toNat,ae⟩;have e1:∀ σ : ai,View σ (.agg [I 0,I 0,I 0,.str [],.str [],.aU]) (bt x0):=fun σ=>r7 (.aU _);have e2:∀ σ : ai,View σ (.agg [I rx.op,I rx.v.kind,I rx.v.n,.str rx.v.s,.str rx.s,.aS false EX (rx.l.map bt)]) (bt rx):=fun σ=>View.eqv (bK _).symm (iF _);simp only[Oy]at cr ⊢;rw[bK]at cr cd;simp only[XH,wk]at cl cr;by_cases h1:le≠0
 ·rw[au h1];generalize bt x0=E at *;refine aY oe ?_;intro Q aJ aK aL;repeat' first|refine aC ?_|refine aB ?_ ?_<;>intro hw<;>try omega|fail
  all_goals exact gN (oO (e1 _))
 rw[aj h1];by_cases h2:(n:Int)<T.length
 ·rw[au h2,Int.toNat_natCast];generalize bt x0=E at *;have hn:n<T.length:=ae;refine aY oe ?_;intro Q aJ aK aL;repeat' first|refine aC ?_|refine aB ?_ ?_<;>intro hw<;>try omega|fail
  all_goals exact gN (oO (e1 _))
 rw[aj h2];by_cases h3:re≠0
 ·rw[au h3];generalize bt x0=E at *;refine aY oe ?_;intro Q aJ aK aL;repeat' first|refine aC ?_|refine aB ?_ ?_<;>intro hw<;>try omega|fail
  all_goals exact gN (oO (e1 _))
 rw[aj h3];by_cases h4:12<mH rx
 ·rw[au h4];generalize bt x0=E at *;refine aY oe ?_;intro Q aJ aK aL;repeat' first|refine aC ?_|refine aB ?_ ?_<;>intro hw<;>try omega|fail
  all_goals exact gN (oO (e1 _))
 rw[aj h4];generalize bt rx=E at *;refine aY oe ?_;intro Q aJ aK aL;repeat' first|refine aC ?_|refine aB ?_ ?_<;>intro hw<;>try omega|fail
 all_goals exact gN (oO (e2 _))
def Le: aT:=[110,117,108,108]
def Ah: aT:=[116,114,117,101]
def wV: aT:=[102,97,108,115,101]
structure Lq where
 op:Int
 vk:Int
 vn:Int
 vs:aT
 s:aT
 fl:Bool
 zs:List AV
 x:Expr
 p:Nat
 b:Bool
 f:Nat
def Lq.cs(q:Lq): List AV:=[I q.op,I q.vk,I q.vn,.str q.vs,.str q.s,.aS q.fl EX q.zs]
