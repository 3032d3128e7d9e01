/- Part. -/
import Derived.Test.YtoldfccfpameeaaGreatDoorX07
set_option linter.all false
namespace Go.AM
variable {P:Program}
def bJ{p:Prop}(h:False:=by first|omega|(simp_all;done)|(simp_all;omega)): p:=h.elim
def at_{p:Prop}(h:p:=by simp (disch:=omega) only[ahU,af0,and_true,go_sem,FK,Se,O8,Nat.reduceAdd,Nat.reduceBEq,↓reduceIte,bI,bA]<;>(try trivial)<;>(try omega)<;>(try (repeat (first|trivial|(refine And.intro ?_ ?_)|(congr 1;omega))))): p:=h
def da{p:Prop}(h:p:=by repeat (first|exact afY _ _ _|refine afZ rfl ?_|refine adf rfl ?_|(simp only[aaB,ac6]))): p:=h
def vw_{p:Prop}(h:p:=by first|exact cY.refl aQ|(repeat (first|exact cY.nil _|refine cY.cons ?_ ?_|exact View.aV _|exact View.refl _ aQ|exact View.weak _ _ _ aQ|exact View.cell _ _ rfl rfl aQ|refine View.fnL ?_ ?_|exact View.vec rfl aQ aQ aQ|refine View.Ni ?_|refine View.nS ?_))): p:=h
def bs_{K:AV->Prop}{xs:List AV}{m n:Nat}{s:List UInt8}(hk:K (.str s))(hx:xs=s.map fun b=>AV.int .u8 b.toNat)(hm:m=xs.length)(hn:n=xs.length): Sg (some (.vec ⟨false,1⟩ xs)) m 0 n (.mk:Tg K):=Yf s hx hm hn hk
def aB {G K : Prop} (k : K) (h : K -> G := by
    first
    |(intro k;simp (disch:=omega) only[go_sem,aJ,aK,aL];exact k)
    |(intro k;with_reducible refine afl ?_ k;first|omega|(simp;done)|(simp;omega)|assumption)
    |(intro k;with_reducible exact ade k)
    |(intro k;with_reducible exact bs_ k rfl aQ aQ)
    |(intro k;with_reducible first|exact yL (by with_reducible_and_instances assumption) k|exact B3 (by with_reducible_and_instances assumption) k)):G:=h k
def cz{G K F:Prop}(f:F)(k:K)(h:F->K->G:=by intro f k;simp (disch:=omega) only[go_sem,aJ,aK,aL,f];exact k): G:=h f k
def zA{p q:Prop}(a:p)(b:q): p/\q:=⟨a,b⟩
def zB{p q r:Prop}(a:p)(b:q)(c:r): p/\q/\r:=⟨a,b,c⟩
def zC{p q r s:Prop}(a:p)(b:q)(c:r)(d:s): p/\q/\r/\s:=⟨a,b,c,d⟩
def gn_ {G K : Prop} (k : K) (h : K -> G := by
    first
    |(intro k;simp (disch:=omega) only[go_sem,aJ,aK,aL];exact k)
    |(intro k;with_reducible refine afl ?_ k;first|omega|(simp;done)|(simp;omega)|assumption)
    |(intro k;with_reducible exact bs_ k rfl aQ aQ)):G:=h k
def cc_{t:Bool}{T E p q:Prop}(h:p->T)(h':q->E)(hp:(t=true)=p)(hq:(t=false)=q): Dl (.bool t) (.mk:Tg (T,E)):=by
 subst hp hq;exact afV h h'
def gk_{t b:Bool}{T E U p q:Prop}(h:p->T)(h':q->E)(hp:(t=b)=p)(hq:(t = !b)=q): ou (.bool t) b (.mk:Tg (T,E,U)):=by
 subst hp hq;exact ac0 h h'
def aA {p q T E G : Prop} (h : p -> T) (h' : q -> E) (hg : (p -> T) -> (q -> E) -> G := by
    intro h h';with_reducible first|refine cc_ h h' ?_ ?_|refine gk_ h h' ?_ ?_
    all_goals
     (try simp only[aM,decide_eq_false_iff_not,beq_iff_eq,beq_eq_false_iff_ne,ey,Bool.not_eq_false',Bool.not_true,iK,Int.not_lt,Int.not_le,ne_eq,Int.ofNat_lt,Int.ofNat_le,not_true_eq_false,reduceCtorEq,Int.toNat_zero])
     exact rfl):G:=hg h h'
def eU {n : FuncId} {args : List AV} {r : AV} {K G : Prop} (h : aS P n args r) (k : K) (hg : aS P n args r -> K -> G := by
    intro h k;with_reducible first|exact yL h k|exact B3 h k):G:=hg h k
def As {n : FuncId} {args : List AV} {r : AV} {K G : Prop} (h : aS P n args r) (k : K) (hg : aS P n args r -> K -> G := by
    intro h k;with_reducible first|refine af1 h ?_ k|refine af2 h ?_ k
    exact vw_):G:=hg h k
def IC {n : FuncId} {args : List AV} {r : AV} {K G : Prop} (h : aS P n args r) (k : K) (hg : aS P n args r -> K -> G := by
    intro h k;with_reducible first|refine yM h ?_ ?_ k|refine af3 h ?_ ?_ k
    ·exact vw_
    ·simp[AV.flat,AV.Am]):G:=hg h k
def d_ {f : FuncId} {off : Nat} {args cs ds : List AV} {r : AV} {K G : Prop} (h : ei P f off args cs ds r) (k : K) (hg : ei P f off args cs ds r -> K -> G := by
    intro h k;with_reducible first|exact Nj h rfl k|exact Nn h rfl k|exact Np h rfl k):G:=hg h k
end Go.AM
namespace Go.Proofs.YtoldfccfpameeaaGreatDoor
open Go.AM
abbrev aU:=List UInt8
structure aX where
 kind:Int
 n:Int
 s:aU
deriving DecidableEq,Inhabited
structure Tok where
 kind:Int
 s:aU
 n:Int
 pos:Int
deriving DecidableEq,Inhabited
inductive Expr where
 | mk (op:Int) (v:aX) (s:aU) (l:List Expr)
instance:Inhabited Expr:=⟨.mk 0 ⟨0,0,[]⟩ [] []⟩
def Expr.op: Expr->Int | .mk op _ _ _=>op
def Expr.v: Expr->aX | .mk _ v _ _=>v
def Expr.s: Expr->aU | .mk _ _ s _=>s
def Expr.l: Expr->List Expr | .mk _ _ _ l=>l
structure Test where
 kind:Int
 a:Expr
 b:Expr
 lo:Bool
 hi:Bool
deriving Inhabited
structure Cell where
 any:Bool
 neg:Bool
 tests:List Test
deriving Inhabited
structure cV where
 name:aU
 kind:Int
 order:List aX
deriving Inhabited
structure ia where
 cells:List aU
 outs:List aU
deriving Inhabited
structure Table where
 name:aU
 ins:List cV
 outs:List cV
 bW:Int
 agg:Int
 rules:List ia
deriving Inhabited
structure kL where
 cells:List Cell
 outs:List Expr
deriving Inhabited
structure Ready where
 table:Table
 lines:List kL
deriving Inhabited
abbrev I(n:Int): AV:= .int .i64 n
abbrev E1: El:=⟨false,1⟩
abbrev EV: El:=⟨true,3⟩
abbrev ET: El:=⟨true,4⟩
abbrev EX: El:=⟨true,6⟩
abbrev ES: El:=⟨true,15⟩
abbrev EC: El:=⟨true,3⟩
abbrev ER: El:=⟨true,2⟩
def c8(v:aX): AV:= .agg [I v.kind,I v.n,.str v.s]
def tY(t:Tok): AV:= .agg [I t.kind,.str t.s,I t.n,I t.pos]
def fH(s:aU): AV:= .str s
def br: Expr->AV
 | .mk op v s l=> .agg [I op,I v.kind,I v.n,.str v.s,.str s,.aR false EX (l.map br)]
def ez(l:List Expr): AV:= .aR false EX (l.map br)
def dV(t:Test): AV:= .agg [I t.kind,I t.a.op,I t.a.v.kind,I t.a.v.n,.str t.a.v.s,.str t.a.s,ez t.a.l,I t.b.op,I t.b.v.kind,I t.b.v.n,.str t.b.v.s,.str t.b.s,ez t.b.l,.bool t.lo,.bool t.hi]
def jr(l:List Test): AV:= .aR false ES (l.map dV)
def er(c:Cell): AV:= .agg [.bool c.any,.bool c.neg,jr c.tests]
def bu(l:List aX): AV:= .aR false EV (l.map c8)
def wH(l:List Tok): AV:= .aR false ET (l.map tY)
def iY(l:List aU): AV:= .aR false E1 (l.map fH)
def dQ(c:cV): AV:= .agg [.str c.name,I c.kind,bu c.order]
def b_(l:List cV): AV:= .aR false EC (l.map dQ)
def fY(r:ia): AV:= .agg [iY r.cells,iY r.outs]
def eR(l:List ia): AV:= .aR false ER (l.map fY)
def gK(t:Table): List AV:=[.str t.name,b_ t.ins,b_ t.outs,I t.bW,I t.agg,eR t.rules]
def dS(t:Table): AV:= .agg (gK t)
def sX(l:List Cell): AV:= .aR false EC (l.map er)
def mM(l:kL): AV:= .agg [sX l.cells,ez l.outs]
def qh(l:List kL): AV:= .aR false ER (l.map mM)
def lH(r:Ready): AV:= .agg [.str r.table.name,b_ r.table.ins,b_ r.table.outs,I r.table.bW,I r.table.agg,eR r.table.rules,qh r.lines]
def bM(x:Expr): br x = .agg [I x.op,I x.v.kind,I x.v.n,.str x.v.s,.str x.s,.aR false EX (x.l.map br)]:=by
 cases x;simp only[br];rfl
def Expr.ind{C:Expr->Prop}(h:∀ op v s l,(∀ y ∈ l,C y)->C (.mk op v s l)): ∀ x,C x
 | .mk op v s l=>h op v s l fun y _=>Expr.ind h y
attribute [go_sem] bM c8 tY dV er dQ fY gK dS mM lH fH ez jr bu wH iY b_ eR sX qh
@[go_sem] def Expr.afo (op:Int) (v:aX) (s:aU) (l:List Expr):(Expr.mk op v s l).op=op:=_root_.id rfl
@[go_sem] def Expr.aif (op:Int) (v:aX) (s:aU) (l:List Expr):(Expr.mk op v s l).v=v:=_root_.id rfl
@[go_sem] def Expr.aih (op:Int) (v:aX) (s:aU) (l:List Expr):(Expr.mk op v s l).s=s:=_root_.id rfl
@[go_sem] def Expr.aii (op:Int) (v:aX) (s:aU) (l:List Expr):(Expr.mk op v s l).l=l:=_root_.id rfl
def Dz(v:aX): (c8 v).dy=true:=rfl
def J2(t:Tok): (tY t).dy=true:=rfl
def iI(x:Expr): (br x).dy=true:=by
 induction x using Expr.ind with
 | h op v s l ih =>
   simp only[br,AV.dy,AV.cG,fF,iQ];rw[rj];intro a ha;obtain⟨y,hy,rfl⟩:=cI.1 ha;exact ih y hy
def r9(l:List Expr): (ez l).dy=true:=by simp only[ez,AV.dy];exact fm _ _ iI
def F6(t:Test): (dV t).dy=true:=by simp[dV,AV.dy,AV.cG,r9]
def yx(l:List Test): (jr l).dy=true:=by simp only[jr,AV.dy];exact fm _ _ F6
def Au(c:Cell): (er c).dy=true:=by simp[er,AV.dy,AV.cG,yx]
def uq(l:List aX): (bu l).dy=true:=by simp only[bu,AV.dy];exact fm _ _ Dz
def aaI(l:List Tok): (wH l).dy=true:=by simp only[wH,AV.dy];exact fm _ _ J2
def F7(l:List aU): (iY l).dy=true:=by simp only[iY,AV.dy];exact fm _ _ (fun _=>rfl)
def DA(c:cV): (dQ c).dy=true:=by simp[dQ,AV.dy,AV.cG,uq]
def kf(l:List cV): (b_ l).dy=true:=by simp only[b_,AV.dy];exact fm _ _ DA
def F8(r:ia): (fY r).dy=true:=by simp[fY,AV.dy,AV.cG,F7]
def r_(l:List ia): (eR l).dy=true:=by simp only[eR,AV.dy];exact fm _ _ F8
def Yk(t:Table): (dS t).dy=true:=by simp[dS,gK,AV.dy,AV.cG,kf,r_]
def LW(l:List Cell): (sX l).dy=true:=by simp only[sX,AV.dy];exact fm _ _ Au
def O9(l:kL): (mM l).dy=true:=by simp[mM,AV.dy,AV.cG,LW,r9]
def SB(l:List Expr): AV.cG (l.map br)=true:=fm _ _ iI
def aij(l:List aX): AV.cG (l.map c8)=true:=fm _ _ Dz
def SC(l:List Tok): AV.cG (l.map tY)=true:=fm _ _ J2
def w9(l:List aU): AV.cG (l.map fH)=true:=fm _ _ (fun _=>rfl)
def O_(l:List Test): AV.cG (l.map dV)=true:=fm _ _ F6
def ur(l:List Cell): AV.cG (l.map er)=true:=fm _ _ Au
def adu(l:List cV): AV.cG (l.map dQ)=true:=fm _ _ DA
def aaJ(l:List ia): AV.cG (l.map fY)=true:=fm _ _ F8
def Pa(l:List kL): AV.cG (l.map mM)=true:=fm _ _ O9
attribute [simp] AV.dy AV.cG Dz J2 iI r9 F6 yx Au uq aaI F7 DA kf F8 r_ Yk LW O9 SB aij SC w9 O_ ur adu aaJ Pa
def bq{α : Type}[Inhabited α]{l:List α}{i:Nat}(h:i<l.length): l.getD i default ∈ l:=by
 rw[aq,aG h];exact dI h
def o8(c:UInt8): Bool:=decide (32<=c.toNat) && decide (c.toNat<=126)
def yN(c:UInt8): Bool:=(decide (97<=c.toNat) && decide (c.toNat<=122)) ||(decide (65<=c.toNat) && decide (c.toNat<=90)) || decide (c.toNat=95)
def ic(c:UInt8): Bool:=decide (48<=c.toNat) && decide (c.toNat<=57)
def LX(c:UInt8): Bool:=yN c || ic c
def mw(s:aU): Bool:=decide (s.length<=40) && s.all o8
def cg(v:aX): Bool :=
 if v.kind=0 then decide (v.n=0) && decide (v.s=[])
 else if v.kind=1 then decide (v.s=[])
 else if v.kind=2 then decide (v.n=0) && mw v.s
 else if v.kind=3 then decide (v.s=[]) && (decide (v.n=0) || decide (v.n=1))
 else false
def wI(s:aU): Nat:=match s with
 | []=>0
 | c::_=>if yN c then(s.takeWhile LX).length else 0
structure PR where
 kind:Int
 s:aU
 n:Int
 len:Nat
 e:Int
deriving Inhabited,DecidableEq
def Wu(p:PR): AV:= .bU [.agg [I p.kind,.str p.s,I p.n,I 0,I p.len],I p.e]
attribute [go_sem] Wu
def PR.err(e:Int): PR:=⟨0,[],0,0,e⟩
def HG(s:aU): PR:=if 16<wI s then .err 5 else⟨1,s.take (wI s),0,wI s,0⟩
def vX: aU->Int->Option Int
 | [],v=>some v
 | c::r,v=>if v>(9223372036854775807-((c.toNat:Int)-48)) / 10 then none else vX r (v*10+((c.toNat:Int)-48))
def qG(s:aU): PR :=
 let n:=(s.takeWhile ic).length
 if 1<n/\(s.getD 0 0).toNat=48 then .err 11
 else match vX (s.takeWhile ic) 0 with
  | none=> .err 15
  | some v=>⟨2,[],v,n,0⟩
def mN: aU->aU->Nat->PR
 | [],_,_=> .err 11
 | c :: r, b, i =>
   if c.toNat=34 then(if 40<b.length then .err 5 else⟨3,b,0,i+1,0⟩)
   else if c.toNat=92 then
    match r with
    | []=> .err 11
    | d::r'=>if d.toNat=34\/d.toNat=92 then mN r' (b++[d]) (i+2)else .err 11
   else if o8 c then mN r (b++[c]) (i+1)else .err 11
def ni (c : UInt8) (r b : aU) (i : Nat) : mN (c :: r) b i =
    if c.toNat=34 then(if 40<b.length then .err 5 else⟨3,b,0,i+1,0⟩)
    else if c.toNat=92 then
     match r with
     | []=> .err 11
     | d::r'=>if d.toNat=34\/d.toNat=92 then mN r' (b++[d]) (i+2)else .err 11
    else if o8 c then mN r (b++[c]) (i+1)else .err 11:=by
 rw[mN.eq_def];rfl
def zl: List aU:=[[46,46],[33,61],[60,61],[62,61],[40],[41],[91],[93],[44],[43],[45],[42],[47],[61],[60],[62]]
def yy(s:aU): PR:=match zl.find? (fun m=>m.isPrefixOf s)with
 | some m=>⟨4,m,0,m.length,0⟩
 | none=> .err 11
def kM(s:aU): PR :=
 let c:=s.getD 0 0
 if yN c then HG s else if ic c then qG s else if c.toNat=34 then mN (s.drop 1) [] 1 else yy s
def tZ: Nat->aU->Nat->List Tok->List Tok × Int × Int
 | 0,_,_,acc=>(acc,0,0)
 | _+1,[],_,acc=>(acc,0,0)
 | f + 1, c :: r, pos, acc =>
   if c.toNat=32 then tZ f r (pos+1) acc
   else if(kM (c::r)).e=0 then tZ f ((c::r).drop (kM (c::r)).len) (pos+(kM (c::r)).len) (acc++[⟨(kM (c::r)).kind,(kM (c::r)).s,(kM (c::r)).n,pos⟩])
   else([],pos,(kM (c::r)).e)
def dU(s:aU): List Tok × Int × Int:=if 200<s.length then([],0,5)else tZ (s.length+1) s 0 []
def Pb: List aU:=[[97,110,100],[111,114],[110,111,116],[105,102],[116,104,101,110],[101,108,115,101],[116,114,117,101],[102,97,108,115,101],[110,117,108,108]]
def F9(s:aU): Bool:=Pb.contains s
def iZ(s:aU): Bool:=decide (s≠[]) && decide (wI s=s.length) && decide (s.length<=16) && !F9 s
def uT{p:UInt8->Bool}(s:aU): (s.takeWhile p).length<=s.length:=by
 induction s with
 | nil=>simp
 | cons c s ih=>simp only[iw];split<;>simp;omega
def SD(s:aU): wI s<=s.length:=by
 unfold wI;split
 ·simp
 split
 ·exact uT _
 simp
def aaK{s:aU}(h:yN (s.getD 0 0)=true)(hs:s≠[]): 1<=wI s:=by
 cases s with
 | nil=>exact absurd rfl hs
 | cons c r =>
   simp only[cH]at h;simp only[wI,h,if_true,iw,LX,Bool.true_or];simp
def aaL(r b:aU)(i:Nat): (mN r b i).e=0->i+1<=(mN r b i).len/\(mN r b i).len<=i+r.length:=by
 fun_induction mN r b i<;>simp_all[PR.err]<;>omega
def U3{s:aU}(h:(qG s).e=0): (qG s).len=(s.takeWhile ic).length:=by
 unfold qG at *;simp only at *;split at h
 ·simp[PR.err]at h
 rename_i h1;rw[aj h1];split at h
 ·simp[PR.err]at h
 rfl
def aaM{s:aU}(h:(yy s).e=0): 1<=(yy s).len/\(yy s).len<=s.length:=by
 unfold yy at *;split at h
 ·rename_i m hm;have h1:=fJ hm;have h2:=iy hm;refine⟨?_,(List.isPrefixOf_iff_prefix.1 h1).length_le⟩;show 1<=m.length;simp only[zl,gj,fO,or_false]at h2;rcases h2 with h|h|h|h|h|h|h|h|h|h|h|h|h|h|h|h<;>subst h<;>simp
 simp[PR.err]at h
def SE{s:aU}(hs:s≠[])(h:(kM s).e=0): 1<=(kM s).len/\(kM s).len<=s.length:=by
 unfold kM at *;simp only at *;split at h
 ·rename_i h1;rw[au h1];unfold HG at *;split at h
  ·simp[PR.err]at h
  rename_i h2;rw[aj h2];exact⟨aaK h1 hs,SD s⟩
 rename_i h1;rw[aj h1];split at h
 ·rename_i h2;rw[au h2,U3 h];refine⟨?_,uT _⟩;cases s with
  | nil=>exact absurd rfl hs
  | cons c r=>simp only[cH]at h2;simp[iw,h2]
 rename_i h2;rw[aj h2];split at h
 ·rename_i h3;rw[au h3];have:=aaL _ _ _ h;have h4:1<=s.length:=by cases s with|nil=>exact absurd rfl hs|cons=>simp
  rw[dJ]at this;omega
 rename_i h3;rw[aj h3];exact aaM h
set_option maxRecDepth 4000
def aik(c:UInt8): iX .or .u8 (c.toNat:Int) 32=((c.toNat ||| 32:Nat):Int):=by
 rw[oL];have h:∀ n:Fin 256,od .or .u8 (n.val:Int) 32=((n.val ||| 32:Nat):Int):=by decide +kernel
 exact h ⟨c.toNat,c.toNat_lt⟩
def U4(c:UInt8): (decide (97<=c.toNat ||| 32) && decide (c.toNat ||| 32<=122) || decide (c.toNat=95))=yN c:=by
 have h:∀ n:Fin 256,(decide (97<=n.val ||| 32) && decide (n.val ||| 32<=122) || decide (n.val=95))=((decide (97<=n.val) && decide (n.val<=122)) ||(decide (65<=n.val) && decide (n.val<=90)) || decide (n.val=95)):=by decide +kernel
 exact h ⟨c.toNat,c.toNat_lt⟩
def DB(c:UInt8): aS aH 92 [.int .u8 c.toNat] (.bool (yN c)):=by
 rw[<-U4];refine a_ QJ ?_;intro Q aJ aK aL;repeat' first|refine aB ?_|refine aA ?_ ?_<;>intro hw<;>try omega|fail
 all_goals refine aZ ?_ rfl
 all_goals (rw[aik]at *;(refine aW AV.bool ?_;rw[c7];simp only[aik,aD,cN,aM,beq_iff_eq,ey,decide_eq_false_iff_not,beq_eq_false_iff_ne,ne_eq,true_iff,false_iff,iff_true,iff_false,aP,Bool.true_eq_false,not_and,not_or]at *;omega))
def Ga(c:UInt8): aS aH 95 [.int .u8 c.toNat] (.bool (ic c)):=by
 refine a_ Ss ?_;intro Q aJ aK aL;repeat' first|refine aB ?_|refine aA ?_ ?_<;>intro hw<;>try omega|fail
 all_goals refine aZ ?_ rfl
 all_goals (refine aW AV.bool ?_;rw[c7];simp only[ic,aD,cN,aM,beq_iff_eq,ey,decide_eq_false_iff_not,beq_eq_false_iff_ne,ne_eq,true_iff,false_iff,iff_true,iff_false,aP,Bool.true_eq_false,not_and,not_or]at *;omega)
def Gb{p:UInt8->Bool}{s:aU}{i:Nat}(hi:i<s.length): ((s.drop i).takeWhile p).length=if p (s.getD i 0)then 1+((s.drop (i+1)).takeWhile p).length else 0:=by
 rw[dZ hi,iw,aq,aG hi];simp only[bT];split<;>simp;omega
def Wv (fn : FuncId) (cap : List AV) (hcap : AV.cG cap = true) (p : UInt8 -> Bool) (h : ∀ c : UInt8, aS aH fn (.int .u8 c.toNat :: cap) (.bool (p c))) (s : aU) (hs : s.length <= 2^62) :
    aS aH 93 [.str s,.fn (.func fn) [] cap] (I (s.takeWhile p).length):=by
 refine a_ Yi ?_ (by simp[AV.dy,AV.cG,hcap]);intro Q aJ aK aL;repeat' first|refine aB ?_|refine aA ?_ ?_<;>intro hw<;>try omega|fail
 with_reducible refine bE [4,2,8,11] (fun i:Nat=>[(8,I i)]) (fun _=>[]) (fun i=>i<=s.length/\(s.takeWhile p).length=i+((s.drop i).takeWhile p).length) (fun i=>s.length-i) (0) ?_ ?_ ?_ ?_
 ·simp
 ·rfl
 ·exact at_
 rintro i r ⟨hi,hp⟩;repeat' first|refine aB ?_|refine eU (h _) ?_|refine aA ?_ ?_<;>intro hw<;>try omega|fail
 ·rw[Gb ae]at hp;rw[hw]at hp;exact aZ (by simp at hp;simp[hp]) rfl
 ·rw[Gb ae]at hp;rw[hw]at hp;refine⟨i+1,?_,?_,by first|rfl|(simp[go_sem];done),da,at_⟩<;>(try dsimp only)
  ·simp at hp;exact⟨ae,ae⟩
  omega
 have:i=s.length:=ae;subst this;exact aZ (by simp at hp;simp[hp]) rfl
def Yl(c:UInt8): aS aH 94 [.int .u8 c.toNat] (.bool (LX c)):=by
 refine a_ QM ?_;intro Q aJ aK aL;repeat' first|refine aB ?_|refine eU (DB _) ?_|refine eU (Ga _) ?_|refine aA ?_ ?_<;>intro hw<;>try omega|fail
 all_goals refine aZ ?_ rfl
 all_goals simp_all[LX]
def SG(s:aU)(hs:s.length<=2^62): aS aH 57 [.str s] (I (wI s)):=by
 refine a_ U0 ?_;intro Q aJ aK aL;cases s with
 | nil =>
   repeat' first|refine aB ?_|refine aA ?_ ?_<;>intro hw<;>try omega|fail
   all_goals (refine aZ ?_ ?_<;>rfl)
 | cons c r =>
   repeat' first|refine aB ?_|refine eU (DB _) ?_|refine eU (Wv _ _ rfl LX Yl _ hs) ?_|refine aA ?_ ?_<;>intro hw<;>try omega|fail
   all_goals refine aZ ?_ rfl
   all_goals simp_all[wI]
def SH(s:aU)(hs:s.length<=2^62): aS aH 270 [.str s] (Wu (HG s)):=by
 refine a_ UX ?_;intro Q aJ aK aL;have:=SD s;repeat' first|refine aB ?_|refine eU (SG _ hs) ?_|refine aA ?_ ?_<;>intro hw<;>try omega|fail
 all_goals refine cn ?_ rfl
 all_goals (unfold HG;split<;>first|omega|rfl)
def vY{p:UInt8->Bool}{s:aU}{i:Nat}(hi:i<(s.takeWhile p).length): s.getD i 0=(s.takeWhile p).getD i 0/\p (s.getD i 0)=true:=by
 induction s generalizing i with
 | nil=>simp at hi
 | cons c r ih =>
   simp only[iw]at hi |-;split at hi
   ·rename_i hc;simp only[hc,if_true];cases i with
    | zero=>simp[hc]
    | succ i=>simpa using ih (by simpa using hi)
   simp at hi
def LY(s:aU)(hs:s.length<=2^62): aS aH 271 [.str s] (Wu (qG s)):=by
 refine a_ QL ?_;intro Q aJ aK aL;have hle:=uT (p:=ic) s;obtain⟨n,hn⟩:=cq ((s.takeWhile ic).length);have hrun:aS aH 93 [.str s,.fn (.func 95) [] []] (I n):=hn ▸ Wv _ [] rfl ic Ga _ hs
 have hd:∀ i,i<n->48<=(s.getD i 0).toNat/\(s.getD i 0).toNat<=57/\(s.takeWhile ic).drop i=s.getD i 0::(s.takeWhile ic).drop (i+1):=fun i hi=>by
  obtain⟨h1,h2⟩:=vY (s:=s) (p:=ic) (i:=i) ae;simp only[ic,aD,aM]at h2;refine⟨h2.1,h2.2,?_⟩;rw[dZ (by omega:i<(s.takeWhile ic).length),h1,aq,aG (by omega:i<(s.takeWhile ic).length)];rfl
 repeat' first|refine aB ?_|refine aA ?_ ?_<;>intro hw<;>try omega|fail
 ·refine cn ?_ rfl;unfold qG;rw[hn];simp only;rw[au (by constructor<;>omega)];rfl
 all_goals (
  have hno:¬ (1<n/\(s.getD 0 0).toNat=48):=ae;with_reducible refine bE [3,1,5,3,19,19] (fun p:Nat × Int=>[(19,I p.1),(5,I p.2)]) (fun _=>[.cells [I 0,.str [],I 0,I 0,I 0]]) (fun p=>p.1<=n/\0<=p.2/\p.2<=9223372036854775807/\vX (s.takeWhile ic) 0=vX ((s.takeWhile ic).drop p.1) p.2) (fun p=>n-p.1) (0,0) ?_ ?_ ?_ ?_
  ·simp
  ·rfl
  ·exact at_
  ·rintro⟨i,v⟩ r ⟨hi,hv,hv2,hf⟩;simp only at hi hv hv2 hf;by_cases hin:i<n
   ·obtain⟨d1,d2,d3⟩:=hd i hin;rw[d3]at hf;simp only[vX]at hf;repeat' first|refine aB ?_|refine aA ?_ ?_<;>intro hw<;>try omega|fail
    ·rw[au hw]at hf;refine cn ?_ rfl;unfold qG;rw[hn];simp only;rw[aj hno,hf];rfl
    rw[aj ae]at hf;refine⟨(i+1,v*10+(((s.getD i 0).toNat:Int)-48)),?_,?_,by first|rfl|(simp[go_sem];done),da,at_⟩<;>(try dsimp only)
    ·exact⟨ae,ae,ae,hf⟩
    omega
   ·have:i=n:=ae;subst this;rw[cB ae]at hf;repeat' first|refine aB ?_|refine aA ?_ ?_<;>intro hw<;>try omega|fail
    ·refine cn ?_ rfl;unfold qG;rw[hn];simp only;rw[aj hno,hf];rfl)
def kG{α : Type}[Inhabited α]{l:List α}{i:Nat}(h:i<l.length): l.drop i=l.getD i default::l.drop (i+1):=by
 rw[dZ h,aq,aG h];rfl
def rB{l:aU}{i:Nat}(h:i<l.length): l.drop i=l.getD i 0::l.drop (i+1):=by
 rw[dZ h,aq,aG h];rfl
abbrev sY(s:aU): List AV:=s.map fun b=>AV.int .u8 b.toNat
def adw(s:aU)(h0:s≠[])(hs:s.length<=2^30): aS aH 272 [.str s] (Wu (mN (s.drop 1) [] 1)):=by
 refine a_ UZ ?_;intro Q aJ aK aL;have hl:1<=s.length:=by cases s with|nil=>exact absurd rfl h0|cons=>simp
 generalize hT:mN (s.drop 1) [] 1=T at *;repeat' first|refine aB ?_|refine aA ?_ ?_<;>intro hw<;>try omega|fail
 with_reducible refine bE [3,67] (fun p:Nat × aU=>[(5,I p.1),(4,.own E1 1 p.2.length 0 p.2.length)]) (fun p=>[.cells [I 0,.str [],I 0,I 0,I 0],.vec E1 (sY p.2)]) (fun p=>1<=p.1/\p.1<=s.length/\p.2.length<=p.1/\T=mN (s.drop p.1) p.2 p.1) (fun p=>s.length-p.1) ((1,[])) ?_ ?_ ?_ ?_
 ·exact⟨bg _,hl,aQ,hT.symm⟩
 ·rfl
 ·exact at_
 rintro⟨i,b⟩ r ⟨V5,hi,hb,hf⟩;simp only at V5 hi hb hf;by_cases hin:i<s.length
 ·rw[rB hin]at hf;repeat' first|refine aB ?_|refine aA ?_ ?_<;>intro hw<;>try omega|fail
  ·refine cn ?_ rfl;rw[hf,ni,au ae,au ae];rfl
  ·refine cn ?_ rfl;rw[hf,ni,au ae,aj ae];simp
  ·refine cn ?_ rfl;rw[hf,ni,aj ae,au ae,rB ae];simp only;rw[aj ae];rfl
  ·rw[ni,aj ae,au ae,rB ae]at hf;try dsimp only at hf
   rw[au ae]at hf;refine⟨(i+2,b++[s.getD (i+1) 0]),?_,?_,by first|rfl|(simp[go_sem];done),da,at_⟩<;>(try dsimp only)
   ·simp only[aC,aO,bt];exact⟨ae,ae,ae,hf⟩
   omega
  ·rw[ni,aj ae,au ae,rB ae]at hf;try dsimp only at hf
   rw[au ae]at hf;refine⟨(i+2,b++[s.getD (i+1) 0]),?_,?_,by first|rfl|(simp[go_sem];done),da,at_⟩<;>(try dsimp only)
   ·simp only[aC,aO,bt];exact⟨ae,ae,ae,hf⟩
   omega
  ·refine cn ?_ rfl;rw[hf,ni,aj ae,au ae,cB ae];rfl
  ·refine cn ?_ rfl;rw[hf,ni,aj ae,aj ae,aj (by simp only[o8,aD,aM];omega)];rfl
  ·rw[ni,aj ae,aj ae,au (by simp only[o8,aD,aM];omega)]at hf;refine⟨(i+1,b++[s.getD i 0]),?_,?_,by first|rfl|(simp[go_sem];done),da,at_⟩<;>(try dsimp only)
   ·simp only[aC,aO,bt];exact⟨ae,ae,ae,hf⟩
   omega
  refine cn ?_ rfl;rw[hf,ni,aj ae,aj ae,aj (by simp only[o8,aD,aM];omega)];rfl
 rw[cB ae]at hf;repeat' first|refine aB ?_|refine aA ?_ ?_<;>intro hw<;>try omega|fail
 all_goals (refine cn ?_ rfl;rw[hf];simp[mN,PR.err])
def Gc(s p:aU): aS aH 131 [.str s,.str p] (.bool (p.isPrefixOf s)):=by
 refine a_ sV ?_;intro Q aJ aK aL;repeat' first|refine aB ?_|refine aA ?_ ?_<;>intro hw<;>try omega|fail
 all_goals refine aZ ?_ rfl
 all_goals refine aW AV.bool ?_
 ·rw[c7,beq_iff_eq,List.isPrefixOf_iff_prefix,List.prefix_iff_eq_take];exact eq_comm
 symm;rw[Bool.eq_false_iff];intro h
 have:=(List.isPrefixOf_iff_prefix.1 h).length_le;omega
def strings_HasPrefix(s p:aU): aS aH 87 [.str s,.str p] (.bool (p.isPrefixOf s)):=by
 refine a_ Dy ?_;intro Q aJ aK aL;repeat' first|refine aB ?_|refine eU (Gc _ _) ?_|refine aA ?_ ?_<;>intro hw<;>try omega|fail
 all_goals exact aZ rfl rfl
def Pc: aS aH 292 [] (iY zl):=by
 refine a_ St ?_;intro Q aJ aK aL;repeat' first|refine aB ?_|refine aA ?_ ?_<;>intro hw<;>try omega|fail
 all_goals exact Ao (View.weak _ _ _ (by simp[AV.dy,AV.cG]))
def kW{α : Type}(p : α->Bool)(l:List α): Int:=match l.findIdx? p with
 | some i=>i
 | none=> -1
def nA{α : Type}[Inhabited α]{p : α->Bool}{l:List α}(h:∀ k,k<l.length->p (l.getD k default)=false): kW p l = -1:=by
 have:l.findIdx? p=none:=by
  rw[List.findIdx?_eq_none_iff];intro x hx;obtain⟨k,hk,rfl⟩:=bV hx;have:=h k hk;rwa[aq,aG hk]at this
 simp[kW,this]
def qH{α : Type}[Inhabited α]{p : α->Bool}{l:List α}{i:Nat}(hi:i<l.length)(h:∀ k,k<i->p (l.getD k default)=false)(hp:p (l.getD i default)=true): kW p l=i:=by
 have:l.findIdx? p=some i:=by
  rw[List.findIdx?_eq_some_iff_getElem];refine⟨hi,?_,fun j hj=>?_⟩
  ·rwa[aq,aG hi]at hp
  have:=h j hj;rw[aq,aG ae]at this;simpa using this
 simp[kW,this]
def z8 (fn : FuncId) (cap : List AV) (hcap : AV.cG cap = true) (p : aU -> Bool) (l : List aU) (h : ∀ x ∈ l, aS aH fn (.str x :: cap) (.bool (p x))) (hl : l.length <= 2^62) :
    aS aH 293 [iY l,.fn (.func fn) [] cap] (I (kW p l)):=by
 refine a_ xP ?_ (by simp[AV.dy,AV.cG,hcap,F7]);intro Q aJ aK aL;repeat' first|refine aB ?_|refine aA ?_ ?_<;>intro hw<;>try omega|fail
 with_reducible refine bE [4,2,8,11] (fun i:Nat=>[(8,I i)]) (fun _=>[]) (fun i=>i<=l.length/\ ∀ k,k<i->p (l.getD k default)=false) (fun i=>l.length-i) (0) ?_ ?_ ?_ ?_
 ·simp
 ·rfl
 ·exact at_
 rintro i r ⟨hi,hp⟩;by_cases hin:i<l.length
 ·have hx:=h _ (bq hin);repeat' first|refine aB ?_|refine aA ?_ ?_<;>intro hw<;>try omega|fail
  ·refine aZ ?_ rfl;refine aW I ?_;exact(qH hin hp hw).symm
  refine⟨i+1,?_,?_,by first|rfl|(simp[go_sem];done),da,at_⟩<;>(try dsimp only)
  ·refine⟨ae,fun k hk=>?_⟩;by_cases kI:k<i
   ·exact hp k kI
   have:k=i:=ae;subst this;exact hw
  omega
 repeat' first|refine aB ?_|refine aA ?_ ?_<;>intro hw<;>try omega|fail
 refine aZ ?_ rfl;refine aW I ?_;exact(nA fun k hk=>hp k ae).symm
def vZ{α : Type}[Inhabited α](p : α->Bool): ∀ l:List α,(kW p l = -1/\l.find? p=none)\/ ∃ i:Nat,i<l.length/\kW p l=i/\l.find? p=some (l.getD i default)
 | []=> .inl ⟨rfl,rfl⟩
 | x :: l => by
   by_cases hp:p x=true
   ·exact .inr ⟨0,aQ,by simp[kW,List.findIdx?_cons,hp],by simp[hp]⟩
   rcases vZ p l with⟨h1,h2⟩|⟨i,h1,h2,h3⟩
   ·left;simp only[kW]at h1;refine⟨?_,by simp[hp,h2]⟩;cases h:l.findIdx? p with
    | none=>simp[kW,List.findIdx?_cons,hp,h]
    | some k=>rw[h]at h1;simp at h1
   right;refine⟨i+1,by simp;omega,?_,by simp[hp,h3]⟩;simp only[kW]at h2;cases h:l.findIdx? p with
   | none=>rw[h]at h2;simp at h2
   | some k=>rw[h]at h2;simp at h2;simp[kW,List.findIdx?_cons,hp,h];omega
def Ym(m s:aU): aS aH 294 [.str m,.fh E1 (.str s) 0] (.bool (m.isPrefixOf s)):=by
 refine a_ QK ?_;intro Q aJ aK aL;repeat' first|refine aB ?_|refine eU (strings_HasPrefix _ _) ?_|refine aA ?_ ?_<;>intro hw<;>try omega|fail
 all_goals exact aZ rfl rfl
def adx(s:aU): aS aH 273 [.str s] (Wu (yy s)):=by
 have hc:=z8 294 [.fh E1 (.str s) 0] rfl (fun m=>m.isPrefixOf s) zl (fun m _=>Ym m s) cW;unfold yy;rcases vZ (fun m:aU=>m.isPrefixOf s) zl with⟨h1,h2⟩|⟨i,hi,h1,h2⟩
 ·rw[h1]at hc;rw[h2];refine a_ IB ?_;intro Q aJ aK aL;repeat' first|refine aB ?_|refine eU Pc ?_|refine IC hc ?_|refine aA ?_ ?_<;>intro hw<;>try omega|fail
  all_goals (refine cn ?_ rfl;rfl)
 rw[h1]at hc;rw[h2];have hi2:i<16:=hi;have hl:(zl.map fH).length=16:=rfl;refine a_ IB ?_;intro Q aJ aK aL;repeat' first|refine aB ?_|refine eU Pc ?_|refine IC hc ?_|refine aA ?_ ?_<;>intro hw<;>try omega|fail
 all_goals (refine cn ?_ rfl;rfl)
def ady(s:aU)(h0:s≠[])(hs:s.length<=2^30): aS aH 251 [.str s] (Wu (kM s)):=by
 refine a_ UY ?_;intro Q aJ aK aL;have hl:1<=s.length:=by cases s with|nil=>exact absurd rfl h0|cons=>simp
 repeat' first|refine aB ?_|refine eU (DB _) ?_|refine eU (Ga _) ?_|with_reducible refine yL (SH _ ae) ?_|with_reducible refine B3 (SH _ ae) ?_|with_reducible refine yL (LY _ ae) ?_|with_reducible refine B3 (LY _ ae) ?_|refine eU (adw _ h0 hs) ?_|refine eU (adx _) ?_|refine aA ?_ ?_<;>intro hw<;>try omega|fail
 all_goals refine cn ?_ rfl
 all_goals (unfold kM;dsimp only;first
  |(rw[au (by assumption)]<;>rfl)
  |(rw[aj (ne_true_of_eq_false (by assumption)),au (by assumption)]<;>rfl)
  |(rw[aj (ne_true_of_eq_false (by assumption)),aj (ne_true_of_eq_false (by assumption)),au ae]<;>rfl)
  |(rw[aj (ne_true_of_eq_false (by assumption)),aj (ne_true_of_eq_false (by assumption)),aj ae]<;>rfl))
def SI(s:aU): aS aH 58 [.str s] (.bool (F9 s)):=by
 refine a_ LO ?_;intro Q aJ aK aL;repeat' first|refine aB ?_|refine aA ?_ ?_<;>intro hw<;>try omega|fail
 all_goals refine aZ ?_ rfl
 all_goals (refine aW AV.bool ?_;simp_all[F9,Pb])
def v7(s:aU)(hs:s.length<=2^62): aS aH 36 [.str s] (.bool (iZ s)):=by
 refine a_ UW ?_;intro Q aJ aK aL;repeat' first|refine aB ?_|refine eU (SG _ hs) ?_|refine eU (SI _) ?_|refine aA ?_ ?_<;>intro hw<;>try omega|fail
 all_goals refine aZ ?_ rfl
 all_goals (refine aW AV.bool ?_;simp[iZ];try simp_all;try omega)
def Yn(p:List Tok × Int × Int): AV:= .bU [wH p.1,I p.2.1,I p.2.2]
attribute [go_sem] Yn
def adz(f pos:Nat)(acc:List Tok): tZ f [] pos acc=(acc,0,0):=by cases f<;>rfl
def w_ (f pos : Nat) (acc : List Tok) (c : UInt8) (r : aU) : tZ (f + 1) (c :: r) pos acc =
    if c.toNat=32 then tZ f r (pos+1) acc
    else if(kM (c::r)).e=0 then tZ f ((c::r).drop (kM (c::r)).len) (pos+(kM (c::r)).len) (acc++[⟨(kM (c::r)).kind,(kM (c::r)).s,(kM (c::r)).n,pos⟩])
    else([],pos,(kM (c::r)).e):=rfl
def Ww(s:aU)(hs:s.length<=2^30): aS aH 219 [.str s] (Yn (dU s)):=by
 unfold dU;by_cases hbig:200<s.length
 ·rw[au hbig];refine a_ LN ?_;intro Q aJ aK aL;repeat' first|refine aB ?_|refine aA ?_ ?_<;>intro hw<;>try omega|fail
  refine gW ?_;exact vw_
 rw[aj hbig];generalize hT:tZ (s.length+1) s 0 []=T;refine a_ LN ?_;intro Q aJ aK aL;repeat' first|refine aB ?_|refine aA ?_ ?_<;>intro hw<;>try omega|fail
 with_reducible refine bE [2,7,12,39] (fun p:Nat × List Tok × List aY=>[(6,I p.1),(5,.own ET 0 p.2.1.length 0 p.2.1.length)]) (fun p=> .vec ET (p.2.1.map tY)::p.2.2) (fun p=>p.1<=s.length/\p.2.1.length<=p.1/\ ∃ f,s.length-p.1<f/\T=tZ f (s.drop p.1) p.1 p.2.1) (fun p=>s.length-p.1) (0,[],[]) ?_ ?_ ?_ ?_
 ·exact⟨aQ,aQ,s.length+1,ae,hT.symm⟩
 ·rfl
 ·exact at_
 rintro⟨pos,acc,τ⟩ r ⟨h1,h2,f,h3,h4⟩;dsimp only at h1 h2 h3 h4;repeat' first|refine aB ?_|refine aA ?_ ?_<;>intro hw<;>try omega|fail
 with_reducible refine bE [6,1,12,12] (fun p:Nat=>[(6,I p)]) (fun _=> .vec ET (acc.map tY):: τ) (fun p=>pos<=p/\p<=s.length/\ ∃ f,s.length-p<f/\T=tZ f (s.drop p) p acc) (fun p=>s.length-p) pos ?_ ?_ ?_ ?_
 ·exact⟨bg _,h1,f,h3,h4⟩
 ·rfl
 ·exact at_
 clear h3 h4;clear f;rintro p r2 ⟨k0,k1,f,k2,k3⟩;obtain⟨f,rfl⟩:∃ g,f=g+1:=⟨f-1,ae⟩;by_cases hp:p<s.length
 ·rw[rB hp,w_]at k3;have hne:s.drop p≠[]:=by rw[rB hp];simp
  have hlen:(s.drop p).length<=2^30:=by rw[dJ];omega
  rw[<-rB hp]at k3;have hnx:=ady (s.drop p) hne hlen;have EE:=SE hne;rw[dJ]at EE;generalize kM (s.drop p)=q at *;obtain⟨qk,qs,qn,ql,qe⟩:=q;dsimp only at k3 EE;repeat' first|refine aB ?_|refine aA ?_ ?_<;>intro hw<;>try omega|fail
  ·rw[au ae]at k3;refine⟨p+1,?_,?_,by first|rfl|(simp[go_sem];done),da,at_⟩<;>(try dsimp only)
   ·exact⟨ae,ae,f,ae,k3⟩
   omega
  ·rw[aj ae,aj hw]at k3;refine gW ?_;rw[k3];exact cY.cons (View.aV _) (cY.refl rfl)
  rw[aj ae,au hw,List.drop_drop]at k3;refine⟨(p+ql,acc++[⟨qk,qs,qn,p⟩],τ++[.cells [I qk,.str qs,I qn,I p,I ql]]),?_,?_,by first|rfl|(simp[go_sem];done),da,at_⟩<;>(try dsimp only)
  ·exact⟨ae,by simp;omega,f,ae,k3⟩
  omega
 rw[cB ae,adz]at k3;repeat' first|refine aB ?_|refine aA ?_ ?_<;>intro hw<;>try omega|fail
 refine gW ?_;rw[k3];exact cY.cons (View.vec rfl aQ aQ (SC _)) (cY.refl rfl)
def v8{p:UInt8->Bool}: ∀ {s:aU} {i:Nat},i<=(s.takeWhile p).length->i<s.length->p (s.getD i 0)=true->i<(s.takeWhile p).length
 | [],i,_,h,_=>by simp at h
 | c::r,0,_,_,hp=>by simp only[cH]at hp;simp[iw,hp]
 | c :: r, i + 1, h1, h2, hp => by
   simp only[iu]at hp;simp only[iw]at h1 |-;split at h1
   ·simp only[aO]at h1 h2 |-;have:=v8 (p:=p) (s:=r) (i:=i) ae ae hp;split<;>simp_all
   simp at h1
def DC(s:aU)(i:Nat)(v:Int)(over:Bool): Prop:=i<=(s.takeWhile ic).length/\(over=false->vX (s.takeWhile ic) 0=vX ((s.takeWhile ic).drop i) v)/\(over=true->vX (s.takeWhile ic) 0=none)
def DC.step {s : aU} {i : Nat} {v : Int} (h : DC s i v false) (hi : i < s.length) (hd : ic (s.getD i 0) = true) :
    (v>(9223372036854775807-(((s.getD i 0).toNat:Int)-48)) / 10->DC s (i+1) v true) /\
    (¬ v>(9223372036854775807-(((s.getD i 0).toNat:Int)-48)) / 10->DC s (i+1) (v*10+(((s.getD i 0).toNat:Int)-48)) false):=by
 obtain⟨h1,h2,_⟩:=h;have hlt:i<(s.takeWhile ic).length:=v8 h1 hi hd;have h3:=vY hlt;have h4:(s.takeWhile ic).drop i=s.getD i 0::(s.takeWhile ic).drop (i+1):=by rw[rB hlt,<-h3.1]
 rw[h4]at h2;simp only[vX]at h2;refine⟨fun hv=>⟨ae,fun h=>by simp at h,fun _=>?_⟩,fun hv=>⟨ae,fun _=>?_,fun h=>by simp at h⟩⟩
 ·rw[h2 trivial,au hv]
 rw[h2 trivial,aj hv]
def DC.over{s:aU}{i:Nat}{v:Int}(h:DC s i v true)(hi:i<s.length)(hd:ic (s.getD i 0)=true): DC s (i+1) v true :=
 ⟨v8 h.1 hi hd,fun h=>by simp at h,h.2.2⟩
def DC.fin{s:aU}{i:Nat}{v:Int}{o:Bool}(h:DC s i v o)(hi:i<s.length->ic (s.getD i 0)=false)(hl:i<=s.length): (s.takeWhile ic).length=i/\vX (s.takeWhile ic) 0=if o then none else some v:=by
 have hlen:(s.takeWhile ic).length=i:=by
  have h1:=h.1;apply Nat.le_antisymm _ h1;apply ja;intro hlt;have h3:=(vY hlt).2;have:i<s.length:=di hlt (uT s);rw[hi this]at h3;cases h3
 refine⟨hlen,?_⟩;cases o with
 | false=>rw[h.2.1 rfl,cB ae];rfl
 | true=>rw[h.2.2 rfl];rfl
def yO{α : Type}[Inhabited α]{p : α->Bool}{l:List α}{i:Nat}(hi:i<l.length)(h:∀ k,k<i->p (l.getD k default)=false)(hp:p (l.getD i default)=true): l.find? p=some (l.getD i default):=by
 have h1:=qH hi h hp;rcases vZ p l with⟨h2,h3⟩|⟨j,h2,h3,h4⟩
 ·omega
 have:j=i:=ae;subst this;exact h4
def wc{α : Type}[Inhabited α]{p : α->Bool}{l:List α}(h:∀ k,k<l.length->p (l.getD k default)=false): l.find? p=none:=by
 have h1:=nA h;rcases vZ p l with⟨h2,h3⟩|⟨j,h2,h3,h4⟩
 ·exact h3
 omega
def aaN{α : Type}[Inhabited α]{p : α->Bool}{l:List α}{i:Nat}(hi:i<l.length)(hp:p (l.getD i default)=true): l.any p=true:=by
 rw[List.any_eq_true];exact⟨_,bq hi,hp⟩
def Wx{α : Type}[Inhabited α]{p : α->Bool}{l:List α}(h:∀ k,k<l.length->p (l.getD k default)=false): l.any p=false:=by
 rw[List.any_eq_false];intro x hx;obtain⟨k,hk,rfl⟩:=bV hx;have:=h k hk;rw[aq,aG hk,bT]at this;simp[this]
def cj{q:Nat->Prop}{i:Nat}(h:∀ k,k<i->q k)(hi:q i): ∀ k,k<i+1->q k:=fun k hk=>by
 by_cases h2:k<i
 ·exact h k h2
 have:k=i:=ae;subst this;exact hi
def SJ{s:aU}{p:UInt8->Bool}{i:Nat}(hi:i<s.length)(hp:p (s.getD i 0)=false): s.all p=false:=by
 rw[ig];refine⟨s.getD i 0,?_,ne_true_of_eq_false hp⟩;rw[aq,aG hi];exact dI hi
def agi{s:aU}{p:UInt8->Bool}(h:∀ k,k<s.length->p (s.getD k 0)=true): s.all p=true:=by
 rw[bf];intro x hx;obtain⟨k,hk,rfl⟩:=bV hx;have:=h k hk;rwa[aq,aG hk]at this
def DE(c:UInt8): o8 c=true↔32<=c.toNat/\c.toNat<=126:=by simp[o8]
def Bt(c:UInt8): o8 c=false↔c.toNat<32\/126<c.toNat:=by
 rw[<-kF,DE];omega
def U5(s:aU): aS aH 177 [.str s] (.bool (mw s)):=by
 refine a_ NI ?_;intro Q aJ aK aL;repeat' first|refine aB ?_|refine aA ?_ ?_<;>intro hw<;>try omega|fail
 ·refine aZ ?_ rfl;simp only[mw];rw[cQ ae,g_]
 with_reducible refine bE [2,1,4,1,10,9] (fun i:Nat=>[]) (fun i=>[.jA s i]) (fun i=>i<=s.length/\ ∀ k,k<i->o8 (s.getD k 0)=true) (fun i=>s.length-i) 0 ?_ ?_ ?_ ?_
 ·simp
 ·rfl
 ·exact at_
 rintro i r ⟨h1,h2⟩;by_cases hi:i<s.length
 ·by_cases ha:(s.getD i 0).toNat<128
  ·repeat' first|refine aB ?_|refine aA ?_ ?_<;>intro hw<;>try omega|fail
   ·refine aZ ?_ rfl;simp only[mw];rw[SJ (p:=o8) hi ((Bt _).2 (.inr ae)),h_]
   ·refine⟨i+1,?_,?_,by first|rfl|(simp[go_sem];done),da,at_⟩<;>(try dsimp only)
    ·exact⟨ae,cj h2 ((DE _).2 ⟨ae,ae⟩)⟩
    omega
   refine aZ ?_ rfl;simp only[mw];rw[SJ (p:=o8) hi ((Bt _).2 (.inl ae)),h_]
  have hw2:=UO hi ae;repeat' first|refine aB ?_|refine aA ?_ ?_<;>intro hw<;>try omega|fail
  all_goals refine aZ ?_ rfl
  all_goals (simp only[mw];rw[SJ (p:=o8) hi ((Bt _).2 (.inr ae)),h_])
 have:i=s.length:=ae;repeat' first|refine aB ?_|refine aA ?_ ?_<;>intro hw<;>try omega|fail
 refine aZ ?_ rfl;simp only[mw];rw[bQ ae,agi (fun k hk=>h2 k ae)];rfl
def DG(n:Int)(s:aU): cg ⟨0,n,s⟩=(decide (n=0) && decide (s=[])):=rfl
def J3(n:Int)(s:aU): cg ⟨1,n,s⟩=decide (s=[]):=rfl
def SK(n:Int)(s:aU): cg ⟨2,n,s⟩=(decide (n=0) && mw s):=rfl
def J4(n:Int)(s:aU): cg ⟨3,n,s⟩=(decide (s=[]) && (decide (n=0) || decide (n=1))):=rfl
def SL(k n:Int)(s:aU)(h0:k≠0)(h1:k≠1)(h2:k≠2)(h3:k≠3): cg ⟨k,n,s⟩=false:=by
 simp[cg,h0,h1,h2,h3]
def ji(b:Bool): Int:=if b then 0 else 2
def Yo(x:BitVec 64): x &&& ~~~ 1#64=0#64↔x=0#64\/x=1#64:=by
 constructor
 ·intro h
  have hb:∀ i,1<=i->i<64->x.getLsbD i=false:=fun i h1 h2=>by
   have:=aW (fun y=>BitVec.getLsbD y i) h
   have h3:(1#64).getLsbD i=false:=by
    rw[BitVec.getLsbD_one];simp;omega
   simp only[BitVec.getLsbD_and,BitVec.getLsbD_not,h3,h2,decide_true,iK,iQ,BitVec.getLsbD_zero]at this;exact this
  cases h0:x.getLsbD 0 with
  | false =>
    left;apply BitVec.eq_of_getLsbD_eq;intro i hi;by_cases hz:i=0
    ·subst hz;rw[h0];rfl
    rw[hb i ae hi];simp
  | true =>
    right;apply BitVec.eq_of_getLsbD_eq;intro i hi;by_cases hz:i=0
    ·subst hz;rw[h0];rfl
    rw[hb i ae hi,BitVec.getLsbD_one];simp[hz]
 rintro(rfl|rfl)<;>decide
def U6(m:Nat)(h:m<18446744073709551616): IntKind.wrap .i64 m=0↔m=0:=by
 simp only[IntKind.wrap,IntKind.bits,IntKind.signed];simp;omega
def amD(n:Int)(h : -9223372036854775808<=n)(h':n<=9223372036854775807): iX .andNot .i64 n 1=0↔n=0\/n=1:=by
 rw[oL];show IntKind.wrap .i64 ((BitVec.ofInt 64 n &&& ~~~ BitVec.ofInt 64 1).toNat:Int)=0↔_;rw[U6 _ (BitVec.isLt _)]
 have h1:(BitVec.ofInt 64 n &&& ~~~ BitVec.ofInt 64 1).toNat=0↔BitVec.ofInt 64 n &&& ~~~ 1#64=0#64:=by
  rw[<-BitVec.toNat_inj];rfl
 rw[h1,Yo,<-BitVec.toNat_inj,<-BitVec.toNat_inj];simp only[BitVec.toNat_ofInt,BitVec.toNat_ofNat];omega
def l7(k n:Int)(s:aU)(h : -9223372036854775808<=n)(h':n<=9223372036854775807): aS aH 136 [.agg [I k,I n,.str s]] (I (ji (cg ⟨k,n,s⟩))):=by
 refine a_ NH ?_;intro Q aJ aK aL;repeat' first|refine aB ?_|refine eU (U5 _) ?_|refine aA ?_ ?_<;>intro hw<;>try omega|fail
 all_goals refine aZ ?_ rfl
 all_goals (refine congrArg I ?_;unfold ji;try rw[amD n h h']at hw)
 all_goals (try subst k)
 all_goals first
  |(rw[aj (by rw[DG];simp_all)];done)
  |(rw[au (by rw[DG];simp_all)];done)
  |(rw[aj (by rw[J3];simp_all)];done)
  |(rw[au (by rw[J3];simp_all)];done)
  |(rw[aj (by rw[SK];simp_all)];done)
  |(rw[au (by rw[SK];simp_all)];done)
  |(rw[aj (by rw[J4];simp_all)];done)
  |(rw[au (by rw[J4];simp_all)];done)
  |(rw[aj (by rw[SL _ _ _ (by assumption) (by assumption) (by assumption) (by assumption)];simp)])
structure Gd where
 op:Int
 sign:aU
 level:Int
deriving Inhabited,DecidableEq
def SM(b:Gd): AV:= .agg [I b.op,.str b.sign,I b.level]
attribute [go_sem] SM
def lz: List Gd:=[⟨4,[43],4⟩,⟨5,[45],4⟩,⟨6,[42],5⟩,⟨7,[47],5⟩,⟨8,[61],3⟩,⟨9,[33,61],3⟩,⟨10,[60],3⟩,⟨11,[60,61],3⟩,⟨12,[62],3⟩,⟨13,[62,61],3⟩,⟨14,[97,110,100],2⟩,⟨15,[111,114],1⟩]
def fB(op:Int): Gd:=(lz.find? fun b=>b.op==op).getD ⟨0,[],0⟩
def kg(op:Int): Int:=if op=1\/op=2 then 0 else if op=3 then 1 else if op=16 then 3 else if 0<(fB op).level then 2 else -1
def fT(op:Int): Int:=if op=16 then 0 else if op=3 then 6 else if op=1\/op=2 then 7 else(fB op).level
def Yp(op:Int)(h:op<4\/15<op): fB op=⟨0,[],0⟩:=by
 have:lz.find? (fun b=>b.op==op)=none:=by
  rw[fL];intro b hb;simp only[lz,gj,fO,or_false]at hb;rcases hb with rfl|rfl|rfl|rfl|rfl|rfl|rfl|rfl|rfl|rfl|rfl|rfl<;>(simp only[beq_iff_eq];omega)
 simp[fB,this]
def Yq(op:Int)(h1:4<=op)(h2:op<=15): (fB op).sign≠[]/\0<(fB op).level:=by
 have:op=4\/op=5\/op=6\/op=7\/op=8\/op=9\/op=10\/op=11\/op=12\/op=13\/op=14\/op=15:=ae;rcases this with rfl|rfl|rfl|rfl|rfl|rfl|rfl|rfl|rfl|rfl|rfl|rfl<;>decide
def Av: aS aH 215 [] (.aR false ⟨true,3⟩ (lz.map SM)):=by
 refine a_ F5 ?_;intro Q aJ aK aL;repeat' first|refine aB ?_|refine aA ?_ ?_<;>intro hw<;>try omega|fail
 all_goals exact Ao (View.weak _ _ _ aQ)
def Bu(op:Int): aS aH 172 [I op] (SM (fB op)):=by
 refine a_ NB ?_;intro Q aJ aK aL;have hl:lz.length=12:=rfl;repeat' first|refine aB ?_|refine eU Av ?_|refine aA ?_ ?_<;>intro hw<;>try omega|fail
 with_reducible refine bE [4,1,7,10] (fun p:Nat × List aY=>[(7,I p.1)]) (fun p=> .cells [I 0,.str [],I 0]::p.2) (fun p=>p.1<=12/\ ∀ k,k<p.1->((lz.getD k default).op==op)=false) (fun p=>12-p.1) (0,[]) ?_ ?_ ?_ ?_
 ·simp
 ·rfl
 ·exact at_
 rintro⟨i,τ⟩ r ⟨h1,h2⟩;dsimp only at h1 h2;by_cases hi:i<12
 ·repeat' first|refine aB ?_|refine aA ?_ ?_<;>intro hw<;>try omega|fail
  ·refine aZ ?_ rfl
   have:fB op=lz.getD i default:=by
    unfold fB;rw[yO (p:=fun b:Gd=>b.op==op) hi h2 (by simpa using hw)];rfl
   rw[this];try rfl
  refine⟨(i+1,τ++[.cells [I (lz.getD i default).op,.str (lz.getD i default).sign,I (lz.getD i default).level]]),?_,?_,by first|rfl|(simp[go_sem];done),da,at_⟩<;>(try dsimp only)
  ·exact⟨ae,cj h2 (by simpa using hw)⟩
  omega
 repeat' first|refine aB ?_|refine aA ?_ ?_<;>intro hw<;>try omega|fail
 refine aZ ?_ rfl
 have:fB op=⟨0,[],0⟩:=by
  unfold fB;rw[wc (p:=fun b:Gd=>b.op==op) (fun k hk=>h2 k ae)];rfl
 rw[this];try rfl
def SN(op:Int): aS aH 166 [I op] (I (kg op)):=by
 refine a_ LQ ?_;intro Q aJ aK aL;repeat' first|refine aB ?_|refine eU (Bu _) ?_|refine aA ?_ ?_<;>intro hw<;>try omega|fail
 all_goals refine aZ ?_ rfl
 all_goals (refine congrArg I ?_;unfold kg)
 all_goals first|(simp_all;done)
mutual
def mO: Expr->Nat
 | .mk _ _ _ l=>nj l+1
def nj: List Expr->Nat
 | []=>0
 | x::r=>Nat.max (mO x) (nj r)
end
mutual
def gV: Expr->Nat
 | .mk _ _ _ l=>nF l+1
def nF: List Expr->Nat
 | []=>0
 | x::r=>gV x+nF r
end
def HI(l:List Expr): l.length<=nF l:=by
 induction l with
 | nil=>simp[nF]
 | cons x r ih=>cases x;simp only[nF,gV,List.length_cons];omega
def Cj{l:List Expr}{x:Expr}(h:x ∈ l): gV x<=nF l:=by
 induction l with
 | nil=>cases h
 | cons y r ih =>
   simp only[nF];rcases List.mem_cons.1 h with rfl|h
   ·omega
   have:=ih h;omega
def agj: ∀ x,mO x<=gV x:=by
 intro x
 induction x using Expr.ind with
 | h op v s l ih =>
   simp only[mO,gV]
   have:nj l<=nF l:=by
    clear op v s
    induction l with
    | nil=>simp[nj]
    | cons y r Z9 =>
      simp only[nj,nF];have h1:=ih y aQ;have h2:=Z9 (fun z hz=>ih z (dz _ hz));exact Nat.max_le.2 ⟨ae,ae⟩
   omega
def Yr(l:List Expr)(x:Expr): nj (l++[x])=Nat.max (nj l) (mO x):=by
 induction l with
 | nil=>simp only[bS,nj];exact Nat.max_comm _ _
 | cons y r ih=>simp only[bK,nj,ih];exact(Nat.max_assoc _ _ _).symm
def take_succ{α : Type}[Inhabited α]{l:List α}{k:Nat}(h:k<l.length): l.take (k+1)=l.take k++[l.getD k default]:=by
 rw[dD h,aq,aG h];rfl
def Ys{l:List Expr}{k:Nat}(h:k<l.length): nj (l.take (k+1))=Nat.max (nj (l.take k)) (mO (l.getD k default)):=by
 rw[take_succ h,Yr]
def SO(l:List Expr)(k:Nat): nj (l.take k)<=nF l:=by
 have:∀ l:List Expr,nj l<=nF l:=fun l=>by
  have:=agj (.mk 0 default [] l);simp only[mO,gV]at this;omega
 refine cR (this _) ?_
 induction l generalizing k with
 | nil=>simp[nF]
 | cons x r ih => cases k with
   | zero=>simp[nF]
   | succ k=>simp only[List.take_succ_cons,nF];have:=ih k;omega
def Bv(x:Expr)(hx:gV x<=2^60): aS aH 123 [br x] (I (mO x)):=by
 induction x using Expr.ind with
 | h op v s l ih =>
   simp only[gV]at hx;have hlen:=HI l
   have hih:∀ k,k<l.length->aS aH 123 [br (l.getD k default)] (I (mO (l.getD k default))):=fun k hk =>
    ih _ (bq hk) (by have:=Cj (bq hk);omega)
   refine a_ Nz ?_;intro Q aJ aK aL;repeat' first|refine aB ?_|refine aA ?_ ?_<;>intro hw<;>try omega|fail
   with_reducible refine bE [3,1,5,1,9,9] (fun p:Nat × List aY=>[(9,I p.1),(3,I (nj (l.take p.1)))]) (fun p=> .cells [I op,I v.kind,I v.n,.str v.s,.str s,.aR false EX (l.map br)]::p.2) (fun p=>p.1<=l.length) (fun p=>l.length-p.1) (0,[]) ?_ ?_ ?_ ?_
   ·simp
   ·rfl
   ·exact at_
   rintro⟨i,τ⟩ r h1;dsimp only at h1;by_cases hi:i<l.length
   ·have hy:=hih i hi
    have amE:(if((nj (l.take i):Nat):Int)<((mO (l.getD i default):Nat):Int)then ((mO (l.getD i default):Nat):Int)else ((nj (l.take i):Nat):Int))=((nj (l.take (i+1)):Nat):Int):=by
     rw[Ys hi];show _=((max (nj (l.take i)) (mO (l.getD i default)):Nat):Int);by_cases hm:nj (l.take i)<=mO (l.getD i default)
     ·rw[Nat.max_eq_right hm];split<;>omega
     rw[Nat.max_eq_left ae];split<;>omega
    rw[bM]at hy;repeat' first|simp (disch:=omega) only[go_sem,aJ,aK,aL,amE]|refine aB ?_|refine aA ?_ ?_<;>intro hw<;>try omega|fail
    refine⟨(i+1,τ++[.cells [I (l.getD i default).op,I (l.getD i default).v.kind,I (l.getD i default).v.n,.str (l.getD i default).v.s,.str (l.getD i default).s,.aR false EX ((l.getD i default).l.map br)]]),?_,?_,by first|rfl|(simp[go_sem];done),da,at_⟩<;>(try dsimp only)
    ·omega
    omega
   have h3:=SO l l.length;rw[fZ]at h3;have h2:l.take i=l:=bG ae;have h4:=SO l i;rw[h2]at h4;repeat' first|simp (disch:=omega) only[go_sem,aJ,aK,aL,h2]|refine aB ?_|refine aA ?_ ?_<;>intro hw<;>try omega|fail
   refine aZ ?_ rfl;refine aW I ?_;simp only[mO];omega
open Go.AM
set_option maxRecDepth 4000
def fR{α β : Type}(p : α-> β->Bool): List α->List β->Bool
 | [],[]=>true
 | x::r,y::t=>p x y && fR p r t
 | _,_=>false
def nU{α β : Type}{p : α-> β->Bool}: ∀ {l:List α} {m:List β},l.length≠m.length->fR p l m=false
 | [],[],h=>absurd rfl h
 | [],_::_,_=>rfl
 | _::_,[],_=>rfl
 | x::r,y::t,h=>by simp only[fR];rw[nU (by simpa using h),h_]
def qi{α β : Type}[Inhabited α][Inhabited β]{p : α-> β->Bool}: ∀ {l:List α} {m:List β} {i:Nat},i<l.length->p (l.getD i default) (m.getD i default)=false->i<m.length->fR p l m=false
 | x::r,y::t,0,_,h,_=>by simp only[cH]at h;simp only[fR,h,g_]
 | x :: r, y :: t, i + 1, h1, h, h2 => by
   simp only[iu]at h;simp only[fR];rw[qi (i:=i) (by simpa using h1) h (by simpa using h2),h_]
def nW{α β : Type}[Inhabited α][Inhabited β]{p : α-> β->Bool}: ∀ {l:List α} {m:List β},l.length=m.length->(∀ k,k<l.length->p (l.getD k default) (m.getD k default)=true)->fR p l m=true
 | [],[],_,_=>rfl
 | x :: r, y :: t, h, hp => by
   have h0:=hp 0 aQ;simp only[cH]at h0;simp only[fR,h0,fF];exact nW (by simpa using h) (fun k hk=>by have:=hp (k+1) (by simpa using hk);simpa only[iu]using this)
@[go_sem] def aoy {α : Type} (τ : List α) (c d : α):(τ++[c]++[d])[τ.length+1]? = some d:=aQ
@[go_sem] def aoz {α : Type} (τ : List α) (c d : α):(τ++[c]++[d])[τ.length]? = some c:=aQ
@[go_sem] def aoJ {α : Type} (τ : List α) (c d e : α):(τ++[c]++[d]).set (τ.length+1) e = τ++[c]++[e]:=aQ
def Ck (fn : FuncId) (cap : List AV) (hcap : AV.cG cap = true) (p : Expr -> Expr -> Bool) (l m : List Expr)
    (h:∀ k,k<l.length->k<m.length->aS aH fn (br (l.getD k default)::br (m.getD k default)::cap) (.bool (p (l.getD k default) (m.getD k default)))) (hl:l.length<=2^62) (hm:m.length<=2^62) :
    aS aH 246 [ez l,ez m,.fn (.func fn) [] cap] (.bool (fR p l m)):=by
 refine a_ zh ?_ (by simp[AV.dy,AV.cG,hcap,r9]);intro Q aJ aK aL;repeat' first|refine aB ?_|refine aA ?_ ?_<;>intro hw<;>try omega|fail
 ·refine aZ ?_ rfl;rw[nU ae]
 have qj:l.length=m.length:=ae;with_reducible refine bE [6,4,17,15] (fun p:Nat × List aY=>[(17,I p.1)]) (fun p=>p.2) (fun q=>q.1<=l.length/\ ∀ k,k<q.1->p (l.getD k default) (m.getD k default)=true) (fun p=>l.length-p.1) (0,[]) ?_ ?_ ?_ ?_
 ·simp
 ·rfl
 ·exact at_
 rintro⟨i,τ⟩ r ⟨h1,h2⟩;dsimp only at h1 h2;by_cases hi:i<l.length
 ·have hy:=h i hi ae;rw[bM,bM]at hy;repeat' first|refine aB ?_|refine aA ?_ ?_<;>intro hw<;>try omega|fail
  ·refine aZ ?_ rfl;rw[qi hi hw ae]
  refine⟨(i+1,τ++[.cells [I (l.getD i default).op,I (l.getD i default).v.kind,I (l.getD i default).v.n,.str (l.getD i default).v.s,.str (l.getD i default).s,.aR false EX ((l.getD i default).l.map br)]]++[.cells [I (m.getD i default).op,I (m.getD i default).v.kind,I (m.getD i default).v.n,.str (m.getD i default).v.s,.str (m.getD i default).s,.aR false EX ((m.getD i default).l.map br)]]),?_,?_,by first|rfl|(simp[go_sem];done),da,at_⟩<;>(try dsimp only)
  ·exact⟨ae,cj h2 hw⟩
  omega
 repeat' first|refine aB ?_|refine aA ?_ ?_<;>intro hw<;>try omega|fail
 refine aZ ?_ rfl;rw[nW qj (fun k hk=>h2 k ae)]
mutual
def Aw: Expr->Expr->Bool
 | .mk o v s l,y=>decide (o=y.op) && decide (v=y.v) && decide (s=y.s) && Ri l y.l
def Ri: List Expr->List Expr->Bool
 | [],[]=>true
 | x::r,y::t=>Aw x y && Ri r t
 | _,_=>false
end
def SP: ∀(l m:List Expr),Ri l m=fR Aw l m
 | [],[]=>rfl
 | [],_::_=>rfl
 | _::_,[]=>rfl
 | x::r,y::t=>by simp only[Ri,fR,SP r t]
mutual
def SQ: Expr->Prop
 | .mk _ _ _ l=>l.length<=2^60/\brL l
def brL: List Expr->Prop
 | []=>True
 | x::r=>SQ x/\brL r
end
def Wy{l:List Expr}{x:Expr}(h:brL l)(hx:x ∈ l): SQ x:=by
 induction l with
 | nil=>cases hx
 | cons y r ih =>
   simp only[brL]at h;rcases List.mem_cons.1 hx with rfl|hx
   ·exact h.1
   exact ih h.2 hx
def ail{l:List Expr}(h:∀ x ∈ l,SQ x): brL l:=by
 induction l with
 | nil=>trivial
 | cons y r ih=>exact⟨h y aQ,ih (fun x hx=>h x (dz _ hx))⟩
def aaO(x:Expr): gV x<=2^60->SQ x:=by
 induction x using Expr.ind with
 | h op v s l ih =>
   intro h;simp only[gV]at h;have hl:=HI l;exact⟨ae,ail (fun y hy=>ih y hy (by have:=Cj hy;omega))⟩
def U7(x:Expr): ∀ y:Expr,SQ x->SQ y->aS aH 209 [br x,br y] (.bool (Aw x y)):=by
 induction x using Expr.ind with
 | h op v s l ih =>
   rintro⟨op',v',s',m⟩ hx hy;simp only[SQ]at hx hy;obtain⟨hl,Ax⟩:=hx;obtain⟨hm,Z_⟩:=hy;have hc:=Ck 209 [] rfl Aw l m (fun k h1 h2=>ih _ (bq h1) _ (Wy Ax (bq h1)) (Wy Z_ (bq h2))) ae ae;rw[<-SP]at hc;simp only[ez]at hc;obtain⟨vk,vn,vs⟩:=v;obtain⟨vk',vn',vs'⟩:=v';refine a_ NA ?_;intro Q aJ aK aL;repeat' first|refine aB ?_|refine aA ?_ ?_<;>intro hw<;>try omega|fail
   all_goals refine aZ ?_ rfl
   all_goals (refine aW AV.bool ?_;simp only[Aw,Expr.op,Expr.v,Expr.s,Expr.l])
   all_goals (rw[c7];simp_all)
def Cl (fn : FuncId) (cap : List AV) (hcap : AV.cG cap = true) (p : Expr -> Bool) (l : List Expr) (h : ∀ k, k < l.length -> aS aH fn (br (l.getD k default) :: cap) (.bool (p (l.getD k default)))) (hl : l.length <= 2^62) :
    aS aH 211 [ez l,.fn (.func fn) [] cap] (I (kW p l)):=by
 refine a_ zj ?_ (by simp[AV.dy,AV.cG,hcap,r9]);intro Q aJ aK aL;repeat' first|refine aB ?_|refine aA ?_ ?_<;>intro hw<;>try omega|fail
 with_reducible refine bE [4,2,8,11] (fun i:Nat=>[(8,I i)]) (fun _=>[]) (fun i=>i<=l.length/\ ∀ k,k<i->p (l.getD k default)=false) (fun i=>l.length-i) (0) ?_ ?_ ?_ ?_
 ·simp
 ·rfl
 ·exact at_
 rintro i r ⟨hi,hp⟩;by_cases hin:i<l.length
 ·have hx:=h i hin;rw[bM]at hx;repeat' first|refine aB ?_|refine aA ?_ ?_<;>intro hw<;>try omega|fail
  ·refine aZ ?_ rfl;refine aW I ?_;exact(qH hin hp hw).symm
  refine⟨i+1,?_,?_,by first|rfl|(simp[go_sem];done),da,at_⟩<;>(try dsimp only)
  ·exact⟨ae,cj hp hw⟩
  omega
 repeat' first|refine aB ?_|refine aA ?_ ?_<;>intro hw<;>try omega|fail
 refine aZ ?_ rfl;refine aW I ?_;exact(nA fun k hk=>hp k ae).symm
def wg{α : Type}[Inhabited α](p : α->Bool)(l:List α): decide (0<=kW p l)=l.any p:=by
 rcases vZ p l with⟨h1,h2⟩|⟨i,h1,h2,h3⟩
 ·rw[h1,show decide ((0:Int)<= -1)=false from cW];symm;rw[List.any_eq_false];exact fL.1 h2
 rw[h2,bQ ae];symm;rw[List.any_eq_true];exact⟨_,bq h1,fJ h3⟩
def zm (fn : FuncId) (cap : List AV) (hcap : AV.cG cap = true) (p : Expr -> Bool) (l : List Expr) (h : ∀ k, k < l.length -> aS aH fn (br (l.getD k default) :: cap) (.bool (p (l.getD k default)))) (hl : l.length <= 2^62) :
    aS aH 167 [ez l,.fn (.func fn) [] cap] (.bool (l.any p)):=by
 refine a_ w7 ?_ (by simp[AV.dy,AV.cG,hcap,r9]);intro Q aJ aK aL;have hc:=Cl fn cap hcap p l h hl;simp only[ez]at hc;repeat' first|refine aB ?_|refine aA ?_ ?_<;>intro hw<;>try omega|fail
 all_goals refine aZ ?_ rfl
 all_goals rw[<-wg]
def v0: aX:=⟨0,0,[]⟩
mutual
def ef: Expr->Bool
 | .mk op v s l => decide ((l.length : Int) = kg op) &&
    (if op=1 then decide (s=[]) && cg v && (decide (v.kind≠1) || decide (0<=v.n))
     else if op=2 then decide (v=v0) && iZ s
     else decide (v=v0) && decide (s=[]) && sZ l)
def sZ: List Expr->Bool
 | []=>true
 | x::r=>ef x && sZ r
end
def LZ(l:List Expr): sZ l = !(l.any fun x=> !(ef x)):=by
 induction l with
 | nil=>rfl
 | cons x r ih=>simp[sZ,ih]
mutual
def jj: Expr->Prop
 | .mk _ v s l=>s.length<=2^62/\v.s.length<=2^62/\ -9223372036854775808<=v.n/\v.n<=9223372036854775807/\IE l
def IE: List Expr->Prop
 | []=>True
 | x::r=>jj x/\IE r
end
def Cm{l:List Expr}{x:Expr}(h:IE l)(hx:x ∈ l): jj x:=by
 induction l with
 | nil=>cases hx
 | cons y r ih =>
   simp only[IE]at h;rcases List.mem_cons.1 hx with rfl|hx
   ·exact h.1
   exact ih h.2 hx
def NM(x:Expr)(h:aS aH 122 [br x] (.bool (ef x))): aS aH 168 [br x] (.bool (!(ef x))):=by
 refine a_ Ib ?_;intro Q aJ aK aL;rw[bM]at h |-;repeat' first|refine aB ?_|refine aA ?_ ?_<;>intro hw<;>try omega|fail
 all_goals refine aZ ?_ rfl
 all_goals simp_all
def Ge(x:Expr): jj x->gV x<=2^60->aS aH 122 [br x] (.bool (ef x)):=by
 induction x using Expr.ind with
 | h op v s l ih =>
   intro hx hz;simp only[gV]at hz;simp only[jj]at hx;obtain⟨o1,o2,o3,o4,o5⟩:=hx;have hl:=HI l;have hc:=zm 168 [] rfl (fun x=> !(ef x)) l (fun k h1=>NM _ (ih _ (bq h1) (Cm o5 (bq h1)) (by have:=Cj (bq h1);omega))) ae;simp only[ez]at hc;obtain⟨vk,vn,vs⟩:=v;refine a_ LS ?_;intro Q aJ aK aL;repeat' first|refine aB ?_|refine eU (SN _) ?_|refine eU (l7 _ _ _ o3 o4) ?_|refine eU (v7 _ o1) ?_|refine aA ?_ ?_<;>intro hw<;>try omega|fail
   all_goals refine aZ ?_ rfl
   all_goals (refine aW AV.bool ?_;simp only[ef,LZ])
   all_goals (rw[c7];simp_all[v0,ji])
def zn(x:Expr)(hx:jj x)(hz:gV x<=2^60): aS aH 188 [br x] (I (ji (ef x))):=by
 refine a_ LP ?_;intro Q aJ aK aL;have h:=Ge x hx hz;rw[bM]at h |-;repeat' first|refine aB ?_|refine aA ?_ ?_<;>intro hw<;>try omega|fail
 all_goals refine aZ ?_ rfl
 all_goals simp_all[ji]
def ik {v r : AV} {sO ds : List AV} {τ : ai} (hv : View (.dead :: τ) v r) (hd : cY (.dead :: τ) sO ds) :
    ∃ r0 VO Si,Out.ret (oneOf [v])=Out.ret r0/\aY.cells sO:: τ = aY.cells VO::Si/\View (.dead::Si) r0 r/\cY (.dead::Si) VO ds:=⟨_,_,_,rfl,rfl,hv,hd⟩
def x0: Expr:= .mk 0 v0 [] []
def Gf(T:List Tok)(p:Nat)(b:Bool): Tok:=if b then default else T.getD p default
def qo(T:List Tok)(p:Nat)(k:Int)(s:aU): Bool:=decide (p<T.length) && (decide ((T.getD p default).kind=k) && decide ((T.getD p default).s=s))
def jn(T:List Tok)(p:Nat)(b:Bool)(k:Int)(s:aU): Bool:= !b && qo T p k s
def tN(x:Gd): Int:=if x.level<3 then 1 else 4
def zo(T:List Tok)(p:Nat)(b:Bool)(lvl:Int): Option Gd:=lz.find? fun x=>x.level==lvl && jn T p b (tN x) x.sign
def Pd(T:List Tok)(p:Nat)(b:Bool)(lvl:Int): Nat:=if(zo T p b lvl).isSome then p+1 else p
def SR(o:Option Gd): Int:=match o with
 | some x=>x.op
 | none=>0
def cY.eqv{σ : ai}{a b:List AV}(h:a=b)(hp:AV.cG b=true): cY σ a b:=by subst h;exact cY.refl hp
def Ay(s:aU): Option aX:=if s=[110,117,108,108]then some v0 else if s=[102,97,108,115,101]then some ⟨3,0,[]⟩else if s=[116,114,117,101]then some ⟨3,1,[]⟩else none
structure RS where
 x:Expr
 p:Nat
 bad:Bool
deriving Inhabited
def eM(T:List Tok)(p:Nat)(b:Bool): List AV:=[.aR false ET (T.map tY),I p,.bool b]
attribute [go_sem] eM
def cy(T:List Tok)(p:Nat)(b:Bool): AV.cG (eM T p b)=true:=by simp[eM,AV.dy,AV.cG,SC]
def rC{α : Type}[Inhabited α]{l:List α}{i:Nat}(h:l.length<=i): l.getD i default=default:=by
 rw[aq,iD h];rfl
def Yt: (default:Tok)=⟨0,[],0,0⟩:=rfl
def agk(T:List Tok)(p:Nat)(b:Bool)(k:Int)(s:aU)(hk:k≠0): jn T p b k s=(decide ((Gf T p b).kind=k) && decide ((Gf T p b).s=s)):=by
 unfold jn Gf qo;cases b with
 | true=>simp[Yt];intro h;exact absurd h.symm hk
 | false =>
   by_cases hp:p<T.length
   ·simp[hp]
   rw[rC ae];simp[hp,Yt];intro h;exact absurd h.symm hk
def L0(T:List Tok)(p:Nat)(b:Bool): ei aH 295 0 [] (eM T p b) (eM T p b) (tY (Gf T p b)):=by
 refine ei.iM (Dt.go ?_) rfl (cy _ _ _);unfold dP;intro Q aJ aK aL;cases b with
 | true =>
   repeat' first|refine aB ?_|refine aA ?_ ?_<;>intro hw<;>try omega|fail
   exact ik (View.eqv rfl rfl) (cY.refl (cy T p true))
 | false =>
   by_cases hp:p<T.length
   ·repeat' first|refine aB ?_|refine aA ?_ ?_<;>intro hw<;>try omega|fail
    refine ik (View.eqv ?_ rfl) (cY.refl (cy T p false));simp only[Gf];rfl
   repeat' first|refine aB ?_|refine aA ?_ ?_<;>intro hw<;>try omega|fail
   refine ik (View.eqv ?_ rfl) (cY.refl (cy T p false));simp only[Gf];rw[rC ae];rfl
def vF(T:List Tok)(p:Nat)(b:Bool)(k:Int)(s:aU): Nat:=if jn T p b k s then p+1 else p
def Gg(T:List Tok)(p:Nat)(b:Bool)(k:Int)(s:aU)(hk:k≠0)(hp:p<=2^61): ei aH 275 0 [I k,.str s] (eM T p b) (eM T (vF T p b k s) b) (.bool (jn T p b k s)):=by
 have hn:=L0 T p b;unfold vF;rw[agk T p b k s hk];generalize Gf T p b=t at hn |-;obtain⟨tk,ts,tn,tp⟩:=t;simp only[eM,tY]at hn;refine ei.iM (E9.go ?_) rfl (cy _ _ _);unfold dP;intro Q aJ aK aL;repeat' first|refine aB ?_|refine d_ hn ?_|refine aA ?_ ?_<;>intro hw<;>try omega|fail
 all_goals first
  |(refine ik (View.eqv ?_ rfl) (cY.eqv ?_ (cy _ _ _))<;>simp_all[eM];done)
def Bw(T:List Tok)(p:Nat)(b:Bool)(k:Int)(s:aU)(hk:k≠0)(hp:p<=2^61): ei aH 296 0 [I k,.str s] (eM T p b) (eM T (vF T p b k s) (b || !(jn T p b k s))) (.bU []):=by
 have hn:=Gg T p b k s hk hp;generalize jn T p b k s=o at hn |-;simp only[eM]at hn;refine ei.iM (B5.go ?_) rfl (cy _ _ _);unfold dP;intro Q aJ aK aL;cases o
 ·repeat' first|refine aB ?_|refine d_ hn ?_|refine aA ?_ ?_<;>intro hw<;>try omega|fail
  refine LD rfl (cY.eqv ?_ (cy _ _ _));simp[eM]
 repeat' first|refine aB ?_|refine d_ hn ?_|refine aA ?_ ?_<;>intro hw<;>try omega|fail
 refine LD rfl (cY.eqv ?_ (cy _ _ _));simp[eM]
def SS(s:aU): aS aH 297 [.str s] (.bU [c8 ((Ay s).getD v0),.bool (Ay s).isSome]):=by
 refine a_ NC ?_;intro Q aJ aK aL;repeat' first|refine aB ?_|refine aA ?_ ?_<;>intro hw<;>try omega|fail
 all_goals refine cn ?_ rfl
 all_goals simp_all[Ay,c8,v0]
def EF(T:List Tok)(p:Nat)(b:Bool)(lvl:Int)(hp:p<=2^61): ei aH 278 0 [I lvl] (eM T p b) (eM T (Pd T p b lvl) b) (I (SR (zo T p b lvl))):=by
 refine ei.iM (zU.go ?_) rfl (cy _ _ _);unfold dP;intro Q aJ aK aL;have hl:lz.length=12:=rfl;have ho:=fun k s (hk:k≠0)=>Gg T p b k s hk hp;simp only[eM]at ho;repeat' first|refine aB ?_|refine eU Av ?_|refine aA ?_ ?_<;>intro hw<;>try omega|fail
 with_reducible refine bE [4,1,6,2,10,21] (fun q:Nat × List aY=>[(10,I q.1)]) (fun q=> .cells [.aR false ET (T.map tY),I p,.bool b]::q.2) (fun q=>q.1<=12/\ ∀ k,k<q.1->((lz.getD k default).level==lvl && jn T p b (tN (lz.getD k default)) (lz.getD k default).sign)=false) (fun q=>12-q.1) (0,[]) ?_ ?_ ?_ ?_
 ·simp
 ·rfl
 ·exact at_
 rintro⟨i,τ⟩ r ⟨h1,h2⟩;dsimp only at h1 h2;by_cases hi:i<12
 ·obtain⟨x,hx⟩:=cq (lz.getD i default)
  have hyes:(x.level==lvl && jn T p b (tN x) x.sign)=true->zo T p b lvl=some x:=fun h=>by
   unfold zo;rw[yO (p:=fun y:Gd=>y.level==lvl && jn T p b (tN y) y.sign) hi h2 (by rw[hx];exact h),hx]
  have adA:(x.level==lvl && jn T p b (tN x) x.sign)=false-> ∀ k,k<i+1->((lz.getD k default).level==lvl && jn T p b (tN (lz.getD k default)) (lz.getD k default).sign)=false:=fun h=>cj h2 (by rw[hx];exact h);have kI:(x.level<3/\tN x=1)\/(¬ x.level<3/\tN x=4):=by unfold tN;split<;>simp_all
  clear h2;rcases kI with⟨hlv,hkb⟩|⟨hlv,hkb⟩;all_goals rw[hkb]at hyes adA
  all_goals (
   repeat' first|simp (disch:=omega) only[go_sem,aJ,aK,aL,hx]|refine aB ?_|with_reducible refine Nj (ho 1 _ cW) rfl ?_|with_reducible refine Nn (ho 1 _ cW) rfl ?_|with_reducible refine Np (ho 1 _ cW) rfl ?_|with_reducible refine Nj (ho 4 _ cW) rfl ?_|with_reducible refine Nn (ho 4 _ cW) rfl ?_|with_reducible refine Np (ho 4 _ cW) rfl ?_|refine aA ?_ ?_<;>intro hw<;>try omega|fail
   ·rename_i _ hlq;have hy:=hyes (by rw[hlq,hw];simp);refine ik (View.eqv ?_ rfl) (cY.eqv ?_ (cy _ _ _))
    ·rw[hy];rfl
    simp[eM,Pd,hy,vF,hw]
   ·rename_i hlq;refine⟨(i+1,τ++[.cells [I x.op,.str x.sign,I x.level]]),?_,?_,?_,da,at_⟩<;>(try dsimp only)
    ·exact⟨ae,adA (by rw[hw];simp)⟩
    ·omega
    simp[vF,hw]
   ·refine⟨(i+1,τ++[.cells [I x.op,.str x.sign,I x.level]]),?_,?_,?_,da,at_⟩<;>(try dsimp only)
    ·exact⟨ae,adA (by rw[beq_eq_false_iff_ne.2 hw];rfl)⟩
    ·omega)
 have hno:zo T p b lvl=none:=by
  unfold zo;rw[wc (p:=fun y:Gd=>y.level==lvl && jn T p b (tN y) y.sign) (fun k hk=>h2 k ae)]
 repeat' first|refine aB ?_|refine aA ?_ ?_<;>intro hw<;>try omega|fail
 refine ik (View.eqv ?_ rfl) (cY.eqv ?_ (cy _ _ _))<;>simp_all[eM,SR,Pd]
def l8(T:List Tok)(r:RS)(k:Int)(s:aU): RS:=⟨r.x,vF T r.p r.bad k s,r.bad || !(jn T r.p r.bad k s)⟩
def s0(rd:Nat->Nat->RS)(lvl p:Nat)(b:Bool): RS:=if b then⟨x0,p,true⟩else rd lvl p
def Bx(v:aX)(p:Nat): RS:=⟨.mk 1 v [] [],p,false⟩
def pP(rd:Nat->Nat->RS)(T:List Tok)(p:Nat): RS :=
 if qo T p 4 [40]then l8 T (rd 0 (p+1)) 4 [41]
 else if(T.getD p default).kind=2 then Bx ⟨1,(T.getD p default).n,[]⟩ (p+1)
 else if(T.getD p default).kind=3 then Bx ⟨2,0,(T.getD p default).s⟩ (p+1)
 else if(T.getD p default).kind=1 then
  (match Ay (T.getD p default).s with
  | some v=>Bx v (p+1)
  | none=>if iZ (T.getD p default).s then⟨.mk 2 v0 (T.getD p default).s [],p+1,false⟩else ⟨x0,p,true⟩)
 else⟨x0,p,true⟩
def thenS: aU:=[116,104,101,110]
def HJ: aU:=[101,108,115,101]
def o9(rd:Nat->Nat->RS)(T:List Tok)(p:Nat): RS:=l8 T (rd 0 p) 1 thenS
def xe(rd:Nat->Nat->RS)(T:List Tok)(p:Nat): RS:=l8 T (s0 rd 0 (o9 rd T p).p (o9 rd T p).bad) 1 HJ
def Gh(rd:Nat->Nat->RS)(T:List Tok)(p:Nat): RS:=s0 rd 0 (xe rd T p).p (xe rd T p).bad
def Pe(rd:Nat->Nat->RS)(T:List Tok)(p:Nat): RS:=⟨.mk 16 v0 [] [(o9 rd T p).x,(xe rd T p).x,(Gh rd T p).x],(Gh rd T p).p,(Gh rd T p).bad⟩
def dM(T:List Tok): Nat->Option Expr->Nat->Nat->RS
 | 0,_,_,p=>⟨x0,p,true⟩
 | f + 1, none, lvl, p =>
   if lvl=0 then(if qo T p 1 [105,102]then Pe (fun l q=>dM T f none l q) T (p+1)else dM T f none 1 p)
   else if lvl=6/\qo T p 4 [45]=true then⟨.mk 3 v0 [] [(dM T f none 6 (p+1)).x],(dM T f none 6 (p+1)).p,(dM T f none 6 (p+1)).bad⟩
   else if 6<=lvl then pP (fun l q=>dM T f none l q) T p
   else if(dM T f none (lvl+1) p).bad then dM T f none (lvl+1) p
   else dM T f (some (dM T f none (lvl+1) p).x) lvl (dM T f none (lvl+1) p).p
 | f + 1, some x, lvl, p =>
   match zo T p false lvl with
   | none=>⟨x,p,false⟩
   | some o =>
     if lvl=3\/(dM T f none (lvl+1) (p+1)).bad=true then⟨.mk o.op v0 [] [x,(dM T f none (lvl+1) (p+1)).x],(dM T f none (lvl+1) (p+1)).p,(dM T f none (lvl+1) (p+1)).bad⟩
     else dM T f (some (.mk o.op v0 [] [x,(dM T f none (lvl+1) (p+1)).x])) lvl (dM T f none (lvl+1) (p+1)).p
def qp{T:List Tok}{p:Nat}{k:Int}{s:aU}(h:qo T p k s=true): p<T.length:=by
 simp only[qo,aD,aM]at h;exact h.1
def o_{T:List Tok}{p:Nat}{b:Bool}{k:Int}{s:aU}(h:jn T p b k s=true): p<T.length/\b=false:=by
 simp only[jn,aD,ey]at h;exact⟨qp h.2,h.1⟩
def Gi{T:List Tok}{p:Nat}{b:Bool}{lvl:Int}{o:Gd}(h:zo T p b lvl=some o): p<T.length/\b=false/\o ∈ lz/\o.level=lvl:=by
 have h1:=fJ h;simp only[aD,beq_iff_eq]at h1;exact⟨(o_ h1.2).1,(o_ h1.2).2,iy h,h1.1⟩
def kN(n p:Nat)(r:RS): Prop:=p<=r.p/\r.p<=n/\(r.bad=false->p<r.p)
def xh{T:List Tok}{p:Nat}{r:RS}(k:Int)(s:aU)(h:kN T.length p r): kN T.length p (l8 T r k s):=by
 obtain⟨h1,h2,h3⟩:=h;unfold l8 kN vF;dsimp only;by_cases ho:jn T r.p r.bad k s=true
 ·have:=o_ ho;have h4:=h3 this.2;rw[au ho];refine⟨ae,ae,fun _=>by omega⟩
 rw[aj ho];refine⟨h1,h2,fun h=>?_⟩;simp only[kF]at ho;rw[ho]at h;simp at h
def J5{T:List Tok}{rd:Nat->Nat->RS}(hrd:∀ l q,q<=T.length->kN T.length q (rd l q)){l q:Nat}{b:Bool}(hq:q<=T.length): kN T.length q (s0 rd l q b):=by
 unfold s0;split
 ·exact⟨Nat.le_refl _,hq,fun h=>by cases h⟩
 exact hrd l q hq
def kN.from{n p q:Nat}{r:RS}(h:kN n q r)(hpq:p<=q): kN n p r:=⟨cR hpq h.1,h.2.1,fun hb=>Nat.lt_of_le_of_lt hpq (h.2.2 hb)⟩
def DH{T:List Tok}{rd:Nat->Nat->RS}(hrd:∀ l q,q<=T.length->kN T.length q (rd l q)){p:Nat}(hp:p<=T.length): kN T.length p (o9 rd T p):=xh _ _ (hrd 0 p hp)
def DI{T:List Tok}{rd:Nat->Nat->RS}(hrd:∀ l q,q<=T.length->kN T.length q (rd l q)){p:Nat}(hp:p<=T.length): kN T.length (o9 rd T p).p (xe rd T p):=xh _ _ (J5 hrd (DH hrd hp).2.1)
def adB{T:List Tok}{rd:Nat->Nat->RS}(hrd:∀ l q,q<=T.length->kN T.length q (rd l q)){p:Nat}(hp:p<=T.length): kN T.length (xe rd T p).p (Gh rd T p):=J5 hrd (DI hrd hp).2.1
def aaP{T:List Tok}{rd:Nat->Nat->RS}(hrd:∀ l q,q<=T.length->kN T.length q (rd l q)){p:Nat}(hp:p<=T.length): kN T.length p (pP rd T p):=by
 have stay:∀ x,kN T.length p ⟨x,p,true⟩:=fun x=>⟨Nat.le_refl _,hp,fun h=>by cases h⟩;have k0:¬ p<T.length->(T.getD p default).kind=0:=fun h=>by rw[rC ae];rfl
 have step:(T.getD p default).kind≠0-> ∀ x,kN T.length p ⟨x,p+1,false⟩:=fun hk x=>by
  have:p<T.length:=by
   by_cases h:p<T.length
   ·exact h
   exact absurd (k0 h) hk
  exact⟨Nat.le_succ _,this,fun _=>Nat.lt_succ_self _⟩
 unfold pP;split
 ·rename_i h;exact xh _ _ ((hrd 0 (p+1) (qp h)).from (Nat.le_succ _))
 split
 ·exact step ae _
 split
 ·exact step ae _
 split
 ·split
  ·exact step ae _
  split
  ·exact step ae _
  exact stay _
 exact stay _
def uu(T:List Tok)(f:Nat): ∀(m:Option Expr) (lvl p:Nat),p<=T.length->(m=none->kN T.length p (dM T f m lvl p))/\p<=(dM T f m lvl p).p/\(dM T f m lvl p).p<=T.length:=by
 induction f with
 | zero =>
   intro m lvl p hp;simp only[dM];exact⟨fun _=>⟨Nat.le_refl _,hp,fun h=>by cases h⟩,Nat.le_refl _,hp⟩
 | succ f ih =>
   intro m lvl p hp;have hrd:∀ l q,q<=T.length->kN T.length q (dM T f none l q):=fun l q hq=>(ih none l q hq).1 rfl;cases m with
   | none =>
     have:kN T.length p (dM T (f+1) none lvl p):=by
      simp only[dM];split
      ·split
       ·rename_i h;have h1:=qp h;have a:=DH hrd (p:=p+1) h1;have b:=DI hrd (p:=p+1) h1;have c:=adB hrd (p:=p+1) h1;exact(show kN T.length (xe (fun l q=>dM T f none l q) T (p+1)).p (Pe (fun l q=>dM T f none l q) T (p+1)) from⟨c.1,c.2.1,c.2.2⟩).from (cR (Nat.le_succ _) (cR a.1 b.1))
       exact hrd 1 p hp
      split
      ·rename_i h;have h1:=qp h.2;have c:=hrd 6 (p+1) h1;exact(show kN T.length (p+1) ⟨_,_,_⟩ from⟨c.1,c.2.1,c.2.2⟩).from (Nat.le_succ _)
      split
      ·exact aaP hrd hp
      split
      ·exact hrd _ _ hp
      rename_i hb;have a:=hrd (lvl+1) p hp;have b:=ih (some (dM T f none (lvl+1) p).x) lvl _ a.2.1;have:=a.2.2 (by simpa using hb);exact⟨ae,b.2.2,fun _=>by omega⟩
     exact⟨fun _=>this,this.1,this.2.1⟩
   | some x =>
     refine⟨fun h=>(by cases h),?_⟩;simp only[dM];split
     ·exact⟨bg _,hp⟩
     rename_i o ho;have h1:=(Gi ho).1;have a:=hrd (lvl+1) (p+1) h1;split
     ·exact⟨by have:=a.1;dsimp only;omega,a.2.1⟩
     have b:=ih (some (.mk o.op v0 [] [x,(dM T f none (lvl+1) (p+1)).x])) lvl _ a.2.1;exact⟨by have:=a.1;omega,b.2.2⟩
def si{σ : ai}{op vk vn:Int}{vs s:aU}{L:AV}{l:List Expr}(hL:View σ L (.aR false EX (l.map br))): View σ (.agg [I op,I vk,I vn,.str vs,.str s,L]) (br (.mk op ⟨vk,vn,vs⟩ s l)):=by
 rw[bM];refine View.nS (.cons (.refl _ rfl) (.cons (.refl _ rfl) (.cons (.refl _ rfl) (.cons (.refl _ rfl) (.cons (.refl _ rfl) (.cons ?_ (.nil _)))))));exact hL
def Az(T:List Tok)(n:FuncId)(rd:Nat->Nat->RS)(l q:Nat): Prop:=ei aH n 0 [I l] (eM T q false) (eM T (rd l q).p (rd l q).bad) (br (rd l q).x)
def rD(T:List Tok)(p:Nat)(k:Int)(s:aU)(o:Bool)(hk:k≠0)(hp:p<=2^61)(h:qo T p k s=o): ei aH 275 0 [I k,.str s] (eM T p false) (eM T (if o then p+1 else p) false) (.bool o):=by
 have:=Gg T p false k s hk hp;unfold vF at this;rw[show jn T p false k s=o from h]at this;cases o
 ·simpa using this
 simpa using this
def U8 (T : List Tok) (p : Nat) (rd : Nat -> Nat -> RS) (hp : p <= T.length) (hT : T.length <= 2^60) (hs : ∀ q, (T.getD q default).s.length <= 2^62)
    (hrd:qo T p 4 [40]=true->Az T 256 rd 0 (p+1)/\(rd 0 (p+1)).p<=T.length) :
    ei aH 277 0 [] (eM T p false) (eM T (pP rd T p).p (pP rd T p).bad) (br (pP rd T p).x):=by
 have um:=fun o (ho:qo T p 4 [40]=o)=>rD T p 4 [40] o cW ae ho;have L1:=L0 T p false;have hsp:=hs p;simp only[Gf,aP,if_false]at L1;by_cases NN:qo T p 4 [40]=true
 ·have ha:pP rd T p=l8 T (rd 0 (p+1)) 4 [41]:=by unfold pP;rw[if_pos NN]
  obtain⟨hr,hb⟩:=hrd NN;unfold Az at hr;rw[ha];have um:=um true NN;generalize rd 0 (p+1)=r at *;have hm:=Bw T r.p r.bad 4 [41] cW ae;rw[bM]at hr;simp only[eM,if_true]at um hr hm;generalize hE:br _=E;refine ei.iM (jh.go ?_) rfl (cy _ _ _);unfold dP;intro Q aJ aK aL;repeat' first|refine aB ?_|refine d_ um ?_|refine d_ hr ?_|refine d_ hm ?_|refine aA ?_ ?_<;>intro hw<;>try omega|fail
  exact ik (View.eqv (by rw[<-hE];exact(bM _).symm) (by rw[<-hE];exact iI _)) (cY.refl (cy _ _ _))
 have afp:qo T p 4 [40]=false:=by simpa using NN
 have um:=um false afp;simp only[eM,aP,if_false]at um L1;have ha:pP rd T p=(if(T.getD p default).kind=2 then Bx ⟨1,(T.getD p default).n,[]⟩ (p+1)
 else if(T.getD p default).kind=3 then Bx ⟨2,0,(T.getD p default).s⟩ (p+1)
 else if(T.getD p default).kind=1 then
  (match Ay (T.getD p default).s with
  | some v=>Bx v (p+1)
  | none=>if iZ (T.getD p default).s then⟨.mk 2 v0 (T.getD p default).s [],p+1,false⟩else ⟨x0,p,true⟩)
 else⟨x0,p,true⟩:RS):=by unfold pP;rw[if_neg NN]<;>rfl
 rw[ha];clear ha hrd hs NN afp;generalize T.getD p default=t at *;obtain⟨tk,ts,tn,tp⟩:=t;simp only[tY]at L1 hsp |-;have hname:=v7 ts hsp;have hword:=SS ts;by_cases h2:tk=2
 ·rw[au h2];generalize hE:br _=E;refine ei.iM (jh.go ?_) rfl (cy _ _ _);unfold dP;intro Q aJ aK aL;repeat' first|refine aB ?_|refine d_ um ?_|refine d_ L1 ?_|refine aA ?_ ?_<;>intro hw<;>try omega|fail
  exact ik (by rw[<-hE];exact si (.aV _)) (cY.eqv rfl (cy T (p+1) false))
 rw[aj h2];by_cases h3:tk=3
 ·rw[au h3];generalize hE:br _=E;refine ei.iM (jh.go ?_) rfl (cy _ _ _);unfold dP;intro Q aJ aK aL;repeat' first|refine aB ?_|refine d_ um ?_|refine d_ L1 ?_|refine aA ?_ ?_<;>intro hw<;>try omega|fail
  exact ik (by rw[<-hE];exact si (.aV _)) (cY.eqv rfl (cy T (p+1) false))
 rw[aj h3];by_cases h1:tk=1
 case neg =>
  rw[aj h1];generalize hE:br _=E;refine ei.iM (jh.go ?_) rfl (cy _ _ _);unfold dP;intro Q aJ aK aL;repeat' first|refine aB ?_|refine d_ um ?_|refine d_ L1 ?_|refine aA ?_ ?_<;>intro hw<;>try omega|fail
  exact ik (by rw[<-hE];exact si (.aV _)) (cY.eqv rfl (cy T p true))
 rw[au h1];cases hw:Ay ts with
 | some v =>
   rw[hw]at hword;simp only[bT,Option.isSome_some,c8]at hword;dsimp only;generalize hE:br _=E;refine ei.iM (jh.go ?_) rfl (cy _ _ _);unfold dP;intro Q aJ aK aL;repeat' first|refine aB ?_|refine d_ um ?_|refine d_ L1 ?_|refine aA ?_ ?_<;>intro hw<;>try omega|fail
   exact ik (by rw[<-hE];exact si (.aV _)) (cY.eqv rfl (cy T (p+1) false))
 | none =>
   rw[hw]at hword;simp only[Option.getD_none,Option.isSome_none,c8,v0]at hword;dsimp only;cases hn:iZ ts with
   | true =>
     rw[hn]at hname;simp only[if_true];generalize hE:br _=E;refine ei.iM (jh.go ?_) rfl (cy _ _ _);unfold dP;intro Q aJ aK aL;repeat' first|refine aB ?_|refine d_ um ?_|refine d_ L1 ?_|refine aA ?_ ?_<;>intro hw<;>try omega|fail
     exact ik (by rw[<-hE];exact si (.aV _)) (cY.eqv rfl (cy T (p+1) false))
   | false =>
     rw[hn]at hname;simp only[aP,if_false];generalize hE:br _=E;refine ei.iM (jh.go ?_) rfl (cy _ _ _);unfold dP;intro Q aJ aK aL;repeat' first|refine aB ?_|refine d_ um ?_|refine d_ L1 ?_|refine aA ?_ ?_<;>intro hw<;>try omega|fail
     exact ik (by rw[<-hE];exact si (.aV _)) (cY.eqv rfl (cy T p true))
def SU {T : List Tok} {n : FuncId} {rd : Nat -> Nat -> RS} {l q : Nat} {b : Bool} (h : b = false -> Az T n rd l q) (Yu : ei aH n 0 [I l] (eM T q true) (eM T q true) (br x0)) :
    ei aH n 0 [I l] (eM T q b) (eM T (s0 rd l q b).p (s0 rd l q b).bad) (br (s0 rd l q b).x):=by
 cases b with
 | true=>exact Yu
 | false=>exact h rfl
def QV (T : List Tok) (p : Nat) (rd : Nat -> Nat -> RS) (hp : p <= T.length) (hT : T.length <= 2^60) (xj : ∀ l q, q <= T.length -> kN T.length q (rd l q))
    (Yu:∀ q,ei aH 256 0 [I 0] (eM T q true) (eM T q true) (br x0)) (hrd:∀ q,p<=q->q<=T.length->Az T 256 rd 0 q) :
    ei aH 276 0 [] (eM T p false) (eM T (Pe rd T p).p (Pe rd T p).bad) (br (Pe rd T p).x):=by
 have ga:=DH xj hp;have gb:=DI xj hp;have g0:=xj 0 p hp;have g1:=J5 xj (l:=0) (b:=(o9 rd T p).bad) ga.2.1;have c1:=hrd p (bg _) hp;have m1:=Bw T (rd 0 p).p (rd 0 p).bad 1 thenS cW (by have:=g0.2.1;omega);have c2:=SU (l:=0) (q:=(o9 rd T p).p) (b:=(o9 rd T p).bad) (fun _=>hrd _ ga.1 ga.2.1) (Yu _);have m2:=Bw T (s0 rd 0 (o9 rd T p).p (o9 rd T p).bad).p (s0 rd 0 (o9 rd T p).p (o9 rd T p).bad).bad 1 HJ cW (by have:=g1.2.1;omega);have c3:=SU (l:=0) (q:=(xe rd T p).p) (b:=(xe rd T p).bad) (fun _=>hrd _ (cR ga.1 gb.1) gb.2.1) (Yu _)
 change ei _ _ _ _ _ (eM T (o9 rd T p).p (o9 rd T p).bad) _ at m1
 change ei _ _ _ _ _ (eM T (xe rd T p).p (xe rd T p).bad) _ at m2
 change ei _ _ _ _ _ (eM T (Gh rd T p).p (Gh rd T p).bad) (br (Gh rd T p).x)at c3
 unfold Az at c1;simp only[Pe];have xa:(o9 rd T p).x=(rd 0 p).x:=rfl;have xb:(xe rd T p).x=(s0 rd 0 (o9 rd T p).p (o9 rd T p).bad).x:=rfl;rw[xa,xb];generalize s0 rd 0 (o9 rd T p).p (o9 rd T p).bad=rb at *;generalize o9 rd T p=ra at *;generalize xe rd T p=rb2 at *;generalize Gh rd T p=rc at *;generalize rd 0 p=r1 at *;rw[bM]at c1 c2 c3;simp only[eM,thenS,HJ]at c1 m1 c2 m2 c3;generalize hE:br _=E;refine ei.iM (zV.go ?_) rfl (cy _ _ _);unfold dP;intro Q aJ aK aL;repeat' first|refine aB ?_|refine d_ c1 ?_|refine d_ m1 ?_|refine d_ c2 ?_|refine d_ m2 ?_|refine d_ c3 ?_|refine aA ?_ ?_<;>intro hw<;>try omega|fail
 refine ik ?_ (cY.refl (cy _ _ _));rw[<-hE];refine si ?_;rw[bB,bB,bB,de,bM,bM,bM];refine View.weak _ _ _ ?_;simp
@[go_sem ↓] def akk (l:Nat) (J:Env->ai->Prop) (Q:AQ) (e:Env) (σ : ai):uJ l J Q (.goto l) e σ = J e σ:=by simp[uJ]
def Wz{e':Env}: ∀(l:List (Nat × AV)),At l e'->puts l e'=e'
 | [],_=>rfl
 | (d, v) :: l, h => by
   simp only[puts];rw[Wz l (fun p hp=>h p (dz _ hp))];exact oK (h (d,v) aQ)
def agl {P : Program} {l : Nat} {c r : dL} {Q : AQ} {e : Env} {σ : ai} {α : Type} (cs : α -> List (Nat × AV)) (S : α -> ai) (A : α -> Prop) (μ : α -> Nat)
    (hb:jD P c (uJ l (fun e' σ'=> ∃ x,A x/\σ'=S x/\At (cs x) e') Q) e σ)
    (hr:∀ x r0,A x->jD P r (uJ l (fun e' σ'=> ∃ x',A x'/\ μ x' < μ x/\σ'=S x'/\At (cs x') e') Q) (puts (cs x) r0) (S x)):R_ P (.mk:Tg (l,c,r,Q,e,σ)):=by
 refine⟨fun n e' σ'=> ∃ x,A x/\At (cs x) e'/\σ'=S x/\ μ x=n,Dp (fun ex e2 σ2 hq=>?_) _ _ hb,?_⟩
 ·cases ex<;>try exact hq
  obtain⟨h1,x,a,hs,ht⟩:=hq;exact⟨h1,_,x,a,ht,hs,rfl⟩
 rintro n e' σ' ⟨x1,a1,t1,rfl,rfl⟩;have h:=hr x1 e' a1;rw[Wz _ t1]at h;refine Dp (fun ex e2 σ2 hq=>?_) _ _ h;cases ex<;>try exact hq
 obtain⟨h1,x',a',hm,hs,ht⟩:=hq;exact⟨h1,_,hm,x',a',ht,hs,rfl⟩
def uU(op:Int)(zs:List AV): List AV:=[I op,I 0,I 0,.str [],.str [],.aR true EX zs]
def HK{σ : ai}{op:Int}{zs:List AV}{l:List Expr}(h:cY [] zs (l.map br)): View σ (.agg (uU op zs)) (br (.mk op v0 [] l)) :=
 View.mono (σ:=[]) (fun _ _ h=>by simp at h) (si (View.Ni h))
def L2{a b:AV}{x y:Expr}(h:View [] a (br x))(h2:View [] b (br y)): cY [] [a,b] ([x,y].map br):= .cons h (.cons h2 (.nil _))
def Yv{op:Int}{zs:List AV}(h:AV.cG zs=true): AV.cG (uU op zs)=true:=by simp[uU,AV.dy,AV.cG,h]
structure Lp where
 op:Int
 l:List Expr
 zs:List AV
 p:Nat
 f:Nat
def L3(T:List Tok)(lvl:Int)(p:Nat): ei aH 256 0 [I lvl] (eM T p true) (eM T p true) (br x0):=by
 generalize hE:br x0=E;refine ei.iM (gP.go ?_) rfl (cy _ _ _);unfold dP;intro Q aJ aK aL;repeat' first|refine aB ?_|refine aA ?_ ?_<;>intro hw<;>try omega|fail
 exact ik (by rw[<-hE];exact si (.aV _)) (cY.refl (cy T p true))
def NO (T : List Tok) (hT : T.length <= 2^60) (rd : Nat -> Nat -> RS) (f lvl p : Nat) (h1 : 1 <= lvl) (h5 : lvl <= 5) (hp : p <= T.length) (hf : 8 * (T.length - p) + (8 - lvl) <= f) (hrd : rd = fun l q => dM T f none l q)
    (ih:∀ j,j<=f-> ∀ l q,l<=7->q<=T.length->8*(T.length-q)+(8-l)<j->Az T 256 (fun l q=>dM T j none l q) l q) :
    ei aH 256 0 [I lvl] (eM T p false) (eM T (dM T (f+1) none lvl p).p (dM T (f+1) none lvl p).bad) (br (dM T (f+1) none lvl p).x):=by
 have ga:=(uu T f none (lvl+1) p hp).1 rfl;have ca:=ih f (bg _) (lvl+1) p ae hp ae;simp only[Az]at ca;obtain⟨ga1,ga2,ga3⟩:=ga
 have hR:dM T (f+1) none lvl p=if(dM T f none (lvl+1) p).bad then dM T f none (lvl+1) p else dM T f (some (dM T f none (lvl+1) p).x) lvl (dM T f none (lvl+1) p).p:=by
  rw[dM];rw[aj ae,aj ae,aj ae]
 generalize dM T (f+1) none lvl p=R at *;generalize dM T f none (lvl+1) p=a at *;obtain⟨ax,ap,ab⟩:=a;dsimp only at *;have cb:=EF T ap ab lvl ae;rw[bM]at ca;cases ab with
 | true =>
   simp only[if_true]at hR;subst hR;dsimp only
   have hn:zo T ap true lvl=none:=by
    cases ho:zo T ap true lvl with
    | none=>rfl
    | some o=>have:=(Gi ho).2.1;cases this
   simp only[Pd,hn,SR,Option.isSome_none,aP,if_false]at cb;generalize hE:br ax=E;simp only[eM,bI,bA]at ca cb;refine ei.iM (gP.go ?_) rfl (cy _ _ _);unfold dP;intro Q aJ aK aL;repeat' first|simp (disch:=omega) only[go_sem,aJ,aK,aL,bI,bA]|refine aB ?_|refine d_ ca ?_|refine d_ cb ?_|refine aA ?_ ?_<;>intro hw<;>try omega|fail
   exact ik (by rw[<-hE];exact View.eqv (bM _).symm (iI _)) (cY.refl (cy _ _ _))
 | false =>
   simp only[aP,if_false]at hR;have gp:=ga3 rfl;obtain⟨f,rfl⟩:∃ f',f=f'+1:=⟨f-1,ae⟩;rw[dM]at hR;have e0:∀ σ : ai,View σ (.agg [I ax.op,I ax.v.kind,I ax.v.n,.str ax.v.s,.str ax.s,.aR false EX (ax.l.map br)]) (br ax):=fun σ=>View.eqv (bM _).symm (iI _);cases ho:zo T ap false lvl with
   | none =>
     rw[ho]at hR;dsimp only at hR;subst hR;dsimp only;simp only[Pd,ho,SR,Option.isSome_none,aP,if_false]at cb;generalize hE:br ax=E at *;simp only[eM,bI,bA]at ca cb;refine ei.iM (gP.go ?_) rfl (cy _ _ _);unfold dP;intro Q aJ aK aL;repeat' first|simp (disch:=omega) only[go_sem,aJ,aK,aL,bI,bA]|refine aB ?_|refine d_ ca ?_|refine d_ cb ?_|refine aA ?_ ?_<;>intro hw<;>try omega|fail
     exact ik (e0 _) (cY.refl (cy _ _ _))
   | some o =>
     rw[ho]at hR;dsimp only at hR;obtain⟨WA,_,Pf,ho3⟩:=Gi ho
     have hop:o.op≠0:=by
      intro h;simp only[lz,gj,fO,or_false]at Pf;rcases Pf with rfl|rfl|rfl|rfl|rfl|rfl|rfl|rfl|rfl|rfl|rfl|rfl<;>simp at h
     have cc:=ih f ae (lvl+1) (ap+1) ae ae ae;have gc:=(uu T f none (lvl+1) (ap+1) ae).1 rfl;obtain⟨gc1,gc2,gc3⟩:=gc;simp only[Az]at cc;simp only[Pd,ho,SR,Option.isSome_some,if_true]at cb;generalize dM T f none (lvl+1) (ap+1)=c at *;obtain⟨cx,cp,Yw⟩:=c;dsimp only at *;by_cases hend:lvl=3\/Yw=true
     ·rw[au hend]at hR;subst hR;dsimp only;have e1:∀ σ : ai,View σ (.agg (uU o.op [.agg [I ax.op,I ax.v.kind,I ax.v.n,.str ax.v.s,.str ax.s,.aR false EX (ax.l.map br)],br cx])) (br (.mk o.op v0 [] [ax,cx])):=fun σ=>HK (L2 (e0 _) (.refl _ (iI _)));rw[bM cx]at e1 cc;generalize hE:br (.mk o.op v0 [] [ax,cx])=E at *;simp only[eM,bI,bA]at ca cb cc;have h3:¬ (¬ lvl=3/\Yw=false):=by rcases hend with h|h<;>simp[h]
      refine ei.iM (gP.go ?_) rfl (cy _ _ _);unfold dP;intro Q aJ aK aL;rcases hend with hend|hend
      ·subst hend;repeat' first|simp (disch:=omega) only[go_sem,aJ,aK,aL,bI,bA]|refine aB ?_|refine d_ ca ?_|refine d_ cb ?_|refine d_ cc ?_|refine aA ?_ ?_<;>intro hw<;>try omega|fail
       all_goals first|exact ik (e1 _) (cY.refl (cy _ _ _))|(exfalso;omega)
      subst hend;repeat' first|simp (disch:=omega) only[go_sem,aJ,aK,aL,bI,bA]|refine aB ?_|refine d_ ca ?_|refine d_ cb ?_|refine d_ cc ?_|refine aA ?_ ?_<;>intro hw<;>try omega|fail
      all_goals first|exact ik (e1 _) (cY.refl (cy _ _ _))|(exfalso;omega)
     rw[aj hend]at hR;have hl3:lvl≠3:=fun h=>hend (.inl h)
     have hcb:Yw=false:=by cases Yw with
      | false=>rfl
      | true=>exact absurd (.inr rfl) hend
     subst hcb;have e2:=e0 [];rw[bM cx]at cc;simp only[eM,bI,bA]at ca cb cc;have gq:=gc3 rfl;refine ei.iM (gP.go ?_) rfl (cy _ _ _);unfold dP;intro Q aJ aK aL;repeat' first|refine gn_ ?_|refine aA ?_ ?_<;>intro hw<;>try omega|fail
     with_reducible refine agl (fun x:Lp=>[(0,.ref 0 0),(1,I lvl),(4,.ref 1 0),(5,.ref 2 0)]) (fun x=>[.cells [.aR false ET (T.map tY),I x.p,.bool false],.cells [I 0,I 0,I 0,.str [],.str [],.aV],.cells [I x.op,I 0,I 0,.str [],.str [],.aR true EX x.zs]]) (fun x=>(cY [] x.zs (x.l.map br)/\AV.cG x.zs=true)/\x.p<=T.length/\8*(T.length-x.p)+8<=x.f/\x.f<=f/\R=dM T x.f (some (.mk x.op v0 [] x.l)) lvl x.p) (fun x=>x.f) ?_ ?_
     ·repeat' first|simp (disch:=omega) only[go_sem,aJ,aK,aL,bI,bA]|refine aB ?_|refine d_ ca ?_|refine d_ cb ?_|refine d_ cc ?_|refine aA ?_ ?_<;>intro hw<;>try omega|fail
      refine⟨⟨o.op,[ax,cx],[.agg [I ax.op,I ax.v.kind,I ax.v.n,.str ax.v.s,.str ax.s,.aR false EX (ax.l.map br)],br cx],cp,f⟩,⟨⟨L2 e2 (.refl _ (iI _)),aQ⟩,gc2,by dsimp only;omega,Nat.le_refl _,hR⟩,?_,at_⟩;rw[bM cx]
     clear ca cb cc;rintro⟨Pg,xl,xz,xp,xf⟩ r0 ⟨⟨a1,a2⟩,a3,a4,a5,a6⟩;dsimp only at a1 a2 a3 a4 a5 a6;obtain⟨j,rfl⟩:∃ j,xf=j+1:=⟨xf-1,ae⟩;have cb:=EF T xp false lvl ae;rw[dM]at a6;clear hR;cases hq:zo T xp false lvl with
     | none =>
       rw[hq]at a6;dsimp only at a6;subst a6;dsimp only at aJ aK aL;simp only[Pd,hq,SR,Option.isSome_none,aP,if_false,eM,bI,bA]at cb;have ev:∀ σ : ai,View σ (.agg (uU Pg xz)) (br (.mk Pg v0 [] xl)):=fun σ=>HK a1;generalize hE:br (.mk Pg v0 [] xl)=E at *;repeat' first|simp (disch:=omega) only[go_sem,aJ,aK,aL,bI,bA]|refine aB ?_|refine d_ cb ?_|refine aA ?_ ?_<;>intro hw<;>try omega|fail
       exact ik (ev _) (cY.refl (cy _ _ _))
     | some o2 =>
       rw[hq]at a6;dsimp only at a6;obtain⟨hp1,_,hp2,R8⟩:=Gi hq
       have aoR:o2.op≠0:=by
        intro h;simp only[lz,gj,fO,or_false]at hp2;rcases hp2 with rfl|rfl|rfl|rfl|rfl|rfl|rfl|rfl|rfl|rfl|rfl|rfl<;>simp at h
       have cc:=ih j ae (lvl+1) (xp+1) ae ae ae;obtain⟨gd1,gd2,gd3⟩:=(uu T j none (lvl+1) (xp+1) ae).1 rfl;simp only[Az]at cc;simp only[Pd,hq,SR,Option.isSome_some,if_true,eM,bI,bA]at cb;generalize dM T j none (lvl+1) (xp+1)=d at *;obtain⟨dx,dp,db⟩:=d;dsimp only at *;have e1:∀ σ : ai,View σ (.agg (uU o2.op [.agg (uU Pg xz),br dx])) (br (.mk o2.op v0 [] [.mk Pg v0 [] xl,dx])):=fun σ=>HK (L2 (HK a1) (.refl _ (iI _)));rw[bM dx]at cc e1;simp only[eM,bI,bA]at cc;cases db with
       | true =>
         rw[au (.inr rfl)]at a6;subst a6;dsimp only at aJ aK aL;generalize hE:br (.mk o2.op v0 [] [.mk Pg v0 [] xl,dx])=E at *;repeat' first|simp (disch:=omega) only[go_sem,aJ,aK,aL,bI,bA]|refine aB ?_|refine d_ cb ?_|refine d_ cc ?_|refine aA ?_ ?_<;>intro hw<;>try omega|fail
         all_goals first|exact ik (e1 _) (cY.refl (cy _ _ _))|(exfalso;omega)
       | false =>
         rw[aj (by simp[hl3])]at a6;have gr:=gd3 rfl;repeat' first|simp (disch:=omega) only[go_sem,aJ,aK,aL,bI,bA]|refine aB ?_|refine d_ cb ?_|refine d_ cc ?_|refine aA ?_ ?_<;>intro hw<;>try omega|fail
         refine⟨⟨o2.op,[.mk Pg v0 [] xl,dx],[.agg (uU Pg xz),br dx],dp,j⟩,⟨⟨L2 (HK a1) (.refl _ (iI _)),by simp[AV.dy,AV.cG,Yv a2,iI]⟩,gd2,by dsimp only;omega,by dsimp only;omega,a6⟩,by dsimp only;omega,?_,at_⟩;rw[bM dx];rfl
def U9(T:List Tok)(hT:T.length<=2^60)(hs:∀ q,(T.getD q default).s.length<=2^62): ∀ f,∀ lvl p,lvl<=7->p<=T.length->8*(T.length-p)+(8-lvl)<f->Az T 256 (fun l q=>dM T f none l q) lvl p:=by
 intro f
 induction f using Nat.strongRecOn with
 | ind f ih =>
 intro lvl p hl hp hf;obtain⟨f,rfl⟩:∃ f',f=f'+1:=⟨f-1,ae⟩;have ihf:=ih f (Nat.lt_succ_self _);have xj:∀ l q,q<=T.length->kN T.length q (dM T f none l q):=fun l q hq=>(uu T f none l q hq).1 rfl;simp only[Az];by_cases h5:1<=lvl/\lvl<=5
 ·exact NO T hT _ f lvl p h5.1 h5.2 hp ae rfl (fun j hj l q h1 h2 h3=>ih j ae l q h1 h2 h3)
 by_cases h0:lvl=0
 ·subst h0
  have hR:dM T (f+1) none 0 p=if qo T p 1 [105,102]then Pe (fun l q=>dM T f none l q) T (p+1)else dM T f none 1 p:=by
   rw[dM,au rfl]
  by_cases hi:qo T p 1 [105,102]=true
  ·rw[au hi]at hR;have hp1:=qp hi;have co:=rD T p 1 [105,102] true cW ae hi;have cb:=QV T (p+1) (fun l q=>dM T f none l q) hp1 hT xj (fun q=>L3 T 0 q) (fun q h1 h2=>ihf 0 q ae h2 ae);rw[hR];generalize Pe (fun l q=>dM T f none l q) T (p+1)=R at *;simp only[if_true]at co;generalize hE:br R.x=E at *;have hEc:∃ cs,E = .agg cs:=⟨_,by rw[<-hE,bM]⟩;have hEp:E.dy=true:=by rw[<-hE];exact iI _
   rw[<-hE,bM]at cb;simp only[eM,bI,bA]at co cb;refine ei.iM (gP.go ?_) rfl (cy _ _ _);unfold dP;intro Q aJ aK aL;repeat' first|simp (disch:=omega) only[go_sem,aJ,aK,aL,bI,bA]|refine aB ?_|refine d_ co ?_|refine d_ cb ?_|refine aA ?_ ?_<;>intro hw<;>try omega|fail
   exact ik (by rw[<-hE];exact View.eqv (bM _).symm (iI _)) (cY.refl (cy _ _ _))
  rw[aj hi]at hR;have hi':qo T p 1 [105,102]=false:=by simpa using hi
  have co:=rD T p 1 [105,102] false cW ae hi';have cr:=ihf 1 p ae hp ae;rw[hR];simp only[Az]at cr;generalize dM T f none 1 p=R at *;generalize hE:br R.x=E at *;rw[<-hE,bM]at cr;simp only[aP,if_false]at co;simp only[eM,bI,bA]at co cr;refine ei.iM (gP.go ?_) rfl (cy _ _ _);unfold dP;intro Q aJ aK aL;repeat' first|simp (disch:=omega) only[go_sem,aJ,aK,aL,bI,bA]|refine aB ?_|refine d_ co ?_|refine d_ cr ?_|refine aA ?_ ?_<;>intro hw<;>try omega|fail
  exact ik (by rw[<-hE];exact View.eqv (bM _).symm (iI _)) (cY.refl (cy _ _ _))
 by_cases h6:lvl=6/\qo T p 4 [45]=true
 ·obtain⟨rfl,hi⟩:=h6;have hp1:=qp hi
  have hR:dM T (f+1) none 6 p=⟨.mk 3 v0 [] [(dM T f none 6 (p+1)).x],(dM T f none 6 (p+1)).p,(dM T f none 6 (p+1)).bad⟩:=by
   rw[dM,aj h0,au ⟨rfl,hi⟩]
  have co:=rD T p 4 [45] true cW ae hi;have cr:=ihf 6 (p+1) ae hp1 ae;rw[hR];simp only[Az]at cr;generalize dM T f none 6 (p+1)=R at *;obtain⟨rx,rp,rb⟩:=R;dsimp only at *;have e1:∀ σ : ai,View σ (.agg (uU 3 [br rx])) (br (.mk 3 v0 [] [rx])):=fun σ=>HK (.cons (.refl _ (iI _)) (.nil _));rw[bM rx]at e1 cr;generalize hE:br (.mk 3 v0 [] [rx])=E at *;simp only[if_true]at co;simp only[eM,bI,bA]at co cr;refine ei.iM (gP.go ?_) rfl (cy _ _ _);unfold dP;intro Q aJ aK aL;repeat' first|simp (disch:=omega) only[go_sem,aJ,aK,aL,bI,bA]|refine aB ?_|refine d_ co ?_|refine d_ cr ?_|refine aA ?_ ?_<;>intro hw<;>try omega|fail
  exact ik (e1 _) (cY.refl (cy _ _ _))
 have h67:6<=lvl:=ae
 have hR:dM T (f+1) none lvl p=pP (fun l q=>dM T f none l q) T p:=by
  rw[dM,aj h0,aj h6,au h67]
 have ca:=U8 T p (fun l q=>dM T f none l q) hp hT hs (fun h=>⟨ihf 0 (p+1) ae (qp h) (by have:=qp h;omega),(xj 0 (p+1) (qp h)).2.1⟩);rw[hR];have co:=fun h=>rD T p 4 [45] false cW ae h
 have hno:lvl=6->qo T p 4 [45]=false:=fun h=>by
  cases hq:qo T p 4 [45]with
  | false=>rfl
  | true=>exact absurd ⟨h,hq⟩ h6
 generalize pP (fun l q=>dM T f none l q) T p=R at *;generalize hE:br R.x=E at *;rw[<-hE,bM]at ca;simp only[aP,if_false]at co;simp only[eM,bI,bA]at co ca;refine ei.iM (gP.go ?_) rfl (cy _ _ _);unfold dP;intro Q aJ aK aL;by_cases hl6:lvl=6
 ·have co:=co (hno hl6);subst hl6;repeat' first|simp (disch:=omega) only[go_sem,aJ,aK,aL,bI,bA]|refine aB ?_|refine d_ co ?_|refine d_ ca ?_|refine aA ?_ ?_<;>intro hw<;>try omega|fail
  exact ik (by rw[<-hE];exact View.eqv (bM _).symm (iI _)) (cY.refl (cy _ _ _))
 obtain rfl:lvl=7:=ae;repeat' first|simp (disch:=omega) only[go_sem,aJ,aK,aL,bI,bA]|refine aB ?_|refine d_ ca ?_|refine aA ?_ ?_<;>intro hw<;>try omega|fail
 exact ik (by rw[<-hE];exact View.eqv (bM _).symm (iI _)) (cY.refl (cy _ _ _))
