/- Part. -/
import Derived.Test.YtmbgnaoilncbnaaGreatDoorX21
set_option linter.all false
namespace Go.Proofs.YtmbgnaoilncbnaaGreatDoor
open Go.AM
set_option maxRecDepth 4000
def GR (fn : FuncId) (cap : List AV) (hcap : AV.cy cap = true) (p : Test -> Bool) (l : List Test) (h : ∀ k, k < l.length -> ai Tryz.prog fn (bO (l.getD k default) :: cap) (.bool (p (l.getD k default)))) (hl : l.length <= 2 ^ 62) :
    ai Tryz.prog nW [fo l,.fn (.func fn) [] cap] (I (jI p l)):=by
 refine ai.aG (Dw (by simp) ?_) (by simp[AV.dn,AV.cy,hcap,BZ]);unfold uE aP;intro Q au aA aB;repeat' first|refine aq ?_|refine ak ?_ ?_<;>intro hw<;>try omega|fail
 with_reducible refine bn [4,5,8,9,10,11,12,13,14,15,16,17,18] (fun i:Nat=>[(8,I i)]) (fun _=>[]) (fun i=>i<=l.length/\ ∀ k,k<i->p (l.getD k default)=false) (fun i=>l.length-i) (0) ?_ ?_ ?_ ?_
 ·simp
 ·rfl
 ·exact at_
 ·rintro i r ⟨hi,hp⟩;by_cases hin:i<l.length
  ·have hx:=h i hin;simp only[bO,bE,cN,mV,bH,cw,fo,cH,eR,rj]at hx;repeat' first|refine aq ?_|refine aC hx ?_|refine ak ?_ ?_<;>intro hw<;>try omega|fail
   ·refine aM ?_ rfl;refine congrArg I ?_;exact(pR hin hp hw).symm
   ·refine⟨i+1,?_,?_,by first|rfl|(simp[go_sem];done),bJ,at_⟩<;>(try dsimp only)
    ·exact⟨by omega,bf hp hw⟩
    ·omega
  ·repeat' first|refine aq ?_|refine ak ?_ ?_<;>intro hw<;>try omega|fail
   refine aM ?_ rfl;refine congrArg I ?_;exact(oN fun k hk=>hp k (by omega)).symm
def DN (fn : FuncId) (cap : List AV) (hcap : AV.cy cap = true) (p : Test -> Bool) (l : List Test) (h : ∀ k, k < l.length -> ai Tryz.prog fn (bO (l.getD k default) :: cap) (.bool (p (l.getD k default)))) (hl : l.length <= 2 ^ 62) :
    ai Tryz.prog mB [fo l,.fn (.func fn) [] cap] (.bool (l.any p)):=by
 refine ai.aG (zW (by simp) ?_) (by simp[AV.dn,AV.cy,hcap,BZ]);unfold rf aP;intro Q au aA aB;have hc:=GR fn cap hcap p l h hl;simp only[fo]at hc;repeat' first|refine aq ?_|refine aC hc ?_|refine ak ?_ ?_<;>intro hw<;>try omega|fail
 all_goals refine aM ?_ rfl
 all_goals rw[<-HV]
def kF(t:Test): Bool :=
 if t.kind=6 then kS t.a && kS t.b
 else decide (1<=t.kind/\t.kind<=5) && kS t.a && sE t.b x0 && !t.lo && !t.hi
def Nt(t:Test): Prop:=(ic t.a/\eK t.a<=2 ^ 60)/\ic t.b/\eK t.b<=2 ^ 60
def Nu(c:Cell): Prop:=c.tests.length<=2 ^ 60/\ ∀ t ∈ c.tests,Nt t
def jf(c:Cell): Bool :=
 if c.any then !c.neg && decide (c.tests.length=0)
 else decide (1<=c.tests.length/\c.tests.length<=12) && !(c.tests.any fun t=> !(kF t))
def Wg: eK x0<=2 ^ 60:=by simp[x0,eK,nD]
def Wh: aL x0 = .agg [I 0,I 0,I 0,.str [],.str [],.aK false EX []]:=by simp[x0,v0,aL]
def cell_of(t:Test): ai Tryz.prog Kq [bO t] (.agg [.bool t.lo,.bool t.hi]):=by
 refine ai.aG (Z5 (by simp) ?_) (by simp);unfold Tc aP;intro Q au aA aB;simp only[bO,cw];repeat' first|refine aq ?_|refine ak ?_ ?_<;>intro hw<;>try omega|fail
 all_goals exact aM rfl rfl
def aaq(t:Test)(h:Nt t): ai Tryz.prog C0 [bO t] (.bool (kF t)):=by
 obtain⟨⟨a1,a2⟩,b1,b2⟩:=h;have ha:=To t.a a1 a2;have hb:=To t.b b1 b2;have hs:=XQ t.b x0 (Qp _ b2) (Qp _ Wg);have ho:=cell_of t;rw[Wh]at hs;rw[aR]at ha hb hs;simp only[bO,cw]at ho ⊢;have hS:kF t=if t.kind=6 then kS t.a && kS t.b else decide (1<=t.kind/\t.kind<=5) && kS t.a && sE t.b x0 && !t.lo && !t.hi:=rfl
 rw[hS];clear hS;generalize kS t.a=pa at *;generalize kS t.b=pb at *;generalize sE t.b x0=sb at *;refine ai.aG (Uo (by simp) ?_) (by simp);unfold KL aP;intro Q au aA aB;repeat' first|refine aq ?_|refine aC ha ?_|refine aC hb ?_|refine qo hs ?_|refine aC ho ?_|refine ak ?_ ?_<;>intro hw<;>try omega|fail
 all_goals (refine aM ?_ rfl;refine congrArg AV.bool ?_;rw[aV];simp_all)
 all_goals (try omega)
def Wi(t:Test)(h:Nt t): ai Tryz.prog tZ [bO t] (.bool (!(kF t))):=by
 have h1:=aaq t h;simp only[bO,cw]at h1 ⊢;generalize kF t=b at *;refine ai.aG (P5 (by simp) ?_) (by simp);unfold Gt aP;intro Q au aA aB;repeat' first|refine aq ?_|refine aC h1 ?_|refine ak ?_ ?_<;>intro hw<;>try omega|fail
 all_goals exact aM rfl rfl
def H8(c:Cell)(h:Nu c): ai Tryz.prog sN [bH c] (I (mX (jf c))):=by
 have hc:=DN tZ [] rfl (fun t=> !(kF t)) c.tests (fun k hk=>Wi _ (h.2 _ (a_ hk))) (by have:=h.1;omega);have hl:=h.1;simp only[fo,bH]at hc ⊢;have hS:jf c=if c.any then !c.neg && decide (c.tests.length=0)else decide (1<=c.tests.length/\c.tests.length<=12) && !(c.tests.any fun t=> !(kF t)):=rfl
 rw[hS];clear hS;generalize c.tests.any (fun t=> !(kF t))=an at *;refine ai.aG (Ug (by simp) ?_) (by simp);unfold KA aP;intro Q au aA aB;repeat' first|refine aq ?_|refine aC hc ?_|refine ak ?_ ?_<;>intro hw<;>try omega|fail
 all_goals (refine aM ?_ rfl;refine congrArg I ?_;simp_all[mX,<-List.length_eq_zero_iff])
 all_goals (try omega)
 all_goals (intro h0;exfalso;omega)
def aar(t:Test)(h:Nt t): ai Tryz.prog C3 [bO t] (.bool (kF t)):=by
 obtain⟨⟨a1,a2⟩,b1,b2⟩:=h;have ha:=Qy t.a a1 a2;have hb:=Qy t.b b1 b2;have hs:=aaf t.b x0 (Qp _ b2) (Qp _ Wg);rw[Wh]at hs;rw[aR]at ha hb hs;simp only[bO,cw];have hS:kF t=if t.kind=6 then kS t.a && kS t.b else decide (1<=t.kind/\t.kind<=5) && kS t.a && sE t.b x0 && !t.lo && !t.hi:=rfl
 rw[hS];clear hS;generalize kS t.a=pa at *;generalize kS t.b=pb at *;generalize sE t.b x0=sb at *;refine ai.aG (Ut (by simp) ?_) (by simp);unfold KQ aP;intro Q au aA aB;repeat' first|refine aq ?_|refine aC ha ?_|refine aC hb ?_|refine qo hs ?_|refine ak ?_ ?_<;>intro hw<;>try omega|fail
 all_goals (refine aM ?_ rfl;refine congrArg AV.bool ?_;rw[aV];simp_all)
 all_goals (try omega)
def FB(c:Cell)(h:Nu c): ai Tryz.prog oa [bH c] (.bool (jf c)):=by
 have ht:=fun k (hk:k<c.tests.length)=>aar _ (h.2 _ (a_ hk));have hl:=h.1;simp only[bH,fo];have hS:jf c=if c.any then !c.neg && decide (c.tests.length=0)else decide (1<=c.tests.length/\c.tests.length<=12) && !(c.tests.any fun t=> !(kF t)):=rfl
 rw[hS];clear hS;refine ai.aG (RW (by simp) ?_) (by simp);unfold I6 aP;intro Q au aA aB;repeat' first|refine aq ?_|refine ak ?_ ?_<;>intro hw<;>try omega|fail
 ·refine aM ?_ rfl;refine congrArg AV.bool ?_;rw[aV];simp_all
 ·refine aM ?_ rfl;refine congrArg AV.bool ?_;rw[aV];simp_all
 with_reducible refine bn [2,3,15,16,17,18,19,20,21,22,23,24,25,26,27,28] (fun i:Nat=>[(3,I i)]) (fun _=>[.cells [.bool c.any,.bool c.neg,.aK false ES (c.tests.map bO)]]) (fun i=>i<=c.tests.length/\ ∀ k,k<i->(!(kF (c.tests.getD k default)))=false) (fun i=>c.tests.length-i) (0) ?_ ?_ ?_ ?_
 ·simp
 ·rfl
 ·exact at_
 rintro i r ⟨h1,h2⟩;by_cases hi:i<c.tests.length
 ·have h3:=ht i hi;simp only[bO,cw]at h3;repeat' first|refine aq ?_|refine aC h3 ?_|refine ak ?_ ?_<;>intro hw<;>try omega|fail
  ·refine aM ?_ rfl;rw[DI (p:=fun t=> !(kF t)) hi (by simpa using hw)];simp_all
  ·refine⟨i+1,?_,?_,by first|rfl|(simp[go_sem];done),bJ,at_⟩<;>(try dsimp only)
   ·exact⟨by omega,bf h2 (by simpa using hw)⟩
   ·omega
 ·repeat' first|refine aq ?_|refine ak ?_ ?_<;>intro hw<;>try omega|fail
  all_goals (refine aM ?_ rfl;rw[zj (p:=fun t=> !(kF t)) (fun k hk=>h2 k (by omega))];refine congrArg AV.bool ?_;rw[aV];simp_all)
  all_goals (try omega)
def iQ(k:Int): aJ:=if k=2 then [60]else if k=3 then [60,61]else if k=4 then [62]else if k=5 then [62,61]else []
def Tp(k:Int): ai Tryz.prog zC [I k] (.str (iQ k)):=by
 refine ai.aG (VL (by simp) ?_) rfl;unfold Na aP;intro Q au aA aB;repeat' first|refine aq ?_|refine ak ?_ ?_<;>intro hw<;>try omega|fail
 all_goals (refine aM ?_ rfl;simp_all[iQ])
def Qz(k:Int): ai Tryz.prog xx [I k] (.str (iQ k)):=by
 refine ai.aG (Uu (by simp) ?_) rfl;unfold KR aP;intro Q au aA aB;repeat' first|refine aq ?_|refine ak ?_ ?_<;>intro hw<;>try omega|fail
 all_goals (refine aM ?_ rfl;simp_all[iQ])
def ya(T:List Tok)(p:Nat): aJ:=if(T.getD p default).kind=4 then(T.getD p default).s else []
def zm(T:List Tok)(p:Nat)(b:Bool)(s:aJ)(hs:s≠[]): ew T p b 4 s=(!b && decide (ya T p=s)):=by
 unfold ew iM ya;by_cases hp:p<T.length
 ·generalize T.getD p default=t;by_cases h4:t.kind=4
  ·simp[hp,h4]
  ·simp[hp,h4,Ne.symm hs]
 ·rw[qI (by omega)];simp[hp,aah,Ne.symm hs]
def Lv(T:List Tok)(p:Nat)(b:Bool): bj Tryz.prog lP 0 [] (bD T p b) (bD T p b) (.str (ya T p)):=by
 by_cases hp:p<T.length
 ·refine bj.bV (yF (by simp) ?_) rfl (aS _ _ _);unfold tc aP;intro Q au aA aB;repeat' first|refine aq ?_|refine ak ?_ ?_<;>intro hw<;>try omega|fail
  all_goals (refine bR (View.eqv ?_ rfl) (aW.refl (aS T p b));simp_all[ya])
 ·have:ya T p=[]:=by unfold ya;rw[qI (by omega)];simp[aah]
  rw[this];refine bj.bV (yF (by simp) ?_) rfl (aS _ _ _);unfold tc aP;intro Q au aA aB;repeat' first|refine aq ?_|refine ak ?_ ?_<;>intro hw<;>try omega|fail
  all_goals exact bR (View.eqv rfl rfl) (aW.refl (aS T p b))
def YW(T:List Tok)(p:Nat)(b:Bool)(s:aJ)(hs:s≠[])(hp:p<=2 ^ 61): bj Tryz.prog iB 0 [.str s] (bD T p b) (bD T (rA T p b 4 s) b) (.bool (ew T p b 4 s)):=by
 have hn:=Lv T p b;unfold rA;rw[zm T p b s hs];generalize ya T p=t at hn ⊢;simp only[bD]at hn;refine bj.bV (MU (by simp) ?_) rfl (aS _ _ _);unfold DB aP;intro Q au aA aB;repeat' first|refine aq ?_|refine bh hn ?_|refine ak ?_ ?_<;>intro hw<;>try omega|fail
 all_goals first
  |(refine bR (View.eqv ?_ rfl) (aW.eqv ?_ (aS _ _ _))<;>simp_all[bD];done)
def Lw(T:List Tok)(p:Nat)(b:Bool)(s:aJ)(hs:s≠[])(hp:p<=2 ^ 61): bj Tryz.prog lR 0 [.str s] (bD T p b) (bD T (rA T p b 4 s) (b || !(ew T p b 4 s))) (.bX []):=by
 have hn:=YW T p b s hs hp;generalize ew T p b 4 s=o at hn ⊢;simp only[bD]at hn;refine bj.bV (JP (by simp) ?_) rfl (aS _ _ _);unfold Aa aP;intro Q au aA aB;cases o
 ·repeat' first|refine aq ?_|refine bh hn ?_|refine ak ?_ ?_<;>intro hw<;>try omega|fail
  refine xd rfl (aW.eqv ?_ (aS _ _ _));simp[bD]
 ·repeat' first|refine aq ?_|refine bh hn ?_|refine ak ?_ ?_<;>intro hw<;>try omega|fail
  refine xd rfl (aW.eqv ?_ (aS _ _ _));simp[bD]
def Wj(T:List Tok)(p:Nat)(b:Bool)(s:aJ): bj Tryz.prog eC 0 [.str s] (bD T p b) (bD T p b) (.bool (ew T p b 4 s)):=by
 refine bj.bV (KX (by simp) ?_) rfl (aS _ _ _);unfold Bz aP;intro Q au aA aB;cases b with
 | true =>
   repeat' first|refine aq ?_|refine ak ?_ ?_<;>intro hw<;>try omega|fail
   all_goals exact bR (View.eqv rfl rfl) (aW.refl (aS T p true))
 | false =>
   by_cases hp:p<T.length
   ·repeat' first|refine aq ?_|refine ak ?_ ?_<;>intro hw<;>try omega|fail
    all_goals (refine bR (View.eqv ?_ rfl) (aW.refl (aS T p false));refine congrArg AV.bool ?_;rw[aV];simp_all[ew,iM])
   ·repeat' first|refine aq ?_|refine ak ?_ ?_<;>intro hw<;>try omega|fail
    all_goals (refine bR (View.eqv ?_ rfl) (aW.refl (aS T p false));refine congrArg AV.bool ?_;rw[aV];simp_all[ew,iM])
    all_goals (intros;omega)
def H9(T:List Tok)(p:Nat)(b:Bool)(s:aJ)(hp:p<=2 ^ 61): bj Tryz.prog jE 0 [.str s] (bD T p b) (bD T (rA T p b 4 s) (b || !(ew T p b 4 s))) (.bX []):=by
 have hn:=Wj T p b s;unfold rA;have hb:ew T p b 4 s=true->b=false:=fun h=>(kD h).2;generalize ew T p b 4 s=o at hn hb ⊢;simp only[bD]at hn;refine bj.bV (HJ (by simp) ?_) rfl (aS _ _ _);unfold yE aP;intro Q au aA aB;cases o
 ·repeat' first|refine aq ?_|refine bh hn ?_|refine ak ?_ ?_<;>intro hw<;>try omega|fail
  refine xd rfl (aW.eqv ?_ (aS _ _ _));simp[bD]
 ·repeat' first|refine aq ?_|refine bh hn ?_|refine ak ?_ ?_<;>intro hw<;>try omega|fail
  refine xd rfl (aW.eqv ?_ (aS _ _ _));simp[bD]
def YX(T:List Tok)(l q:Nat): RS:=⟨(d_ T q l).1,(d_ T q l).2.1.toNat,decide ((d_ T q l).2.2≠0)⟩
def gU(T:List Tok)(p:Nat)(b:Bool): RS:=rB (YX T) 4 p b
def QA(T:List Tok)(p:Nat): gU T p true=⟨x0,p,true⟩:=rfl
def Nv(T:List Tok)(p:Nat): gU T p false=YX T 4 p:=rfl
def adj(T:List Tok){q:Nat}(hq:q<=T.length): jm T.length q (YX T 4 q):=by
 have hg:¬ ((q:Int)<0\/(T.length:Int)<q\/((4:Nat):Int)<0\/7<((4:Nat):Int)):=by omega
 have g:=(pS T (8*T.length+9) none 4 q hq).1 rfl;unfold YX d_;rw[if_neg hg,er,er];split
 ·exact⟨by simpa using g.1,by simpa using g.2.1,fun h=>by simp at h⟩
 ·rename_i h;exact⟨by simpa using g.1,by simpa using g.2.1,fun _=>by have:=g.2.2 (by simpa using h);simpa using this⟩
def E6(T:List Tok){q:Nat}{b:Bool}(hq:q<=T.length): jm T.length q (gU T q b):=by
 cases b with
 | true=>exact⟨Nat.le_refl _,hq,fun h=>by cases h⟩
 | false=>exact adj T hq
def E7(T:List Tok)(p:Nat)(b:Bool)(hT:T.length<=2 ^ 50)(hs:∀ q,(T.getD q default).s.length<=2 ^ 62): bj Tryz.prog jY 0 [] (bD T p b) (bD T (gU T p b).p (gU T p b).bad) (aL (gU T p b).x):=by
 cases b with
 | true =>
   rw[QA];generalize hE:aL _=E;refine bj.bV (yG (by simp) ?_) rfl (aS _ _ _);unfold td aP;intro Q au aA aB;repeat' first|refine aq ?_|refine ak ?_ ?_<;>intro hw<;>try omega|fail
   exact bR (by rw[<-hE];exact jb (.ae _)) (aW.refl (aS T p true))
 | false =>
   rw[Nv];have cr:=Nr T p 4 hT hs;have Qu:=(Mp T p 4).1;simp only[YX];have e4:((4:Nat):Int)=4:=rfl;rw[e4];generalize d_ T p 4=r at *;obtain⟨rx,rn,re⟩:=r;dsimp only at *;obtain⟨n,rfl⟩:∃ n:Nat,rn=n:=⟨rn.toNat,by omega⟩;have e2:∀ σ : aj,View σ (.agg [I rx.op,I rx.v.kind,I rx.v.n,.str rx.v.s,.str rx.s,.aK false EX (rx.l.map aL)]) (aL rx):=fun σ=>View.eqv (aR _).symm (dD _);simp only[Ag,sD]at cr;rw[aR]at cr;generalize aL rx=E at *;rw[er];refine bj.bV (yG (by simp) ?_) rfl (aS _ _ _);unfold td aP;intro Q au aA aB;repeat' first|refine aq ?_|refine aC cr ?_|refine ak ?_ ?_<;>intro hw<;>try omega|fail
   all_goals (refine bR (e2 _) (aW.eqv ?_ (aS _ _ _));simp[bD];rw[aV];simp)
def B_(T:List Tok)(p:Nat)(b:Bool)(hT:T.length<=2 ^ 50)(hs:∀ q,(T.getD q default).s.length<=2 ^ 62): bj Tryz.prog jF 0 [] (bD T p b) (bD T (gU T p b).p (gU T p b).bad) (aL (gU T p b).x):=by
 cases b with
 | true =>
   rw[QA];generalize hE:aL _=E;refine bj.bV (xV (by simp) ?_) rfl (aS _ _ _);unfold rZ aP;intro Q au aA aB;repeat' first|refine aq ?_|refine ak ?_ ?_<;>intro hw<;>try omega|fail
   exact bR (by rw[<-hE];exact jb (.ae _)) (aW.refl (aS T p true))
 | false =>
   rw[Nv];have cr:=Qw T p 4 hT hs;have Qu:=(Mp T p 4).1;simp only[YX];have e4:((4:Nat):Int)=4:=rfl;rw[e4];generalize d_ T p 4=r at *;obtain⟨rx,rn,re⟩:=r;dsimp only at *;obtain⟨n,rfl⟩:∃ n:Nat,rn=n:=⟨rn.toNat,by omega⟩;have e2:∀ σ : aj,View σ (.agg [I rx.op,I rx.v.kind,I rx.v.n,.str rx.v.s,.str rx.s,.aK false EX (rx.l.map aL)]) (aL rx):=fun σ=>View.eqv (aR _).symm (dD _);simp only[Ag,sD]at cr;rw[aR]at cr;generalize aL rx=E at *;rw[er];refine bj.bV (xV (by simp) ?_) rfl (aS _ _ _);unfold rZ aP;intro Q au aA aB;repeat' first|refine aq ?_|refine aC cr ?_|refine ak ?_ ?_<;>intro hw<;>try omega|fail
   all_goals (refine bR (e2 _) (aW.eqv ?_ (aS _ _ _));simp[bD];rw[aV];simp)
structure TS where
 t:Test
 p:Nat
 bad:Bool
deriving Inhabited
def tC(k:Int)(r:RS): TS:=⟨⟨k,r.x,x0,false,false⟩,r.p,r.bad⟩
def oZ(T:List Tok)(p:Nat): RS:=gU T (p+1) false
def qK(T:List Tok)(p:Nat): RS:=ie T (oZ T p) 4 [46,46]
def gF(T:List Tok)(p:Nat): RS:=gU T (qK T p).p (qK T p).bad
def inH(T:List Tok)(p:Nat): Bool:=ew T (gF T p).p (gF T p).bad 4 [91]
def zn(T:List Tok)(p:Nat): RS:=if inH T p then⟨x0,(gF T p).p+1,(gF T p).bad⟩else ie T (gF T p) 4 [93]
def Nw(T:List Tok)(p:Nat)(lo:Bool): TS:=⟨⟨6,(oZ T p).x,(gF T p).x,lo,inH T p⟩,(zn T p).p,(zn T p).bad⟩
def ey(T:List Tok)(p:Nat)(b:Bool): TS :=
 if ew T p b 4 [60]then tC 2 (gU T (p+1) b)
 else if ew T p b 4 [60,61]then tC 3 (gU T (p+1) b)
 else if ew T p b 4 [62]then tC 4 (gU T (p+1) b)
 else if ew T p b 4 [62,61]then tC 5 (gU T (p+1) b)
 else if ew T p b 4 [91]then Nw T p false
 else if ew T p b 4 [93]then Nw T p true
 else tC 1 (gU T p b)
def adk{k:Int}(h:2<=k)(h':k<=5): iQ k≠[]:=by
 rcases(by omega:k=2\/k=3\/k=4\/k=5)with rfl|rfl|rfl|rfl<;>decide
def QB{T:List Tok}{p:Nat}{b:Bool}{k:Int}(h:2<=k)(h':k<=5)(hb:∀ j:Int,2<=j->j<k->ew T p b 4 (iQ j)=false)(ho:ew T p b 4 (iQ k)=true): ey T p b=tC k (gU T (p+1) b):=by
 have e2:iQ 2=[60]:=rfl;have e3:iQ 3=[60,61]:=rfl;have e4:iQ 4=[62]:=rfl;have e5:iQ 5=[62,61]:=rfl;unfold ey;rcases(by omega:k=2\/k=3\/k=4\/k=5)with rfl|rfl|rfl|rfl
 ·rw[e2]at ho;rw[if_pos ho]
 ·have h2:=hb 2 (by omega) (by omega);rw[e2]at h2;rw[e3]at ho;rw[if_neg (by simp[h2]),if_pos ho]
 ·have h2:=hb 2 (by omega) (by omega);have h3:=hb 3 (by omega) (by omega);rw[e2]at h2;rw[e3]at h3;rw[e4]at ho;rw[if_neg (by simp[h2]),if_neg (by simp[h3]),if_pos ho]
 ·have h2:=hb 2 (by omega) (by omega);have h3:=hb 3 (by omega) (by omega);have h4:=hb 4 (by omega) (by omega);rw[e2]at h2;rw[e3]at h3;rw[e4]at h4;rw[e5]at ho;rw[if_neg (by simp[h2]),if_neg (by simp[h3]),if_neg (by simp[h4]),if_pos ho]
def QC{T:List Tok}{p:Nat}{b:Bool}(hb:∀ j:Int,2<=j->j<6->ew T p b 4 (iQ j)=false): ey T p b=if ew T p b 4 [91]then Nw T p false else if ew T p b 4 [93]then Nw T p true else tC 1 (gU T p b):=by
 have h2:ew T p b 4 [60]=false:=hb 2 (by omega) (by omega);have h3:ew T p b 4 [60,61]=false:=hb 3 (by omega) (by omega);have h4:ew T p b 4 [62]=false:=hb 4 (by omega) (by omega);have h5:ew T p b 4 [62,61]=false:=hb 5 (by omega) (by omega);unfold ey;rw[if_neg (by simp[h2]),if_neg (by simp[h3]),if_neg (by simp[h4]),if_neg (by simp[h5])]
def abM{T:List Tok}{p:Nat}{r:RS}(k:Int)(h:jm T.length p r): p<=(tC k r).p/\(tC k r).p<=T.length:=⟨h.1,h.2.1⟩
def Mq{T:List Tok}{p:Nat}(hp:p<T.length): (oZ T p).p<=T.length/\(qK T p).p<=T.length/\(gF T p).p<=T.length/\(zn T p).p<=T.length/\p<=(zn T p).p:=by
 have g1:jm T.length (p+1) (oZ T p):=E6 T hp;have g2:jm T.length (p+1) (qK T p):=Af _ _ g1;have g3:jm T.length (qK T p).p (gF T p):=E6 T g2.2.1
 have g4:(zn T p).p<=T.length/\(gF T p).p<=(zn T p).p:=by
  unfold zn;split
  ·rename_i h;exact⟨(kD h).1,Nat.le_succ _⟩
  ·have:=Af 4 [93] g3;refine⟨this.2.1,?_⟩;simp only[ie,rA];split<;>omega
 have:=g1.1;have:=g2.1;have:=g3.1;have m2:(oZ T p).p<=(qK T p).p:=by simp only[qK,ie,rA];split<;>omega
 exact⟨g1.2.1,g2.2.1,g3.2.1,g4.1,by omega⟩
def E8{T:List Tok}{p:Nat}{b:Bool}(hp:p<=T.length): p<=(ey T p b).p/\(ey T p b).p<=T.length:=by
 have st:∀ k s,ew T p b 4 s=true->p<=(tC k (gU T (p+1) b)).p/\(tC k (gU T (p+1) b)).p<=T.length:=fun k s h=>by
  have:=E6 T (q:=p+1) (b:=b) (kD h).1;exact⟨Nat.le_of_succ_le this.1,this.2.1⟩
 unfold ey;split
 ·rename_i h;exact st _ _ h
 split
 ·rename_i h;exact st _ _ h
 split
 ·rename_i h;exact st _ _ h
 split
 ·rename_i h;exact st _ _ h
 split
 ·rename_i h;have:=Mq (kD h).1;exact⟨this.2.2.2.2,this.2.2.2.1⟩
 split
 ·rename_i h;have:=Mq (kD h).1;exact⟨this.2.2.2.2,this.2.2.2.1⟩
 ·exact abM 1 (E6 T hp)
def yb(T:List Tok)(p:Nat)(b:Bool)(s:aJ)(o:Bool)(hs:s≠[])(hp:p<=2 ^ 61)(h:ew T p b 4 s=o): bj Tryz.prog iB 0 [.str s] (bD T p b) (bD T (if o then p+1 else p) b) (.bool o):=by
 have:=YW T p b s hs hp;unfold rA at this;rw[h]at this;exact this
def QD{σ : aj}{k:Int}{r:Expr}: View σ (.agg [I k,I r.op,I r.v.kind,I r.v.n,.str r.v.s,.str r.s,.aK false EX (r.l.map aL),I 0,I 0,I 0,.str [],.str [],.ae,.bool false,.bool false]) (bO ⟨k,r,x0,false,false⟩):=by
 simp only[bO,cw];refine View.nU (.cons (.refl _ rfl) (.cons (.refl _ rfl) (.cons (.refl _ rfl) (.cons (.refl _ rfl) (.cons (.refl _ rfl) (.cons (.refl _ rfl) (.cons (.refl _ ?_) (.cons (.refl _ rfl) (.cons (.refl _ rfl) (.cons (.refl _ rfl) (.cons (.refl _ rfl) (.cons (.refl _ rfl) (.cons (.ae _) (.cons (.refl _ rfl) (.cons (.refl _ rfl) (.nil _))))))))))))))));simp
def abN (T : List Tok) (p : Nat) (b : Bool) (hp : p <= T.length) (hT : T.length <= 2 ^ 50) (hs : ∀ q, (T.getD q default).s.length <= 2 ^ 62) :
    bj Tryz.prog sS 0 [] (bD T p b) (bD T (ey T p b).p (ey T p b).bad) (bO (ey T p b).t):=by
 generalize hR:ey T p b=R;generalize hE:bO R.t=E;refine bj.bV (JO (by simp) ?_) rfl (aS _ _ _);unfold z_ aP;intro Q au aA aB;repeat' first|refine aq ?_|refine ak ?_ ?_<;>intro hw<;>try omega|fail
 with_reducible refine bn [3,5,6,7,8,9,10,11,12,13,14,15,16] (fun k:Int=>[(3,I k)]) (fun _=>[.cells [.aK false ET (T.map mF),I p,.bool b],.cells [I 0,I 0,I 0,I 0,.str [],.str [],.ae,I 0,I 0,I 0,.str [],.str [],.ae,.bool false,.bool false]]) (fun k=>2<=k/\k<=6/\ ∀ j:Int,2<=j->j<k->ew T p b 4 (iQ j)=false) (fun k=>(6-k).toNat) (2) ?_ ?_ ?_ ?_
 ·exact⟨by omega,by omega,fun j h1 h2=>by omega⟩
 ·rfl
 ·exact at_
 rintro k r ⟨h1,h2,h3⟩;by_cases hk:k<=5
 ·have hgo:=Tp k;obtain⟨o,ho⟩:∃ o,ew T p b 4 (iQ k)=o:=⟨_,rfl⟩;have qf:=yb T p b (iQ k) o (adk h1 hk) (by omega) ho;cases o with
  | false =>
    simp only[bD,Bool.false_eq_true,if_false]at qf;repeat' first|refine aq ?_|refine aC hgo ?_|refine bh qf ?_|refine ak ?_ ?_<;>intro hw<;>try omega|fail
    refine⟨k+1,?_,?_,by first|rfl|(simp[go_sem];done),bJ,at_⟩<;>(try dsimp only)
    ·refine⟨by omega,by omega,fun j S6 Ka=>?_⟩;by_cases FY:j=k
     ·subst FY;exact ho
     ·exact h3 j S6 (by omega)
    ·omega
  | true =>
    have QE:=kD ho;have hce:=E7 T (p+1) b hT hs;rw[QB h1 hk h3 ho]at hR;subst hR;simp only[tC]at hE au aA aB;generalize gU T (p+1) b=x at *;rw[aR]at hce;simp only[bD,if_true,Int.natCast_add,Int.cast_ofNat_Int]at qf hce;repeat' first|simp (disch:=omega) only[go_sem,au,aA,aB,Int.natCast_add,Int.cast_ofNat_Int]|refine aq ?_|refine aC hgo ?_|refine bh qf ?_|refine bh hce ?_|refine ak ?_ ?_<;>intro hw<;>try omega|fail
    exact bR (by rw[<-hE];exact QD) (aW.refl (aS _ _ _))
 ·obtain rfl:k=6:=by omega
  rw[QC (fun j S6 Ka=>h3 j S6 Ka)]at hR;have hmk:=Lv T p b;obtain⟨o1,Js⟩:∃ o,ew T p b 4 [91]=o:=⟨_,rfl⟩;obtain⟨o2,E5⟩:∃ o,ew T p b 4 [93]=o:=⟨_,rfl⟩;have r8:=yb T p b [91] o1 (by decide) (by omega) Js;have wo:=yb T p b [93] o2 (by decide) (by omega) E5;have hmo:=zm T p b [93] (by decide);rw[Js,E5]at hR;rw[E5]at hmo;have zR:=zm T p b [91] (by decide);rw[Js]at zR;generalize hmt:ya T p=mt at *;by_cases hin:o1=true\/o2=true
  ·have QE : p < T.length /\ b = false := by
    rcases hin with h|h
    ·exact kD (Js.trans h)
    ·exact kD (E5.trans h)
   obtain⟨QE,rfl⟩:=QE
   have PM:R=Nw T p (decide (mt=[93])):=by
    rw[<-hR];simp only[gk,dA]at hmo zR;cases o1 with
    | true =>
      have:mt=[91]:=by simpa using zR.symm
      rw[if_pos rfl,this];rfl
    | false =>
      rcases hin with h|h
      ·cases h
      ·subst h;have:mt=[93]:=by simpa using hmo.symm
       rw[if_neg (by simp),if_pos rfl,this];rfl
   clear hR;subst PM;obtain⟨g1,g2,g3,g4,_⟩:=Mq (T:=T) QE;have c1:=E7 T (p+1) false hT hs;have c2:=Lw T (oZ T p).p (oZ T p).bad [46,46] (by decide) (by omega);have c3:=E7 T (qK T p).p (qK T p).bad hT hs;obtain⟨o3,Ls⟩:∃ o,inH T p=o:=⟨_,rfl⟩;have c4:=yb T (gF T p).p (gF T p).bad [91] o3 (by decide) (by omega) Ls;have c5:=Lw T (gF T p).p (gF T p).bad [93] (by decide) (by omega)
   change bj _ _ _ _ _ (bD T (oZ T p).p (oZ T p).bad) (aL (oZ T p).x)at c1
   change bj _ _ _ _ _ (bD T (qK T p).p (qK T p).bad) _ at c2
   change bj _ _ _ _ _ (bD T (gF T p).p (gF T p).bad) (aL (gF T p).x)at c3
   change bj _ _ _ _ _ (bD T (ie T (gF T p) 4 [93]).p (ie T (gF T p) 4 [93]).bad) _ at c5
   have Nx:zn T p=if o3 then⟨x0,(gF T p).p+1,(gF T p).bad⟩else ie T (gF T p) 4 [93]:=by rw[<-Ls];rfl
   have Wk:Nw T p (decide (mt=[93]))=⟨⟨6,(oZ T p).x,(gF T p).x,decide (mt=[93]),o3⟩,(zn T p).p,(zn T p).bad⟩:=by rw[<-Ls];rfl
   rw[Wk]at hE au aA aB;rw[Nx]at au aA aB;clear Nx Wk Ls Js E5 g1 g2 g4;generalize ie T (gF T p) 4 [93]=r5 at *;generalize oZ T p=r1 at *;generalize qK T p=r2 at *;generalize gF T p=r3 at *;rw[aR]at c1 c3;simp only[bO,cw]at hE;simp only[bD]at hmk
   have fin:∀ σ : aj,View σ (.agg [I 6,I r1.x.op,I r1.x.v.kind,I r1.x.v.n,.str r1.x.v.s,.str r1.x.s,.aK false EX (r1.x.l.map aL),I r3.x.op,I r3.x.v.kind,I r3.x.v.n,.str r3.x.v.s,.str r3.x.s,.aK false EX (r3.x.l.map aL),.bool (mt==[93]),.bool o3]) E:=fun σ=>by
    rw[<-hE,show decide (mt=[93])=(mt==[93]) from by rw[aV];simp];exact View.eqv rfl (by simp)
   clear hE;have hne:mt==[93]↔mt=[93]:=by simp
   cases o1 with
   | true =>
     simp only[bD,if_true,Int.natCast_add,Int.cast_ofNat_Int]at r8 c1 c2 c3 c4 c5;cases o3 with
     | true =>
       simp only[if_true]at c4 fin au aA aB;repeat' first|simp (disch:=omega) only[go_sem,au,aA,aB,Int.natCast_add,Int.cast_ofNat_Int]|refine aq ?_|refine bh hmk ?_|refine bh r8 ?_|refine bh c1 ?_|refine bh c2 ?_|refine bh c3 ?_|refine bh c4 ?_|refine ak ?_ ?_<;>intro hw<;>try omega|fail
       exact bR (fin _) (aW.eqv (by simp[bD]) (aS _ _ _))
     | false =>
       simp only[Bool.false_eq_true,if_false]at c4 fin au aA aB;repeat' first|simp (disch:=omega) only[go_sem,au,aA,aB,Int.natCast_add,Int.cast_ofNat_Int]|refine aq ?_|refine bh hmk ?_|refine bh r8 ?_|refine bh c1 ?_|refine bh c2 ?_|refine bh c3 ?_|refine bh c4 ?_|refine bh c5 ?_|refine ak ?_ ?_<;>intro hw<;>try omega|fail
       exact bR (fin _) (aW.eqv (by simp[bD]) (aS _ _ _))
   | false =>
     have aj0:o2=true:=by rcases hin with h|h<;>first|(cases h;done)|exact h
     subst aj0;simp only[bD,if_true,Bool.false_eq_true,if_false,Int.natCast_add,Int.cast_ofNat_Int]at r8 wo c1 c2 c3 c4 c5;cases o3 with
     | true =>
       simp only[if_true]at c4 fin au aA aB;repeat' first|simp (disch:=omega) only[go_sem,au,aA,aB,Int.natCast_add,Int.cast_ofNat_Int]|refine aq ?_|refine bh hmk ?_|refine bh r8 ?_|refine bh wo ?_|refine bh c1 ?_|refine bh c2 ?_|refine bh c3 ?_|refine bh c4 ?_|refine ak ?_ ?_<;>intro hw<;>try omega|fail
       exact bR (fin _) (aW.eqv (by simp[bD]) (aS _ _ _))
     | false =>
       simp only[Bool.false_eq_true,if_false]at c4 fin au aA aB;repeat' first|simp (disch:=omega) only[go_sem,au,aA,aB,Int.natCast_add,Int.cast_ofNat_Int]|refine aq ?_|refine bh hmk ?_|refine bh r8 ?_|refine bh wo ?_|refine bh c1 ?_|refine bh c2 ?_|refine bh c3 ?_|refine bh c4 ?_|refine bh c5 ?_|refine ak ?_ ?_<;>intro hw<;>try omega|fail
       exact bR (fin _) (aW.eqv (by simp[bD]) (aS _ _ _))
  ·obtain⟨rfl,rfl⟩:o1=false/\o2=false:=⟨by cases o1 with|false=>rfl|true=>exact absurd (.inl rfl) hin,by cases o2 with|false=>rfl|true=>exact absurd (.inr rfl) hin⟩;simp only[Bool.false_eq_true,if_false]at hR;subst hR;have c1:=E7 T p b hT hs;simp only[tC]at hE au aA aB;generalize gU T p b=x at *;rw[aR]at c1;simp only[bD,Bool.false_eq_true,if_false]at r8 wo c1 hmk;repeat' first|refine aq ?_|refine bh hmk ?_|refine bh r8 ?_|refine bh wo ?_|refine bh c1 ?_|refine ak ?_ ?_<;>intro hw<;>try omega|fail
   exact bR (by rw[<-hE];exact QD) (aW.refl (aS _ _ _))
def rP(T:List Tok)(p:Nat)(b:Bool)(s:aJ)(o:Bool)(h:ew T p b 4 s=o): bj Tryz.prog eC 0 [.str s] (bD T p b) (bD T p b) (.bool o):=by
 rw[<-h];exact Wj T p b s
def Wl{T:List Tok}{r:RS}{k:Int}{s:aJ}(h:r.bad=true): (ie T r k s).p=r.p/\(ie T r k s).bad=true:=by
 have:ew T r.p r.bad k s=false:=by unfold ew;rw[h];rfl
 simp only[ie,rA,this,h];exact⟨rfl,rfl⟩
set_option maxHeartbeats 2000000 in
def Ny (T : List Tok) (p : Nat) (b : Bool) (hp : p <= T.length) (hT : T.length <= 2 ^ 50) (hs : ∀ q, (T.getD q default).s.length <= 2 ^ 62) :
    bj Tryz.prog jD 0 [] (bD T p b) (bD T (ey T p b).p (ey T p b).bad) (bO (ey T p b).t):=by
 generalize hR:ey T p b=R;generalize hE:bO R.t=E;refine bj.bV (HI (by simp) ?_) rfl (aS _ _ _);unfold yD aP;intro Q au aA aB;repeat' first|refine aq ?_|refine ak ?_ ?_<;>intro hw<;>try omega|fail
 with_reducible refine bn [3,5,6,7,8,9,10,11,12,13,14,15,16,17,18,19,20,21,22,23] (fun k:Int=>[(3,I k)]) (fun _=>[.cells [.aK false ET (T.map mF),I p,.bool b],.cells [I 0,I 0,I 0,I 0,.str [],.str [],.ae,I 0,I 0,I 0,.str [],.str [],.ae,.bool false,.bool false]]) (fun k=>2<=k/\k<=6/\ ∀ j:Int,2<=j->j<k->ew T p b 4 (iQ j)=false) (fun k=>(6-k).toNat) (2) ?_ ?_ ?_ ?_
 ·exact⟨by omega,by omega,fun j h1 h2=>by omega⟩
 ·rfl
 ·exact at_
 rintro k r ⟨h1,h2,h3⟩;by_cases hk:k<=5
 ·have hgo:=Qz k;obtain⟨o,ho⟩:∃ o,ew T p b 4 (iQ k)=o:=⟨_,rfl⟩;have qf:=rP T p b (iQ k) o ho;cases o with
  | false =>
    simp only[bD]at qf;repeat' first|refine aq ?_|refine aC hgo ?_|refine bh qf ?_|refine ak ?_ ?_<;>intro hw<;>try omega|fail
    refine⟨k+1,?_,?_,by first|rfl|(simp[go_sem];done),bJ,at_⟩<;>(try dsimp only)
    ·refine⟨by omega,by omega,fun j S6 Ka=>?_⟩;by_cases FY:j=k
     ·subst FY;exact ho
     ·exact h3 j S6 (by omega)
    ·omega
  | true =>
    have QE:=kD ho;have hce:=B_ T (p+1) b hT hs;rw[QB h1 hk h3 ho]at hR;subst hR;simp only[tC]at hE au aA aB;generalize gU T (p+1) b=x at *;rw[aR]at hce;simp only[bD,Int.natCast_add,Int.cast_ofNat_Int]at qf hce;repeat' first|simp (disch:=omega) only[go_sem,au,aA,aB,Int.natCast_add,Int.cast_ofNat_Int]|refine aq ?_|refine aC hgo ?_|refine bh qf ?_|refine bh hce ?_|refine ak ?_ ?_<;>intro hw<;>try omega|fail
    exact bR (by rw[<-hE];exact QD) (aW.refl (aS _ _ _))
 ·obtain rfl:k=6:=by omega
  rw[QC (fun j S6 Ka=>h3 j S6 Ka)]at hR;obtain⟨o1,Js⟩:∃ o,ew T p b 4 [91]=o:=⟨_,rfl⟩;obtain⟨o2,E5⟩:∃ o,ew T p b 4 [93]=o:=⟨_,rfl⟩;have r8:=rP T p b [91] o1 Js;have wo:=rP T p b [93] o2 E5;have hmo:=zm T p b [93] (by decide);rw[Js,E5]at hR;rw[E5]at hmo;have zR:=zm T p b [91] (by decide);rw[Js]at zR;generalize hmt:ya T p=mt at *;by_cases hin:o1=true\/o2=true
  ·have QE : p < T.length /\ b = false := by
    rcases hin with h|h
    ·exact kD (Js.trans h)
    ·exact kD (E5.trans h)
   obtain⟨QE,rfl⟩:=QE
   have PM:R=Nw T p o2/\(o1=true->o2=false):=by
    rw[<-hR];simp only[gk,dA]at hmo zR;cases o1 with
    | true =>
      have:mt=[91]:=by simpa using zR.symm
      have h2:o2=false:=by rw[hmo,this];rfl
      rw[if_pos rfl,h2];exact⟨rfl,fun _=>rfl⟩
    | false =>
      rcases hin with h|h
      ·cases h
      ·subst h;rw[if_neg (by simp),if_pos rfl];exact⟨rfl,fun h=>by cases h⟩
   clear hR zR hmo hmt;obtain⟨PM,agd⟩:=PM;subst PM;obtain⟨g1,g2,g3,g4,_⟩:=Mq (T:=T) QE;have c1:=B_ T (p+1) false hT hs;have c2:=H9 T (oZ T p).p (oZ T p).bad [46,46] (by omega);have c3:=B_ T (qK T p).p (qK T p).bad hT hs;obtain⟨o3,Ls⟩:∃ o,inH T p=o:=⟨_,rfl⟩;have c4:=rP T (gF T p).p (gF T p).bad [91] o3 Ls;have c5:=H9 T (gF T p).p (gF T p).bad [93] (by omega);have k1:(oZ T p).bad=true->(qK T p).p=(oZ T p).p/\(qK T p).bad=true:=Wl;have k3:(gF T p).bad=true->(ie T (gF T p) 4 [93]).p=(gF T p).p/\(ie T (gF T p) 4 [93]).bad=true:=Wl;have k4:o3=true->(gF T p).bad=false:=fun h=>(kD (Ls.trans h)).2
   change bj _ _ _ _ _ (bD T (oZ T p).p (oZ T p).bad) (aL (oZ T p).x)at c1
   change bj _ _ _ _ _ (bD T (qK T p).p (qK T p).bad) _ at c2
   change bj _ _ _ _ _ (bD T (gF T p).p (gF T p).bad) (aL (gF T p).x)at c3
   change bj _ _ _ _ _ (bD T (ie T (gF T p) 4 [93]).p (ie T (gF T p) 4 [93]).bad) _ at c5
   have Nx:zn T p=if o3 then⟨x0,(gF T p).p+1,(gF T p).bad⟩else ie T (gF T p) 4 [93]:=by rw[<-Ls];rfl
   have Wk:Nw T p o2=⟨⟨6,(oZ T p).x,(gF T p).x,o2,o3⟩,(zn T p).p,(zn T p).bad⟩:=by rw[<-Ls];rfl
   rw[Wk]at hE au aA aB;rw[Nx]at au aA aB;clear Nx Wk Ls Js E5 g1 g2 g4;generalize ie T (gF T p) 4 [93]=r5 at *;generalize oZ T p=r1 at *;generalize qK T p=r2 at *;generalize gF T p=r3 at *;rw[aR]at c1 c3;simp only[bO,cw]at hE
   have fin:∀ σ : aj,View σ (.agg [I 6,I r1.x.op,I r1.x.v.kind,I r1.x.v.n,.str r1.x.v.s,.str r1.x.s,.aK false EX (r1.x.l.map aL),I r3.x.op,I r3.x.v.kind,I r3.x.v.n,.str r3.x.v.s,.str r3.x.s,.aK false EX (r3.x.l.map aL),.bool o2,.bool o3]) E:=fun σ=>by
    rw[<-hE];exact View.eqv rfl (by simp)
   clear hE;obtain⟨x1,p1,b1⟩:=r1;obtain⟨x2,p2,b2⟩:=r2;obtain⟨x3,p3,b3⟩:=r3;obtain⟨x5,p5,b5⟩:=r5;dsimp only at *;simp only[bD,Int.natCast_add,Int.cast_ofNat_Int]at r8 wo c1 c2 c3 c4 c5
   have age:∀ {v:AV} {oC:List AV} {τ : aj},View (.dead:: τ) v E->o3=true->oC=bD T (p3+1) false->b3=false-> ∃ r0 Cq CO,Out.ret (oneOf [v])=Out.ret r0/\aX.cells oC:: τ = aX.cells Cq::CO/\View (.dead::CO) r0 E/\aW (.dead::CO) Cq (bD T (if o3=true then(⟨x0,p3+1,b3⟩:RS)else ⟨x5,p5,b5⟩).p (if o3=true then(⟨x0,p3+1,b3⟩:RS)else ⟨x5,p5,b5⟩).bad):=fun hv h3 hd hb=>by
    rw[if_pos h3,hb];exact bR hv (aW.eqv hd (aS _ _ _))
   have aas:∀ {v:AV} {oC:List AV} {τ : aj},View (.dead:: τ) v E->o3=false->oC=bD T p5 b5-> ∃ r0 Cq CO,Out.ret (oneOf [v])=Out.ret r0/\aX.cells oC:: τ = aX.cells Cq::CO/\View (.dead::CO) r0 E/\aW (.dead::CO) Cq (bD T (if o3=true then(⟨x0,p3+1,b3⟩:RS)else ⟨x5,p5,b5⟩).p (if o3=true then(⟨x0,p3+1,b3⟩:RS)else ⟨x5,p5,b5⟩).bad):=fun hv h3 hd=>by
    rw[if_neg (by simp[h3])];exact bR hv (aW.eqv hd (aS _ _ _))
   generalize (if o3=true then(⟨x0,p3+1,b3⟩:RS)else ⟨x5,p5,b5⟩)=rz at *
   have H_:o1=true/\o2=false\/o1=false/\o2=true:=by
    cases o1 with
    | true=>exact .inl ⟨rfl,agd rfl⟩
    | false => rcases hin with h | h
               ·cases h
               ·exact .inr ⟨rfl,h⟩
   clear hin agd;rcases H_ with⟨rfl,rfl⟩|⟨rfl,rfl⟩
   all_goals
    cases b1 with
    | true =>
      obtain⟨rfl,rfl⟩:=k1 rfl;cases b3 with
      | true =>
        obtain⟨rfl,rfl⟩:=k3 rfl
        have h3:o3=false:=by cases o3 with
         | false=>rfl
         | true=>exact absurd (k4 rfl) (by simp)
        subst h3;repeat' first|simp (disch:=omega) only[go_sem,au,aA,aB,Int.natCast_add,Int.cast_ofNat_Int]|refine aq ?_|refine bh r8 ?_|refine bh wo ?_|refine bh c1 ?_|refine bh c3 ?_|refine bh c4 ?_|refine ak ?_ ?_<;>intro hw<;>try omega|fail
        all_goals exact aas (fin _) rfl rfl
      | false =>
        cases o3 with
        | true =>
          repeat' first|simp (disch:=omega) only[go_sem,au,aA,aB,Int.natCast_add,Int.cast_ofNat_Int]|refine aq ?_|refine bh r8 ?_|refine bh wo ?_|refine bh c1 ?_|refine bh c3 ?_|refine bh c4 ?_|refine ak ?_ ?_<;>intro hw<;>try omega|fail
          all_goals exact age (fin _) rfl (by simp[bD]) rfl
        | false =>
          repeat' first|simp (disch:=omega) only[go_sem,au,aA,aB,Int.natCast_add,Int.cast_ofNat_Int]|refine aq ?_|refine bh r8 ?_|refine bh wo ?_|refine bh c1 ?_|refine bh c3 ?_|refine bh c4 ?_|refine bh c5 ?_|refine ak ?_ ?_<;>intro hw<;>try omega|fail
          all_goals exact aas (fin _) rfl rfl
    | false =>
      cases b3 with
      | true =>
        obtain⟨rfl,rfl⟩:=k3 rfl
        have h3:o3=false:=by cases o3 with
         | false=>rfl
         | true=>exact absurd (k4 rfl) (by simp)
        subst h3;repeat' first|simp (disch:=omega) only[go_sem,au,aA,aB,Int.natCast_add,Int.cast_ofNat_Int]|refine aq ?_|refine bh r8 ?_|refine bh wo ?_|refine bh c1 ?_|refine bh c2 ?_|refine bh c3 ?_|refine bh c4 ?_|refine ak ?_ ?_<;>intro hw<;>try omega|fail
        all_goals exact aas (fin _) rfl rfl
      | false =>
        cases o3 with
        | true =>
          repeat' first|simp (disch:=omega) only[go_sem,au,aA,aB,Int.natCast_add,Int.cast_ofNat_Int]|refine aq ?_|refine bh r8 ?_|refine bh wo ?_|refine bh c1 ?_|refine bh c2 ?_|refine bh c3 ?_|refine bh c4 ?_|refine ak ?_ ?_<;>intro hw<;>try omega|fail
          all_goals exact age (fin _) rfl (by simp[bD]) rfl
        | false =>
          repeat' first|simp (disch:=omega) only[go_sem,au,aA,aB,Int.natCast_add,Int.cast_ofNat_Int]|refine aq ?_|refine bh r8 ?_|refine bh wo ?_|refine bh c1 ?_|refine bh c2 ?_|refine bh c3 ?_|refine bh c4 ?_|refine bh c5 ?_|refine ak ?_ ?_<;>intro hw<;>try omega|fail
          all_goals exact aas (fin _) rfl rfl
  ·obtain⟨rfl,rfl⟩:o1=false/\o2=false:=⟨by cases o1 with|false=>rfl|true=>exact absurd (.inl rfl) hin,by cases o2 with|false=>rfl|true=>exact absurd (.inr rfl) hin⟩;simp only[Bool.false_eq_true,if_false]at hR;subst hR;have c1:=B_ T p b hT hs;simp only[tC]at hE au aA aB;generalize gU T p b=x at *;rw[aR]at c1;simp only[bD]at r8 wo c1;repeat' first|refine aq ?_|refine bh r8 ?_|refine bh wo ?_|refine bh c1 ?_|refine ak ?_ ?_<;>intro hw<;>try omega|fail
   exact bR (by rw[<-hE];exact QD) (aW.refl (aS _ _ _))
end Go.Proofs.YtmbgnaoilncbnaaGreatDoor
