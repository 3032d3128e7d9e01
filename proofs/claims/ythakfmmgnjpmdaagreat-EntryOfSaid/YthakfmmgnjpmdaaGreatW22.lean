/- Part. -/
import Derived.Test.YthakfmmgnjpmdaaGreatW21
set_option linter.all false
set_option maxHeartbeats 2000000
namespace Go.Proofs.YthakfmmgnjpmdaaGreat
open Go.AM
set_option maxRecDepth 4000
def Aq (fn : FuncId) (cap : List AV) (hcap : AV.bG cap = true) (p : Test -> Bool) (l : List Test) (h : ∀ k, k < l.length -> aF aD fn (bS (l.getD k default) :: cap) (.bool (p (l.getD k default)))) (hl : l.length <= 2 ^ 62) :
    aF aD 250 [gG l,.fn (.func fn) [] cap] (I (iT p l)):=by
 refine aK xx ?_ (by simp[AV.cQ,AV.bG,hcap,wA]);intro Q aq au aA;repeat' first|refine ak ?_|refine aj ?_ ?_<;>intro hw<;>try omega|fail
 with_reducible refine aX [4,5,8,9,10,11,12,13,14,15,16,17,18] (fun i:Nat=>[(8,I i)]) (fun _=>[]) (fun i=>i<=l.length/\ ∀ k,k<i->p (l.getD k default)=false) (fun i=>l.length-i) (0) ?_ ?_ ?_ ?_
 ·simp
 ·rfl
 ·exact at_
 ·rintro i r ⟨hi,hp⟩;by_cases hin:i<l.length
  ·have hx:=h i hin;simp only[bS,bW,dN,jb,bY,cH,gG,aL,lJ,nG]at hx;repeat' first|refine ak ?_|refine aj ?_ ?_<;>intro hw<;>try omega|fail
   ·refine aN ?_ rfl;refine congrArg I ?_;exact(lK hin hp hw).symm
   ·refine⟨i+1,?_,?_,by first|rfl|(simp[go_sem];done),bK,at_⟩<;>(try dsimp only)
    ·exact⟨by omega,bx hp hw⟩
    ·omega
  ·repeat' first|refine ak ?_|refine aj ?_ ?_<;>intro hw<;>try omega|fail
   refine aN ?_ rfl;refine congrArg I ?_;exact(kQ fun k hk=>hp k (by omega)).symm
def xQ (fn : FuncId) (cap : List AV) (hcap : AV.bG cap = true) (p : Test -> Bool) (l : List Test) (h : ∀ k, k < l.length -> aF aD fn (bS (l.getD k default) :: cap) (.bool (p (l.getD k default)))) (hl : l.length <= 2 ^ 62) :
    aF aD 211 [gG l,.fn (.func fn) [] cap] (.bool (l.any p)):=by
 refine aK vo ?_ (by simp[AV.cQ,AV.bG,hcap,wA]);intro Q aq au aA;have hc:=Aq fn cap hcap p l h hl;simp only[gG]at hc;repeat' first|refine ak ?_|refine aj ?_ ?_<;>intro hw<;>try omega|fail
 all_goals refine aN ?_ rfl
 all_goals rw[<-uF]
def mM(t:Test): Bool :=
 if t.kind=6 then nJ t.a && nJ t.b
 else decide (1<=t.kind/\t.kind<=5) && nJ t.a && pU t.b x0 && !t.lo && !t.hi
def F6(t:Test): Prop:=(iG t.a/\fE t.a<=2 ^ 60)/\iG t.b/\fE t.b<=2 ^ 60
def F7(c:Cell): Prop:=c.tests.length<=2 ^ 60/\ ∀ t ∈ c.tests,F6 t
def gW(c:Cell): Bool :=
 if c.any then !c.neg && decide (c.tests.length=0)
 else decide (1<=c.tests.length/\c.tests.length<=12) && !(c.tests.any fun t=> !(mM t))
def PO: fE x0<=2 ^ 60:=by simp[x0,fE,nY]
def PS: aJ x0 = .agg [I 0,I 0,I 0,.str [],.str [],.aG false EX []]:=by simp[x0,v0,aJ]
def cell_of(t:Test): aF aD 253 [bS t] (.agg [.bool t.lo,.bool t.hi]):=by
 refine aK UD ?_;intro Q aq au aA;simp only[bS,cH];repeat' first|refine ak ?_|refine aj ?_ ?_<;>intro hw<;>try omega|fail
 all_goals exact aN rfl rfl
def UY(t:Test)(h:F6 t): aF aD 213 [bS t] (.bool (mM t)):=by
 obtain⟨⟨a1,a2⟩,b1,b2⟩:=h;have ha:=Mv t.a a1 a2;have hb:=Mv t.b b1 b2;have hs:=RR t.b x0 (Jh _ b2) (Jh _ PO);have ho:=cell_of t;rw[PS]at hs;rw[aU]at ha hb hs;simp only[bS,cH]at ho ⊢;have hS:mM t=if t.kind=6 then nJ t.a && nJ t.b else decide (1<=t.kind/\t.kind<=5) && nJ t.a && pU t.b x0 && !t.lo && !t.hi:=rfl
 rw[hS];clear hS;generalize nJ t.a=pa at *;generalize nJ t.b=pb at *;generalize pU t.b x0=sb at *;refine aK NP ?_;intro Q aq au aA;repeat' first|refine ak ?_|refine yG hs ?_|refine aj ?_ ?_<;>intro hw<;>try omega|fail
 all_goals (refine aN ?_ rfl;refine congrArg AV.bool ?_;rw[aW];simp_all)
 all_goals (try omega)
def PT(t:Test)(h:F6 t): aF aD 212 [bS t] (.bool (!(mM t))):=by
 have h1:=UY t h;simp only[bS,cH]at h1 ⊢;generalize mM t=b at *;refine aK I6 ?_;intro Q aq au aA;repeat' first|refine ak ?_|refine aj ?_ ?_<;>intro hw<;>try omega|fail
 all_goals exact aN rfl rfl
def BE(c:Cell)(h:F7 c): aF aD 160 [bY c] (I (iz (gW c))):=by
 have hc:=xQ 212 [] rfl (fun t=> !(mM t)) c.tests (fun k hk=>PT _ (h.2 _ (aO hk))) (by have:=h.1;omega);have hl:=h.1;simp only[gG,bY]at hc ⊢;have hS:gW c=if c.any then !c.neg && decide (c.tests.length=0)else decide (1<=c.tests.length/\c.tests.length<=12) && !(c.tests.any fun t=> !(mM t)):=rfl
 rw[hS];clear hS;generalize c.tests.any (fun t=> !(mM t))=an at *;refine aK NI ?_;intro Q aq au aA;repeat' first|refine ak ?_|refine aj ?_ ?_<;>intro hw<;>try omega|fail
 all_goals (refine aN ?_ rfl;refine congrArg I ?_;simp_all[iz,<-List.length_eq_zero_iff])
 all_goals (try omega)
 all_goals (intro h0;exfalso;omega)
def UZ(t:Test)(h:F6 t): aF aD 193 [bS t] (.bool (mM t)):=by
 obtain⟨⟨a1,a2⟩,b1,b2⟩:=h;have ha:=Jq t.a a1 a2;have hb:=Jq t.b b1 b2;have hs:=UL t.b x0 (Jh _ b2) (Jh _ PO);rw[PS]at hs;rw[aU]at ha hb hs;simp only[bS,cH];have hS:mM t=if t.kind=6 then nJ t.a && nJ t.b else decide (1<=t.kind/\t.kind<=5) && nJ t.a && pU t.b x0 && !t.lo && !t.hi:=rfl
 rw[hS];clear hS;generalize nJ t.a=pa at *;generalize nJ t.b=pb at *;generalize pU t.b x0=sb at *;refine aK NN ?_;intro Q aq au aA;repeat' first|refine ak ?_|refine yG hs ?_|refine aj ?_ ?_<;>intro hw<;>try omega|fail
 all_goals (refine aN ?_ rfl;refine congrArg AV.bool ?_;rw[aW];simp_all)
 all_goals (try omega)
def zj(c:Cell)(h:F7 c): aF aD 139 [bY c] (.bool (gW c)):=by
 have ht:=fun k (hk:k<c.tests.length)=>UZ _ (h.2 _ (aO hk));have hl:=h.1;simp only[bY,gG];have hS:gW c=if c.any then !c.neg && decide (c.tests.length=0)else decide (1<=c.tests.length/\c.tests.length<=12) && !(c.tests.any fun t=> !(mM t)):=rfl
 rw[hS];clear hS;refine aK KW ?_;intro Q aq au aA;repeat' first|refine ak ?_|refine aj ?_ ?_<;>intro hw<;>try omega|fail
 ·refine aN ?_ rfl;refine congrArg AV.bool ?_;rw[aW];simp_all
 ·refine aN ?_ rfl;refine congrArg AV.bool ?_;rw[aW];simp_all
 with_reducible refine aX [2,3,15,16,17,18,19,20,21,22,23,24,25,26,27,28] (fun i:Nat=>[(3,I i)]) (fun _=>[.cells [.bool c.any,.bool c.neg,.aG false ES (c.tests.map bS)]]) (fun i=>i<=c.tests.length/\ ∀ k,k<i->(!(mM (c.tests.getD k default)))=false) (fun i=>c.tests.length-i) (0) ?_ ?_ ?_ ?_
 ·simp
 ·rfl
 ·exact at_
 rintro i r ⟨h1,h2⟩;by_cases hi:i<c.tests.length
 ·have h3:=ht i hi;simp only[bS,cH]at h3;repeat' first|refine ak ?_|refine aj ?_ ?_<;>intro hw<;>try omega|fail
  ·refine aN ?_ rfl;rw[D4 (p:=fun t=> !(mM t)) hi (by simpa using hw)];simp_all
  ·refine⟨i+1,?_,?_,by first|rfl|(simp[go_sem];done),bK,at_⟩<;>(try dsimp only)
   ·exact⟨by omega,bx h2 (by simpa using hw)⟩
   ·omega
 ·repeat' first|refine ak ?_|refine aj ?_ ?_<;>intro hw<;>try omega|fail
  all_goals (refine aN ?_ rfl;rw[Ag (p:=fun t=> !(mM t)) (fun k hk=>h2 k (by omega))];refine congrArg AV.bool ?_;rw[aW];simp_all)
  all_goals (try omega)
def mS(k:Int): aS:=if k=2 then [60]else if k=3 then [60,61]else if k=4 then [62]else if k=5 then [62,61]else []
def Xc(k:Int): aF aD 248 [I k] (.str (mS k)):=by
 refine aK Ps ?_;intro Q aq au aA;repeat' first|refine ak ?_|refine aj ?_ ?_<;>intro hw<;>try omega|fail
 all_goals (refine aN ?_ rfl;simp_all[mS])
def U0(k:Int): aF aD 191 [I k] (.str (mS k)):=by
 refine aK NM ?_;intro Q aq au aA;repeat' first|refine ak ?_|refine aj ?_ ?_<;>intro hw<;>try omega|fail
 all_goals (refine aN ?_ rfl;simp_all[mS])
def tI(T:List cg)(p:Nat): aS:=if(T.getD p default).kind=4 then(T.getD p default).s else []
def uI(T:List cg)(p:Nat)(b:Bool)(s:aS)(hs:s≠[]): eG T p b 4 s=(!b && decide (tI T p=s)):=by
 unfold eG jA tI;by_cases hp:p<T.length
 ·generalize T.getD p default=t;by_cases h4:t.kind=4
  ·simp[hp,h4]
  ·simp[hp,h4,Ne.symm hs]
 ·rw[qh (by omega)];simp[hp,UN,Ne.symm hs]
def Ec(T:List cg)(p:Nat)(b:Bool): br aD 158 0 [] (bN T p b) (bN T p b) (.str (tI T p)):=by
 by_cases hp:p<T.length
 ·refine br.bM (uc.go ?_) rfl (aT _ _ _);unfold cj;intro Q aq au aA;repeat' first|refine ak ?_|refine aj ?_ ?_<;>intro hw<;>try omega|fail
  all_goals (refine bZ (View.eqv ?_ rfl) (bn.refl (aT T p b));simp_all[tI])
 ·have:tI T p=[]:=by unfold tI;rw[qh (by omega)];simp[UN]
  rw[this];refine br.bM (uc.go ?_) rfl (aT _ _ _);unfold cj;intro Q aq au aA;repeat' first|refine ak ?_|refine aj ?_ ?_<;>intro hw<;>try omega|fail
  all_goals exact bZ (View.eqv rfl rfl) (bn.refl (aT T p b))
def Te(T:List cg)(p:Nat)(b:Bool)(s:aS)(hs:s≠[])(hp:p<=2 ^ 61): br aD 209 0 [.str s] (bN T p b) (bN T (oS T p b 4 s) b) (.bool (eG T p b 4 s)):=by
 have hn:=Ec T p b;unfold oS;rw[uI T p b s hs];generalize tI T p=t at hn ⊢;simp only[bN]at hn;refine br.bM (FK.go ?_) rfl (aT _ _ _);unfold cj;intro Q aq au aA;repeat' first|refine ak ?_|refine bh hn ?_|refine aj ?_ ?_<;>intro hw<;>try omega|fail
 all_goals first
  |(refine bZ (View.eqv ?_ rfl) (bn.eqv ?_ (aT _ _ _))<;>simp_all[bN];done)
def Ed(T:List cg)(p:Nat)(b:Bool)(s:aS)(hs:s≠[])(hp:p<=2 ^ 61): br aD 210 0 [.str s] (bN T p b) (bN T (oS T p b 4 s) (b || !(eG T p b 4 s))) (.bJ []):=by
 have hn:=Te T p b s hs hp;generalize eG T p b 4 s=o at hn ⊢;simp only[bN]at hn;refine br.bM (C1.go ?_) rfl (aT _ _ _);unfold cj;intro Q aq au aA;cases o
 ·repeat' first|refine ak ?_|refine bh hn ?_|refine aj ?_ ?_<;>intro hw<;>try omega|fail
  refine tj rfl (bn.eqv ?_ (aT _ _ _));simp[bN]
 ·repeat' first|refine ak ?_|refine bh hn ?_|refine aj ?_ ?_<;>intro hw<;>try omega|fail
  refine tj rfl (bn.eqv ?_ (aT _ _ _));simp[bN]
def PU(T:List cg)(p:Nat)(b:Bool)(s:aS): br aD 136 0 [.str s] (bN T p b) (bN T p b) (.bool (eG T p b 4 s)):=by
 refine br.bM (DJ.go ?_) rfl (aT _ _ _);unfold cj;intro Q aq au aA;cases b with
 | true =>
   repeat' first|refine ak ?_|refine aj ?_ ?_<;>intro hw<;>try omega|fail
   all_goals exact bZ (View.eqv rfl rfl) (bn.refl (aT T p true))
 | false =>
   by_cases hp:p<T.length
   ·repeat' first|refine ak ?_|refine aj ?_ ?_<;>intro hw<;>try omega|fail
    all_goals (refine bZ (View.eqv ?_ rfl) (bn.refl (aT T p false));refine congrArg AV.bool ?_;rw[aW];simp_all[eG,jA])
   ·repeat' first|refine ak ?_|refine aj ?_ ?_<;>intro hw<;>try omega|fail
    all_goals (refine bZ (View.eqv ?_ rfl) (bn.refl (aT T p false));refine congrArg AV.bool ?_;rw[aW];simp_all[eG,jA])
    all_goals (intros;omega)
def BG(T:List cg)(p:Nat)(b:Bool)(s:aS)(hp:p<=2 ^ 61): br aD 138 0 [.str s] (bN T p b) (bN T (oS T p b 4 s) (b || !(eG T p b 4 s))) (.bJ []):=by
 have hn:=PU T p b s;unfold oS;have hb:eG T p b 4 s=true->b=false:=fun h=>(kD h).2;generalize eG T p b 4 s=o at hn hb ⊢;simp only[bN]at hn;refine br.bM (Bl.go ?_) rfl (aT _ _ _);unfold cj;intro Q aq au aA;cases o
 ·repeat' first|refine ak ?_|refine bh hn ?_|refine aj ?_ ?_<;>intro hw<;>try omega|fail
  refine tj rfl (bn.eqv ?_ (aT _ _ _));simp[bN]
 ·repeat' first|refine ak ?_|refine bh hn ?_|refine aj ?_ ?_<;>intro hw<;>try omega|fail
  refine tj rfl (bn.eqv ?_ (aT _ _ _));simp[bN]
def Tf(T:List cg)(l q:Nat): RS:=⟨(ez T q l).1,(ez T q l).2.1.toNat,decide ((ez T q l).2.2≠0)⟩
def ij(T:List cg)(p:Nat)(b:Bool): RS:=oT (Tf T) 4 p b
def Jr(T:List cg)(p:Nat): ij T p true=⟨x0,p,true⟩:=rfl
def F8(T:List cg)(p:Nat): ij T p false=Tf T 4 p:=rfl
def Zi(T:List cg){q:Nat}(hq:q<=T.length): Goes T.length q (Tf T 4 q):=by
 have hg:¬ ((q:Int)<0\/(T.length:Int)<q\/((4:Nat):Int)<0\/7<((4:Nat):Int)):=by omega
 have g:=(oa T (8*T.length+9) none 4 q hq).1 rfl;unfold Tf ez;rw[if_neg hg,ff,ff];split
 ·exact⟨by simpa using g.1,by simpa using g.2.1,fun h=>by simp at h⟩
 ·rename_i h;exact⟨by simpa using g.1,by simpa using g.2.1,fun _=>by have:=g.2.2 (by simpa using h);simpa using this⟩
def yM(T:List cg){q:Nat}{b:Bool}(hq:q<=T.length): Goes T.length q (ij T q b):=by
 cases b with
 | true=>exact⟨Nat.le_refl _,hq,fun h=>by cases h⟩
 | false=>exact Zi T hq
def yN(T:List cg)(p:Nat)(b:Bool)(hT:T.length<=2 ^ 50)(hs:∀ q,(T.getD q default).s.length<=2 ^ 62): br aD 249 0 [] (bN T p b) (bN T (ij T p b).p (ij T p b).bad) (aJ (ij T p b).x):=by
 cases b with
 | true =>
   rw[Jr];generalize hE:aJ _=E;refine br.bM (ud.go ?_) rfl (aT _ _ _);unfold cj;intro Q aq au aA;repeat' first|refine ak ?_|refine aj ?_ ?_<;>intro hw<;>try omega|fail
   exact bZ (by rw[<-hE];exact jr (.ai _)) (bn.refl (aT T p true))
 | false =>
   rw[F8];have cr:=F4 T p 4 hT hs;have Jm:=(Fl T p 4).1;simp only[Tf];have e4:((4:Nat):Int)=4:=rfl;rw[e4];generalize ez T p 4=r at *;obtain⟨rx,rn,re⟩:=r;dsimp only at *;obtain⟨n,rfl⟩:∃ n:Nat,rn=n:=⟨rn.toNat,by omega⟩;have e2:∀ σ : ae,View σ (.agg [I rx.op,I rx.v.kind,I rx.v.n,.str rx.v.s,.str rx.s,.aG false EX (rx.l.map aJ)]) (aJ rx):=fun σ=>View.eqv (aU _).symm (dR _);simp only[vu,pT]at cr;rw[aU]at cr;generalize aJ rx=E at *;rw[ff];refine br.bM (ud.go ?_) rfl (aT _ _ _);unfold cj;intro Q aq au aA;repeat' first|refine ak ?_|refine aj ?_ ?_<;>intro hw<;>try omega|fail
   all_goals (refine bZ (e2 _) (bn.eqv ?_ (aT _ _ _));simp[bN];rw[aW];simp)
def wE(T:List cg)(p:Nat)(b:Bool)(hT:T.length<=2 ^ 50)(hs:∀ q,(T.getD q default).s.length<=2 ^ 62): br aD 192 0 [] (bN T p b) (bN T (ij T p b).p (ij T p b).bad) (aJ (ij T p b).x):=by
 cases b with
 | true =>
   rw[Jr];generalize hE:aJ _=E;refine br.bM (tv.go ?_) rfl (aT _ _ _);unfold cj;intro Q aq au aA;repeat' first|refine ak ?_|refine aj ?_ ?_<;>intro hw<;>try omega|fail
   exact bZ (by rw[<-hE];exact jr (.ai _)) (bn.refl (aT T p true))
 | false =>
   rw[F8];have cr:=Jo T p 4 hT hs;have Jm:=(Fl T p 4).1;simp only[Tf];have e4:((4:Nat):Int)=4:=rfl;rw[e4];generalize ez T p 4=r at *;obtain⟨rx,rn,re⟩:=r;dsimp only at *;obtain⟨n,rfl⟩:∃ n:Nat,rn=n:=⟨rn.toNat,by omega⟩;have e2:∀ σ : ae,View σ (.agg [I rx.op,I rx.v.kind,I rx.v.n,.str rx.v.s,.str rx.s,.aG false EX (rx.l.map aJ)]) (aJ rx):=fun σ=>View.eqv (aU _).symm (dR _);simp only[vu,pT]at cr;rw[aU]at cr;generalize aJ rx=E at *;rw[ff];refine br.bM (tv.go ?_) rfl (aT _ _ _);unfold cj;intro Q aq au aA;repeat' first|refine ak ?_|refine aj ?_ ?_<;>intro hw<;>try omega|fail
   all_goals (refine bZ (e2 _) (bn.eqv ?_ (aT _ _ _));simp[bN];rw[aW];simp)
structure TS where
 t:Test
 p:Nat
 bad:Bool
deriving Inhabited
def qp(k:Int)(r:RS): TS:=⟨⟨k,r.x,x0,false,false⟩,r.p,r.bad⟩
def nV(T:List cg)(p:Nat): RS:=ij T (p+1) false
def oI(T:List cg)(p:Nat): RS:=iH T (nV T p) 4 [46,46]
def gH(T:List cg)(p:Nat): RS:=ij T (oI T p).p (oI T p).bad
def inH(T:List cg)(p:Nat): Bool:=eG T (gH T p).p (gH T p).bad 4 [91]
def uJ(T:List cg)(p:Nat): RS:=if inH T p then⟨x0,(gH T p).p+1,(gH T p).bad⟩else iH T (gH T p) 4 [93]
def F9(T:List cg)(p:Nat)(lo:Bool): TS:=⟨⟨6,(nV T p).x,(gH T p).x,lo,inH T p⟩,(uJ T p).p,(uJ T p).bad⟩
def eF(T:List cg)(p:Nat)(b:Bool): TS :=
 if eG T p b 4 [60]then qp 2 (ij T (p+1) b)
 else if eG T p b 4 [60,61]then qp 3 (ij T (p+1) b)
 else if eG T p b 4 [62]then qp 4 (ij T (p+1) b)
 else if eG T p b 4 [62,61]then qp 5 (ij T (p+1) b)
 else if eG T p b 4 [91]then F9 T p false
 else if eG T p b 4 [93]then F9 T p true
 else qp 1 (ij T p b)
def Zj{k:Int}(h:2<=k)(h':k<=5): mS k≠[]:=by
 rcases(by omega:k=2\/k=3\/k=4\/k=5)with rfl|rfl|rfl|rfl<;>decide
def Js{T:List cg}{p:Nat}{b:Bool}{k:Int}(h:2<=k)(h':k<=5)(hb:∀ j:Int,2<=j->j<k->eG T p b 4 (mS j)=false)(ho:eG T p b 4 (mS k)=true): eF T p b=qp k (ij T (p+1) b):=by
 have e2:mS 2=[60]:=rfl;have e3:mS 3=[60,61]:=rfl;have e4:mS 4=[62]:=rfl;have e5:mS 5=[62,61]:=rfl;unfold eF;rcases(by omega:k=2\/k=3\/k=4\/k=5)with rfl|rfl|rfl|rfl
 ·rw[e2]at ho;rw[if_pos ho]
 ·have h2:=hb 2 (by omega) (by omega);rw[e2]at h2;rw[e3]at ho;rw[if_neg (by simp[h2]),if_pos ho]
 ·have h2:=hb 2 (by omega) (by omega);have h3:=hb 3 (by omega) (by omega);rw[e2]at h2;rw[e3]at h3;rw[e4]at ho;rw[if_neg (by simp[h2]),if_neg (by simp[h3]),if_pos ho]
 ·have h2:=hb 2 (by omega) (by omega);have h3:=hb 3 (by omega) (by omega);have h4:=hb 4 (by omega) (by omega);rw[e2]at h2;rw[e3]at h3;rw[e4]at h4;rw[e5]at ho;rw[if_neg (by simp[h2]),if_neg (by simp[h3]),if_neg (by simp[h4]),if_pos ho]
def Jt{T:List cg}{p:Nat}{b:Bool}(hb:∀ j:Int,2<=j->j<6->eG T p b 4 (mS j)=false): eF T p b=if eG T p b 4 [91]then F9 T p false else if eG T p b 4 [93]then F9 T p true else qp 1 (ij T p b):=by
 have h2:eG T p b 4 [60]=false:=hb 2 (by omega) (by omega);have h3:eG T p b 4 [60,61]=false:=hb 3 (by omega) (by omega);have h4:eG T p b 4 [62]=false:=hb 4 (by omega) (by omega);have h5:eG T p b 4 [62,61]=false:=hb 5 (by omega) (by omega);unfold eF;rw[if_neg (by simp[h2]),if_neg (by simp[h3]),if_neg (by simp[h4]),if_neg (by simp[h5])]
def Xd{T:List cg}{p:Nat}{r:RS}(k:Int)(h:Goes T.length p r): p<=(qp k r).p/\(qp k r).p<=T.length:=⟨h.1,h.2.1⟩
def Fm{T:List cg}{p:Nat}(hp:p<T.length): (nV T p).p<=T.length/\(oI T p).p<=T.length/\(gH T p).p<=T.length/\(uJ T p).p<=T.length/\p<=(uJ T p).p:=by
 have g1:Goes T.length (p+1) (nV T p):=yM T hp;have g2:Goes T.length (p+1) (oI T p):=vt _ _ g1;have g3:Goes T.length (oI T p).p (gH T p):=yM T g2.2.1
 have g4:(uJ T p).p<=T.length/\(gH T p).p<=(uJ T p).p:=by
  unfold uJ;split
  ·rename_i h;exact⟨(kD h).1,Nat.le_succ _⟩
  ·have:=vt 4 [93] g3;refine⟨this.2.1,?_⟩;simp only[iH,oS];split<;>omega
 have:=g1.1;have:=g2.1;have:=g3.1;have m2:(nV T p).p<=(oI T p).p:=by simp only[oI,iH,oS];split<;>omega
 exact⟨g1.2.1,g2.2.1,g3.2.1,g4.1,by omega⟩
def yO{T:List cg}{p:Nat}{b:Bool}(hp:p<=T.length): p<=(eF T p b).p/\(eF T p b).p<=T.length:=by
 have st:∀ k s,eG T p b 4 s=true->p<=(qp k (ij T (p+1) b)).p/\(qp k (ij T (p+1) b)).p<=T.length:=fun k s h=>by
  have:=yM T (q:=p+1) (b:=b) (kD h).1;exact⟨Nat.le_of_succ_le this.1,this.2.1⟩
 unfold eF;split
 ·rename_i h;exact st _ _ h
 split
 ·rename_i h;exact st _ _ h
 split
 ·rename_i h;exact st _ _ h
 split
 ·rename_i h;exact st _ _ h
 split
 ·rename_i h;have:=Fm (kD h).1;exact⟨this.2.2.2.2,this.2.2.2.1⟩
 split
 ·rename_i h;have:=Fm (kD h).1;exact⟨this.2.2.2.2,this.2.2.2.1⟩
 ·exact Xd 1 (yM T hp)
def tJ(T:List cg)(p:Nat)(b:Bool)(s:aS)(o:Bool)(hs:s≠[])(hp:p<=2 ^ 61)(h:eG T p b 4 s=o): br aD 209 0 [.str s] (bN T p b) (bN T (if o then p+1 else p) b) (.bool o):=by
 have:=Te T p b s hs hp;unfold oS at this;rw[h]at this;exact this
def Ju{σ : ae}{k:Int}{r:Expr}: View σ (.agg [I k,I r.op,I r.v.kind,I r.v.n,.str r.v.s,.str r.s,.aG false EX (r.l.map aJ),I 0,I 0,I 0,.str [],.str [],.ai,.bool false,.bool false]) (bS ⟨k,r,x0,false,false⟩):=by
 simp only[bS,cH];refine View.n9 (.cons (.refl _ rfl) (.cons (.refl _ rfl) (.cons (.refl _ rfl) (.cons (.refl _ rfl) (.cons (.refl _ rfl) (.cons (.refl _ rfl) (.cons (.refl _ ?_) (.cons (.refl _ rfl) (.cons (.refl _ rfl) (.cons (.refl _ rfl) (.cons (.refl _ rfl) (.cons (.refl _ rfl) (.cons (.ai _) (.cons (.refl _ rfl) (.cons (.refl _ rfl) (.nil _))))))))))))))));simp
def Xe (T : List cg) (p : Nat) (b : Bool) (hp : p <= T.length) (hT : T.length <= 2 ^ 50) (hs : ∀ q, (T.getD q default).s.length <= 2 ^ 62) :
    br aD 208 0 [] (bN T p b) (bN T (eF T p b).p (eF T p b).bad) (bS (eF T p b).t):=by
 generalize hR:eF T p b=R;generalize hE:bS R.t=E;refine br.bM (C0.go ?_) rfl (aT _ _ _);unfold cj;intro Q aq au aA;repeat' first|refine ak ?_|refine aj ?_ ?_<;>intro hw<;>try omega|fail
 with_reducible refine aX [3,5,6,7,8,9,10,11,12,13,14,15,16] (fun k:Int=>[(3,I k)]) (fun _=>[.cells [.aG false ET (T.map lT),I p,.bool b],.cells [I 0,I 0,I 0,I 0,.str [],.str [],.ai,I 0,I 0,I 0,.str [],.str [],.ai,.bool false,.bool false]]) (fun k=>2<=k/\k<=6/\ ∀ j:Int,2<=j->j<k->eG T p b 4 (mS j)=false) (fun k=>(6-k).toNat) (2) ?_ ?_ ?_ ?_
 ·exact⟨by omega,by omega,fun j h1 h2=>by omega⟩
 ·rfl
 ·exact at_
 rintro k r ⟨h1,h2,h3⟩;by_cases hk:k<=5
 ·have m_:=Xc k;obtain⟨o,ho⟩:∃ o,eG T p b 4 (mS k)=o:=⟨_,rfl⟩;have oA:=tJ T p b (mS k) o (Zj h1 hk) (by omega) ho;cases o with
  | false =>
    simp only[bN,aI,if_false]at oA;repeat' first|refine ak ?_|refine bh oA ?_|refine aj ?_ ?_<;>intro hw<;>try omega|fail
    refine⟨k+1,?_,?_,by first|rfl|(simp[go_sem];done),bK,at_⟩<;>(try dsimp only)
    ·refine⟨by omega,by omega,fun j Cj sJ=>?_⟩;by_cases WB:j=k
     ·subst WB;exact ho
     ·exact h3 j Cj (by omega)
    ·omega
  | true =>
    have oU:=kD ho;have hce:=yN T (p+1) b hT hs;rw[Js h1 hk h3 ho]at hR;subst hR;simp only[qp]at hE aq au aA;generalize ij T (p+1) b=x at *;rw[aU]at hce;simp only[bN,if_true,Int.natCast_add,Int.cast_ofNat_Int]at oA hce;repeat' first|simp (disch:=omega) only[go_sem,aq,au,aA,Int.natCast_add,Int.cast_ofNat_Int]|refine ak ?_|refine bh oA ?_|refine bh hce ?_|refine aj ?_ ?_<;>intro hw<;>try omega|fail
    exact bZ (by rw[<-hE];exact Ju) (bn.refl (aT _ _ _))
 ·obtain rfl:k=6:=by omega
  rw[Jt (fun j Cj sJ=>h3 j Cj sJ)]at hR;have hmk:=Ec T p b;obtain⟨o1,CA⟩:∃ o,eG T p b 4 [91]=o:=⟨_,rfl⟩;obtain⟨o2,pV⟩:∃ o,eG T p b 4 [93]=o:=⟨_,rfl⟩;have pH:=tJ T p b [91] o1 (by decide) (by omega) CA;have sw:=tJ T p b [93] o2 (by decide) (by omega) pV;have hmo:=uI T p b [93] (by decide);rw[CA,pV]at hR;rw[pV]at hmo;have zL:=uI T p b [91] (by decide);rw[CA]at zL;generalize hmt:tI T p=mt at *;by_cases hin:o1=true\/o2=true
  ·have oU : p < T.length /\ b = false := by
    rcases hin with h|h
    ·exact kD (CA.trans h)
    ·exact kD (pV.trans h)
   obtain⟨oU,rfl⟩:=oU
   have Cn:R=F9 T p (decide (mt=[93])):=by
    rw[<-hR];simp only[gi,dG]at hmo zL;cases o1 with
    | true =>
      have:mt=[91]:=by simpa using zL.symm
      rw[if_pos rfl,this];rfl
    | false =>
      rcases hin with h|h
      ·cases h
      ·subst h;have:mt=[93]:=by simpa using hmo.symm
       rw[if_neg (by simp),if_pos rfl,this];rfl
   clear hR;subst Cn;obtain⟨g1,g2,g3,g4,_⟩:=Fm (T:=T) oU;have c1:=yN T (p+1) false hT hs;have c2:=Ed T (nV T p).p (nV T p).bad [46,46] (by decide) (by omega);have c3:=yN T (oI T p).p (oI T p).bad hT hs;obtain⟨o3,D_⟩:∃ o,inH T p=o:=⟨_,rfl⟩;have c4:=tJ T (gH T p).p (gH T p).bad [91] o3 (by decide) (by omega) D_;have c5:=Ed T (gH T p).p (gH T p).bad [93] (by decide) (by omega)
   change br _ _ _ _ _ (bN T (nV T p).p (nV T p).bad) (aJ (nV T p).x)at c1
   change br _ _ _ _ _ (bN T (oI T p).p (oI T p).bad) _ at c2
   change br _ _ _ _ _ (bN T (gH T p).p (gH T p).bad) (aJ (gH T p).x)at c3
   change br _ _ _ _ _ (bN T (iH T (gH T p) 4 [93]).p (iH T (gH T p) 4 [93]).bad) _ at c5
   have Ga:uJ T p=if o3 then⟨x0,(gH T p).p+1,(gH T p).bad⟩else iH T (gH T p) 4 [93]:=by rw[<-D_];rfl
   have PV:F9 T p (decide (mt=[93]))=⟨⟨6,(nV T p).x,(gH T p).x,decide (mt=[93]),o3⟩,(uJ T p).p,(uJ T p).bad⟩:=by rw[<-D_];rfl
   rw[PV]at hE aq au aA;rw[Ga]at aq au aA;clear Ga PV D_ CA pV g1 g2 g4;generalize iH T (gH T p) 4 [93]=r5 at *;generalize nV T p=r1 at *;generalize oI T p=r2 at *;generalize gH T p=r3 at *;rw[aU]at c1 c3;simp only[bS,cH]at hE;simp only[bN]at hmk
   have fin:∀ σ : ae,View σ (.agg [I 6,I r1.x.op,I r1.x.v.kind,I r1.x.v.n,.str r1.x.v.s,.str r1.x.s,.aG false EX (r1.x.l.map aJ),I r3.x.op,I r3.x.v.kind,I r3.x.v.n,.str r3.x.v.s,.str r3.x.s,.aG false EX (r3.x.l.map aJ),.bool (mt==[93]),.bool o3]) E:=fun σ=>by
    rw[<-hE,show decide (mt=[93])=(mt==[93]) from by rw[aW];simp];exact View.eqv rfl (by simp)
   clear hE;have hne:mt==[93]↔mt=[93]:=by simp
   cases o1 with
   | true =>
     simp only[bN,if_true,Int.natCast_add,Int.cast_ofNat_Int]at pH c1 c2 c3 c4 c5;cases o3 with
     | true =>
       simp only[if_true]at c4 fin aq au aA;repeat' first|simp (disch:=omega) only[go_sem,aq,au,aA,Int.natCast_add,Int.cast_ofNat_Int]|refine ak ?_|refine bh hmk ?_|refine bh pH ?_|refine bh c1 ?_|refine bh c2 ?_|refine bh c3 ?_|refine bh c4 ?_|refine aj ?_ ?_<;>intro hw<;>try omega|fail
       exact bZ (fin _) (bn.eqv (by simp[bN]) (aT _ _ _))
     | false =>
       simp only[aI,if_false]at c4 fin aq au aA;repeat' first|simp (disch:=omega) only[go_sem,aq,au,aA,Int.natCast_add,Int.cast_ofNat_Int]|refine ak ?_|refine bh hmk ?_|refine bh pH ?_|refine bh c1 ?_|refine bh c2 ?_|refine bh c3 ?_|refine bh c4 ?_|refine bh c5 ?_|refine aj ?_ ?_<;>intro hw<;>try omega|fail
       exact bZ (fin _) (bn.eqv (by simp[bN]) (aT _ _ _))
   | false =>
     have agi:o2=true:=by rcases hin with h|h<;>first|(cases h;done)|exact h
     subst agi;simp only[bN,if_true,aI,if_false,Int.natCast_add,Int.cast_ofNat_Int]at pH sw c1 c2 c3 c4 c5;cases o3 with
     | true =>
       simp only[if_true]at c4 fin aq au aA;repeat' first|simp (disch:=omega) only[go_sem,aq,au,aA,Int.natCast_add,Int.cast_ofNat_Int]|refine ak ?_|refine bh hmk ?_|refine bh pH ?_|refine bh sw ?_|refine bh c1 ?_|refine bh c2 ?_|refine bh c3 ?_|refine bh c4 ?_|refine aj ?_ ?_<;>intro hw<;>try omega|fail
       exact bZ (fin _) (bn.eqv (by simp[bN]) (aT _ _ _))
     | false =>
       simp only[aI,if_false]at c4 fin aq au aA;repeat' first|simp (disch:=omega) only[go_sem,aq,au,aA,Int.natCast_add,Int.cast_ofNat_Int]|refine ak ?_|refine bh hmk ?_|refine bh pH ?_|refine bh sw ?_|refine bh c1 ?_|refine bh c2 ?_|refine bh c3 ?_|refine bh c4 ?_|refine bh c5 ?_|refine aj ?_ ?_<;>intro hw<;>try omega|fail
       exact bZ (fin _) (bn.eqv (by simp[bN]) (aT _ _ _))
  ·obtain⟨rfl,rfl⟩:o1=false/\o2=false:=⟨by cases o1 with|false=>rfl|true=>exact absurd (.inl rfl) hin,by cases o2 with|false=>rfl|true=>exact absurd (.inr rfl) hin⟩;simp only[aI,if_false]at hR;subst hR;have c1:=yN T p b hT hs;simp only[qp]at hE aq au aA;generalize ij T p b=x at *;rw[aU]at c1;simp only[bN,aI,if_false]at pH sw c1 hmk;repeat' first|refine ak ?_|refine bh hmk ?_|refine bh pH ?_|refine bh sw ?_|refine bh c1 ?_|refine aj ?_ ?_<;>intro hw<;>try omega|fail
   exact bZ (by rw[<-hE];exact Ju) (bn.refl (aT _ _ _))
def pC(T:List cg)(p:Nat)(b:Bool)(s:aS)(o:Bool)(h:eG T p b 4 s=o): br aD 136 0 [.str s] (bN T p b) (bN T p b) (.bool o):=by
 rw[<-h];exact PU T p b s
def PW{T:List cg}{r:RS}{k:Int}{s:aS}(h:r.bad=true): (iH T r k s).p=r.p/\(iH T r k s).bad=true:=by
 have:eG T r.p r.bad k s=false:=by unfold eG;rw[h];rfl
 simp only[iH,oS,this,h];exact⟨rfl,rfl⟩
def Gb (T : List cg) (p : Nat) (b : Bool) (hp : p <= T.length) (hT : T.length <= 2 ^ 50) (hs : ∀ q, (T.getD q default).s.length <= 2 ^ 62) :
    br aD 137 0 [] (bN T p b) (bN T (eF T p b).p (eF T p b).bad) (bS (eF T p b).t):=by
 generalize hR:eF T p b=R;generalize hE:bS R.t=E;refine br.bM (Bj.go ?_) rfl (aT _ _ _);unfold cj;intro Q aq au aA;repeat' first|refine ak ?_|refine aj ?_ ?_<;>intro hw<;>try omega|fail
 with_reducible refine aX [3,5,6,7,8,9,10,11,12,13,14,15,16,17,18,19,20,21,22,23] (fun k:Int=>[(3,I k)]) (fun _=>[.cells [.aG false ET (T.map lT),I p,.bool b],.cells [I 0,I 0,I 0,I 0,.str [],.str [],.ai,I 0,I 0,I 0,.str [],.str [],.ai,.bool false,.bool false]]) (fun k=>2<=k/\k<=6/\ ∀ j:Int,2<=j->j<k->eG T p b 4 (mS j)=false) (fun k=>(6-k).toNat) (2) ?_ ?_ ?_ ?_
 ·exact⟨by omega,by omega,fun j h1 h2=>by omega⟩
 ·rfl
 ·exact at_
 rintro k r ⟨h1,h2,h3⟩;by_cases hk:k<=5
 ·have m_:=U0 k;obtain⟨o,ho⟩:∃ o,eG T p b 4 (mS k)=o:=⟨_,rfl⟩;have oA:=pC T p b (mS k) o ho;cases o with
  | false =>
    simp only[bN]at oA;repeat' first|refine ak ?_|refine bh oA ?_|refine aj ?_ ?_<;>intro hw<;>try omega|fail
    refine⟨k+1,?_,?_,by first|rfl|(simp[go_sem];done),bK,at_⟩<;>(try dsimp only)
    ·refine⟨by omega,by omega,fun j Cj sJ=>?_⟩;by_cases WB:j=k
     ·subst WB;exact ho
     ·exact h3 j Cj (by omega)
    ·omega
  | true =>
    have oU:=kD ho;have hce:=wE T (p+1) b hT hs;rw[Js h1 hk h3 ho]at hR;subst hR;simp only[qp]at hE aq au aA;generalize ij T (p+1) b=x at *;rw[aU]at hce;simp only[bN,Int.natCast_add,Int.cast_ofNat_Int]at oA hce;repeat' first|simp (disch:=omega) only[go_sem,aq,au,aA,Int.natCast_add,Int.cast_ofNat_Int]|refine ak ?_|refine bh oA ?_|refine bh hce ?_|refine aj ?_ ?_<;>intro hw<;>try omega|fail
    exact bZ (by rw[<-hE];exact Ju) (bn.refl (aT _ _ _))
 ·obtain rfl:k=6:=by omega
  rw[Jt (fun j Cj sJ=>h3 j Cj sJ)]at hR;obtain⟨o1,CA⟩:∃ o,eG T p b 4 [91]=o:=⟨_,rfl⟩;obtain⟨o2,pV⟩:∃ o,eG T p b 4 [93]=o:=⟨_,rfl⟩;have pH:=pC T p b [91] o1 CA;have sw:=pC T p b [93] o2 pV;have hmo:=uI T p b [93] (by decide);rw[CA,pV]at hR;rw[pV]at hmo;have zL:=uI T p b [91] (by decide);rw[CA]at zL;generalize hmt:tI T p=mt at *;by_cases hin:o1=true\/o2=true
  ·have oU : p < T.length /\ b = false := by
    rcases hin with h|h
    ·exact kD (CA.trans h)
    ·exact kD (pV.trans h)
   obtain⟨oU,rfl⟩:=oU
   have Cn:R=F9 T p o2/\(o1=true->o2=false):=by
    rw[<-hR];simp only[gi,dG]at hmo zL;cases o1 with
    | true =>
      have:mt=[91]:=by simpa using zL.symm
      have h2:o2=false:=by rw[hmo,this];rfl
      rw[if_pos rfl,h2];exact⟨rfl,fun _=>rfl⟩
    | false =>
      rcases hin with h|h
      ·cases h
      ·subst h;rw[if_neg (by simp),if_pos rfl];exact⟨rfl,fun h=>by cases h⟩
   clear hR zL hmo hmt;obtain⟨Cn,ac6⟩:=Cn;subst Cn;obtain⟨g1,g2,g3,g4,_⟩:=Fm (T:=T) oU;have c1:=wE T (p+1) false hT hs;have c2:=BG T (nV T p).p (nV T p).bad [46,46] (by omega);have c3:=wE T (oI T p).p (oI T p).bad hT hs;obtain⟨o3,D_⟩:∃ o,inH T p=o:=⟨_,rfl⟩;have c4:=pC T (gH T p).p (gH T p).bad [91] o3 D_;have c5:=BG T (gH T p).p (gH T p).bad [93] (by omega);have k1:(nV T p).bad=true->(oI T p).p=(nV T p).p/\(oI T p).bad=true:=PW;have k3:(gH T p).bad=true->(iH T (gH T p) 4 [93]).p=(gH T p).p/\(iH T (gH T p) 4 [93]).bad=true:=PW;have k4:o3=true->(gH T p).bad=false:=fun h=>(kD (D_.trans h)).2
   change br _ _ _ _ _ (bN T (nV T p).p (nV T p).bad) (aJ (nV T p).x)at c1
   change br _ _ _ _ _ (bN T (oI T p).p (oI T p).bad) _ at c2
   change br _ _ _ _ _ (bN T (gH T p).p (gH T p).bad) (aJ (gH T p).x)at c3
   change br _ _ _ _ _ (bN T (iH T (gH T p) 4 [93]).p (iH T (gH T p) 4 [93]).bad) _ at c5
   have Ga:uJ T p=if o3 then⟨x0,(gH T p).p+1,(gH T p).bad⟩else iH T (gH T p) 4 [93]:=by rw[<-D_];rfl
   have PV:F9 T p o2=⟨⟨6,(nV T p).x,(gH T p).x,o2,o3⟩,(uJ T p).p,(uJ T p).bad⟩:=by rw[<-D_];rfl
   rw[PV]at hE aq au aA;rw[Ga]at aq au aA;clear Ga PV D_ CA pV g1 g2 g4;generalize iH T (gH T p) 4 [93]=r5 at *;generalize nV T p=r1 at *;generalize oI T p=r2 at *;generalize gH T p=r3 at *;rw[aU]at c1 c3;simp only[bS,cH]at hE
   have fin:∀ σ : ae,View σ (.agg [I 6,I r1.x.op,I r1.x.v.kind,I r1.x.v.n,.str r1.x.v.s,.str r1.x.s,.aG false EX (r1.x.l.map aJ),I r3.x.op,I r3.x.v.kind,I r3.x.v.n,.str r3.x.v.s,.str r3.x.s,.aG false EX (r3.x.l.map aJ),.bool o2,.bool o3]) E:=fun σ=>by
    rw[<-hE];exact View.eqv rfl (by simp)
   clear hE;obtain⟨x1,p1,b1⟩:=r1;obtain⟨x2,p2,b2⟩:=r2;obtain⟨x3,p3,b3⟩:=r3;obtain⟨x5,p5,b5⟩:=r5;dsimp only at *;simp only[bN,Int.natCast_add,Int.cast_ofNat_Int]at pH sw c1 c2 c3 c4 c5
   have ac7:∀ {v:AV} {n6:List AV} {τ : ae},View (.dead:: τ) v E->o3=true->n6=bN T (p3+1) false->b3=false-> ∃ r0 vW tq,Out.ret (oneOf [v])=Out.ret r0/\bE.cells n6:: τ = bE.cells vW::tq/\View (.dead::tq) r0 E/\bn (.dead::tq) vW (bN T (if o3=true then(⟨x0,p3+1,b3⟩:RS)else ⟨x5,p5,b5⟩).p (if o3=true then(⟨x0,p3+1,b3⟩:RS)else ⟨x5,p5,b5⟩).bad):=fun hv h3 hd hb=>by
    rw[if_pos h3,hb];exact bZ hv (bn.eqv hd (aT _ _ _))
   have U1:∀ {v:AV} {n6:List AV} {τ : ae},View (.dead:: τ) v E->o3=false->n6=bN T p5 b5-> ∃ r0 vW tq,Out.ret (oneOf [v])=Out.ret r0/\bE.cells n6:: τ = bE.cells vW::tq/\View (.dead::tq) r0 E/\bn (.dead::tq) vW (bN T (if o3=true then(⟨x0,p3+1,b3⟩:RS)else ⟨x5,p5,b5⟩).p (if o3=true then(⟨x0,p3+1,b3⟩:RS)else ⟨x5,p5,b5⟩).bad):=fun hv h3 hd=>by
    rw[if_neg (by simp[h3])];exact bZ hv (bn.eqv hd (aT _ _ _))
   generalize (if o3=true then(⟨x0,p3+1,b3⟩:RS)else ⟨x5,p5,b5⟩)=rz at *
   have BH:o1=true/\o2=false\/o1=false/\o2=true:=by
    cases o1 with
    | true=>exact .inl ⟨rfl,ac6 rfl⟩
    | false => rcases hin with h | h
               ·cases h
               ·exact .inr ⟨rfl,h⟩
   clear hin ac6;rcases BH with⟨rfl,rfl⟩|⟨rfl,rfl⟩
   all_goals
    cases b1 with
    | true =>
      obtain⟨rfl,rfl⟩:=k1 rfl;cases b3 with
      | true =>
        obtain⟨rfl,rfl⟩:=k3 rfl
        have h3:o3=false:=by cases o3 with
         | false=>rfl
         | true=>exact absurd (k4 rfl) (by simp)
        subst h3;repeat' first|simp (disch:=omega) only[go_sem,aq,au,aA,Int.natCast_add,Int.cast_ofNat_Int]|refine ak ?_|refine bh pH ?_|refine bh sw ?_|refine bh c1 ?_|refine bh c3 ?_|refine bh c4 ?_|refine aj ?_ ?_<;>intro hw<;>try omega|fail
        all_goals exact U1 (fin _) rfl rfl
      | false =>
        cases o3 with
        | true =>
          repeat' first|simp (disch:=omega) only[go_sem,aq,au,aA,Int.natCast_add,Int.cast_ofNat_Int]|refine ak ?_|refine bh pH ?_|refine bh sw ?_|refine bh c1 ?_|refine bh c3 ?_|refine bh c4 ?_|refine aj ?_ ?_<;>intro hw<;>try omega|fail
          all_goals exact ac7 (fin _) rfl (by simp[bN]) rfl
        | false =>
          repeat' first|simp (disch:=omega) only[go_sem,aq,au,aA,Int.natCast_add,Int.cast_ofNat_Int]|refine ak ?_|refine bh pH ?_|refine bh sw ?_|refine bh c1 ?_|refine bh c3 ?_|refine bh c4 ?_|refine bh c5 ?_|refine aj ?_ ?_<;>intro hw<;>try omega|fail
          all_goals exact U1 (fin _) rfl rfl
    | false =>
      cases b3 with
      | true =>
        obtain⟨rfl,rfl⟩:=k3 rfl
        have h3:o3=false:=by cases o3 with
         | false=>rfl
         | true=>exact absurd (k4 rfl) (by simp)
        subst h3;repeat' first|simp (disch:=omega) only[go_sem,aq,au,aA,Int.natCast_add,Int.cast_ofNat_Int]|refine ak ?_|refine bh pH ?_|refine bh sw ?_|refine bh c1 ?_|refine bh c2 ?_|refine bh c3 ?_|refine bh c4 ?_|refine aj ?_ ?_<;>intro hw<;>try omega|fail
        all_goals exact U1 (fin _) rfl rfl
      | false =>
        cases o3 with
        | true =>
          repeat' first|simp (disch:=omega) only[go_sem,aq,au,aA,Int.natCast_add,Int.cast_ofNat_Int]|refine ak ?_|refine bh pH ?_|refine bh sw ?_|refine bh c1 ?_|refine bh c2 ?_|refine bh c3 ?_|refine bh c4 ?_|refine aj ?_ ?_<;>intro hw<;>try omega|fail
          all_goals exact ac7 (fin _) rfl (by simp[bN]) rfl
        | false =>
          repeat' first|simp (disch:=omega) only[go_sem,aq,au,aA,Int.natCast_add,Int.cast_ofNat_Int]|refine ak ?_|refine bh pH ?_|refine bh sw ?_|refine bh c1 ?_|refine bh c2 ?_|refine bh c3 ?_|refine bh c4 ?_|refine bh c5 ?_|refine aj ?_ ?_<;>intro hw<;>try omega|fail
          all_goals exact U1 (fin _) rfl rfl
  ·obtain⟨rfl,rfl⟩:o1=false/\o2=false:=⟨by cases o1 with|false=>rfl|true=>exact absurd (.inl rfl) hin,by cases o2 with|false=>rfl|true=>exact absurd (.inr rfl) hin⟩;simp only[aI,if_false]at hR;subst hR;have c1:=wE T p b hT hs;simp only[qp]at hE aq au aA;generalize ij T p b=x at *;rw[aU]at c1;simp only[bN]at pH sw c1;repeat' first|refine ak ?_|refine bh pH ?_|refine bh sw ?_|refine bh c1 ?_|refine aj ?_ ?_<;>intro hw<;>try omega|fail
   exact bZ (by rw[<-hE];exact Ju) (bn.refl (aT _ _ _))
