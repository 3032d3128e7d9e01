/- Part. -/
import Derived.Test.YtcjcnfcedihckaaGreatDoorW22
set_option linter.all false
set_option maxHeartbeats 2000000
namespace Go.Proofs.YtcjcnfcedihckaaGreatDoor
open Go.AM
set_option maxRecDepth 4000
def oI(l:List cR)(i:Nat): Int :=
 if eV (l.getD i default).name=false\/tf l (l.getD i default).name≠i then 13
 else if(l.getD i default).kind<1\/3<(l.getD i default).kind then 14 else 0
def jc(l:List cR): Int:=if 6<l.length then 24 else match(List.range l.length).find? (fun i=>oI l i != 0)with
 | some i=>oI l i
 | none=>0
def mJ{n k:Nat}(h:k<n): (List.range n).getD k default=k:=by simp[aj,h]
def W9{l:List cR}{i:Nat}{e:Int}(h6:¬ 6<l.length)(hi:i<l.length)(h:∀ k,k<i->oI l k=0)(he:oI l i=e)(hne:e≠0): jc l=e:=by
 have:=wg (p:=fun i=>oI l i != 0) (l:=List.range l.length) (i:=i) (by simpa using hi) (fun k hk=>by rw[mJ (by omega)];simp[h k hk]) (by rw[mJ hi];simp[he,hne]);unfold jc;rw[if_neg h6,this,mJ hi];exact he
def JV{l:List cR}(h6:¬ 6<l.length)(h:∀ k,k<l.length->oI l k=0): jc l=0:=by
 have:=wO (p:=fun i=>oI l i != 0) (l:=List.range l.length) (fun k hk=>by rw[List.length_range]at hk;rw[mJ hk];simp[h k hk]);unfold jc;rw[if_neg h6,this]
def Iq(l:List cR)(hn:∀ k,k<l.length->(l.getD k default).name.length<=2 ^ 62): aP aK 227 [cJ l] (I (jc l)):=by
 by_cases h6:6<l.length
 ·have e:jc l=24:=by unfold jc;rw[if_pos h6]
  rw[e];refine aR vu ?_ (by simp[AV.dz,AV.cA,jk]);intro Q aF aG aH;repeat' first|refine aE ?_|refine aD ?_ ?_<;>intro hw<;>try omega|fail
  exact aU rfl rfl
 refine aR vu ?_ (by simp[AV.dz,AV.cA,jk]);intro Q aF aG aH;repeat' first|refine aE ?_|refine aD ?_ ?_<;>intro hw<;>try omega|fail
 with_reducible refine bZ [2,3,4,10,11,12,13,14,15,16,17,18,19,20,21,22,23,24,25,26,27,28,29,30,31,32,33,34,35,36,37,38,39,40] (fun q:Nat × List aY=>[(10,I q.1)]) (fun q=>q.2) (fun q=>q.1<=l.length/\ ∀ k,k<q.1->oI l k=0) (fun q=>l.length-q.1) (0,[]) ?_ ?_ ?_ ?_
 ·simp
 ·rfl
 ·exact at_
 rintro⟨i,τ⟩ r ⟨h1,h2⟩;dsimp only at h1 h2;by_cases hi:i<l.length
 ·have c1:=tQ _ (hn i hi);have c2:=JU l (l.getD i default).name (by omega);have hE:oI l i=if eV (l.getD i default).name=false\/tf l (l.getD i default).name≠i then 13 else if(l.getD i default).kind<1\/3<(l.getD i default).kind then 14 else 0:=rfl
  obtain⟨c,hc⟩:∃ c,l.getD i default=c:=⟨_,rfl⟩;rw[hc]at c1 c2 hE;generalize eV c.name=nb at *;generalize tf l c.name=an at *;simp only[cJ]at c2;repeat' first|simp (disch:=omega) only[go_sem,aF,aG,aH,hc]|refine aE ?_|refine aD ?_ ?_<;>intro hw<;>try omega|fail
  all_goals first
   | (refine aU ?_ rfl
      refine congrArg I ?_
      symm
      refine W9 h6 hi h2 ?_ (by decide);rw[hE]
      first
       |(rw[if_pos (by simp_all)];done)
       |(rw[if_neg (by simp_all),if_pos (by omega)];done))
   | (refine ⟨(i + 1, τ ++ [.cells [.str c.name, I c.kind, .aO false EV (c.order.map fF)]]), ?_, ?_, by first | rfl | (simp [go_sem]; done), dH, at_⟩
      ·exact⟨by dsimp only;omega,bI h2 (by rw[hE,if_neg (by simp_all),if_neg (by omega)])⟩
      ·dsimp only;omega)
 ·repeat' first|refine aE ?_|refine aD ?_ ?_<;>intro hw<;>try omega|fail
  refine aU ?_ rfl;rw[JV h6 (fun k hk=>h2 k (by omega))]
def mK(x:Expr): Bool:=c8 x && decide (kW x<=12)
def JW(x:Expr)(hx:jl x)(hz:fN x<=2 ^ 60): aP aK 237 [bf x] (.bool (mK x)):=by
 have h1:=Cd x hx hz;have h2:=yp x hz;unfold mK;generalize c8 x=b at *;rw[bB]at h1 h2 ⊢;refine aR Mj ?_;intro Q aF aG aH;cases b<;>simp only[mZ,if_true,Bool.false_eq_true,if_false]at h1
 ·repeat' first|refine aE ?_|refine aD ?_ ?_<;>intro hw<;>try omega|fail
  all_goals exact aU rfl rfl
 ·repeat' first|refine aE ?_|refine aD ?_ ?_<;>intro hw<;>try omega|fail
  all_goals (refine aU ?_ rfl;simp;omega)
def y4 (fn : FuncId) (cap : List AV) (hcap : AV.cA cap = true) (p : Test -> Bool) (l : List Test) (h : ∀ k, k < l.length -> aP aK fn (dB (l.getD k default) :: cap) (.bool (p (l.getD k default)))) (hl : l.length <= 2 ^ 62) :
    aP aK 236 [jo l,.fn (.func fn) [] cap] (I (fy p l)):=by
 refine aR wK ?_ (by simp[AV.dz,AV.cA,hcap,vO]);intro Q aF aG aH;repeat' first|refine aE ?_|refine aD ?_ ?_<;>intro hw<;>try omega|fail
 with_reducible refine bZ [4,5,8,9,10,11,12,13,14,15,16,17,18] (fun i:Nat=>[(8,I i)]) (fun _=>[]) (fun i=>i<=l.length/\ ∀ k,k<i->p (l.getD k default)=false) (fun i=>l.length-i) (0) ?_ ?_ ?_ ?_
 ·simp
 ·rfl
 ·exact at_
 ·rintro i r ⟨hi,hp⟩;by_cases hin:i<l.length
  ·have hx:=h i hin;simp only[dB,bq,cu,nY,dD,dA,jo,dy,bX,qD]at hx;repeat' first|refine aE ?_|refine aD ?_ ?_<;>intro hw<;>try omega|fail
   ·refine aU ?_ rfl;refine congrArg I ?_;exact(lU hin hp hw).symm
   ·refine⟨i+1,?_,?_,by first|rfl|(simp[go_sem];done),dH,at_⟩<;>(try dsimp only)
    ·exact⟨by omega,bI hp hw⟩
    ·omega
  ·repeat' first|refine aE ?_|refine aD ?_ ?_<;>intro hw<;>try omega|fail
   refine aU ?_ rfl;refine congrArg I ?_;exact(lO fun k hk=>hp k (by omega)).symm
def wR (fn : FuncId) (cap : List AV) (hcap : AV.cA cap = true) (p : Test -> Bool) (l : List Test) (h : ∀ k, k < l.length -> aP aK fn (dB (l.getD k default) :: cap) (.bool (p (l.getD k default)))) (hl : l.length <= 2 ^ 62) :
    aP aK 190 [jo l,.fn (.func fn) [] cap] (.bool (l.any p)):=by
 refine aR uF ?_ (by simp[AV.dz,AV.cA,hcap,vO]);intro Q aF aG aH;have hc:=y4 fn cap hcap p l h hl;simp only[jo]at hc;repeat' first|refine aE ?_|refine aD ?_ ?_<;>intro hw<;>try omega|fail
 all_goals refine aU ?_ rfl
 all_goals rw[<-zX]
def kK(t:Test): Bool :=
 if t.kind=6 then mK t.a && mK t.b
 else decide (1<=t.kind/\t.kind<=5) && mK t.a && uk t.b x0 && !t.lo && !t.hi
def GD(t:Test): Prop:=(jl t.a/\fN t.a<=2 ^ 60)/\jl t.b/\fN t.b<=2 ^ 60
def JX(c:Cell): Prop:=c.tests.length<=2 ^ 60/\ ∀ t ∈ c.tests,GD t
def lp(c:Cell): Bool :=
 if c.any then !c.neg && decide (c.tests.length=0)
 else decide (1<=c.tests.length/\c.tests.length<=12) && !(c.tests.any fun t=> !(kK t))
def Us: fN x0<=2 ^ 60:=by simp[x0,fN,lZ]
def W_: bf x0 = .agg [I 0,I 0,I 0,.str [],.str [],.aO false EX []]:=by simp[x0,v0,bf]
def cell_of(t:Test): aP aK 239 [dB t] (.agg [.bool t.lo,.bool t.hi]):=by
 refine aR RA ?_;intro Q aF aG aH;simp only[dB,dA];repeat' first|refine aE ?_|refine aD ?_ ?_<;>intro hw<;>try omega|fail
 all_goals exact aU rfl rfl
def RP(t:Test)(h:GD t): aP aK 192 [dB t] (.bool (kK t)):=by
 obtain⟨⟨a1,a2⟩,b1,b2⟩:=h;have ha:=JW t.a a1 a2;have hb:=JW t.b b1 b2;have hs:=OF t.b x0 (Uk _ b2) (Uk _ Us);have ho:=cell_of t;rw[W_]at hs;rw[bB]at ha hb hs;simp only[dB,dA]at ho ⊢;have hS:kK t=if t.kind=6 then mK t.a && mK t.b else decide (1<=t.kind/\t.kind<=5) && mK t.a && uk t.b x0 && !t.lo && !t.hi:=rfl
 rw[hS];clear hS;generalize mK t.a=pa at *;generalize mK t.b=pb at *;generalize uk t.b x0=sb at *;refine aR K7 ?_;intro Q aF aG aH;repeat' first|refine aE ?_|refine xJ hs ?_|refine aD ?_ ?_<;>intro hw<;>try omega|fail
 all_goals (refine aU ?_ rfl;refine congrArg AV.bool ?_;rw[a_];simp_all)
 all_goals (try omega)
def MP(t:Test)(h:GD t): aP aK 191 [dB t] (.bool (!(kK t))):=by
 have h1:=RP t h;simp only[dB,dA]at h1 ⊢;generalize kK t=b at *;refine aR Gn ?_;intro Q aF aG aH;repeat' first|refine aE ?_|refine aD ?_ ?_<;>intro hw<;>try omega|fail
 all_goals exact aU rfl rfl
def z_(c:Cell)(h:JX c): aP aK 154 [dD c] (I (mZ (lp c))):=by
 have hc:=wR 191 [] rfl (fun t=> !(kK t)) c.tests (fun k hk=>MP _ (h.2 _ (bJ hk))) (by have:=h.1;omega);have hl:=h.1;simp only[jo,dD]at hc ⊢;have hS:lp c=if c.any then !c.neg && decide (c.tests.length=0)else decide (1<=c.tests.length/\c.tests.length<=12) && !(c.tests.any fun t=> !(kK t)):=rfl
 rw[hS];clear hS;generalize c.tests.any (fun t=> !(kK t))=an at *;refine aR K5 ?_;intro Q aF aG aH;repeat' first|refine aE ?_|refine aD ?_ ?_<;>intro hw<;>try omega|fail
 all_goals (refine aU ?_ rfl;refine congrArg I ?_;simp_all[mZ,<-List.length_eq_zero_iff])
 all_goals (try omega)
 all_goals (intro h0;exfalso;omega)
def j9(k:Int): aI:=if k=2 then [60]else if k=3 then [60,61]else if k=4 then [62]else if k=5 then [62,61]else []
def JY(k:Int): aP aK 194 [I k] (.str (j9 k)):=by
 refine aR Mi ?_;intro Q aF aG aH;repeat' first|refine aE ?_|refine aD ?_ ?_<;>intro hw<;>try omega|fail
 all_goals (refine aU ?_ rfl;simp_all[j9])
def um(T:List Tok)(p:Nat): aI:=if(T.getD p default).kind=4 then(T.getD p default).s else []
def Aa(T:List Tok)(p:Nat)(b:Bool)(s:aI)(hs:s≠[]): gD T p b 4 s=(!b && decide (um T p=s)):=by
 unfold gD ni um;by_cases hp:p<T.length
 ·generalize T.getD p default=t;by_cases h4:t.kind=4
  ·simp[hp,h4]
  ·simp[hp,h4,Ne.symm hs]
 ·rw[n5 (by omega)];simp[hp,RJ,Ne.symm hs]
def Ck(T:List Tok)(p:Nat)(b:Bool): cY aK 264 0 [] (dI T p b) (dI T p b) (.str (um T p)):=by
 by_cases hp:p<T.length
 ·refine cY.fU (s9.go ?_) rfl (bP _ _ _);unfold eP;intro Q aF aG aH;repeat' first|refine aE ?_|refine aD ?_ ?_<;>intro hw<;>try omega|fail
  all_goals (refine fH (View.eqv ?_ rfl) (bL.refl (bP T p b));simp_all[um])
 ·have:um T p=[]:=by unfold um;rw[n5 (by omega)];simp[RJ]
  rw[this];refine cY.fU (s9.go ?_) rfl (bP _ _ _);unfold eP;intro Q aF aG aH;repeat' first|refine aE ?_|refine aD ?_ ?_<;>intro hw<;>try omega|fail
  all_goals exact fH (View.eqv rfl rfl) (bL.refl (bP T p b))
def P7(T:List Tok)(p:Nat)(b:Bool)(s:aI)(hs:s≠[])(hp:p<=2 ^ 61): cY aK 290 0 [.str s] (dI T p b) (dI T (sM T p b 4 s) b) (.bool (gD T p b 4 s)):=by
 have hn:=Ck T p b;unfold sM;rw[Aa T p b s hs];generalize um T p=t at hn ⊢;simp only[dI]at hn;refine cY.fU (DJ.go ?_) rfl (bP _ _ _);unfold eP;intro Q aF aG aH;repeat' first|refine aE ?_|refine cW hn ?_|refine aD ?_ ?_<;>intro hw<;>try omega|fail
 all_goals first
  |(refine fH (View.eqv ?_ rfl) (bL.eqv ?_ (bP _ _ _))<;>simp_all[dI];done)
def Cl(T:List Tok)(p:Nat)(b:Bool)(s:aI)(hs:s≠[])(hp:p<=2 ^ 61): cY aK 291 0 [.str s] (dI T p b) (dI T (sM T p b 4 s) (b || !(gD T p b 4 s))) (.bO []):=by
 have hn:=P7 T p b s hs hp;generalize gD T p b 4 s=o at hn ⊢;simp only[dI]at hn;refine cY.fU (Bh.go ?_) rfl (bP _ _ _);unfold eP;intro Q aF aG aH;cases o
 ·repeat' first|refine aE ?_|refine cW hn ?_|refine aD ?_ ?_<;>intro hw<;>try omega|fail
  refine Gd rfl (bL.eqv ?_ (bP _ _ _));simp[dI]
 ·repeat' first|refine aE ?_|refine cW hn ?_|refine aD ?_ ?_<;>intro hw<;>try omega|fail
  refine Gd rfl (bL.eqv ?_ (bP _ _ _));simp[dI]
def Ut(T:List Tok)(l q:Nat): RS:=⟨(gY T q l).1,(gY T q l).2.1.toNat,decide ((gY T q l).2.2≠0)⟩
def iS(T:List Tok)(p:Nat)(b:Bool): RS:=qI (Ut T) 4 p b
def RQ(T:List Tok)(p:Nat): iS T p true=⟨x0,p,true⟩:=rfl
def ON(T:List Tok)(p:Nat): iS T p false=Ut T 4 p:=rfl
def Xa(T:List Tok){q:Nat}(hq:q<=T.length): jr T.length q (Ut T 4 q):=by
 have hg:¬ ((q:Int)<0\/(T.length:Int)<q\/((4:Nat):Int)<0\/7<((4:Nat):Int)):=by omega
 have g:=(rO T (8*T.length+9) none 4 q hq).1 rfl;unfold Ut gY;rw[if_neg hg,ig,ig];split
 ·exact⟨by simpa using g.1,by simpa using g.2.1,fun h=>by simp at h⟩
 ·rename_i h;exact⟨by simpa using g.1,by simpa using g.2.1,fun _=>by have:=g.2.2 (by simpa using h);simpa using this⟩
def xQ(T:List Tok){q:Nat}{b:Bool}(hq:q<=T.length): jr T.length q (iS T q b):=by
 cases b with
 | true=>exact⟨Nat.le_refl _,hq,fun h=>by cases h⟩
 | false=>exact Xa T hq
def xR(T:List Tok)(p:Nat)(b:Bool)(hT:T.length<=2 ^ 50)(hs:∀ q,(T.getD q default).s.length<=2 ^ 62): cY aK 309 0 [] (dI T p b) (dI T (iS T p b).p (iS T p b).bad) (bf (iS T p b).x):=by
 cases b with
 | true =>
   rw[RQ];generalize hE:bf _=E;refine cY.fU (s_.go ?_) rfl (bP _ _ _);unfold eP;intro Q aF aG aH;repeat' first|refine aE ?_|refine aD ?_ ?_<;>intro hw<;>try omega|fail
   exact fH (by rw[<-hE];exact pT (.au _)) (bL.refl (bP T p true))
 | false =>
   rw[ON];have cr:=D2 T p 4 hT hs;have hp0:=(P3 T p 4).1;simp only[Ut];have e4:((4:Nat):Int)=4:=rfl;rw[e4];generalize gY T p 4=r at *;obtain⟨rx,rn,re⟩:=r;dsimp only at *;obtain⟨n,rfl⟩:∃ n:Nat,rn=n:=⟨rn.toNat,by omega⟩;have e2:∀ σ : ae,View σ (.agg [I rx.op,I rx.v.kind,I rx.v.n,.str rx.v.s,.str rx.s,.aO false EX (rx.l.map bf)]) (bf rx):=fun σ=>View.eqv (bB _).symm (fQ _);simp only[JT,sJ]at cr;rw[bB]at cr;generalize bf rx=E at *;rw[ig];refine cY.fU (s_.go ?_) rfl (bP _ _ _);unfold eP;intro Q aF aG aH;repeat' first|refine aE ?_|refine aD ?_ ?_<;>intro hw<;>try omega|fail
   all_goals (refine fH (e2 _) (bL.eqv ?_ (bP _ _ _));simp[dI];rw[a_];simp)
structure TS where
 t:Test
 p:Nat
 bad:Bool
deriving Inhabited
def rq(k:Int)(r:RS): TS:=⟨⟨k,r.x,x0,false,false⟩,r.p,r.bad⟩
def uZ(T:List Tok)(p:Nat): RS:=iS T (p+1) false
def u0(T:List Tok)(p:Nat): RS:=j7 T (uZ T p) 4 [46,46]
def lG(T:List Tok)(p:Nat): RS:=iS T (u0 T p).p (u0 T p).bad
def inH(T:List Tok)(p:Nat): Bool:=gD T (lG T p).p (lG T p).bad 4 [91]
def yw(T:List Tok)(p:Nat): RS:=if inH T p then⟨x0,(lG T p).p+1,(lG T p).bad⟩else j7 T (lG T p) 4 [93]
def JZ(T:List Tok)(p:Nat)(lo:Bool): TS:=⟨⟨6,(uZ T p).x,(lG T p).x,lo,inH T p⟩,(yw T p).p,(yw T p).bad⟩
def fO(T:List Tok)(p:Nat)(b:Bool): TS :=
 if gD T p b 4 [60]then rq 2 (iS T (p+1) b)
 else if gD T p b 4 [60,61]then rq 3 (iS T (p+1) b)
 else if gD T p b 4 [62]then rq 4 (iS T (p+1) b)
 else if gD T p b 4 [62,61]then rq 5 (iS T (p+1) b)
 else if gD T p b 4 [91]then JZ T p false
 else if gD T p b 4 [93]then JZ T p true
 else rq 1 (iS T p b)
def Xb{k:Int}(h:2<=k)(h':k<=5): j9 k≠[]:=by
 rcases(by omega:k=2\/k=3\/k=4\/k=5)with rfl|rfl|rfl|rfl<;>decide
def RR{T:List Tok}{p:Nat}{b:Bool}{k:Int}(h:2<=k)(h':k<=5)(hb:∀ j:Int,2<=j->j<k->gD T p b 4 (j9 j)=false)(ho:gD T p b 4 (j9 k)=true): fO T p b=rq k (iS T (p+1) b):=by
 have e2:j9 2=[60]:=rfl;have e3:j9 3=[60,61]:=rfl;have e4:j9 4=[62]:=rfl;have e5:j9 5=[62,61]:=rfl;unfold fO;rcases(by omega:k=2\/k=3\/k=4\/k=5)with rfl|rfl|rfl|rfl
 ·rw[e2]at ho;rw[if_pos ho]
 ·have h2:=hb 2 (by omega) (by omega);rw[e2]at h2;rw[e3]at ho;rw[if_neg (by simp[h2]),if_pos ho]
 ·have h2:=hb 2 (by omega) (by omega);have h3:=hb 3 (by omega) (by omega);rw[e2]at h2;rw[e3]at h3;rw[e4]at ho;rw[if_neg (by simp[h2]),if_neg (by simp[h3]),if_pos ho]
 ·have h2:=hb 2 (by omega) (by omega);have h3:=hb 3 (by omega) (by omega);have h4:=hb 4 (by omega) (by omega);rw[e2]at h2;rw[e3]at h3;rw[e4]at h4;rw[e5]at ho;rw[if_neg (by simp[h2]),if_neg (by simp[h3]),if_neg (by simp[h4]),if_pos ho]
def RT{T:List Tok}{p:Nat}{b:Bool}(hb:∀ j:Int,2<=j->j<6->gD T p b 4 (j9 j)=false): fO T p b=if gD T p b 4 [91]then JZ T p false else if gD T p b 4 [93]then JZ T p true else rq 1 (iS T p b):=by
 have h2:gD T p b 4 [60]=false:=hb 2 (by omega) (by omega);have h3:gD T p b 4 [60,61]=false:=hb 3 (by omega) (by omega);have h4:gD T p b 4 [62]=false:=hb 4 (by omega) (by omega);have h5:gD T p b 4 [62,61]=false:=hb 5 (by omega) (by omega);unfold fO;rw[if_neg (by simp[h2]),if_neg (by simp[h3]),if_neg (by simp[h4]),if_neg (by simp[h5])]
def Uu{T:List Tok}{p:Nat}{r:RS}(k:Int)(h:jr T.length p r): p<=(rq k r).p/\(rq k r).p<=T.length:=⟨h.1,h.2.1⟩
def Ir{T:List Tok}{p:Nat}(hp:p<T.length): (uZ T p).p<=T.length/\(u0 T p).p<=T.length/\(lG T p).p<=T.length/\(yw T p).p<=T.length/\p<=(yw T p).p:=by
 have g1:jr T.length (p+1) (uZ T p):=xQ T hp;have g2:jr T.length (p+1) (u0 T p):=uK _ _ g1;have g3:jr T.length (u0 T p).p (lG T p):=xQ T g2.2.1
 have g4:(yw T p).p<=T.length/\(lG T p).p<=(yw T p).p:=by
  unfold yw;split
  ·rename_i h;exact⟨(nK h).1,Nat.le_succ _⟩
  ·have:=uK 4 [93] g3;refine⟨this.2.1,?_⟩;simp only[j7,sM];split<;>omega
 have:=g1.1;have:=g2.1;have:=g3.1;have m2:(uZ T p).p<=(u0 T p).p:=by simp only[u0,j7,sM];split<;>omega
 exact⟨g1.2.1,g2.2.1,g3.2.1,g4.1,by omega⟩
def J0{T:List Tok}{p:Nat}{b:Bool}(hp:p<=T.length): p<=(fO T p b).p/\(fO T p b).p<=T.length:=by
 have st:∀ k s,gD T p b 4 s=true->p<=(rq k (iS T (p+1) b)).p/\(rq k (iS T (p+1) b)).p<=T.length:=fun k s h=>by
  have:=xQ T (q:=p+1) (b:=b) (nK h).1;exact⟨Nat.le_of_succ_le this.1,this.2.1⟩
 unfold fO;split
 ·rename_i h;exact st _ _ h
 split
 ·rename_i h;exact st _ _ h
 split
 ·rename_i h;exact st _ _ h
 split
 ·rename_i h;exact st _ _ h
 split
 ·rename_i h;have:=Ir (nK h).1;exact⟨this.2.2.2.2,this.2.2.2.1⟩
 split
 ·rename_i h;have:=Ir (nK h).1;exact⟨this.2.2.2.2,this.2.2.2.1⟩
 ·exact Uu 1 (xQ T hp)
def sQ(T:List Tok)(p:Nat)(b:Bool)(s:aI)(o:Bool)(hs:s≠[])(hp:p<=2 ^ 61)(h:gD T p b 4 s=o): cY aK 290 0 [.str s] (dI T p b) (dI T (if o then p+1 else p) b) (.bool o):=by
 have:=P7 T p b s hs hp;unfold sM at this;rw[h]at this;exact this
def Uv{σ : ae}{k:Int}{r:Expr}: View σ (.agg [I k,I r.op,I r.v.kind,I r.v.n,.str r.v.s,.str r.s,.aO false EX (r.l.map bf),I 0,I 0,I 0,.str [],.str [],.au,.bool false,.bool false]) (dB ⟨k,r,x0,false,false⟩):=by
 simp only[dB,dA];refine View.sC (.cons (.refl _ rfl) (.cons (.refl _ rfl) (.cons (.refl _ rfl) (.cons (.refl _ rfl) (.cons (.refl _ rfl) (.cons (.refl _ rfl) (.cons (.refl _ ?_) (.cons (.refl _ rfl) (.cons (.refl _ rfl) (.cons (.refl _ rfl) (.cons (.refl _ rfl) (.cons (.refl _ rfl) (.cons (.au _) (.cons (.refl _ rfl) (.cons (.refl _ rfl) (.nil _))))))))))))))));simp
def Uw (T : List Tok) (p : Nat) (b : Bool) (hp : p <= T.length) (hT : T.length <= 2 ^ 50) (hs : ∀ q, (T.getD q default).s.length <= 2 ^ 62) :
    cY aK 289 0 [] (dI T p b) (dI T (fO T p b).p (fO T p b).bad) (dB (fO T p b).t):=by
 generalize hR:fO T p b=R;generalize hE:dB R.t=E;refine cY.fU (Bg.go ?_) rfl (bP _ _ _);unfold eP;intro Q aF aG aH;repeat' first|refine aE ?_|refine aD ?_ ?_<;>intro hw<;>try omega|fail
 with_reducible refine bZ [3,5,6,7,8,9,10,11,12,13,14,15,16] (fun k:Int=>[(3,I k)]) (fun _=>[.cells [.aO false ET (T.map oH),I p,.bool b],.cells [I 0,I 0,I 0,I 0,.str [],.str [],.au,I 0,I 0,I 0,.str [],.str [],.au,.bool false,.bool false]]) (fun k=>2<=k/\k<=6/\ ∀ j:Int,2<=j->j<k->gD T p b 4 (j9 j)=false) (fun k=>(6-k).toNat) (2) ?_ ?_ ?_ ?_
 ·exact⟨by omega,by omega,fun j h1 h2=>by omega⟩
 ·rfl
 ·exact at_
 rintro k r ⟨h1,h2,h3⟩;by_cases hk:k<=5
 ·have uL:=JY k;obtain⟨o,ho⟩:∃ o,gD T p b 4 (j9 k)=o:=⟨_,rfl⟩;have rK:=sQ T p b (j9 k) o (Xb h1 hk) (by omega) ho;cases o with
  | false =>
    simp only[dI,aB,if_false]at rK;repeat' first|refine aE ?_|refine cW rK ?_|refine aD ?_ ?_<;>intro hw<;>try omega|fail
    refine⟨k+1,?_,?_,by first|rfl|(simp[go_sem];done),dH,at_⟩<;>(try dsimp only)
    ·refine⟨by omega,by omega,fun j Jh FX=>?_⟩;by_cases BI:j=k
     ·subst BI;exact ho
     ·exact h3 j Jh (by omega)
    ·omega
  | true =>
    have PB:=nK ho;have hce:=xR T (p+1) b hT hs;rw[RR h1 hk h3 ho]at hR;subst hR;simp only[rq]at hE aF aG aH;generalize iS T (p+1) b=x at *;rw[bB]at hce;simp only[dI,if_true,Int.natCast_add,Int.cast_ofNat_Int]at rK hce;repeat' first|simp (disch:=omega) only[go_sem,aF,aG,aH,Int.natCast_add,Int.cast_ofNat_Int]|refine aE ?_|refine cW rK ?_|refine cW hce ?_|refine aD ?_ ?_<;>intro hw<;>try omega|fail
    exact fH (by rw[<-hE];exact Uv) (bL.refl (bP _ _ _))
 ·obtain rfl:k=6:=by omega
  rw[RT (fun j Jh FX=>h3 j Jh FX)]at hR;have hmk:=Ck T p b;obtain⟨o1,P2⟩:∃ o,gD T p b 4 [91]=o:=⟨_,rfl⟩;obtain⟨o2,GA⟩:∃ o,gD T p b 4 [93]=o:=⟨_,rfl⟩;have Cm:=sQ T p b [91] o1 (by decide) (by omega) P2;have MQ:=sQ T p b [93] o2 (by decide) (by omega) GA;have hmo:=Aa T p b [93] (by decide);rw[P2,GA]at hR;rw[GA]at hmo;have Jz:=Aa T p b [91] (by decide);rw[P2]at Jz;generalize hmt:um T p=mt at *;by_cases hin:o1=true\/o2=true
  ·have PB : p < T.length /\ b = false := by
    rcases hin with h|h
    ·exact nK (P2.trans h)
    ·exact nK (GA.trans h)
   obtain⟨PB,rfl⟩:=PB
   have hR2:R=JZ T p (decide (mt=[93])):=by
    rw[<-hR];simp only[fS,dZ]at hmo Jz;cases o1 with
    | true =>
      have:mt=[91]:=by simpa using Jz.symm
      rw[if_pos rfl,this];rfl
    | false =>
      rcases hin with h|h
      ·cases h
      ·subst h;have:mt=[93]:=by simpa using hmo.symm
       rw[if_neg (by simp),if_pos rfl,this];rfl
   clear hR;subst hR2;obtain⟨g1,g2,g3,g4,_⟩:=Ir (T:=T) PB;have c1:=xR T (p+1) false hT hs;have c2:=Cl T (uZ T p).p (uZ T p).bad [46,46] (by decide) (by omega);have c3:=xR T (u0 T p).p (u0 T p).bad hT hs;obtain⟨o3,Um⟩:∃ o,inH T p=o:=⟨_,rfl⟩;have c4:=sQ T (lG T p).p (lG T p).bad [91] o3 (by decide) (by omega) Um;have c5:=Cl T (lG T p).p (lG T p).bad [93] (by decide) (by omega)
   change cY _ _ _ _ _ (dI T (uZ T p).p (uZ T p).bad) (bf (uZ T p).x)at c1
   change cY _ _ _ _ _ (dI T (u0 T p).p (u0 T p).bad) _ at c2
   change cY _ _ _ _ _ (dI T (lG T p).p (lG T p).bad) (bf (lG T p).x)at c3
   change cY _ _ _ _ _ (dI T (j7 T (lG T p) 4 [93]).p (j7 T (lG T p) 4 [93]).bad) _ at c5
   have YK:yw T p=if o3 then⟨x0,(lG T p).p+1,(lG T p).bad⟩else j7 T (lG T p) 4 [93]:=by rw[<-Um];rfl
   have abz:JZ T p (decide (mt=[93]))=⟨⟨6,(uZ T p).x,(lG T p).x,decide (mt=[93]),o3⟩,(yw T p).p,(yw T p).bad⟩:=by rw[<-Um];rfl
   rw[abz]at hE aF aG aH;rw[YK]at aF aG aH;clear YK abz Um P2 GA g1 g2 g4;generalize j7 T (lG T p) 4 [93]=r5 at *;generalize uZ T p=r1 at *;generalize u0 T p=r2 at *;generalize lG T p=r3 at *;rw[bB]at c1 c3;simp only[dB,dA]at hE;simp only[dI]at hmk
   have fin:∀ σ : ae,View σ (.agg [I 6,I r1.x.op,I r1.x.v.kind,I r1.x.v.n,.str r1.x.v.s,.str r1.x.s,.aO false EX (r1.x.l.map bf),I r3.x.op,I r3.x.v.kind,I r3.x.v.n,.str r3.x.v.s,.str r3.x.s,.aO false EX (r3.x.l.map bf),.bool (mt==[93]),.bool o3]) E:=fun σ=>by
    rw[<-hE,show decide (mt=[93])=(mt==[93]) from by rw[a_];simp];exact View.eqv rfl (by simp)
   clear hE;have hne:mt==[93]↔mt=[93]:=by simp
   cases o1 with
   | true =>
     simp only[dI,if_true,Int.natCast_add,Int.cast_ofNat_Int]at Cm c1 c2 c3 c4 c5;cases o3 with
     | true =>
       simp only[if_true]at c4 fin aF aG aH;repeat' first|simp (disch:=omega) only[go_sem,aF,aG,aH,Int.natCast_add,Int.cast_ofNat_Int]|refine aE ?_|refine cW hmk ?_|refine cW Cm ?_|refine cW c1 ?_|refine cW c2 ?_|refine cW c3 ?_|refine cW c4 ?_|refine aD ?_ ?_<;>intro hw<;>try omega|fail
       exact fH (fin _) (bL.eqv (by simp[dI]) (bP _ _ _))
     | false =>
       simp only[aB,if_false]at c4 fin aF aG aH;repeat' first|simp (disch:=omega) only[go_sem,aF,aG,aH,Int.natCast_add,Int.cast_ofNat_Int]|refine aE ?_|refine cW hmk ?_|refine cW Cm ?_|refine cW c1 ?_|refine cW c2 ?_|refine cW c3 ?_|refine cW c4 ?_|refine cW c5 ?_|refine aD ?_ ?_<;>intro hw<;>try omega|fail
       exact fH (fin _) (bL.eqv (by simp[dI]) (bP _ _ _))
   | false =>
     have afe:o2=true:=by rcases hin with h|h<;>first|(cases h;done)|exact h
     subst afe;simp only[dI,if_true,aB,if_false,Int.natCast_add,Int.cast_ofNat_Int]at Cm MQ c1 c2 c3 c4 c5;cases o3 with
     | true =>
       simp only[if_true]at c4 fin aF aG aH;repeat' first|simp (disch:=omega) only[go_sem,aF,aG,aH,Int.natCast_add,Int.cast_ofNat_Int]|refine aE ?_|refine cW hmk ?_|refine cW Cm ?_|refine cW MQ ?_|refine cW c1 ?_|refine cW c2 ?_|refine cW c3 ?_|refine cW c4 ?_|refine aD ?_ ?_<;>intro hw<;>try omega|fail
       exact fH (fin _) (bL.eqv (by simp[dI]) (bP _ _ _))
     | false =>
       simp only[aB,if_false]at c4 fin aF aG aH;repeat' first|simp (disch:=omega) only[go_sem,aF,aG,aH,Int.natCast_add,Int.cast_ofNat_Int]|refine aE ?_|refine cW hmk ?_|refine cW Cm ?_|refine cW MQ ?_|refine cW c1 ?_|refine cW c2 ?_|refine cW c3 ?_|refine cW c4 ?_|refine cW c5 ?_|refine aD ?_ ?_<;>intro hw<;>try omega|fail
       exact fH (fin _) (bL.eqv (by simp[dI]) (bP _ _ _))
  ·obtain⟨rfl,rfl⟩:o1=false/\o2=false:=⟨by cases o1 with|false=>rfl|true=>exact absurd (.inl rfl) hin,by cases o2 with|false=>rfl|true=>exact absurd (.inr rfl) hin⟩;simp only[aB,if_false]at hR;subst hR;have c1:=xR T p b hT hs;simp only[rq]at hE aF aG aH;generalize iS T p b=x at *;rw[bB]at c1;simp only[dI,aB,if_false]at Cm MQ c1 hmk;repeat' first|refine aE ?_|refine cW hmk ?_|refine cW Cm ?_|refine cW MQ ?_|refine cW c1 ?_|refine aD ?_ ?_<;>intro hw<;>try omega|fail
   exact fH (by rw[<-hE];exact Uv) (bL.refl (bP _ _ _))
def abA: aI:=[110,111,116]
def qg(T:List Tok): Bool:=decide (1<T.length) && (ni T 0 1 abA && ni T 1 4 [40])
def Xc(T:List Tok): aP aK 288 [sJ T] (.bool (qg T)):=by
 refine aR Oy ?_;intro Q aF aG aH;repeat' first|refine aE ?_|refine aD ?_ ?_<;>intro hw<;>try omega|fail
 all_goals (refine aU ?_ rfl;refine congrArg AV.bool ?_;rw[a_];simp_all[qg,ni,abA])
 all_goals (try omega)
 all_goals (exact⟨fun h=>⟨by omega,by omega,by omega,h⟩,fun h=>h.2.2.2⟩)
structure CS where
 ts:List Test
 p:Nat
 bad:Bool
deriving Inhabited
def qJ(T:List Tok): Nat->List Test->Nat->Bool->CS
 | 0,acc,p,b=>⟨acc,p,b⟩
 | f+1,acc,p,b=>if gD T (fO T p b).p (fO T p b).bad 4 [44]then qJ T f (acc++[(fO T p b).t]) ((fO T p b).p+1) (fO T p b).bad else⟨acc++[(fO T p b).t],(fO T p b).p,(fO T p b).bad⟩
def uo(T:List Tok)(f:Nat)(acc:List Test)(p:Nat)(b:Bool): qJ T (f+1) acc p b=if gD T (fO T p b).p (fO T p b).bad 4 [44]then qJ T f (acc++[(fO T p b).t]) ((fO T p b).p+1) (fO T p b).bad else⟨acc++[(fO T p b).t],(fO T p b).p,(fO T p b).bad⟩:=rfl
def RU{T:List Tok}(f:Nat): ∀(acc:List Test) (p:Nat) (b:Bool),p<=T.length->(qJ T f acc p b).p<=T.length:=by
 induction f with
 | zero=>intro acc p b hp;exact hp
 | succ f ih =>
   intro acc p b hp;rw[uo];split
   ·rename_i h;exact ih _ _ _ (nK h).1
   ·exact(J0 hp).2
def Fe(T:List Tok)(n:Bool)(c:CS): CS:=if n then⟨c.ts,sM T c.p c.bad 4 [41],c.bad || !(gD T c.p c.bad 4 [41])⟩else c
def P8(T:List Tok): Nat:=if qg T then 2 else 0
def jP(T:List Tok): CS:=Fe T (qg T) (qJ T (T.length+1) [] (P8 T) false)
def Ux(T:List Tok): P8 T<=T.length:=by
 unfold P8;split
 ·rename_i h;simp only[qg,aq,decide_eq_true_eq]at h;omega
 ·exact bR _
def Uy(T:List Tok)(n:Bool)(p:Nat)(b:Bool): List Test->ae
 | []=>[.cells (dI T p b),.cells [.bool false,.bool false,.au],.cells [.bool false,.bool n,.au]]
 | t::acc=>[.cells (dI T p b),.cells [.bool false,.bool false,.au],.cells [.bool false,.bool n,.own ES 3 (acc.length+1) 0 (acc.length+1)],.vec ES (dB t::acc.map dB)]
structure Lc where
 acc:List Test
 p:Nat
 b:Bool
 f:Nat
def P9(T:List Tok)(n:Bool)(p:Nat)(b:Bool): Uy T n p b []=[.cells [.aO false ET (T.map oH),I p,.bool b],.cells [.bool false,.bool false,.au],.cells [.bool false,.bool n,.au]]:=rfl
def MR(T:List Tok)(n:Bool)(p:Nat)(b:Bool)(t:Test)(acc:List Test): Uy T n p b (t::acc)=[.cells [.aO false ET (T.map oH),I p,.bool b],.cells [.bool false,.bool false,.au],.cells [.bool false,.bool n,.own ES 3 (acc.length+1) 0 (acc.length+1)],.vec ES (dB t::acc.map dB)]:=rfl
def Xd(T:List Tok)(n:Bool)(p:Nat)(b:Bool)(acc:List Test)(t:Test): Uy T n p b (acc++[t])=[.cells (dI T p b),.cells [.bool false,.bool false,.au],.cells [.bool false,.bool n,.own ES 3 (acc.length+1) 0 (acc.length+1)],.vec ES (acc.map dB++[dB t])]:=by
 cases acc with
 | nil=>rfl
 | cons x acc=>simp[Uy]
def Uz{σ : ae}{n:Bool}{ts:List Test}{k:Nat}(hk:k=ts.length)(h : σ[3]? = some (.vec ES (ts.map dB))): View σ (.agg [.bool false,.bool n,.own ES 3 k 0 k]) (dD ⟨false,n,ts⟩):=by
 subst hk;exact View.sC (.cons (.refl _ rfl) (.cons (.refl _ rfl) (.cons (View.vec h (by simp) (by simp) (JJ _)) (.nil _))))
def UA (T : List Tok) (hT : T.length <= 2 ^ 30) (hs : ∀ q, (T.getD q default).s.length <= 2 ^ 62) :
    cY aK 265 0 [] (dI T 0 false) (dI T (jP T).p (jP T).bad) (dD ⟨false,qg T,(jP T).ts⟩):=by
 have hn:=Xc T;have hp0:=Ux T;have e0:P8 T=if qg T then 2 else 0:=rfl
 generalize hR:jP T=R;unfold jP at hR;generalize qg T=n at *;generalize hE:dD _=E;simp only[sJ]at hn
 have fin:∀ (σ : ae) (k:Nat) (ts:List Test),R.ts=ts->k=ts.length->σ[3]? = some (.vec ES (ts.map dB))->View σ (.agg [.bool false,.bool n,.own ES 3 k 0 k]) E:=fun σ k ts h1 h2 h3=>by
  rw[<-hE,h1];exact Uz h2 h3
 clear hE;refine cY.fU (Bf.go ?_) rfl (bP _ _ _);unfold eP;intro Q aF aG aH;cases n
 all_goals
  simp only[aB,if_false,if_true]at e0;rw[e0]at hR hp0;repeat' first|refine aE ?_|refine aD ?_ ?_<;>intro hw<;>try omega|fail
  with_reducible refine bZ [17,18,19,20,21,22,23,24,25,26] (fun x:Lc=>([]:List (Nat × AV))) (fun x=>Uy T _ x.p x.b x.acc) (fun x=>x.p<=T.length/\x.acc.length+x.f=T.length+1/\T.length+1<=x.f+x.p/\Fe T _ (qJ T x.f x.acc x.p x.b)=R) (fun x=>x.f) ⟨[],_,false,T.length+1⟩ ⟨?_,?_,?_,hR⟩ rfl ?_ ?_
  ·dsimp only;omega
  ·dsimp only;simp
  ·dsimp only;omega
  ·exact at_
  rintro⟨acc,p,b,f⟩ r ⟨h1,h2,h3,h4⟩;dsimp only at h1 h2 h3 h4;obtain⟨f,rfl⟩:∃ g,f=g+1:=⟨f-1,by omega⟩;rw[uo]at h4;have ct:=Uw T p b h1 (by omega) hs;have gt:=J0 (T:=T) (b:=b) h1;generalize fO T p b=x at *;obtain⟨xt,xp,xb⟩:=x;dsimp only at ct gt h4;obtain⟨o,ho⟩:∃ o,gD T xp xb 4 [44]=o:=⟨_,rfl⟩;have P_:=sQ T xp xb [44] o (by decide) (by omega) ho;have jT:=fun n' p' b'=>Xd T n' p' b' acc xt;simp only[dB,dA]at ct;rw[ho]at h4;cases o with
  | true =>
    have hlt:=(nK ho).1;rw[if_pos rfl]at h4;simp only[dI,if_true,Int.natCast_add,Int.cast_ofNat_Int]at ct P_;cases acc with
    | nil =>
      simp only[List.length_nil]at h2;rw[P9 T _ p b];repeat' first|simp (disch:=omega) only[go_sem,aF,aG,aH,Int.natCast_add,Int.cast_ofNat_Int]|refine aE ?_|refine cW ct ?_|refine cW P_ ?_|refine aD ?_ ?_<;>intro hw<;>try omega|fail
      refine⟨⟨[xt],xp+1,xb,f⟩,?_,?_,?_,dH,at_⟩<;>(try dsimp only)
      ·exact⟨by omega,by simp only[List.length_cons,List.length_nil];omega,by omega,h4⟩
      ·omega
      ·rfl
    | cons t0 acc =>
      simp only[List.length_cons]at h2;rw[MR T _ p b];repeat' first|simp (disch:=omega) only[go_sem,aF,aG,aH,Int.natCast_add,Int.cast_ofNat_Int]|refine aE ?_|refine cW ct ?_|refine cW P_ ?_|refine aD ?_ ?_<;>intro hw<;>try omega|fail
      refine⟨⟨t0::acc++[xt],xp+1,xb,f⟩,?_,?_,?_,dH,at_⟩<;>(try dsimp only)
      ·exact⟨by omega,by simp only[List.length_cons,aA,List.length_nil];omega,by omega,h4⟩
      ·omega
      ·rw[jT];simp[dI,dB,dA]
  | false =>
    rw[if_neg (by simp)]at h4;simp only[dI,aB,if_false]at ct P_;have cm:=Cl T xp xb [41] (by decide) (by omega);simp only[Fe,aB,if_false,if_true]at h4;subst h4;dsimp only at fin aF aG aH cm;generalize sM T xp xb 4 [41]=p9 at *;generalize (xb || !(gD T xp xb 4 [41]))=b9 at *;simp only[dI]at cm;cases acc with
    | nil =>
      simp only[List.length_nil]at h2;rw[P9 T _ p b];repeat' first|refine aE ?_|refine cW ct ?_|refine cW P_ ?_|refine cW cm ?_|refine aD ?_ ?_<;>intro hw<;>try omega|fail
      exact fH (fin _ _ _ rfl rfl rfl) (bL.eqv rfl (bP _ _ _))
    | cons t0 acc =>
      simp only[List.length_cons]at h2;rw[MR T _ p b];repeat' first|refine aE ?_|refine cW ct ?_|refine cW P_ ?_|refine cW cm ?_|refine aD ?_ ?_<;>intro hw<;>try omega|fail
      exact fH (fin _ _ _ rfl (by simp) (by simp[dB,dA])) (bL.eqv rfl (bP _ _ _))
def yx(T:List Tok): Prop:= ∀ q,(T.getD q default).s.length<=2 ^ 62/\ -9223372036854775808<=(T.getD q default).n/\(T.getD q default).n<=9223372036854775807
def qK: jl x0:=by simp[x0,jl,DZ,v0]
def GF{op:Int}{l:List Expr}(h:DZ l): jl (.mk op v0 [] l):=by simp[jl,v0,h]
def UB{rd:Nat->Nat->RS}{l q:Nat}{b:Bool}(h:∀ l q,jl (rd l q).x): jl (qI rd l q b).x:=by
 unfold qI;split
 ·exact qK
 ·exact h _ _
def Xe{s:aI}{v:eu}(h:xO s=some v): v.s=[]/\0<=v.n/\v.n<=1:=by
 unfold xO at h;split at h
 ·cases h;exact⟨rfl,by decide,by decide⟩
 split at h
 ·cases h;exact⟨rfl,by decide,by decide⟩
 split at h
 ·cases h;exact⟨rfl,by decide,by decide⟩
 ·cases h
def ZE{T:List Tok}(hT:yx T){rd:Nat->Nat->RS}(h:∀ l q,jl (rd l q).x)(p:Nat): jl (nq rd T p).x:=by
 have hp:=hT p;unfold nq;split
 ·exact h 0 (p+1)
 split
 ·simp[yu,jl,DZ];exact hp.2
 split
 ·simp[yu,jl,DZ];exact hp.1
 split
 ·split
  ·rename_i v hv;have:=Xe hv;simp[yu,jl,DZ,this.1];omega
  ·split
   ·simp[jl,DZ,v0];exact hp.1
   ·exact qK
 ·exact qK
def adi{T:List Tok}(hT:yx T)(f:Nat): ∀(m:Option Expr) (lvl p:Nat),(∀ x,m=some x->jl x)->jl (cM T f m lvl p).x:=by
 induction f with
 | zero=>intro m lvl p _;exact qK
 | succ f ih =>
   intro m lvl p hm;have h:∀ l q,jl (cM T f none l q).x:=fun l q=>ih none l q (fun x hx=>by cases hx);cases m with
   | none =>
     simp only[cM];split
     ·split
      ·exact GF ⟨h _ _,UB (rd:=fun l q=>cM T f none l q) h,UB (rd:=fun l q=>cM T f none l q) h,trivial⟩
      ·exact h _ _
     split
     ·exact GF ⟨h _ _,trivial⟩
     split
     ·exact ZE hT h p
     split
     ·exact h _ _
     ·exact ih _ _ _ (fun x hx=>by cases hx;exact h _ _)
   | some x =>
     simp only[cM];split
     ·exact hm x rfl
     ·split
      ·exact GF ⟨hm x rfl,h _ _,trivial⟩
      ·exact ih _ _ _ (fun y hy=>by cases hy;exact GF ⟨hm x rfl,h _ _,trivial⟩)
def MS{T:List Tok}(hT:yx T)(fr lvl:Int): jl (gY T fr lvl).1:=by
 unfold gY;split
 ·exact qK
 split
 ·exact qK
 ·exact adi hT _ _ _ _ (fun x hx=>by cases hx)
def RV(s:aI): (∀ c ∈ s,dW c=true)-> ∀ v:Int,0<=v->v<=9223372036854775807-> ∀ n,nG s v=some n->0<=n/\n<=9223372036854775807:=by
 induction s with
 | nil=>intro _ v h1 h2 n h;simp only[nG]at h;cases h;exact⟨h1,h2⟩
 | cons c r ih =>
   intro hd v h1 h2 n h;have hc:=hd c (by simp);simp only[dW,aq,decide_eq_true_eq]at hc;simp only[nG]at h;split at h
   ·cases h
   ·exact ih (fun c hc=>hd c (bF _ hc)) _ (by omega) (by omega) n h
def Ld{p:UInt8->Bool}(s:aI): ∀ c ∈ s.takeWhile p,p c=true:=by
 induction s with
 | nil=>intro c h;cases h
 | cons x r ih =>
   intro c h;rw[dQ]at h;split at h
   ·rename_i hx;rcases List.mem_cons.1 h with rfl|h
    ·exact hx
    ·exact ih c h
   ·cases h
def abB(s:aI): 0<=(gZ s).n/\(gZ s).n<=9223372036854775807:=by
 have e:∀ k,0<=(PR.err k).n/\(PR.err k).n<=9223372036854775807:=fun k=>by simp[PR.err]
 unfold gZ;simp only;split
 ·unfold xM;split
  ·exact e _
  ·exact⟨by simp,by simp⟩
 split
 ·unfold mu;simp only;split
  ·exact e _
  ·split
   ·exact e _
   ·rename_i v hv;exact RV _ (Ld s) 0 (by omega) (by omega) v hv
 split
 ·have : ∀ (r b : aI) (i : Nat), 0 <= (jO r b i).n /\ (jO r b i).n <= 9223372036854775807 := fun r b i => by
   fun_induction jO r b i<;>first|exact e _|assumption|exact⟨by simp,by simp⟩
  exact this _ _ _
 ·unfold sK;split
  ·exact⟨by simp,by simp⟩
  ·exact e _
def UC(f:Nat): ∀(s:aI) (pos:Nat) (acc:List Tok),(∀ t ∈ acc,0<=t.n/\t.n<=9223372036854775807)-> ∀ t ∈ (o_ f s pos acc).1,0<=t.n/\t.n<=9223372036854775807:=by
 induction f with
 | zero=>intro s pos acc h;exact h
 | succ f ih =>
   intro s pos acc h;cases s with
   | nil=>exact h
   | cons c r =>
     rw[rN];split
     ·exact ih r (pos+1) acc h
     ·split
      ·refine ih _ _ _ (fun t ht=>?_);rcases List.mem_append.1 ht with ht|ht
       ·exact h t ht
       ·simp only[List.mem_cons,List.not_mem_nil,or_false]at ht;subst ht;exact abB _
      ·intro t ht;cases ht
def wh(s:aI): yx (bG s).1:=by
 intro q;have h1:=(n6 s).2 q
 have h2:∀ t ∈ (bG s).1,0<=t.n/\t.n<=9223372036854775807:=by
  unfold bG;split
  ·intro t ht;cases ht
  ·exact UC _ _ _ _ (fun t ht=>by cases ht)
 refine⟨by omega,?_⟩;by_cases hq:q<(bG s).1.length
 ·have:=h2 _ (bJ hq);omega
 ·rw[n5 (by omega)];decide
def Ab{T:List Tok}(hT:yx T)(p:Nat)(b:Bool): jl (iS T p b).x/\fN (iS T p b).x<=1+4*T.length:=by
 unfold iS qI;split
 ·exact⟨qK,by simp[x0,fN,lZ]⟩
 ·exact⟨MS hT _ _,Fb T _ _⟩
def Xf{T:List Tok}(hT:yx T)(hl:T.length<=2 ^ 50)(p:Nat)(b:Bool): GD (fO T p b).t:=by
 have hx:∀ p b,jl (iS T p b).x/\fN (iS T p b).x<=2 ^ 60:=fun p b=>⟨(Ab hT p b).1,by have:=(Ab hT p b).2;omega⟩;have h0:jl x0/\fN x0<=2 ^ 60:=⟨qK,Us⟩;have h1:∀ k p b,GD (rq k (iS T p b)).t:=fun k p b=>⟨hx p b,h0⟩;have h2:∀ lo,GD (JZ T p lo).t:=fun lo=>⟨hx _ _,hx _ _⟩;unfold fO;split
 ·exact h1 _ _ _
 split
 ·exact h1 _ _ _
 split
 ·exact h1 _ _ _
 split
 ·exact h1 _ _ _
 split
 ·exact h2 _
 split
 ·exact h2 _
 ·exact h1 _ _ _
def Xg{T:List Tok}(hT:yx T)(hl:T.length<=2 ^ 50)(f:Nat): ∀(acc:List Test) (p:Nat) (b:Bool),(∀ t ∈ acc,GD t)->(∀ t ∈ (qJ T f acc p b).ts,GD t)/\(qJ T f acc p b).ts.length<=acc.length+f:=by
 induction f with
 | zero=>intro acc p b h;exact⟨h,Nat.le_refl _⟩
 | succ f ih =>
   intro acc p b h
   have h2:∀ t ∈ acc++[(fO T p b).t],GD t:=fun t ht=>by
    rcases List.mem_append.1 ht with ht|ht
    ·exact h t ht
    ·simp only[List.mem_cons,List.not_mem_nil,or_false]at ht;subst ht;exact Xf hT hl p b
   rw[uo];split
   ·have:=ih _ ((fO T p b).p+1) (fO T p b).bad h2;rw[aA,List.length_cons,List.length_nil]at this;exact⟨this.1,by omega⟩
   ·exact⟨h2,by rw[aA,List.length_cons,List.length_nil];omega⟩
def Qa(T:List Tok)(n:Bool)(c:CS): (Fe T n c).ts=c.ts:=by unfold Fe;split<;>rfl
def MU{T:List Tok}(hT:yx T)(hl:T.length<=2 ^ 50): JX ⟨false,qg T,(jP T).ts⟩:=by
 have:=Xg hT hl (T.length+1) [] (P8 T) false (fun t ht=>by cases ht);unfold jP JX;rw[Qa];exact⟨by have:=this.2;simp only[List.length_nil]at this;dsimp only;omega,this.1⟩
def abC{T:List Tok}{n:Bool}{c:CS}(h:c.p<=T.length): (Fe T n c).p<=T.length:=by
 unfold Fe;split
 ·dsimp only[sM];split
  ·rename_i h;exact(nK h).1
  ·exact h
 ·exact h
def ZG(T:List Tok): (jP T).p<=T.length:=abC (RU _ _ _ _ (Ux T))
def c0: Cell:=⟨false,false,[]⟩
def Ff: Cell:=⟨true,false,[]⟩
def kL(s:aI): Cell × Int × Int :=
 if(bG s).2.2≠0 then(c0,(bG s).2.1,(bG s).2.2)
 else if(bG s).1.length=1/\gD (bG s).1 0 false 4 [45]=true then(Ff,0,0)
 else if(jP (bG s).1).p<(bG s).1.length then(c0,((bG s).1.getD (jP (bG s).1).p default).pos,11)
 else if(jP (bG s).1).bad=true then(c0,s.length,11)
 else if 12<(jP (bG s).1).ts.length then(c0,0,24)
 else if lp ⟨false,qg (bG s).1,(jP (bG s).1).ts⟩=false then(c0,0,12)
 else(⟨false,qg (bG s).1,(jP (bG s).1).ts⟩,0,0)
def eC3(r:Cell × Int × Int): AV:= .bO [dD r.1,I r.2.1,I r.2.2]
def UD(s:aI): JX (kL s).1:=by
 have h:=MU (wh s) (by have:=(n6 s).1;omega);have h0:JX c0:=⟨Nat.zero_le _,fun t ht=>by cases ht⟩;have h1:JX Ff:=⟨Nat.zero_le _,fun t ht=>by cases ht⟩;unfold kL;repeat' split
 all_goals first|exact h0|exact h1|exact h
