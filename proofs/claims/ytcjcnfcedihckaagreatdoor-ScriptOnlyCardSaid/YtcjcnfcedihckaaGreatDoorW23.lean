/- Part. -/
import Derived.Test.YtcjcnfcedihckaaGreatDoorW22
set_option linter.all false
set_option maxHeartbeats 2000000
namespace Go.Proofs.YtcjcnfcedihckaaGreatDoor
open Go.AM
set_option maxRecDepth 4000
def o9(l:List cV)(i:Nat): Int :=
 if fh (l.getD i default).name=false\/tX l (l.getD i default).name≠i then 13
 else if(l.getD i default).kind<1\/3<(l.getD i default).kind then 14 else 0
def jq(l:List cV): Int:=if 6<l.length then 24 else match(List.range l.length).find? (fun i=>o9 l i != 0)with
 | some i=>o9 l i
 | none=>0
def mZ{n k:Nat}(h:k<n): (List.range n).getD k default=k:=by simp[aj,h]
def Yg{l:List cV}{i:Nat}{e:Int}(h6:¬ 6<l.length)(hi:i<l.length)(h:∀ k,k<i->o9 l k=0)(he:o9 l i=e)(hne:e≠0): jq l=e:=by
 have:=wO (p:=fun i=>o9 l i != 0) (l:=List.range l.length) (i:=i) (by simpa using hi) (fun k hk=>by rw[mZ (by omega)];simp[h k hk]) (by rw[mZ hi];simp[he,hne]);unfold jq;rw[if_neg h6,this,mZ hi];exact he
def K4{l:List cV}(h6:¬ 6<l.length)(h:∀ k,k<l.length->o9 l k=0): jq l=0:=by
 have:=xm (p:=fun i=>o9 l i != 0) (l:=List.range l.length) (fun k hk=>by rw[List.length_range]at hk;rw[mZ hk];simp[h k hk]);unfold jq;rw[if_neg h6,this]
def JA(l:List cV)(hn:∀ k,k<l.length->(l.getD k default).name.length<=2 ^ 62): aM aK 227 [cH l] (I (jq l)):=by
 by_cases h6:6<l.length
 ·have e:jq l=24:=by unfold jq;rw[if_pos h6]
  rw[e];refine aR vU ?_ (by simp[AV.dF,AV.cB,jC]);intro Q aC aD aE;repeat' first|refine aG ?_|refine aF ?_ ?_<;>intro hw<;>try omega|fail
  exact aS rfl rfl
 refine aR vU ?_ (by simp[AV.dF,AV.cB,jC]);intro Q aC aD aE;repeat' first|refine aG ?_|refine aF ?_ ?_<;>intro hw<;>try omega|fail
 with_reducible refine bX [2,3,4,10,11,12,13,14,15,16,17,18,19,20,21,22,23,24,25,26,27,28,29,30,31,32,33,34,35,36,37,38,39,40] (fun q:Nat × List aZ=>[(10,I q.1)]) (fun q=>q.2) (fun q=>q.1<=l.length/\ ∀ k,k<q.1->o9 l k=0) (fun q=>l.length-q.1) (0,[]) ?_ ?_ ?_ ?_
 ·simp
 ·rfl
 ·exact at_
 rintro⟨i,τ⟩ r ⟨h1,h2⟩;dsimp only at h1 h2;by_cases hi:i<l.length
 ·have c1:=uy _ (hn i hi);have c2:=K3 l (l.getD i default).name (by omega);have hE:o9 l i=if fh (l.getD i default).name=false\/tX l (l.getD i default).name≠i then 13 else if(l.getD i default).kind<1\/3<(l.getD i default).kind then 14 else 0:=rfl
  obtain⟨c,hc⟩:∃ c,l.getD i default=c:=⟨_,rfl⟩;rw[hc]at c1 c2 hE;generalize fh c.name=nb at *;generalize tX l c.name=an at *;simp only[cH]at c2;repeat' first|simp (disch:=omega) only[go_sem,aC,aD,aE,hc]|refine aG ?_|refine aF ?_ ?_<;>intro hw<;>try omega|fail
  all_goals first
   | (refine aS ?_ rfl
      refine congrArg I ?_
      symm
      refine Yg h6 hi h2 ?_ (by decide);rw[hE]
      first
       |(rw[if_pos (by simp_all)];done)
       |(rw[if_neg (by simp_all),if_pos (by omega)];done))
   | (refine ⟨(i + 1, τ ++ [.cells [.str c.name, I c.kind, .aO false EV (c.order.map fD)]]), ?_, ?_, by first | rfl | (simp [go_sem]; done), da, at_⟩
      ·exact⟨by dsimp only;omega,bP h2 (by rw[hE,if_neg (by simp_all),if_neg (by omega)])⟩
      ·dsimp only;omega)
 ·repeat' first|refine aG ?_|refine aF ?_ ?_<;>intro hw<;>try omega|fail
  refine aS ?_ rfl;rw[K4 h6 (fun k hk=>h2 k (by omega))]
def m_(x:Expr): Bool:=di x && decide (lC x<=12)
def K5(x:Expr)(hx:jD x)(hz:fT x<=2 ^ 60): aM aK 237 [bg x] (.bool (m_ x)):=by
 have h1:=CN x hx hz;have h2:=yT x hz;unfold m_;generalize di x=b at *;rw[bG]at h1 h2 ⊢;refine aR Nw ?_;intro Q aC aD aE;cases b<;>simp only[nF,if_true,Bool.false_eq_true,if_false]at h1
 ·repeat' first|refine aG ?_|refine aF ?_ ?_<;>intro hw<;>try omega|fail
  all_goals exact aS rfl rfl
 ·repeat' first|refine aG ?_|refine aF ?_ ?_<;>intro hw<;>try omega|fail
  all_goals (refine aS ?_ rfl;simp;omega)
def zA (fn : FuncId) (cap : List AV) (hcap : AV.cB cap = true) (p : Test -> Bool) (l : List Test) (h : ∀ k, k < l.length -> aM aK fn (dH (l.getD k default) :: cap) (.bool (p (l.getD k default)))) (hl : l.length <= 2 ^ 62) :
    aM aK 236 [jL l,.fn (.func fn) [] cap] (I (fI p l)):=by
 refine aR xe ?_ (by simp[AV.dF,AV.cB,hcap,wz]);intro Q aC aD aE;repeat' first|refine aG ?_|refine aF ?_ ?_<;>intro hw<;>try omega|fail
 with_reducible refine bX [4,5,8,9,10,11,12,13,14,15,16,17,18] (fun i:Nat=>[(8,I i)]) (fun _=>[]) (fun i=>i<=l.length/\ ∀ k,k<i->p (l.getD k default)=false) (fun i=>l.length-i) (0) ?_ ?_ ?_ ?_
 ·simp
 ·rfl
 ·exact at_
 ·rintro i r ⟨hi,hp⟩;by_cases hin:i<l.length
  ·have hx:=h i hin;simp only[dH,bu,cu,ow,dI,dG,jL,dh,bM,qZ]at hx;repeat' first|refine aG ?_|refine aF ?_ ?_<;>intro hw<;>try omega|fail
   ·refine aS ?_ rfl;refine congrArg I ?_;exact(mo hin hp hw).symm
   ·refine⟨i+1,?_,?_,by first|rfl|(simp[go_sem];done),da,at_⟩<;>(try dsimp only)
    ·exact⟨by omega,bP hp hw⟩
    ·omega
  ·repeat' first|refine aG ?_|refine aF ?_ ?_<;>intro hw<;>try omega|fail
   refine aS ?_ rfl;refine congrArg I ?_;exact(lZ fun k hk=>hp k (by omega)).symm
def xq (fn : FuncId) (cap : List AV) (hcap : AV.cB cap = true) (p : Test -> Bool) (l : List Test) (h : ∀ k, k < l.length -> aM aK fn (dH (l.getD k default) :: cap) (.bool (p (l.getD k default)))) (hl : l.length <= 2 ^ 62) :
    aM aK 190 [jL l,.fn (.func fn) [] cap] (.bool (l.any p)):=by
 refine aR vf ?_ (by simp[AV.dF,AV.cB,hcap,wz]);intro Q aC aD aE;have hc:=zA fn cap hcap p l h hl;simp only[jL]at hc;repeat' first|refine aG ?_|refine aF ?_ ?_<;>intro hw<;>try omega|fail
 all_goals refine aS ?_ rfl
 all_goals rw[<-Ay]
def kW(t:Test): Bool :=
 if t.kind=6 then m_ t.a && m_ t.b
 else decide (1<=t.kind/\t.kind<=5) && m_ t.a && uR t.b x0 && !t.lo && !t.hi
def Hw(t:Test): Prop:=(jD t.a/\fT t.a<=2 ^ 60)/\jD t.b/\fT t.b<=2 ^ 60
def K6(c:Cell): Prop:=c.tests.length<=2 ^ 60/\ ∀ t ∈ c.tests,Hw t
def lK(c:Cell): Bool :=
 if c.any then !c.neg && decide (c.tests.length=0)
 else decide (1<=c.tests.length/\c.tests.length<=12) && !(c.tests.any fun t=> !(kW t))
def VC: fT x0<=2 ^ 60:=by simp[x0,fT,mA]
def Yh: bg x0 = .agg [I 0,I 0,I 0,.str [],.str [],.aO false EX []]:=by simp[x0,v0,bg]
def cell_of(t:Test): aM aK 239 [dH t] (.agg [.bool t.lo,.bool t.hi]):=by
 refine aR SR ?_;intro Q aC aD aE;simp only[dH,dG];repeat' first|refine aG ?_|refine aF ?_ ?_<;>intro hw<;>try omega|fail
 all_goals exact aS rfl rfl
def S8(t:Test)(h:Hw t): aM aK 192 [dH t] (.bool (kW t)):=by
 obtain⟨⟨a1,a2⟩,b1,b2⟩:=h;have ha:=K5 t.a a1 a2;have hb:=K5 t.b b1 b2;have hs:=PY t.b x0 (Vu _ b2) (Vu _ VC);have ho:=cell_of t;rw[Yh]at hs;rw[bG]at ha hb hs;simp only[dH,dG]at ho ⊢;have hS:kW t=if t.kind=6 then m_ t.a && m_ t.b else decide (1<=t.kind/\t.kind<=5) && m_ t.a && uR t.b x0 && !t.lo && !t.hi:=rfl
 rw[hS];clear hS;generalize m_ t.a=pa at *;generalize m_ t.b=pb at *;generalize uR t.b x0=sb at *;refine aR Mp ?_;intro Q aC aD aE;repeat' first|refine aG ?_|refine ye hs ?_|refine aF ?_ ?_<;>intro hw<;>try omega|fail
 all_goals (refine aS ?_ rfl;refine congrArg AV.bool ?_;rw[a_];simp_all)
 all_goals (try omega)
def N4(t:Test)(h:Hw t): aM aK 191 [dH t] (.bool (!(kW t))):=by
 have h1:=S8 t h;simp only[dH,dG]at h1 ⊢;generalize kW t=b at *;refine aR He ?_;intro Q aC aD aE;repeat' first|refine aG ?_|refine aF ?_ ?_<;>intro hw<;>try omega|fail
 all_goals exact aS rfl rfl
def AI(c:Cell)(h:K6 c): aM aK 154 [dI c] (I (nF (lK c))):=by
 have hc:=xq 191 [] rfl (fun t=> !(kW t)) c.tests (fun k hk=>N4 _ (h.2 _ (bH hk))) (by have:=h.1;omega);have hl:=h.1;simp only[jL,dI]at hc ⊢;have hS:lK c=if c.any then !c.neg && decide (c.tests.length=0)else decide (1<=c.tests.length/\c.tests.length<=12) && !(c.tests.any fun t=> !(kW t)):=rfl
 rw[hS];clear hS;generalize c.tests.any (fun t=> !(kW t))=an at *;refine aR Mm ?_;intro Q aC aD aE;repeat' first|refine aG ?_|refine aF ?_ ?_<;>intro hw<;>try omega|fail
 all_goals (refine aS ?_ rfl;refine congrArg I ?_;simp_all[nF,<-List.length_eq_zero_iff])
 all_goals (try omega)
 all_goals (intro h0;exfalso;omega)
def kF(k:Int): aI:=if k=2 then [60]else if k=3 then [60,61]else if k=4 then [62]else if k=5 then [62,61]else []
def K7(k:Int): aM aK 194 [I k] (.str (kF k)):=by
 refine aR Nv ?_;intro Q aC aD aE;repeat' first|refine aG ?_|refine aF ?_ ?_<;>intro hw<;>try omega|fail
 all_goals (refine aS ?_ rfl;simp_all[kF])
def uS(T:List Tok)(p:Nat): aI:=if(T.getD p default).kind=4 then(T.getD p default).s else []
def AJ(T:List Tok)(p:Nat)(b:Bool)(s:aI)(hs:s≠[]): gX T p b 4 s=(!b && decide (uS T p=s)):=by
 unfold gX nI uS;by_cases hp:p<T.length
 ·generalize T.getD p default=t;by_cases h4:t.kind=4
  ·simp[hp,h4]
  ·simp[hp,h4,Ne.symm hs]
 ·rw[oA (by omega)];simp[hp,S0,Ne.symm hs]
def CY(T:List Tok)(p:Nat)(b:Bool): c_ aK 264 0 [] (dM T p b) (dM T p b) (.str (uS T p)):=by
 by_cases hp:p<T.length
 ·refine c_.gj (tU.go ?_) rfl (bW _ _ _);unfold eY;intro Q aC aD aE;repeat' first|refine aG ?_|refine aF ?_ ?_<;>intro hw<;>try omega|fail
  all_goals (refine fQ (View.eqv ?_ rfl) (bS.refl (bW T p b));simp_all[uS])
 ·have:uS T p=[]:=by unfold uS;rw[oA (by omega)];simp[S0]
  rw[this];refine c_.gj (tU.go ?_) rfl (bW _ _ _);unfold eY;intro Q aC aD aE;repeat' first|refine aG ?_|refine aF ?_ ?_<;>intro hw<;>try omega|fail
  all_goals exact fQ (View.eqv rfl rfl) (bS.refl (bW T p b))
def Rm(T:List Tok)(p:Nat)(b:Bool)(s:aI)(hs:s≠[])(hp:p<=2 ^ 61): c_ aK 290 0 [.str s] (dM T p b) (dM T (tC T p b 4 s) b) (.bool (gX T p b 4 s)):=by
 have hn:=CY T p b;unfold tC;rw[AJ T p b s hs];generalize uS T p=t at hn ⊢;simp only[dM]at hn;refine c_.gj (Eo.go ?_) rfl (bW _ _ _);unfold eY;intro Q aC aD aE;repeat' first|refine aG ?_|refine c8 hn ?_|refine aF ?_ ?_<;>intro hw<;>try omega|fail
 all_goals first
  |(refine fQ (View.eqv ?_ rfl) (bS.eqv ?_ (bW _ _ _))<;>simp_all[dM];done)
def CZ(T:List Tok)(p:Nat)(b:Bool)(s:aI)(hs:s≠[])(hp:p<=2 ^ 61): c_ aK 291 0 [.str s] (dM T p b) (dM T (tC T p b 4 s) (b || !(gX T p b 4 s))) (.bU []):=by
 have hn:=Rm T p b s hs hp;generalize gX T p b 4 s=o at hn ⊢;simp only[dM]at hn;refine c_.gj (BO.go ?_) rfl (bW _ _ _);unfold eY;intro Q aC aD aE;cases o
 ·repeat' first|refine aG ?_|refine c8 hn ?_|refine aF ?_ ?_<;>intro hw<;>try omega|fail
  refine G0 rfl (bS.eqv ?_ (bW _ _ _));simp[dM]
 ·repeat' first|refine aG ?_|refine c8 hn ?_|refine aF ?_ ?_<;>intro hw<;>try omega|fail
  refine G0 rfl (bS.eqv ?_ (bW _ _ _));simp[dM]
def VD(T:List Tok)(l q:Nat): RS:=⟨(iw T q l).1,(iw T q l).2.1.toNat,decide ((iw T q l).2.2≠0)⟩
def jd(T:List Tok)(p:Nat)(b:Bool): RS:=rh (VD T) 4 p b
def S9(T:List Tok)(p:Nat): jd T p true=⟨x0,p,true⟩:=rfl
def P7(T:List Tok)(p:Nat): jd T p false=VD T 4 p:=rfl
def Yi(T:List Tok){q:Nat}(hq:q<=T.length): jN T.length q (VD T 4 q):=by
 have hg:¬ ((q:Int)<0\/(T.length:Int)<q\/((4:Nat):Int)<0\/7<((4:Nat):Int)):=by omega
 have g:=(sy T (8*T.length+9) none 4 q hq).1 rfl;unfold VD iw;rw[if_neg hg,iG,iG];split
 ·exact⟨by simpa using g.1,by simpa using g.2.1,fun h=>by simp at h⟩
 ·rename_i h;exact⟨by simpa using g.1,by simpa using g.2.1,fun _=>by have:=g.2.2 (by simpa using h);simpa using this⟩
def ym(T:List Tok){q:Nat}{b:Bool}(hq:q<=T.length): jN T.length q (jd T q b):=by
 cases b with
 | true=>exact⟨Nat.le_refl _,hq,fun h=>by cases h⟩
 | false=>exact Yi T hq
def yn(T:List Tok)(p:Nat)(b:Bool)(hT:T.length<=2 ^ 50)(hs:∀ q,(T.getD q default).s.length<=2 ^ 62): c_ aK 309 0 [] (dM T p b) (dM T (jd T p b).p (jd T p b).bad) (bg (jd T p b).x):=by
 cases b with
 | true =>
   rw[S9];generalize hE:bg _=E;refine c_.gj (tV.go ?_) rfl (bW _ _ _);unfold eY;intro Q aC aD aE;repeat' first|refine aG ?_|refine aF ?_ ?_<;>intro hw<;>try omega|fail
   exact fQ (by rw[<-hE];exact qu (.au _)) (bS.refl (bW T p true))
 | false =>
   rw[P7];have cr:=EG T p 4 hT hs;have hp0:=(Ri T p 4).1;simp only[VD];have e4:((4:Nat):Int)=4:=rfl;rw[e4];generalize iw T p 4=r at *;obtain⟨rx,rn,re⟩:=r;dsimp only at *;obtain⟨n,rfl⟩:∃ n:Nat,rn=n:=⟨rn.toNat,by omega⟩;have e2:∀ σ : ae,View σ (.agg [I rx.op,I rx.v.kind,I rx.v.n,.str rx.v.s,.str rx.s,.aO false EX (rx.l.map bg)]) (bg rx):=fun σ=>View.eqv (bG _).symm (fX _);simp only[K0,tj]at cr;rw[bG]at cr;generalize bg rx=E at *;rw[iG];refine c_.gj (tV.go ?_) rfl (bW _ _ _);unfold eY;intro Q aC aD aE;repeat' first|refine aG ?_|refine aF ?_ ?_<;>intro hw<;>try omega|fail
   all_goals (refine fQ (e2 _) (bS.eqv ?_ (bW _ _ _));simp[dM];rw[a_];simp)
structure TS where
 t:Test
 p:Nat
 bad:Bool
deriving Inhabited
def rT(k:Int)(r:RS): TS:=⟨⟨k,r.x,x0,false,false⟩,r.p,r.bad⟩
def vJ(T:List Tok)(p:Nat): RS:=jd T (p+1) false
def vK(T:List Tok)(p:Nat): RS:=kD T (vJ T p) 4 [46,46]
def lS(T:List Tok)(p:Nat): RS:=jd T (vK T p).p (vK T p).bad
def inH(T:List Tok)(p:Nat): Bool:=gX T (lS T p).p (lS T p).bad 4 [91]
def yW(T:List Tok)(p:Nat): RS:=if inH T p then⟨x0,(lS T p).p+1,(lS T p).bad⟩else kD T (lS T p) 4 [93]
def K8(T:List Tok)(p:Nat)(lo:Bool): TS:=⟨⟨6,(vJ T p).x,(lS T p).x,lo,inH T p⟩,(yW T p).p,(yW T p).bad⟩
def fU(T:List Tok)(p:Nat)(b:Bool): TS :=
 if gX T p b 4 [60]then rT 2 (jd T (p+1) b)
 else if gX T p b 4 [60,61]then rT 3 (jd T (p+1) b)
 else if gX T p b 4 [62]then rT 4 (jd T (p+1) b)
 else if gX T p b 4 [62,61]then rT 5 (jd T (p+1) b)
 else if gX T p b 4 [91]then K8 T p false
 else if gX T p b 4 [93]then K8 T p true
 else rT 1 (jd T p b)
def Yj{k:Int}(h:2<=k)(h':k<=5): kF k≠[]:=by
 rcases(by omega:k=2\/k=3\/k=4\/k=5)with rfl|rfl|rfl|rfl<;>decide
def S_{T:List Tok}{p:Nat}{b:Bool}{k:Int}(h:2<=k)(h':k<=5)(hb:∀ j:Int,2<=j->j<k->gX T p b 4 (kF j)=false)(ho:gX T p b 4 (kF k)=true): fU T p b=rT k (jd T (p+1) b):=by
 have e2:kF 2=[60]:=rfl;have e3:kF 3=[60,61]:=rfl;have e4:kF 4=[62]:=rfl;have e5:kF 5=[62,61]:=rfl;unfold fU;rcases(by omega:k=2\/k=3\/k=4\/k=5)with rfl|rfl|rfl|rfl
 ·rw[e2]at ho;rw[if_pos ho]
 ·have h2:=hb 2 (by omega) (by omega);rw[e2]at h2;rw[e3]at ho;rw[if_neg (by simp[h2]),if_pos ho]
 ·have h2:=hb 2 (by omega) (by omega);have h3:=hb 3 (by omega) (by omega);rw[e2]at h2;rw[e3]at h3;rw[e4]at ho;rw[if_neg (by simp[h2]),if_neg (by simp[h3]),if_pos ho]
 ·have h2:=hb 2 (by omega) (by omega);have h3:=hb 3 (by omega) (by omega);have h4:=hb 4 (by omega) (by omega);rw[e2]at h2;rw[e3]at h3;rw[e4]at h4;rw[e5]at ho;rw[if_neg (by simp[h2]),if_neg (by simp[h3]),if_neg (by simp[h4]),if_pos ho]
def Ta{T:List Tok}{p:Nat}{b:Bool}(hb:∀ j:Int,2<=j->j<6->gX T p b 4 (kF j)=false): fU T p b=if gX T p b 4 [91]then K8 T p false else if gX T p b 4 [93]then K8 T p true else rT 1 (jd T p b):=by
 have h2:gX T p b 4 [60]=false:=hb 2 (by omega) (by omega);have h3:gX T p b 4 [60,61]=false:=hb 3 (by omega) (by omega);have h4:gX T p b 4 [62]=false:=hb 4 (by omega) (by omega);have h5:gX T p b 4 [62,61]=false:=hb 5 (by omega) (by omega);unfold fU;rw[if_neg (by simp[h2]),if_neg (by simp[h3]),if_neg (by simp[h4]),if_neg (by simp[h5])]
def VE{T:List Tok}{p:Nat}{r:RS}(k:Int)(h:jN T.length p r): p<=(rT k r).p/\(rT k r).p<=T.length:=⟨h.1,h.2.1⟩
def JB{T:List Tok}{p:Nat}(hp:p<T.length): (vJ T p).p<=T.length/\(vK T p).p<=T.length/\(lS T p).p<=T.length/\(yW T p).p<=T.length/\p<=(yW T p).p:=by
 have g1:jN T.length (p+1) (vJ T p):=ym T hp;have g2:jN T.length (p+1) (vK T p):=vp _ _ g1;have g3:jN T.length (vK T p).p (lS T p):=ym T g2.2.1
 have g4:(yW T p).p<=T.length/\(lS T p).p<=(yW T p).p:=by
  unfold yW;split
  ·rename_i h;exact⟨(n8 h).1,Nat.le_succ _⟩
  ·have:=vp 4 [93] g3;refine⟨this.2.1,?_⟩;simp only[kD,tC];split<;>omega
 have:=g1.1;have:=g2.1;have:=g3.1;have m2:(vJ T p).p<=(vK T p).p:=by simp only[vK,kD,tC];split<;>omega
 exact⟨g1.2.1,g2.2.1,g3.2.1,g4.1,by omega⟩
def K9{T:List Tok}{p:Nat}{b:Bool}(hp:p<=T.length): p<=(fU T p b).p/\(fU T p b).p<=T.length:=by
 have st:∀ k s,gX T p b 4 s=true->p<=(rT k (jd T (p+1) b)).p/\(rT k (jd T (p+1) b)).p<=T.length:=fun k s h=>by
  have:=ym T (q:=p+1) (b:=b) (n8 h).1;exact⟨Nat.le_of_succ_le this.1,this.2.1⟩
 unfold fU;split
 ·rename_i h;exact st _ _ h
 split
 ·rename_i h;exact st _ _ h
 split
 ·rename_i h;exact st _ _ h
 split
 ·rename_i h;exact st _ _ h
 split
 ·rename_i h;have:=JB (n8 h).1;exact⟨this.2.2.2.2,this.2.2.2.1⟩
 split
 ·rename_i h;have:=JB (n8 h).1;exact⟨this.2.2.2.2,this.2.2.2.1⟩
 ·exact VE 1 (ym T hp)
def tF(T:List Tok)(p:Nat)(b:Bool)(s:aI)(o:Bool)(hs:s≠[])(hp:p<=2 ^ 61)(h:gX T p b 4 s=o): c_ aK 290 0 [.str s] (dM T p b) (dM T (if o then p+1 else p) b) (.bool o):=by
 have:=Rm T p b s hs hp;unfold tC at this;rw[h]at this;exact this
def VF{σ : ae}{k:Int}{r:Expr}: View σ (.agg [I k,I r.op,I r.v.kind,I r.v.n,.str r.v.s,.str r.s,.aO false EX (r.l.map bg),I 0,I 0,I 0,.str [],.str [],.au,.bool false,.bool false]) (dH ⟨k,r,x0,false,false⟩):=by
 simp only[dH,dG];refine View.s5 (.cons (.refl _ rfl) (.cons (.refl _ rfl) (.cons (.refl _ rfl) (.cons (.refl _ rfl) (.cons (.refl _ rfl) (.cons (.refl _ rfl) (.cons (.refl _ ?_) (.cons (.refl _ rfl) (.cons (.refl _ rfl) (.cons (.refl _ rfl) (.cons (.refl _ rfl) (.cons (.refl _ rfl) (.cons (.au _) (.cons (.refl _ rfl) (.cons (.refl _ rfl) (.nil _))))))))))))))));simp
def VG (T : List Tok) (p : Nat) (b : Bool) (hp : p <= T.length) (hT : T.length <= 2 ^ 50) (hs : ∀ q, (T.getD q default).s.length <= 2 ^ 62) :
    c_ aK 289 0 [] (dM T p b) (dM T (fU T p b).p (fU T p b).bad) (dH (fU T p b).t):=by
 generalize hR:fU T p b=R;generalize hE:dH R.t=E;refine c_.gj (BN.go ?_) rfl (bW _ _ _);unfold eY;intro Q aC aD aE;repeat' first|refine aG ?_|refine aF ?_ ?_<;>intro hw<;>try omega|fail
 with_reducible refine bX [3,5,6,7,8,9,10,11,12,13,14,15,16] (fun k:Int=>[(3,I k)]) (fun _=>[.cells [.aO false ET (T.map o8),I p,.bool b],.cells [I 0,I 0,I 0,I 0,.str [],.str [],.au,I 0,I 0,I 0,.str [],.str [],.au,.bool false,.bool false]]) (fun k=>2<=k/\k<=6/\ ∀ j:Int,2<=j->j<k->gX T p b 4 (kF j)=false) (fun k=>(6-k).toNat) (2) ?_ ?_ ?_ ?_
 ·exact⟨by omega,by omega,fun j h1 h2=>by omega⟩
 ·rfl
 ·exact at_
 rintro k r ⟨h1,h2,h3⟩;by_cases hk:k<=5
 ·have tW:=K7 k;obtain⟨o,ho⟩:∃ o,gX T p b 4 (kF k)=o:=⟨_,rfl⟩;have sr:=tF T p b (kF k) o (Yj h1 hk) (by omega) ho;cases o with
  | false =>
    simp only[dM,aB,if_false]at sr;repeat' first|refine aG ?_|refine c8 sr ?_|refine aF ?_ ?_<;>intro hw<;>try omega|fail
    refine⟨k+1,?_,?_,by first|rfl|(simp[go_sem];done),da,at_⟩<;>(try dsimp only)
    ·refine⟨by omega,by omega,fun j Kn GJ=>?_⟩;by_cases Ce:j=k
     ·subst Ce;exact ho
     ·exact h3 j Kn (by omega)
    ·omega
  | true =>
    have M1:=n8 ho;have hce:=yn T (p+1) b hT hs;rw[S_ h1 hk h3 ho]at hR;subst hR;simp only[rT]at hE aC aD aE;generalize jd T (p+1) b=x at *;rw[bG]at hce;simp only[dM,if_true,Int.natCast_add,Int.cast_ofNat_Int]at sr hce;repeat' first|simp (disch:=omega) only[go_sem,aC,aD,aE,Int.natCast_add,Int.cast_ofNat_Int]|refine aG ?_|refine c8 sr ?_|refine c8 hce ?_|refine aF ?_ ?_<;>intro hw<;>try omega|fail
    exact fQ (by rw[<-hE];exact VF) (bS.refl (bW _ _ _))
 ·obtain rfl:k=6:=by omega
  rw[Ta (fun j Kn GJ=>h3 j Kn GJ)]at hR;have hmk:=CY T p b;obtain⟨o1,KX⟩:∃ o,gX T p b 4 [91]=o:=⟨_,rfl⟩;obtain⟨o2,Ht⟩:∃ o,gX T p b 4 [93]=o:=⟨_,rfl⟩;have C0:=tF T p b [91] o1 (by decide) (by omega) KX;have N7:=tF T p b [93] o2 (by decide) (by omega) Ht;have hmo:=AJ T p b [93] (by decide);rw[KX,Ht]at hR;rw[Ht]at hmo;have KH:=AJ T p b [91] (by decide);rw[KX]at KH;generalize hmt:uS T p=mt at *;by_cases hin:o1=true\/o2=true
  ·have M1 : p < T.length /\ b = false := by
    rcases hin with h|h
    ·exact n8 (KX.trans h)
    ·exact n8 (Ht.trans h)
   obtain⟨M1,rfl⟩:=M1
   have hR2:R=K8 T p (decide (mt=[93])):=by
    rw[<-hR];simp only[fZ,ew]at hmo KH;cases o1 with
    | true =>
      have:mt=[91]:=by simpa using KH.symm
      rw[if_pos rfl,this];rfl
    | false =>
      rcases hin with h|h
      ·cases h
      ·subst h;have:mt=[93]:=by simpa using hmo.symm
       rw[if_neg (by simp),if_pos rfl,this];rfl
   clear hR;subst hR2;obtain⟨g1,g2,g3,g4,_⟩:=JB (T:=T) M1;have c1:=yn T (p+1) false hT hs;have c2:=CZ T (vJ T p).p (vJ T p).bad [46,46] (by decide) (by omega);have c3:=yn T (vK T p).p (vK T p).bad hT hs;obtain⟨o3,Vw⟩:∃ o,inH T p=o:=⟨_,rfl⟩;have c4:=tF T (lS T p).p (lS T p).bad [91] o3 (by decide) (by omega) Vw;have c5:=CZ T (lS T p).p (lS T p).bad [93] (by decide) (by omega)
   change c_ _ _ _ _ _ (dM T (vJ T p).p (vJ T p).bad) (bg (vJ T p).x)at c1
   change c_ _ _ _ _ _ (dM T (vK T p).p (vK T p).bad) _ at c2
   change c_ _ _ _ _ _ (dM T (lS T p).p (lS T p).bad) (bg (lS T p).x)at c3
   change c_ _ _ _ _ _ (dM T (kD T (lS T p) 4 [93]).p (kD T (lS T p) 4 [93]).bad) _ at c5
   have ZU:yW T p=if o3 then⟨x0,(lS T p).p+1,(lS T p).bad⟩else kD T (lS T p) 4 [93]:=by rw[<-Vw];rfl
   have acO:K8 T p (decide (mt=[93]))=⟨⟨6,(vJ T p).x,(lS T p).x,decide (mt=[93]),o3⟩,(yW T p).p,(yW T p).bad⟩:=by rw[<-Vw];rfl
   rw[acO]at hE aC aD aE;rw[ZU]at aC aD aE;clear ZU acO Vw KX Ht g1 g2 g4;generalize kD T (lS T p) 4 [93]=r5 at *;generalize vJ T p=r1 at *;generalize vK T p=r2 at *;generalize lS T p=r3 at *;rw[bG]at c1 c3;simp only[dH,dG]at hE;simp only[dM]at hmk
   have fin:∀ σ : ae,View σ (.agg [I 6,I r1.x.op,I r1.x.v.kind,I r1.x.v.n,.str r1.x.v.s,.str r1.x.s,.aO false EX (r1.x.l.map bg),I r3.x.op,I r3.x.v.kind,I r3.x.v.n,.str r3.x.v.s,.str r3.x.s,.aO false EX (r3.x.l.map bg),.bool (mt==[93]),.bool o3]) E:=fun σ=>by
    rw[<-hE,show decide (mt=[93])=(mt==[93]) from by rw[a_];simp];exact View.eqv rfl (by simp)
   clear hE;have hne:mt==[93]↔mt=[93]:=by simp
   cases o1 with
   | true =>
     simp only[dM,if_true,Int.natCast_add,Int.cast_ofNat_Int]at C0 c1 c2 c3 c4 c5;cases o3 with
     | true =>
       simp only[if_true]at c4 fin aC aD aE;repeat' first|simp (disch:=omega) only[go_sem,aC,aD,aE,Int.natCast_add,Int.cast_ofNat_Int]|refine aG ?_|refine c8 hmk ?_|refine c8 C0 ?_|refine c8 c1 ?_|refine c8 c2 ?_|refine c8 c3 ?_|refine c8 c4 ?_|refine aF ?_ ?_<;>intro hw<;>try omega|fail
       exact fQ (fin _) (bS.eqv (by simp[dM]) (bW _ _ _))
     | false =>
       simp only[aB,if_false]at c4 fin aC aD aE;repeat' first|simp (disch:=omega) only[go_sem,aC,aD,aE,Int.natCast_add,Int.cast_ofNat_Int]|refine aG ?_|refine c8 hmk ?_|refine c8 C0 ?_|refine c8 c1 ?_|refine c8 c2 ?_|refine c8 c3 ?_|refine c8 c4 ?_|refine c8 c5 ?_|refine aF ?_ ?_<;>intro hw<;>try omega|fail
       exact fQ (fin _) (bS.eqv (by simp[dM]) (bW _ _ _))
   | false =>
     have agt:o2=true:=by rcases hin with h|h<;>first|(cases h;done)|exact h
     subst agt;simp only[dM,if_true,aB,if_false,Int.natCast_add,Int.cast_ofNat_Int]at C0 N7 c1 c2 c3 c4 c5;cases o3 with
     | true =>
       simp only[if_true]at c4 fin aC aD aE;repeat' first|simp (disch:=omega) only[go_sem,aC,aD,aE,Int.natCast_add,Int.cast_ofNat_Int]|refine aG ?_|refine c8 hmk ?_|refine c8 C0 ?_|refine c8 N7 ?_|refine c8 c1 ?_|refine c8 c2 ?_|refine c8 c3 ?_|refine c8 c4 ?_|refine aF ?_ ?_<;>intro hw<;>try omega|fail
       exact fQ (fin _) (bS.eqv (by simp[dM]) (bW _ _ _))
     | false =>
       simp only[aB,if_false]at c4 fin aC aD aE;repeat' first|simp (disch:=omega) only[go_sem,aC,aD,aE,Int.natCast_add,Int.cast_ofNat_Int]|refine aG ?_|refine c8 hmk ?_|refine c8 C0 ?_|refine c8 N7 ?_|refine c8 c1 ?_|refine c8 c2 ?_|refine c8 c3 ?_|refine c8 c4 ?_|refine c8 c5 ?_|refine aF ?_ ?_<;>intro hw<;>try omega|fail
       exact fQ (fin _) (bS.eqv (by simp[dM]) (bW _ _ _))
  ·obtain⟨rfl,rfl⟩:o1=false/\o2=false:=⟨by cases o1 with|false=>rfl|true=>exact absurd (.inl rfl) hin,by cases o2 with|false=>rfl|true=>exact absurd (.inr rfl) hin⟩;simp only[aB,if_false]at hR;subst hR;have c1:=yn T p b hT hs;simp only[rT]at hE aC aD aE;generalize jd T p b=x at *;rw[bG]at c1;simp only[dM,aB,if_false]at C0 N7 c1 hmk;repeat' first|refine aG ?_|refine c8 hmk ?_|refine c8 C0 ?_|refine c8 N7 ?_|refine c8 c1 ?_|refine aF ?_ ?_<;>intro hw<;>try omega|fail
   exact fQ (by rw[<-hE];exact VF) (bS.refl (bW _ _ _))
def acP: aI:=[110,111,116]
def qJ(T:List Tok): Bool:=decide (1<T.length) && (nI T 0 1 acP && nI T 1 4 [40])
def Yk(T:List Tok): aM aK 288 [tj T] (.bool (qJ T)):=by
 refine aR PN ?_;intro Q aC aD aE;repeat' first|refine aG ?_|refine aF ?_ ?_<;>intro hw<;>try omega|fail
 all_goals (refine aS ?_ rfl;refine congrArg AV.bool ?_;rw[a_];simp_all[qJ,nI,acP])
 all_goals (try omega)
 all_goals (exact⟨fun h=>⟨by omega,by omega,by omega,h⟩,fun h=>h.2.2.2⟩)
structure CS where
 ts:List Test
 p:Nat
 bad:Bool
deriving Inhabited
def ri(T:List Tok): Nat->List Test->Nat->Bool->CS
 | 0,acc,p,b=>⟨acc,p,b⟩
 | f+1,acc,p,b=>if gX T (fU T p b).p (fU T p b).bad 4 [44]then ri T f (acc++[(fU T p b).t]) ((fU T p b).p+1) (fU T p b).bad else⟨acc++[(fU T p b).t],(fU T p b).p,(fU T p b).bad⟩
def uT(T:List Tok)(f:Nat)(acc:List Test)(p:Nat)(b:Bool): ri T (f+1) acc p b=if gX T (fU T p b).p (fU T p b).bad 4 [44]then ri T f (acc++[(fU T p b).t]) ((fU T p b).p+1) (fU T p b).bad else⟨acc++[(fU T p b).t],(fU T p b).p,(fU T p b).bad⟩:=rfl
def Tb{T:List Tok}(f:Nat): ∀(acc:List Test) (p:Nat) (b:Bool),p<=T.length->(ri T f acc p b).p<=T.length:=by
 induction f with
 | zero=>intro acc p b hp;exact hp
 | succ f ih =>
   intro acc p b hp;rw[uT];split
   ·rename_i h;exact ih _ _ _ (n8 h).1
   ·exact(K9 hp).2
def FX(T:List Tok)(n:Bool)(c:CS): CS:=if n then⟨c.ts,tC T c.p c.bad 4 [41],c.bad || !(gX T c.p c.bad 4 [41])⟩else c
def Rn(T:List Tok): Nat:=if qJ T then 2 else 0
def j7(T:List Tok): CS:=FX T (qJ T) (ri T (T.length+1) [] (Rn T) false)
def VH(T:List Tok): Rn T<=T.length:=by
 unfold Rn;split
 ·rename_i h;simp only[qJ,aq,decide_eq_true_eq]at h;omega
 ·exact bJ _
def VI(T:List Tok)(n:Bool)(p:Nat)(b:Bool): List Test->ae
 | []=>[.cells (dM T p b),.cells [.bool false,.bool false,.au],.cells [.bool false,.bool n,.au]]
 | t::acc=>[.cells (dM T p b),.cells [.bool false,.bool false,.au],.cells [.bool false,.bool n,.own ES 3 (acc.length+1) 0 (acc.length+1)],.vec ES (dH t::acc.map dH)]
structure Lc where
 acc:List Test
 p:Nat
 b:Bool
 f:Nat
def Ro(T:List Tok)(n:Bool)(p:Nat)(b:Bool): VI T n p b []=[.cells [.aO false ET (T.map o8),I p,.bool b],.cells [.bool false,.bool false,.au],.cells [.bool false,.bool n,.au]]:=rfl
def N8(T:List Tok)(n:Bool)(p:Nat)(b:Bool)(t:Test)(acc:List Test): VI T n p b (t::acc)=[.cells [.aO false ET (T.map o8),I p,.bool b],.cells [.bool false,.bool false,.au],.cells [.bool false,.bool n,.own ES 3 (acc.length+1) 0 (acc.length+1)],.vec ES (dH t::acc.map dH)]:=rfl
def Yl(T:List Tok)(n:Bool)(p:Nat)(b:Bool)(acc:List Test)(t:Test): VI T n p b (acc++[t])=[.cells (dM T p b),.cells [.bool false,.bool false,.au],.cells [.bool false,.bool n,.own ES 3 (acc.length+1) 0 (acc.length+1)],.vec ES (acc.map dH++[dH t])]:=by
 cases acc with
 | nil=>rfl
 | cons x acc=>simp[VI]
def VJ{σ : ae}{n:Bool}{ts:List Test}{k:Nat}(hk:k=ts.length)(h : σ[3]? = some (.vec ES (ts.map dH))): View σ (.agg [.bool false,.bool n,.own ES 3 k 0 k]) (dI ⟨false,n,ts⟩):=by
 subst hk;exact View.s5 (.cons (.refl _ rfl) (.cons (.refl _ rfl) (.cons (View.vec h (by simp) (by simp) (KQ _)) (.nil _))))
def VK (T : List Tok) (hT : T.length <= 2 ^ 30) (hs : ∀ q, (T.getD q default).s.length <= 2 ^ 62) :
    c_ aK 265 0 [] (dM T 0 false) (dM T (j7 T).p (j7 T).bad) (dI ⟨false,qJ T,(j7 T).ts⟩):=by
 have hn:=Yk T;have hp0:=VH T;have e0:Rn T=if qJ T then 2 else 0:=rfl
 generalize hR:j7 T=R;unfold j7 at hR;generalize qJ T=n at *;generalize hE:dI _=E;simp only[tj]at hn
 have fin:∀ (σ : ae) (k:Nat) (ts:List Test),R.ts=ts->k=ts.length->σ[3]? = some (.vec ES (ts.map dH))->View σ (.agg [.bool false,.bool n,.own ES 3 k 0 k]) E:=fun σ k ts h1 h2 h3=>by
  rw[<-hE,h1];exact VJ h2 h3
 clear hE;refine c_.gj (BM.go ?_) rfl (bW _ _ _);unfold eY;intro Q aC aD aE;cases n
 all_goals
  simp only[aB,if_false,if_true]at e0;rw[e0]at hR hp0;repeat' first|refine aG ?_|refine aF ?_ ?_<;>intro hw<;>try omega|fail
  with_reducible refine bX [17,18,19,20,21,22,23,24,25,26] (fun x:Lc=>([]:List (Nat × AV))) (fun x=>VI T _ x.p x.b x.acc) (fun x=>x.p<=T.length/\x.acc.length+x.f=T.length+1/\T.length+1<=x.f+x.p/\FX T _ (ri T x.f x.acc x.p x.b)=R) (fun x=>x.f) ⟨[],_,false,T.length+1⟩ ⟨?_,?_,?_,hR⟩ rfl ?_ ?_
  ·dsimp only;omega
  ·dsimp only;simp
  ·dsimp only;omega
  ·exact at_
  rintro⟨acc,p,b,f⟩ r ⟨h1,h2,h3,h4⟩;dsimp only at h1 h2 h3 h4;obtain⟨f,rfl⟩:∃ g,f=g+1:=⟨f-1,by omega⟩;rw[uT]at h4;have ct:=VG T p b h1 (by omega) hs;have gt:=K9 (T:=T) (b:=b) h1;generalize fU T p b=x at *;obtain⟨xt,xp,xb⟩:=x;dsimp only at ct gt h4;obtain⟨o,ho⟩:∃ o,gX T xp xb 4 [44]=o:=⟨_,rfl⟩;have Rp:=tF T xp xb [44] o (by decide) (by omega) ho;have ja:=fun n' p' b'=>Yl T n' p' b' acc xt;simp only[dH,dG]at ct;rw[ho]at h4;cases o with
  | true =>
    have hlt:=(n8 ho).1;rw[if_pos rfl]at h4;simp only[dM,if_true,Int.natCast_add,Int.cast_ofNat_Int]at ct Rp;cases acc with
    | nil =>
      simp only[List.length_nil]at h2;rw[Ro T _ p b];repeat' first|simp (disch:=omega) only[go_sem,aC,aD,aE,Int.natCast_add,Int.cast_ofNat_Int]|refine aG ?_|refine c8 ct ?_|refine c8 Rp ?_|refine aF ?_ ?_<;>intro hw<;>try omega|fail
      refine⟨⟨[xt],xp+1,xb,f⟩,?_,?_,?_,da,at_⟩<;>(try dsimp only)
      ·exact⟨by omega,by simp only[List.length_cons,List.length_nil];omega,by omega,h4⟩
      ·omega
      ·rfl
    | cons t0 acc =>
      simp only[List.length_cons]at h2;rw[N8 T _ p b];repeat' first|simp (disch:=omega) only[go_sem,aC,aD,aE,Int.natCast_add,Int.cast_ofNat_Int]|refine aG ?_|refine c8 ct ?_|refine c8 Rp ?_|refine aF ?_ ?_<;>intro hw<;>try omega|fail
      refine⟨⟨t0::acc++[xt],xp+1,xb,f⟩,?_,?_,?_,da,at_⟩<;>(try dsimp only)
      ·exact⟨by omega,by simp only[List.length_cons,aA,List.length_nil];omega,by omega,h4⟩
      ·omega
      ·rw[ja];simp[dM,dH,dG]
  | false =>
    rw[if_neg (by simp)]at h4;simp only[dM,aB,if_false]at ct Rp;have cm:=CZ T xp xb [41] (by decide) (by omega);simp only[FX,aB,if_false,if_true]at h4;subst h4;dsimp only at fin aC aD aE cm;generalize tC T xp xb 4 [41]=p9 at *;generalize (xb || !(gX T xp xb 4 [41]))=b9 at *;simp only[dM]at cm;cases acc with
    | nil =>
      simp only[List.length_nil]at h2;rw[Ro T _ p b];repeat' first|refine aG ?_|refine c8 ct ?_|refine c8 Rp ?_|refine c8 cm ?_|refine aF ?_ ?_<;>intro hw<;>try omega|fail
      exact fQ (fin _ _ _ rfl rfl rfl) (bS.eqv rfl (bW _ _ _))
    | cons t0 acc =>
      simp only[List.length_cons]at h2;rw[N8 T _ p b];repeat' first|refine aG ?_|refine c8 ct ?_|refine c8 Rp ?_|refine c8 cm ?_|refine aF ?_ ?_<;>intro hw<;>try omega|fail
      exact fQ (fin _ _ _ rfl (by simp) (by simp[dH,dG])) (bS.eqv rfl (bW _ _ _))
def yX(T:List Tok): Prop:= ∀ q,(T.getD q default).s.length<=2 ^ 62/\ -9223372036854775808<=(T.getD q default).n/\(T.getD q default).n<=9223372036854775807
def rj: jD x0:=by simp[x0,jD,EF,v0]
def Hx{op:Int}{l:List Expr}(h:EF l): jD (.mk op v0 [] l):=by simp[jD,v0,h]
def VL{rd:Nat->Nat->RS}{l q:Nat}{b:Bool}(h:∀ l q,jD (rd l q).x): jD (rh rd l q b).x:=by
 unfold rh;split
 ·exact rj
 ·exact h _ _
def Ym{s:aI}{v:ez}(h:yj s=some v): v.s=[]/\0<=v.n/\v.n<=1:=by
 unfold yj at h;split at h
 ·cases h;exact⟨rfl,by decide,by decide⟩
 split at h
 ·cases h;exact⟨rfl,by decide,by decide⟩
 split at h
 ·cases h;exact⟨rfl,by decide,by decide⟩
 ·cases h
def aaR{T:List Tok}(hT:yX T){rd:Nat->Nat->RS}(h:∀ l q,jD (rd l q).x)(p:Nat): jD (nM rd T p).x:=by
 have hp:=hT p;unfold nM;split
 ·exact h 0 (p+1)
 split
 ·simp[yV,jD,EF];exact hp.2
 split
 ·simp[yV,jD,EF];exact hp.1
 split
 ·split
  ·rename_i v hv;have:=Ym hv;simp[yV,jD,EF,this.1];omega
  ·split
   ·simp[jD,EF,v0];exact hp.1
   ·exact rj
 ·exact rj
def aev{T:List Tok}(hT:yX T)(f:Nat): ∀(m:Option Expr) (lvl p:Nat),(∀ x,m=some x->jD x)->jD (cN T f m lvl p).x:=by
 induction f with
 | zero=>intro m lvl p _;exact rj
 | succ f ih =>
   intro m lvl p hm;have h:∀ l q,jD (cN T f none l q).x:=fun l q=>ih none l q (fun x hx=>by cases hx);cases m with
   | none =>
     simp only[cN];split
     ·split
      ·exact Hx ⟨h _ _,VL (rd:=fun l q=>cN T f none l q) h,VL (rd:=fun l q=>cN T f none l q) h,trivial⟩
      ·exact h _ _
     split
     ·exact Hx ⟨h _ _,trivial⟩
     split
     ·exact aaR hT h p
     split
     ·exact h _ _
     ·exact ih _ _ _ (fun x hx=>by cases hx;exact h _ _)
   | some x =>
     simp only[cN];split
     ·exact hm x rfl
     ·split
      ·exact Hx ⟨hm x rfl,h _ _,trivial⟩
      ·exact ih _ _ _ (fun y hy=>by cases hy;exact Hx ⟨hm x rfl,h _ _,trivial⟩)
def N9{T:List Tok}(hT:yX T)(fr lvl:Int): jD (iw T fr lvl).1:=by
 unfold iw;split
 ·exact rj
 split
 ·exact rj
 ·exact aev hT _ _ _ _ (fun x hx=>by cases hx)
def Tc(s:aI): (∀ c ∈ s,ep c=true)-> ∀ v:Int,0<=v->v<=9223372036854775807-> ∀ n,nY s v=some n->0<=n/\n<=9223372036854775807:=by
 induction s with
 | nil=>intro _ v h1 h2 n h;simp only[nY]at h;cases h;exact⟨h1,h2⟩
 | cons c r ih =>
   intro hd v h1 h2 n h;have hc:=hd c (by simp);simp only[ep,aq,decide_eq_true_eq]at hc;simp only[nY]at h;split at h
   ·cases h
   ·exact ih (fun c hc=>hd c (bI _ hc)) _ (by omega) (by omega) n h
def Mv{p:UInt8->Bool}(s:aI): ∀ c ∈ s.takeWhile p,p c=true:=by
 induction s with
 | nil=>intro c h;cases h
 | cons x r ih =>
   intro c h;rw[ek]at h;split at h
   ·rename_i hx;rcases List.mem_cons.1 h with rfl|h
    ·exact hx
    ·exact ih c h
   ·cases h
def acQ(s:aI): 0<=(iy s).n/\(iy s).n<=9223372036854775807:=by
 have e:∀ k,0<=(PR.err k).n/\(PR.err k).n<=9223372036854775807:=fun k=>by simp[PR.err]
 unfold iy;simp only;split
 ·unfold yg;split
  ·exact e _
  ·exact⟨by simp,by simp⟩
 split
 ·unfold mL;simp only;split
  ·exact e _
  ·split
   ·exact e _
   ·rename_i v hv;exact Tc _ (Mv s) 0 (by omega) (by omega) v hv
 split
 ·have : ∀ (r b : aI) (i : Nat), 0 <= (j6 r b i).n /\ (j6 r b i).n <= 9223372036854775807 := fun r b i => by
   fun_induction j6 r b i<;>first|exact e _|assumption|exact⟨by simp,by simp⟩
  exact this _ _ _
 ·unfold tA;split
  ·exact⟨by simp,by simp⟩
  ·exact e _
def VM(f:Nat): ∀(s:aI) (pos:Nat) (acc:List Tok),(∀ t ∈ acc,0<=t.n/\t.n<=9223372036854775807)-> ∀ t ∈ (pP f s pos acc).1,0<=t.n/\t.n<=9223372036854775807:=by
 induction f with
 | zero=>intro s pos acc h;exact h
 | succ f ih =>
   intro s pos acc h;cases s with
   | nil=>exact h
   | cons c r =>
     rw[sx];split
     ·exact ih r (pos+1) acc h
     ·split
      ·refine ih _ _ _ (fun t ht=>?_);rcases List.mem_append.1 ht with ht|ht
       ·exact h t ht
       ·simp only[List.mem_cons,List.not_mem_nil,or_false]at ht;subst ht;exact acQ _
      ·intro t ht;cases ht
def wP(s:aI): yX (bN s).1:=by
 intro q;have h1:=(oB s).2 q
 have h2:∀ t ∈ (bN s).1,0<=t.n/\t.n<=9223372036854775807:=by
  unfold bN;split
  ·intro t ht;cases ht
  ·exact VM _ _ _ _ (fun t ht=>by cases ht)
 refine⟨by omega,?_⟩;by_cases hq:q<(bN s).1.length
 ·have:=h2 _ (bH hq);omega
 ·rw[oA (by omega)];decide
def AK{T:List Tok}(hT:yX T)(p:Nat)(b:Bool): jD (jd T p b).x/\fT (jd T p b).x<=1+4*T.length:=by
 unfold jd rh;split
 ·exact⟨rj,by simp[x0,fT,mA]⟩
 ·exact⟨N9 hT _ _,FV T _ _⟩
def Yn{T:List Tok}(hT:yX T)(hl:T.length<=2 ^ 50)(p:Nat)(b:Bool): Hw (fU T p b).t:=by
 have hx:∀ p b,jD (jd T p b).x/\fT (jd T p b).x<=2 ^ 60:=fun p b=>⟨(AK hT p b).1,by have:=(AK hT p b).2;omega⟩;have h0:jD x0/\fT x0<=2 ^ 60:=⟨rj,VC⟩;have h1:∀ k p b,Hw (rT k (jd T p b)).t:=fun k p b=>⟨hx p b,h0⟩;have h2:∀ lo,Hw (K8 T p lo).t:=fun lo=>⟨hx _ _,hx _ _⟩;unfold fU;split
 ·exact h1 _ _ _
 split
 ·exact h1 _ _ _
 split
 ·exact h1 _ _ _
 split
 ·exact h1 _ _ _
 split
 ·exact h2 _
 split
 ·exact h2 _
 ·exact h1 _ _ _
def Yo{T:List Tok}(hT:yX T)(hl:T.length<=2 ^ 50)(f:Nat): ∀(acc:List Test) (p:Nat) (b:Bool),(∀ t ∈ acc,Hw t)->(∀ t ∈ (ri T f acc p b).ts,Hw t)/\(ri T f acc p b).ts.length<=acc.length+f:=by
 induction f with
 | zero=>intro acc p b h;exact⟨h,Nat.le_refl _⟩
 | succ f ih =>
   intro acc p b h
   have h2:∀ t ∈ acc++[(fU T p b).t],Hw t:=fun t ht=>by
    rcases List.mem_append.1 ht with ht|ht
    ·exact h t ht
    ·simp only[List.mem_cons,List.not_mem_nil,or_false]at ht;subst ht;exact Yn hT hl p b
   rw[uT];split
   ·have:=ih _ ((fU T p b).p+1) (fU T p b).bad h2;rw[aA,List.length_cons,List.length_nil]at this;exact⟨this.1,by omega⟩
   ·exact⟨h2,by rw[aA,List.length_cons,List.length_nil];omega⟩
def Rq(T:List Tok)(n:Bool)(c:CS): (FX T n c).ts=c.ts:=by unfold FX;split<;>rfl
def N_{T:List Tok}(hT:yX T)(hl:T.length<=2 ^ 50): K6 ⟨false,qJ T,(j7 T).ts⟩:=by
 have:=Yo hT hl (T.length+1) [] (Rn T) false (fun t ht=>by cases ht);unfold j7 K6;rw[Rq];exact⟨by have:=this.2;simp only[List.length_nil]at this;dsimp only;omega,this.1⟩
def acR{T:List Tok}{n:Bool}{c:CS}(h:c.p<=T.length): (FX T n c).p<=T.length:=by
 unfold FX;split
 ·dsimp only[tC];split
  ·rename_i h;exact(n8 h).1
  ·exact h
 ·exact h
def aaS(T:List Tok): (j7 T).p<=T.length:=acR (Tb _ _ _ _ (VH T))
def c0: Cell:=⟨false,false,[]⟩
def FY: Cell:=⟨true,false,[]⟩
def kX(s:aI): Cell × Int × Int :=
 if(bN s).2.2≠0 then(c0,(bN s).2.1,(bN s).2.2)
 else if(bN s).1.length=1/\gX (bN s).1 0 false 4 [45]=true then(FY,0,0)
 else if(j7 (bN s).1).p<(bN s).1.length then(c0,((bN s).1.getD (j7 (bN s).1).p default).pos,11)
 else if(j7 (bN s).1).bad=true then(c0,s.length,11)
 else if 12<(j7 (bN s).1).ts.length then(c0,0,24)
 else if lK ⟨false,qJ (bN s).1,(j7 (bN s).1).ts⟩=false then(c0,0,12)
 else(⟨false,qJ (bN s).1,(j7 (bN s).1).ts⟩,0,0)
def eC3(r:Cell × Int × Int): AV:= .bU [dI r.1,I r.2.1,I r.2.2]
def VN(s:aI): K6 (kX s).1:=by
 have h:=N_ (wP s) (by have:=(oB s).1;omega);have h0:K6 c0:=⟨Nat.zero_le _,fun t ht=>by cases ht⟩;have h1:K6 FY:=⟨Nat.zero_le _,fun t ht=>by cases ht⟩;unfold kX;repeat' split
 all_goals first|exact h0|exact h1|exact h
