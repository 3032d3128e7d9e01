/- Part. -/
import Derived.Test.YthakfmmgnjpmdaaGreatDoorW21
set_option linter.all false
set_option maxHeartbeats 2000000
namespace Go.Proofs.YthakfmmgnjpmdaaGreatDoor
open Go.AM
set_option maxRecDepth 4000
def kf(k:Int): aO:=if k=2 then [60]else if k=3 then [60,61]else if k=4 then [62]else if k=5 then [62,61]else []
def Mg(k:Int): aM aH 89 [I k] (.str (kf k)):=by
 refine aR O5 ?_;intro Q aB aC aD;repeat' first|refine au ?_|refine aq ?_ ?_<;>intro hw<;>try omega|fail
 all_goals (refine aU ?_ rfl;simp_all[kf])
def vJ(T:List Tok)(p:Nat): aO:=if(T.getD p default).kind=4 then(T.getD p default).s else []
def BZ(T:List Tok)(p:Nat)(b:Bool)(s:aO)(hs:s≠[]): fc T p b 4 s=(!b && decide (vJ T p=s)):=by
 unfold fc kA vJ;by_cases hp:p<T.length
 ·generalize T.getD p default=t;by_cases h4:t.kind=4
  ·simp[hp,h4]
  ·simp[hp,h4,Ne.symm hs]
 ·rw[qE (by omega)];simp[hp,U2,Ne.symm hs]
def D9(T:List Tok)(p:Nat)(b:Bool): dh aH 144 0 [] (ei T p b) (ei T p b) (.str (vJ T p)):=by
 by_cases hp:p<T.length
 ·refine dh.fS (uP.go ?_) rfl (bL _ _ _);unfold dO;intro Q aB aC aD;repeat' first|refine au ?_|refine aq ?_ ?_<;>intro hw<;>try omega|fail
  all_goals (refine fE (View.eqv ?_ rfl) (bN.refl (bL T p b));simp_all[vJ])
 ·have:vJ T p=[]:=by unfold vJ;rw[qE (by omega)];simp[U2]
  rw[this];refine dh.fS (uP.go ?_) rfl (bL _ _ _);unfold dO;intro Q aB aC aD;repeat' first|refine au ?_|refine aq ?_ ?_<;>intro hw<;>try omega|fail
  all_goals exact fE (View.eqv rfl rfl) (bN.refl (bL T p b))
def S9(T:List Tok)(p:Nat)(b:Bool)(s:aO)(hs:s≠[])(hp:p<=2 ^ 61): dh aH 178 0 [.str s] (ei T p b) (ei T (qh T p b 4 s) b) (.bool (fc T p b 4 s)):=by
 have hn:=D9 T p b;unfold qh;rw[BZ T p b s hs];generalize vJ T p=t at hn ⊢;simp only[ei]at hn;refine dh.fS (FR.go ?_) rfl (bL _ _ _);unfold dO;intro Q aB aC aD;repeat' first|refine au ?_|refine da hn ?_|refine aq ?_ ?_<;>intro hw<;>try omega|fail
 all_goals first
  |(refine fE (View.eqv ?_ rfl) (bN.eqv ?_ (bL _ _ _))<;>simp_all[ei];done)
def D_(T:List Tok)(p:Nat)(b:Bool)(s:aO)(hs:s≠[])(hp:p<=2 ^ 61): dh aH 179 0 [.str s] (ei T p b) (ei T (qh T p b 4 s) (b || !(fc T p b 4 s))) (.bH []):=by
 have hn:=S9 T p b s hs hp;generalize fc T p b 4 s=o at hn ⊢;simp only[ei]at hn;refine dh.fS (C6.go ?_) rfl (bL _ _ _);unfold dO;intro Q aB aC aD;cases o
 ·repeat' first|refine au ?_|refine da hn ?_|refine aq ?_ ?_<;>intro hw<;>try omega|fail
  refine IE rfl (bN.eqv ?_ (bL _ _ _));simp[ei]
 ·repeat' first|refine au ?_|refine da hn ?_|refine aq ?_ ?_<;>intro hw<;>try omega|fail
  refine IE rfl (bN.eqv ?_ (bL _ _ _));simp[ei]
def S_(T:List Tok)(l q:Nat): RS:=⟨(iw T q l).1,(iw T q l).2.1.toNat,decide ((iw T q l).2.2≠0)⟩
def jb(T:List Tok)(p:Nat)(b:Bool): RS:=qF (S_ T) 4 p b
def U_(T:List Tok)(p:Nat): jb T p true=⟨x0,p,true⟩:=rfl
def Gc(T:List Tok)(p:Nat): jb T p false=S_ T 4 p:=rfl
def aar(T:List Tok){q:Nat}(hq:q<=T.length): Goes T.length q (S_ T 4 q):=by
 have hg:¬ ((q:Int)<0\/(T.length:Int)<q\/((4:Nat):Int)<0\/7<((4:Nat):Int)):=by omega
 have g:=(tq T (8*T.length+9) none 4 q hq).1 rfl;unfold S_ iw;rw[if_neg hg,eL,eL];split
 ·exact⟨by simpa using g.1,by simpa using g.2.1,fun h=>by simp at h⟩
 ·rename_i h;exact⟨by simpa using g.1,by simpa using g.2.1,fun _=>by have:=g.2.2 (by simpa using h);simpa using this⟩
def zl(T:List Tok){q:Nat}{b:Bool}(hq:q<=T.length): Goes T.length q (jb T q b):=by
 cases b with
 | true=>exact⟨Nat.le_refl _,hq,fun h=>by cases h⟩
 | false=>exact aar T hq
def zm(T:List Tok)(p:Nat)(b:Bool)(hT:T.length<=2 ^ 50)(hs:∀ q,(T.getD q default).s.length<=2 ^ 62): dh aH 198 0 [] (ei T p b) (ei T (jb T p b).p (jb T p b).bad) (aT (jb T p b).x):=by
 cases b with
 | true =>
   rw[U_];generalize hE:aT _=E;refine dh.fS (uQ.go ?_) rfl (bL _ _ _);unfold dO;intro Q aB aC aD;repeat' first|refine au ?_|refine aq ?_ ?_<;>intro hw<;>try omega|fail
   exact fE (by rw[<-hE];exact ri (.aA _)) (bN.refl (bL T p true))
 | false =>
   rw[Gc];have cr:=Gb T p 4 hT hs;have hp0:=(S6 T p 4).1;simp only[S_];have e4:((4:Nat):Int)=4:=rfl;rw[e4];generalize iw T p 4=r at *;obtain⟨rx,rn,re⟩:=r;dsimp only at *;obtain⟨n,rfl⟩:∃ n:Nat,rn=n:=⟨rn.toNat,by omega⟩;have e2:∀ σ : ae,View σ (.agg [I rx.op,I rx.v.kind,I rx.v.n,.str rx.v.s,.str rx.s,.aN false EX (rx.l.map aT)]) (aT rx):=fun σ=>View.eqv (bq _).symm (gH _);simp only[Mb,vH]at cr;rw[bq]at cr;generalize aT rx=E at *;rw[eL];refine dh.fS (uQ.go ?_) rfl (bL _ _ _);unfold dO;intro Q aB aC aD;repeat' first|refine au ?_|refine aq ?_ ?_<;>intro hw<;>try omega|fail
   all_goals (refine fE (e2 _) (bN.eqv ?_ (bL _ _ _));simp[ei];rw[cG];simp)
structure TS where
 t:Test
 p:Nat
 bad:Bool
deriving Inhabited
def qI(k:Int)(r:RS): TS:=⟨⟨k,r.x,x0,false,false⟩,r.p,r.bad⟩
def vt(T:List Tok)(p:Nat): RS:=jb T (p+1) false
def ud(T:List Tok)(p:Nat): RS:=jO T (vt T p) 4 [46,46]
def lM(T:List Tok)(p:Nat): RS:=jb T (ud T p).p (ud T p).bad
def XK(T:List Tok)(p:Nat): Bool:=fc T (lM T p).p (lM T p).bad 4 [91]
def vu(T:List Tok)(p:Nat): RS:=if XK T p then⟨x0,(lM T p).p+1,(lM T p).bad⟩else jO T (lM T p) 4 [93]
def Gd(T:List Tok)(p:Nat)(lo:Bool): TS:=⟨⟨6,(vt T p).x,(lM T p).x,lo,XK T p⟩,(vu T p).p,(vu T p).bad⟩
def fP(T:List Tok)(p:Nat)(b:Bool): TS :=
 if fc T p b 4 [60]then qI 2 (jb T (p+1) b)
 else if fc T p b 4 [60,61]then qI 3 (jb T (p+1) b)
 else if fc T p b 4 [62]then qI 4 (jb T (p+1) b)
 else if fc T p b 4 [62,61]then qI 5 (jb T (p+1) b)
 else if fc T p b 4 [91]then Gd T p false
 else if fc T p b 4 [93]then Gd T p true
 else qI 1 (jb T p b)
def aas{k:Int}(h:2<=k)(h':k<=5): kf k≠[]:=by
 rcases(by omega:k=2\/k=3\/k=4\/k=5)with rfl|rfl|rfl|rfl<;>decide
def Va{T:List Tok}{p:Nat}{b:Bool}{k:Int}(h:2<=k)(h':k<=5)(hb:∀ j:Int,2<=j->j<k->fc T p b 4 (kf j)=false)(ho:fc T p b 4 (kf k)=true): fP T p b=qI k (jb T (p+1) b):=by
 have e2:kf 2=[60]:=rfl;have e3:kf 3=[60,61]:=rfl;have e4:kf 4=[62]:=rfl;have e5:kf 5=[62,61]:=rfl;unfold fP;rcases(by omega:k=2\/k=3\/k=4\/k=5)with rfl|rfl|rfl|rfl
 ·rw[e2]at ho;rw[if_pos ho]
 ·have h2:=hb 2 (by omega) (by omega);rw[e2]at h2;rw[e3]at ho;rw[if_neg (by simp[h2]),if_pos ho]
 ·have h2:=hb 2 (by omega) (by omega);have h3:=hb 3 (by omega) (by omega);rw[e2]at h2;rw[e3]at h3;rw[e4]at ho;rw[if_neg (by simp[h2]),if_neg (by simp[h3]),if_pos ho]
 ·have h2:=hb 2 (by omega) (by omega);have h3:=hb 3 (by omega) (by omega);have h4:=hb 4 (by omega) (by omega);rw[e2]at h2;rw[e3]at h3;rw[e4]at h4;rw[e5]at ho;rw[if_neg (by simp[h2]),if_neg (by simp[h3]),if_neg (by simp[h4]),if_pos ho]
def Vb{T:List Tok}{p:Nat}{b:Bool}(hb:∀ j:Int,2<=j->j<6->fc T p b 4 (kf j)=false): fP T p b=if fc T p b 4 [91]then Gd T p false else if fc T p b 4 [93]then Gd T p true else qI 1 (jb T p b):=by
 have h2:fc T p b 4 [60]=false:=hb 2 (by omega) (by omega);have h3:fc T p b 4 [60,61]=false:=hb 3 (by omega) (by omega);have h4:fc T p b 4 [62]=false:=hb 4 (by omega) (by omega);have h5:fc T p b 4 [62,61]=false:=hb 5 (by omega) (by omega);unfold fP;rw[if_neg (by simp[h2]),if_neg (by simp[h3]),if_neg (by simp[h4]),if_neg (by simp[h5])]
def XL{T:List Tok}{p:Nat}{r:RS}(k:Int)(h:Goes T.length p r): p<=(qI k r).p/\(qI k r).p<=T.length:=⟨h.1,h.2.1⟩
def KH{T:List Tok}{p:Nat}(hp:p<T.length): (vt T p).p<=T.length/\(ud T p).p<=T.length/\(lM T p).p<=T.length/\(vu T p).p<=T.length/\p<=(vu T p).p:=by
 have g1:Goes T.length (p+1) (vt T p):=zl T hp;have g2:Goes T.length (p+1) (ud T p):=wg _ _ g1;have g3:Goes T.length (ud T p).p (lM T p):=zl T g2.2.1
 have g4:(vu T p).p<=T.length/\(lM T p).p<=(vu T p).p:=by
  unfold vu;split
  ·rename_i h;exact⟨(oq h).1,Nat.le_succ _⟩
  ·have:=wg 4 [93] g3;refine⟨this.2.1,?_⟩;simp only[jO,qh];split<;>omega
 have:=g1.1;have:=g2.1;have:=g3.1;have m2:(vt T p).p<=(ud T p).p:=by simp only[ud,jO,qh];split<;>omega
 exact⟨g1.2.1,g2.2.1,g3.2.1,g4.1,by omega⟩
def Mh{T:List Tok}{p:Nat}{b:Bool}(hp:p<=T.length): p<=(fP T p b).p/\(fP T p b).p<=T.length:=by
 have st:∀ k s,fc T p b 4 s=true->p<=(qI k (jb T (p+1) b)).p/\(qI k (jb T (p+1) b)).p<=T.length:=fun k s h=>by
  have:=zl T (q:=p+1) (b:=b) (oq h).1;exact⟨Nat.le_of_succ_le this.1,this.2.1⟩
 unfold fP;split
 ·rename_i h;exact st _ _ h
 split
 ·rename_i h;exact st _ _ h
 split
 ·rename_i h;exact st _ _ h
 split
 ·rename_i h;exact st _ _ h
 split
 ·rename_i h;have:=KH (oq h).1;exact⟨this.2.2.2.2,this.2.2.2.1⟩
 split
 ·rename_i h;have:=KH (oq h).1;exact⟨this.2.2.2.2,this.2.2.2.1⟩
 ·exact XL 1 (zl T hp)
def uf(T:List Tok)(p:Nat)(b:Bool)(s:aO)(o:Bool)(hs:s≠[])(hp:p<=2 ^ 61)(h:fc T p b 4 s=o): dh aH 178 0 [.str s] (ei T p b) (ei T (if o then p+1 else p) b) (.bool o):=by
 have:=S9 T p b s hs hp;unfold qh at this;rw[h]at this;exact this
def XM{σ : ae}{k:Int}{r:Expr}: View σ (.agg [I k,I r.op,I r.v.kind,I r.v.n,.str r.v.s,.str r.s,.aN false EX (r.l.map aT),I 0,I 0,I 0,.str [],.str [],.aA,.bool false,.bool false]) (dA ⟨k,r,x0,false,false⟩):=by
 simp only[dA,dQ];refine View.nV (.cons (.refl _ rfl) (.cons (.refl _ rfl) (.cons (.refl _ rfl) (.cons (.refl _ rfl) (.cons (.refl _ rfl) (.cons (.refl _ rfl) (.cons (.refl _ ?_) (.cons (.refl _ rfl) (.cons (.refl _ rfl) (.cons (.refl _ rfl) (.cons (.refl _ rfl) (.cons (.refl _ rfl) (.cons (.aA _) (.cons (.refl _ rfl) (.cons (.refl _ rfl) (.nil _))))))))))))))));simp
def XO (T : List Tok) (p : Nat) (b : Bool) (hp : p <= T.length) (hT : T.length <= 2 ^ 50) (hs : ∀ q, (T.getD q default).s.length <= 2 ^ 62) :
    dh aH 177 0 [] (ei T p b) (ei T (fP T p b).p (fP T p b).bad) (dA (fP T p b).t):=by
 generalize hR:fP T p b=R;generalize hE:dA R.t=E;refine dh.fS (C5.go ?_) rfl (bL _ _ _);unfold dO;intro Q aB aC aD;repeat' first|refine au ?_|refine aq ?_ ?_<;>intro hw<;>try omega|fail
 with_reducible refine bE [3,5,6,7,8,9,10,11,12,13,14,15,16] (fun k:Int=>[(3,I k)]) (fun _=>[.cells [.aN false ET (T.map sJ),I p,.bool b],.cells [I 0,I 0,I 0,I 0,.str [],.str [],.aA,I 0,I 0,I 0,.str [],.str [],.aA,.bool false,.bool false]]) (fun k=>2<=k/\k<=6/\ ∀ j:Int,2<=j->j<k->fc T p b 4 (kf j)=false) (fun k=>(6-k).toNat) (2) ?_ ?_ ?_ ?_
 ·exact⟨by omega,by omega,fun j h1 h2=>by omega⟩
 ·rfl
 ·exact at_
 rintro k r ⟨h1,h2,h3⟩;by_cases hk:k<=5
 ·have pn:=Mg k;obtain⟨o,ho⟩:∃ o,fc T p b 4 (kf k)=o:=⟨_,rfl⟩;have sZ:=uf T p b (kf k) o (aas h1 hk) (by omega) ho;cases o with
  | false =>
    simp only[ei,aG,if_false]at sZ;repeat' first|refine au ?_|refine da sZ ?_|refine aq ?_ ?_<;>intro hw<;>try omega|fail
    refine⟨k+1,?_,?_,by first|rfl|(simp[go_sem];done),cZ,at_⟩<;>(try dsimp only)
    ·refine⟨by omega,by omega,fun j Lv uM=>?_⟩;by_cases Du:j=k
     ·subst Du;exact ho
     ·exact h3 j Lv (by omega)
    ·omega
  | true =>
    have tM:=oq ho;have hce:=zm T (p+1) b hT hs;rw[Va h1 hk h3 ho]at hR;subst hR;simp only[qI]at hE aB aC aD;generalize jb T (p+1) b=x at *;rw[bq]at hce;simp only[ei,if_true,Int.natCast_add,Int.cast_ofNat_Int]at sZ hce;repeat' first|simp (disch:=omega) only[go_sem,aB,aC,aD,Int.natCast_add,Int.cast_ofNat_Int]|refine au ?_|refine da sZ ?_|refine da hce ?_|refine aq ?_ ?_<;>intro hw<;>try omega|fail
    exact fE (by rw[<-hE];exact XM) (bN.refl (bL _ _ _))
 ·obtain rfl:k=6:=by omega
  rw[Vb (fun j Lv uM=>h3 j Lv uM)]at hR;have hmk:=D9 T p b;obtain⟨o1,S5⟩:∃ o,fc T p b 4 [91]=o:=⟨_,rfl⟩;obtain⟨o2,L9⟩:∃ o,fc T p b 4 [93]=o:=⟨_,rfl⟩;have Ea:=uf T p b [91] o1 (by decide) (by omega) S5;have PD:=uf T p b [93] o2 (by decide) (by omega) L9;have hmo:=BZ T p b [93] (by decide);rw[S5,L9]at hR;rw[L9]at hmo;have LQ:=BZ T p b [91] (by decide);rw[S5]at LQ;generalize hmt:vJ T p=mt at *;by_cases hin:o1=true\/o2=true
  ·have tM : p < T.length /\ b = false := by
    rcases hin with h|h
    ·exact oq (S5.trans h)
    ·exact oq (L9.trans h)
   obtain⟨tM,rfl⟩:=tM
   have L2:R=Gd T p (decide (mt=[93])):=by
    rw[<-hR];simp only[fX,fH]at hmo LQ;cases o1 with
    | true =>
      have:mt=[91]:=by simpa using LQ.symm
      rw[if_pos rfl,this];rfl
    | false =>
      rcases hin with h|h
      ·cases h
      ·subst h;have:mt=[93]:=by simpa using hmo.symm
       rw[if_neg (by simp),if_pos rfl,this];rfl
   clear hR;subst L2;obtain⟨g1,g2,g3,g4,_⟩:=KH (T:=T) tM;have c1:=zm T (p+1) false hT hs;have c2:=D_ T (vt T p).p (vt T p).bad [46,46] (by decide) (by omega);have c3:=zm T (ud T p).p (ud T p).bad hT hs;obtain⟨o3,XF⟩:∃ o,XK T p=o:=⟨_,rfl⟩;have c4:=uf T (lM T p).p (lM T p).bad [91] o3 (by decide) (by omega) XF;have c5:=D_ T (lM T p).p (lM T p).bad [93] (by decide) (by omega)
   change dh _ _ _ _ _ (ei T (vt T p).p (vt T p).bad) (aT (vt T p).x)at c1
   change dh _ _ _ _ _ (ei T (ud T p).p (ud T p).bad) _ at c2
   change dh _ _ _ _ _ (ei T (lM T p).p (lM T p).bad) (aT (lM T p).x)at c3
   change dh _ _ _ _ _ (ei T (jO T (lM T p) 4 [93]).p (jO T (lM T p) 4 [93]).bad) _ at c5
   have hr4:vu T p=if o3 then⟨x0,(lM T p).p+1,(lM T p).bad⟩else jO T (lM T p) 4 [93]:=by rw[<-XF];rfl
   have ae5:Gd T p (decide (mt=[93]))=⟨⟨6,(vt T p).x,(lM T p).x,decide (mt=[93]),o3⟩,(vu T p).p,(vu T p).bad⟩:=by rw[<-XF];rfl
   rw[ae5]at hE aB aC aD;rw[hr4]at aB aC aD;clear hr4 ae5 XF S5 L9 g1 g2 g4;generalize jO T (lM T p) 4 [93]=r5 at *;generalize vt T p=r1 at *;generalize ud T p=r2 at *;generalize lM T p=r3 at *;rw[bq]at c1 c3;simp only[dA,dQ]at hE;simp only[ei]at hmk
   have fin:∀ σ : ae,View σ (.agg [I 6,I r1.x.op,I r1.x.v.kind,I r1.x.v.n,.str r1.x.v.s,.str r1.x.s,.aN false EX (r1.x.l.map aT),I r3.x.op,I r3.x.v.kind,I r3.x.v.n,.str r3.x.v.s,.str r3.x.s,.aN false EX (r3.x.l.map aT),.bool (mt==[93]),.bool o3]) E:=fun σ=>by
    rw[<-hE,show decide (mt=[93])=(mt==[93]) from by rw[cG];simp];exact View.eqv rfl (by simp)
   clear hE;have hne:mt==[93]↔mt=[93]:=by simp
   cases o1 with
   | true =>
     simp only[ei,if_true,Int.natCast_add,Int.cast_ofNat_Int]at Ea c1 c2 c3 c4 c5;cases o3 with
     | true =>
       simp only[if_true]at c4 fin aB aC aD;repeat' first|simp (disch:=omega) only[go_sem,aB,aC,aD,Int.natCast_add,Int.cast_ofNat_Int]|refine au ?_|refine da hmk ?_|refine da Ea ?_|refine da c1 ?_|refine da c2 ?_|refine da c3 ?_|refine da c4 ?_|refine aq ?_ ?_<;>intro hw<;>try omega|fail
       exact fE (fin _) (bN.eqv (by simp[ei]) (bL _ _ _))
     | false =>
       simp only[aG,if_false]at c4 fin aB aC aD;repeat' first|simp (disch:=omega) only[go_sem,aB,aC,aD,Int.natCast_add,Int.cast_ofNat_Int]|refine au ?_|refine da hmk ?_|refine da Ea ?_|refine da c1 ?_|refine da c2 ?_|refine da c3 ?_|refine da c4 ?_|refine da c5 ?_|refine aq ?_ ?_<;>intro hw<;>try omega|fail
       exact fE (fin _) (bN.eqv (by simp[ei]) (bL _ _ _))
   | false =>
     have aiF:o2=true:=by rcases hin with h|h<;>first|(cases h;done)|exact h
     subst aiF;simp only[ei,if_true,aG,if_false,Int.natCast_add,Int.cast_ofNat_Int]at Ea PD c1 c2 c3 c4 c5;cases o3 with
     | true =>
       simp only[if_true]at c4 fin aB aC aD;repeat' first|simp (disch:=omega) only[go_sem,aB,aC,aD,Int.natCast_add,Int.cast_ofNat_Int]|refine au ?_|refine da hmk ?_|refine da Ea ?_|refine da PD ?_|refine da c1 ?_|refine da c2 ?_|refine da c3 ?_|refine da c4 ?_|refine aq ?_ ?_<;>intro hw<;>try omega|fail
       exact fE (fin _) (bN.eqv (by simp[ei]) (bL _ _ _))
     | false =>
       simp only[aG,if_false]at c4 fin aB aC aD;repeat' first|simp (disch:=omega) only[go_sem,aB,aC,aD,Int.natCast_add,Int.cast_ofNat_Int]|refine au ?_|refine da hmk ?_|refine da Ea ?_|refine da PD ?_|refine da c1 ?_|refine da c2 ?_|refine da c3 ?_|refine da c4 ?_|refine da c5 ?_|refine aq ?_ ?_<;>intro hw<;>try omega|fail
       exact fE (fin _) (bN.eqv (by simp[ei]) (bL _ _ _))
  ·obtain⟨rfl,rfl⟩:o1=false/\o2=false:=⟨by cases o1 with|false=>rfl|true=>exact absurd (.inl rfl) hin,by cases o2 with|false=>rfl|true=>exact absurd (.inr rfl) hin⟩;simp only[aG,if_false]at hR;subst hR;have c1:=zm T p b hT hs;simp only[qI]at hE aB aC aD;generalize jb T p b=x at *;rw[bq]at c1;simp only[ei,aG,if_false]at Ea PD c1 hmk;repeat' first|refine au ?_|refine da hmk ?_|refine da Ea ?_|refine da PD ?_|refine da c1 ?_|refine aq ?_ ?_<;>intro hw<;>try omega|fail
   exact fE (by rw[<-hE];exact XM) (bN.refl (bL _ _ _))
def zS: aO:=[110,111,116]
def ot(T:List Tok): Bool:=decide (1<T.length) && (kA T 0 1 zS && kA T 1 4 [40])
def aat(T:List Tok): aM aH 176 [vH T] (.bool (ot T)):=by
 refine aR Rx ?_;intro Q aB aC aD;repeat' first|refine au ?_|refine aq ?_ ?_<;>intro hw<;>try omega|fail
 all_goals (refine aU ?_ rfl;refine congrArg AV.bool ?_;rw[cG];simp_all[ot,kA,zS])
 all_goals (try omega)
 all_goals (exact⟨fun h=>⟨by omega,by omega,by omega,h⟩,fun h=>h.2.2.2⟩)
structure CS where
 ts:List Test
 p:Nat
 bad:Bool
deriving Inhabited
def qJ(T:List Tok): Nat->List Test->Nat->Bool->CS
 | 0,acc,p,b=>⟨acc,p,b⟩
 | f+1,acc,p,b=>if fc T (fP T p b).p (fP T p b).bad 4 [44]then qJ T f (acc++[(fP T p b).t]) ((fP T p b).p+1) (fP T p b).bad else⟨acc++[(fP T p b).t],(fP T p b).p,(fP T p b).bad⟩
def pP(T:List Tok)(f:Nat)(acc:List Test)(p:Nat)(b:Bool): qJ T (f+1) acc p b=if fc T (fP T p b).p (fP T p b).bad 4 [44]then qJ T f (acc++[(fP T p b).t]) ((fP T p b).p+1) (fP T p b).bad else⟨acc++[(fP T p b).t],(fP T p b).p,(fP T p b).bad⟩:=rfl
def Vc{T:List Tok}(f:Nat): ∀(acc:List Test) (p:Nat) (b:Bool),p<=T.length->(qJ T f acc p b).p<=T.length:=by
 induction f with
 | zero=>intro acc p b hp;exact hp
 | succ f ih =>
   intro acc p b hp;rw[pP];split
   ·rename_i h;exact ih _ _ _ (oq h).1
   ·exact(Mh hp).2
def B3(T:List Tok)(n:Bool)(c:CS): CS:=if n then⟨c.ts,qh T c.p c.bad 4 [41],c.bad || !(fc T c.p c.bad 4 [41])⟩else c
def Mi(T:List Tok): Nat:=if ot T then 2 else 0
def jt(T:List Tok): CS:=B3 T (ot T) (qJ T (T.length+1) [] (Mi T) false)
def XP(T:List Tok): Mi T<=T.length:=by
 unfold Mi;split
 ·rename_i h;simp only[ot,aj,decide_eq_true_eq]at h;omega
 ·exact bO _
def XQ(T:List Tok)(n:Bool)(p:Nat)(b:Bool): List Test->ae
 | []=>[.cells (ei T p b),.cells [.bool false,.bool false,.aA],.cells [.bool false,.bool n,.aA]]
 | t::acc=>[.cells (ei T p b),.cells [.bool false,.bool false,.aA],.cells [.bool false,.bool n,.own ES 3 (acc.length+1) 0 (acc.length+1)],.vec ES (dA t::acc.map dA)]
structure Lc where
 acc:List Test
 p:Nat
 b:Bool
 f:Nat
def Ta(T:List Tok)(n:Bool)(p:Nat)(b:Bool): XQ T n p b []=[.cells [.aN false ET (T.map sJ),I p,.bool b],.cells [.bool false,.bool false,.aA],.cells [.bool false,.bool n,.aA]]:=rfl
def PE(T:List Tok)(n:Bool)(p:Nat)(b:Bool)(t:Test)(acc:List Test): XQ T n p b (t::acc)=[.cells [.aN false ET (T.map sJ),I p,.bool b],.cells [.bool false,.bool false,.aA],.cells [.bool false,.bool n,.own ES 3 (acc.length+1) 0 (acc.length+1)],.vec ES (dA t::acc.map dA)]:=rfl
def aau(T:List Tok)(n:Bool)(p:Nat)(b:Bool)(acc:List Test)(t:Test): XQ T n p b (acc++[t])=[.cells (ei T p b),.cells [.bool false,.bool false,.aA],.cells [.bool false,.bool n,.own ES 3 (acc.length+1) 0 (acc.length+1)],.vec ES (acc.map dA++[dA t])]:=by
 cases acc with
 | nil=>rfl
 | cons x acc=>simp[XQ]
def XR{σ : ae}{n:Bool}{ts:List Test}{k:Nat}(hk:k=ts.length)(h : σ[3]? = some (.vec ES (ts.map dA))): View σ (.agg [.bool false,.bool n,.own ES 3 k 0 k]) (dG ⟨false,n,ts⟩):=by
 subst hk;exact View.nV (.cons (.refl _ rfl) (.cons (.refl _ rfl) (.cons (View.vec h (by simp) (by simp) (L5 _)) (.nil _))))
def XS (T : List Tok) (hT : T.length <= 2 ^ 30) (hs : ∀ q, (T.getD q default).s.length <= 2 ^ 62) :
    dh aH 145 0 [] (ei T 0 false) (ei T (jt T).p (jt T).bad) (dG ⟨false,ot T,(jt T).ts⟩):=by
 have hn:=aat T;have hp0:=XP T;have e0:Mi T=if ot T then 2 else 0:=rfl
 generalize hR:jt T=R;unfold jt at hR;generalize ot T=n at *;generalize hE:dG _=E;simp only[vH]at hn
 have fin:∀ (σ : ae) (k:Nat) (ts:List Test),R.ts=ts->k=ts.length->σ[3]? = some (.vec ES (ts.map dA))->View σ (.agg [.bool false,.bool n,.own ES 3 k 0 k]) E:=fun σ k ts h1 h2 h3=>by
  rw[<-hE,h1];exact XR h2 h3
 clear hE;refine dh.fS (C2.go ?_) rfl (bL _ _ _);unfold dO;intro Q aB aC aD;cases n
 all_goals
  simp only[aG,if_false,if_true]at e0;rw[e0]at hR hp0;repeat' first|refine au ?_|refine aq ?_ ?_<;>intro hw<;>try omega|fail
  with_reducible refine bE [17,18,19,20,21,22,23,24,25,26] (fun x:Lc=>([]:List (Nat × AV))) (fun x=>XQ T _ x.p x.b x.acc) (fun x=>x.p<=T.length/\x.acc.length+x.f=T.length+1/\T.length+1<=x.f+x.p/\B3 T _ (qJ T x.f x.acc x.p x.b)=R) (fun x=>x.f) ⟨[],_,false,T.length+1⟩ ⟨?_,?_,?_,hR⟩ rfl ?_ ?_
  ·dsimp only;omega
  ·dsimp only;simp
  ·dsimp only;omega
  ·exact at_
  rintro⟨acc,p,b,f⟩ r ⟨h1,h2,h3,h4⟩;dsimp only at h1 h2 h3 h4;obtain⟨f,rfl⟩:∃ g,f=g+1:=⟨f-1,by omega⟩;rw[pP]at h4;have ct:=XO T p b h1 (by omega) hs;have gt:=Mh (T:=T) (b:=b) h1;generalize fP T p b=x at *;obtain⟨xt,xp,xb⟩:=x;dsimp only at ct gt h4;obtain⟨o,ho⟩:∃ o,fc T xp xb 4 [44]=o:=⟨_,rfl⟩;have Tb:=uf T xp xb [44] o (by decide) (by omega) ho;have wj:=fun n' p' b'=>aau T n' p' b' acc xt;simp only[dA,dQ]at ct;rw[ho]at h4;cases o with
  | true =>
    have hlt:=(oq ho).1;rw[if_pos rfl]at h4;simp only[ei,if_true,Int.natCast_add,Int.cast_ofNat_Int]at ct Tb;cases acc with
    | nil =>
      simp only[List.length_nil]at h2;rw[Ta T _ p b];repeat' first|simp (disch:=omega) only[go_sem,aB,aC,aD,Int.natCast_add,Int.cast_ofNat_Int]|refine au ?_|refine da ct ?_|refine da Tb ?_|refine aq ?_ ?_<;>intro hw<;>try omega|fail
      refine⟨⟨[xt],xp+1,xb,f⟩,?_,?_,?_,cZ,at_⟩<;>(try dsimp only)
      ·exact⟨by omega,by simp only[List.length_cons,List.length_nil];omega,by omega,h4⟩
      ·omega
      ·rfl
    | cons t0 acc =>
      simp only[List.length_cons]at h2;rw[PE T _ p b];repeat' first|simp (disch:=omega) only[go_sem,aB,aC,aD,Int.natCast_add,Int.cast_ofNat_Int]|refine au ?_|refine da ct ?_|refine da Tb ?_|refine aq ?_ ?_<;>intro hw<;>try omega|fail
      refine⟨⟨t0::acc++[xt],xp+1,xb,f⟩,?_,?_,?_,cZ,at_⟩<;>(try dsimp only)
      ·exact⟨by omega,by simp only[List.length_cons,List.length_append,List.length_nil];omega,by omega,h4⟩
      ·omega
      ·rw[wj];simp[ei,dA,dQ]
  | false =>
    rw[if_neg (by simp)]at h4;simp only[ei,aG,if_false]at ct Tb;have cm:=D_ T xp xb [41] (by decide) (by omega);simp only[B3,aG,if_false,if_true]at h4;subst h4;dsimp only at fin aB aC aD cm;generalize qh T xp xb 4 [41]=p9 at *;generalize (xb || !(fc T xp xb 4 [41]))=b9 at *;simp only[ei]at cm;cases acc with
    | nil =>
      simp only[List.length_nil]at h2;rw[Ta T _ p b];repeat' first|refine au ?_|refine da ct ?_|refine da Tb ?_|refine da cm ?_|refine aq ?_ ?_<;>intro hw<;>try omega|fail
      exact fE (fin _ _ _ rfl rfl rfl) (bN.eqv rfl (bL _ _ _))
    | cons t0 acc =>
      simp only[List.length_cons]at h2;rw[PE T _ p b];repeat' first|refine au ?_|refine da ct ?_|refine da Tb ?_|refine da cm ?_|refine aq ?_ ?_<;>intro hw<;>try omega|fail
      exact fE (fin _ _ _ rfl (by simp) (by simp[dA,dQ])) (bN.eqv rfl (bL _ _ _))
def zT(T:List Tok): Prop:= ∀ q,(T.getD q default).s.length<=2 ^ 62/\ -9223372036854775808<=(T.getD q default).n/\(T.getD q default).n<=9223372036854775807
def rW: ig x0:=by simp[x0,ig,Ga,v0]
def Jc{op:Int}{l:List Expr}(h:Ga l): ig (.mk op v0 [] l):=by simp[ig,v0,h]
def XT{rd:Nat->Nat->RS}{l q:Nat}{b:Bool}(h:∀ l q,ig (rd l q).x): ig (qF rd l q b).x:=by
 unfold qF;split
 ·exact rW
 ·exact h _ _
def aav{s:aO}{v:aL}(h:t_ s=some v): v.s=[]/\0<=v.n/\v.n<=1:=by
 unfold t_ at h;split at h
 ·cases h;exact⟨rfl,by decide,by decide⟩
 split at h
 ·cases h;exact⟨rfl,by decide,by decide⟩
 split at h
 ·cases h;exact⟨rfl,by decide,by decide⟩
 ·cases h
def ac9{T:List Tok}(hT:zT T){rd:Nat->Nat->RS}(h:∀ l q,ig (rd l q).x)(p:Nat): ig (nh rd T p).x:=by
 have hp:=hT p;unfold nh;split
 ·exact h 0 (p+1)
 split
 ·simp[zR,ig,Ga];exact hp.2
 split
 ·simp[zR,ig,Ga];exact hp.1
 split
 ·split
  ·rename_i v hv;have:=aav hv;simp[zR,ig,Ga,this.1];omega
  ·split
   ·simp[ig,Ga,v0];exact hp.1
   ·exact rW
 ·exact rW
def agF{T:List Tok}(hT:zT T)(f:Nat): ∀(m:Option Expr) (lvl p:Nat),(∀ x,m=some x->ig x)->ig (bY T f m lvl p).x:=by
 induction f with
 | zero=>intro m lvl p _;exact rW
 | succ f ih =>
   intro m lvl p hm;have h:∀ l q,ig (bY T f none l q).x:=fun l q=>ih none l q (fun x hx=>by cases hx);cases m with
   | none =>
     simp only[bY];split
     ·split
      ·exact Jc ⟨h _ _,XT (rd:=fun l q=>bY T f none l q) h,XT (rd:=fun l q=>bY T f none l q) h,trivial⟩
      ·exact h _ _
     split
     ·exact Jc ⟨h _ _,trivial⟩
     split
     ·exact ac9 hT h p
     split
     ·exact h _ _
     ·exact ih _ _ _ (fun x hx=>by cases hx;exact h _ _)
   | some x =>
     simp only[bY];split
     ·exact hm x rfl
     ·split
      ·exact Jc ⟨hm x rfl,h _ _,trivial⟩
      ·exact ih _ _ _ (fun y hy=>by cases hy;exact Jc ⟨hm x rfl,h _ _,trivial⟩)
def PG{T:List Tok}(hT:zT T)(fr lvl:Int): ig (iw T fr lvl).1:=by
 unfold iw;split
 ·exact rW
 split
 ·exact rW
 ·exact agF hT _ _ _ _ (fun x hx=>by cases hx)
def Vd(s:aO): (∀ c ∈ s,e8 c=true)-> ∀ v:Int,0<=v->v<=9223372036854775807-> ∀ n,oh s v=some n->0<=n/\n<=9223372036854775807:=by
 induction s with
 | nil=>intro _ v h1 h2 n h;simp only[oh]at h;cases h;exact⟨h1,h2⟩
 | cons c r ih =>
   intro hd v h1 h2 n h;have hc:=hd c (by simp);simp only[e8,aj,decide_eq_true_eq]at hc;simp only[oh]at h;split at h
   ·cases h
   ·exact ih (fun c hc=>hd c (bJ _ hc)) _ (by omega) (by omega) n h
def NG{p:UInt8->Bool}(s:aO): ∀ c ∈ s.takeWhile p,p c=true:=by
 induction s with
 | nil=>intro c h;cases h
 | cons x r ih =>
   intro c h;rw[eJ]at h;split at h
   ·rename_i hx;rcases List.mem_cons.1 h with rfl|h
    ·exact hx
    ·exact ih c h
   ·cases h
def ae6(s:aO): 0<=(jg s).n/\(jg s).n<=9223372036854775807:=by
 have e:∀ k,0<=(PR.err k).n/\(PR.err k).n<=9223372036854775807:=fun k=>by simp[PR.err]
 unfold jg;simp only;split
 ·unfold BO;split
  ·exact e _
  ·exact⟨by simp,by simp⟩
 split
 ·unfold om;simp only;split
  ·exact e _
  ·split
   ·exact e _
   ·rename_i v hv;exact Vd _ (NG s) 0 (by omega) (by omega) v hv
 split
 ·have : ∀ (r b : aO) (i : Nat), 0 <= (lD r b i).n /\ (lD r b i).n <= 9223372036854775807 := fun r b i => by
   fun_induction lD r b i<;>first|exact e _|assumption|exact⟨by simp,by simp⟩
  exact this _ _ _
 ·unfold tY;split
  ·exact⟨by simp,by simp⟩
  ·exact e _
def ae7(f:Nat): ∀(s:aO) (pos:Nat) (acc:List Tok),(∀ t ∈ acc,0<=t.n/\t.n<=9223372036854775807)-> ∀ t ∈ (rI f s pos acc).1,0<=t.n/\t.n<=9223372036854775807:=by
 induction f with
 | zero=>intro s pos acc h;exact h
 | succ f ih =>
   intro s pos acc h;cases s with
   | nil=>exact h
   | cons c r =>
     rw[v7];split
     ·exact ih r (pos+1) acc h
     ·split
      ·refine ih _ _ _ (fun t ht=>?_);rcases List.mem_append.1 ht with ht|ht
       ·exact h t ht
       ·simp only[List.mem_cons,List.not_mem_nil,or_false]at ht;subst ht;exact ae6 _
      ·intro t ht;cases ht
def Ft(s:aO): zT (de s).1:=by
 intro q;have h1:=(rj s).2 q
 have h2:∀ t ∈ (de s).1,0<=t.n/\t.n<=9223372036854775807:=by
  unfold de;split
  ·intro t ht;cases ht
  ·exact ae7 _ _ _ _ (fun t ht=>by cases ht)
 refine⟨by omega,?_⟩;by_cases hq:q<(de s).1.length
 ·have:=h2 _ (bn hq);omega
 ·rw[qE (by omega)];decide
def B4{T:List Tok}(hT:zT T)(p:Nat)(b:Bool): ig (jb T p b).x/\fW (jb T p b).x<=1+4*T.length:=by
 unfold jb qF;split
 ·exact⟨rW,by simp[x0,fW,mT]⟩
 ·exact⟨PG hT _ _,Hr T _ _⟩
def aaw{T:List Tok}(hT:zT T)(hl:T.length<=2 ^ 50)(p:Nat)(b:Bool): Jb (fP T p b).t:=by
 have hx:∀ p b,ig (jb T p b).x/\fW (jb T p b).x<=2 ^ 60:=fun p b=>⟨(B4 hT p b).1,by have:=(B4 hT p b).2;omega⟩;have h0:ig x0/\fW x0<=2 ^ 60:=⟨rW,XJ⟩;have h1:∀ k p b,Jb (qI k (jb T p b)).t:=fun k p b=>⟨hx p b,h0⟩;have h2:∀ lo,Jb (Gd T p lo).t:=fun lo=>⟨hx _ _,hx _ _⟩;unfold fP;split
 ·exact h1 _ _ _
 split
 ·exact h1 _ _ _
 split
 ·exact h1 _ _ _
 split
 ·exact h1 _ _ _
 split
 ·exact h2 _
 split
 ·exact h2 _
 ·exact h1 _ _ _
def aax{T:List Tok}(hT:zT T)(hl:T.length<=2 ^ 50)(f:Nat): ∀(acc:List Test) (p:Nat) (b:Bool),(∀ t ∈ acc,Jb t)->(∀ t ∈ (qJ T f acc p b).ts,Jb t)/\(qJ T f acc p b).ts.length<=acc.length+f:=by
 induction f with
 | zero=>intro acc p b h;exact⟨h,Nat.le_refl _⟩
 | succ f ih =>
   intro acc p b h
   have h2:∀ t ∈ acc++[(fP T p b).t],Jb t:=fun t ht=>by
    rcases List.mem_append.1 ht with ht|ht
    ·exact h t ht
    ·simp only[List.mem_cons,List.not_mem_nil,or_false]at ht;subst ht;exact aaw hT hl p b
   rw[pP];split
   ·have:=ih _ ((fP T p b).p+1) (fP T p b).bad h2;rw[List.length_append,List.length_cons,List.length_nil]at this;exact⟨this.1,by omega⟩
   ·exact⟨h2,by rw[List.length_append,List.length_cons,List.length_nil];omega⟩
def Tc(T:List Tok)(n:Bool)(c:CS): (B3 T n c).ts=c.ts:=by unfold B3;split<;>rfl
def PI{T:List Tok}(hT:zT T)(hl:T.length<=2 ^ 50): Mf ⟨false,ot T,(jt T).ts⟩:=by
 have:=aax hT hl (T.length+1) [] (Mi T) false (fun t ht=>by cases ht);unfold jt Mf;rw[Tc];exact⟨by have:=this.2;simp only[List.length_nil]at this;dsimp only;omega,this.1⟩
def ae8{T:List Tok}{n:Bool}{c:CS}(h:c.p<=T.length): (B3 T n c).p<=T.length:=by
 unfold B3;split
 ·dsimp only[qh];split
  ·rename_i h;exact(oq h).1
  ·exact h
 ·exact h
def ac_(T:List Tok): (jt T).p<=T.length:=ae8 (Vc _ _ _ _ (XP T))
def c0: Cell:=⟨false,false,[]⟩
def Hs: Cell:=⟨true,false,[]⟩
def i_(s:aO): Cell × Int × Int :=
 if(de s).2.2≠0 then(c0,(de s).2.1,(de s).2.2)
 else if(de s).1.length=1/\fc (de s).1 0 false 4 [45]=true then(Hs,0,0)
 else if(jt (de s).1).p<(de s).1.length then(c0,((de s).1.getD (jt (de s).1).p default).pos,11)
 else if(jt (de s).1).bad=true then(c0,s.length,11)
 else if 12<(jt (de s).1).ts.length then(c0,0,24)
 else if gP ⟨false,ot (de s).1,(jt (de s).1).ts⟩=false then(c0,0,12)
 else(⟨false,ot (de s).1,(jt (de s).1).ts⟩,0,0)
def eC3(r:Cell × Int × Int): AV:= .bH [dG r.1,I r.2.1,I r.2.2]
def XU(s:aO): Mf (i_ s).1:=by
 have h:=PI (Ft s) (by have:=(rj s).1;omega);have h0:Mf c0:=⟨Nat.zero_le _,fun t ht=>by cases ht⟩;have h1:Mf Hs:=⟨Nat.zero_le _,fun t ht=>by cases ht⟩;unfold i_;repeat' split
 all_goals first|exact h0|exact h1|exact h
def ada{σ : ae}: View σ (.agg [.bool false,.bool false,.aA]) (dG c0):=View.nV (.cons (.refl _ rfl) (.cons (.refl _ rfl) (.cons (.aA _) (.nil _))))
def XV{σ : ae}: View σ (.agg [.bool true,.bool false,.aA]) (dG Hs):=View.nV (.cons (.refl _ rfl) (.cons (.refl _ rfl) (.cons (.aA _) (.nil _))))
def ae9(T:List Tok)(p:Nat): fc T p false 4 [45]=(vJ T p==[45]):=by
 rw[BZ T p false [45] (by decide),cG];simp
def Ve(s:aO)(hs:s.length<=2 ^ 30): aM aH 106 [.str s] (eC3 (i_ s)):=by
 have cl:=SZ s hs;obtain⟨f1,f2⟩:=rj s;have cm:=D9 (de s).1 0 false;have cr:=XS (de s).1 (by omega) (fun q=>by have:=f2 q;omega);have hok:=PI (Ft s) (by omega);have cc:=xu _ hok;have Dt:=ac_ (de s).1;have hd:=ae9 (de s).1 0
 have hP:i_ s=if(de s).2.2≠0 then(c0,(de s).2.1,(de s).2.2)
  else if(de s).1.length=1/\fc (de s).1 0 false 4 [45]=true then(Hs,0,0)
  else if(jt (de s).1).p<(de s).1.length then(c0,((de s).1.getD (jt (de s).1).p default).pos,11)
  else if(jt (de s).1).bad=true then(c0,(s.length:Int),11)
  else if 12<(jt (de s).1).ts.length then(c0,0,24)
  else if gP ⟨false,ot (de s).1,(jt (de s).1).ts⟩=false then(c0,0,12)
  else(⟨false,ot (de s).1,(jt (de s).1).ts⟩,0,0):=rfl
 rw[hP,hd];clear hP f2 hd hok;generalize gP ⟨false,ot (de s).1,(jt (de s).1).ts⟩=rb at *;generalize jt (de s).1=r at *;generalize vJ (de s).1 0=mt at *;generalize ot (de s).1=n at *;generalize de s=L at *;obtain⟨T,la,le⟩:=L;obtain⟨rts,rp,ae_⟩:=r;dsimp only at *;simp only[eC3]at ⊢;simp only[UW,vH]at cl;simp only[ei,Int.cast_ofNat_Int]at cm cr;simp only[dG,jj]at cr cc;have e1:∀ σ : ae,View σ (.agg [.bool false,.bool false,.aA]) (dG c0):=fun σ=>ada;have e2:∀ σ : ae,View σ (.agg [.bool true,.bool false,.aA]) (dG Hs):=fun σ=>XV;have e3:∀ σ : ae,View σ (.agg [.bool false,.bool n,.aN false ES (rts.map dA)]) (dG ⟨false,n,rts⟩):=fun σ=>View.eqv rfl (ze _);by_cases h1:le≠0
 ·rw[if_pos h1];generalize dG c0=E at *;refine aR mb ?_;intro Q aB aC aD;repeat' first|refine au ?_|refine aq ?_ ?_<;>intro hw<;>try omega|fail
  all_goals exact fD (n5 (e1 _))
 rw[if_neg h1];by_cases h2:T.length=1/\(mt==[45])=true
 ·rw[if_pos h2];generalize dG Hs=E2 at *;obtain⟨h2,h3⟩:=h2;refine aR mb ?_;intro Q aB aC aD;repeat' first|simp (disch:=omega) only[go_sem,aB,aC,aD,h2,h3]|refine au ?_|refine da cm ?_|refine aq ?_ ?_<;>intro hw<;>try omega|fail
  all_goals first|exact fD (n5 (e2 _))|exact a_
 rw[if_neg h2];by_cases h4:rp<T.length
 ·rw[if_pos h4];generalize dG c0=E at *;refine aR mb ?_;intro Q aB aC aD;repeat' first|refine au ?_|refine da cm ?_|refine da cr ?_|refine aq ?_ ?_<;>intro hw<;>try omega|fail
  all_goals first|exact fD (n5 (e1 _))|exact a_
 rw[if_neg h4];by_cases h5:ae_=true
 ·rw[if_pos h5];subst h5;generalize dG c0=E at *;refine aR mb ?_;intro Q aB aC aD;repeat' first|refine au ?_|refine da cm ?_|refine da cr ?_|refine aq ?_ ?_<;>intro hw<;>try omega|fail
  all_goals first|exact fD (n5 (e1 _))|exact a_
 rw[if_neg h5];obtain rfl:ae_=false:=by simpa using h5
 by_cases h6:12<rts.length
 ·rw[if_pos h6];generalize dG c0=E at *;refine aR mb ?_;intro Q aB aC aD;repeat' first|refine au ?_|refine da cm ?_|refine da cr ?_|refine aq ?_ ?_<;>intro hw<;>try omega|fail
  all_goals first|exact fD (n5 (e1 _))|exact a_
 rw[if_neg h6];cases rb with
 | false =>
   rw[if_pos rfl];generalize dG c0=E at *;simp only[ie,aG,if_false]at cc;refine aR mb ?_;intro Q aB aC aD;repeat' first|refine au ?_|refine da cm ?_|refine da cr ?_|refine aq ?_ ?_<;>intro hw<;>try omega|fail
   all_goals first|exact fD (n5 (e1 _))|exact a_
 | true =>
   rw[if_neg (by simp)];generalize dG ⟨false,n,rts⟩=E3 at *;simp only[ie,if_true]at cc;refine aR mb ?_;intro Q aB aC aD;repeat' first|refine au ?_|refine da cm ?_|refine da cr ?_|refine aq ?_ ?_<;>intro hw<;>try omega|fail
   all_goals first|exact fD (n5 (e3 _))|exact a_
structure Lp2 where
 t:Test
 acc:List Test
 p:Nat
 b:Bool
 f:Nat
def n6(t:Test)(a b:Int): Bool:=bT a b && (decide (t.kind=1) ||(decide (a≠3) && decide (b≠3)))
def Eb(t:Test)(a b:Int): aM aH 147 [dA t,I a,I b] (.bool (n6 t a b)):=by
 have hf:=nW a b;have hS:n6 t a b=(bT a b && (decide (t.kind=1) ||(decide (a≠3) && decide (b≠3)))):=rfl;rw[hS];generalize bT a b=f at *;simp only[dA,dQ];refine aR O_ ?_;intro Q aB aC aD;repeat' first|refine au ?_|refine aq ?_ ?_<;>intro hw<;>try omega|fail
 all_goals (refine aU ?_ rfl;refine congrArg AV.bool ?_;rw[cG];simp_all)
def po(t:Test): List Expr:=if t.kind=6 then [t.a,t.b]else [t.a]
def Jd(t:Test): aM aH 146 [dA t] (dQ (po t)):=by
 have h1:∀ σ : ae,View σ (.aN true EX [.agg [I t.a.op,I t.a.v.kind,I t.a.v.n,.str t.a.v.s,.str t.a.s,.aN false EX (t.a.l.map aT)]]) (dQ [t.a]):=fun σ=>by
  rw[dQ,bf,cJ,bq];exact View.weak _ _ _ (by simp)
 have h2:∀ σ : ae,View σ (.aN true EX [.agg [I t.a.op,I t.a.v.kind,I t.a.v.n,.str t.a.v.s,.str t.a.s,.aN false EX (t.a.l.map aT)],.agg [I t.b.op,I t.b.v.kind,I t.b.v.n,.str t.b.v.s,.str t.b.s,.aN false EX (t.b.l.map aT)]]) (dQ [t.a,t.b]):=fun σ=>by
  rw[dQ,bf,bf,cJ,bq,bq];exact View.weak _ _ _ (by simp)
 unfold po;by_cases h6:t.kind=6
 ·rw[if_pos h6];generalize dQ [t.a,t.b]=E at *;simp only[dA,dQ];refine aR CL ?_;intro Q aB aC aD;repeat' first|simp (disch:=omega) only[go_sem,aB,aC,aD,h6]|refine au ?_|refine aq ?_ ?_<;>intro hw<;>try omega|fail
  all_goals exact y_ (h2 _)
 ·rw[if_neg h6];generalize dQ [t.a]=E at *;simp only[dA,dQ];refine aR CL ?_;intro Q aB aC aD;repeat' first|refine au ?_|refine aq ?_ ?_<;>intro hw<;>try omega|fail
  all_goals exact y_ (h1 _)
def jk(cs:List cN)(x:Expr): Int × Int:=if cq x then jr cs x else(0,2)
def yp(cs:List cN)(hcs:cs.length<=2 ^ 60)(x:Expr)(hx:ig x)(hz:fW x<=2 ^ 60): aM aH 109 [aT x,bV cs] (.bH [I (jk cs x).1,I (jk cs x).2]):=by
 have:=RM cs hcs x hx hz;unfold jk;cases hr:cq x<;>simpa[hr]using this
def B5(cs:List cN)(kind:Int)(t:Test): Int :=
 if(jk cs t.a).2≠0 then(jk cs t.a).2
 else if t.kind=6 then(if(jk cs t.b).2≠0 then(jk cs t.b).2 else if n6 t kind (jk cs t.a).1 && n6 t kind (jk cs t.b).1 then 0 else 14)
 else if n6 t kind (jk cs t.a).1 then 0 else 14
def yq(cs:List cN)(kind:Int)(c:Cell): Int:=if gP c then(match c.tests.find? (fun t=>B5 cs kind t != 0)with
 | some t=>B5 cs kind t
 | none=>0)else 2
def adb{cs:List cN}{kind:Int}{c:Cell}{i:Nat}{e:Int}(hr:gP c=true)(hi:i<c.tests.length)(h:∀ k,k<i->(B5 cs kind (c.tests.getD k default) != 0)=false)(he:B5 cs kind (c.tests.getD i default)=e)(hne:e≠0): yq cs kind c=e:=by
 unfold yq;rw[if_pos hr,xH (p:=fun t=>B5 cs kind t != 0) hi h (by rw[he];simpa using hne)];exact he
def aay{cs:List cN}{kind:Int}{c:Cell}(hr:gP c=true)(h:∀ k,k<c.tests.length->(B5 cs kind (c.tests.getD k default) != 0)=false): yq cs kind c=0:=by
 unfold yq;rw[if_pos hr,vp (p:=fun t=>B5 cs kind t != 0) h]
