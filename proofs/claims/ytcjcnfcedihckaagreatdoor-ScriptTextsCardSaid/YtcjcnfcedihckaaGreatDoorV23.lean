/- Part. -/
import Derived.Test.YtcjcnfcedihckaaGreatDoorV22
set_option linter.all false
set_option maxHeartbeats 2000000
namespace Go.Proofs.YtcjcnfcedihckaaGreatDoor
open Go.AM
set_option maxRecDepth 4000
structure TS where
 t:Test
 p:Nat
 bad:Bool
deriving Inhabited
def oC(k:Int)(r:RS): TS:=⟨⟨k,r.x,x0,false,false⟩,r.p,r.bad⟩
def mz(T:List Tok)(p:Nat): RS:=gw T (p+1) false
def nq(T:List Tok)(p:Nat): RS:=gW T (mz T p) 4 [46,46]
def fV(T:List Tok)(p:Nat): RS:=gw T (nq T p).p (nq T p).bad
def W5(T:List Tok)(p:Nat): Bool:=dW T (fV T p).p (fV T p).bad 4 [91]
def sV(T:List Tok)(p:Nat): RS:=if W5 T p then⟨x0,(fV T p).p+1,(fV T p).bad⟩else gW T (fV T p) 4 [93]
def DG(T:List Tok)(p:Nat)(lo:Bool): TS:=⟨⟨6,(mz T p).x,(fV T p).x,lo,W5 T p⟩,(sV T p).p,(sV T p).bad⟩
def dX(T:List Tok)(p:Nat)(b:Bool): TS :=
 if dW T p b 4 [60]then oC 2 (gw T (p+1) b)
 else if dW T p b 4 [60,61]then oC 3 (gw T (p+1) b)
 else if dW T p b 4 [62]then oC 4 (gw T (p+1) b)
 else if dW T p b 4 [62,61]then oC 5 (gw T (p+1) b)
 else if dW T p b 4 [91]then DG T p false
 else if dW T p b 4 [93]then DG T p true
 else oC 1 (gw T p b)
def VQ{k:Int}(h:2<=k)(h':k<=5): iI k≠[]:=by
 rcases(by omega:k=2\/k=3\/k=4\/k=5)with rfl|rfl|rfl|rfl<;>decide
def GM{T:List Tok}{p:Nat}{b:Bool}{k:Int}(h:2<=k)(h':k<=5)(hb:∀ j:Int,2<=j->j<k->dW T p b 4 (iI j)=false)(ho:dW T p b 4 (iI k)=true): dX T p b=oC k (gw T (p+1) b):=by
 have e2:iI 2=[60]:=rfl;have e3:iI 3=[60,61]:=rfl;have e4:iI 4=[62]:=rfl;have e5:iI 5=[62,61]:=rfl;unfold dX;rcases(by omega:k=2\/k=3\/k=4\/k=5)with rfl|rfl|rfl|rfl
 ·rw[e2]at ho;rw[if_pos ho]
 ·have h2:=hb 2 (by omega) (by omega);rw[e2]at h2;rw[e3]at ho;rw[if_neg (by simp[h2]),if_pos ho]
 ·have h2:=hb 2 (by omega) (by omega);have h3:=hb 3 (by omega) (by omega);rw[e2]at h2;rw[e3]at h3;rw[e4]at ho;rw[if_neg (by simp[h2]),if_neg (by simp[h3]),if_pos ho]
 ·have h2:=hb 2 (by omega) (by omega);have h3:=hb 3 (by omega) (by omega);have h4:=hb 4 (by omega) (by omega);rw[e2]at h2;rw[e3]at h3;rw[e4]at h4;rw[e5]at ho;rw[if_neg (by simp[h2]),if_neg (by simp[h3]),if_neg (by simp[h4]),if_pos ho]
def GN{T:List Tok}{p:Nat}{b:Bool}(hb:∀ j:Int,2<=j->j<6->dW T p b 4 (iI j)=false): dX T p b=if dW T p b 4 [91]then DG T p false else if dW T p b 4 [93]then DG T p true else oC 1 (gw T p b):=by
 have h2:dW T p b 4 [60]=false:=hb 2 (by omega) (by omega);have h3:dW T p b 4 [60,61]=false:=hb 3 (by omega) (by omega);have h4:dW T p b 4 [62]=false:=hb 4 (by omega) (by omega);have h5:dW T p b 4 [62,61]=false:=hb 5 (by omega) (by omega);unfold dX;rw[if_neg (by simp[h2]),if_neg (by simp[h3]),if_neg (by simp[h4]),if_neg (by simp[h5])]
def TO{T:List Tok}{p:Nat}{r:RS}(k:Int)(h:je T.length p r): p<=(oC k r).p/\(oC k r).p<=T.length:=⟨h.1,h.2.1⟩
def C1{T:List Tok}{p:Nat}(hp:p<T.length): (mz T p).p<=T.length/\(nq T p).p<=T.length/\(fV T p).p<=T.length/\(sV T p).p<=T.length/\p<=(sV T p).p:=by
 have g1:je T.length (p+1) (mz T p):=wT T hp;have g2:je T.length (p+1) (nq T p):=tP _ _ g1;have g3:je T.length (nq T p).p (fV T p):=wT T g2.2.1
 have g4:(sV T p).p<=T.length/\(fV T p).p<=(sV T p).p:=by
  unfold sV;split
  ·rename_i h;exact⟨(jN h).1,Nat.le_succ _⟩
  ·have:=tP 4 [93] g3;refine⟨this.2.1,?_⟩;simp only[gW,nI];split<;>omega
 have:=g1.1;have:=g2.1;have:=g3.1;have m2:(mz T p).p<=(nq T p).p:=by simp only[nq,gW,nI];split<;>omega
 exact⟨g1.2.1,g2.2.1,g3.2.1,g4.1,by omega⟩
def wV{T:List Tok}{p:Nat}{b:Bool}(hp:p<=T.length): p<=(dX T p b).p/\(dX T p b).p<=T.length:=by
 have st:∀ k s,dW T p b 4 s=true->p<=(oC k (gw T (p+1) b)).p/\(oC k (gw T (p+1) b)).p<=T.length:=fun k s h=>by
  have:=wT T (q:=p+1) (b:=b) (jN h).1;exact⟨Nat.le_of_succ_le this.1,this.2.1⟩
 unfold dX;split
 ·rename_i h;exact st _ _ h
 split
 ·rename_i h;exact st _ _ h
 split
 ·rename_i h;exact st _ _ h
 split
 ·rename_i h;exact st _ _ h
 split
 ·rename_i h;have:=C1 (jN h).1;exact⟨this.2.2.2.2,this.2.2.2.1⟩
 split
 ·rename_i h;have:=C1 (jN h).1;exact⟨this.2.2.2.2,this.2.2.2.1⟩
 ·exact TO 1 (wT T hp)
def rL(T:List Tok)(p:Nat)(b:Bool)(s:aG)(o:Bool)(hs:s≠[])(hp:p<=2 ^ 61)(h:dW T p b 4 s=o): bC aE 290 0 [.str s] (bH T p b) (bH T (if o then p+1 else p) b) (.bool o):=by
 have:=P7 T p b s hs hp;unfold nI at this;rw[h]at this;exact this
def GO{σ : ae}{k:Int}{r:Expr}: View σ (.agg [I k,I r.op,I r.v.kind,I r.v.n,.str r.v.s,.str r.s,.aF false EX (r.l.map aI),I 0,I 0,I 0,.str [],.str [],.ai,.bool false,.bool false]) (bO ⟨k,r,x0,false,false⟩):=by
 simp only[bO,cg];refine View.om (.cons (.refl _ rfl) (.cons (.refl _ rfl) (.cons (.refl _ rfl) (.cons (.refl _ rfl) (.cons (.refl _ rfl) (.cons (.refl _ rfl) (.cons (.refl _ ?_) (.cons (.refl _ rfl) (.cons (.refl _ rfl) (.cons (.refl _ rfl) (.cons (.refl _ rfl) (.cons (.refl _ rfl) (.cons (.ai _) (.cons (.refl _ rfl) (.cons (.refl _ rfl) (.nil _))))))))))))))));simp
def TP (T : List Tok) (p : Nat) (b : Bool) (hp : p <= T.length) (hT : T.length <= 2 ^ 50) (hs : ∀ q, (T.getD q default).s.length <= 2 ^ 62) :
    bC aE 289 0 [] (bH T p b) (bH T (dX T p b).p (dX T p b).bad) (bO (dX T p b).t):=by
 generalize hR:dX T p b=R;generalize hE:bO R.t=E;refine bC.cC (AH.go ?_) rfl (aQ _ _ _);unfold dS;intro Q au aA aB;repeat' first|refine aq ?_|refine ak ?_ ?_<;>intro hw<;>try omega|fail
 with_reducible refine bn [3,5,6,7,8,9,10,11,12,13,14,15,16] (fun k:Int=>[(3,I k)]) (fun _=>[.cells [.aF false ET (T.map jU),I p,.bool b],.cells [I 0,I 0,I 0,I 0,.str [],.str [],.ai,I 0,I 0,I 0,.str [],.str [],.ai,.bool false,.bool false]]) (fun k=>2<=k/\k<=6/\ ∀ j:Int,2<=j->j<k->dW T p b 4 (iI j)=false) (fun k=>(6-k).toNat) (2) ?_ ?_ ?_ ?_
 ·exact⟨by omega,by omega,fun j h1 h2=>by omega⟩
 ·rfl
 ·exact at_
 rintro k r ⟨h1,h2,h3⟩;by_cases hk:k<=5
 ·have mZ:=J6 k;obtain⟨o,ho⟩:∃ o,dW T p b 4 (iI k)=o:=⟨_,rfl⟩;have mV:=rL T p b (iI k) o (VQ h1 hk) (by omega) ho;cases o with
  | false =>
    simp only[bH,Bool.false_eq_true,if_false]at mV;repeat' first|refine aq ?_|refine bw mV ?_|refine ak ?_ ?_<;>intro hw<;>try omega|fail
    refine⟨k+1,?_,?_,by first|rfl|(simp[go_sem];done),bL,at_⟩<;>(try dsimp only)
    ·refine⟨by omega,by omega,fun j z7 z8=>?_⟩;by_cases xR:j=k
     ·subst xR;exact ho
     ·exact h3 j z7 (by omega)
    ·omega
  | true =>
    have DH:=jN ho;have hce:=wU T (p+1) b hT hs;rw[GM h1 hk h3 ho]at hR;subst hR;simp only[oC]at hE au aA aB;generalize gw T (p+1) b=x at *;rw[aO]at hce;simp only[bH,if_true,Int.natCast_add,Int.cast_ofNat_Int]at mV hce;repeat' first|simp (disch:=omega) only[go_sem,au,aA,aB,Int.natCast_add,Int.cast_ofNat_Int]|refine aq ?_|refine bw mV ?_|refine bw hce ?_|refine ak ?_ ?_<;>intro hw<;>try omega|fail
    exact cu (by rw[<-hE];exact GO) (bf.refl (aQ _ _ _))
 ·obtain rfl:k=6:=by omega
  rw[GN (fun j z7 z8=>h3 j z7 z8)]at hR;have hmk:=BY T p b;obtain⟨o1,wR⟩:∃ o,dW T p b 4 [91]=o:=⟨_,rfl⟩;obtain⟨o2,wS⟩:∃ o,dW T p b 4 [93]=o:=⟨_,rfl⟩;have nW:=rL T p b [91] o1 (by decide) (by omega) wR;have qz:=rL T p b [93] o2 (by decide) (by omega) wS;have hmo:=sU T p b [93] (by decide);rw[wR,wS]at hR;rw[wS]at hmo;have xS:=sU T p b [91] (by decide);rw[wR]at xS;generalize W6:rK T p=mt at *;by_cases hin:o1=true\/o2=true
  ·have DH : p < T.length /\ b = false := by
    rcases hin with h|h
    ·exact jN (wR.trans h)
    ·exact jN (wS.trans h)
   obtain⟨DH,rfl⟩:=DH
   have Mh:R=DG T p (decide (mt=[93])):=by
    rw[<-hR];simp only[fJ,c_]at hmo xS;cases o1 with
    | true =>
      have:mt=[91]:=by simpa using xS.symm
      rw[if_pos rfl,this];rfl
    | false =>
      rcases hin with h|h
      ·cases h
      ·subst h;have:mt=[93]:=by simpa using hmo.symm
       rw[if_neg (by simp),if_pos rfl,this];rfl
   clear hR;subst Mh;obtain⟨g1,g2,g3,g4,_⟩:=C1 (T:=T) DH;have c1:=wU T (p+1) false hT hs;have c2:=BZ T (mz T p).p (mz T p).bad [46,46] (by decide) (by omega);have c3:=wU T (nq T p).p (nq T p).bad hT hs;obtain⟨o3,BV⟩:∃ o,W5 T p=o:=⟨_,rfl⟩;have c4:=rL T (fV T p).p (fV T p).bad [91] o3 (by decide) (by omega) BV;have c5:=BZ T (fV T p).p (fV T p).bad [93] (by decide) (by omega)
   change bC _ _ _ _ _ (bH T (mz T p).p (mz T p).bad) (aI (mz T p).x)at c1
   change bC _ _ _ _ _ (bH T (nq T p).p (nq T p).bad) _ at c2
   change bC _ _ _ _ _ (bH T (fV T p).p (fV T p).bad) (aI (fV T p).x)at c3
   change bC _ _ _ _ _ (bH T (gW T (fV T p) 4 [93]).p (gW T (fV T p) 4 [93]).bad) _ at c5
   have DI:sV T p=if o3 then⟨x0,(fV T p).p+1,(fV T p).bad⟩else gW T (fV T p) 4 [93]:=by rw[<-BV];rfl
   have MX:DG T p (decide (mt=[93]))=⟨⟨6,(mz T p).x,(fV T p).x,decide (mt=[93]),o3⟩,(sV T p).p,(sV T p).bad⟩:=by rw[<-BV];rfl
   rw[MX]at hE au aA aB;rw[DI]at au aA aB;clear DI MX BV wR wS g1 g2 g4;generalize gW T (fV T p) 4 [93]=r5 at *;generalize mz T p=r1 at *;generalize nq T p=r2 at *;generalize fV T p=r3 at *;rw[aO]at c1 c3;simp only[bO,cg]at hE;simp only[bH]at hmk
   have fin:∀ σ : ae,View σ (.agg [I 6,I r1.x.op,I r1.x.v.kind,I r1.x.v.n,.str r1.x.v.s,.str r1.x.s,.aF false EX (r1.x.l.map aI),I r3.x.op,I r3.x.v.kind,I r3.x.v.n,.str r3.x.v.s,.str r3.x.s,.aF false EX (r3.x.l.map aI),.bool (mt==[93]),.bool o3]) E:=fun σ=>by
    rw[<-hE,show decide (mt=[93])=(mt==[93]) from by rw[aS];simp];exact View.eqv rfl (by simp)
   clear hE;have hne:mt==[93]↔mt=[93]:=by simp
   cases o1 with
   | true =>
     simp only[bH,if_true,Int.natCast_add,Int.cast_ofNat_Int]at nW c1 c2 c3 c4 c5;cases o3 with
     | true =>
       simp only[if_true]at c4 fin au aA aB;repeat' first|simp (disch:=omega) only[go_sem,au,aA,aB,Int.natCast_add,Int.cast_ofNat_Int]|refine aq ?_|refine bw hmk ?_|refine bw nW ?_|refine bw c1 ?_|refine bw c2 ?_|refine bw c3 ?_|refine bw c4 ?_|refine ak ?_ ?_<;>intro hw<;>try omega|fail
       exact cu (fin _) (bf.eqv (by simp[bH]) (aQ _ _ _))
     | false =>
       simp only[Bool.false_eq_true,if_false]at c4 fin au aA aB;repeat' first|simp (disch:=omega) only[go_sem,au,aA,aB,Int.natCast_add,Int.cast_ofNat_Int]|refine aq ?_|refine bw hmk ?_|refine bw nW ?_|refine bw c1 ?_|refine bw c2 ?_|refine bw c3 ?_|refine bw c4 ?_|refine bw c5 ?_|refine ak ?_ ?_<;>intro hw<;>try omega|fail
       exact cu (fin _) (bf.eqv (by simp[bH]) (aQ _ _ _))
   | false =>
     have adK:o2=true:=by rcases hin with h|h<;>first|(cases h;done)|exact h
     subst adK;simp only[bH,if_true,Bool.false_eq_true,if_false,Int.natCast_add,Int.cast_ofNat_Int]at nW qz c1 c2 c3 c4 c5;cases o3 with
     | true =>
       simp only[if_true]at c4 fin au aA aB;repeat' first|simp (disch:=omega) only[go_sem,au,aA,aB,Int.natCast_add,Int.cast_ofNat_Int]|refine aq ?_|refine bw hmk ?_|refine bw nW ?_|refine bw qz ?_|refine bw c1 ?_|refine bw c2 ?_|refine bw c3 ?_|refine bw c4 ?_|refine ak ?_ ?_<;>intro hw<;>try omega|fail
       exact cu (fin _) (bf.eqv (by simp[bH]) (aQ _ _ _))
     | false =>
       simp only[Bool.false_eq_true,if_false]at c4 fin au aA aB;repeat' first|simp (disch:=omega) only[go_sem,au,aA,aB,Int.natCast_add,Int.cast_ofNat_Int]|refine aq ?_|refine bw hmk ?_|refine bw nW ?_|refine bw qz ?_|refine bw c1 ?_|refine bw c2 ?_|refine bw c3 ?_|refine bw c4 ?_|refine bw c5 ?_|refine ak ?_ ?_<;>intro hw<;>try omega|fail
       exact cu (fin _) (bf.eqv (by simp[bH]) (aQ _ _ _))
  ·obtain⟨rfl,rfl⟩:o1=false/\o2=false:=⟨by cases o1 with|false=>rfl|true=>exact absurd (.inl rfl) hin,by cases o2 with|false=>rfl|true=>exact absurd (.inr rfl) hin⟩;simp only[Bool.false_eq_true,if_false]at hR;subst hR;have c1:=wU T p b hT hs;simp only[oC]at hE au aA aB;generalize gw T p b=x at *;rw[aO]at c1;simp only[bH,Bool.false_eq_true,if_false]at nW qz c1 hmk;repeat' first|refine aq ?_|refine bw hmk ?_|refine bw nW ?_|refine bw qz ?_|refine bw c1 ?_|refine ak ?_ ?_<;>intro hw<;>try omega|fail
   exact cu (by rw[<-hE];exact GO) (bf.refl (aQ _ _ _))
def nQ(T:List Tok)(p:Nat)(b:Bool)(s:aG)(o:Bool)(h:dW T p b 4 s=o): bC aE 248 0 [.str s] (bH T p b) (bH T p b) (.bool o):=by
 rw[<-h];exact MW T p b s
def MY{T:List Tok}{r:RS}{k:Int}{s:aG}(h:r.bad=true): (gW T r k s).p=r.p/\(gW T r k s).bad=true:=by
 have:dW T r.p r.bad k s=false:=by unfold dW;rw[h];rfl
 simp only[gW,nI,this,h];exact⟨rfl,rfl⟩
def DJ (T : List Tok) (p : Nat) (b : Bool) (hp : p <= T.length) (hT : T.length <= 2 ^ 50) (hs : ∀ q, (T.getD q default).s.length <= 2 ^ 62) :
    bC aE 249 0 [] (bH T p b) (bH T (dX T p b).p (dX T p b).bad) (bO (dX T p b).t):=by
 generalize hR:dX T p b=R;generalize hE:bO R.t=E;refine bC.cC (ze.go ?_) rfl (aQ _ _ _);unfold dS;intro Q au aA aB;repeat' first|refine aq ?_|refine ak ?_ ?_<;>intro hw<;>try omega|fail
 with_reducible refine bn [3,5,6,7,8,9,10,11,12,13,14,15,16,17,18,19,20,21,22,23] (fun k:Int=>[(3,I k)]) (fun _=>[.cells [.aF false ET (T.map jU),I p,.bool b],.cells [I 0,I 0,I 0,I 0,.str [],.str [],.ai,I 0,I 0,I 0,.str [],.str [],.ai,.bool false,.bool false]]) (fun k=>2<=k/\k<=6/\ ∀ j:Int,2<=j->j<k->dW T p b 4 (iI j)=false) (fun k=>(6-k).toNat) (2) ?_ ?_ ?_ ?_
 ·exact⟨by omega,by omega,fun j h1 h2=>by omega⟩
 ·rfl
 ·exact at_
 rintro k r ⟨h1,h2,h3⟩;by_cases hk:k<=5
 ·have mZ:=GK k;obtain⟨o,ho⟩:∃ o,dW T p b 4 (iI k)=o:=⟨_,rfl⟩;have mV:=nQ T p b (iI k) o ho;cases o with
  | false =>
    simp only[bH]at mV;repeat' first|refine aq ?_|refine bw mV ?_|refine ak ?_ ?_<;>intro hw<;>try omega|fail
    refine⟨k+1,?_,?_,by first|rfl|(simp[go_sem];done),bL,at_⟩<;>(try dsimp only)
    ·refine⟨by omega,by omega,fun j z7 z8=>?_⟩;by_cases xR:j=k
     ·subst xR;exact ho
     ·exact h3 j z7 (by omega)
    ·omega
  | true =>
    have DH:=jN ho;have hce:=uJ T (p+1) b hT hs;rw[GM h1 hk h3 ho]at hR;subst hR;simp only[oC]at hE au aA aB;generalize gw T (p+1) b=x at *;rw[aO]at hce;simp only[bH,Int.natCast_add,Int.cast_ofNat_Int]at mV hce;repeat' first|simp (disch:=omega) only[go_sem,au,aA,aB,Int.natCast_add,Int.cast_ofNat_Int]|refine aq ?_|refine bw mV ?_|refine bw hce ?_|refine ak ?_ ?_<;>intro hw<;>try omega|fail
    exact cu (by rw[<-hE];exact GO) (bf.refl (aQ _ _ _))
 ·obtain rfl:k=6:=by omega
  rw[GN (fun j z7 z8=>h3 j z7 z8)]at hR;obtain⟨o1,wR⟩:∃ o,dW T p b 4 [91]=o:=⟨_,rfl⟩;obtain⟨o2,wS⟩:∃ o,dW T p b 4 [93]=o:=⟨_,rfl⟩;have nW:=nQ T p b [91] o1 wR;have qz:=nQ T p b [93] o2 wS;have hmo:=sU T p b [93] (by decide);rw[wR,wS]at hR;rw[wS]at hmo;have xS:=sU T p b [91] (by decide);rw[wR]at xS;generalize W6:rK T p=mt at *;by_cases hin:o1=true\/o2=true
  ·have DH : p < T.length /\ b = false := by
    rcases hin with h|h
    ·exact jN (wR.trans h)
    ·exact jN (wS.trans h)
   obtain⟨DH,rfl⟩:=DH
   have Mh:R=DG T p o2/\(o1=true->o2=false):=by
    rw[<-hR];simp only[fJ,c_]at hmo xS;cases o1 with
    | true =>
      have:mt=[91]:=by simpa using xS.symm
      have h2:o2=false:=by rw[hmo,this];rfl
      rw[if_pos rfl,h2];exact⟨rfl,fun _=>rfl⟩
    | false =>
      rcases hin with h|h
      ·cases h
      ·subst h;rw[if_neg (by simp),if_pos rfl];exact⟨rfl,fun h=>by cases h⟩
   clear hR xS hmo W6;obtain⟨Mh,Z9⟩:=Mh;subst Mh;obtain⟨g1,g2,g3,g4,_⟩:=C1 (T:=T) DH;have c1:=uJ T (p+1) false hT hs;have c2:=zz T (mz T p).p (mz T p).bad [46,46] (by omega);have c3:=uJ T (nq T p).p (nq T p).bad hT hs;obtain⟨o3,BV⟩:∃ o,W5 T p=o:=⟨_,rfl⟩;have c4:=nQ T (fV T p).p (fV T p).bad [91] o3 BV;have c5:=zz T (fV T p).p (fV T p).bad [93] (by omega);have k1:(mz T p).bad=true->(nq T p).p=(mz T p).p/\(nq T p).bad=true:=MY;have k3:(fV T p).bad=true->(gW T (fV T p) 4 [93]).p=(fV T p).p/\(gW T (fV T p) 4 [93]).bad=true:=MY;have k4:o3=true->(fV T p).bad=false:=fun h=>(jN (BV.trans h)).2
   change bC _ _ _ _ _ (bH T (mz T p).p (mz T p).bad) (aI (mz T p).x)at c1
   change bC _ _ _ _ _ (bH T (nq T p).p (nq T p).bad) _ at c2
   change bC _ _ _ _ _ (bH T (fV T p).p (fV T p).bad) (aI (fV T p).x)at c3
   change bC _ _ _ _ _ (bH T (gW T (fV T p) 4 [93]).p (gW T (fV T p) 4 [93]).bad) _ at c5
   have DI:sV T p=if o3 then⟨x0,(fV T p).p+1,(fV T p).bad⟩else gW T (fV T p) 4 [93]:=by rw[<-BV];rfl
   have MX:DG T p o2=⟨⟨6,(mz T p).x,(fV T p).x,o2,o3⟩,(sV T p).p,(sV T p).bad⟩:=by rw[<-BV];rfl
   rw[MX]at hE au aA aB;rw[DI]at au aA aB;clear DI MX BV wR wS g1 g2 g4;generalize gW T (fV T p) 4 [93]=r5 at *;generalize mz T p=r1 at *;generalize nq T p=r2 at *;generalize fV T p=r3 at *;rw[aO]at c1 c3;simp only[bO,cg]at hE
   have fin:∀ σ : ae,View σ (.agg [I 6,I r1.x.op,I r1.x.v.kind,I r1.x.v.n,.str r1.x.v.s,.str r1.x.s,.aF false EX (r1.x.l.map aI),I r3.x.op,I r3.x.v.kind,I r3.x.v.n,.str r3.x.v.s,.str r3.x.s,.aF false EX (r3.x.l.map aI),.bool o2,.bool o3]) E:=fun σ=>by
    rw[<-hE];exact View.eqv rfl (by simp)
   clear hE;obtain⟨x1,p1,b1⟩:=r1;obtain⟨x2,p2,b2⟩:=r2;obtain⟨x3,p3,b3⟩:=r3;obtain⟨x5,p5,b5⟩:=r5;dsimp only at *;simp only[bH,Int.natCast_add,Int.cast_ofNat_Int]at nW qz c1 c2 c3 c4 c5
   have Z_:∀ {v:AV} {mS:List AV} {τ : ae},View (.dead:: τ) v E->o3=true->mS=bH T (p3+1) false->b3=false-> ∃ r0 zY vB,Out.ret (oneOf [v])=Out.ret r0/\bx.cells mS:: τ = bx.cells zY::vB/\View (.dead::vB) r0 E/\bf (.dead::vB) zY (bH T (if o3=true then(⟨x0,p3+1,b3⟩:RS)else ⟨x5,p5,b5⟩).p (if o3=true then(⟨x0,p3+1,b3⟩:RS)else ⟨x5,p5,b5⟩).bad):=fun hv h3 hd hb=>by
    rw[if_pos h3,hb];exact cu hv (bf.eqv hd (aQ _ _ _))
   have RJ:∀ {v:AV} {mS:List AV} {τ : ae},View (.dead:: τ) v E->o3=false->mS=bH T p5 b5-> ∃ r0 zY vB,Out.ret (oneOf [v])=Out.ret r0/\bx.cells mS:: τ = bx.cells zY::vB/\View (.dead::vB) r0 E/\bf (.dead::vB) zY (bH T (if o3=true then(⟨x0,p3+1,b3⟩:RS)else ⟨x5,p5,b5⟩).p (if o3=true then(⟨x0,p3+1,b3⟩:RS)else ⟨x5,p5,b5⟩).bad):=fun hv h3 hd=>by
    rw[if_neg (by simp[h3])];exact cu hv (bf.eqv hd (aQ _ _ _))
   generalize (if o3=true then(⟨x0,p3+1,b3⟩:RS)else ⟨x5,p5,b5⟩)=rz at *
   have zA:o1=true/\o2=false\/o1=false/\o2=true:=by
    cases o1 with
    | true=>exact .inl ⟨rfl,Z9 rfl⟩
    | false => rcases hin with h | h
               ·cases h
               ·exact .inr ⟨rfl,h⟩
   clear hin Z9;rcases zA with⟨rfl,rfl⟩|⟨rfl,rfl⟩
   all_goals
    cases b1 with
    | true =>
      obtain⟨rfl,rfl⟩:=k1 rfl;cases b3 with
      | true =>
        obtain⟨rfl,rfl⟩:=k3 rfl
        have h3:o3=false:=by cases o3 with
         | false=>rfl
         | true=>exact absurd (k4 rfl) (by simp)
        subst h3;repeat' first|simp (disch:=omega) only[go_sem,au,aA,aB,Int.natCast_add,Int.cast_ofNat_Int]|refine aq ?_|refine bw nW ?_|refine bw qz ?_|refine bw c1 ?_|refine bw c3 ?_|refine bw c4 ?_|refine ak ?_ ?_<;>intro hw<;>try omega|fail
        all_goals exact RJ (fin _) rfl rfl
      | false =>
        cases o3 with
        | true =>
          repeat' first|simp (disch:=omega) only[go_sem,au,aA,aB,Int.natCast_add,Int.cast_ofNat_Int]|refine aq ?_|refine bw nW ?_|refine bw qz ?_|refine bw c1 ?_|refine bw c3 ?_|refine bw c4 ?_|refine ak ?_ ?_<;>intro hw<;>try omega|fail
          all_goals exact Z_ (fin _) rfl (by simp[bH]) rfl
        | false =>
          repeat' first|simp (disch:=omega) only[go_sem,au,aA,aB,Int.natCast_add,Int.cast_ofNat_Int]|refine aq ?_|refine bw nW ?_|refine bw qz ?_|refine bw c1 ?_|refine bw c3 ?_|refine bw c4 ?_|refine bw c5 ?_|refine ak ?_ ?_<;>intro hw<;>try omega|fail
          all_goals exact RJ (fin _) rfl rfl
    | false =>
      cases b3 with
      | true =>
        obtain⟨rfl,rfl⟩:=k3 rfl
        have h3:o3=false:=by cases o3 with
         | false=>rfl
         | true=>exact absurd (k4 rfl) (by simp)
        subst h3;repeat' first|simp (disch:=omega) only[go_sem,au,aA,aB,Int.natCast_add,Int.cast_ofNat_Int]|refine aq ?_|refine bw nW ?_|refine bw qz ?_|refine bw c1 ?_|refine bw c2 ?_|refine bw c3 ?_|refine bw c4 ?_|refine ak ?_ ?_<;>intro hw<;>try omega|fail
        all_goals exact RJ (fin _) rfl rfl
      | false =>
        cases o3 with
        | true =>
          repeat' first|simp (disch:=omega) only[go_sem,au,aA,aB,Int.natCast_add,Int.cast_ofNat_Int]|refine aq ?_|refine bw nW ?_|refine bw qz ?_|refine bw c1 ?_|refine bw c2 ?_|refine bw c3 ?_|refine bw c4 ?_|refine ak ?_ ?_<;>intro hw<;>try omega|fail
          all_goals exact Z_ (fin _) rfl (by simp[bH]) rfl
        | false =>
          repeat' first|simp (disch:=omega) only[go_sem,au,aA,aB,Int.natCast_add,Int.cast_ofNat_Int]|refine aq ?_|refine bw nW ?_|refine bw qz ?_|refine bw c1 ?_|refine bw c2 ?_|refine bw c3 ?_|refine bw c4 ?_|refine bw c5 ?_|refine ak ?_ ?_<;>intro hw<;>try omega|fail
          all_goals exact RJ (fin _) rfl rfl
  ·obtain⟨rfl,rfl⟩:o1=false/\o2=false:=⟨by cases o1 with|false=>rfl|true=>exact absurd (.inl rfl) hin,by cases o2 with|false=>rfl|true=>exact absurd (.inr rfl) hin⟩;simp only[Bool.false_eq_true,if_false]at hR;subst hR;have c1:=uJ T p b hT hs;simp only[oC]at hE au aA aB;generalize gw T p b=x at *;rw[aO]at c1;simp only[bH]at nW qz c1;repeat' first|refine aq ?_|refine bw nW ?_|refine bw qz ?_|refine bw c1 ?_|refine ak ?_ ?_<;>intro hw<;>try omega|fail
   exact cu (by rw[<-hE];exact GO) (bf.refl (aQ _ _ _))
def MZ: aG:=[110,111,116]
def lu(T:List Tok): Bool:=decide (1<T.length) && (iC T 0 1 MZ && iC T 1 4 [40])
def VT(T:List Tok): aH aE 288 [nk T] (.bool (lu T)):=by
 refine aJ Oy ?_;intro Q au aA aB;repeat' first|refine aq ?_|refine ak ?_ ?_<;>intro hw<;>try omega|fail
 all_goals (refine aL ?_ rfl;refine congrArg AV.bool ?_;rw[aS];simp_all[lu,iC,MZ])
 all_goals (try omega)
 all_goals (exact⟨fun h=>⟨by omega,by omega,by omega,h⟩,fun h=>h.2.2.2⟩)
structure CS where
 ts:List Test
 p:Nat
 bad:Bool
deriving Inhabited
def lz(T:List Tok): Nat->List Test->Nat->Bool->CS
 | 0,acc,p,b=>⟨acc,p,b⟩
 | f+1,acc,p,b=>if dW T (dX T p b).p (dX T p b).bad 4 [44]then lz T f (acc++[(dX T p b).t]) ((dX T p b).p+1) (dX T p b).bad else⟨acc++[(dX T p b).t],(dX T p b).p,(dX T p b).bad⟩
def nR(T:List Tok)(f:Nat)(acc:List Test)(p:Nat)(b:Bool): lz T (f+1) acc p b=if dW T (dX T p b).p (dX T p b).bad 4 [44]then lz T f (acc++[(dX T p b).t]) ((dX T p b).p+1) (dX T p b).bad else⟨acc++[(dX T p b).t],(dX T p b).p,(dX T p b).bad⟩:=rfl
def RL{T:List Tok}(f:Nat): ∀(acc:List Test) (p:Nat) (b:Bool),p<=T.length->(lz T f acc p b).p<=T.length:=by
 induction f with
 | zero=>intro acc p b hp;exact hp
 | succ f ih =>
   intro acc p b hp;rw[nR];split
   ·rename_i h;exact ih _ _ _ (jN h).1
   ·exact(wV hp).2
def vU(T:List Tok)(n:Bool)(c:CS): CS:=if n then⟨c.ts,nI T c.p c.bad 4 [41],c.bad || !(dW T c.p c.bad 4 [41])⟩else c
def Aq(T:List Tok): Nat:=if lu T then 2 else 0
def fW(T:List Tok): CS:=vU T (lu T) (lz T (T.length+1) [] (Aq T) false)
def M0(T:List Tok): Aq T<=T.length:=by
 unfold Aq;split
 ·rename_i h;simp only[lu,aD,decide_eq_true_eq]at h;omega
 ·exact bD _
def TQ(T:List Tok)(n:Bool)(p:Nat)(b:Bool): List Test->ae
 | []=>[.cells (bH T p b),.cells [.bool false,.bool false,.ai],.cells [.bool false,.bool n,.ai]]
 | t::acc=>[.cells (bH T p b),.cells [.bool false,.bool false,.ai],.cells [.bool false,.bool n,.own ES 3 (acc.length+1) 0 (acc.length+1)],.vec ES (bO t::acc.map bO)]
structure Lc where
 acc:List Test
 p:Nat
 b:Bool
 f:Nat
def P9(T:List Tok)(n:Bool)(p:Nat)(b:Bool): TQ T n p b []=[.cells [.aF false ET (T.map jU),I p,.bool b],.cells [.bool false,.bool false,.ai],.cells [.bool false,.bool n,.ai]]:=rfl
def M1(T:List Tok)(n:Bool)(p:Nat)(b:Bool)(t:Test)(acc:List Test): TQ T n p b (t::acc)=[.cells [.aF false ET (T.map jU),I p,.bool b],.cells [.bool false,.bool false,.ai],.cells [.bool false,.bool n,.own ES 3 (acc.length+1) 0 (acc.length+1)],.vec ES (bO t::acc.map bO)]:=rfl
def VU(T:List Tok)(n:Bool)(p:Nat)(b:Bool)(acc:List Test)(t:Test): TQ T n p b (acc++[t])=[.cells (bH T p b),.cells [.bool false,.bool false,.ai],.cells [.bool false,.bool n,.own ES 3 (acc.length+1) 0 (acc.length+1)],.vec ES (acc.map bO++[bO t])]:=by
 cases acc with
 | nil=>rfl
 | cons x acc=>simp[TQ]
def J7{σ : ae}{n:Bool}{ts:List Test}{k:Nat}(hk:k=ts.length)(h : σ[3]? = some (.vec ES (ts.map bO))): View σ (.agg [.bool false,.bool n,.own ES 3 k 0 k]) (bK ⟨false,n,ts⟩):=by
 subst hk;exact View.om (.cons (.refl _ rfl) (.cons (.refl _ rfl) (.cons (View.vec h (by simp) (by simp) (JW _)) (.nil _))))
def TR (T : List Tok) (hT : T.length <= 2 ^ 30) (hs : ∀ q, (T.getD q default).s.length <= 2 ^ 62) :
    bC aE 265 0 [] (bH T 0 false) (bH T (fW T).p (fW T).bad) (bK ⟨false,lu T,(fW T).ts⟩):=by
 have hn:=VT T;have GD:=M0 T;have e0:Aq T=if lu T then 2 else 0:=rfl
 generalize hR:fW T=R;unfold fW at hR;generalize lu T=n at *;generalize hE:bK _=E;simp only[nk]at hn
 have fin:∀ (σ : ae) (k:Nat) (ts:List Test),R.ts=ts->k=ts.length->σ[3]? = some (.vec ES (ts.map bO))->View σ (.agg [.bool false,.bool n,.own ES 3 k 0 k]) E:=fun σ k ts h1 h2 h3=>by
  rw[<-hE,h1];exact J7 h2 h3
 clear hE;refine bC.cC (AG.go ?_) rfl (aQ _ _ _);unfold dS;intro Q au aA aB;cases n
 all_goals
  simp only[Bool.false_eq_true,if_false,if_true]at e0;rw[e0]at hR GD;repeat' first|refine aq ?_|refine ak ?_ ?_<;>intro hw<;>try omega|fail
  with_reducible refine bn [17,18,19,20,21,22,23,24,25,26] (fun x:Lc=>([]:List (Nat × AV))) (fun x=>TQ T _ x.p x.b x.acc) (fun x=>x.p<=T.length/\x.acc.length+x.f=T.length+1/\T.length+1<=x.f+x.p/\vU T _ (lz T x.f x.acc x.p x.b)=R) (fun x=>x.f) ⟨[],_,false,T.length+1⟩ ⟨?_,?_,?_,hR⟩ rfl ?_ ?_
  ·dsimp only;omega
  ·dsimp only;simp
  ·dsimp only;omega
  ·exact at_
  rintro⟨acc,p,b,f⟩ r ⟨h1,h2,h3,h4⟩;dsimp only at h1 h2 h3 h4;obtain⟨f,rfl⟩:∃ g,f=g+1:=⟨f-1,by omega⟩;rw[nR]at h4;have ct:=TP T p b h1 (by omega) hs;have gt:=wV (T:=T) (b:=b) h1;generalize dX T p b=x at *;obtain⟨xt,xp,xb⟩:=x;dsimp only at ct gt h4;obtain⟨o,ho⟩:∃ o,dW T xp xb 4 [44]=o:=⟨_,rfl⟩;have Ar:=rL T xp xb [44] o (by decide) (by omega) ho;have eW:=fun n' p' b'=>VU T n' p' b' acc xt;simp only[bO,cg]at ct;rw[ho]at h4;cases o with
  | true =>
    have hlt:=(jN ho).1;rw[if_pos rfl]at h4;simp only[bH,if_true,Int.natCast_add,Int.cast_ofNat_Int]at ct Ar;cases acc with
    | nil =>
      simp only[List.length_nil]at h2;rw[P9 T _ p b];repeat' first|simp (disch:=omega) only[go_sem,au,aA,aB,Int.natCast_add,Int.cast_ofNat_Int]|refine aq ?_|refine bw ct ?_|refine bw Ar ?_|refine ak ?_ ?_<;>intro hw<;>try omega|fail
      refine⟨⟨[xt],xp+1,xb,f⟩,?_,?_,?_,bL,at_⟩<;>(try dsimp only)
      ·exact⟨by omega,by simp only[List.length_cons,List.length_nil];omega,by omega,h4⟩
      ·omega
      ·rfl
    | cons t0 acc =>
      simp only[List.length_cons]at h2;rw[M1 T _ p b];repeat' first|simp (disch:=omega) only[go_sem,au,aA,aB,Int.natCast_add,Int.cast_ofNat_Int]|refine aq ?_|refine bw ct ?_|refine bw Ar ?_|refine ak ?_ ?_<;>intro hw<;>try omega|fail
      refine⟨⟨t0::acc++[xt],xp+1,xb,f⟩,?_,?_,?_,bL,at_⟩<;>(try dsimp only)
      ·exact⟨by omega,by simp only[List.length_cons,aC,List.length_nil];omega,by omega,h4⟩
      ·omega
      ·rw[eW];simp[bH,bO,cg]
  | false =>
    rw[if_neg (by simp)]at h4;simp only[bH,Bool.false_eq_true,if_false]at ct Ar;have cm:=BZ T xp xb [41] (by decide) (by omega);simp only[vU,Bool.false_eq_true,if_false,if_true]at h4;subst h4;dsimp only at fin au aA aB cm;generalize nI T xp xb 4 [41]=p9 at *;generalize (xb || !(dW T xp xb 4 [41]))=b9 at *;simp only[bH]at cm;cases acc with
    | nil =>
      simp only[List.length_nil]at h2;rw[P9 T _ p b];repeat' first|refine aq ?_|refine bw ct ?_|refine bw Ar ?_|refine bw cm ?_|refine ak ?_ ?_<;>intro hw<;>try omega|fail
      exact cu (fin _ _ _ rfl rfl rfl) (bf.eqv rfl (aQ _ _ _))
    | cons t0 acc =>
      simp only[List.length_cons]at h2;rw[M1 T _ p b];repeat' first|refine aq ?_|refine bw ct ?_|refine bw Ar ?_|refine bw cm ?_|refine ak ?_ ?_<;>intro hw<;>try omega|fail
      exact cu (fin _ _ _ rfl (by simp) (by simp[bO,cg])) (bf.eqv rfl (aQ _ _ _))
def xB(T:List Tok): Prop:= ∀ q,(T.getD q default).s.length<=2 ^ 62/\ -9223372036854775808<=(T.getD q default).n/\(T.getD q default).n<=9223372036854775807
def p_: gV x0:=by simp[x0,gV,Dy,v0]
def GP{op:Int}{l:List Expr}(h:Dy l): gV (.mk op v0 [] l):=by simp[gV,v0,h]
def TT{rd:Nat->Nat->RS}{l q:Nat}{b:Bool}(h:∀ l q,gV (rd l q).x): gV (nJ rd l q b).x:=by
 unfold nJ;split
 ·exact p_
 ·exact h _ _
def VW{s:aG}{v:eu}(h:pg s=some v): v.s=[]/\0<=v.n/\v.n<=1:=by
 unfold pg at h;split at h
 ·cases h;exact⟨rfl,by decide,by decide⟩
 split at h
 ·cases h;exact⟨rfl,by decide,by decide⟩
 split at h
 ·cases h;exact⟨rfl,by decide,by decide⟩
 ·cases h
def X5{T:List Tok}(hT:xB T){rd:Nat->Nat->RS}(h:∀ l q,gV (rd l q).x)(p:Nat): gV (iQ rd T p).x:=by
 have hp:=hT p;unfold iQ;split
 ·exact h 0 (p+1)
 split
 ·simp[sS,gV,Dy];exact hp.2
 split
 ·simp[sS,gV,Dy];exact hp.1
 split
 ·split
  ·rename_i v hv;have:=VW hv;simp[sS,gV,Dy,this.1];omega
  ·split
   ·simp[gV,Dy,v0];exact hp.1
   ·exact p_
 ·exact p_
def abD{T:List Tok}(hT:xB T)(f:Nat): ∀(m:Option Expr) (lvl p:Nat),(∀ x,m=some x->gV x)->gV (bN T f m lvl p).x:=by
 induction f with
 | zero=>intro m lvl p _;exact p_
 | succ f ih =>
   intro m lvl p hm;have h:∀ l q,gV (bN T f none l q).x:=fun l q=>ih none l q (fun x hx=>by cases hx);cases m with
   | none =>
     simp only[bN];split
     ·split
      ·exact GP ⟨h _ _,TT (rd:=fun l q=>bN T f none l q) h,TT (rd:=fun l q=>bN T f none l q) h,trivial⟩
      ·exact h _ _
     split
     ·exact GP ⟨h _ _,trivial⟩
     split
     ·exact X5 hT h p
     split
     ·exact h _ _
     ·exact ih _ _ _ (fun x hx=>by cases hx;exact h _ _)
   | some x =>
     simp only[bN];split
     ·exact hm x rfl
     ·split
      ·exact GP ⟨hm x rfl,h _ _,trivial⟩
      ·exact ih _ _ _ (fun y hy=>by cases hy;exact GP ⟨hm x rfl,h _ _,trivial⟩)
def M3{T:List Tok}(hT:xB T)(fr lvl:Int): gV (dQ T fr lvl).1:=by
 unfold dQ;split
 ·exact p_
 split
 ·exact p_
 ·exact abD hT _ _ _ _ (fun x hx=>by cases hx)
def RM(s:aG): (∀ c ∈ s,dc c=true)-> ∀ v:Int,0<=v->v<=9223372036854775807-> ∀ n,mu s v=some n->0<=n/\n<=9223372036854775807:=by
 induction s with
 | nil=>intro _ v h1 h2 n h;simp only[mu]at h;cases h;exact⟨h1,h2⟩
 | cons c r ih =>
   intro hd v h1 h2 n h;have hc:=hd c (by simp);simp only[dc,aD,decide_eq_true_eq]at hc;simp only[mu]at h;split at h
   ·cases h
   ·exact ih (fun c hc=>hd c (cE _ hc)) _ (by omega) (by omega) n h
def Ll{p:UInt8->Bool}(s:aG): ∀ c ∈ s.takeWhile p,p c=true:=by
 induction s with
 | nil=>intro c h;cases h
 | cons x r ih =>
   intro c h;rw[eF]at h;split at h
   ·rename_i hx;rcases List.mem_cons.1 h with rfl|h
    ·exact hx
    ·exact ih c h
   ·cases h
def aac(s:aG): 0<=(fY s).n/\(fY s).n<=9223372036854775807:=by
 have e:∀ k,0<=(PR.err k).n/\(PR.err k).n<=9223372036854775807:=fun k=>by simp[PR.err]
 unfold fY;simp only;split
 ·unfold uF;split
  ·exact e _
  ·exact⟨by simp,by simp⟩
 split
 ·unfold k7;simp only;split
  ·exact e _
  ·split
   ·exact e _
   ·rename_i v hv;exact RM _ (Ll s) 0 (by omega) (by omega) v hv
 split
 ·have : ∀ (r b : aG) (i : Nat), 0 <= (jd r b i).n /\ (jd r b i).n <= 9223372036854775807 := fun r b i => by
   fun_induction jd r b i<;>first|exact e _|assumption|exact⟨by simp,by simp⟩
  exact this _ _ _
 ·unfold o_;split
  ·exact⟨by simp,by simp⟩
  ·exact e _
def TV(f:Nat): ∀(s:aG) (pos:Nat) (acc:List Tok),(∀ t ∈ acc,0<=t.n/\t.n<=9223372036854775807)-> ∀ t ∈ (nU f s pos acc).1,0<=t.n/\t.n<=9223372036854775807:=by
 induction f with
 | zero=>intro s pos acc h;exact h
 | succ f ih =>
   intro s pos acc h;cases s with
   | nil=>exact h
   | cons c r =>
     rw[ou];split
     ·exact ih r (pos+1) acc h
     ·split
      ·refine ih _ _ _ (fun t ht=>?_);rcases List.mem_append.1 ht with ht|ht
       ·exact h t ht
       ·simp only[List.mem_cons,List.not_mem_nil,or_false]at ht;subst ht;exact aac _
      ·intro t ht;cases ht
def sW(s:aG): xB (aX s).1:=by
 intro q;have h1:=(kP s).2 q
 have h2:∀ t ∈ (aX s).1,0<=t.n/\t.n<=9223372036854775807:=by
  unfold aX;split
  ·intro t ht;cases ht
  ·exact TV _ _ _ _ (fun t ht=>by cases ht)
 refine⟨by omega,?_⟩;by_cases hq:q<(aX s).1.length
 ·have:=h2 _ (aV hq);omega
 ·rw[my (by omega)];decide
def zB{T:List Tok}(hT:xB T)(p:Nat)(b:Bool): gV (gw T p b).x/\ew (gw T p b).x<=1+4*T.length:=by
 unfold gw nJ;split
 ·exact⟨p_,by simp[x0,ew,lq]⟩
 ·exact⟨M3 hT _ _,zu T _ _⟩
def VX{T:List Tok}(hT:xB T)(hl:T.length<=2 ^ 50)(p:Nat)(b:Bool): DB (dX T p b).t:=by
 have hx:∀ p b,gV (gw T p b).x/\ew (gw T p b).x<=2 ^ 60:=fun p b=>⟨(zB hT p b).1,by have:=(zB hT p b).2;omega⟩;have h0:gV x0/\ew x0<=2 ^ 60:=⟨p_,MS⟩;have h1:∀ k p b,DB (oC k (gw T p b)).t:=fun k p b=>⟨hx p b,h0⟩;have h2:∀ lo,DB (DG T p lo).t:=fun lo=>⟨hx _ _,hx _ _⟩;unfold dX;split
 ·exact h1 _ _ _
 split
 ·exact h1 _ _ _
 split
 ·exact h1 _ _ _
 split
 ·exact h1 _ _ _
 split
 ·exact h2 _
 split
 ·exact h2 _
 ·exact h1 _ _ _
def VY{T:List Tok}(hT:xB T)(hl:T.length<=2 ^ 50)(f:Nat): ∀(acc:List Test) (p:Nat) (b:Bool),(∀ t ∈ acc,DB t)->(∀ t ∈ (lz T f acc p b).ts,DB t)/\(lz T f acc p b).ts.length<=acc.length+f:=by
 induction f with
 | zero=>intro acc p b h;exact⟨h,Nat.le_refl _⟩
 | succ f ih =>
   intro acc p b h
   have h2:∀ t ∈ acc++[(dX T p b).t],DB t:=fun t ht=>by
    rcases List.mem_append.1 ht with ht|ht
    ·exact h t ht
    ·simp only[List.mem_cons,List.not_mem_nil,or_false]at ht;subst ht;exact VX hT hl p b
   rw[nR];split
   ·have:=ih _ ((dX T p b).p+1) (dX T p b).bad h2;rw[aC,List.length_cons,List.length_nil]at this;exact⟨this.1,by omega⟩
   ·exact⟨h2,by rw[aC,List.length_cons,List.length_nil];omega⟩
def I3(T:List Tok)(n:Bool)(c:CS): (vU T n c).ts=c.ts:=by unfold vU;split<;>rfl
def EY{T:List Tok}(hT:xB T)(hl:T.length<=2 ^ 50): DC ⟨false,lu T,(fW T).ts⟩:=by
 have:=VY hT hl (T.length+1) [] (Aq T) false (fun t ht=>by cases ht);unfold fW DC;rw[I3];exact⟨by have:=this.2;simp only[List.length_nil]at this;dsimp only;omega,this.1⟩
def aad{T:List Tok}{n:Bool}{c:CS}(h:c.p<=T.length): (vU T n c).p<=T.length:=by
 unfold vU;split
 ·dsimp only[nI];split
  ·rename_i h;exact(jN h).1
  ·exact h
 ·exact h
def P_(T:List Tok): (fW T).p<=T.length:=aad (RL _ _ _ _ (M0 T))
def VZ{T:List Tok}(f:Nat): ∀(acc:List Test) (p:Nat) (b:Bool),(lz T (f+1) acc p b).ts≠[]:=by
 induction f with
 | zero=>intro acc p b;rw[nR];split<;>simp[lz]
 | succ f ih=>intro acc p b;rw[nR];split<;>first|exact ih _ _ _|simp
def V2(T:List Tok): (fW T).ts≠[]:=by unfold fW;rw[I3];exact VZ _ _ _ _
def c0: Cell:=⟨false,false,[]⟩
def xC: Cell:=⟨true,false,[]⟩
def fB(s:aG): Cell × Int × Int :=
 if(aX s).2.2≠0 then(c0,(aX s).2.1,(aX s).2.2)
 else if(aX s).1.length=1/\dW (aX s).1 0 false 4 [45]=true then(xC,0,0)
 else if(fW (aX s).1).p<(aX s).1.length then(c0,((aX s).1.getD (fW (aX s).1).p default).pos,11)
 else if(fW (aX s).1).bad=true then(c0,s.length,11)
 else if 12<(fW (aX s).1).ts.length then(c0,0,24)
 else if iX ⟨false,lu (aX s).1,(fW (aX s).1).ts⟩=false then(c0,0,12)
 else(⟨false,lu (aX s).1,(fW (aX s).1).ts⟩,0,0)
def M4(r:Cell × Int × Int): AV:= .bJ [bK r.1,I r.2.1,I r.2.2]
def B0(s:aG): DC (fB s).1:=by
 have h:=EY (sW s) (by have:=(kP s).1;omega);have h0:DC c0:=⟨Nat.zero_le _,fun t ht=>by cases ht⟩;have h1:DC xC:=⟨Nat.zero_le _,fun t ht=>by cases ht⟩;unfold fB;repeat' split
 all_goals first|exact h0|exact h1|exact h
