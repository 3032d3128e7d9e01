/- Part. -/
import Derived.Test.YthakfmmgnjpmdaaGreatW24
set_option linter.all false
set_option maxHeartbeats 4000000
namespace Go.Proofs.YthakfmmgnjpmdaaGreat
open Go.AM
set_option maxRecDepth 4000
def kZ(t:Table): Bool :=
 if t.bu<1\/6<t.bu then false else if t.agg=0 then true
 else if t.bu≠5\/t.agg<1\/4<t.agg\/t.outs.length≠1 then false
 else decide (t.agg=4\/(t.outs.getD 0 default).kind=1\/(t.outs.getD 0 default).kind=2/\t.agg≠1)
def jL(t:Table): Int :=
 if jH t.name=false then 13 else if kF t.ins false≠0 then kF t.ins false
 else if kF t.outs (decide (t.bu=3))≠0 then kF t.outs (decide (t.bu=3))
 else if kZ t=false then 17 else if 24<t.rules.length then 24 else 0
def qT(t:Table): Prop:=t.name.length<=2 ^ 30/\(t.ins.length<=2 ^ 30/\ ∀ c ∈ t.ins,yP c)/\(t.outs.length<=2 ^ 30/\ ∀ c ∈ t.outs,yP c) /\
 t.rules.length<=2 ^ 30/\ ∀ r ∈ t.rules,(r.cells.length<=2 ^ 30/\ ∀ s ∈ r.cells,s.length<=2 ^ 30)/\r.outs.length<=2 ^ 30/\ ∀ s ∈ r.outs,s.length<=2 ^ 30
def JB{l:List bQ}(h:jZ l=0){i:Nat}(hi:i<l.length): 1<=(l.getD i default).kind/\(l.getD i default).kind<=3:=by
 by_cases h6:6<l.length
 ·unfold jZ at h;rw[if_pos h6]at h;omega
 ·by_cases hc:∀ k,k<l.length->uH l k=0
  ·have:=hc i hi;unfold uH at this;split at this
   ·omega
   ·split at this
    ·omega
    ·omega
  ·exfalso;unfold jZ at h;rw[if_neg h6]at h;split at h
   ·rename_i j hj;have:=List.find?_some hj;simp[h]at this
   ·rename_i hn;apply hc;intro k hk;have:=List.find?_eq_none.1 hn k (by simpa using hk);simpa using this
def sQ{l:List bQ}{b:Bool}(h:kF l b=0): jZ l=0/\0<l.length:=by
 unfold kF at h;split at h
 ·omega
 ·split at h
  ·omega
  ·rename_i h1 h2;refine⟨by omega,?_⟩;rcases Nat.eq_zero_or_pos l.length with h3|h3
   ·exact absurd (.inl h3) h2
   ·exact h3
def N4(t:Table)(ho:jZ t.outs=0): aF aD 68 [cI t] (.bool (kZ t)):=by
 have hk:=fun h=>JB ho (i:=0) h;have hS:kZ t=if t.bu<1\/6<t.bu then false else if t.agg=0 then true else if t.bu≠5\/t.agg<1\/4<t.agg\/t.outs.length≠1 then false else decide (t.agg=4\/(t.outs.getD 0 default).kind=1\/(t.outs.getD 0 default).kind=2/\t.agg≠1):=rfl
 rw[hS];clear hS ho;simp only[cI,eJ,aY,dy];obtain⟨c,P6⟩:∃ c,t.outs.getD 0 default=c:=⟨_,rfl⟩;rw[P6]at hk ⊢;refine aK G_ ?_;intro Q aq au aA;repeat' first|simp (disch:=omega) only[go_sem,aq,au,aA,P6]|refine ak ?_|refine aj ?_ ?_<;>intro hw<;>try omega|fail
 all_goals (refine aN ?_ rfl;refine congrArg AV.bool ?_;rw[aW];simp_all)
 all_goals (try omega)
def P7(t:Table): aF aD 83 [cI t] (.bool (kZ t)):=by
 have hS:kZ t=if t.bu<1\/6<t.bu then false else if t.agg=0 then true else if t.bu≠5\/t.agg<1\/4<t.agg\/t.outs.length≠1 then false else decide (t.agg=4\/(t.outs.getD 0 default).kind=1\/(t.outs.getD 0 default).kind=2/\t.agg≠1):=rfl
 rw[hS];clear hS;simp only[cI,eJ,aY,dy];obtain⟨c,P6⟩:∃ c,t.outs.getD 0 default=c:=⟨_,rfl⟩;rw[P6];refine aK IW ?_;intro Q aq au aA;repeat' first|simp (disch:=omega) only[go_sem,aq,au,aA,P6]|refine ak ?_|refine aj ?_ ?_<;>intro hw<;>try omega|fail
 all_goals (refine aN ?_ rfl;refine congrArg AV.bool ?_;rw[aW];simp_all)
 all_goals (try omega)
def P8(t:Table)(h:qT t): aF aD 38 [cI t] (I (jL t)):=by
 obtain⟨h1,h2,h3,h4,_⟩:=h;have c1:=xF t.name (by omega);have c2:=Av t.ins false (by omega) h2.2;have c3:=Av t.outs (decide (t.bu=3)) (by omega) h3.2;have c4:kF t.outs (decide (t.bu=3))=0->aF aD 68 [cI t] (.bool (kZ t)):=fun hb=>N4 t (sQ hb).1;have hS:jL t=if jH t.name=false then 13 else if kF t.ins false≠0 then kF t.ins false else if kF t.outs (decide (t.bu=3))≠0 then kF t.outs (decide (t.bu=3))else if kZ t=false then 17 else if 24<t.rules.length then 24 else 0:=rfl
 rw[hS];clear hS;simp only[cI,eJ,aY,dy]at c2 c3 c4 ⊢;generalize jH t.name=n at *;generalize kF t.ins false=a at *;generalize kF t.outs (decide (t.bu=3))=b at *;generalize kZ t=p at *;by_cases hb:b=0
 ·have c5:=c4 hb;clear c4;refine aK yE ?_;intro Q aq au aA;repeat' first|refine ak ?_|refine cW c1 ?_|refine cW c2 ?_|refine cW c3 ?_|refine cW c5 ?_|refine aj ?_ ?_<;>intro hw<;>try omega|fail
  all_goals (refine aN ?_ rfl;refine congrArg I ?_;simp_all)
  all_goals (try omega)
 ·clear c4;refine aK yE ?_;intro Q aq au aA;repeat' first|refine ak ?_|refine cW c1 ?_|refine cW c2 ?_|refine cW c3 ?_|refine aj ?_ ?_<;>intro hw<;>try omega|fail
  all_goals first
   | exact aP
   |(refine aN ?_ rfl;refine congrArg I ?_;simp_all;done)
   |(refine aN ?_ rfl;refine congrArg I ?_;simp_all;omega)
def R9(t:Table)(h:qT t): aF aD 44 [cI t] (I (jL t)):=by
 obtain⟨h1,h2,h3,h4,_⟩:=h;have c1:=wC t.name (by omega);have c2:=CL t.ins false (by omega) h2.2;have c3:=CL t.outs (decide (t.bu=3)) (by omega) h3.2;have c4:kF t.outs (decide (t.bu=3))=0->aF aD 83 [cI t] (.bool (kZ t)):=fun hb=>P7 t;have hS:jL t=if jH t.name=false then 13 else if kF t.ins false≠0 then kF t.ins false else if kF t.outs (decide (t.bu=3))≠0 then kF t.outs (decide (t.bu=3))else if kZ t=false then 17 else if 24<t.rules.length then 24 else 0:=rfl
 rw[hS];clear hS;simp only[cI,eJ,aY,dy]at c2 c3 c4 ⊢;generalize jH t.name=n at *;generalize kF t.ins false=a at *;generalize kF t.outs (decide (t.bu=3))=b at *;generalize kZ t=p at *;by_cases hb:b=0
 ·have c5:=c4 hb;clear c4;refine aK zT ?_;intro Q aq au aA;repeat' first|refine ak ?_|refine cW c1 ?_|refine cW c2 ?_|refine cW c3 ?_|refine cW c5 ?_|refine aj ?_ ?_<;>intro hw<;>try omega|fail
  all_goals (refine aN ?_ rfl;refine congrArg I ?_;simp_all)
  all_goals (try omega)
 ·clear c4;refine aK zT ?_;intro Q aq au aA;repeat' first|refine ak ?_|refine cW c1 ?_|refine cW c2 ?_|refine cW c3 ?_|refine aj ?_ ?_<;>intro hw<;>try omega|fail
  all_goals first
   | exact aP
   |(refine aN ?_ rfl;refine congrArg I ?_;simp_all;done)
   |(refine aN ?_ rfl;refine congrArg I ?_;simp_all;omega)
def Xj{T:List cg}(hT:zk T)(hl:T.length<=2 ^ 20)(p:Nat)(b:Bool): zm (eF T p b).t:=by
 have hx:∀ p b,iG (ij T p b).x/\fE (ij T p b).x<=2 ^ 30:=fun p b=>⟨(BI hT p b).1,by have:=(BI hT p b).2;omega⟩;have h0:iG x0/\fE x0<=2 ^ 30:=⟨rM,by simp[x0,fE,nY]⟩;have h1:∀ k p b,zm (qp k (ij T p b)).t:=fun k p b=>⟨hx p b,h0⟩;have h2:∀ lo,zm (F9 T p lo).t:=fun lo=>⟨hx _ _,hx _ _⟩;unfold eF;split
 ·exact h1 _ _ _
 split
 ·exact h1 _ _ _
 split
 ·exact h1 _ _ _
 split
 ·exact h1 _ _ _
 split
 ·exact h2 _
 split
 ·exact h2 _
 ·exact h1 _ _ _
def Xk{T:List cg}(hT:zk T)(hl:T.length<=2 ^ 20)(f:Nat): ∀(acc:List Test) (p:Nat) (b:Bool),(∀ t ∈ acc,zm t)->(∀ t ∈ (mO T f acc p b).ts,zm t)/\(mO T f acc p b).ts.length<=acc.length+f:=by
 induction f with
 | zero=>intro acc p b h;exact⟨h,Nat.le_refl _⟩
 | succ f ih =>
   intro acc p b h
   have h2:∀ t ∈ acc++[(eF T p b).t],zm t:=fun t ht=>by
    rcases List.mem_append.1 ht with ht|ht
    ·exact h t ht
    ·simp only[List.mem_cons,List.not_mem_nil,or_false]at ht;subst ht;exact Xj hT hl p b
   rw[pD];split
   ·have:=ih _ ((eF T p b).p+1) (eF T p b).bad h2;rw[List.length_append,List.length_cons,List.length_nil]at this;exact⟨this.1,by omega⟩
   ·exact⟨h2,by rw[List.length_append,List.length_cons,List.length_nil];omega⟩
def U8(s:aS): pI (fT s).1:=by
 have h:pI ⟨false,mN (bF s).1,(gK (bF s).1).ts⟩:=by
  have hf:=(nH s).1;have:=Xk (Ar s) (by omega) ((bF s).1.length+1) [] (CH (bF s).1) false (fun t ht=>by cases ht);unfold gK pI;rw[Lo];exact⟨by have:=this.2;simp only[List.length_nil]at this;dsimp only;omega,this.1⟩
 have h0:pI c0:=⟨Nat.zero_le _,fun t ht=>by cases ht⟩;have h1:pI zl:=⟨Nat.zero_le _,fun t ht=>by cases ht⟩;unfold fT;repeat' split
 all_goals first|exact h0|exact h1|exact h
def vv(s:aS): iG (dK s).1/\fE (dK s).1<=2 ^ 30:=by
 have h:iG (ez (bF s).1 0 0).1/\fE (ez (bF s).1 0 0).1<=2 ^ 30:=by
  have hf:=(nH s).1;have:=Bz (bF s).1 0 0;exact⟨P2 (Ar s) _ _,by omega⟩
 have h0:iG x0/\fE x0<=2 ^ 30:=⟨rM,by simp[x0,fE,nY]⟩;unfold dK;repeat' split
 all_goals first|exact h0|exact h
def P9(t:Table)(k:Nat)(s:aS): Cell × Int:=((fT s).1,if(fT s).2.2=0 then qt t.ins (t.ins.getD k default).kind (fT s).1 else(fT s).2.2)
def wG(t:Table)(k:Nat)(s:aS): Expr × Int:=((dK s).1,if(dK s).2.2≠0 then(dK s).2.2 else if(ek t.ins (dK s).1).2=0/\bI (ek t.ins (dK s).1).1 (t.outs.getD k default).kind=false then 14 else(ek t.ins (dK s).1).2)
def U9(t:Table)(k:Nat)(s:aS)(ht:t.ins.length<=2 ^ 30)(hk:k<t.ins.length)(hs:s.length<=2 ^ 30): aF aD 69 [cI t,I k,.str s] (.bJ [bY (P9 t k s).1,I (P9 t k s).2]):=by
 have c1:=U4 s hs;have c2:=U7 t.ins (by omega) (t.ins.getD k default).kind (fT s).1 (Ee s);have hS:P9 t k s=((fT s).1,if(fT s).2.2=0 then qt t.ins (t.ins.getD k default).kind (fT s).1 else(fT s).2.2):=rfl;rw[hS];clear hS;dsimp only;obtain⟨cc,iE⟩:∃ c,t.ins.getD k default=c:=⟨_,rfl⟩;rw[iE]at c2 ⊢;generalize qt t.ins cc.kind (fT s).1=ty at *;generalize fT s=P at *;obtain⟨c,n,e⟩:=P;dsimp only at c1 c2 ⊢;simp only[P3]at c1;obtain⟨C,hC⟩:∃ C,bY c=C:=⟨_,rfl⟩;have hC2:C = .agg [.bool c.any,.bool c.neg,.aG false ES (c.tests.map bS)]:=by rw[<-hC];rfl
 simp only[bY,gG,cI,eJ,aY,dy]at c1 c2 ⊢;refine aK Ns ?_;intro Q aq au aA;repeat' first|simp (disch:=omega) only[go_sem,aq,au,aA,iE]|refine ak ?_|refine aj ?_ ?_<;>intro hw<;>try omega|fail
 all_goals (refine bt ?_ (by simp);simp_all)
def R_(t:Table)(k:Nat)(s:aS)(ht:t.ins.length<=2 ^ 30)(ho:t.outs.length<=2 ^ 30)(hk:k<t.outs.length)(hs:s.length<=2 ^ 30): aF aD 70 [cI t,I k,.str s] (.bJ [aJ (wG t k s).1,I (wG t k s).2]):=by
 have c1:=PG s hs;have hp:=vv s;have c2:=xS t.ins (by omega) (dK s).1 hp.1 (by have:=hp.2;omega);have c3:=nU (ek t.ins (dK s).1).1 (t.outs.getD k default).kind;have hS:wG t k s=((dK s).1,if(dK s).2.2≠0 then(dK s).2.2 else if(ek t.ins (dK s).1).2=0/\bI (ek t.ins (dK s).1).1 (t.outs.getD k default).kind=false then 14 else(ek t.ins (dK s).1).2):=rfl;rw[hS];clear hS hp;dsimp only;obtain⟨cc,iE⟩:∃ c,t.outs.getD k default=c:=⟨_,rfl⟩;rw[iE]at c3 ⊢;generalize bI (ek t.ins (dK s).1).1 cc.kind=fi at *;generalize ek t.ins (dK s).1=ki at *;generalize dK s=P at *;obtain⟨x,n,e⟩:=P;dsimp only at c1 c2 ⊢;simp only[vu]at c1;rw[aU]at c1 c2 ⊢;simp only[cH,cI,eJ,aY,dy]at c1 c2 ⊢;refine aK KP ?_;intro Q aq au aA;repeat' first|simp (disch:=omega) only[go_sem,aq,au,aA,iE]|refine ak ?_|refine aj ?_ ?_<;>intro hw<;>try omega|fail
 all_goals (refine bt ?_ (by simp);simp_all)
def pJ(t:Table)(r:kX)(k:Nat): Cell × Int:=P9 t k (r.cells.getD k default)
def kG(t:Table)(r:kX)(k:Nat): Expr × Int:=wG t k (r.outs.getD k default)
def lM(t:Table)(r:kX)(n:Nat): List Cell:=(List.range n).map fun k=>(pJ t r k).1
def oJ(t:Table)(r:kX)(n:Nat): List Expr:=(List.range n).map fun k=>(kG t r k).1
def mT(t:Table)(r:kX): pG × Int × Int :=
 if r.cells.length≠t.ins.length\/r.outs.length≠t.outs.length then(⟨[],[]⟩,0,17)
 else match(List.range r.cells.length).find? (fun k=>(pJ t r k).2 != 0)with
 | some k=>(⟨lM t r k,[]⟩,k,(pJ t r k).2)
 | none => match (List.range r.outs.length).find? (fun k => (kG t r k).2 != 0) with
   | some k=>(⟨lM t r r.cells.length,oJ t r k⟩,t.ins.length+k,(kG t r k).2)
   | none=>(⟨lM t r r.cells.length,oJ t r r.outs.length⟩,0,0)
def wH(t:Table)(r:kX)(n:Nat): lM t r (n+1)=lM t r n++[(pJ t r n).1]:=by simp[lM,List.range_succ]
def yR(t:Table)(r:kX)(n:Nat): oJ t r (n+1)=oJ t r n++[(kG t r n).1]:=by simp[oJ,List.range_succ]
def vw(t:Table)(r:kX)(n:Nat): (lM t r n).length=n:=by simp[lM]
def HB(t:Table)(r:kX)(n:Nat): (oJ t r n).length=n:=by simp[oJ]
def HC{n i:Nat}{p:Nat->Bool}(hi:i<n)(h:∀ k,k<i->p k=false)(hp:p i=true): (List.range n).find? p=some i:=by
 have:=sO (p:=p) (l:=List.range n) (i:=i) (by simpa using hi) (fun k hk=>by rw[nI (by omega)];exact h k hk) (by rw[nI hi];exact hp);rwa[nI hi]at this
def yS{n:Nat}{p:Nat->Bool}(h:∀ k,k<n->p k=false): (List.range n).find? p=none :=
 qg (fun k hk=>by rw[List.length_range]at hk;rw[nI hk];exact h k hk)
def My{t:Table}{r:kX}(h:r.cells.length≠t.ins.length\/r.outs.length≠t.outs.length): mT t r=(⟨[],[]⟩,0,17):=by
 unfold mT;rw[if_pos h]
def yT{t:Table}{r:kX}(h1:r.cells.length=t.ins.length)(h2:r.outs.length=t.outs.length){k:Nat}(hk:k<r.cells.length)(h:∀ j,j<k->(pJ t r j).2=0)(he:(pJ t r k).2≠0): mT t r=((⟨lM t r k,[]⟩:pG),(k:Int),(pJ t r k).2):=by
 unfold mT;rw[if_neg (by omega),HC (i:=k) hk (fun j hj=>by simp[h j hj]) (by simp[he])]
def JC{t:Table}{r:kX}(h1:r.cells.length=t.ins.length)(h2:r.outs.length=t.outs.length)(hc:∀ j,j<r.cells.length->(pJ t r j).2=0){k:Nat}(hk:k<r.outs.length)(h:∀ j,j<k->(kG t r j).2=0)(he:(kG t r k).2≠0): mT t r=((⟨lM t r r.cells.length,oJ t r k⟩:pG),(t.ins.length:Int)+k,(kG t r k).2):=by
 unfold mT;rw[if_neg (by omega),yS (fun j hj=>by simp[hc j hj])];dsimp only;rw[HC (i:=k) hk (fun j hj=>by simp[h j hj]) (by simp[he])]
def P_{t:Table}{r:kX}(h1:r.cells.length=t.ins.length)(h2:r.outs.length=t.outs.length)(hc:∀ j,j<r.cells.length->(pJ t r j).2=0)(h:∀ j,j<r.outs.length->(kG t r j).2=0): mT t r=(⟨lM t r r.cells.length,oJ t r r.outs.length⟩,0,0):=by
 unfold mT;rw[if_neg (by omega),yS (fun j hj=>by simp[hc j hj])];dsimp only;rw[yS (fun j hj=>by simp[h j hj])]
def Tn(r:pG × Int × Int): AV:= .bJ [jb r.1,I r.2.1,I r.2.2]
def jo{σ : ae}{a b:AV}{cs:List Cell}{xs:List Expr}{n m:Int}(ha:View σ a (nG cs))(hb:View σ b (cH xs)): bn σ [.agg [a,b],I n,I m] [jb ⟨cs,xs⟩,I n,I m] :=
 iU (View.n9 (.cons ha (.cons hb (.nil _))))
def Sb(t:Table)(r:kX)(ht:t.ins.length<=2 ^ 30)(ho:t.outs.length<=2 ^ 30)(ht0:0<t.ins.length)(hr:(r.cells.length<=2 ^ 30/\ ∀ s ∈ r.cells,s.length<=2 ^ 30)/\r.outs.length<=2 ^ 30/\ ∀ s ∈ r.outs,s.length<=2 ^ 30): aF aD 39 [cI t,dN r] (Tn (mT t r)):=by
 obtain⟨⟨hr1,vX⟩,hr3,Ga⟩:=hr;obtain⟨E,hE⟩:∃ E,Tn (mT t r)=E:=⟨_,rfl⟩;rw[hE];have ca:=fun k (h1:k<t.ins.length) (h2:k<r.cells.length)=>U9 t k (r.cells.getD k default) ht h1 (vX _ (aO h2));have ce:=fun k (h1:k<t.outs.length) (h2:k<r.outs.length)=>R_ t k (r.outs.getD k default) ht ho h1 (Ga _ (aO h2));simp only[show ∀ k,P9 t k (r.cells.getD k default)=pJ t r k from fun _=>rfl]at ca;simp only[show ∀ k,wG t k (r.outs.getD k default)=kG t r k from fun _=>rfl]at ce;simp only[cI,eJ,aY,dy,dN,lJ]at ca ce ⊢;by_cases hb:r.cells.length≠t.ins.length\/r.outs.length≠t.outs.length
 ·refine aK zS ?_;intro Q aq au aA;repeat' first|refine ak ?_|refine aj ?_ ?_<;>intro hw<;>try omega|fail
  all_goals first
   | exact aP
   |(rw[<-hE,My hb];exact cN (jo (.ai _) (.ai _)))
 have q1:r.cells.length=t.ins.length:=by omega
 have q2:r.outs.length=t.outs.length:=by omega
 clear hb;refine aK zS ?_;intro Q aq au aA;repeat' first|refine ak ?_|refine aj ?_ ?_<;>intro hw<;>try omega|fail
 all_goals first|exact aP|skip
 with_reducible refine aX [5,6,7,8,9,10,35,36,37,38,39,40,41,42,43,44,45,46,47,48,49,50,51,52,53,54,55,56,57,58] (fun q:Nat × ae=>[(35,I q.1)]) (fun q=>q.2) (fun q=>q.1<=r.cells.length/\(∀ k,k<q.1->(pJ t r k).2=0)/\(q.1=0/\q.2=[.cells [.str t.name,.aG false EC (t.ins.map bW),.aG false EC (t.outs.map bW),I t.bu,I t.agg,.aG false ER (t.rules.map dN)],.cells [.aG false E1 (r.cells.map gf),.aG false E1 (r.outs.map gf)],.cells [.ai,.ai]]\/0<q.1/\ ∃ c1 τ,q.2 = .cells [.str t.name,.aG false EC (t.ins.map bW),.aG false EC (t.outs.map bW),I t.bu,I t.agg,.aG false ER (t.rules.map dN)]:: .cells [.aG false E1 (r.cells.map gf),.aG false E1 (r.outs.map gf)]:: .cells [.own EC 4 q.1 0 q.1,.ai]::c1:: .vec EC ((lM t r q.1).map bY):: τ)) (fun q=>r.cells.length-q.1) (0,_) ⟨fx _,fun k hk=>by omega,.inl ⟨rfl,rfl⟩⟩ rfl ?_ ?_
 ·exact at_
 rintro⟨k,S⟩ rr ⟨h1,h2,h3⟩;dsimp only at h1 h2 h3;rcases h3 with⟨rfl,rfl⟩|⟨hk,c1,τ,rfl⟩
 ·have c:=ca 0 (by omega) (by omega);obtain⟨a,ha⟩:∃ a,pJ t r 0=a:=⟨_,rfl⟩;rw[ha]at c;have gZ:=fun he=>yT q1 q2 (k:=0) (by omega) h2 he;rw[ha]at gZ;have ic:=wH t r 0;rw[ha]at ic;simp only[bY,gG]at c;repeat' first|refine ak ?_|refine cW c ?_|refine aj ?_ ?_<;>intro hw<;>try omega|fail
  ·rw[<-hE,gZ (by assumption)];exact cN (jo (.ai _) (.ai _))
  ·refine⟨(1,[.cells [.str t.name,.aG false EC (t.ins.map bW),.aG false EC (t.outs.map bW),I t.bu,I t.agg,.aG false ER (t.rules.map dN)],.cells [.aG false E1 (r.cells.map gf),.aG false E1 (r.outs.map gf)],.cells [.own EC 4 1 0 1,.ai],.cells [.bool a.1.any,.bool a.1.neg,.aG false ES (a.1.tests.map bS)],.vec EC [.agg [.bool a.1.any,.bool a.1.neg,.aG false ES (a.1.tests.map bS)]]]),?_,?_,?_,bK,at_⟩<;>(try dsimp only)
   ·refine⟨by omega,fun j hj=>?_,.inr ⟨by omega,.cells [.bool a.1.any,.bool a.1.neg,.aG false ES (a.1.tests.map bS)],[],?_⟩⟩
    ·obtain rfl:j=0:=by omega
     rw[ha];assumption
    ·rw[ic];rfl
   ·omega
   all_goals rfl
 ·by_cases vY:k<r.cells.length
  ·have c:=ca k (by omega) (by omega);have gZ:=fun he=>yT q1 q2 (k:=k) (by omega) h2 he;have ic:=wH t r k;obtain⟨a,ha⟩:∃ a,pJ t r k=a:=⟨_,rfl⟩;rw[ha]at c gZ ic;have dM:=vw t r k;have k9:=fun he=>bx (q:=fun j=>(pJ t r j).2=0) h2 he;obtain⟨L,hL⟩:∃ L,lM t r k=L:=⟨_,rfl⟩;rw[hL]at dM ic;simp only[hL]at gZ ⊢;simp only[bY,gG]at c;repeat' first|simp (disch:=omega) only[go_sem,aq,au,aA,dM]|refine ak ?_|refine cW c ?_|refine aj ?_ ?_<;>intro hw<;>try omega|fail
   ·rw[<-hE,gZ (by assumption)];exact cN (jo (View.vec rfl (by simp[dM]) (by simp[dM]) (jf _)) (.ai _))
   ·refine⟨(k+1,.cells [.str t.name,.aG false EC (t.ins.map bW),.aG false EC (t.outs.map bW),I t.bu,I t.agg,.aG false ER (t.rules.map dN)]:: .cells [.aG false E1 (r.cells.map gf),.aG false E1 (r.outs.map gf)]:: .cells [.own EC 4 (k+1) 0 (k+1),.ai]::c1:: .vec EC (L.map bY++[.agg [.bool a.1.any,.bool a.1.neg,.aG false ES (a.1.tests.map bS)]])::(τ++[.cells [.bool a.1.any,.bool a.1.neg,.aG false ES (a.1.tests.map bS)]])),?_,?_,?_,bK,at_⟩<;>(try dsimp only)
    ·refine⟨by omega,k9 (by rw[ha];assumption),.inr ⟨by omega,c1,τ++[.cells [.bool a.1.any,.bool a.1.neg,.aG false ES (a.1.tests.map bS)]],?_⟩⟩;rw[ic,iJ];rfl
    ·omega
    all_goals rfl
  ·have hkn:k=r.cells.length:=by omega
   subst hkn;have dM:=vw t r r.cells.length;have hok:=fun h=>P_ q1 q2 h2 h;have hte:=fun k (hk:k<r.outs.length) h he=>JC q1 q2 h2 (k:=k) hk h he;obtain⟨L,hL⟩:∃ L,lM t r r.cells.length=L:=⟨_,rfl⟩;rw[hL]at dM;simp only[hL]at hok hte ⊢;repeat' first|refine ak ?_|refine aj ?_ ?_<;>intro hw<;>try omega|fail
   with_reducible refine aX [5,6,11,12,13,14,62,63,64,65,66,67,68,69,70,71,72,73,74,75,76,77,78,79,80,81,82,83,84,85,86,87,88,89] (fun q:Nat × ae=>[(62,I q.1)]) (fun q=>q.2) (fun q=>q.1<=r.outs.length/\(∀ k,k<q.1->(kG t r k).2=0)/\(q.1=0/\q.2 = .cells [.str t.name,.aG false EC (t.ins.map bW),.aG false EC (t.outs.map bW),I t.bu,I t.agg,.aG false ER (t.rules.map dN)]:: .cells [.aG false E1 (r.cells.map gf),.aG false E1 (r.outs.map gf)]:: .cells [.own EC 4 r.cells.length 0 r.cells.length,.ai]::c1:: .vec EC (L.map bY):: τ\/0<q.1/\ ∃ p ρ,q.2 = .cells [.str t.name,.aG false EC (t.ins.map bW),.aG false EC (t.outs.map bW),I t.bu,I t.agg,.aG false ER (t.rules.map dN)]:: .cells [.aG false E1 (r.cells.map gf),.aG false E1 (r.outs.map gf)]:: .cells [.own EC 4 r.cells.length 0 r.cells.length,.own EX (p+1+1+1+1+1) q.1 0 q.1]::c1:: .vec EC (L.map bY):: ρ/\ ρ[p]? = some (.vec EX ((oJ t r q.1).map aJ)))) (fun q=>r.outs.length-q.1) (0,_) ⟨fx _,fun k hk=>by omega,.inl ⟨rfl,rfl⟩⟩ rfl ?_ ?_
   ·exact at_
   rintro⟨m,S⟩ rr ⟨g1,g2,g3⟩;dsimp only at g1 g2 g3;rcases g3 with⟨rfl,rfl⟩|⟨hm,p,ρ,rfl,hk⟩
   ·by_cases hml:0<r.outs.length
    ·have c:=ce 0 (by omega) (by omega);have gZ:=fun he=>hte 0 hml g2 he;have ic:=yR t r 0;obtain⟨a,ha⟩:∃ a,kG t r 0=a:=⟨_,rfl⟩;rw[ha]at c gZ ic;rw[aU]at c;try simp only[cH]at c
     repeat' first|simp (disch:=omega) only[go_sem,aq,au,aA,dM]|refine ak ?_|refine cW c ?_|refine aj ?_ ?_<;>intro hw<;>try omega|fail
     ·rw[<-hE,gZ (by assumption)];refine cN (jo (View.vec rfl (by simp[dM]) (by simp[dM]) (jf _)) (.ai _))
     ·refine⟨(1,.cells [.str t.name,.aG false EC (t.ins.map bW),.aG false EC (t.outs.map bW),I t.bu,I t.agg,.aG false ER (t.rules.map dN)]:: .cells [.aG false E1 (r.cells.map gf),.aG false E1 (r.outs.map gf)]:: .cells [.own EC 4 r.cells.length 0 r.cells.length,.own EX (τ.length+1+1+1+1+1+1) 1 0 1]::c1:: .vec EC (L.map bY)::(τ++[.cells [I a.1.op,I a.1.v.kind,I a.1.v.n,.str a.1.v.s,.str a.1.s,.aG false EX (a.1.l.map aJ)]]++[.vec EX [.agg [I a.1.op,I a.1.v.kind,I a.1.v.n,.str a.1.v.s,.str a.1.s,.aG false EX (a.1.l.map aJ)]]])),?_,?_,?_,bK,at_⟩<;>(try dsimp only)
      ·refine⟨by omega,fun j hj=>?_,.inr ⟨by omega,τ.length+1,_,rfl,?_⟩⟩
       ·obtain rfl:j=0:=by omega
        rw[ha];assumption
       ·rw[ic,show ∀ x,[x]=[]++[x] from fun _=>rfl];simp[oJ,aU,cH]
      ·omega
      all_goals first|rfl|(simp[go_sem];done)
    ·repeat' first|simp (disch:=omega) only[go_sem,aq,au,aA,dM]|refine ak ?_|refine aj ?_ ?_<;>intro hw<;>try omega|fail
     rw[<-hE,hok (fun j hj=>by omega)];have h0:r.outs.length=0:=by omega
     rw[h0];exact cN (jo (View.vec rfl (by simp[dM]) (by simp[dM]) (jf _)) (.ai _))
   ·have hlt:=(aQ.1 hk).1;have ni:=HB t r m;have iX:=fun d:bE=>(aV (l₁:= ρ) (l₂:=[d]) hlt).trans hk;by_cases hml:m<r.outs.length
    ·have c:=ce m (by omega) (by omega);have gZ:=fun he=>hte m hml g2 he;have ic:=yR t r m;have k9:=fun he=>bx (q:=fun j=>(kG t r j).2=0) g2 he;have Dh:=fun(d w:bE)=>List.set_append_left (s:= ρ) (t:=[d]) p w hlt;obtain⟨a,ha⟩:∃ a,kG t r m=a:=⟨_,rfl⟩;rw[ha]at c gZ ic;obtain⟨X,hX⟩:∃ X,oJ t r m=X:=⟨_,rfl⟩;rw[hX]at ni ic hk gZ;simp only[hX]at iX;rw[aU]at c;try simp only[cH]at c
     repeat' first|simp (disch:=omega) only[go_sem,aq,au,aA,dM,ni,hk,iX,Dh]|refine ak ?_|refine cW c ?_|refine aj ?_ ?_<;>intro hw<;>try omega|fail
     ·rw[<-hE,gZ (by assumption)];refine cN (jo (View.vec rfl (by simp[dM]) (by simp[dM]) (jf _)) (View.vec (iX _) (by simp[ni]) (by simp[ni]) (vq _)))
     ·refine⟨(m+1,.cells [.str t.name,.aG false EC (t.ins.map bW),.aG false EC (t.outs.map bW),I t.bu,I t.agg,.aG false ER (t.rules.map dN)]:: .cells [.aG false E1 (r.cells.map gf),.aG false E1 (r.outs.map gf)]:: .cells [.own EC 4 r.cells.length 0 r.cells.length,.own EX (p+1+1+1+1+1) (m+1) 0 (m+1)]::c1:: .vec EC (L.map bY)::(ρ.set p (.vec EX (X.map aJ++[.agg [I a.1.op,I a.1.v.kind,I a.1.v.n,.str a.1.v.s,.str a.1.s,.aG false EX (a.1.l.map aJ)]]))++[.cells [I a.1.op,I a.1.v.kind,I a.1.v.n,.str a.1.v.s,.str a.1.s,.aG false EX (a.1.l.map aJ)]])),?_,?_,?_,bK,at_⟩<;>(try dsimp only)
      ·refine⟨by omega,k9 (by rw[ha];assumption),.inr ⟨by omega,p,_,rfl,?_⟩⟩;rw[ic,iJ,aV (by simpa using hlt),fG (by simpa using hlt)];simp[aU,cH]
      ·omega
      all_goals first|rfl|(simp[go_sem];done)
    ·obtain rfl:m=r.outs.length:=by omega
     repeat' first|simp (disch:=omega) only[go_sem,aq,au,aA,dM,ni,hk,iX]|refine ak ?_|refine aj ?_ ?_<;>intro hw<;>try omega|fail
     rw[<-hE,hok g2];exact cN (jo (View.vec rfl (by simp[dM]) (by simp[dM]) (jf _)) (View.vec hk (by simp[ni]) (by simp[ni]) (vq _)))
