/- Part. -/
import Derived.Test.YthakfmmgnjpmdaaGreatDoorW25
set_option linter.all false
set_option maxHeartbeats 4000000
namespace Go.Proofs.YthakfmmgnjpmdaaGreatDoor
open Go.AM
set_option maxRecDepth 4000
def mU(t:Table)(r:iq)(k:Nat): Cell × Int:=Hx t k (r.cells.getD k default)
def jv(t:Table)(r:iq)(k:Nat): Expr × Int:=su t k (r.outs.getD k default)
def kD(t:Table)(r:iq)(n:Nat): List Cell:=(List.range n).map fun k=>(mU t r k).1
def mV(t:Table)(r:iq)(n:Nat): List Expr:=(List.range n).map fun k=>(jv t r k).1
def jw(t:Table)(r:iq): jn × Int × Int :=
 if r.cells.length≠t.ins.length\/r.outs.length≠t.outs.length then(⟨[],[]⟩,0,17)
 else match(List.range r.cells.length).find? (fun k=>(mU t r k).2 != 0)with
 | some k=>(⟨kD t r k,[]⟩,k,(mU t r k).2)
 | none => match (List.range r.outs.length).find? (fun k => (jv t r k).2 != 0) with
   | some k=>(⟨kD t r r.cells.length,mV t r k⟩,t.ins.length+k,(jv t r k).2)
   | none=>(⟨kD t r r.cells.length,mV t r r.outs.length⟩,0,0)
def Jj(t:Table)(r:iq)(n:Nat): kD t r (n+1)=kD t r n++[(mU t r n).1]:=by simp[kD,List.range_succ]
def Mm(t:Table)(r:iq)(n:Nat): mV t r (n+1)=mV t r n++[(jv t r n).1]:=by simp[mV,List.range_succ]
def wo(t:Table)(r:iq)(n:Nat): (kD t r n).length=n:=by simp[kD]
def B9(t:Table)(r:iq)(n:Nat): (mV t r n).length=n:=by simp[mV]
def vv{n i:Nat}{p:Nat->Bool}(hi:i<n)(h:∀ k,k<i->p k=false)(hp:p i=true): (List.range n).find? p=some i:=by
 have:=xH (p:=p) (l:=List.range n) (i:=i) (by simpa using hi) (fun k hk=>by rw[nI (by omega)];exact h k hk) (by rw[nI hi];exact hp);rwa[nI hi]at this
def mJ{n:Nat}{p:Nat->Bool}(h:∀ k,k<n->p k=false): (List.range n).find? p=none :=
 vp (fun k hk=>by rw[List.length_range]at hk;rw[nI hk];exact h k hk)
def Mn{t:Table}{r:iq}(h:r.cells.length≠t.ins.length\/r.outs.length≠t.outs.length): jw t r=(⟨[],[]⟩,0,17):=by
 unfold jw;rw[if_pos h]
def Mp{t:Table}{r:iq}(h1:r.cells.length=t.ins.length)(h2:r.outs.length=t.outs.length){k:Nat}(hk:k<r.cells.length)(h:∀ j,j<k->(mU t r j).2=0)(he:(mU t r k).2≠0): jw t r=((⟨kD t r k,[]⟩:jn),(k:Int),(mU t r k).2):=by
 unfold jw;rw[if_neg (by omega),vv (i:=k) hk (fun j hj=>by simp[h j hj]) (by simp[he])]
def Vo{t:Table}{r:iq}(h1:r.cells.length=t.ins.length)(h2:r.outs.length=t.outs.length)(hc:∀ j,j<r.cells.length->(mU t r j).2=0){k:Nat}(hk:k<r.outs.length)(h:∀ j,j<k->(jv t r j).2=0)(he:(jv t r k).2≠0): jw t r=((⟨kD t r r.cells.length,mV t r k⟩:jn),(t.ins.length:Int)+k,(jv t r k).2):=by
 unfold jw;rw[if_neg (by omega),mJ (fun j hj=>by simp[hc j hj])];dsimp only;rw[vv (i:=k) hk (fun j hj=>by simp[h j hj]) (by simp[he])]
def Hy{t:Table}{r:iq}(h1:r.cells.length=t.ins.length)(h2:r.outs.length=t.outs.length)(hc:∀ j,j<r.cells.length->(mU t r j).2=0)(h:∀ j,j<r.outs.length->(jv t r j).2=0): jw t r=(⟨kD t r r.cells.length,mV t r r.outs.length⟩,0,0):=by
 unfold jw;rw[if_neg (by omega),mJ (fun j hj=>by simp[hc j hj])];dsimp only;rw[mJ (fun j hj=>by simp[h j hj])]
def eLn(r:jn × Int × Int): AV:= .bH [m_ r.1,I r.2.1,I r.2.2]
def vw{σ : ae}{a b:AV}{cs:List Cell}{xs:List Expr}{n m:Int}(ha:View σ a (vZ cs))(hb:View σ b (dQ xs)): bN σ [.agg [a,b],I n,I m] [m_ ⟨cs,xs⟩,I n,I m] :=
 n5 (View.nV (.cons ha (.cons hb (.nil _))))
def RU(t:Table)(r:iq)(ht:t.ins.length<=2 ^ 30)(ho:t.outs.length<=2 ^ 30)(ht0:0<t.ins.length)(hr:(r.cells.length<=2 ^ 30/\ ∀ s ∈ r.cells,s.length<=2 ^ 30)/\r.outs.length<=2 ^ 30/\ ∀ s ∈ r.outs,s.length<=2 ^ 30): aM aH 37 [dP t,ia r] (eLn (jw t r)):=by
 obtain⟨⟨hr1,sS⟩,hr3,hr4⟩:=hr;obtain⟨E,hE⟩:∃ E,eLn (jw t r)=E:=⟨_,rfl⟩;rw[hE];have ca:=fun k (h1:k<t.ins.length) (h2:k<r.cells.length)=>Vn t k (r.cells.getD k default) ht h1 (sS _ (bn h2));have ce:=fun k (h1:k<t.outs.length) (h2:k<r.outs.length)=>RT t k (r.outs.getD k default) ht ho h1 (hr4 _ (bn h2));simp only[show ∀ k,Hx t k (r.cells.getD k default)=mU t r k from fun _=>rfl]at ca;simp only[show ∀ k,su t k (r.outs.getD k default)=jv t r k from fun _=>rfl]at ce;simp only[dP,ic,bV,fj,ia,lC]at ca ce ⊢;by_cases hb:r.cells.length≠t.ins.length\/r.outs.length≠t.outs.length
 ·refine aR Au ?_;intro Q aB aC aD;repeat' first|refine au ?_|refine aq ?_ ?_<;>intro hw<;>try omega|fail
  all_goals first
   | exact a_
   |(rw[<-hE,Mn hb];exact fD (vw (.aA _) (.aA _)))
 have q1:r.cells.length=t.ins.length:=by omega
 have q2:r.outs.length=t.outs.length:=by omega
 clear hb;refine aR Au ?_;intro Q aB aC aD;repeat' first|refine au ?_|refine aq ?_ ?_<;>intro hw<;>try omega|fail
 all_goals first|exact a_|skip
 with_reducible refine bE [5,6,7,8,9,10,35,36,37,38,39,40,41,42,43,44,45,46,47,48,49,50,51,52,53,54,55,56,57,58] (fun q:Nat × ae=>[(35,I q.1)]) (fun q=>q.2) (fun q=>q.1<=r.cells.length/\(∀ k,k<q.1->(mU t r k).2=0)/\(q.1=0/\q.2=[.cells [.str t.name,.aN false EC (t.ins.map ew),.aN false EC (t.outs.map ew),I t.bZ,I t.agg,.aN false ER (t.rules.map ia)],.cells [.aN false E1 (r.cells.map gW),.aN false E1 (r.outs.map gW)],.cells [.aA,.aA]]\/0<q.1/\ ∃ c1 τ,q.2 = .cells [.str t.name,.aN false EC (t.ins.map ew),.aN false EC (t.outs.map ew),I t.bZ,I t.agg,.aN false ER (t.rules.map ia)]:: .cells [.aN false E1 (r.cells.map gW),.aN false E1 (r.outs.map gW)]:: .cells [.own EC 4 q.1 0 q.1,.aA]::c1:: .vec EC ((kD t r q.1).map dG):: τ)) (fun q=>r.cells.length-q.1) (0,_) ⟨bO _,fun k hk=>by omega,.inl ⟨rfl,rfl⟩⟩ rfl ?_ ?_
 ·exact at_
 rintro⟨k,S⟩ rr ⟨h1,h2,h3⟩;dsimp only at h1 h2 h3;rcases h3 with⟨rfl,rfl⟩|⟨hk,c1,τ,rfl⟩
 ·have c:=ca 0 (by omega) (by omega);obtain⟨a,ha⟩:∃ a,mU t r 0=a:=⟨_,rfl⟩;rw[ha]at c;have wq:=fun he=>Mp q1 q2 (k:=0) (by omega) h2 he;rw[ha]at wq;have lJ:=Jj t r 0;rw[ha]at lJ;simp only[dG,jj]at c;repeat' first|refine au ?_|refine eZ c ?_|refine aq ?_ ?_<;>intro hw<;>try omega|fail
  ·rw[<-hE,wq (by assumption)];exact fD (vw (.aA _) (.aA _))
  ·refine⟨(1,[.cells [.str t.name,.aN false EC (t.ins.map ew),.aN false EC (t.outs.map ew),I t.bZ,I t.agg,.aN false ER (t.rules.map ia)],.cells [.aN false E1 (r.cells.map gW),.aN false E1 (r.outs.map gW)],.cells [.own EC 4 1 0 1,.aA],.cells [.bool a.1.any,.bool a.1.neg,.aN false ES (a.1.tests.map dA)],.vec EC [.agg [.bool a.1.any,.bool a.1.neg,.aN false ES (a.1.tests.map dA)]]]),?_,?_,?_,cZ,at_⟩<;>(try dsimp only)
   ·refine⟨by omega,fun j hj=>?_,.inr ⟨by omega,.cells [.bool a.1.any,.bool a.1.neg,.aN false ES (a.1.tests.map dA)],[],?_⟩⟩
    ·obtain rfl:j=0:=by omega
     rw[ha];assumption
    ·rw[lJ];rfl
   ·omega
   all_goals rfl
 ·by_cases Df:k<r.cells.length
  ·have c:=ca k (by omega) (by omega);have wq:=fun he=>Mp q1 q2 (k:=k) (by omega) h2 he;have lJ:=Jj t r k;obtain⟨a,ha⟩:∃ a,mU t r k=a:=⟨_,rfl⟩;rw[ha]at c wq lJ;have iN:=wo t r k;have gG:=fun he=>bQ (q:=fun j=>(mU t r j).2=0) h2 he;obtain⟨L,hL⟩:∃ L,kD t r k=L:=⟨_,rfl⟩;rw[hL]at iN lJ;simp only[hL]at wq ⊢;simp only[dG,jj]at c;repeat' first|simp (disch:=omega) only[go_sem,aB,aC,aD,iN]|refine au ?_|refine eZ c ?_|refine aq ?_ ?_<;>intro hw<;>try omega|fail
   ·rw[<-hE,wq (by assumption)];exact fD (vw (View.vec rfl (by simp[iN]) (by simp[iN]) (s9 _)) (.aA _))
   ·refine⟨(k+1,.cells [.str t.name,.aN false EC (t.ins.map ew),.aN false EC (t.outs.map ew),I t.bZ,I t.agg,.aN false ER (t.rules.map ia)]:: .cells [.aN false E1 (r.cells.map gW),.aN false E1 (r.outs.map gW)]:: .cells [.own EC 4 (k+1) 0 (k+1),.aA]::c1:: .vec EC (L.map dG++[.agg [.bool a.1.any,.bool a.1.neg,.aN false ES (a.1.tests.map dA)]])::(τ++[.cells [.bool a.1.any,.bool a.1.neg,.aN false ES (a.1.tests.map dA)]])),?_,?_,?_,cZ,at_⟩<;>(try dsimp only)
    ·refine⟨by omega,gG (by rw[ha];assumption),.inr ⟨by omega,c1,τ++[.cells [.bool a.1.any,.bool a.1.neg,.aN false ES (a.1.tests.map dA)]],?_⟩⟩;rw[lJ,List.map_append];rfl
    ·omega
    all_goals rfl
  ·have hkn:k=r.cells.length:=by omega
   subst hkn;have iN:=wo t r r.cells.length;have hok:=fun h=>Hy q1 q2 h2 h;have hte:=fun k (hk:k<r.outs.length) h he=>Vo q1 q2 h2 (k:=k) hk h he;obtain⟨L,hL⟩:∃ L,kD t r r.cells.length=L:=⟨_,rfl⟩;rw[hL]at iN;simp only[hL]at hok hte ⊢;repeat' first|refine au ?_|refine aq ?_ ?_<;>intro hw<;>try omega|fail
   with_reducible refine bE [5,6,11,12,13,14,62,63,64,65,66,67,68,69,70,71,72,73,74,75,76,77,78,79,80,81,82,83,84,85,86,87,88,89] (fun q:Nat × ae=>[(62,I q.1)]) (fun q=>q.2) (fun q=>q.1<=r.outs.length/\(∀ k,k<q.1->(jv t r k).2=0)/\(q.1=0/\q.2 = .cells [.str t.name,.aN false EC (t.ins.map ew),.aN false EC (t.outs.map ew),I t.bZ,I t.agg,.aN false ER (t.rules.map ia)]:: .cells [.aN false E1 (r.cells.map gW),.aN false E1 (r.outs.map gW)]:: .cells [.own EC 4 r.cells.length 0 r.cells.length,.aA]::c1:: .vec EC (L.map dG):: τ\/0<q.1/\ ∃ p ρ,q.2 = .cells [.str t.name,.aN false EC (t.ins.map ew),.aN false EC (t.outs.map ew),I t.bZ,I t.agg,.aN false ER (t.rules.map ia)]:: .cells [.aN false E1 (r.cells.map gW),.aN false E1 (r.outs.map gW)]:: .cells [.own EC 4 r.cells.length 0 r.cells.length,.own EX (p+1+1+1+1+1) q.1 0 q.1]::c1:: .vec EC (L.map dG):: ρ/\ ρ[p]? = some (.vec EX ((mV t r q.1).map aT)))) (fun q=>r.outs.length-q.1) (0,_) ⟨bO _,fun k hk=>by omega,.inl ⟨rfl,rfl⟩⟩ rfl ?_ ?_
   ·exact at_
   rintro⟨m,S⟩ rr ⟨g1,g2,g3⟩;dsimp only at g1 g2 g3;rcases g3 with⟨rfl,rfl⟩|⟨hm,p,ρ,rfl,hk⟩
   ·by_cases hml:0<r.outs.length
    ·have c:=ce 0 (by omega) (by omega);have wq:=fun he=>hte 0 hml g2 he;have lJ:=Mm t r 0;obtain⟨a,ha⟩:∃ a,jv t r 0=a:=⟨_,rfl⟩;rw[ha]at c wq lJ;rw[bq]at c;try simp only[dQ]at c
     repeat' first|simp (disch:=omega) only[go_sem,aB,aC,aD,iN]|refine au ?_|refine eZ c ?_|refine aq ?_ ?_<;>intro hw<;>try omega|fail
     ·rw[<-hE,wq (by assumption)];refine fD (vw (View.vec rfl (by simp[iN]) (by simp[iN]) (s9 _)) (.aA _))
     ·refine⟨(1,.cells [.str t.name,.aN false EC (t.ins.map ew),.aN false EC (t.outs.map ew),I t.bZ,I t.agg,.aN false ER (t.rules.map ia)]:: .cells [.aN false E1 (r.cells.map gW),.aN false E1 (r.outs.map gW)]:: .cells [.own EC 4 r.cells.length 0 r.cells.length,.own EX (τ.length+1+1+1+1+1+1) 1 0 1]::c1:: .vec EC (L.map dG)::(τ++[.cells [I a.1.op,I a.1.v.kind,I a.1.v.n,.str a.1.v.s,.str a.1.s,.aN false EX (a.1.l.map aT)]]++[.vec EX [.agg [I a.1.op,I a.1.v.kind,I a.1.v.n,.str a.1.v.s,.str a.1.s,.aN false EX (a.1.l.map aT)]]])),?_,?_,?_,cZ,at_⟩<;>(try dsimp only)
      ·refine⟨by omega,fun j hj=>?_,.inr ⟨by omega,τ.length+1,_,rfl,?_⟩⟩
       ·obtain rfl:j=0:=by omega
        rw[ha];assumption
       ·rw[lJ,show ∀ x,[x]=[]++[x] from fun _=>rfl];simp[mV,bq,dQ]
      ·omega
      all_goals first|rfl|(simp[go_sem];done)
    ·repeat' first|simp (disch:=omega) only[go_sem,aB,aC,aD,iN]|refine au ?_|refine aq ?_ ?_<;>intro hw<;>try omega|fail
     rw[<-hE,hok (fun j hj=>by omega)];have h0:r.outs.length=0:=by omega
     rw[h0];exact fD (vw (View.vec rfl (by simp[iN]) (by simp[iN]) (s9 _)) (.aA _))
   ·have hlt:=(aK.1 hk).1;have Hz:=B9 t r m;have kR:=fun d:bj=>(aJ (l₁:= ρ) (l₂:=[d]) hlt).trans hk;by_cases hml:m<r.outs.length
    ·have c:=ce m (by omega) (by omega);have wq:=fun he=>hte m hml g2 he;have lJ:=Mm t r m;have gG:=fun he=>bQ (q:=fun j=>(jv t r j).2=0) g2 he;have Lu:=fun(d w:bj)=>iO (s:= ρ) (t:=[d]) p w hlt;obtain⟨a,ha⟩:∃ a,jv t r m=a:=⟨_,rfl⟩;rw[ha]at c wq lJ;obtain⟨X,hX⟩:∃ X,mV t r m=X:=⟨_,rfl⟩;rw[hX]at Hz lJ hk wq;simp only[hX]at kR;rw[bq]at c;try simp only[dQ]at c
     repeat' first|simp (disch:=omega) only[go_sem,aB,aC,aD,iN,Hz,hk,kR,Lu]|refine au ?_|refine eZ c ?_|refine aq ?_ ?_<;>intro hw<;>try omega|fail
     ·rw[<-hE,wq (by assumption)];refine fD (vw (View.vec rfl (by simp[iN]) (by simp[iN]) (s9 _)) (View.vec (kR _) (by simp[Hz]) (by simp[Hz]) (Pb _)))
     ·refine⟨(m+1,.cells [.str t.name,.aN false EC (t.ins.map ew),.aN false EC (t.outs.map ew),I t.bZ,I t.agg,.aN false ER (t.rules.map ia)]:: .cells [.aN false E1 (r.cells.map gW),.aN false E1 (r.outs.map gW)]:: .cells [.own EC 4 r.cells.length 0 r.cells.length,.own EX (p+1+1+1+1+1) (m+1) 0 (m+1)]::c1:: .vec EC (L.map dG)::(ρ.set p (.vec EX (X.map aT++[.agg [I a.1.op,I a.1.v.kind,I a.1.v.n,.str a.1.v.s,.str a.1.s,.aN false EX (a.1.l.map aT)]]))++[.cells [I a.1.op,I a.1.v.kind,I a.1.v.n,.str a.1.v.s,.str a.1.s,.aN false EX (a.1.l.map aT)]])),?_,?_,?_,cZ,at_⟩<;>(try dsimp only)
      ·refine⟨by omega,gG (by rw[ha];assumption),.inr ⟨by omega,p,_,rfl,?_⟩⟩;rw[lJ,List.map_append,aJ (by simpa using hlt),List.getElem?_set_self (by simpa using hlt)];simp[bq,dQ]
      ·omega
      all_goals first|rfl|(simp[go_sem];done)
    ·obtain rfl:m=r.outs.length:=by omega
     repeat' first|simp (disch:=omega) only[go_sem,aB,aC,aD,iN,Hz,hk,kR]|refine au ?_|refine aq ?_ ?_<;>intro hw<;>try omega|fail
     rw[<-hE,hok g2];exact fD (vw (View.vec rfl (by simp[iN]) (by simp[iN]) (s9 _)) (View.vec hk (by simp[Hz]) (by simp[Hz]) (Pb _)))
def kg(t:Table)(k:Nat): jn × Int × Int:=jw t (t.rules.getD k default)
def kX(t:Table)(n:Nat): List jn:=(List.range n).map fun k=>(kg t k).1
def Eg: Ready:=⟨⟨[],[],[],0,0,[]⟩,[]⟩
def bS(t:Table): Ready × Int × Int × Int :=
 if jQ t≠0 then(Eg,-1,0,jQ t)
 else match(List.range t.rules.length).find? (fun k=>(kg t k).2.2 != 0)with
 | some k=>(Eg,k,(kg t k).2.1,(kg t k).2.2)
 | none=>(⟨t,kX t t.rules.length⟩,0,0,0)
def X_(r:Ready × Int × Int × Int): AV:= .bH [kZ r.1,I r.2.1,I r.2.2.1,I r.2.2.2]
def Vp(t:Table)(n:Nat): kX t (n+1)=kX t n++[(kg t n).1]:=by simp[kX,List.range_succ]
def tA(t:Table)(n:Nat): (kX t n).length=n:=by simp[kX]
def Gh{t:Table}(h:jQ t≠0): bS t=(Eg,(-1:Int),(0:Int),jQ t):=by unfold bS;rw[if_pos h]
def Vq{t:Table}(h0:jQ t=0){k:Nat}(hk:k<t.rules.length)(h:∀ j,j<k->(kg t j).2.2=0)(he:(kg t k).2.2≠0): bS t=(Eg,(k:Int),(kg t k).2.1,(kg t k).2.2):=by
 unfold bS;rw[if_neg (by omega),vv (i:=k) hk (fun j hj=>by simp[h j hj]) (by simp[he])]
def HA{t:Table}(h0:jQ t=0)(h:∀ j,j<t.rules.length->(kg t j).2.2=0): bS t=((⟨t,kX t t.rules.length⟩:Ready),(0:Int),(0:Int),(0:Int)):=by
 unfold bS;rw[if_neg (by omega),mJ (fun j hj=>by simp[h j hj])]
def Vr{t:Table}(h:jQ t=0): 0<t.ins.length:=by
 unfold jQ at h;split at h
 ·omega
 split at h
 ·omega
 ·rename_i h1 h2;exact(tu (by omega:oB t.ins false=0)).2
def uk{σ : ae}{a E:AV}{n m k:Int}(h:View σ a E): bN σ [a,I n,I m,I k] [E,I n,I m,I k]:= .cons h (.cons (.refl _ rfl) (.cons (.refl _ rfl) (.cons (.refl _ rfl) (.nil _))))
def KL(σ : ae): View σ (.agg [.str [],.aA,.aA,I 0,I 0,.aA,.aA]) (kZ Eg) :=
 View.nV (.cons (.refl _ rfl) (.cons (.aA _) (.cons (.aA _) (.cons (.refl _ rfl) (.cons (.refl _ rfl) (.cons (.aA _) (.cons (.aA _) (.nil _))))))))
def Gi(t:Table)(h:oP t): aM aH 19 [dP t] (X_ (bS t)):=by
 have cf:=PZ t h;obtain⟨E,hE⟩:∃ E,X_ (bS t)=E:=⟨_,rfl⟩;rw[hE];have hl:=fun(h0:0<t.ins.length) k (hk:k<t.rules.length)=>RU t (t.rules.getD k default) h.2.1.1 h.2.2.1.1 h0 (h.2.2.2.2 _ (bn hk));have aiH:=h.2.2.2.1;simp only[dP,ic,bV,fj]at cf hl ⊢;by_cases hf:jQ t≠0
 ·have hm:=Gh hf;obtain⟨f,F5⟩:∃ f,jQ t=f:=⟨_,rfl⟩;rw[F5]at cf hm hf;refine aR Aq ?_;intro Q aB aC aD;repeat' first|refine au ?_|refine aq ?_ ?_<;>intro hw<;>try omega|fail
  all_goals first
   | exact a_
   |(rw[<-hE,hm];exact fD (uk (KL _)))
 have CA:jQ t=0:=by omega
 have hi0:0<t.ins.length:=Vr CA;rw[CA]at cf
 replace hl:=hl hi0
 clear hf;refine aR Aq ?_;intro Q aB aC aD;repeat' first|refine au ?_|refine aq ?_ ?_<;>intro hw<;>try omega|fail
 all_goals first|exact a_|skip
 with_reducible refine bE [3,4,5,8,9,10,11,12,24,25,26,27,28,29,30,31,32,33,34,35,36,37,38,39,40,41,42,43,44,45,46,47,48] (fun q:Nat × ae=>[(24,I q.1)]) (fun q=>q.2) (fun q=>q.1<=t.rules.length/\(∀ k,k<q.1->(kg t k).2.2=0)/\(q.1=0/\q.2=[.cells [.str t.name,.aN false EC (t.ins.map ew),.aN false EC (t.outs.map ew),I t.bZ,I t.agg,.aN false ER (t.rules.map ia)],.cells [.str [],.aA,.aA,I 0,I 0,.aA,.aA],.cells [.str t.name,.aN false EC (t.ins.map ew),.aN false EC (t.outs.map ew),I t.bZ,I t.agg,.aN false ER (t.rules.map ia),.aA]]\/0<q.1/\ ∃ b1 b2 τ,q.2 = .cells [.str t.name,.aN false EC (t.ins.map ew),.aN false EC (t.outs.map ew),I t.bZ,I t.agg,.aN false ER (t.rules.map ia)]:: .cells [.str [],.aA,.aA,I 0,I 0,.aA,.aA]:: .cells [.str t.name,.aN false EC (t.ins.map ew),.aN false EC (t.outs.map ew),I t.bZ,I t.agg,.aN false ER (t.rules.map ia),.own ER 5 q.1 0 q.1]::b1::b2:: .vec ER ((kX t q.1).map m_):: τ)) (fun q=>t.rules.length-q.1) (0,_) ⟨bO _,fun k hk=>by omega,.inl ⟨rfl,rfl⟩⟩ rfl ?_ ?_
 ·exact at_
 rintro⟨k,S⟩ rr ⟨h1,h2,h3⟩;dsimp only at h1 h2 h3;by_cases Df:k<t.rules.length
 ·have c:=hl k Df;have wq:=fun he=>Vq CA Df h2 he;have lJ:=Vp t k;have iN:=tA t k;have gG:=fun he=>bQ (q:=fun j=>(kg t j).2.2=0) h2 he;have hlr:kg t k=jw t (t.rules.getD k default):=rfl;obtain⟨a,ha⟩:∃ a,kg t k=a:=⟨_,rfl⟩;rw[ha]at wq lJ gG hlr;rw[<-hlr]at c;obtain⟨ru,Mq⟩:∃ ru,t.rules.getD k default=ru:=⟨_,rfl⟩;rw[Mq]at c;clear hlr;simp only[eLn,m_,vZ,dQ,ia,lC]at c;rcases h3 with⟨rfl,rfl⟩|⟨hk,b1,b2,τ,rfl⟩
  ·repeat' first|simp (disch:=omega) only[go_sem,aB,aC,aD,Mq]|refine au ?_|refine eZ c ?_|refine aq ?_ ?_<;>intro hw<;>try omega|fail
   ·rw[<-hE,wq (by assumption)];exact fD (uk (KL _))
   ·refine⟨(1,[.cells [.str t.name,.aN false EC (t.ins.map ew),.aN false EC (t.outs.map ew),I t.bZ,I t.agg,.aN false ER (t.rules.map ia)],.cells [.str [],.aA,.aA,I 0,I 0,.aA,.aA],.cells [.str t.name,.aN false EC (t.ins.map ew),.aN false EC (t.outs.map ew),I t.bZ,I t.agg,.aN false ER (t.rules.map ia),.own ER 5 1 0 1],.cells [.aN false E1 (ru.cells.map gW),.aN false E1 (ru.outs.map gW)],.cells [.aN false EC (a.1.cells.map dG),.aN false EX (a.1.outs.map aT)],.vec ER [.agg [.aN false EC (a.1.cells.map dG),.aN false EX (a.1.outs.map aT)]]]),?_,?_,?_,cZ,at_⟩<;>(try dsimp only)
    ·refine⟨by omega,gG (by assumption),.inr ⟨by omega,.cells [.aN false E1 (ru.cells.map gW),.aN false E1 (ru.outs.map gW)],.cells [.aN false EC (a.1.cells.map dG),.aN false EX (a.1.outs.map aT)],[],?_⟩⟩;rw[lJ];rfl
    ·omega
    all_goals first|rfl|(simp[go_sem];done)
  ·obtain⟨L,hL⟩:∃ L,kX t k=L:=⟨_,rfl⟩;rw[hL]at iN lJ;simp only[hL];repeat' first|simp (disch:=omega) only[go_sem,aB,aC,aD,Mq,iN]|refine au ?_|refine eZ c ?_|refine aq ?_ ?_<;>intro hw<;>try omega|fail
   ·rw[<-hE,wq (by assumption)];exact fD (uk (KL _))
   ·refine⟨(k+1,.cells [.str t.name,.aN false EC (t.ins.map ew),.aN false EC (t.outs.map ew),I t.bZ,I t.agg,.aN false ER (t.rules.map ia)]:: .cells [.str [],.aA,.aA,I 0,I 0,.aA,.aA]:: .cells [.str t.name,.aN false EC (t.ins.map ew),.aN false EC (t.outs.map ew),I t.bZ,I t.agg,.aN false ER (t.rules.map ia),.own ER 5 (k+1) 0 (k+1)]::b1::b2:: .vec ER (L.map m_++[.agg [.aN false EC (a.1.cells.map dG),.aN false EX (a.1.outs.map aT)]])::(τ++[.cells [.aN false E1 (ru.cells.map gW),.aN false E1 (ru.outs.map gW)]]++[.cells [.aN false EC (a.1.cells.map dG),.aN false EX (a.1.outs.map aT)]])),?_,?_,?_,cZ,at_⟩<;>(try dsimp only)
    ·refine⟨by omega,gG (by assumption),.inr ⟨by omega,b1,b2,τ++[.cells [.aN false E1 (ru.cells.map gW),.aN false E1 (ru.outs.map gW)]]++[.cells [.aN false EC (a.1.cells.map dG),.aN false EX (a.1.outs.map aT)]],?_⟩⟩;rw[lJ,List.map_append];(first|rfl|(simp[m_,vZ,dQ];done))
    ·omega
    all_goals first|rfl|(simp[go_sem];done)
 ·obtain rfl:k=t.rules.length:=by omega
  have hok:=HA CA h2;rcases h3 with⟨h0,rfl⟩|⟨hk,b1,b2,τ,rfl⟩
  ·repeat' first|refine au ?_|refine aq ?_ ?_<;>intro hw<;>try omega|fail
   rw[<-hE,hok,h0];exact fD (uk (View.nV (.cons (.refl _ rfl) (.cons (.refl _ (kz _)) (.cons (.refl _ (kz _)) (.cons (.refl _ rfl) (.cons (.refl _ rfl) (.cons (.refl _ (xo _)) (.cons (.aA _) (.nil _))))))))))
  ·have iN:=tA t t.rules.length;obtain⟨L,hL⟩:∃ L,kX t t.rules.length=L:=⟨_,rfl⟩;rw[hL]at iN hok;simp only[hL];repeat' first|simp (disch:=omega) only[go_sem,aB,aC,aD,iN]|refine au ?_|refine aq ?_ ?_<;>intro hw<;>try omega|fail
   rw[<-hE,hok];exact fD (uk (View.nV (.cons (.refl _ rfl) (.cons (.refl _ (kz _)) (.cons (.refl _ (kz _)) (.cons (.refl _ rfl) (.cons (.refl _ rfl) (.cons (.refl _ (xo _)) (.cons (View.vec rfl (by simp[iN]) (by simp[iN]) (L6 _)) (.nil _))))))))))
def jY(l:jn)(m:Nat): aO × Int:=n8 (l.cells.getD m default)
def my(l:jn)(m:Nat): aO × Int:=nK (l.outs.getD m default)
def bM(l:jn)(n:Nat): List aO:=(List.range n).map fun m=>(jY l m).1
def mz(l:jn)(n:Nat): List aO:=(List.range n).map fun m=>(my l m).1
def RV(l:jn)(n:Nat): bM l (n+1)=bM l n++[(jY l n).1]:=by simp[bM,List.range_succ]
def Vs(l:jn)(n:Nat): mz l (n+1)=mz l n++[(my l n).1]:=by simp[mz,List.range_succ]
def um(l:jn)(n:Nat): (bM l n).length=n:=by simp[bM]
def wu(l:jn)(n:Nat): (mz l n).length=n:=by simp[mz]
def sK(w:Nat)(l:jn): iq × Int × Int :=
 match(List.range l.cells.length).find? (fun m=>(jY l m).2 != 0)with
 | some m=>(⟨bM l l.cells.length,mz l l.outs.length⟩,m,(jY l m).2)
 | none => match (List.range l.outs.length).find? (fun m => (my l m).2 != 0) with
   | some m=>(⟨bM l l.cells.length,mz l l.outs.length⟩,w+m,(my l m).2)
   | none=>(⟨bM l l.cells.length,mz l l.outs.length⟩,0,0)
def AW: Table:=⟨[],[],[],0,0,[]⟩
def vK(t:Table)(n:Nat): jn:=(bS t).1.lines.getD n default
def mW(t:Table)(n:Nat): iq × Int × Int:=sK t.ins.length (vK t n)
def kE(t:Table)(n:Nat): List iq:=(List.range n).map fun k=>(mW t k).1
def iy(t:Table): Table × Int × Int × Int :=
 if(bS t).2.2.2≠0 then(AW,(bS t).2.1,(bS t).2.2.1,(bS t).2.2.2)
 else match(List.range (bS t).1.lines.length).find? (fun n=>(mW t n).2.2 != 0)with
 | some n=>(AW,n,(mW t n).2.1,(mW t n).2.2)
 | none=>({ t with rules:=kE t (bS t).1.lines.length },0,0,0)
def eT4(r:Table × Int × Int × Int): AV:= .bH [dP r.1,I r.2.1,I r.2.2.1,I r.2.2.2]
def Vt(t:Table)(n:Nat): kE t (n+1)=kE t n++[(mW t n).1]:=by simp[kE,List.range_succ]
def qO(t:Table)(n:Nat): (kE t n).length=n:=by simp[kE]
def P2(w:Nat)(l:jn): (sK w l).1=⟨bM l l.cells.length,mz l l.outs.length⟩:=by
 unfold sK;split
 ·rfl
 ·split<;>rfl
def Ya(w:Nat){l:jn}{m:Nat}(hm:m<l.cells.length)(h:∀ j,j<m->(jY l j).2=0)(he:(jY l m).2≠0): (sK w l).2=((m:Int),(jY l m).2):=by
 unfold sK;rw[vv (i:=m) hm (fun j hj=>by simp[h j hj]) (by simp[he])]
def aaH(w:Nat){l:jn}(hc:∀ j,j<l.cells.length->(jY l j).2=0){m:Nat}(hm:m<l.outs.length)(h:∀ j,j<m->(my l j).2=0)(he:(my l m).2≠0): (sK w l).2=((w:Int)+m,(my l m).2):=by
 unfold sK;rw[mJ (fun j hj=>by simp[hc j hj])];dsimp only;rw[vv (i:=m) hm (fun j hj=>by simp[h j hj]) (by simp[he])]
def adi(w:Nat){l:jn}(hc:∀ j,j<l.cells.length->(jY l j).2=0)(h:∀ j,j<l.outs.length->(my l j).2=0): (sK w l).2=(0,0):=by
 unfold sK;rw[mJ (fun j hj=>by simp[hc j hj])];dsimp only;rw[mJ (fun j hj=>by simp[h j hj])]
def zU{t:Table}(h:(bS t).2.2.2≠0): iy t=(AW,(bS t).2.1,(bS t).2.2.1,(bS t).2.2.2):=by unfold iy;rw[if_pos h]
def Vu{t:Table}(h0:(bS t).2.2.2=0){n:Nat}(hn:n<(bS t).1.lines.length)(h:∀ j,j<n->(mW t j).2.2=0)(he:(mW t n).2.2≠0): iy t=(AW,(n:Int),(mW t n).2.1,(mW t n).2.2):=by
 unfold iy;rw[if_neg (by omega),vv (i:=n) hn (fun j hj=>by simp[h j hj]) (by simp[he])]
def Eh{t:Table}(h0:(bS t).2.2.2=0)(h:∀ j,j<(bS t).1.lines.length->(mW t j).2.2=0): iy t=({ t with rules:=kE t (bS t).1.lines.length },0,0,0):=by
 unfold iy;rw[if_neg (by omega),mJ (fun j hj=>by simp[h j hj])]
def Yb(l:jn): Prop:=(l.cells.length<=2 ^ 30/\ ∀ c ∈ l.cells,oA c)/\l.outs.length<=2 ^ 30/\ ∀ x ∈ l.outs,ig x/\fW x<=2 ^ 30
def xx{t:Table}(h:(bS t).2.2.2=0): jQ t=0/\(∀ j,j<t.rules.length->(kg t j).2.2=0)/\bS t=((⟨t,kX t t.rules.length⟩:Ready),(0:Int),(0:Int),(0:Int)):=by
 by_cases hf:jQ t=0
 ·have hl : ∀ j, j < t.rules.length -> (kg t j).2.2 = 0 := by
   cases hq:(List.range t.rules.length).find? (fun k=>(kg t k).2.2 != 0)with
   | some k =>
     exfalso;unfold bS at h;rw[if_neg (by omega),hq]at h;have:=eG hq;simp at this;exact this h
   | none =>
     intro j hj;have:=d_.1 hq j (cV.2 hj);simpa using this
  exact⟨hf,hl,HA hf hl⟩
 ·rw[Gh hf]at h;exact absurd h hf
def Yc(t:Table)(r:iq)(h1:t.ins.length<=2 ^ 30)(h2:t.outs.length<=2 ^ 30)(hr:r.cells.length<=2 ^ 30)(ho:r.outs.length<=2 ^ 30): Yb (jw t r).1:=by
 have hc:∀ n,n<=2 ^ 30->(kD t r n).length<=2 ^ 30/\ ∀ c ∈ kD t r n,oA c:=fun n hn=>by
  refine⟨by rw[wo];exact hn,fun c hc=>?_⟩;obtain⟨k,_,rfl⟩:=dW.1 hc;exact B8 _
 have hx:∀ n,n<=2 ^ 30->(mV t r n).length<=2 ^ 30/\ ∀ x ∈ mV t r n,ig x/\fW x<=2 ^ 30:=fun n hn=>by
  refine⟨by rw[B9];exact hn,fun x hx=>?_⟩;obtain⟨k,_,rfl⟩:=dW.1 hx;exact wm _
 have hk:∀ {n k:Nat} {p:Nat->Bool},(List.range n).find? p=some k->k<n:=fun h=>cV.1 (f_ h);unfold jw;split
 ·exact⟨⟨by simp,by simp⟩,by simp,by simp⟩
 split
 ·rename_i k hq;have:=hk hq;exact⟨hc _ (by omega),by simp,by simp⟩
 split
 ·rename_i k hq;have:=hk hq;exact⟨hc _ hr,hx _ (by omega)⟩
 ·exact⟨hc _ hr,hx _ ho⟩
def Gj{t:Table}(h:oP t)(h0:(bS t).2.2.2=0): (bS t).1.lines.length=t.rules.length/\ ∀ n,Yb (vK t n):=by
 obtain⟨_,_,hm⟩:=xx h0;refine⟨by rw[hm];exact tA _ _,fun n=>?_⟩;unfold vK;rw[hm];dsimp only;by_cases hn:n<t.rules.length
 ·have : (kX t t.rules.length).getD n default = (kg t n).1 := by
   unfold kX;rw[ai,g_,List.getElem?_range hn];rfl
  rw[this];have hr:=h.2.2.2.2 _ (bn hn);exact Yc t _ h.2.1.1 h.2.2.1.1 hr.1.1 hr.2.1
 ·rw[qE (by rw[tA];omega)];exact⟨⟨Nat.zero_le _,fun c hc=>by cases hc⟩,Nat.zero_le _,fun c hc=>by cases hc⟩
def uS(L:Nat)(S:ae)(v:AV)(xs:List aO): Prop:=(xs=[]/\v = .aA)\/(xs≠[]/\ ∃ q,L<=q/\v = .own E1 q xs.length 0 xs.length/\S[q]? = some (.vec E1 (xs.map gW)))
def uS.nil(L:Nat)(S:ae): uS L S .aA []:= .inl ⟨rfl,rfl⟩
def uS.scalar{L:Nat}{S:ae}{v:AV}{xs:List aO}(h:uS L S v xs): v.scalar=true:=by
 rcases h with⟨_,rfl⟩|⟨_,q,_,rfl,_⟩<;>rfl
def uS.view{L:Nat}{S:ae}{v:AV}{xs:List aO}(h:uS L S v xs): View S v (lC xs):=by
 rcases h with⟨rfl,rfl⟩|⟨_,q,_,rfl,hq⟩
 ·exact View.aA _
 ·exact View.vec hq (by simp) (by simp) (Pd _)
def uS.keep{L L':Nat}{S S':ae}{v:AV}{xs:List aO}(hL:L'<=L)(hs:∀ (q:Nat) (ys:List AV),L<=q->S[q]? = some (.vec E1 ys)->S'[q]? = some (.vec E1 ys))(h:uS L S v xs): uS L' S' v xs:=by
 rcases h with h|⟨h1,q,h2,h3,h4⟩
 ·exact .inl h
 ·exact .inr ⟨h1,q,bW hL h2,h3,hs _ _ h2 h4⟩
def aaI(S:ae)(a:AV)(r:iq): Prop:= ∃ v w,a = .agg [v,w]/\uS 0 S v r.cells/\uS 0 S w r.outs
def nL(S:ae)(rs:List AV)(l:List iq): Prop:=rs.length=l.length/\ ∀ j,j<l.length->aaI S (rs.getD j .undef) (l.getD j default)
def nL.nil(S:ae): nL S [] []:=⟨rfl,fun j hj=>by cases hj⟩
def nL.keep{S S':ae}{rs:List AV}{l:List iq}(hs:∀ (q:Nat) (ys:List AV),S[q]? = some (.vec E1 ys)->S'[q]? = some (.vec E1 ys))(h:nL S rs l): nL S' rs l:=by
 refine⟨h.1,fun j hj=>?_⟩;obtain⟨v,w,h1,h2,h3⟩:=h.2 j hj;exact⟨v,w,h1,h2.keep (Nat.le_refl _) (fun q ys _=>hs q ys),h3.keep (Nat.le_refl _) (fun q ys _=>hs q ys)⟩
def nL.snoc{S:ae}{rs:List AV}{l:List iq}{a:AV}{r:iq}(h:nL S rs l)(ha:aaI S a r): nL S (rs++[a]) (l++[r]):=by
 refine⟨by simp[h.1],fun j hj=>?_⟩;have hl:=h.1;rw[List.length_append,List.length_cons,List.length_nil]at hj;by_cases rD:j<l.length
 ·rw[ai,ai,aJ (by omega),aJ rD,<-ai,<-ai];exact h.2 j rD
 ·obtain rfl:j=l.length:=by omega
  rw[ai,ai,<-hl,bp (Nat.le_refl _),hl,bp (Nat.le_refl _)];simpa using ha
def nL.view{S:ae}{rs:List AV}{l:List iq}(h:nL S rs l): bN S rs (l.map ia):=by
 refine⟨by simp[h.1],fun j hj=>?_⟩;have hl:=h.1;obtain⟨v,w,h1,h2,h3⟩:=h.2 j (by omega);rw[h1,getD_map _ _ _ (by omega)];exact View.nV (.cons h2.view (.cons h3.view (.nil _)))
def yy(L:Nat)(S:ae)(v:AV)(l:List iq): Prop:=(l=[]/\v = .aA)\/(l≠[]/\ ∃ q rs,L<=q/\v = .own ER q l.length 0 l.length/\S[q]? = some (.vec ER rs)/\nL S rs l)
def yy.nil(L:Nat)(S:ae): yy L S .aA []:= .inl ⟨rfl,rfl⟩
def yy.view{L:Nat}{S:ae}{v:AV}{l:List iq}(h:yy L S v l): View S v (fj l):=by
 rcases h with⟨rfl,rfl⟩|⟨_,q,rs,_,rfl,hq,hr⟩
 ·exact View.aA _
 ·exact View.aiq hq hr.1.symm hr.1.symm hr.view
def yy.scalar{L:Nat}{S:ae}{v:AV}{l:List iq}(h:yy L S v l): v.scalar=true:=by
 rcases h with⟨_,rfl⟩|⟨_,q,_,_,rfl,_⟩<;>rfl
def yy.keep{L:Nat}{S S':ae}{v:AV}{l:List iq}(hs:∀ (q:Nat) (o:bj),S[q]? = some o->(∀ cs,o≠ .cells cs)->S'[q]? = some o)(h:yy L S v l): yy L S' v l:=by
 rcases h with h|⟨h1,q,rs,h2,h3,h4,h5⟩
 ·exact .inl h
 ·exact .inr ⟨h1,q,rs,h2,h3,hs _ _ h4 (fun cs=>by simp),h5.keep (fun q ys hq=>hs q _ hq (fun cs=>by simp))⟩
def AY(σ : ae): View σ (.agg [.str [],.aA,.aA,I 0,I 0,.aA]) (dP AW) :=
 View.nV (.cons (.refl _ rfl) (.cons (.aA _) (.cons (.aA _) (.cons (.refl _ rfl) (.cons (.refl _ rfl) (.cons (.aA _) (.nil _)))))))
abbrev P3(t:Table)(v:AV): bj:= .cells [.str t.name,.aN false EC (t.ins.map ew),.aN false EC (t.outs.map ew),I t.bZ,I t.agg,v]
abbrev aiI(t:Table)(ls:List jn): bj:= .cells [.str t.name,.aN false EC (t.ins.map ew),.aN false EC (t.outs.map ew),I t.bZ,I t.agg,.aN false ER (t.rules.map ia),.aN false ER (ls.map m_)]
def P4{S1:ae}{L k:Nat}{c:bj}{s:aO}(hL:L<=S1.length)(hk:k<S1.length): uS L ((S1++[bj.vec E1 [.str s]]).set k c) (.own E1 S1.length 1 0 1) [s] :=
 .inr ⟨by simp,S1.length,hL,rfl,by rw[aI (by omega)];simp[gW]⟩
def Tk{S1:ae}{L k q:Nat}{c:bj}{s:aO}{xs:List aO}(hq:S1[q]? = some (.vec E1 (xs.map gW)))(hL:L<=q)(hk:k≠q): uS L ((S1.set q (.vec E1 (xs.map gW++[.str s]))).set k c) (.own E1 q (xs.length+1) 0 (xs.length+1)) (xs++[s]) :=
 .inr ⟨by simp,q,hL,by simp,by rw[aI hk,List.getElem?_set_self (ju hq)];simp[gW]⟩
def lE{S1:ae}{k:Nat}{c d:bj}(j:Nat)(o:bj)(hj:S1[j]? = some o)(hne:j≠k): ((S1++[d]).set k c)[j]? = some o:=by
 rw[aI (Ne.symm hne),aJ (ju hj)];exact hj
def mK{S1:ae}{k q:Nat}{c d:bj}(j:Nat)(o:bj)(hj:S1[j]? = some o)(hne:j≠k)(hq:j≠q): ((S1.set q d).set k c)[j]? = some o:=by
 rw[aI (Ne.symm hne),aI (Ne.symm hq)];exact hj
def agG{σ : ae}{k:Nat}{w:AV}(h : σ[k]? = some (.cells [.aA,w]))(s:aO)(e:Int): dZ aH 25 [.ref k 0,.str s,I e] σ fun o σ'=>o = .ret (.bool (e==0))/\σ'=(σ++[bj.vec E1 [.str s]]).set k (.cells [.own E1 σ.length 1 0 1,w]):=by
 have h2:∀ d:bj,(σ++[d])[k]? = some (.cells [.aA,w]):=fun d=>by rw[aJ (ju h)];exact h
 refine nZ.go ?_;unfold dO;intro Q aB aC aD;repeat' first|simp (disch:=omega) only[go_sem,aB,aC,aD,h,h2]|refine au ?_|refine aq ?_ ?_<;>intro hw<;>try omega|fail
 exact⟨rfl,by trivial⟩
def agH{σ : ae}{k:Nat}{w:AV}(h : σ[k]? = some (.cells [w,.aA]))(s:aO)(e:Int): dZ aH 25 [.ref k 1,.str s,I e] σ fun o σ'=>o = .ret (.bool (e==0))/\σ'=(σ++[bj.vec E1 [.str s]]).set k (.cells [w,.own E1 σ.length 1 0 1]):=by
 have h2:∀ d:bj,(σ++[d])[k]? = some (.cells [w,.aA]):=fun d=>by rw[aJ (ju h)];exact h
 refine nZ.go ?_;unfold dO;intro Q aB aC aD;repeat' first|simp (disch:=omega) only[go_sem,aB,aC,aD,h,h2]|refine au ?_|refine aq ?_ ?_<;>intro hw<;>try omega|fail
 exact⟨rfl,by trivial⟩
def agI{σ : ae}{k q:Nat}{xs:List aO}{w:AV}(h : σ[k]? = some (.cells [.own E1 q xs.length 0 xs.length,w]))(hq : σ[q]? = some (.vec E1 (xs.map gW)))(hne:q≠k)(hl:xs.length<=2 ^ 30)(s:aO)(e:Int): dZ aH 25 [.ref k 0,.str s,I e] σ fun o σ'=>o = .ret (.bool (e==0))/\σ'=(σ.set q (.vec E1 (xs.map gW++[.str s]))).set k (.cells [.own E1 q (xs.length+1) 0 (xs.length+1),w]):=by
 have h2:∀ d:bj,(σ.set q d)[k]? = some (.cells [.own E1 q xs.length 0 xs.length,w]):=fun d=>by rw[aI hne];exact h
 refine nZ.go ?_;unfold dO;intro Q aB aC aD;repeat' first|simp (disch:=omega) only[go_sem,aB,aC,aD,h,h2,hq]|refine au ?_|refine aq ?_ ?_<;>intro hw<;>try omega|fail
 exact⟨rfl,by trivial⟩
def agJ{σ : ae}{k q:Nat}{xs:List aO}{w:AV}(h : σ[k]? = some (.cells [w,.own E1 q xs.length 0 xs.length]))(hq : σ[q]? = some (.vec E1 (xs.map gW)))(hne:q≠k)(hl:xs.length<=2 ^ 30)(s:aO)(e:Int): dZ aH 25 [.ref k 1,.str s,I e] σ fun o σ'=>o = .ret (.bool (e==0))/\σ'=(σ.set q (.vec E1 (xs.map gW++[.str s]))).set k (.cells [w,.own E1 q (xs.length+1) 0 (xs.length+1)]):=by
 have h2:∀ d:bj,(σ.set q d)[k]? = some (.cells [w,.own E1 q xs.length 0 xs.length]):=fun d=>by rw[aI hne];exact h
 refine nZ.go ?_;unfold dO;intro Q aB aC aD;repeat' first|simp (disch:=omega) only[go_sem,aB,aC,aD,h,h2,hq]|refine au ?_|refine aq ?_ ?_<;>intro hw<;>try omega|fail
 exact⟨rfl,by trivial⟩
def gD{S:ae}{j:Nat}{o:bj}(h:S[j]? = some o)(d:bj): (S++[d])[j]? = some o:=by rw[aJ (ju h)];exact h
def P5{S:ae}{j k:Nat}{o:bj}(h:S[j]? = some o)(hne:j≠k)(d:bj): (S.set k d)[j]? = some o:=by rw[aI (Ne.symm hne)];exact h
