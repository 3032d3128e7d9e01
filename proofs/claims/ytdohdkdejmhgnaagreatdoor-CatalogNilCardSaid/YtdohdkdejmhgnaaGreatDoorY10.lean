/- Part. -/
import Derived.Test.YtdohdkdejmhgnaaGreatDoorY09
import Derived.WalkKit
import Derived.ProofKit
import Derived.OpenShut
import Derived.ReadAgain
import Derived.Deep.SlicePairs
import Derived.Test.YtdohdkdejmhgnaaGreatDoorRows
import Derived.SevenTiedAt
import Derived.LaidLaws
import Derived.LaidHandle
import Derived.Lib.LaidTab
set_option linter.all false
set_option maxHeartbeats 8000000
namespace Go.Proofs.YtdohdkdejmhgnaaGreatDoor
open Go.AM
set_option maxRecDepth 4000
def pX(t:Table)(r:gX)(k:Nat): Cell × Int:=PE t k (r.cells.getD k default)
def nD(t:Table)(r:gX)(k:Nat): Expr × Int:=JB t k (r.outs.getD k default)
def mQ(t:Table)(r:gX)(n:Nat): List Cell:=(List.range n).map fun k=>(pX t r k).1
def rD(t:Table)(r:gX)(n:Nat): List Expr:=(List.range n).map fun k=>(nD t r k).1
def mw(t:Table)(r:gX): kP × Int × Int :=
 if r.cells.length≠t.ins.length\/r.outs.length≠t.outs.length then(⟨[],[]⟩,0,17)
 else match(List.range r.cells.length).find? (fun k=>(pX t r k).2 != 0)with
 | some k=>(⟨mQ t r k,[]⟩,k,(pX t r k).2)
 | none => match (List.range r.outs.length).find? (fun k => (nD t r k).2 != 0) with
   | some k=>(⟨mQ t r r.cells.length,rD t r k⟩,t.ins.length+k,(nD t r k).2)
   | none=>(⟨mQ t r r.cells.length,rD t r r.outs.length⟩,0,0)
def JC(t:Table)(r:gX)(n:Nat): mQ t r (n+1)=mQ t r n++[(pX t r n).1]:=by simp[mQ,List.range_succ]
def MC(t:Table)(r:gX)(n:Nat): rD t r (n+1)=rD t r n++[(nD t r n).1]:=by simp[rD,List.range_succ]
def EA(t:Table)(r:gX)(n:Nat): (mQ t r n).length=n:=by simp[mQ]
def PG(t:Table)(r:gX)(n:Nat): (rD t r n).length=n:=by simp[rD]
def tP{n i:Nat}{p:Nat->Bool}(hi:i<n)(h:∀ k,k<i->p k=false)(hp:p i=true): (List.range n).find? p=some i:=by
 have:=Au (p:=p) (l:=List.range n) (i:=i) (by simpa using hi) (fun k hk=>by rw[mO ae];exact h k hk) (by rw[mO hi];exact hp);rwa[mO hi]at this
def mR{n:Nat}{p:Nat->Bool}(h:∀ k,k<n->p k=false): (List.range n).find? p=none :=
 xw (fun k hk=>by rw[List.length_range]at hk;rw[mO hk];exact h k hk)
def MD{t:Table}{r:gX}(h:r.cells.length≠t.ins.length\/r.outs.length≠t.outs.length): mw t r=(⟨[],[]⟩,0,17):=by
 unfold mw;rw[if_pos h]
def ME{t:Table}{r:gX}(h1:r.cells.length=t.ins.length)(h2:r.outs.length=t.outs.length){k:Nat}(hk:k<r.cells.length)(h:∀ j,j<k->(pX t r j).2=0)(he:(pX t r k).2≠0): mw t r=((⟨mQ t r k,[]⟩:kP),(k:Int),(pX t r k).2):=by
 unfold mw;rw[aq ae,tP (i:=k) hk (fun j hj=>by simp[h j hj]) (by simp[he])]
def UB{t:Table}{r:gX}(h1:r.cells.length=t.ins.length)(h2:r.outs.length=t.outs.length)(hc:∀ j,j<r.cells.length->(pX t r j).2=0){k:Nat}(hk:k<r.outs.length)(h:∀ j,j<k->(nD t r j).2=0)(he:(nD t r k).2≠0): mw t r=((⟨mQ t r r.cells.length,rD t r k⟩:kP),(t.ins.length:Int)+k,(nD t r k).2):=by
 unfold mw;rw[aq ae,mR (fun j hj=>by simp[hc j hj])];dsimp only;rw[tP (i:=k) hk (fun j hj=>by simp[h j hj]) (by simp[he])]
def PI{t:Table}{r:gX}(h1:r.cells.length=t.ins.length)(h2:r.outs.length=t.outs.length)(hc:∀ j,j<r.cells.length->(pX t r j).2=0)(h:∀ j,j<r.outs.length->(nD t r j).2=0): mw t r=(⟨mQ t r r.cells.length,rD t r r.outs.length⟩,0,0):=by
 unfold mw;rw[aq ae,mR (fun j hj=>by simp[hc j hj])];dsimp only;rw[mR (fun j hj=>by simp[h j hj])]
def eLn(r:kP × Int × Int): AV:= .bg [ov r.1,I r.2.1,I r.2.2]
def tQ{σ : ai}{a b:AV}{cs:List Cell}{xs:List Expr}{n m:Int}(ha:View σ a (qP cs))(hb:View σ b (dG xs)): bR σ [.agg [a,b],I n,I m] [ov ⟨cs,xs⟩,I n,I m] :=
 nB (View.r_ (.cons ha (.cons hb (.nil _))))
def Rt(t:Table)(r:gX)(ht:t.ins.length<=2^30)(ho:t.outs.length<=2^30)(ht0:0<t.ins.length)(hr:(r.cells.length<=2^30/\ ∀ s ∈ r.cells,s.length<=2^30)/\r.outs.length<=2^30/\ ∀ s ∈ r.outs,s.length<=2^30): aA aM 181 [fV t,gG r] (eLn (mw t r)):=by
 obtain⟨⟨hr1,Mz⟩,hr3,hr4⟩:=hr;obtain⟨E,hE⟩:=gi (eLn (mw t r));rw[hE];have ca:=fun k (h1:k<t.ins.length) (h2:k<r.cells.length)=>UA t k (r.cells.getD k default) ht h1 (Mz _ (dh h2));have ce:=fun k (h1:k<t.outs.length) (h2:k<r.outs.length)=>Rs t k (r.outs.getD k default) ht ho h1 (hr4 _ (dh h2));simp only[show ∀ k,PE t k (r.cells.getD k default)=pX t r k from fun _=>rfl]at ca;simp only[show ∀ k,JB t k (r.outs.getD k default)=nD t r k from fun _=>rfl]at ce;simp only[fV,kI,ei,jj,gG,ji]at ca ce |-;by_cases hb:r.cells.length≠t.ins.length\/r.outs.length≠t.outs.length
 ·refine bB Al ?_;intro Q aX aY aZ;repeat' first|refine aQ ?_|refine aR ?_ ?_<;>intro hw<;>try omega|fail
  all_goals first
   | exact eu
   |(rw[<-hE,MD hb];exact g_ (tQ (.aP _) (.aP _)))
 have q1:r.cells.length=t.ins.length:=ae;have q2:r.outs.length=t.outs.length:=ae;clear hb;refine bB Al ?_;intro Q aX aY aZ;repeat' first|refine aQ ?_|refine aR ?_ ?_<;>intro hw<;>try omega|fail
 all_goals first|exact eu|skip
 with_reducible refine dA [5,6,35,24] (fun q:Nat × ai=>[(35,I q.1)]) (fun q=>q.2) (fun q=>q.1<=r.cells.length/\(∀ k,k<q.1->(pX t r k).2=0)/\(q.1=0/\q.2=[.cells [.str t.name,.aH false EC (t.ins.map dS),.aH false EC (t.outs.map dS),I t.dF,I t.agg,.aH false ER (t.rules.map gG)],.cells [.aH false E1 (r.cells.map fG),.aH false E1 (r.outs.map fG)],.cells [.aP,.aP]]\/0<q.1/\ ∃ c1 Y,q.2 = .cells [.str t.name,.aH false EC (t.ins.map dS),.aH false EC (t.outs.map dS),I t.dF,I t.agg,.aH false ER (t.rules.map gG)]:: .cells [.aH false E1 (r.cells.map fG),.aH false E1 (r.outs.map fG)]:: .cells [.own EC 4 q.1 0 q.1,.aP]::c1:: .vec EC ((mQ t r q.1).map dK)::Y)) (fun q=>r.cells.length-q.1) (0,_) ⟨cD _,fun k hk=>by omega,.inl ⟨rfl,rfl⟩⟩ rfl ?_ ?_
 ·exact at_
 rintro⟨k,S⟩ rr ⟨h1,h2,h3⟩;dsimp only at h1 h2 h3;rcases h3 with⟨rfl,rfl⟩|⟨hk,c1,Y,rfl⟩
 ·have c:=ca 0 ae ae;obtain⟨a,ha⟩:=gi (pX t r 0);rw[ha]at c;have uW:=fun he=>ME q1 q2 (k:=0) ae h2 he;rw[ha]at uW;have hcl:=JC t r 0;rw[ha]at hcl;simp only[dK,jT]at c;repeat' first|refine aQ ?_|refine jS c ?_|refine aR ?_ ?_<;>intro hw<;>try omega|fail
  ·rw[<-hE,uW (by assumption)];exact g_ (tQ (.aP _) (.aP _))
  refine⟨(1,[.cells [.str t.name,.aH false EC (t.ins.map dS),.aH false EC (t.outs.map dS),I t.dF,I t.agg,.aH false ER (t.rules.map gG)],.cells [.aH false E1 (r.cells.map fG),.aH false E1 (r.outs.map fG)],.cells [.own EC 4 1 0 1,.aP],.cells [.bool a.1.any,.bool a.1.neg,.aH false ES (a.1.tests.map dJ)],.vec EC [.agg [.bool a.1.any,.bool a.1.neg,.aH false ES (a.1.tests.map dJ)]]]),?_,?_,?_,fU,at_⟩<;>(try dsimp only)
  ·refine⟨ae,fun j hj=>?_,.inr ⟨ae,.cells [.bool a.1.any,.bool a.1.neg,.aH false ES (a.1.tests.map dJ)],[],?_⟩⟩
   ·obtain rfl:j=0:=ae;rw[ha];assumption
   rw[hcl];rfl
  ·omega
  all_goals rfl
 by_cases Dt:k<r.cells.length
 ·have c:=ca k ae ae;have uW:=fun he=>ME q1 q2 (k:=k) ae h2 he;have hcl:=JC t r k;obtain⟨a,ha⟩:=gi (pX t r k);rw[ha]at c uW hcl;have mS:=EA t r k;have jw:=fun he=>cS (q:=fun j=>(pX t r j).2=0) h2 he;obtain⟨L,hL⟩:=gi (mQ t r k);rw[hL]at mS hcl;simp only[hL]at uW |-;simp only[dK,jT]at c;repeat' first|refine fy mS ?_|refine aQ ?_|refine jS c ?_|refine aR ?_ ?_<;>intro hw<;>try omega|fail
  ·rw[<-hE,uW (by assumption)];exact g_ (tQ (View.vec rfl (by simp[mS]) (by simp[mS]) (rJ _)) (.aP _))
  refine⟨(k+1,.cells [.str t.name,.aH false EC (t.ins.map dS),.aH false EC (t.outs.map dS),I t.dF,I t.agg,.aH false ER (t.rules.map gG)]:: .cells [.aH false E1 (r.cells.map fG),.aH false E1 (r.outs.map fG)]:: .cells [.own EC 4 (k+1) 0 (k+1),.aP]::c1:: .vec EC (L.map dK++[.agg [.bool a.1.any,.bool a.1.neg,.aH false ES (a.1.tests.map dJ)]])::(Y++[.cells [.bool a.1.any,.bool a.1.neg,.aH false ES (a.1.tests.map dJ)]])),?_,?_,?_,fU,at_⟩<;>(try dsimp only)
  ·refine⟨ae,jw (by rw[ha];assumption),.inr ⟨ae,c1,Y++[.cells [.bool a.1.any,.bool a.1.neg,.aH false ES (a.1.tests.map dJ)]],?_⟩⟩;rw[hcl,List.map_append];rfl
  ·omega
  all_goals rfl
 have hkn:k=r.cells.length:=ae;subst hkn;have mS:=EA t r r.cells.length;have hok:=fun h=>PI q1 q2 h2 h;have hte:=fun k (hk:k<r.outs.length) h he=>UB q1 q2 h2 (k:=k) hk h he;obtain⟨L,hL⟩:=gi (mQ t r r.cells.length);rw[hL]at mS;simp only[hL]at hok hte |-;repeat' first|refine aQ ?_|refine aR ?_ ?_<;>intro hw<;>try omega|fail
 with_reducible refine dA [5,2,11,4,62,28] (fun q:Nat × ai=>[(62,I q.1)]) (fun q=>q.2) (fun q=>q.1<=r.outs.length/\(∀ k,k<q.1->(nD t r k).2=0)/\(q.1=0/\q.2 = .cells [.str t.name,.aH false EC (t.ins.map dS),.aH false EC (t.outs.map dS),I t.dF,I t.agg,.aH false ER (t.rules.map gG)]:: .cells [.aH false E1 (r.cells.map fG),.aH false E1 (r.outs.map fG)]:: .cells [.own EC 4 r.cells.length 0 r.cells.length,.aP]::c1:: .vec EC (L.map dK)::Y\/0<q.1/\ ∃ p ρ,q.2 = .cells [.str t.name,.aH false EC (t.ins.map dS),.aH false EC (t.outs.map dS),I t.dF,I t.agg,.aH false ER (t.rules.map gG)]:: .cells [.aH false E1 (r.cells.map fG),.aH false E1 (r.outs.map fG)]:: .cells [.own EC 4 r.cells.length 0 r.cells.length,.own EX (p+1+1+1+1+1) q.1 0 q.1]::c1:: .vec EC (L.map dK):: ρ/\ ρ[p]? = some (.vec EX ((rD t r q.1).map br)))) (fun q=>r.outs.length-q.1) (0,_) ⟨cD _,fun k hk=>by omega,.inl ⟨rfl,rfl⟩⟩ rfl ?_ ?_
 ·exact at_
 rintro⟨m,S⟩ rr ⟨g1,g2,g3⟩;dsimp only at g1 g2 g3;rcases g3 with⟨rfl,rfl⟩|⟨hm,p,ρ,rfl,hk⟩
 ·by_cases hml:0<r.outs.length
  ·have c:=ce 0 ae ae;have uW:=fun he=>hte 0 hml g2 he;have hcl:=MC t r 0;obtain⟨a,ha⟩:=gi (nD t r 0);rw[ha]at c uW hcl;rw[bE]at c;try simp only[dG]at c
   repeat' first|refine fy mS ?_|refine aQ ?_|refine jS c ?_|refine aR ?_ ?_<;>intro hw<;>try omega|fail
   ·rw[<-hE,uW (by assumption)];refine g_ (tQ (View.vec rfl (by simp[mS]) (by simp[mS]) (rJ _)) (.aP _))
   refine⟨(1,.cells [.str t.name,.aH false EC (t.ins.map dS),.aH false EC (t.outs.map dS),I t.dF,I t.agg,.aH false ER (t.rules.map gG)]:: .cells [.aH false E1 (r.cells.map fG),.aH false E1 (r.outs.map fG)]:: .cells [.own EC 4 r.cells.length 0 r.cells.length,.own EX (Y.length+1+1+1+1+1+1) 1 0 1]::c1:: .vec EC (L.map dK)::(Y++[.cells [I a.1.op,I a.1.v.kind,I a.1.v.n,.str a.1.v.s,.str a.1.s,.aH false EX (a.1.l.map br)]]++[.vec EX [.agg [I a.1.op,I a.1.v.kind,I a.1.v.n,.str a.1.v.s,.str a.1.s,.aH false EX (a.1.l.map br)]]])),?_,?_,?_,fU,at_⟩<;>(try dsimp only)
   ·refine⟨ae,fun j hj=>?_,.inr ⟨ae,Y.length+1,_,rfl,?_⟩⟩
    ·obtain rfl:j=0:=ae;rw[ha];assumption
    rw[hcl,show ∀ x,[x]=[]++[x] from fun _=>rfl];simp[rD,bE,dG]
   ·omega
   all_goals first|rfl|(simp[go_sem];done)
  repeat' first|refine fy mS ?_|refine aQ ?_|refine aR ?_ ?_<;>intro hw<;>try omega|fail
  rw[<-hE,hok (fun j hj=>by omega)];have h0:r.outs.length=0:=ae;rw[h0];exact g_ (tQ (View.vec rfl (by simp[mS]) (by simp[mS]) (rJ _)) (.aP _))
 have hlt:=(aK.1 hk).1;have HQ:=PG t r m;have lZ:=fun d:bG=>(aO (l₁:= ρ) (l₂:=[d]) hlt).trans hk;by_cases hml:m<r.outs.length
 ·have c:=ce m ae ae;have uW:=fun he=>hte m hml g2 he;have hcl:=MC t r m;have jw:=fun he=>cS (q:=fun j=>(nD t r j).2=0) g2 he;have hs2:=fun(d w:bG)=>List.set_append_left (s:= ρ) (t:=[d]) p w hlt;obtain⟨a,ha⟩:=gi (nD t r m);rw[ha]at c uW hcl;obtain⟨X,hX⟩:=gi (rD t r m);rw[hX]at HQ hcl hk uW;simp only[hX]at lZ;rw[bE]at c;try simp only[dG]at c
  repeat' first|refine fy (zC mS HQ hk (zA lZ hs2)) ?_|refine aQ ?_|refine jS c ?_|refine aR ?_ ?_<;>intro hw<;>try omega|fail
  ·rw[<-hE,uW (by assumption)];refine g_ (tQ (View.vec rfl (by simp[mS]) (by simp[mS]) (rJ _)) (View.vec (lZ _) (by simp[HQ]) (by simp[HQ]) (OV _)))
  refine⟨(m+1,.cells [.str t.name,.aH false EC (t.ins.map dS),.aH false EC (t.outs.map dS),I t.dF,I t.agg,.aH false ER (t.rules.map gG)]:: .cells [.aH false E1 (r.cells.map fG),.aH false E1 (r.outs.map fG)]:: .cells [.own EC 4 r.cells.length 0 r.cells.length,.own EX (p+1+1+1+1+1) (m+1) 0 (m+1)]::c1:: .vec EC (L.map dK)::(ρ.set p (.vec EX (X.map br++[.agg [I a.1.op,I a.1.v.kind,I a.1.v.n,.str a.1.v.s,.str a.1.s,.aH false EX (a.1.l.map br)]]))++[.cells [I a.1.op,I a.1.v.kind,I a.1.v.n,.str a.1.v.s,.str a.1.s,.aH false EX (a.1.l.map br)]])),?_,?_,?_,fU,at_⟩<;>(try dsimp only)
  ·refine⟨ae,jw (by rw[ha];assumption),.inr ⟨ae,p,_,rfl,?_⟩⟩;rw[hcl,List.map_append,aO (by simpa using hlt),bI (by simpa using hlt)];simp[bE,dG]
  ·omega
  all_goals first|rfl|(simp[go_sem];done)
 obtain rfl:m=r.outs.length:=ae;repeat' first|refine fy (zC mS HQ hk lZ) ?_|refine aQ ?_|refine aR ?_ ?_<;>intro hw<;>try omega|fail
 rw[<-hE,hok g2];exact g_ (tQ (View.vec rfl (by simp[mS]) (by simp[mS]) (rJ _)) (View.vec hk (by simp[HQ]) (by simp[HQ]) (OV _)))
def lV(t:Table)(k:Nat): kP × Int × Int:=mw t (t.rules.getD k default)
def pA(t:Table)(n:Nat): List kP:=(List.range n).map fun k=>(lV t k).1
def EB: Ready:=⟨⟨[],[],[],0,0,[]⟩,[]⟩
def fQ(t:Table): Ready × Int × Int × Int :=
 if lz t≠0 then(EB,-1,0,lz t)
 else match(List.range t.rules.length).find? (fun k=>(lV t k).2.2 != 0)with
 | some k=>(EB,k,(lV t k).2.1,(lV t k).2.2)
 | none=>(⟨t,pA t t.rules.length⟩,0,0,0)
def eR4(r:Ready × Int × Int × Int): AV:= .bg [D7 r.1,I r.2.1,I r.2.2.1,I r.2.2.2]
def UC(t:Table)(n:Nat): pA t (n+1)=pA t n++[(lV t n).1]:=by simp[pA,List.range_succ]
def yW(t:Table)(n:Nat): (pA t n).length=n:=by simp[pA]
def GR{t:Table}(h:lz t≠0): fQ t=(EB,(-1:Int),(0:Int),lz t):=by unfold fQ;rw[if_pos h]
def UD{t:Table}(h0:lz t=0){k:Nat}(hk:k<t.rules.length)(h:∀ j,j<k->(lV t j).2.2=0)(he:(lV t k).2.2≠0): fQ t=(EB,(k:Int),(lV t k).2.1,(lV t k).2.2):=by
 unfold fQ;rw[aq ae,tP (i:=k) hk (fun j hj=>by simp[h j hj]) (by simp[he])]
def PJ{t:Table}(h0:lz t=0)(h:∀ j,j<t.rules.length->(lV t j).2.2=0): fQ t=((⟨t,pA t t.rules.length⟩:Ready),(0:Int),(0:Int),(0:Int)):=by
 unfold fQ;rw[aq ae,mR (fun j hj=>by simp[h j hj])]
def UE{t:Table}(h:lz t=0): 0<t.ins.length:=by
 unfold lz at h;split at h
 ·omega
 split at h
 ·omega
 rename_i h1 h2;exact(Ez (by omega:nU t.ins false=0)).2
def sC{σ : ai}{a E:AV}{n m k:Int}(h:View σ a E): bR σ [a,I n,I m,I k] [E,I n,I m,I k]:= .cons h (.cons (.refl _ rfl) (.cons (.refl _ rfl) (.cons (.refl _ rfl) (.nil _))))
def KS(σ : ai): View σ (.agg [.str [],.aP,.aP,I 0,I 0,.aP,.aP]) (D7 EB) :=
 View.r_ (.cons (.refl _ rfl) (.cons (.aP _) (.cons (.aP _) (.cons (.refl _ rfl) (.cons (.refl _ rfl) (.cons (.aP _) (.cons (.aP _) (.nil _))))))))
def Ru(t:Table)(h:qt t): aA aM 111 [fV t] (eR4 (fQ t)):=by
 have cf:=PD t h;obtain⟨E,hE⟩:=gi (eR4 (fQ t));rw[hE];have hl:=fun(h0:0<t.ins.length) k (hk:k<t.rules.length)=>Rt t (t.rules.getD k default) h.2.1.1 h.2.2.1.1 h0 (h.2.2.2.2 _ (dh hk));have alm:=h.2.2.2.1;simp only[fV,kI,ei,jj]at cf hl |-;by_cases hf:lz t≠0
 ·have hm:=GR hf;obtain⟨f,hfe⟩:=gi (lz t);rw[hfe]at cf hm hf;refine bB Aj ?_;intro Q aX aY aZ;repeat' first|refine aQ ?_|refine aR ?_ ?_<;>intro hw<;>try omega|fail
  all_goals first
   | exact eu
   |(rw[<-hE,hm];exact g_ (sC (KS _)))
 have CA:lz t=0:=ae;have xG:0<t.ins.length:=UE CA;rw[CA]at cf
 replace hl:=hl xG
 clear hf;refine bB Aj ?_;intro Q aX aY aZ;repeat' first|refine aQ ?_|refine aR ?_ ?_<;>intro hw<;>try omega|fail
 all_goals first|exact eu|skip
 with_reducible refine dA [3,3,8,5,24,25] (fun q:Nat × ai=>[(24,I q.1)]) (fun q=>q.2) (fun q=>q.1<=t.rules.length/\(∀ k,k<q.1->(lV t k).2.2=0)/\(q.1=0/\q.2=[.cells [.str t.name,.aH false EC (t.ins.map dS),.aH false EC (t.outs.map dS),I t.dF,I t.agg,.aH false ER (t.rules.map gG)],.cells [.str [],.aP,.aP,I 0,I 0,.aP,.aP],.cells [.str t.name,.aH false EC (t.ins.map dS),.aH false EC (t.outs.map dS),I t.dF,I t.agg,.aH false ER (t.rules.map gG),.aP]]\/0<q.1/\ ∃ b1 b2 Y,q.2 = .cells [.str t.name,.aH false EC (t.ins.map dS),.aH false EC (t.outs.map dS),I t.dF,I t.agg,.aH false ER (t.rules.map gG)]:: .cells [.str [],.aP,.aP,I 0,I 0,.aP,.aP]:: .cells [.str t.name,.aH false EC (t.ins.map dS),.aH false EC (t.outs.map dS),I t.dF,I t.agg,.aH false ER (t.rules.map gG),.own ER 5 q.1 0 q.1]::b1::b2:: .vec ER ((pA t q.1).map ov)::Y)) (fun q=>t.rules.length-q.1) (0,_) ⟨cD _,fun k hk=>by omega,.inl ⟨rfl,rfl⟩⟩ rfl ?_ ?_
 ·exact at_
 rintro⟨k,S⟩ rr ⟨h1,h2,h3⟩;dsimp only at h1 h2 h3;by_cases Dt:k<t.rules.length
 ·have c:=hl k Dt;have uW:=fun he=>UD CA Dt h2 he;have hcl:=UC t k;have mS:=yW t k;have jw:=fun he=>cS (q:=fun j=>(lV t j).2.2=0) h2 he;have hlr:lV t k=mw t (t.rules.getD k default):=rfl;obtain⟨a,ha⟩:=gi (lV t k);rw[ha]at uW hcl jw hlr;rw[<-hlr]at c;obtain⟨ru,hru⟩:=gi (t.rules.getD k default);rw[hru]at c;clear hlr;simp only[eLn,ov,qP,dG,gG,ji]at c;rcases h3 with⟨rfl,rfl⟩|⟨hk,b1,b2,Y,rfl⟩
  ·repeat' first|refine fy hru ?_|refine aQ ?_|refine jS c ?_|refine aR ?_ ?_<;>intro hw<;>try omega|fail
   ·rw[<-hE,uW (by assumption)];exact g_ (sC (KS _))
   refine⟨(1,[.cells [.str t.name,.aH false EC (t.ins.map dS),.aH false EC (t.outs.map dS),I t.dF,I t.agg,.aH false ER (t.rules.map gG)],.cells [.str [],.aP,.aP,I 0,I 0,.aP,.aP],.cells [.str t.name,.aH false EC (t.ins.map dS),.aH false EC (t.outs.map dS),I t.dF,I t.agg,.aH false ER (t.rules.map gG),.own ER 5 1 0 1],.cells [.aH false E1 (ru.cells.map fG),.aH false E1 (ru.outs.map fG)],.cells [.aH false EC (a.1.cells.map dK),.aH false EX (a.1.outs.map br)],.vec ER [.agg [.aH false EC (a.1.cells.map dK),.aH false EX (a.1.outs.map br)]]]),?_,?_,?_,fU,at_⟩<;>(try dsimp only)
   ·refine⟨ae,jw (by assumption),.inr ⟨ae,.cells [.aH false E1 (ru.cells.map fG),.aH false E1 (ru.outs.map fG)],.cells [.aH false EC (a.1.cells.map dK),.aH false EX (a.1.outs.map br)],[],?_⟩⟩;rw[hcl];rfl
   ·omega
   all_goals first|rfl|(simp[go_sem];done)
  obtain⟨L,hL⟩:=gi (pA t k);rw[hL]at mS hcl;simp only[hL];repeat' first|refine fy (zA hru mS) ?_|refine aQ ?_|refine jS c ?_|refine aR ?_ ?_<;>intro hw<;>try omega|fail
  ·rw[<-hE,uW (by assumption)];exact g_ (sC (KS _))
  refine⟨(k+1,.cells [.str t.name,.aH false EC (t.ins.map dS),.aH false EC (t.outs.map dS),I t.dF,I t.agg,.aH false ER (t.rules.map gG)]:: .cells [.str [],.aP,.aP,I 0,I 0,.aP,.aP]:: .cells [.str t.name,.aH false EC (t.ins.map dS),.aH false EC (t.outs.map dS),I t.dF,I t.agg,.aH false ER (t.rules.map gG),.own ER 5 (k+1) 0 (k+1)]::b1::b2:: .vec ER (L.map ov++[.agg [.aH false EC (a.1.cells.map dK),.aH false EX (a.1.outs.map br)]])::(Y++[.cells [.aH false E1 (ru.cells.map fG),.aH false E1 (ru.outs.map fG)]]++[.cells [.aH false EC (a.1.cells.map dK),.aH false EX (a.1.outs.map br)]])),?_,?_,?_,fU,at_⟩<;>(try dsimp only)
  ·refine⟨ae,jw (by assumption),.inr ⟨ae,b1,b2,Y++[.cells [.aH false E1 (ru.cells.map fG),.aH false E1 (ru.outs.map fG)]]++[.cells [.aH false EC (a.1.cells.map dK),.aH false EX (a.1.outs.map br)]],?_⟩⟩;rw[hcl,List.map_append];(first|rfl|(simp[ov,qP,dG];done))
  ·omega
  all_goals first|rfl|(simp[go_sem];done)
 obtain rfl:k=t.rules.length:=ae;have hok:=PJ CA h2;rcases h3 with⟨h0,rfl⟩|⟨hk,b1,b2,Y,rfl⟩
 ·repeat' first|refine aQ ?_|refine aR ?_ ?_<;>intro hw<;>try omega|fail
  rw[<-hE,hok,h0];exact g_ (sC (View.r_ (.cons (.refl _ rfl) (.cons (.refl _ (j9 _)) (.cons (.refl _ (j9 _)) (.cons (.refl _ rfl) (.cons (.refl _ rfl) (.cons (.refl _ (wB _)) (.cons (.aP _) (.nil _))))))))))
 have mS:=yW t t.rules.length;obtain⟨L,hL⟩:=gi (pA t t.rules.length);rw[hL]at mS hok;simp only[hL];repeat' first|refine fy mS ?_|refine aQ ?_|refine aR ?_ ?_<;>intro hw<;>try omega|fail
 rw[<-hE,hok];exact g_ (sC (View.r_ (.cons (.refl _ rfl) (.cons (.refl _ (j9 _)) (.cons (.refl _ (j9 _)) (.cons (.refl _ rfl) (.cons (.refl _ rfl) (.cons (.refl _ (wB _)) (.cons (View.vec rfl (by simp[mS]) (by simp[mS]) (Mf _)) (.nil _))))))))))
def oW(a b:fh): Bool:=a.name==b.name && decide (a.kind=b.kind) && jy (fun x y=>x==y) a.order b.order
def tT(a b:gX): Bool:=jy (fun x y=>x==y) a.cells b.cells && jy (fun x y=>x==y) a.outs b.outs
def AH(a b:Table): Bool:=a.name==b.name && decide (a.dF=b.dF) && decide (a.agg=b.agg) && jy oW a.ins b.ins && jy oW a.outs b.outs && jy tT a.rules b.rules
def PK(l:List fh): Prop:=l.length<=2^60/\ ∀ c ∈ l,c.order.length<=2^60
def PL(r:gX): Prop:=r.cells.length<=2^60/\r.outs.length<=2^60
def JD(t:Table): Prop:=PK t.ins/\PK t.outs/\t.rules.length<=2^60/\ ∀ r ∈ t.rules,PL r
def vP(a b:fh)(ha:a.order.length<=2^60)(hb:b.order.length<=2^60): aA aM 189 [dS a,dS b] (.bool (oW a b)):=by
 have c:=Ew a.order b.order ha hb;have hS:oW a b=(a.name==b.name && decide (a.kind=b.kind) && jy (fun x y=>x==y) a.order b.order):=rfl;rw[hS];clear hS;generalize jy (fun x y=>x==y) a.order b.order=v at *;simp only[dS,j_]at c |-;refine bB BK ?_;intro Q aX aY aZ;repeat' first|refine aQ ?_|refine jS c ?_|refine aR ?_ ?_<;>intro hw<;>try omega|fail
 all_goals (refine bu ?_ rfl;refine bC AV.bool ?_;rw[cq];simp_all)
def JE(a b:gX)(ha:PL a)(hb:PL b): aA aM 191 [gG a,gG b] (.bool (tT a b)):=by
 have c1:=s6 a.cells b.cells ha.1 hb.1;have c2:=s6 a.outs b.outs ha.2 hb.2;have hS:tT a b=(jy (fun x y=>x==y) a.cells b.cells && jy (fun x y=>x==y) a.outs b.outs):=rfl;rw[hS];clear hS;generalize jy (fun x y=>x==y) a.cells b.cells=v at *;generalize jy (fun x y=>x==y) a.outs b.outs=u at *;simp only[gG,ji]at c1 c2 |-;refine bB D6 ?_;intro Q aX aY aZ;repeat' first|refine aQ ?_|refine aR ?_ ?_<;>intro hw<;>try omega|fail
 all_goals (refine bu ?_ rfl;refine bC AV.bool ?_;rw[cq];simp_all)
def Rv(a b:Table)(ha:JD a)(hb:JD b): aA aM 115 [fV a,fV b] (.bool (AH a b)):=by
 have c1:=qE 189 [] rfl oW a.ins b.ins (fun k h1 h2=>vP _ _ (ha.1.2 _ (dh h1)) (hb.1.2 _ (dh h2))) (by have:=ha.1.1;omega) (by have:=hb.1.1;omega);have c2:=qE 189 [] rfl oW a.outs b.outs (fun k h1 h2=>vP _ _ (ha.2.1.2 _ (dh h1)) (hb.2.1.2 _ (dh h2))) (by have:=ha.2.1.1;omega) (by have:=hb.2.1.1;omega);have c3:=AE 191 [] rfl tT a.rules b.rules (fun k h1 h2=>JE _ _ (ha.2.2.2 _ (dh h1)) (hb.2.2.2 _ (dh h2))) (by have:=ha.2.2.1;omega) (by have:=hb.2.2.1;omega);have hS:AH a b=(a.name==b.name && decide (a.dF=b.dF) && decide (a.agg=b.agg) && jy oW a.ins b.ins && jy oW a.outs b.outs && jy tT a.rules b.rules):=rfl;generalize jy oW a.ins b.ins=v1 at *;generalize jy oW a.outs b.outs=v2 at *;generalize jy tT a.rules b.rules=v3 at *;obtain⟨E,hE⟩:=gi (AH a b);rw[hE]at hS |-;clear hE;simp only[fV,kI,ei,jj]at c1 c2 c3 |-;refine bB Ks ?_;intro Q aX aY aZ;dsimp (config:= { zeta:=true }) only;repeat' first|refine aQ ?_|refine aR ?_ ?_<;>intro hw<;>try omega|fail
 all_goals first
  | exact eu
  |(refine bu ?_ rfl;refine bC AV.bool ?_;rw[hS,cq];simp_all;done)
def mq(l:kP)(m:Nat): bj × Int:=FP (l.cells.getD m default)
def pB(l:kP)(m:Nat): bj × Int:=yV (l.outs.getD m default)
def bH(l:kP)(n:Nat): List bj:=(List.range n).map fun m=>(mq l m).1
def ri(l:kP)(n:Nat): List bj:=(List.range n).map fun m=>(pB l m).1
def Rw(l:kP)(n:Nat): bH l (n+1)=bH l n++[(mq l n).1]:=by simp[bH,List.range_succ]
def UG(l:kP)(n:Nat): ri l (n+1)=ri l n++[(pB l n).1]:=by simp[ri,List.range_succ]
def B0(l:kP)(n:Nat): (bH l n).length=n:=by simp[bH]
def ED(l:kP)(n:Nat): (ri l n).length=n:=by simp[ri]
def zO(w:Nat)(l:kP): gX × Int × Int :=
 match(List.range l.cells.length).find? (fun m=>(mq l m).2 != 0)with
 | some m=>(⟨bH l l.cells.length,ri l l.outs.length⟩,m,(mq l m).2)
 | none => match (List.range l.outs.length).find? (fun m => (pB l m).2 != 0) with
   | some m=>(⟨bH l l.cells.length,ri l l.outs.length⟩,w+m,(pB l m).2)
   | none=>(⟨bH l l.cells.length,ri l l.outs.length⟩,0,0)
def xH: Table:=⟨[],[],[],0,0,[]⟩
def B3(t:Table)(n:Nat): kP:=(fQ t).1.lines.getD n default
def oA(t:Table)(n:Nat): gX × Int × Int:=zO t.ins.length (B3 t n)
def uv(t:Table)(n:Nat): List gX:=(List.range n).map fun k=>(oA t k).1
def jk(t:Table): Table × Int × Int × Int :=
 if(fQ t).2.2.2≠0 then(xH,(fQ t).2.1,(fQ t).2.2.1,(fQ t).2.2.2)
 else match(List.range (fQ t).1.lines.length).find? (fun n=>(oA t n).2.2 != 0)with
 | some n=>(xH,n,(oA t n).2.1,(oA t n).2.2)
 | none=>({ t with rules:=uv t (fQ t).1.lines.length },0,0,0)
def eT4(r:Table × Int × Int × Int): AV:= .bg [fV r.1,I r.2.1,I r.2.2.1,I r.2.2.2]
def UH(t:Table)(n:Nat): uv t (n+1)=uv t n++[(oA t n).1]:=by simp[uv,List.range_succ]
def uX(t:Table)(n:Nat): (uv t n).length=n:=by simp[uv]
def PN(w:Nat)(l:kP): (zO w l).1=⟨bH l l.cells.length,ri l l.outs.length⟩:=by
 unfold zO;split
 ·rfl
 split<;>rfl
def Xh(w:Nat){l:kP}{m:Nat}(hm:m<l.cells.length)(h:∀ j,j<m->(mq l j).2=0)(he:(mq l m).2≠0): (zO w l).2=((m:Int),(mq l m).2):=by
 unfold zO;rw[tP (i:=m) hm (fun j hj=>by simp[h j hj]) (by simp[he])]
def ZJ(w:Nat){l:kP}(hc:∀ j,j<l.cells.length->(mq l j).2=0){m:Nat}(hm:m<l.outs.length)(h:∀ j,j<m->(pB l j).2=0)(he:(pB l m).2≠0): (zO w l).2=((w:Int)+m,(pB l m).2):=by
 unfold zO;rw[mR (fun j hj=>by simp[hc j hj])];dsimp only;rw[tP (i:=m) hm (fun j hj=>by simp[h j hj]) (by simp[he])]
def ack(w:Nat){l:kP}(hc:∀ j,j<l.cells.length->(mq l j).2=0)(h:∀ j,j<l.outs.length->(pB l j).2=0): (zO w l).2=(0,0):=by
 unfold zO;rw[mR (fun j hj=>by simp[hc j hj])];dsimp only;rw[mR (fun j hj=>by simp[h j hj])]
def uw{t:Table}(h:(fQ t).2.2.2≠0): jk t=(xH,(fQ t).2.1,(fQ t).2.2.1,(fQ t).2.2.2):=by unfold jk;rw[if_pos h]
def UI{t:Table}(h0:(fQ t).2.2.2=0){n:Nat}(hn:n<(fQ t).1.lines.length)(h:∀ j,j<n->(oA t j).2.2=0)(he:(oA t n).2.2≠0): jk t=(xH,(n:Int),(oA t n).2.1,(oA t n).2.2):=by
 unfold jk;rw[aq ae,tP (i:=n) hn (fun j hj=>by simp[h j hj]) (by simp[he])]
def MG{t:Table}(h0:(fQ t).2.2.2=0)(h:∀ j,j<(fQ t).1.lines.length->(oA t j).2.2=0): jk t=({ t with rules:=uv t (fQ t).1.lines.length },0,0,0):=by
 unfold jk;rw[aq ae,mR (fun j hj=>by simp[h j hj])]
def Xi(l:kP): Prop:=(l.cells.length<=2^30/\ ∀ c ∈ l.cells,zN c)/\l.outs.length<=2^30/\ ∀ x ∈ l.outs,jN x/\gW x<=2^30
def B4{t:Table}(h:(fQ t).2.2.2=0): lz t=0/\(∀ j,j<t.rules.length->(lV t j).2.2=0)/\fQ t=((⟨t,pA t t.rules.length⟩:Ready),(0:Int),(0:Int),(0:Int)):=by
 by_cases hf:lz t=0
 ·have hl : ∀ j, j < t.rules.length -> (lV t j).2.2 = 0 := by
   cases hq:(List.range t.rules.length).find? (fun k=>(lV t k).2.2 != 0)with
   | some k =>
     exfalso;unfold fQ at h;rw[aq ae,hq]at h;have:=gk hq;simp at this;exact this h
   | none =>
     intro j hj;have:=fJ.1 hq j (eO.2 hj);simpa using this
  exact⟨hf,hl,PJ hf hl⟩
 rw[GR hf]at h;exact absurd h hf
def Xj(t:Table)(r:gX)(h1:t.ins.length<=2^30)(h2:t.outs.length<=2^30)(hr:r.cells.length<=2^30)(ho:r.outs.length<=2^30): Xi (mw t r).1:=by
 have hc:∀ n,n<=2^30->(mQ t r n).length<=2^30/\ ∀ c ∈ mQ t r n,zN c:=fun n hn=>by
  refine⟨by rw[EA];exact hn,fun c hc=>?_⟩;obtain⟨k,_,rfl⟩:=eL.1 hc;exact Uz _
 have hx:∀ n,n<=2^30->(rD t r n).length<=2^30/\ ∀ x ∈ rD t r n,jN x/\gW x<=2^30:=fun n hn=>by
  refine⟨by rw[PG];exact hn,fun x hx=>?_⟩;obtain⟨k,_,rfl⟩:=eL.1 hx;exact MB _
 have hk:∀ {n k:Nat} {p:Nat->Bool},(List.range n).find? p=some k->k<n:=fun h=>eO.1 (gC h);unfold mw;split
 ·exact⟨⟨aT,aT⟩,aT,aT⟩
 split
 ·rename_i k hq;have:=hk hq;exact⟨hc _ ae,aT,aT⟩
 split
 ·rename_i k hq;have:=hk hq;exact⟨hc _ hr,hx _ ae⟩
 exact⟨hc _ hr,hx _ ho⟩
def zP{t:Table}(h:qt t)(h0:(fQ t).2.2.2=0): (fQ t).1.lines.length=t.rules.length/\ ∀ n,Xi (B3 t n):=by
 obtain⟨_,_,hm⟩:=B4 h0;refine⟨by rw[hm];exact yW _ _,fun n=>?_⟩;unfold B3;rw[hm];dsimp only;by_cases hn:n<t.rules.length
 ·have : (pA t t.rules.length).getD n default = (lV t n).1 := by
   unfold pA;rw[aj,ia,List.getElem?_range hn];rfl
  rw[this];have hr:=h.2.2.2.2 _ (dh hn);exact Xj t _ h.2.1.1 h.2.2.1.1 hr.1.1 hr.2.1
 rw[pU (by rw[yW];omega)];exact⟨⟨Nat.zero_le _,fun c hc=>by cases hc⟩,Nat.zero_le _,fun c hc=>by cases hc⟩
def s7(L:Nat)(S:ai)(v:AV)(xs:List bj): Prop:=(xs=[]/\v = .aP)\/(xs≠[]/\ ∃ q,L<=q/\v = .own E1 q xs.length 0 xs.length/\S[q]? = some (.vec E1 (xs.map fG)))
def s7.nil(L:Nat)(S:ai): s7 L S .aP []:= .inl ⟨rfl,rfl⟩
def s7.scalar{L:Nat}{S:ai}{v:AV}{xs:List bj}(h:s7 L S v xs): v.scalar=true:=by
 rcases h with⟨_,rfl⟩|⟨_,q,_,rfl,_⟩<;>rfl
def s7.view{L:Nat}{S:ai}{v:AV}{xs:List bj}(h:s7 L S v xs): View S v (ji xs):=by
 rcases h with⟨rfl,rfl⟩|⟨_,q,_,rfl,hq⟩
 ·exact View.aP _
 exact View.vec hq aT aT (OX _)
def s7.keep{L L':Nat}{S S':ai}{v:AV}{xs:List bj}(hL:L'<=L)(hs:∀ (q:Nat) (ys:List AV),L<=q->S[q]? = some (.vec E1 ys)->S'[q]? = some (.vec E1 ys))(h:s7 L S v xs): s7 L' S' v xs:=by
 rcases h with h|⟨h1,q,h2,h3,h4⟩
 ·exact .inl h
 exact .inr ⟨h1,q,bS hL h2,h3,hs _ _ h2 h4⟩
def ZK(S:ai)(a:AV)(r:gX): Prop:= ∃ v w,a = .agg [v,w]/\s7 0 S v r.cells/\s7 0 S w r.outs
def mT(S:ai)(rs:List AV)(l:List gX): Prop:=rs.length=l.length/\ ∀ j,j<l.length->ZK S (rs.getD j .undef) (l.getD j default)
def mT.nil(S:ai): mT S [] []:=⟨rfl,fun j hj=>by cases hj⟩
def mT.keep{S S':ai}{rs:List AV}{l:List gX}(hs:∀ (q:Nat) (ys:List AV),S[q]? = some (.vec E1 ys)->S'[q]? = some (.vec E1 ys))(h:mT S rs l): mT S' rs l:=by
 refine⟨h.1,fun j hj=>?_⟩;obtain⟨v,w,h1,h2,h3⟩:=h.2 j hj;exact⟨v,w,h1,h2.keep (aV _) (fun q ys _=>hs q ys),h3.keep (aV _) (fun q ys _=>hs q ys)⟩
def mT.snoc{S:ai}{rs:List AV}{l:List gX}{a:AV}{r:gX}(h:mT S rs l)(ha:ZK S a r): mT S (rs++[a]) (l++[r]):=by
 refine⟨by simp[h.1],fun j hj=>?_⟩;have hl:=h.1;rw[aG,aE,a_]at hj;by_cases qA:j<l.length
 ·rw[aj,aj,aO ae,aO qA,<-aj,<-aj];exact h.2 j qA
 obtain rfl:j=l.length:=ae;rw[aj,aj,<-hl,bx (aV _),hl,bx (aV _)];simpa using ha
def mT.view{S:ai}{rs:List AV}{l:List gX}(h:mT S rs l): bR S rs (l.map gG):=by
 refine⟨by simp[h.1],fun j hj=>?_⟩;have hl:=h.1;obtain⟨v,w,h1,h2,h3⟩:=h.2 j ae;rw[h1,getD_map _ _ _ ae];exact View.r_ (.cons h2.view (.cons h3.view (.nil _)))
def xI(L:Nat)(S:ai)(v:AV)(l:List gX): Prop:=(l=[]/\v = .aP)\/(l≠[]/\ ∃ q rs,L<=q/\v = .own ER q l.length 0 l.length/\S[q]? = some (.vec ER rs)/\mT S rs l)
def xI.nil(L:Nat)(S:ai): xI L S .aP []:= .inl ⟨rfl,rfl⟩
def xI.view{L:Nat}{S:ai}{v:AV}{l:List gX}(h:xI L S v l): View S v (jj l):=by
 rcases h with⟨rfl,rfl⟩|⟨_,q,rs,_,rfl,hq,hr⟩
 ·exact View.aP _
 exact View.ak4 hq hr.1.symm hr.1.symm hr.view
def xI.scalar{L:Nat}{S:ai}{v:AV}{l:List gX}(h:xI L S v l): v.scalar=true:=by
 rcases h with⟨_,rfl⟩|⟨_,q,_,_,rfl,_⟩<;>rfl
def xI.keep{L:Nat}{S S':ai}{v:AV}{l:List gX}(hs:∀ (q:Nat) (o:bG),S[q]? = some o->(∀ cs,o≠ .cells cs)->S'[q]? = some o)(h:xI L S v l): xI L S' v l:=by
 rcases h with h|⟨h1,q,rs,h2,h3,h4,h5⟩
 ·exact .inl h
 exact .inr ⟨h1,q,rs,h2,h3,hs _ _ h4 (fun cs=>by simp),h5.keep (fun q ys hq=>hs q _ hq (fun cs=>by simp))⟩
def AI(σ : ai): View σ (.agg [.str [],.aP,.aP,I 0,I 0,.aP]) (fV xH) :=
 View.r_ (.cons (.refl _ rfl) (.cons (.aP _) (.cons (.aP _) (.cons (.refl _ rfl) (.cons (.refl _ rfl) (.cons (.aP _) (.nil _)))))))
abbrev PO(t:Table)(v:AV): bG:= .cells [.str t.name,.aH false EC (t.ins.map dS),.aH false EC (t.outs.map dS),I t.dF,I t.agg,v]
abbrev aln(t:Table)(ls:List kP): bG:= .cells [.str t.name,.aH false EC (t.ins.map dS),.aH false EC (t.outs.map dS),I t.dF,I t.agg,.aH false ER (t.rules.map gG),.aH false ER (ls.map ov)]
def PS{S1:ai}{L k:Nat}{c:bG}{s:bj}(hL:L<=S1.length)(hk:k<S1.length): s7 L ((S1++[bG.vec E1 [.str s]]).set k c) (.own E1 S1.length 1 0 1) [s] :=
 .inr ⟨aT,S1.length,hL,rfl,by rw[aI ae];simp[fG]⟩
def SC{S1:ai}{L k q:Nat}{c:bG}{s:bj}{xs:List bj}(hq:S1[q]? = some (.vec E1 (xs.map fG)))(hL:L<=q)(hk:k≠q): s7 L ((S1.set q (.vec E1 (xs.map fG++[.str s]))).set k c) (.own E1 q (xs.length+1) 0 (xs.length+1)) (xs++[s]) :=
 .inr ⟨aT,q,hL,aT,by rw[aI hk,bI (jq hq)];simp[fG]⟩
def kZ{S1:ai}{k:Nat}{c d:bG}(j:Nat)(o:bG)(hj:S1[j]? = some o)(hne:j≠k): ((S1++[d]).set k c)[j]? = some o:=by
 rw[aI (Ne.symm hne),aO (jq hj)];exact hj
def l6{S1:ai}{k q:Nat}{c d:bG}(j:Nat)(o:bG)(hj:S1[j]? = some o)(hne:j≠k)(hq:j≠q): ((S1.set q d).set k c)[j]? = some o:=by
 rw[aI (Ne.symm hne),aI (Ne.symm hq)];exact hj
def aiV{σ : ai}{k:Nat}{w:AV}(h : σ[k]? = some (.cells [.aP,w]))(s:bj)(e:Int): cV aM 112 [.ref k 0,.str s,I e] σ fun o σ'=>o = .ret (.bool (e==0))/\σ'=(σ++[bG.vec E1 [.str s]]).set k (.cells [.own E1 σ.length 1 0 1,w]):=by
 have h2:∀ d:bG,(σ++[d])[k]? = some (.cells [.aP,w]):=fun d=>by rw[aO (jq h)];exact h
 refine nA.go ?_;unfold iC;intro Q aX aY aZ;repeat' first|refine fy (zA h h2) ?_|refine aQ ?_|refine aR ?_ ?_<;>intro hw<;>try omega|fail
 exact⟨rfl,by trivial⟩
def aiW{σ : ai}{k:Nat}{w:AV}(h : σ[k]? = some (.cells [w,.aP]))(s:bj)(e:Int): cV aM 112 [.ref k 1,.str s,I e] σ fun o σ'=>o = .ret (.bool (e==0))/\σ'=(σ++[bG.vec E1 [.str s]]).set k (.cells [w,.own E1 σ.length 1 0 1]):=by
 have h2:∀ d:bG,(σ++[d])[k]? = some (.cells [w,.aP]):=fun d=>by rw[aO (jq h)];exact h
 refine nA.go ?_;unfold iC;intro Q aX aY aZ;repeat' first|refine fy (zA h h2) ?_|refine aQ ?_|refine aR ?_ ?_<;>intro hw<;>try omega|fail
 exact⟨rfl,by trivial⟩
def aiX{σ : ai}{k q:Nat}{xs:List bj}{w:AV}(h : σ[k]? = some (.cells [.own E1 q xs.length 0 xs.length,w]))(hq : σ[q]? = some (.vec E1 (xs.map fG)))(hne:q≠k)(hl:xs.length<=2^30)(s:bj)(e:Int): cV aM 112 [.ref k 0,.str s,I e] σ fun o σ'=>o = .ret (.bool (e==0))/\σ'=(σ.set q (.vec E1 (xs.map fG++[.str s]))).set k (.cells [.own E1 q (xs.length+1) 0 (xs.length+1),w]):=by
 have h2:∀ d:bG,(σ.set q d)[k]? = some (.cells [.own E1 q xs.length 0 xs.length,w]):=fun d=>by rw[aI hne];exact h
 refine nA.go ?_;unfold iC;intro Q aX aY aZ;repeat' first|refine fy (zB h h2 hq) ?_|refine aQ ?_|refine aR ?_ ?_<;>intro hw<;>try omega|fail
 exact⟨rfl,by trivial⟩
def aiY{σ : ai}{k q:Nat}{xs:List bj}{w:AV}(h : σ[k]? = some (.cells [w,.own E1 q xs.length 0 xs.length]))(hq : σ[q]? = some (.vec E1 (xs.map fG)))(hne:q≠k)(hl:xs.length<=2^30)(s:bj)(e:Int): cV aM 112 [.ref k 1,.str s,I e] σ fun o σ'=>o = .ret (.bool (e==0))/\σ'=(σ.set q (.vec E1 (xs.map fG++[.str s]))).set k (.cells [w,.own E1 q (xs.length+1) 0 (xs.length+1)]):=by
 have h2:∀ d:bG,(σ.set q d)[k]? = some (.cells [w,.own E1 q xs.length 0 xs.length]):=fun d=>by rw[aI hne];exact h
 refine nA.go ?_;unfold iC;intro Q aX aY aZ;repeat' first|refine fy (zB h h2 hq) ?_|refine aQ ?_|refine aR ?_ ?_<;>intro hw<;>try omega|fail
 exact⟨rfl,by trivial⟩
def gM{S:ai}{j:Nat}{o:bG}(h:S[j]? = some o)(d:bG): (S++[d])[j]? = some o:=by rw[aO (jq h)];exact h
def PU{S:ai}{j k:Nat}{o:bG}(h:S[j]? = some o)(hne:j≠k)(d:bG): (S.set k d)[j]? = some o:=by rw[aI (Ne.symm hne)];exact h
def EE(t:Table)(h:qt t): aA aM 53 [fV t] (eT4 (jk t)):=by
 have cm:=Ru t h;obtain⟨E,hE⟩:=gi (eT4 (jk t));rw[hE];by_cases he:(fQ t).2.2.2≠0
 ·have hc:=uw he;obtain⟨M,hM⟩:=gi (fQ t);rw[hM]at cm hc he;simp only[eR4,D7,fV,kI,ei,jj,Je]at cm |-;refine bB yK ?_;intro Q aX aY aZ;repeat' first|refine aQ ?_|refine aR ?_ ?_<;>intro hw<;>try omega|fail
  all_goals first
   | exact eu
   |(rw[<-hE,hc];exact g_ (sC (AI _)))
 have Xk:(fQ t).2.2.2=0:=ae;obtain⟨hf,hl,hm⟩:=B4 Xk;obtain⟨hlen,hok⟩:=zP h Xk;have R9:=fun n=>UI (t:=t) Xk (n:=n);have hco:=MG Xk;obtain⟨ls,hls⟩:=gi ((fQ t).1.lines);have Xl:∀ n,B3 t n=ls.getD n default:=fun n=>by rw[<-hls];rfl
 have mS:pA t t.rules.length=ls:=by rw[<-hls,hm]
 rw[hls]at hlen R9 hco;rw[hm,mS]at cm;have alm:=h.2.2.2.1;have aof:=h.2.1.1;clear hm mS hl hf Xk hls he;simp only[eR4,D7,fV,kI,ei,jj,Je]at cm |-;refine bB yK ?_;intro Q aX aY aZ;repeat' first|refine aQ ?_|refine aR ?_ ?_<;>intro hw<;>try omega|fail
 all_goals first|exact eu|skip
 with_reducible refine dA [7,3,13,8,39,60] (fun q:Nat × ai=>[(39,I q.1),(9,I 0)]) (fun q=>q.2) (fun q=>q.1<=ls.length/\(∀ k,k<q.1->(oA t k).2.2=0)/\5<=q.2.length/\q.2[0]? = some (PO t (.aH false ER (t.rules.map gG)))/\q.2[1]? = some (.cells [.str [],.aP,.aP,I 0,I 0,.aP])/\q.2[2]? = some (aln t ls)/\(∃ v,q.2[3]? = some (PO t v)/\xI 5 q.2 v (uv t q.1))/\ ∃ a b,q.2[4]? = some (.cells [a,b])) (fun q=>ls.length-q.1) (0,_) ⟨cD _,fun k hk=>by omega,aT,rfl,rfl,rfl,⟨_,rfl,xI.nil _ _⟩,_,_,rfl⟩ rfl ?_ ?_
 ·exact at_
 rintro⟨n,S⟩ rr ⟨h1,h2,h3,f0,f1,f2,⟨v,f3,h4⟩,xa,xb,f4⟩;dsimp only at h1 h2 h3 f0 f1 f2 f3 h4 f4;have hvs:=h4.scalar;by_cases hn:n<ls.length
 ·have ZL:=hok n;have hrow:oA t n=zO t.ins.length (B3 t n):=rfl;have w6:=R9 n hn h2;have En:=UH t n;rw[hrow,PN]at En;rw[hrow]at w6;rw[Xl]at ZL w6 En;obtain⟨l,EF⟩:=gi (ls.getD n default);rw[EF]at ZL w6 En;obtain⟨⟨k1,k2⟩,k3,k4⟩:=ZL;have f4a:∀ d:bG,(S++[d])[4]? = some (.cells [xa,xb]):=fun d=>gM f4 d;have hSl:(S++[bG.cells [.aH false EC (l.cells.map dK),.aH false EX (l.outs.map br)]])[S.length]? = some (.cells [.aH false EC (l.cells.map dK),.aH false EX (l.outs.map br)]):=Nl _ _;have aeD:∀ d:bG,((S++[bG.cells [.aH false EC (l.cells.map dK),.aH false EX (l.outs.map br)]]).set 4 d)[S.length]? = some (.cells [.aH false EC (l.cells.map dK),.aH false EX (l.outs.map br)]):=fun d=>PU hSl ae d;repeat' first|refine fy (zC f0 f1 f2 (zC f3 f4 f4a (zA aeD EF))) ?_|refine aQ ?_|refine aR ?_ ?_<;>intro hw<;>try omega|fail
  with_reducible refine dA [8,2,15,3,49,18] (fun q:Nat × ai=>[(49,I q.1),(9,I 0)]) (fun q=>q.2) (fun q=>q.1<=l.cells.length/\(∀ k,k<q.1->(mq l k).2=0)/\S.length<q.2.length/\(∀ j o,S[j]? = some o->j≠4->q.2[j]? = some o)/\q.2[S.length]? = some (.cells [.aH false EC (l.cells.map dK),.aH false EX (l.outs.map br)])/\ ∃ x,q.2[4]? = some (.cells [x,.aP])/\s7 (S.length+1) q.2 x (bH l q.1)) (fun q=>l.cells.length-q.1) (0,_) ⟨cD _,fun k hk=>by omega,aT,fun j o hj hne=>PU (gM hj _) hne _,aeD _,.aP,bI (jq (f4a _)),s7.nil _ _⟩ rfl ?_ ?_
  ·exact at_
  rintro⟨m,S1⟩ rr ⟨g1,g2,g3,g4,gl,x,g5,g6⟩;dsimp only at g1 g2 g3 g4 gl g5 g6;have e0:=g4 _ _ f0 ae;have e1:=g4 _ _ f1 ae;have e2:=g4 _ _ f2 ae;have e3:=g4 _ _ f3 ae;by_cases hml:m<l.cells.length
  ·have cT:aA aM 113 [dK (l.cells.getD m default)] (.bg [.str (mq l m).1,I (mq l m).2]):=Xe _ (k2 _ (dh hml));have hsc:=Rw l m;have Ax:=B0 l m;have hce:=Xh t.ins.length hml g2;have jw:=fun he=>cS (q:=fun j=>(mq l j).2=0) g2 he;obtain⟨a,ha⟩:=gi (mq l m);rw[ha]at cT hsc hce jw;obtain⟨c,hc⟩:=gi (l.cells.getD m default);rw[hc]at cT;simp only[dK,jT]at cT;obtain⟨xs,hxs⟩:=gi (bH l m);rw[hxs]at g6 hsc Ax;rcases g6 with⟨rfl,rfl⟩|⟨hne,q,hq,rfl,JF⟩
   ·repeat' first|simp (disch:=omega) only[go_sem,aX,aY,aZ,e0,e1,e2,e3,gl,g5,EF,hc]|refine aQ ?_|with_reducible refine cW (aiV (gM g5 _) _ _) ?_|refine aR ?_ ?_<;>intro hw<;>try omega|fail
    rintro o s ⟨rfl,oM⟩;have y1:s[1]? = some (.cells [.str [],.aP,.aP,I 0,I 0,.aP]):=by rw[oM];exact kZ _ _ (gM e1 _) ae
    have hs1:∀ d,(s.set 1 d)[1]? = some d:=fun d=>bI (jq y1);repeat' first|refine fy (zA y1 hs1) ?_|refine aQ ?_|refine aR ?_ ?_<;>intro hw<;>try omega|fail
    ·rw[hce (by assumption)]at w6;rw[<-hE,w6 (by assumption)];exact g_ (sC (AI _))
    have ha0:a.2=0:=by assumption
    refine⟨(m+1,s),⟨ae,jw ha0,?_,?_,?_,.own E1 (S1.length+1) 1 0 1,?_,?_⟩,by dsimp only;omega,rfl,fU,(by simp only[ha0];exact at_)⟩
    ·dsimp only;rw[oM];simp;omega
    ·intro j o hj hne;dsimp only;rw[oM];exact kZ j o (gM (g4 _ _ hj hne) _) hne
    ·dsimp only;rw[oM];exact kZ _ _ (gM gl _) ae
    ·dsimp only;rw[oM,List.getElem?_set_self (by simp;omega)]
    dsimp only;rw[hsc,oM];have:=PS (S1:=S1++[bG.cells [.bool c.any,.bool c.neg,.aH false ES (c.tests.map dJ)]]) (L:=S.length+1) (k:=4) (c:= .cells [.own E1 (S1++[bG.cells [.bool c.any,.bool c.neg,.aH false ES (c.tests.map dJ)]]).length 1 0 1,.aP]) (s:=a.1) (by simp;omega) (by simp;omega);simpa using this
   have Xm:q≠4:=ae;repeat' first|simp (disch:=omega) only[go_sem,aX,aY,aZ,e0,e1,e2,e3,gl,g5,EF,hc]|refine aQ ?_|with_reducible refine cW (aiX (gM g5 _) (gM JF _) Xm ae _ _) ?_|refine aR ?_ ?_<;>intro hw<;>try omega|fail
   rintro o s ⟨rfl,oM⟩;have y1:s[1]? = some (.cells [.str [],.aP,.aP,I 0,I 0,.aP]):=by rw[oM];exact l6 _ _ (gM e1 _) ae ae
   have hs1:∀ d,(s.set 1 d)[1]? = some d:=fun d=>bI (jq y1);repeat' first|refine fy (zA y1 hs1) ?_|refine aQ ?_|refine aR ?_ ?_<;>intro hw<;>try omega|fail
   ·rw[hce (by assumption)]at w6;rw[<-hE,w6 (by assumption)];exact g_ (sC (AI _))
   have ha0:a.2=0:=by assumption
   refine⟨(m+1,s),⟨ae,jw ha0,?_,?_,?_,.own E1 q (xs.length+1) 0 (xs.length+1),?_,?_⟩,by dsimp only;omega,rfl,fU,(by simp only[ha0];exact at_)⟩
   ·dsimp only;rw[oM];simp;omega
   ·intro j o hj hne;dsimp only;have:=jq hj;rw[oM];exact l6 j o (gM (g4 _ _ hj hne) _) hne ae
   ·dsimp only;rw[oM];exact l6 _ _ (gM gl _) ae ae
   ·dsimp only;rw[oM,List.getElem?_set_self (by simp;omega)]
   dsimp only;rw[hsc,oM];exact SC (gM JF _) hq (Ne.symm Xm)
  obtain rfl:m=l.cells.length:=ae;have alo:=fun {k:Nat}=>ZJ t.ins.length g2 (m:=k);have alp:=ack t.ins.length g2;repeat' first|simp (disch:=omega) only[go_sem,aX,aY,aZ,e0,e1,e2,e3,gl,g5,EF]|refine aQ ?_|refine aR ?_ ?_<;>intro hw<;>try omega|fail
  with_reducible refine dA [8,2,18,3,70,22] (fun q:Nat × ai=>[(70,I q.1),(9,I 0)]) (fun q=>q.2) (fun q=>q.1<=l.outs.length/\(∀ k,k<q.1->(pB l k).2=0)/\S1.length<=q.2.length/\(∀ j o,S1[j]? = some o->j≠4->q.2[j]? = some o)/\ ∃ y,q.2[4]? = some (.cells [x,y])/\s7 S1.length q.2 y (ri l q.1)) (fun q=>l.outs.length-q.1) (0,_) ⟨cD _,fun k hk=>by omega,aV _,fun j o hj _=>hj,_,g5,s7.nil _ _⟩ rfl ?_ ?_
  ·exact at_
  rintro⟨m,S2⟩ rr ⟨p1,p2,p3,p4,y,p5,p6⟩;dsimp only at p1 p2 p3 p4 p5 p6;have e0:=p4 _ _ e0 ae;have e1:=p4 _ _ e1 ae;have e2:=p4 _ _ e2 ae;have e3:=p4 _ _ e3 ae;have gl:=p4 _ _ gl ae;have hS2:S.length<S2.length:=ae;by_cases hml:m<l.outs.length
  ·have cT:aA aM 114 [br (l.outs.getD m default)] (.bg [.str (pB l m).1,I (pB l m).2]):=GQ _ (k4 _ (dh hml)).1 (k4 _ (dh hml)).2;have hsc:=UG l m;have Ax:=ED l m;have hce:=alo hml p2;have jw:=fun he=>cS (q:=fun j=>(pB l j).2=0) p2 he;obtain⟨a,ha⟩:=gi (pB l m);rw[ha]at cT hsc hce jw;obtain⟨c,hc⟩:=gi (l.outs.getD m default);rw[hc,bE]at cT;obtain⟨xs,hxs⟩:=gi (ri l m);rw[hxs]at p6 hsc Ax;rcases p6 with⟨rfl,rfl⟩|⟨hne,q,hq,rfl,JF⟩
   ·have e0':=fun d=>gM e0 d;repeat' first|simp (disch:=omega) only[go_sem,aX,aY,aZ,e0,e0',e1,e2,e3,gl,p5,EF,hc]|refine aQ ?_|with_reducible refine cW (aiW (gM p5 _) _ _) ?_|refine aR ?_ ?_<;>intro hw<;>try omega|fail
    rintro o s ⟨rfl,oM⟩;have y1:s[1]? = some (.cells [.str [],.aP,.aP,I 0,I 0,.aP]):=by rw[oM];exact kZ _ _ (gM e1 _) ae
    have hs1:∀ d,(s.set 1 d)[1]? = some d:=fun d=>bI (jq y1);repeat' first|refine fy (zA y1 hs1) ?_|refine aQ ?_|refine aR ?_ ?_<;>intro hw<;>try omega|fail
    ·rw[hce (by assumption)]at w6;rw[<-hE,w6 (by assumption)];exact g_ (sC (AI _))
    have ha0:a.2=0:=by assumption
    refine⟨(m+1,s),⟨ae,jw ha0,?_,?_,.own E1 (S2.length+1) 1 0 1,?_,?_⟩,by dsimp only;omega,rfl,fU,(by simp only[ha0];exact at_)⟩
    ·dsimp only;rw[oM];simp;omega
    ·intro j o hj hne;dsimp only;rw[oM];exact kZ j o (gM (p4 _ _ hj hne) _) hne
    ·dsimp only;rw[oM,List.getElem?_set_self (by simp;omega)]
    dsimp only;rw[hsc,oM];have:=PS (S1:=S2++[bG.cells [I c.op,I c.v.kind,I c.v.n,.str c.v.s,.str c.s,.aH false EX (c.l.map br)]]) (L:=S1.length) (k:=4) (c:= .cells [x,.own E1 (S2++[bG.cells [I c.op,I c.v.kind,I c.v.n,.str c.v.s,.str c.s,.aH false EX (c.l.map br)]]).length 1 0 1]) (s:=a.1) (by simp;omega) (by simp;omega);simpa using this
   have Xm:q≠4:=ae;have e0':=fun d=>gM e0 d;repeat' first|simp (disch:=omega) only[go_sem,aX,aY,aZ,e0,e0',e1,e2,e3,gl,p5,EF,hc]|refine aQ ?_|with_reducible refine cW (aiY (gM p5 _) (gM JF _) Xm ae _ _) ?_|refine aR ?_ ?_<;>intro hw<;>try omega|fail
   rintro o s ⟨rfl,oM⟩;have y1:s[1]? = some (.cells [.str [],.aP,.aP,I 0,I 0,.aP]):=by rw[oM];exact l6 _ _ (gM e1 _) ae ae
   have hs1:∀ d,(s.set 1 d)[1]? = some d:=fun d=>bI (jq y1);repeat' first|refine fy (zA y1 hs1) ?_|refine aQ ?_|refine aR ?_ ?_<;>intro hw<;>try omega|fail
   ·rw[hce (by assumption)]at w6;rw[<-hE,w6 (by assumption)];exact g_ (sC (AI _))
   have ha0:a.2=0:=by assumption
   refine⟨(m+1,s),⟨ae,jw ha0,?_,?_,.own E1 q (xs.length+1) 0 (xs.length+1),?_,?_⟩,by dsimp only;omega,rfl,fU,(by simp only[ha0];exact at_)⟩
   ·dsimp only;rw[oM];simp;omega
   ·intro j o hj hne;dsimp only;have:=jq hj;rw[oM];exact l6 j o (gM (p4 _ _ hj hne) _) hne ae
   ·dsimp only;rw[oM,List.getElem?_set_self (by simp;omega)]
   dsimp only;rw[hsc,oM];exact SC (gM JF _) hq (Ne.symm Xm)
  obtain rfl:m=l.outs.length:=ae;have aeE:=alp p2;have hxv:s7 (S.length+1) S2 x (bH l l.cells.length):=g6.keep (aV _) (fun q ys hq JF=>p4 q _ JF ae);have hxs:=hxv.scalar;have hys:=p6.scalar;have hrv:ZK S2 (.agg [x,y]) ⟨bH l l.cells.length,ri l l.outs.length⟩:=⟨x,y,rfl,hxv.keep (cD _) (fun _ _ _ h=>h),p6.keep (cD _) (fun _ _ _ h=>h)⟩;have hfit:([AV.agg [x,y]].all fun a=>AV.fits ⟨true,2⟩ a)=true:=by simp only[AV.fits,aE,a_,List.all_cons,List.all_nil,hxs,hys];rfl
  have aa3:AV.fits ⟨true,2⟩ (.agg [x,y])=true:=by simpa using hfit
  have hkS:∀ (q:Nat) (o:bG),S[q]? = some o->q≠4->S2[q]? = some o:=fun q o hq hne=>p4 q o (g4 q o hq hne) hne;rcases h4 with⟨h4,rfl⟩|⟨h4,q,rs,hq,rfl,JF,hr⟩
  ·have hap:∀ d:bG,(S2++[d])[3]? = some (PO t .aP):=fun d=>gM e3 d;repeat' first|simp (disch:=omega) only[go_sem,aX,aY,aZ,e0,e1,e2,e3,p5,hap,hfit,aa3,EF]|refine aQ ?_|refine aR ?_ ?_<;>intro hw<;>try omega|fail
   refine⟨(n+1,_),⟨ae,cS (q:=fun j=>(oA t j).2.2=0) h2 (by rw[hrow,Xl,EF,aeE]),?_,?_,?_,?_,⟨.own ER S2.length 1 0 1,?_,?_⟩,x,y,?_⟩,by dsimp only;omega,rfl,fU,at_⟩
   ·dsimp only;simp;omega
   ·exact kZ _ _ e0 ae
   ·exact kZ _ _ e1 ae
   ·exact kZ _ _ e2 ae
   ·dsimp only;rw[List.getElem?_set_self (by simp;omega)]
   ·dsimp only;rw[En,h4];refine .inr ⟨aT,S2.length,[.agg [x,y]],ae,rfl,?_,mT.keep (fun q ys hq=>kZ _ _ hq (fun e=>by subst e;rw[e3]at hq;cases hq)) (mT.snoc (mT.nil S2) hrv)⟩;rw[aI ae];simp
   exact kZ _ _ p5 ae
  have hq3:q≠3:=ae;have e4:=hkS _ _ JF ae;rw[uX]at e3;have hrn:rs.length=n:=by rw[hr.1,uX]
  have hap:∀ d:bG,(S2.set q d)[3]? = some (PO t (.own ER q n 0 n)):=fun d=>by rw[aI hq3];exact e3
  repeat' first|simp (disch:=omega) only[go_sem,aX,aY,aZ,e0,e1,e2,e3,p5,hap,hfit,aa3,e4,EF,hrn]|refine aQ ?_|refine aR ?_ ?_<;>intro hw<;>try omega|fail
  refine⟨(n+1,_),⟨ae,cS (q:=fun j=>(oA t j).2.2=0) h2 (by rw[hrow,Xl,EF,aeE]),?_,?_,?_,?_,⟨.own ER q (n+1) 0 (n+1),?_,?_⟩,x,y,?_⟩,by dsimp only;omega,rfl,fU,at_⟩
  ·dsimp only;simp;omega
  ·exact l6 _ _ e0 ae ae
  ·exact l6 _ _ e1 ae ae
  ·exact l6 _ _ e2 ae ae
  ·dsimp only;rw[List.getElem?_set_self (by simp;omega)]
  ·dsimp only;rw[En];have Mz:mT S2 rs (uv t n):=hr.keep (fun q ys hq=>hkS _ _ hq (fun e=>by subst e;rw[f4]at hq;cases hq));refine .inr ⟨aT,q,rs++[.agg [x,y]],hq,by simp[uX],?_,mT.keep (fun p ys hp=>l6 _ _ hp (fun e=>by subst e;rw[e3]at hp;cases hp) (fun e=>by subst e;rw[e4]at hp;cases hp)) (mT.snoc Mz hrv)⟩;rw[aI (Ne.symm hq3),bI (jq e4)]
  exact l6 _ _ p5 ae ae
 obtain rfl:n=ls.length:=ae;have hva:([AV.str t.name,.aH false EC (t.ins.map dS),.aH false EC (t.outs.map dS),I t.dF,I t.agg,v].all AV.scalar)=true:=by simp only[List.all_cons,List.all_nil,hvs];rfl
 have hs1:∀ o,(S.set 1 o)[1]? = some o:=fun o=>bI (jq f1);repeat' first|refine fy (zC f0 f1 f2 (zB f3 hva hs1)) ?_|refine aQ ?_|refine aR ?_ ?_<;>intro hw<;>try omega|fail
 have h5:=h4.keep (S':=S.set 1 (PO t v)) (fun q o hq hne=>by
  rw[List.getElem?_set_ne (fun e=>by subst e;rw[f1]at hq;cases hq;exact hne _ rfl)];exact hq)
 rw[<-hE,hco h2];exact g_ (sC (View.r_ (.cons (.refl _ rfl) (.cons (.refl _ (j9 _)) (.cons (.refl _ (j9 _)) (.cons (.refl _ rfl) (.cons (.refl _ rfl) (.cons h5.view (.nil _)))))))))
def KU{α : Type}[Inhabited α]{p : α->Bool}{l:List α}(h:∀ k,k<l.length->p (l.getD k default)=true): l.all p=true:=by
 rw[bt];intro x hx;obtain⟨i,hi,rfl⟩:=bY hx;have:=h i hi;rwa[aj,aJ hi,bF]at this
def KV{α : Type}[Inhabited α]{p : α->Bool}{l:List α}{i:Nat}(hi:i<l.length)(h:p (l.getD i default)=false): l.all p=false:=by
 cases hq:l.all p with
 | false=>rfl
 | true=>rw[List.all_eq_true]at hq;rw[hq _ (dh hi)]at h;cases h
def KW(n:Nat)(s:bj): Bool:=decide (s.length<=n)
def EG(l:List bj): Bool:=decide (l.length<=10) && l.all (KW 300)
def GU(l:List bj): aA aM 41 [ji l] (.bool (EG l)):=by
 obtain⟨E,hE⟩:=gi (EG l);rw[hE];unfold EG at hE;simp only[ji];refine bB Kr ?_;intro Q aX aY aZ;repeat' first|refine aQ ?_|refine aR ?_ ?_<;>intro hw<;>try omega|fail
 ·refine bu ?_ rfl;rw[<-hE,decide_eq_false ae,iy]
 have h10:l.length<=10:=ae;rw[fT h10,iN]at hE;with_reducible refine dA [2,2,7,12] (fun i:Nat=>[(3,I i)]) (fun _=>[]) (fun i=>i<=l.length/\ ∀ k,k<i->KW 300 (l.getD k default)=true) (fun i=>l.length-i) (0) ?_ ?_ ?_ ?_
 ·simp
 ·rfl
 ·exact at_
 rintro i r ⟨h1,h2⟩;by_cases hi:i<l.length
 ·have hne:=fun h=>KV (p:=KW 300) hi h;have fF:=fun he=>cS (q:=fun k=>KW 300 (l.getD k default)=true) h2 (i:=i) he;have hS:KW 300 (l.getD i default)=decide ((l.getD i default).length<=300):=rfl;rw[hS]at hne fF;repeat' first|refine aQ ?_|refine aR ?_ ?_<;>intro hw<;>try omega|fail
  all_goals first
   | exact eu
   |(refine bu ?_ rfl;rw[<-hE,hne (decide_eq_false ae)])
   | (refine ⟨i + 1, ?_, ?_, by first | rfl | (simp [go_sem]; done), fU, at_⟩ <;> (try dsimp only)
      ·exact⟨ae,fF (fT ae)⟩
      ·omega)
 repeat' first|refine aQ ?_|refine aR ?_ ?_<;>intro hw<;>try omega|fail
 refine bu ?_ rfl;rw[<-hE,KU (fun k hk=>h2 k ae)]
def FQ(c:fh): Bool:=decide (c.name.length<=300)
def EH(l:List fh): Bool:=decide (l.length<=12) && l.all FQ
def Xn(l:List fh): aA aM 91 [ei l] (.bool (EH l)):=by
 obtain⟨E,hE⟩:=gi (EH l);rw[hE];unfold EH at hE;simp only[ei];refine bB Ga ?_;intro Q aX aY aZ;repeat' first|refine aQ ?_|refine aR ?_ ?_<;>intro hw<;>try omega|fail
 ·refine bu ?_ rfl;rw[<-hE,decide_eq_false ae,iy]
 have h10:l.length<=12:=ae;rw[fT h10,iN]at hE;with_reducible refine dA [2,2,7,13] (fun i:Nat=>[(3,I i)]) (fun _=>[]) (fun i=>i<=l.length/\ ∀ k,k<i->FQ (l.getD k default)=true) (fun i=>l.length-i) (0) ?_ ?_ ?_ ?_
 ·simp
 ·rfl
 ·exact at_
 rintro i r ⟨h1,h2⟩;by_cases hi:i<l.length
 ·have hne:=fun h=>KV (p:=FQ) hi h;have fF:=fun he=>cS (q:=fun k=>FQ (l.getD k default)=true) h2 (i:=i) he;have hS:FQ (l.getD i default)=decide ((l.getD i default).name.length<=300):=rfl;rw[hS]at hne fF;repeat' first|refine aQ ?_|refine aR ?_ ?_<;>intro hw<;>try omega|fail
  all_goals first
   | exact eu
   |(refine bu ?_ rfl;rw[<-hE,hne (decide_eq_false ae)])
   | (refine ⟨i + 1, ?_, ?_, by first | rfl | (simp [go_sem]; done), fU, at_⟩ <;> (try dsimp only)
      ·exact⟨ae,fF (fT ae)⟩
      ·omega)
 repeat' first|refine aQ ?_|refine aR ?_ ?_<;>intro hw<;>try omega|fail
 refine bu ?_ rfl;rw[<-hE,KU (fun k hk=>h2 k ae)]
def HR(v:jC): Bool:=decide (v.s.length<=300)
def KX(c:fh): Bool:=decide (c.order.length<=12) && c.order.all HR
def B5(l:List fh): Bool:=EH l && l.all KX
def GV(l:List fh): aA aM 40 [ei l] (.bool (B5 l)):=by
 have cf:=Xn l;obtain⟨E,hE⟩:=gi (B5 l);rw[hE];unfold B5 at hE;have h12:EH l=true->l.length<=12:=fun h=>by simp only[EH,aD,au]at h;exact h.1
 simp only[ei]at cf |-;generalize EH l=fe at *;refine bB Kq ?_;intro Q aX aY aZ;cases fe with
 | false =>
   repeat' first|refine aQ ?_|refine aR ?_ ?_<;>intro hw<;>try omega|fail
   all_goals first
    | exact eu
    |(refine bu ?_ rfl;rw[<-hE,iy])
 | true =>
   rw[iN]at hE;have h12:=h12 rfl;repeat' first|refine aQ ?_|refine aR ?_ ?_<;>intro hw<;>try omega|fail
   all_goals first|exact eu|skip
   with_reducible refine dA [2,3,8,34] (fun i:Nat=>[(3,I i)]) (fun _=>[]) (fun i=>i<=l.length/\ ∀ k,k<i->KX (l.getD k default)=true) (fun i=>l.length-i) (0) ?_ ?_ ?_ ?_
   ·simp
   ·rfl
   ·exact at_
   rintro i r ⟨h1,h2⟩;by_cases hi:i<l.length
   ·have hne:=fun h=>KV (p:=KX) hi h;have fF:=fun he=>cS (q:=fun k=>KX (l.getD k default)=true) h2 (i:=i) he;have hS:KX (l.getD i default)=(decide ((l.getD i default).order.length<=12) && (l.getD i default).order.all HR):=rfl;rw[hS]at hne fF;obtain⟨c,hc⟩:=gi (l.getD i default);rw[hc]at hne fF;clear hS;repeat' first|refine fy hc ?_|refine aQ ?_|refine aR ?_ ?_<;>intro hw<;>try omega|fail
    ·refine bu ?_ rfl;rw[<-hE,hne (by rw[decide_eq_false ae,iy])]
    have ho:c.order.length<=12:=ae;rw[fT ho,iN]at hne fF;with_reducible refine dA [2,1,4,1,21,21] (fun j:Nat=>[(4,I j)]) (fun _=>[]) (fun j=>j<=c.order.length/\ ∀ k,k<j->HR (c.order.getD k default)=true) (fun j=>c.order.length-j) (0) ?_ ?_ ?_ ?_
    ·simp
    ·rfl
    ·exact at_
    rintro j r2 ⟨g1,g2⟩;by_cases hj:j<c.order.length
    ·have aeF:=fun h=>KV (p:=HR) hj h;have kg:=fun he=>cS (q:=fun k=>HR (c.order.getD k default)=true) g2 (i:=j) he;have hS:HR (c.order.getD j default)=decide ((c.order.getD j default).s.length<=300):=rfl;rw[hS]at aeF kg;repeat' first|refine fy hc ?_|refine aQ ?_|refine aR ?_ ?_<;>intro hw<;>try omega|fail
     all_goals first
      | exact eu
      |(refine bu ?_ rfl;rw[<-hE,hne (aeF (decide_eq_false ae))])
      | (refine ⟨j + 1, ?_, ?_, by first | rfl | (simp [go_sem]; done), fU, at_⟩ <;> (try dsimp only)
         ·exact⟨ae,kg (fT ae)⟩
         ·omega)
    repeat' first|refine fy hc ?_|refine aQ ?_|refine aR ?_ ?_<;>intro hw<;>try omega|fail
    refine⟨i+1,?_,?_,by first|rfl|(simp[go_sem];done),fU,at_⟩<;>(try dsimp only)
    ·exact⟨ae,fF (KU (fun k hk=>g2 k ae))⟩
    omega
   repeat' first|refine aQ ?_|refine aR ?_ ?_<;>intro hw<;>try omega|fail
   refine bu ?_ rfl;rw[<-hE,KU (fun k hk=>h2 k ae)]
def KY(r:gX): Bool:=EG r.cells && EG r.outs
def AJ(t:Table): Bool:=decide (t.name.length<=300) && decide (t.rules.length<=26) && B5 t.ins && B5 t.outs && t.rules.all KY
def Rx(t:Table): aA aM 14 [fV t] (.bool (AJ t)):=by
 have ci:=GV t.ins;have co:=GV t.outs;obtain⟨E,hE⟩:=gi (AJ t);rw[hE];unfold AJ at hE;simp only[fV,kI,ei,jj]at ci co |-;generalize B5 t.ins=oi at *;generalize B5 t.outs=oo at *;refine bB HD ?_;intro Q aX aY aZ;by_cases hb:(decide (t.name.length<=300) && decide (t.rules.length<=26) && oi && oo)=true
 case neg =>
  simp only[gN]at hb;rw[hb,iy]at hE;cases oi<;>cases oo
  all_goals
   repeat' first|refine aQ ?_|refine aR ?_ ?_<;>intro hw<;>try omega|fail
  all_goals first
   | exact eu
   |(refine bu ?_ rfl;rw[<-hE])
   |(exfalso;simp at hb;omega)
 rw[hb,iN]at hE;simp only[aD,au]at hb;obtain⟨⟨⟨b1,b2⟩,rfl⟩,rfl⟩:=hb;repeat' first|refine aQ ?_|refine aR ?_ ?_<;>intro hw<;>try omega|fail
 all_goals first|exact eu|skip
 with_reducible refine dA [2,2,26,25] (fun i:Nat=>[(3,I i)]) (fun _=>[.cells [.str t.name,.aH false EC (t.ins.map dS),.aH false EC (t.outs.map dS),I t.dF,I t.agg,.aH false ER (t.rules.map gG)]]) (fun i=>i<=t.rules.length/\ ∀ k,k<i->KY (t.rules.getD k default)=true) (fun i=>t.rules.length-i) (0) ?_ ?_ ?_ ?_
 ·simp
 ·rfl
 ·exact at_
 rintro i r ⟨h1,h2⟩;by_cases hi:i<t.rules.length
 ·have hne:=fun h=>KV (p:=KY) hi h;have fF:=fun he=>cS (q:=fun k=>KY (t.rules.getD k default)=true) h2 (i:=i) he;have hS:KY (t.rules.getD i default)=(EG (t.rules.getD i default).cells && EG (t.rules.getD i default).outs):=rfl;have c1:=GU (t.rules.getD i default).cells;have c2:=GU (t.rules.getD i default).outs;rw[hS]at hne fF;simp only[ji]at c1 c2;generalize EG (t.rules.getD i default).cells=u1 at *;generalize EG (t.rules.getD i default).outs=u2 at *;cases u1<;>cases u2
  all_goals
   repeat' first|refine aQ ?_|refine aR ?_ ?_<;>intro hw<;>try omega|fail
  all_goals first
   | exact eu
   |(refine bu ?_ rfl;rw[<-hE,hne rfl])
   | (refine ⟨i + 1, ?_, ?_, by first | rfl | (simp [go_sem]; done), fU, at_⟩ <;> (try dsimp only)
      ·exact⟨ae,fF rfl⟩
      ·omega)
 repeat' first|refine aQ ?_|refine aR ?_ ?_<;>intro hw<;>try omega|fail
 refine bu ?_ rfl;rw[<-hE,KU (fun k hk=>h2 k ae)]
set_option maxRecDepth 8000
def UJ(v:jC): Prop:= -9223372036854775808<=v.n/\v.n<=9223372036854775807
def UK(l:List fh): Prop:= ∀ c ∈ l,∀ v ∈ c.order,UJ v
def D2(t:Table): Prop:=UK t.ins/\UK t.outs
def SD{l:List fh}(h:B5 l=true)(hr:UK l): l.length<=12/\ ∀ c ∈ l,wD c:=by
 simp only[B5,EH,aD,au,bt]at h;obtain⟨⟨h1,h2⟩,h3⟩:=h;refine⟨h1,fun c hc=>?_⟩;have a:=h2 c hc;have b:=h3 c hc;simp only[FQ,KX,aD,au,bt]at a b;refine⟨ae,ae,fun v hv=>⟨hr c hc v hv,?_⟩⟩;have:=b.2 v hv;simp only[HR,au]at this;omega
def PV{l:List bj}(h:EG l=true): l.length<=10/\ ∀ s ∈ l,s.length<=300:=by
 simp only[EG,aD,au,bt]at h;exact⟨h.1,fun s hs=>by have:=h.2 s hs;simpa[KW]using this⟩
def ZM{t:Table}(h:AJ t=true)(hr:D2 t): qt t:=by
 simp only[AJ,aD,au,bt]at h;obtain⟨⟨⟨⟨h1,h2⟩,h3⟩,h4⟩,h5⟩:=h;have ci:=SD h3 hr.1;have co:=SD h4 hr.2;refine⟨ae,⟨ae,ci.2⟩,⟨ae,co.2⟩,ae,fun r Wr=>?_⟩;have:=h5 r Wr;simp only[KY,aD]at this;have a:=PV this.1;have b:=PV this.2;exact⟨⟨ae,fun s hs=>by have:=a.2 s hs;omega⟩,ae,fun s hs=>by have:=b.2 s hs;omega⟩
def SE{l:List fh}(h:l.length<=2^30/\ ∀ c ∈ l,wD c): PK l:=⟨ae,fun c hc=>(h.2 c hc).2.1⟩
def Xo{t:Table}(h:qt t): JD t:=⟨SE h.2.1,SE h.2.2.1,by have:=h.2.2.2.1;omega,fun r hr=>by
 have:=h.2.2.2.2 r hr;exact⟨ae,ae⟩⟩
def SG: JD xH:=⟨⟨dV,fun c hc=>(by cases hc)⟩,⟨dV,fun c hc=>(by cases hc)⟩,dV,fun c hc=>(by cases hc)⟩
def ZN{t:Table}(h:qt t): JD (jk t).1:=by
 by_cases he:(fQ t).2.2.2=0
 ·unfold jk;rw[aq ae];split
  ·exact SG
  obtain⟨a,b,c,d⟩:=Xo h;obtain⟨h1,h2⟩:=zP h he;refine⟨a,b,?_,fun r hr=>?_⟩
  ·dsimp only;rw[uX];omega
  obtain⟨k,_,rfl⟩:=eL.1 hr;have hk:=h2 k;unfold oA;rw[PN];refine⟨?_,?_⟩
  ·dsimp only;rw[B0];have:=hk.1.1;omega
  dsimp only;rw[ED];have:=hk.2.1;omega
 rw[uw he];exact SG
end Go.Proofs.YtdohdkdejmhgnaaGreatDoor
namespace Go.AM
open Go.ChangeShapes Go.WideShapes
section
variable {H:Type} {enc:TypeId × Value->H} {P:Program} {w w':World} {base:Nat} {spare:Nat->Bool} {held:Bool}
def s8: ∀ {ts:List TypeId} {vs:List Value} {ds:List (DataW H)} {ps:List MemPlace},DataW.TrodAll enc P w base spare held ts vs ds ps->(∀ p ∈ ps,w.sameAt w' p)->DataW.TrodAll enc P w' base spare held ts vs ds ps
 | [],[],[],_,h,_=>h
 | _::_,_::_,_::_,_,⟨p,q,⟨n,hn⟩,h2,e⟩,hs=>⟨p,q,⟨n,DataW.trod_carry n _ _ _ hn (fun x hx=>hs x (by rw[e];exact fS _ hx))⟩,s8 h2 (fun x hx=>hs x (by rw[e];exact List.mem_append_right _ hx)),e⟩
def JG{may:MemPlace->Prop}(h1:w'.os=w.os)(h2:w'.output=w.output)(h3:∀ b,b<w.heap.size->w'.heap[b]? = w.heap[b]?): w.keptBut w' may:=by
 refine⟨h1,h2,fun i hi=>?_⟩;rw[h3 i hi];split
 ·rename_i a b ha hb;rw[ha]at hb;cases Option.some.inj hb;exact⟨rfl,rfl,rfl,fun _ _=>rfl⟩
 ·rename_i a b ha hb;rw[ha]at hb;cases Option.some.inj hb;exact .inr ⟨rfl,rfl⟩
 rfl
def KZ(h3:∀ b,b<w.heap.size->w'.heap[b]? = w.heap[b]?){p:MemPlace}(hp:p.block<w.heap.size): w.sameAt w' p:=by
 cases p with
 | cell b off=>exact mC (h3 b hp) off none
 | map b=>exact h3 b hp
def aC.all(w:World): aC:=aC.bare (· < w.heap.size)
def M6 {f : FuncId} {fn : Func} {s : ChangeSpec} {t : TypeId} {args' : List AV} {W : World} {args : Array Value} {ds gs : List (DataW H)} {before : List MemPlace}
    (h:aA P f args' (.bool true)) (hW:DataW.Whole enc P fn.params.toList s.vars false W args.toList ds gs before) (hG:yp (aC.all W) W)
    (K:Kids P (· < P.types.size)) (hz:∀ t e,t<P.types.size->P.underlying t=some (.slice e)->0<P.cellsOf e) (hps:∀ t ∈ fn.params.toList,t<P.types.size)
    (hvars:s.vars=[]) (hrt:fn.resultTypes = #[t]) (ht:P.underlying t=some .bool) (hfn:s.fn H (ds++gs) = { results:=[.lit (.bool true)],args:=ds,vars:=[] })
    (hl:args'.length=args.size) (hv:∀ i,i<args'.length->VR (aC.all W) W (args'.getD i .undef) (args.getD i Go.undef)) :
    Calls P f args W fun e W'=> ∃ v,e = .returned v/\s.post enc P fn false true false false W args v W':=by
 refine((h []).2 (aC.all W) W args (Rel.bare (fun _ h=>h) hG) hl hv).mono ?_;rintro e W' ⟨out,g',σ',hR,hE,hO,rfl,rfl⟩;have hfr:∀ b,b<W.heap.size->W'.heap[b]? = W.heap[b]?:=fun b hb=>hE.frame b hb iG;cases e with
 | panicked c=>exact hO.elim
 | outgrown=>exact hO.elim
 | returned v =>
   have hb:v = .bool true:=by cases hO;rfl
   subst hb;refine⟨_,rfl,ds,gs,before,[],before,[],hW,?_,?_,?_,JG hE.os hE.output hfr,fun h=>by cases h⟩
   ·rw[hfn,hrt];exact trodAll_mk1 (RowKit.shut_bool ht true)
   ·rw[hfn];have hlt:=hW.lt;obtain⟨p,q,h1,h2,rfl,_,_⟩:=hW;rw[hvars]at h2;obtain⟨rfl,rfl⟩:=trodVars_none h2;rw[cI]at hlt |-;refine s8 (DataW.TrodAll.respare K hz hps h1 (fun x hx=>by simpa using hlt x hx)) (fun x hx=>KZ hfr (hlt x hx))
   rw[hfn,hvars];rfl
def VR.string{g:aC}{w:World}(s:ByteArray): VR g w (.str s.data.toList) (.string s):=VR.str s.data.toList
end
def qU(g:aC)(w:World)(az:List AV)(vs:List Value): Prop:=az.length=vs.length/\ ∀ i,i<az.length->VR g w (az.getD i .undef) (vs.getD i Go.undef)
def qU.nil(g:aC)(w:World): qU g w [] []:=⟨rfl,fun i hi=>by cases hi⟩
def qU.app{g:aC}{w:World}{a b:List AV}{x y:List Value}(h:qU g w a x)(k:qU g w b y): qU g w (a++b) (x++y):=by
 have h1:=h.1;refine⟨by simp[h.1,k.1],fun i hi=>?_⟩;rw[aG]at hi;by_cases hl:i<a.length
 ·have:=h.2 i hl;rw[aj,aj]at this |-;rw[aO hl,aO ae];exact this
 have:=k.2 (i-a.length) ae;rw[aj,aj]at this |-;rw[bx ae,bx ae,<-h1];exact this
def qU.one{g:aC}{w:World}{a:AV}{x:Value}(h:VR g w a x): qU g w [a] [x]:=⟨rfl,fun i hi=>by
 match i,hi with
 | 0,_=>exact h⟩
def qU.agg{g:aC}{w:World}{az:List AV}{vs:Array Value}(h:qU g w az vs.toList)(hs:az.all AV.scalar=true): VR g w (.agg az) (.agg vs):=by
 refine .agg az vs (by simpa using h.1) hs (fun i hi=>?_);have:=h.2 i hi;simpa[aj,bQ]using this
section
variable {H:Type} {enc:TypeId × Value->H} {P:Program} {w:World}
def Reads(enc:TypeId × Value->H)(P:Program)(w:World)(N:Nat)(t:TypeId)(n:Nat){α : Type}(E : α->List AV)(G : α->Prop): Prop :=
 P.cellsOf t=n/\(∀ a,(E a).length=n)/\ ∀ fuel cs x,fuel<=N->DataW.trod enc P w 0 (fun _=>true) true fuel t cs=some x-> ∃ a,G a/\qU (aC.all w) w (E a) cs
def Reads.weak{N t n:Nat}{α : Type}{E : α->List AV}{G G' : α->Prop}(h:Reads enc P w N t n E G)(hg:∀ a,G a->G' a): Reads enc P w N t n E G' :=
 ⟨h.1,h.2.1,fun f cs x hf hx=>by obtain⟨a,h1,h2⟩:=h.2.2 f cs x hf hx;exact⟨a,hg a h1,h2⟩⟩
def Reads.map{N t n:Nat}{α β : Type}{E : α->List AV}{G : α->Prop}{E' : β->List AV}{G' : β->Prop}(h:Reads enc P w N t n E G)(f : α-> β)(hE:∀ a,E' (f a)=E a)(hl:∀ b,(E' b).length=n)(hg:∀ a,G a->G' (f a)): Reads enc P w N t n E' G' :=
 ⟨h.1,hl,fun fu cs x hf hx=>by obtain⟨a,h1,h2⟩:=h.2.2 fu cs x hf hx;exact⟨f a,hg a h1,by rw[hE];exact h2⟩⟩
def Reads.int{N t:Nat}(ht:P.underlying t=some (.int .i64))(hc:P.cellsOf t=1): Reads enc P w N t 1 (fun n:Int=>[.int .i64 n]) (fun n=> -9223372036854775808<=n/\n<=9223372036854775807) :=
 ⟨hc, fun _ => rfl, fun f cs x _ hx => by
   obtain⟨n,rfl,_,wf⟩:=DataW.trod_int ht hx;exact⟨n,by simpa[Lit.wf,IntKind.min,IntKind.max,IntKind.signed,IntKind.bits]using wf,qU.one (.int _ _)⟩⟩
def Reads.str{N t:Nat}(ht:P.underlying t=some .string)(hc:P.cellsOf t=1): Reads enc P w N t 1 (fun s:List UInt8=>[.str s]) (fun _=>True) :=
 ⟨hc, fun _ => rfl, fun f cs x _ hx => by
   obtain⟨s,rfl,_,_⟩:=DataW.trod_string ht hx;exact⟨s.data.toList,trivial,qU.one (VR.string s)⟩⟩
def Reads.bool{N t:Nat}(ht:P.underlying t=some .bool)(hc:P.cellsOf t=1): Reads enc P w N t 1 (fun b:Bool=>[.bool b]) (fun _=>True) :=
 ⟨hc, fun _ => rfl, fun f cs x _ hx => by
   obtain⟨b,rfl,_⟩:=DataW.trod_bool ht hx;exact⟨b,trivial,qU.one (.bool b)⟩⟩
def Reads.slice {N t e n : Nat} {α : Type} [Inhabited α] {E : α -> List AV} {G : α -> Prop} (el : El) (mk : α -> AV) (ht : P.underlying t = some (.slice e)) (hc : P.cellsOf t = 1) (h : Reads enc P w N e n E G) (Gy : 0 < n) (hsz : el.sz = n)
    (hfit:∀ a,(mk a).fits el=true) (hcell:∀ a c,c<n->(mk a).cell c=(E a).getD c .undef):Reads enc P w (N+1) t 1 (fun l:List α=>[.aH false el (l.map mk)]) (fun l=> ∀ a ∈ l,G a):=by
 refine⟨hc,fun _=>rfl,fun fuel cs x hf hx=>?_⟩;rcases DataW.trod_slice ht hx with⟨rfl,rfl⟩|⟨a,len,cap,elems,rest,k,hk,rfl,_,_,hl,_,hlen,hel,_,_⟩
 ·exact⟨[],aT,qU.one (.iz _ _ _ _ (fun h=>by cases h))⟩
 have each:∀ i,i<len-> ∃ q : α,G q/\ ∃ cs',w.cells? 0 (a.add (i*P.cellsOf e)) (P.cellsOf e)=some cs'/\qU (aC.all w) w (E q) cs':=fun i hi=>by
  have h1:=hel i hi;rw[aJ ae]at h1;obtain⟨cs',h2,h3⟩:=eR.1 h1;obtain⟨q,h4,h5⟩:=h.2.2 k cs' _ ae h3;exact⟨q,h4,cs',h2,h5⟩
 obtain⟨q,hq⟩:=Deep.choose_lt each;refine⟨(List.range len).map q,fun x hx=>by obtain⟨i,hi,rfl⟩:=eL.1 hx;exact(hq i (eO.1 hi)).1,qU.one ?_⟩;have hn:=h.1;by_cases h0:len=0
 ·subst h0;exact .iz _ _ _ _ (fun h=>by cases h)
 have hcells:∀ i c,i<len->c<n-> ∃ v,w.cell? (a.add (i*n+c))=some v/\VR (aC.all w) w ((E (q i)).getD c .undef) v:=fun i c hi gQ=>by
  obtain⟨_,cs',h2,h3⟩:=hq i hi;rw[hn]at h2;obtain⟨_,h4,h5⟩:=World.cells?_some h2;have h6:=h5 c gQ;rw[Deep.add_add,aJ ae]at h6;have h7:=h3.2 c (by rw[h.2.1];exact gQ);rw[aj (l:=cs'),aJ ae]at h7;exact⟨_,h6,h7⟩
 obtain⟨v0,mz,_⟩:=hcells 0 0 ae ae
 have aa4:a.spot=none:=by
  have:=World.cell?_spot mz;simpa[Addr.add]using this
 obtain⟨b,off,sp⟩:=a;simp only at aa4;subst aa4
 have hlt:b<w.heap.size:=by
  rw[add_plain]at mz;simp only[World.cell?]at mz;split at mz
  ·rename_i x hx;exact(dN.1 hx).1
  ·cases mz
 have nh:∀ i,i<len->(((List.range len).map q).map mk).getD i .undef=mk (q i):=fun i hi=>by
  simp[aj,hi]
 have:=VR.aH (g:=aC.all w) (w:=w) false el (((List.range len).map q).map mk) b off cap hlt (fun h=>by cases h) (by simpa using hl)
  (fun i hi=>by rw[nh i (by simpa using hi)];exact hfit _)
  (fun i c hi gQ => by
    obtain⟨v,hv,_⟩:=hcells i c (by simpa using hi) ae;rw[add_plain]at hv;rw[hsz,hv];rfl)
  (fun i c hi gQ => by
    obtain⟨v,hv,hr⟩:=hcells i c (by simpa using hi) ae;rw[add_plain]at hv;rw[nh i (by simpa using hi),dn,hsz,hv,hcell _ _ ae];exact hr)
 simpa using this
def wR(enc:TypeId × Value->H)(P:Program)(w:World)(N:Nat)(fs:List Field)(o:Nat){α : Type}(E : α->List AV)(G : α->Prop): Prop :=
 ∀ (cs : List Value) (fuel : Nat) (ys : List (DataW H × List MemPlace)), fuel <= N -> (∀ (i : Nat) (f : Field), fs[i]? = some f -> DataW.trod enc P w 0 (fun _ => true) true fuel f.type ((cs.drop f.offset).take (P.cellsOf f.type)) = ys[i]?) -> ys.length = fs.length ->
   ∃ a,G a/\qU (aC.all w) w (E a) ((cs.drop o).take (E a).length)
def wR.nil{N o:Nat}: wR enc P w N [] o (fun _:Unit=>[]) (fun _=>True):=fun cs fuel ys _ _ _=>⟨(),trivial,by simpa using qU.nil _ _⟩
def wR.cons {N o n : Nat} {f : Field} {fs : List Field} {α β : Type} {E : α -> List AV} {G : α -> Prop} {E' : β -> List AV} {G' : β -> Prop} (h : Reads enc P w N f.type n E G) (ho : f.offset = o) (hk : wR enc P w N fs (o + n) E' G') :
    wR enc P w N (f::fs) o (fun p : α × β=>E p.1++E' p.2) (fun p=>G p.1/\G' p.2):=by
 intro cs fuel ys hf hx hl;cases ys with
 | nil=>simp at hl
 | cons y ys =>
   have h0:=hx 0 f rfl;rw[ho,h.1]at h0;obtain⟨a,g1,v1⟩:=h.2.2 fuel _ _ hf (by simpa using h0);obtain⟨b,g2,v2⟩:=hk cs fuel ys hf (fun i f' vI=>by have:=hx (i+1) f' (by simpa using vI);simpa using this) (by simpa using hl);refine⟨(a,b),⟨g1,g2⟩,?_⟩;have:=v1.app v2;have hlen:=h.2.1 a
   have e:(cs.drop o).take n++(cs.drop (o+n)).take (E' b).length=(cs.drop o).take (E a++E' b).length:=by
    rw[aG,hlen,List.take_add,List.drop_drop]
   rwa[e]at this
def Reads.struct{N t n:Nat}{fs:Array Field}{α : Type}{E : α->List AV}{G : α->Prop}(ht:P.underlying t=some (.struct fs))(hc:P.cellsOf t=n)(hE:∀ a,(E a).length=n)(h:wR enc P w N fs.toList 0 E G): Reads enc P w (N+1) t n E G:=by
 refine⟨hc,hE,fun fuel cs x hf hx=>?_⟩;obtain⟨xs,k,hk,_,hlen,hxl,hfs⟩:=DataW.trod_struct ht hx;obtain⟨a,g,v⟩:=h cs k xs ae (fun i f hf=>hfs i f (by simpa using hf)) (by simpa using hxl);refine⟨a,g,?_⟩;rw[hE,List.drop_zero,cM ae]at v;exact v
def Reads.deep{t n:Nat}{α : Type}{E : α->List AV}{G : α->Prop}(h:∀ N,Reads enc P w N t n E G){v:Value}{d:DataW H}{ps:List MemPlace}(hd:DataW.Trod enc P w 0 (fun _=>true) true t v d ps): ∃ a,G a/\qU (aC.all w) w (E a) v.cells.toList:=by
 obtain⟨f,hf⟩:=hd;exact(h f).2.2 f _ _ (aV _) hf
end
end Go.AM
namespace Go.Proofs.YtdohdkdejmhgnaaGreatDoor
open Go.AM
set_option maxRecDepth 8000
section
variable {H:Type} {enc:TypeId × Value->H} {w:World}
abbrev ZO(n:Int): Prop:= -9223372036854775808<=n/\n<=9223372036854775807
abbrev RD(enc:TypeId × Value->H)(w:World)(N:Nat)(t:TypeId)(n:Nat){α : Type}(E : α->List AV)(G : α->Prop): Prop:=Reads enc Tryz.prog w N t n E G
def JH(N:Nat){t:TypeId}(ht:Tryz.prog.underlying t=some (.int .i64))(hc:Tryz.prog.cellsOf t=1): RD enc w N t 1 (fun n:Int=>[I n]) ZO:=Reads.int ht hc
def JI(N:Nat): RD enc w N 9 1 (fun s:bj=>[.str s]) (fun _=>True):=Reads.str Tryz.underlying9 b_
def SH(N:Nat): RD enc w N 122 1 (fun n:Int=>[I n]) ZO:=JH N Tryz.underlying122 b_
def aeG(N:Nat): RD enc w N 3 1 (fun n:Int=>[I n]) ZO:=JH N Tryz.underlying3 b_
def alq(v:jC): List AV:=[I v.kind,I v.n,.str v.s]
def rd_val(N:Nat): RD enc w (N+1) 124 3 alq UJ:=by
 have h:=Reads.struct (enc:=enc) (w:=w) (N:=N) (n:=3) Tryz.underlying124 b_ (fun _=>rfl) (.cons (SH N) rfl (.cons (aeG N) rfl (.cons (JI N) rfl .nil)));exact h.map (fun p=>⟨p.1,p.2.1,p.2.2.1⟩) (fun _=>rfl) (fun _=>rfl) (fun p h=>h.2.1)
def acm(N:Nat): RD enc w (N+2) 22 1 (fun l:List jC=>[j_ l]) (fun l=> ∀ v ∈ l,UJ v) :=
 Reads.slice EV nL Tryz.underlying22 b_ (rd_val N) dV rfl (fun _=>rfl) (fun _ _ _=>rfl)
def alr(c:fh): List AV:=[.str c.name,I c.kind,j_ c.order]
def aeH(N:Nat): RD enc w (N+3) 181 3 alr (fun c=> ∀ v ∈ c.order,UJ v):=by
 have h:=Reads.struct (enc:=enc) (w:=w) (N:=N+2) (n:=3) Tryz.underlying181 b_ (fun _=>rfl) (.cons (JI _) rfl (.cons (SH _) rfl (.cons (acm N) rfl .nil)));exact h.map (fun p=>⟨p.1,p.2.1,p.2.2.1⟩) (fun _=>rfl) (fun _=>rfl) (fun p h=>h.2.2.1)
def SI(N:Nat): RD enc w (N+4) 51 1 (fun l:List fh=>[ei l]) UK :=
 Reads.slice EC dS Tryz.underlying51 b_ (aeH N) dV rfl (fun _=>rfl) (fun _ _ _=>rfl)
def SJ(N:Nat): RD enc w (N+1) 44 1 (fun l:List bj=>[ji l]) (fun _=>True):=by
 refine(Reads.slice E1 fG Tryz.underlying44 b_ (JI N) dV rfl (fun _=>rfl) ?_).weak (fun _ _=>trivial);intro s c hc;have h0:c=0:=ae;subst h0;rfl
def aiZ(r:gX): List AV:=[ji r.cells,ji r.outs]
def acn(N:Nat): RD enc w (N+2) 99 2 aiZ (fun _=>True):=by
 have h:=Reads.struct (enc:=enc) (w:=w) (N:=N+1) (n:=2) Tryz.underlying99 b_ (fun _=>rfl) (.cons (SJ N) rfl (.cons (SJ N) rfl .nil));exact h.map (fun p=>⟨p.1,p.2.1⟩) (fun _=>rfl) (fun _=>rfl) (fun p h=>trivial)
def ZP(N:Nat): RD enc w (N+3) 54 1 (fun l:List gX=>[jj l]) (fun _=>True) :=
 (Reads.slice ER gG Tryz.underlying54 b_ (acn N) dV rfl (fun _=>rfl) (fun _ _ _=>rfl)).weak (fun _ _=>trivial)
def ZQ(N:Nat): RD enc w (N+5) 56 6 kI D2:=by
 have h:=Reads.struct (enc:=enc) (w:=w) (N:=N+4) (n:=6) Tryz.underlying56 b_ (fun _=>rfl) (.cons (JI _) rfl (.cons (SI N) rfl (.cons (SI N) rfl (.cons (JH _ Tryz.underlying52 b_) rfl (.cons (JH _ Tryz.underlying53 b_) rfl (.cons (ZP (N+1)) rfl .nil))))));exact h.map (fun p=>⟨p.1,p.2.1,p.2.2.1,p.2.2.2.1,p.2.2.2.2.1,p.2.2.2.2.2.1⟩) (fun _=>rfl) (fun _=>rfl) (fun p h=>⟨h.2.1,h.2.2.1⟩)
def Yo{v:Value}{d:DataW H}{ps:List MemPlace}{base:Nat}(hval:Value.okWide Tryz.prog w .any base 56 v)(hd:DataW.Trod enc Tryz.prog w 0 (fun _=>true) true 56 v d ps): ∃ t:Table,D2 t/\VR (aC.all w) w (fV t) v:=by
 obtain⟨cs,rfl,_⟩:=Go.WideShapes.okWide_struct Tryz.underlying56 hval
 obtain⟨t,h1,h2⟩:=Reads.deep (fun N=>by
  have:=ZQ (enc:=enc) (w:=w) N;exact⟨this.1,this.2.1,fun f cs x hf hx=>this.2.2 f cs x ae hx⟩) hd
 exact⟨t,h1,qU.agg h2 rfl⟩
end
open Go.ChangeShapes Go.WideShapes Go.ChangeAt Go.RowKit
def own: ownKnob Tryz.prog.godebug=none:=b_
def kids: Kids Tryz.prog (· < Tryz.prog.types.size):=kids_rows b_ b_
def full: ∀ t e,t<Tryz.prog.types.size->Tryz.prog.underlying t=some (.slice e)->0<Tryz.prog.cellsOf e:=slices_full_of Tryz.prog b_
def yn: List (String × DataW Unit):=Rows.catalogNilRow.laid
def Ry{W:World}(h:laidMetH Tryz.prog yn W): yp (aC.all W) W:=by
 have h:laidMet Tryz.prog yn W:=h;obtain⟨ps,⟨_,_,_,_,_,q,_,_,_,_,⟨_,_,_,_,_,q2,_,_,_,_,⟨g,t,cs,fuel,p,q3,hg,ht,hv,hd,_,_⟩,_⟩,_⟩,_⟩:=h;have e:Rows.laid_internal_strconv_uint64pow10=Lib.tabData (H:=Unit) .u64 Lib.pow10Tab:=b_;rw[e]at hd;have hg1:g=3:=Option.some.inj (hg.symm.trans Lr);subst hg1;have hgt:(Tryz.prog.globals[3]?).map (·.type)=some t:=ht;have ht2:(Tryz.prog.globals[3]?).map (·.type)=some 586:=b_;have e3:t=586:=Option.some.inj (hgt.symm.trans ht2);subst e3;have hcs:=Lib.cells_of_tab Tryz.underlying586 Tryz.underlying228 b_ b_ hd
 have hok:zY W:=by
  show W.var? Tryz.prog "internal/strconv.uint64pow10" = some (Lib.pow10Tab.map fun z => Value.int .u64 z).toArray
  rw[hv,<-hcs]
 refine⟨fun b hb=>?_,hok⟩;simp only[NG,fj,eH,or_false]at hb;subst hb;have hc:=Lib.TabIs.cell hok hg 0 dV;show 3<W.heap.size;simp only[World.cell?]at hc;split at hc
 ·rename_i x hx;exact(dN.1 hx).1
 ·cases hc
def ai0: DataW Unit->List Value
 | .lit (.int k n)=>[.int k n]
 | .agg l => l.map fun d => match d with
   | .lit (.int k n)=> .int k n
   | _=>Go.undef
 | _=>[Go.undef]
def aeI: DataW Unit->Array Value
 | .agg l=>(l.flatMap ai0).toArray
 | _=> #[]
def AK(d:DataW Unit): Obj->Obj
 | .cells _ t fz=> .cells (aeI d) t fz
 | o=>o
noncomputable def n7 (os:Os):World :=
 { World.holding Tryz.prog os ⟨#[],#[],[]⟩with heap:=(((((World.holding Tryz.prog os ⟨#[],#[],[]⟩).heap.modify 2 (AK Rows.laid_unicode_utf8_acceptRanges)).modify 1 (AK Rows.laid_unicode_utf8_first)).modify 3 (AK Rows.laid_internal_strconv_uint64pow10)).modify 4 (AK Rows.laid_math_bits_deBruijn32tab)).modify 5 (AK Rows.laid_math_bits_deBruijn64tab) }
def ZR(os:Os)(args:Array Value): laidMetH Tryz.prog yn ((n7 os).forCall (fun _ _=>0) ⟨#[],args,[]⟩).memory :=
 (laidMet_of_run' 8 b_ b_:laidMet Tryz.prog yn ((n7 os).forCall (fun _ _=>0) ⟨#[],args,[]⟩).memory)
set_option maxRecDepth 100000 in
def ah_ {H : Type} {enc : TypeId × Value -> H} {os : Os} {f : FuncId} {fn : Func} {s : ChangeSpec} (wE : Array Value)
    (started:os.Started) (noInit:Tryz.checked.prog.inits.idxOf? f=none) (hfn:Tryz.checked.prog.funcs[f]? = some fn)
    (hv:((n7 os).forCall (fun _ _=>0) ⟨#[],wE,[]⟩).variablesB Tryz.checked.prog=true)
    (hr : (((n7 os).forCall (fun _ _ => 0) ⟨#[], wE, []⟩).heap.toList.drop Tryz.checked.prog.globals.size).take ((begin Tryz.checked.prog (fun _ _ => 0) default).world.heap.size - Tryz.checked.prog.globals.size) =
      (begin Tryz.checked.prog (fun _ _=>0) default).world.heap.toList.drop Tryz.checked.prog.globals.size)
    (hok:Input.okWideB Tryz.checked.prog ((n7 os).forCall (fun _ _=>0) ⟨#[],wE,[]⟩) f ⟨#[],wE,[]⟩=true)
    (hpre:s.preB enc Tryz.checked.prog fn [] false ((n7 os).forCall (fun _ _=>0) ⟨#[],wE,[]⟩).memory wE 8=true)
    (hsz:s.sizedB enc Tryz.checked.prog fn false ((n7 os).forCall (fun _ _=>0) ⟨#[],wE,[]⟩).memory wE 8=true)
    (contract : ∀ (W : World) (base : Nat) (args : Array Value) (ds gs : List (DataW H)) (before : List MemPlace),
      (∀(j:Nat) t v,fn.params[j]? = some t->args[j]? = some v->Value.okWide Tryz.prog W .any base t v) ->
      DataW.Whole enc Tryz.prog fn.params.toList s.vars false W args.toList ds gs before->yp (aC.all W) W ->
      Calls Tryz.prog f args W fun e W'=> ∃ v,e = .returned v/\s.post enc Tryz.prog fn false true false false W args v W') :
    ReturnsInHanded {} Tryz.checked os f .any (fun w args=>(s.pre enc Tryz.checked.prog fn [] false w args/\laidMetH Tryz.prog yn w)/\sizedMet enc Tryz.checked.prog fn (OpenSpec.ofChange s) false w args) (s.post enc Tryz.checked.prog fn false true false false):=by
 refine returnsInHanded_of_change_and (C:=Tryz.checked) (X:=fun w _=>laidMetH Tryz.prog yn w) (fun _ _ _ hh h=>h.of_heap hh) own started noInit hfn
  (ChangeSpec.witness_at (enc:=enc) (C:=Tryz.checked) (os:=os) (X:=fun w _=>laidMetH Tryz.prog yn w) false (n7 os) wE 8 rfl hv hr hok hpre hsz (ZR os _)) ?_
 intro W base args ds gs before h1 h2 _ _ hL _;exact contract W base args ds gs before h1 h2 (Ry hL)
def ada: Value:= .agg #[.string ByteArray.empty,.slice none 0 0,.slice none 0 0,.int .i64 0,.int .i64 0,.slice none 0 0]
def aia{a b c:AV}{x y z:Value}{g:aC}{w:World}(h1:VR g w a x)(h2:VR g w b y)(h3:VR g w c z): ∀ i,i<[a,b,c].length->VR g w ([a,b,c].getD i .undef) (#[x,y,z].getD i Go.undef):=by
 intro i hi
 match i,hi with
 | 0,_=>exact h1
 | 1,_=>exact h2
 | 2,_=>exact h3
def ZS(P:Program)(h:P.funcs.any Func.goes=false)(f:FuncId): P.goes f=false:=by
 unfold Program.goes;rw[h,Bool.and_false,Bool.or_false,List.any_eq_false];intro g _;cases hg:P.funcs[g]? with
 | none=>simp
 | some fn =>
   rw[Array.any_eq_false]at h;obtain⟨hl,rfl⟩:=dN.1 hg;simpa using h g hl
def S8(P:Program)(h:P.funcs.any Func.goes=false)(c:OpenClaim)(hs:c.start = .entering): false=c.goesBy P:=by
 unfold OpenClaim.goesBy Program.goesAt Program.goesFrom;rw[hs];cases P.funcNamed c.func with
 | none=>rfl
 | some f=>show false=(P.goes f || false);rw[ZS P h];rfl
def Vo: Tryz.pinned.checked.prog.funcs.any Func.goes=false:=b_
def abl: laidOutB Tryz.checked.prog=true:=b_
def abm: mapsRowed Tryz.checked.prog=true:=b_
def Yp: Tryz.checked.prog.stopsHeard=true:=b_
def Yq: Tryz.checked.prog.mayEnter=true:=b_
abbrev TK:=Int × bj × Int
def tk(t:Tok): TK:=(t.kind,t.s,t.n)
def Bs(r:bj): Prop:=r.head? = some 32
def Lx(B:bj->Prop)(s:bj)(ks:List TK): Prop:= ∀ r,B r-> ∀(f pos:Nat) (acc:List Tok),(s++r).length<f-> ∃ f' ts,r.length<f'/\rA f (s++r) pos acc=rA f' r (pos+s.length) (acc++ts)/\ts.map tk=ks
def Lx.nil(B:bj->Prop): Lx B [] []:=fun r _ f pos acc hf=>⟨f,[],hf,aT,rfl⟩
def Lx.app{B1 B2:bj->Prop}{s1 s2:bj}{k1 k2:List TK}(h1:Lx B1 s1 k1)(h2:Lx B2 s2 k2)(hb:∀ r,B2 r->B1 (s2++r)): Lx B2 (s1++s2) (k1++k2):=by
 intro r hr f pos acc hf;obtain⟨f1,t1,a1,b1,c1⟩:=h1 (s2++r) (hb r hr) f pos acc (by rw[<-fY];exact hf);obtain⟨f2,t2,a2,b2,c2⟩:=h2 r hr f1 (pos+s1.length) (acc++t1) a1;refine⟨f2,t1++t2,a2,?_,by rw[List.map_append,c1,c2]⟩;rw[fY,b1,b2,aG,fY,bP]
def Lx.weak{B B':bj->Prop}{s:bj}{ks:List TK}(h:Lx B s ks)(hb:∀ r,B' r->B r): Lx B' s ks:=fun r hr=>h r (hb r hr)
def Lx.sp(B:bj->Prop): Lx B [32] []:=by
 intro r _ f pos acc hf;obtain⟨f,rfl⟩:∃ k,f=k+1:=⟨f-1,by simp at hf;omega⟩;refine⟨f,[],by simp at hf;omega,?_,rfl⟩;rw[List.singleton_append,uP,aB dV,cI];rfl
def Lx.one{B:bj->Prop}{s:bj}{k:TK}(hs:s≠[])(h32:(s.getD 0 0).toNat≠32)(h:∀ r,B r->jU (s++r)=⟨k.1,k.2.1,k.2.2,s.length,0⟩): Lx B s [k]:=by
 intro r hr f pos acc hf;have h1:=h r hr;obtain⟨c,s',rfl⟩:∃ c s',s=c::s':=by cases s with|nil=>exact absurd rfl hs|cons c s'=>exact⟨c,s',rfl⟩
 obtain⟨f,rfl⟩:∃ k,f=k+1:=⟨f-1,by simp at hf;omega⟩;refine⟨f,[⟨k.1,k.2.1,k.2.2,pos⟩],by simp at hf;omega,?_,rfl⟩;rw[gO]at h1 |-;rw[uP,aq (by simpa using h32),h1,aB rfl];simp
def Bs.cons{r:bj}(h:Bs r): ∃ r',r=32::r':=by
 cases r with
 | nil=>cases h
 | cons c r=>cases h;exact⟨r,rfl⟩
def als(v:jC): TK:=if v.kind=1 then(2,[],v.n)else if v.kind=2 then(3,v.s,0)else if v.kind=3 then(1,if v.n=1 then yS else uT,0)else (1,Jn,0)
def xJ(w:Int × List TK)(lvl:Int): List TK:=if w.1<lvl then(4,[40],0)::(w.2++[(4,[41],0)])else w.2
def alu: TK:=(1,[105,102],0)
def aeJ: TK:=(1,thenS,0)
def aeK: TK:=(1,FM,0)
def ai1(op:Int): TK:=(rh (ey op),(ey op).sign,0)
def ai2(op:Int)(v:jC)(s:bj)(ws:List (Int × List TK)): List TK :=
 if op=1 then [als v]else if op=2 then [(1,s,0)]
 else if op=3 then(4,[45],0)::xJ (ws.getD 0 default) 6
 else if op=16 then alu::(xJ (ws.getD 0 default) 0++(aeJ::(xJ (ws.getD 1 default) 0++(aeK::xJ (ws.getD 2 default) 0))))
 else xJ (ws.getD 0 default) (if(ey op).level=3 then 4 else(ey op).level)++(ai1 op::xJ (ws.getD 1 default) ((ey op).level+1))
mutual
def ZU: Expr->List TK
 | .mk op v s l=>ai2 op v s (aeL l)
def aeL: List Expr->List (Int × List TK)
 | []=>[]
 | x::r=>(eU x.op,ZU x)::aeL r
end
def JJ(x:Expr)(lvl:Int): List TK:=xJ (eU x.op,ZU x) lvl
open Go.AM
set_option maxRecDepth 4000
def yX(T:List Tok): Nat->List TK->Prop
 | _,[]=>True
 | p,k::ks=>(p<T.length/\tk (T.getD p default)=k)/\yX T (p+1) ks
def yX.app{T:List Tok}{a b:List TK}: ∀ {p:Nat},yX T p (a++b)↔yX T p a/\yX T (p+a.length) b:=by
 induction a with
 | nil=>intro p;simp[yX]
 | cons k a ih =>
   intro p;rw[gO];simp only[yX,ih,aE];rw[show p+(a.length+1)=p+1+a.length by omega,and_assoc,and_assoc,and_assoc]
def yX.map(T:List Tok): ∀(p:Nat),p<=T.length->yX T p ((T.drop p).map tk):=by
 intro p hp
 induction hn:T.length-p generalizing p with
 | zero=>rw[List.drop_eq_nil_of_le ae];trivial
 | succ n ih =>
   have hlt:p<T.length:=ae;rw[gy hlt,bN];refine⟨⟨hlt,?_⟩,ih (p+1) hlt ae⟩;rw[aj,aJ hlt];rfl
def aco{T:List Tok}{p:Nat}(h:T.length<=p)(l:Int): xy T p false l=none:=by
 unfold xy;rw[fJ];intro x _;have:oJ T p (rh x) x.sign=false:=by simp only[oJ,Bool.and_eq_false_iff,decide_eq_false_iff_not];left;omega
 simp[iH,this]
def B6(T:List Tok)(p lvl:Nat): Prop:= ∀ l:Nat,lvl<=l->xy T p false l=none
def B6.up{T:List Tok}{p a b:Nat}(h:B6 T p a)(hab:a<=b): B6 T p b:=fun l hl=>h l (bS hab hl)
def B6.end{T:List Tok}{p:Nat}(h:T.length<=p)(lvl:Nat): B6 T p lvl:=fun l _=>aco h l
def Rd(T:List Tok)(x:Expr)(p q lvl:Nat): Prop:= ∀ f,8*(q-p)+(8-lvl)<=f->cU T f none lvl p=⟨x,q,false⟩
structure an6 (x:Expr):Prop where
 pos:1<=(ZU x).length
 a:∀ (T:List Tok) (p lvl:Nat) (i:Int),i=lvl->lvl<=7->yX T p (JJ x i)->B6 T (p+(JJ x i).length) lvl->Rd T x p (p+(JJ x i).length) lvl
 c:∀ (T:List Tok) (p L:Nat) (i:Int),i=L->1<=L->L<=5->L≠3->yX T p (JJ x i)->B6 T (p+(JJ x i).length) (L+1)-> ∀ f,8*(JJ x i).length+(8-L)<=f-> ∃ f',f<=f'+1+(JJ x i).length/\cU T f none L p=cU T f' (some x) L (p+(JJ x i).length)
 f:∀ (T:List Tok) (p lvl:Nat),1<=lvl->yX T p (JJ x lvl)->oJ T p 1 [105,102]=false
def yX.le{T:List Tok}{ks:List TK}: ∀ {p:Nat},yX T p ks->p<=T.length->p+ks.length<=T.length:=by
 induction ks with
 | nil=>intro p _ hp;exact hp
 | cons k ks ih=>intro p h hp;rw[aE];have:=ih h.2 h.1.1;omega
def UL{t:Table}{r:gX}(h:(mw t r).2.2=0): r.cells.length=t.ins.length/\r.outs.length=t.outs.length/\(∀ j,j<r.cells.length->(pX t r j).2=0)/\(∀ j,j<r.outs.length->(nD t r j).2=0)/\mw t r=(⟨mQ t r r.cells.length,rD t r r.outs.length⟩,0,0):=by
 by_cases hb:r.cells.length≠t.ins.length\/r.outs.length≠t.outs.length
 ·rw[MD hb]at h;exact absurd h dV
 have h1:r.cells.length=t.ins.length:=ae;have h2:r.outs.length=t.outs.length:=ae
 have hc:∀ j,j<r.cells.length->(pX t r j).2=0:=by
  cases hq:(List.range r.cells.length).find? (fun k=>(pX t r k).2 != 0)with
  | some k =>
    exfalso;unfold mw at h;rw[aq hb,hq]at h;have:=gk hq;simp at this;exact this h
  | none =>
    intro j hj;have:=fJ.1 hq j (eO.2 hj);simpa using this
 have ho:∀ j,j<r.outs.length->(nD t r j).2=0:=by
  cases hq:(List.range r.outs.length).find? (fun k=>(nD t r k).2 != 0)with
  | some k =>
    exfalso;unfold mw at h;rw[aq hb,mR (fun j hj=>by simp[hc j hj])]at h;dsimp only at h;rw[hq]at h;have:=gk hq;simp at this;exact this h
  | none =>
    intro j hj;have:=fJ.1 hq j (eO.2 hj);simpa using this
 exact⟨h1,h2,hc,ho,PI h1 h2 hc ho⟩
def Rz{t:Table}(h:(jk t).2.2.2=0): (fQ t).2.2.2=0/\(∀ j,j<(fQ t).1.lines.length->(oA t j).2.2=0)/\jk t=({ t with rules:=uv t (fQ t).1.lines.length },0,0,0):=by
 by_cases he:(fQ t).2.2.2=0
 ·have hr : ∀ j, j < (fQ t).1.lines.length -> (oA t j).2.2 = 0 := by
   cases hq:(List.range (fQ t).1.lines.length).find? (fun k=>(oA t k).2.2 != 0)with
   | some k =>
     exfalso;unfold jk at h;rw[aq ae,hq]at h;have:=gk hq;simp at this;exact this h
   | none =>
     intro j hj;have:=fJ.1 hq j (eO.2 hj);simpa using this
  exact⟨he,hr,MG he hr⟩
 rw[uw he]at h;exact absurd h he
def yY(n:Int): Nat:=if n<0 then(2*(-1-n)+1).toNat else(2*n).toNat
def xK: Nat->Nat->bj
 | 0,c=>[UInt8.ofNat c]
 | f+1,c=>if c<128 then [UInt8.ofNat c]else UInt8.ofNat (128+c % 128)::xK f (c / 128)
def ku(n:Int): bj:=xK 9 (yY n)
def iR(s:bj): bj:=ku s.length++s
def ZV{n:Int}(h : -9223372036854775808<=n)(h':n<=9223372036854775807): yY n<18446744073709551616:=by
 unfold yY;split<;>omega
def u8(n:Nat)(h:n<256): (UInt8.ofNat n).toNat=n:=by simp[UInt8.toNat_ofNat'];omega
def mU(v:jC): bj:=ku v.kind++(if v.kind=2 then iR v.s else if v.kind=1\/v.kind=3 then ku v.n else [])
def B7(l:List jC): bj:=ku l.length++l.flatMap mU
def GX{v:jC}(h:gZ v=true): v.kind=0/\v=v0\/v.kind=1/\v.s=[]\/v.kind=2/\v.n=0/\v.s.length<=40\/v.kind=3/\v.s=[]:=by
 obtain⟨k,n,s⟩:=v;unfold gZ at h;dsimp only at h |-;split at h
 ·left;simp at h;simp[v0, *]
 split at h
 ·right;left;simp at h;simp[*]
 split at h
 ·right;right;left;simp[nN]at h;simp[*]
 split at h
 ·right;right;right;simp at h;simp[*]
 ·cases h
def rE(n:Int): Prop:= -9223372036854775808<=n/\n<=9223372036854775807
def Xp(l:List jC): Prop:=l.length<=2^30/\ ∀ v ∈ l,rE v.n/\v.s.length<=2^30
def ux(o:Bool)(c:fh): bj:=iR c.name++ku c.kind++(if o then B7 c.order else [])
def qu(o:Bool)(l:List fh): bj:=ku l.length++l.flatMap (ux o)
def oB(r:gX): bj:=r.cells.flatMap iR++r.outs.flatMap iR
def UM(t:Table): bj:=iR t.name++ku t.dF++ku t.agg++qu false t.ins++qu true t.outs++ku t.rules.length++t.rules.flatMap oB
def JK(t:Table): bj × Int:=if(jk t).2.2.2≠0 then([],(jk t).2.2.2)else if AH (jk t).1 t=false then([],4)else if 1400<(UM t).length then([],5)else (UM t,0)
def MH{l:List fh}(h:kY l=0): l.length<=6/\ ∀ c ∈ l,jb c.name=true/\1<=c.kind/\c.kind<=3:=by
 have h6:l.length<=6:=by
  unfold kY at h;split at h
  ·omega
  omega
 refine⟨h6,fun c hc=>?_⟩;obtain⟨i,hi,rfl⟩:=bY hc;have e:l[i]=l.getD i default:=by rw[aj,aJ hi];rfl
 rw[e];refine⟨?_,JA h hi⟩;unfold kY at h;rw[aq ae]at h;split at h
 ·rename_i j hj;have:=gk hj;simp[h]at this
 rename_i hn;have:=fJ.1 hn i (by simpa using hi);have h0:tO l i=0:=by simpa using this
 unfold tO at h0;split at h0
 ·omega
 rename_i hh;have:=not_or.1 hh;simpa using this.1
def PW{s:bj}(h:jb s=true): s.length<=16:=by
 simp only[jb,aD,au]at h;exact h.1.2
def PX{l:List fh}{b:Bool}(h:nU l b=0): kY l=0/\0<l.length/\ ∀ c ∈ l,lu c b=true:=by
 obtain⟨h1,h2⟩:=Ez h;refine⟨h1,h2,fun c hc=>?_⟩;unfold nU at h;rw[aq ae]at h;split at h
 ·omega
 rename_i hh;have:=(not_or.1 hh).2;rw[List.any_eq_true]at this;cases hq:lu c b with
 | true=>rfl
 | false=>exact absurd ⟨c,hc,by rw[hq];rfl⟩ this
def UN{c:fh}{b:Bool}(h:lu c b=true)(hk:wD c): (b=false->c.order=[])/\c.order.length<=8/\ ∀ v ∈ c.order,gZ v=true/\rE v.n:=by
 unfold lu at h;cases b with
 | false =>
   rw[aq aT,au]at h;have:=eP.1 h;rw[this];exact⟨fun _=>rfl,aT,aT⟩
 | true =>
   rw[aB rfl,aD,au,bt]at h;refine⟨fun h=>(by cases h),h.2.2,fun v hv=>?_⟩;refine⟨?_,(hk.2.2 v hv).1⟩;obtain⟨i,hi,rfl⟩:=bY hv;have:=h.1 i (by simpa using hi);simp only[Ey,aD]at this;have e:c.order[i]=c.order.getD i default:=by rw[aj,aJ hi];rfl
   rw[e];exact this.1.1
def RA{t:Table}(h:qp t=true): 1<=t.dF/\t.dF<=6/\0<=t.agg/\t.agg<=4:=by
 unfold qp at h;split at h
 ·cases h
 split at h
 ·omega
 split at h
 ·cases h
 omega
def ZW: ∀(k c:Nat),(xK k c).length<=k+1:=by
 intro k
 induction k with
 | zero=>intro c;simp[xK]
 | succ k ih => intro c; rw [xK]; split
                ·simp
                have:=ih (c / 128);simp;omega
def jK(n:Int): (ku n).length<=10:=ZW 9 _
structure Cmd where
 kind:Int
 table:Table
 name:bj
 ver:Int
 row:List jC
 frm:Int
 cnt:Int
deriving Inhabited
def PY{v:jC}(h:gZ v=true): v.s.length<=40:=by
 rcases GX h with⟨_,h⟩|⟨_,h⟩|⟨_,_,h⟩|⟨_,h⟩
 ·rw[h];decide
 ·rw[h];decide
 ·exact h
 rw[h];decide
def wrap_u64(x:Int): dQ .u64 x=x % 18446744073709551616:=rfl
def wrap_u8(x:Int): dQ .u8 x=x % 256:=rfl
def wrap_i64(x:Int): dQ .i64 x=if 9223372036854775808<=x % 18446744073709551616 then x % 18446744073709551616-18446744073709551616 else x % 18446744073709551616:=by
 show IntKind.wrap .i64 x=_;simp[IntKind.wrap,IntKind.bits,IntKind.signed]
def xor_zero(k:IntKind)(x:Nat)(h:x<2 ^ k.bits): ((BitVec.ofInt k.bits (x:Int)) ^^^ (BitVec.ofInt k.bits 0)).toNat=x:=by
 have:BitVec.ofInt k.bits 0=0#k.bits:=aT;rw[this,BitVec.xor_zero];simp[iu h]
def UO(x:Nat)(h:x<18446744073709551616)(y:Int)(hy:y % 18446744073709551616=18446744073709551615): ((BitVec.ofInt 64 (x:Int)) ^^^ (BitVec.ofInt 64 y)).toNat=18446744073709551615-x:=by
 have e:BitVec.ofInt 64 y=BitVec.allOnes 64:=by
  apply BitVec.eq_of_toNat_eq;rw[BitVec.toNat_ofInt,BitVec.toNat_allOnes];omega
 rw[e,BitVec.xor_allOnes,BitVec.toNat_not];have:(BitVec.ofInt 64 (x:Int)).toNat=x:=by rw[BitVec.toNat_ofInt];omega
 rw[this]
def Xq{n:Int}(h : -9223372036854775808<=n/\n<=9223372036854775807): ou .xor .u64 (dQ .u64 (dQ .u64 n*2)) (dQ .u64 (n.fdiv 9223372036854775808))=yY n:=by
 rw[kO];show dQ .u64 (((BitVec.ofInt 64 (dQ .u64 (dQ .u64 n*2))) ^^^ (BitVec.ofInt 64 (dQ .u64 (n.fdiv 9223372036854775808)))).toNat:Int)=yY n;rw[eW _ dV];simp only[wrap_u64];unfold yY;by_cases hn:n<0
 ·rw[aB hn];have e1:(n % 18446744073709551616*2 % 18446744073709551616:Int)=((2*n+18446744073709551616).toNat:Int):=ae;rw[e1,UO _ ae _ ae];omega
 rw[aq hn];have e1:(n % 18446744073709551616*2 % 18446744073709551616:Int)=((2*n).toNat:Int):=ae;have e2:(n / 9223372036854775808 % 18446744073709551616:Int)=0:=ae;rw[e1,e2];have:=xor_zero .u64 (2*n).toNat (by show _<18446744073709551616;omega);have e3:IntKind.u64.bits=64:=rfl;rw[e3]at this;rw[this];omega
def ZX(w k x:Nat)(hx:x<2 ^ w)(hk:k<=w): ((BitVec.ofInt w (x:Int)) &&& (BitVec.ofInt w ((2 ^ k-1:Nat):Int))).toNat=x % 2 ^ k:=by
 have h2:2 ^ k-1<2 ^ w:=bU (Nat.sub_lt (Nat.pow_pos dV) dV) (Nat.pow_le_pow_right dV hk);rw[BitVec.toNat_and];have e1:(BitVec.ofInt w (x:Int)).toNat=x:=by rw[BitVec.ofInt_natCast,BitVec.toNat_ofNat,iu hx]
 have e2:(BitVec.ofInt w ((2 ^ k-1:Nat):Int)).toNat=2 ^ k-1:=by rw[BitVec.ofInt_natCast,BitVec.toNat_ofNat,iu h2]
 rw[e1,e2,Nat.and_two_pow_sub_one_eq_mod]
def ZY{x:Int}{c:Nat}(h:x % 256=((c % 256:Nat):Int)): ou .and .u8 (dQ .u8 x) 127=((c % 128:Nat):Int):=by
 rw[kO];show dQ .u8 (((BitVec.ofInt 8 (dQ .u8 x)) &&& (BitVec.ofInt 8 127)).toNat:Int)=_;have:=ZX 8 7 (c % 256) ae dV;have e:((2^7-1:Nat):Int)=127:=dV;rw[e]at this;rw[wrap_u8 x,h,this,wrap_u8];omega
def aeM{w k x:Nat}{y:Nat}(hx:x<2 ^ k)(hw:2 ^ k*y+x<2 ^ w): ((BitVec.ofInt w (x:Int)) |||(BitVec.ofInt w ((2 ^ k*y:Nat):Int))).toNat=2 ^ k*y+x:=by
 rw[BitVec.toNat_or];have e1:(BitVec.ofInt w (x:Int)).toNat=x:=by rw[BitVec.ofInt_natCast,BitVec.toNat_ofNat,iu ae]
 have e2:(BitVec.ofInt w ((2 ^ k*y:Nat):Int)).toNat=2 ^ k*y:=by rw[BitVec.ofInt_natCast,BitVec.toNat_ofNat,iu ae]
 rw[e1,e2,Nat.or_comm,Nat.two_pow_add_eq_or_of_lt hx]
def Xr{d:Nat}(h:d<128): ou .or .u8 (d:Int) 128=((128+d:Nat):Int):=by
 rw[kO];show dQ .u8 (((BitVec.ofInt 8 (d:Int)) |||(BitVec.ofInt 8 128)).toNat:Int)=_;have:=aeM (w:=8) (k:=7) (x:=d) (y:=1) ae ae;have e:((2^7*1:Nat):Int)=128:=dV;rw[e]at this;rw[this,wrap_u8];omega
def K0(c:Nat): UInt8:=UInt8.ofNat (c % 128)
def NQ(c:Nat): UInt8:=UInt8.ofNat (128+c % 128)
def PZ(c:Nat): ((c % 128:Nat):Int)=((K0 c).toNat:Int):=by rw[K0,u8 _ ae]
def Xs(c:Nat): ou .or .u8 ((K0 c).toNat:Int) 128=((NQ c).toNat:Int):=by
 rw[<-PZ,Xr ae,NQ,u8 _ ae]
def SK(s:bj)(b:UInt8): jH s++[AV.int .u8 b.toNat]=jH (s++[b]):=aT
def ZZ{k c:Nat}(h:c<128): xK k c=[K0 c]:=by
 rw[K0,Nat.mod_eq_of_lt h];cases k with
 | zero=>rfl
 | succ k=>rw[xK,aB h]
def Xt{k c:Nat}(h:128<=c): xK (k+1) c=NQ c::xK k (c / 128):=by rw[xK,aq ae];rfl
def UP(n:Int)(h:rE n): aA aM 121 [I n] (.int .u64 (yY n)):=by
 refine bB Np ?_;intro Q aX aY aZ;repeat' first|refine aQ ?_|refine aR ?_ ?_<;>intro hw<;>try omega|fail
 refine bu ?_ rfl;exact bC (AV.int .u64) (Xq h)
def RB(c:Nat): aA aM 122 [.int .u64 c] (.int .u8 ((K0 c).toNat)):=by
 refine bB C0 ?_;intro Q aX aY aZ;repeat' first|refine aQ ?_|refine aR ?_ ?_<;>intro hw<;>try omega|fail
 refine bu ?_ rfl;refine bC (AV.int .u8) ?_;rw[<-PZ];exact ZY ae
def mV(n:Int)(h:rE n): aA aM 55 [I n] (.str (ku n)):=by
 have hc:=ZV h.1 h.2;obtain⟨E,hE⟩:=gi (ku n);rw[hE];unfold ku at hE;have h1:=UP n h;generalize yY n=c0 at *;refine bB OM ?_;intro Q aX aY aZ;repeat' first|refine aQ ?_|refine aR ?_ ?_<;>intro hw<;>try omega|fail
 with_reducible refine dA [3,2,8,10] (fun q:Nat × bj × Nat=>[(3,.int .u64 q.2.2),(4,.own E1 0 q.2.1.length 0 q.2.1.length)]) (fun q=>[.vec E1 (jH q.2.1)]) (fun q=>q.1<=9/\q.2.1.length=q.1/\q.2.2*128 ^ q.1<18446744073709551616/\E=q.2.1++xK (9-q.1) q.2.2) (fun q=>10-q.1) ((0,[],c0)) ?_ ?_ ?_ ?_
 ·exact⟨ae,rfl,by show c0*1<_;omega,by simp[hE]⟩
 ·rfl
 ·exact at_
 rintro⟨i,s,c⟩ r ⟨g1,g2,g3,g4⟩;dsimp only at g1 g2 g3 g4;have hl:=RB c;have hm:=Xs c
 have hq:(c:Int).fdiv (2 ^ (Int.toNat 7).min 64)=((c / 128:Nat):Int):=by
  show(c:Int).fdiv 128=_;rw[eW _ dV];omega
 by_cases hb:128<=c
 ·have hi : i < 9 := by
   rcases Nat.lt_or_ge i 9 with h|h
   ·exact h
   obtain rfl:i=9:=ae;have e:(128:Nat) ^ 9=9223372036854775808:=dV;rw[e]at g3;omega
  obtain⟨k,hk⟩:∃ k,9-i=k+1:=⟨8-i,ae⟩;rw[hk,Xt hb]at g4;repeat' first|simp (disch:=omega) only[go_sem,aX,aY,aZ,hm,hq,SK]|refine aQ ?_|refine aR ?_ ?_<;>intro hw<;>try omega|fail
  refine⟨(i+1,s++[NQ c],c / 128),?_,?_,?_,fU,at_⟩<;>(try dsimp only)
  ·refine⟨ae,by simp[g2],?_,?_⟩
   ·have e2 : c / 128 * 128 ^ (i + 1) = 128 * (c / 128) * 128 ^ i := by
     rw[Nat.pow_succ,Nat.mul_comm (128 ^ i) 128,<-Nat.mul_assoc,Nat.mul_comm (c / 128) 128]
    exact Nat.lt_of_le_of_lt (by rw[e2];exact bw _ ae) g3
   have:9-(i+1)=k:=ae;rw[this];simp[g4]
  ·omega
  all_goals (simp[g2];done)
 rw[ZZ ae]at g4;repeat' first|simp (disch:=omega) only[go_sem,aX,aY,aZ,SK]|refine aQ ?_|refine aR ?_ ?_<;>intro hw<;>try omega|fail
 exact bu (by rw[g4]) rfl
def wF(s:bj)(hs:s.length<=2^61): aA aM 116 [.str s] (.str (iR s)):=by
 have h1:=mV s.length ⟨ae,ae⟩;have h2:=jK s.length;unfold iR;generalize ku s.length=x at *;refine bB Nn ?_;intro Q aX aY aZ;have alv:((x.length+s.length:Nat):Int)<=IntKind.i64.max:=by show _<=(9223372036854775807:Int);omega
 repeat' first|refine aQ ?_|refine aR ?_ ?_<;>intro hw<;>try omega|fail
 exact bu rfl rfl
def xL(v:jC): bj × Int:=if gZ v then(mU v,0)else ([],2)
def JL(v:jC): (mU v).length<=30+v.s.length:=by
 have h1:=jK v.kind;have h2:=jK v.n;have h3:=jK v.s.length;unfold mU iR;rw[aG];split
 ·rw[aG];omega
 split
 ·omega
 simp;omega
def RC(k n:Int)(s:bj)(hn:rE n)(hs:s.length<=2^60): aA aM 238 [.agg [I k,I n,.str s]] (.bg [.str (xL ⟨k,n,s⟩).1,I (xL ⟨k,n,s⟩).2]):=by
 have c1:=uo k n s hn.1 hn.2;obtain⟨E,hE⟩:=gi (xL ⟨k,n,s⟩);rw[hE];unfold xL mU at hE;dsimp only at hE;have hk:=@GX ⟨k,n,s⟩;dsimp only at hk;generalize gZ ⟨k,n,s⟩=b at *;cases b
 ·simp only[nO,aN,if_false]at c1 hE;refine bB As ?_;intro Q aX aY aZ;repeat' first|refine aQ ?_|refine aR ?_ ?_<;>intro hw<;>try omega|fail
  exact c6 (by rw[<-hE]) rfl
 have hk:=hk rfl;simp only[nO,if_true]at c1 hE;have c2:=mV k ⟨ae,ae⟩;have c3:=mV n hn;have c4:=wF s ae;have l1:=jK k;have l2:=jK n;have l3:(iR s).length<=10+s.length:=by unfold iR;have:=jK s.length;rw[List.length_append];omega
 generalize ku k=x at *;generalize ku n=y at *;generalize iR s=z at *;have a1:((x.length+y.length:Nat):Int)<=IntKind.i64.max:=by show _<=(9223372036854775807:Int);omega
 have a2:((x.length+z.length:Nat):Int)<=IntKind.i64.max:=by show _<=(9223372036854775807:Int);omega
 refine bB As ?_;intro Q aX aY aZ;repeat' first|refine aQ ?_|refine aR ?_ ?_<;>intro hw<;>try omega|fail
 all_goals first
  | exact eu
  |(refine c6 ?_ rfl;rw[<-hE];simp_all;done)
  |(refine c6 ?_ rfl;rw[<-hE,aq ae,aq ae,cI];done)
