/- Part. -/
import Derived.Test.YtcjcnfcedihckaaGreatDoorW27
set_option linter.all false
set_option maxHeartbeats 4000000
namespace Go.Proofs.YtcjcnfcedihckaaGreatDoor
open Go.AM
set_option maxRecDepth 4000
def pW(t:Table)(r:eL)(k:Nat): Cell × Int:=On t k (r.cells.getD k default)
def nO(t:Table)(r:eL)(k:Nat): Expr × Int:=HJ t k (r.outs.getD k default)
def mD(t:Table)(r:eL)(n:Nat): List Cell:=(List.range n).map fun k=>(pW t r k).1
def qM(t:Table)(r:eL)(n:Nat): List Expr:=(List.range n).map fun k=>(nO t r k).1
def lE(t:Table)(r:eL): kB × Int × Int :=
 if r.cells.length≠t.ins.length\/r.outs.length≠t.outs.length then(⟨[],[]⟩,0,17)
 else match(List.range r.cells.length).find? (fun k=>(pW t r k).2 != 0)with
 | some k=>(⟨mD t r k,[]⟩,k,(pW t r k).2)
 | none => match (List.range r.outs.length).find? (fun k => (nO t r k).2 != 0) with
   | some k=>(⟨mD t r r.cells.length,qM t r k⟩,t.ins.length+k,(nO t r k).2)
   | none=>(⟨mD t r r.cells.length,qM t r r.outs.length⟩,0,0)
def HK(t:Table)(r:eL)(n:Nat): mD t r (n+1)=mD t r n++[(pW t r n).1]:=by simp[mD,List.range_succ]
def Lh(t:Table)(r:eL)(n:Nat): qM t r (n+1)=qM t r n++[(nO t r n).1]:=by simp[qM,List.range_succ]
def vv(t:Table)(r:eL)(n:Nat): (mD t r n).length=n:=by simp[mD]
def AW(t:Table)(r:eL)(n:Nat): (qM t r n).length=n:=by simp[qM]
def uB{n i:Nat}{p:Nat->Bool}(hi:i<n)(h:∀ k,k<i->p k=false)(hp:p i=true): (List.range n).find? p=some i:=by
 have:=wO (p:=p) (l:=List.range n) (i:=i) (by simpa using hi) (fun k hk=>by rw[mZ (by omega)];exact h k hk) (by rw[mZ hi];exact hp);rwa[mZ hi]at this
def l7{n:Nat}{p:Nat->Bool}(h:∀ k,k<n->p k=false): (List.range n).find? p=none :=
 xm (fun k hk=>by rw[List.length_range]at hk;rw[mZ hk];exact h k hk)
def Li{t:Table}{r:eL}(h:r.cells.length≠t.ins.length\/r.outs.length≠t.outs.length): lE t r=(⟨[],[]⟩,0,17):=by
 unfold lE;rw[if_pos h]
def Lj{t:Table}{r:eL}(h1:r.cells.length=t.ins.length)(h2:r.outs.length=t.outs.length){k:Nat}(hk:k<r.cells.length)(h:∀ j,j<k->(pW t r j).2=0)(he:(pW t r k).2≠0): lE t r=((⟨mD t r k,[]⟩:kB),(k:Int),(pW t r k).2):=by
 unfold lE;rw[if_neg (by omega),uB (i:=k) hk (fun j hj=>by simp[h j hj]) (by simp[he])]
def Tr{t:Table}{r:eL}(h1:r.cells.length=t.ins.length)(h2:r.outs.length=t.outs.length)(hc:∀ j,j<r.cells.length->(pW t r j).2=0){k:Nat}(hk:k<r.outs.length)(h:∀ j,j<k->(nO t r j).2=0)(he:(nO t r k).2≠0): lE t r=((⟨mD t r r.cells.length,qM t r k⟩:kB),(t.ins.length:Int)+k,(nO t r k).2):=by
 unfold lE;rw[if_neg (by omega),l7 (fun j hj=>by simp[hc j hj])];dsimp only;rw[uB (i:=k) hk (fun j hj=>by simp[h j hj]) (by simp[he])]
def Oo{t:Table}{r:eL}(h1:r.cells.length=t.ins.length)(h2:r.outs.length=t.outs.length)(hc:∀ j,j<r.cells.length->(pW t r j).2=0)(h:∀ j,j<r.outs.length->(nO t r j).2=0): lE t r=(⟨mD t r r.cells.length,qM t r r.outs.length⟩,0,0):=by
 unfold lE;rw[if_neg (by omega),l7 (fun j hj=>by simp[hc j hj])];dsimp only;rw[l7 (fun j hj=>by simp[h j hj])]
def eLn(r:kB × Int × Int): AV:= .bU [ow r.1,I r.2.1,I r.2.2]
def uC{σ : ae}{a b:AV}{cs:List Cell}{xs:List Expr}{n m:Int}(ha:View σ a (qZ cs))(hb:View σ b (dG xs)): bS σ [.agg [a,b],I n,I m] [ow ⟨cs,xs⟩,I n,I m] :=
 mX (View.s5 (.cons ha (.cons hb (.nil _))))
def Qf(t:Table)(r:eL)(ht:t.ins.length<=2 ^ 30)(ho:t.outs.length<=2 ^ 30)(ht0:0<t.ins.length)(hr:(r.cells.length<=2 ^ 30/\ ∀ s ∈ r.cells,s.length<=2 ^ 30)/\r.outs.length<=2 ^ 30/\ ∀ s ∈ r.outs,s.length<=2 ^ 30): aM aK 153 [dS t,cu r] (eLn (lE t r)):=by
 obtain⟨⟨hr1,C7⟩,hr3,ZU⟩:=hr;obtain⟨E,hE⟩:∃ E,eLn (lE t r)=E:=⟨_,rfl⟩;rw[hE];have ca:=fun k (h1:k<t.ins.length) (h2:k<r.cells.length)=>Tq t k (r.cells.getD k default) ht h1 (C7 _ (bH h2));have ce:=fun k (h1:k<t.outs.length) (h2:k<r.outs.length)=>Qe t k (r.outs.getD k default) ht ho h1 (ZU _ (bH h2));simp only[show ∀ k,On t k (r.cells.getD k default)=pW t r k from fun _=>rfl]at ca;simp only[show ∀ k,HJ t k (r.outs.getD k default)=nO t r k from fun _=>rfl]at ce;simp only[dS,gQ,cH,eA,cu,bM]at ca ce ⊢;by_cases hb:r.cells.length≠t.ins.length\/r.outs.length≠t.outs.length
 ·refine aR zj ?_;intro Q aC aD aE;repeat' first|refine aG ?_|refine aF ?_ ?_<;>intro hw<;>try omega|fail
  all_goals first
   | exact bK
   |(rw[<-hE,Li hb];exact cK (uC (.au _) (.au _)))
 have q1:r.cells.length=t.ins.length:=by omega
 have q2:r.outs.length=t.outs.length:=by omega
 clear hb;refine aR zj ?_;intro Q aC aD aE;repeat' first|refine aG ?_|refine aF ?_ ?_<;>intro hw<;>try omega|fail
 all_goals first|exact bK|skip
 with_reducible refine bX [5,6,7,8,9,10,35,36,37,38,39,40,41,42,43,44,45,46,47,48,49,50,51,52,53,54,55,56,57,58] (fun q:Nat × ae=>[(35,I q.1)]) (fun q=>q.2) (fun q=>q.1<=r.cells.length/\(∀ k,k<q.1->(pW t r k).2=0)/\(q.1=0/\q.2=[.cells [.str t.name,.aO false EC (t.ins.map bu),.aO false EC (t.outs.map bu),I t.aL,I t.agg,.aO false ER (t.rules.map cu)],.cells [.aO false E1 (r.cells.map bB),.aO false E1 (r.outs.map bB)],.cells [.au,.au]]\/0<q.1/\ ∃ c1 τ,q.2 = .cells [.str t.name,.aO false EC (t.ins.map bu),.aO false EC (t.outs.map bu),I t.aL,I t.agg,.aO false ER (t.rules.map cu)]:: .cells [.aO false E1 (r.cells.map bB),.aO false E1 (r.outs.map bB)]:: .cells [.own EC 4 q.1 0 q.1,.au]::c1:: .vec EC ((mD t r q.1).map dI):: τ)) (fun q=>r.cells.length-q.1) (0,_) ⟨bJ _,fun k hk=>by omega,.inl ⟨rfl,rfl⟩⟩ rfl ?_ ?_
 ·exact at_
 rintro⟨k,S⟩ rr ⟨h1,h2,h3⟩;dsimp only at h1 h2 h3;rcases h3 with⟨rfl,rfl⟩|⟨hk,c1,τ,rfl⟩
 ·have c:=ca 0 (by omega) (by omega);obtain⟨a,ha⟩:∃ a,pW t r 0=a:=⟨_,rfl⟩;rw[ha]at c;have vx:=fun he=>Lj q1 q2 (k:=0) (by omega) h2 he;rw[ha]at vx;have kr:=HK t r 0;rw[ha]at kr;simp only[dI,jL]at c;repeat' first|refine aG ?_|refine eU c ?_|refine aF ?_ ?_<;>intro hw<;>try omega|fail
  ·rw[<-hE,vx (by assumption)];exact cK (uC (.au _) (.au _))
  ·refine⟨(1,[.cells [.str t.name,.aO false EC (t.ins.map bu),.aO false EC (t.outs.map bu),I t.aL,I t.agg,.aO false ER (t.rules.map cu)],.cells [.aO false E1 (r.cells.map bB),.aO false E1 (r.outs.map bB)],.cells [.own EC 4 1 0 1,.au],.cells [.bool a.1.any,.bool a.1.neg,.aO false ES (a.1.tests.map dH)],.vec EC [.agg [.bool a.1.any,.bool a.1.neg,.aO false ES (a.1.tests.map dH)]]]),?_,?_,?_,da,at_⟩<;>(try dsimp only)
   ·refine⟨by omega,fun j hj=>?_,.inr ⟨by omega,.cells [.bool a.1.any,.bool a.1.neg,.aO false ES (a.1.tests.map dH)],[],?_⟩⟩
    ·obtain rfl:j=0:=by omega
     rw[ha];assumption
    ·rw[kr];rfl
   ·omega
   all_goals rfl
 ·by_cases oL:k<r.cells.length
  ·have c:=ca k (by omega) (by omega);have vx:=fun he=>Lj q1 q2 (k:=k) (by omega) h2 he;have kr:=HK t r k;obtain⟨a,ha⟩:∃ a,pW t r k=a:=⟨_,rfl⟩;rw[ha]at c vx kr;have nh:=vv t r k;have gP:=fun he=>bP (q:=fun j=>(pW t r j).2=0) h2 he;obtain⟨L,hL⟩:∃ L,mD t r k=L:=⟨_,rfl⟩;rw[hL]at nh kr;simp only[hL]at vx ⊢;simp only[dI,jL]at c;repeat' first|simp (disch:=omega) only[go_sem,aC,aD,aE,nh]|refine aG ?_|refine eU c ?_|refine aF ?_ ?_<;>intro hw<;>try omega|fail
   ·rw[<-hE,vx (by assumption)];exact cK (uC (View.vec rfl (by simp[nh]) (by simp[nh]) (sw _)) (.au _))
   ·refine⟨(k+1,.cells [.str t.name,.aO false EC (t.ins.map bu),.aO false EC (t.outs.map bu),I t.aL,I t.agg,.aO false ER (t.rules.map cu)]:: .cells [.aO false E1 (r.cells.map bB),.aO false E1 (r.outs.map bB)]:: .cells [.own EC 4 (k+1) 0 (k+1),.au]::c1:: .vec EC (L.map dI++[.agg [.bool a.1.any,.bool a.1.neg,.aO false ES (a.1.tests.map dH)]])::(τ++[.cells [.bool a.1.any,.bool a.1.neg,.aO false ES (a.1.tests.map dH)]])),?_,?_,?_,da,at_⟩<;>(try dsimp only)
    ·refine⟨by omega,gP (by rw[ha];assumption),.inr ⟨by omega,c1,τ++[.cells [.bool a.1.any,.bool a.1.neg,.aO false ES (a.1.tests.map dH)]],?_⟩⟩;rw[kr,gD];rfl
    ·omega
    all_goals rfl
  ·have hkn:k=r.cells.length:=by omega
   subst hkn;have nh:=vv t r r.cells.length;have hok:=fun h=>Oo q1 q2 h2 h;have hte:=fun k (hk:k<r.outs.length) h he=>Tr q1 q2 h2 (k:=k) hk h he;obtain⟨L,hL⟩:∃ L,mD t r r.cells.length=L:=⟨_,rfl⟩;rw[hL]at nh;simp only[hL]at hok hte ⊢;repeat' first|refine aG ?_|refine aF ?_ ?_<;>intro hw<;>try omega|fail
   with_reducible refine bX [5,6,11,12,13,14,62,63,64,65,66,67,68,69,70,71,72,73,74,75,76,77,78,79,80,81,82,83,84,85,86,87,88,89] (fun q:Nat × ae=>[(62,I q.1)]) (fun q=>q.2) (fun q=>q.1<=r.outs.length/\(∀ k,k<q.1->(nO t r k).2=0)/\(q.1=0/\q.2 = .cells [.str t.name,.aO false EC (t.ins.map bu),.aO false EC (t.outs.map bu),I t.aL,I t.agg,.aO false ER (t.rules.map cu)]:: .cells [.aO false E1 (r.cells.map bB),.aO false E1 (r.outs.map bB)]:: .cells [.own EC 4 r.cells.length 0 r.cells.length,.au]::c1:: .vec EC (L.map dI):: τ\/0<q.1/\ ∃ p ρ,q.2 = .cells [.str t.name,.aO false EC (t.ins.map bu),.aO false EC (t.outs.map bu),I t.aL,I t.agg,.aO false ER (t.rules.map cu)]:: .cells [.aO false E1 (r.cells.map bB),.aO false E1 (r.outs.map bB)]:: .cells [.own EC 4 r.cells.length 0 r.cells.length,.own EX (p+1+1+1+1+1) q.1 0 q.1]::c1:: .vec EC (L.map dI):: ρ/\ ρ[p]? = some (.vec EX ((qM t r q.1).map bg)))) (fun q=>r.outs.length-q.1) (0,_) ⟨bJ _,fun k hk=>by omega,.inl ⟨rfl,rfl⟩⟩ rfl ?_ ?_
   ·exact at_
   rintro⟨m,S⟩ rr ⟨g1,g2,g3⟩;dsimp only at g1 g2 g3;rcases g3 with⟨rfl,rfl⟩|⟨hm,p,ρ,rfl,hk⟩
   ·by_cases hml:0<r.outs.length
    ·have c:=ce 0 (by omega) (by omega);have vx:=fun he=>hte 0 hml g2 he;have kr:=Lh t r 0;obtain⟨a,ha⟩:∃ a,nO t r 0=a:=⟨_,rfl⟩;rw[ha]at c vx kr;rw[bG]at c;try simp only[dG]at c
     repeat' first|simp (disch:=omega) only[go_sem,aC,aD,aE,nh]|refine aG ?_|refine eU c ?_|refine aF ?_ ?_<;>intro hw<;>try omega|fail
     ·rw[<-hE,vx (by assumption)];refine cK (uC (View.vec rfl (by simp[nh]) (by simp[nh]) (sw _)) (.au _))
     ·refine⟨(1,.cells [.str t.name,.aO false EC (t.ins.map bu),.aO false EC (t.outs.map bu),I t.aL,I t.agg,.aO false ER (t.rules.map cu)]:: .cells [.aO false E1 (r.cells.map bB),.aO false E1 (r.outs.map bB)]:: .cells [.own EC 4 r.cells.length 0 r.cells.length,.own EX (τ.length+1+1+1+1+1+1) 1 0 1]::c1:: .vec EC (L.map dI)::(τ++[.cells [I a.1.op,I a.1.v.kind,I a.1.v.n,.str a.1.v.s,.str a.1.s,.aO false EX (a.1.l.map bg)]]++[.vec EX [.agg [I a.1.op,I a.1.v.kind,I a.1.v.n,.str a.1.v.s,.str a.1.s,.aO false EX (a.1.l.map bg)]]])),?_,?_,?_,da,at_⟩<;>(try dsimp only)
      ·refine⟨by omega,fun j hj=>?_,.inr ⟨by omega,τ.length+1,_,rfl,?_⟩⟩
       ·obtain rfl:j=0:=by omega
        rw[ha];assumption
       ·rw[kr,show ∀ x,[x]=[]++[x] from fun _=>rfl];simp[qM,bG,dG]
      ·omega
      all_goals first|rfl|(simp[go_sem];done)
    ·repeat' first|simp (disch:=omega) only[go_sem,aC,aD,aE,nh]|refine aG ?_|refine aF ?_ ?_<;>intro hw<;>try omega|fail
     rw[<-hE,hok (fun j hj=>by omega)];have h0:r.outs.length=0:=by omega
     rw[h0];exact cK (uC (View.vec rfl (by simp[nh]) (by simp[nh]) (sw _)) (.au _))
   ·have hlt:=(aP.1 hk).1;have F6:=AW t r m;have lj:=fun d:aZ=>(aH (l₁:= ρ) (l₂:=[d]) hlt).trans hk;by_cases hml:m<r.outs.length
    ·have c:=ce m (by omega) (by omega);have vx:=fun he=>hte m hml g2 he;have kr:=Lh t r m;have gP:=fun he=>bP (q:=fun j=>(nO t r j).2=0) g2 he;have iQ:=fun(d w:aZ)=>List.set_append_left (s:= ρ) (t:=[d]) p w hlt;obtain⟨a,ha⟩:∃ a,nO t r m=a:=⟨_,rfl⟩;rw[ha]at c vx kr;obtain⟨X,hX⟩:∃ X,qM t r m=X:=⟨_,rfl⟩;rw[hX]at F6 kr hk vx;simp only[hX]at lj;rw[bG]at c;try simp only[dG]at c
     repeat' first|simp (disch:=omega) only[go_sem,aC,aD,aE,nh,F6,hk,lj,iQ]|refine aG ?_|refine eU c ?_|refine aF ?_ ?_<;>intro hw<;>try omega|fail
     ·rw[<-hE,vx (by assumption)];refine cK (uC (View.vec rfl (by simp[nh]) (by simp[nh]) (sw _)) (View.vec (lj _) (by simp[F6]) (by simp[F6]) (NA _)))
     ·refine⟨(m+1,.cells [.str t.name,.aO false EC (t.ins.map bu),.aO false EC (t.outs.map bu),I t.aL,I t.agg,.aO false ER (t.rules.map cu)]:: .cells [.aO false E1 (r.cells.map bB),.aO false E1 (r.outs.map bB)]:: .cells [.own EC 4 r.cells.length 0 r.cells.length,.own EX (p+1+1+1+1+1) (m+1) 0 (m+1)]::c1:: .vec EC (L.map dI)::(ρ.set p (.vec EX (X.map bg++[.agg [I a.1.op,I a.1.v.kind,I a.1.v.n,.str a.1.v.s,.str a.1.s,.aO false EX (a.1.l.map bg)]]))++[.cells [I a.1.op,I a.1.v.kind,I a.1.v.n,.str a.1.v.s,.str a.1.s,.aO false EX (a.1.l.map bg)]])),?_,?_,?_,da,at_⟩<;>(try dsimp only)
      ·refine⟨by omega,gP (by rw[ha];assumption),.inr ⟨by omega,p,_,rfl,?_⟩⟩;rw[kr,gD,aH (by simpa using hlt),List.getElem?_set_self (by simpa using hlt)];simp[bG,dG]
      ·omega
      all_goals first|rfl|(simp[go_sem];done)
    ·obtain rfl:m=r.outs.length:=by omega
     repeat' first|simp (disch:=omega) only[go_sem,aC,aD,aE,nh,F6,hk,lj]|refine aG ?_|refine aF ?_ ?_<;>intro hw<;>try omega|fail
     rw[<-hE,hok g2];exact cK (uC (View.vec rfl (by simp[nh]) (by simp[nh]) (sw _)) (View.vec hk (by simp[F6]) (by simp[F6]) (NA _)))
def jE(t:Table)(k:Nat): kB × Int × Int:=lE t (t.rules.getD k default)
def nP(t:Table)(n:Nat): List kB:=(List.range n).map fun k=>(jE t k).1
def Da: Ready:=⟨⟨[],[],[],0,0,[]⟩,[]⟩
def eM(t:Table): Ready × Int × Int × Int :=
 if iC t≠0 then(Da,-1,0,iC t)
 else match(List.range t.rules.length).find? (fun k=>(jE t k).2.2 != 0)with
 | some k=>(Da,k,(jE t k).2.1,(jE t k).2.2)
 | none=>(⟨t,nP t t.rules.length⟩,0,0,0)
def ZY(r:Ready × Int × Int × Int): AV:= .bU [Cx r.1,I r.2.1,I r.2.2.1,I r.2.2.2]
def Ts(t:Table)(n:Nat): nP t (n+1)=nP t n++[(jE t n).1]:=by simp[nP,List.range_succ]
def oe(t:Table)(n:Nat): (nP t n).length=n:=by simp[nP]
def EJ{t:Table}(h:iC t≠0): eM t=(Da,(-1:Int),(0:Int),iC t):=by unfold eM;rw[if_pos h]
def Tt{t:Table}(h0:iC t=0){k:Nat}(hk:k<t.rules.length)(h:∀ j,j<k->(jE t j).2.2=0)(he:(jE t k).2.2≠0): eM t=(Da,(k:Int),(jE t k).2.1,(jE t k).2.2):=by
 unfold eM;rw[if_neg (by omega),uB (i:=k) hk (fun j hj=>by simp[h j hj]) (by simp[he])]
def AY{t:Table}(h0:iC t=0)(h:∀ j,j<t.rules.length->(jE t j).2.2=0): eM t=((⟨t,nP t t.rules.length⟩:Ready),(0:Int),(0:Int),(0:Int)):=by
 unfold eM;rw[if_neg (by omega),l7 (fun j hj=>by simp[h j hj])]
def Tv{t:Table}(h:iC t=0): 0<t.ins.length:=by
 unfold iC at h;split at h
 ·omega
 split at h
 ·omega
 ·rename_i h1 h2;exact(yq (by omega:jO t.ins false=0)).2
def tJ{σ : ae}{a E:AV}{n m k:Int}(h:View σ a E): bS σ [a,I n,I m,I k] [E,I n,I m,I k]:= .cons h (.cons (.refl _ rfl) (.cons (.refl _ rfl) (.cons (.refl _ rfl) (.nil _))))
def JD(σ : ae): View σ (.agg [.str [],.au,.au,I 0,I 0,.au,.au]) (Cx Da) :=
 View.s5 (.cons (.refl _ rfl) (.cons (.au _) (.cons (.au _) (.cons (.refl _ rfl) (.cons (.refl _ rfl) (.cons (.au _) (.cons (.au _) (.nil _))))))))
def Qg(t:Table)(h:j8 t): aM aK 113 [dS t] (ZY (eM t)):=by
 have cf:=Om t h;obtain⟨E,hE⟩:∃ E,ZY (eM t)=E:=⟨_,rfl⟩;rw[hE];have hl:=fun(h0:0<t.ins.length) k (hk:k<t.rules.length)=>Qf t (t.rules.getD k default) h.2.1.1 h.2.2.1.1 h0 (h.2.2.2.2 _ (bH hk));have agv:=h.2.2.2.1;simp only[dS,gQ,cH,eA]at cf hl ⊢;by_cases hf:iC t≠0
 ·have hm:=EJ hf;obtain⟨f,EB⟩:∃ f,iC t=f:=⟨_,rfl⟩;rw[EB]at cf hm hf;refine aR zh ?_;intro Q aC aD aE;repeat' first|refine aG ?_|refine aF ?_ ?_<;>intro hw<;>try omega|fail
  all_goals first
   | exact bK
   |(rw[<-hE,hm];exact cK (tJ (JD _)))
 have pB:iC t=0:=by omega
 have hi0:0<t.ins.length:=Tv pB;rw[pB]at cf
 replace hl:=hl hi0
 clear hf;refine aR zh ?_;intro Q aC aD aE;repeat' first|refine aG ?_|refine aF ?_ ?_<;>intro hw<;>try omega|fail
 all_goals first|exact bK|skip
 with_reducible refine bX [3,4,5,8,9,10,11,12,24,25,26,27,28,29,30,31,32,33,34,35,36,37,38,39,40,41,42,43,44,45,46,47,48] (fun q:Nat × ae=>[(24,I q.1)]) (fun q=>q.2) (fun q=>q.1<=t.rules.length/\(∀ k,k<q.1->(jE t k).2.2=0)/\(q.1=0/\q.2=[.cells [.str t.name,.aO false EC (t.ins.map bu),.aO false EC (t.outs.map bu),I t.aL,I t.agg,.aO false ER (t.rules.map cu)],.cells [.str [],.au,.au,I 0,I 0,.au,.au],.cells [.str t.name,.aO false EC (t.ins.map bu),.aO false EC (t.outs.map bu),I t.aL,I t.agg,.aO false ER (t.rules.map cu),.au]]\/0<q.1/\ ∃ b1 b2 τ,q.2 = .cells [.str t.name,.aO false EC (t.ins.map bu),.aO false EC (t.outs.map bu),I t.aL,I t.agg,.aO false ER (t.rules.map cu)]:: .cells [.str [],.au,.au,I 0,I 0,.au,.au]:: .cells [.str t.name,.aO false EC (t.ins.map bu),.aO false EC (t.outs.map bu),I t.aL,I t.agg,.aO false ER (t.rules.map cu),.own ER 5 q.1 0 q.1]::b1::b2:: .vec ER ((nP t q.1).map ow):: τ)) (fun q=>t.rules.length-q.1) (0,_) ⟨bJ _,fun k hk=>by omega,.inl ⟨rfl,rfl⟩⟩ rfl ?_ ?_
 ·exact at_
 rintro⟨k,S⟩ rr ⟨h1,h2,h3⟩;dsimp only at h1 h2 h3;by_cases oL:k<t.rules.length
 ·have c:=hl k oL;have vx:=fun he=>Tt pB oL h2 he;have kr:=Ts t k;have nh:=oe t k;have gP:=fun he=>bP (q:=fun j=>(jE t j).2.2=0) h2 he;have hlr:jE t k=lE t (t.rules.getD k default):=rfl;obtain⟨a,ha⟩:∃ a,jE t k=a:=⟨_,rfl⟩;rw[ha]at vx kr gP hlr;rw[<-hlr]at c;obtain⟨ru,hru⟩:∃ ru,t.rules.getD k default=ru:=⟨_,rfl⟩;rw[hru]at c;clear hlr;simp only[eLn,ow,qZ,dG,cu,bM]at c;rcases h3 with⟨rfl,rfl⟩|⟨hk,b1,b2,τ,rfl⟩
  ·repeat' first|simp (disch:=omega) only[go_sem,aC,aD,aE,hru]|refine aG ?_|refine eU c ?_|refine aF ?_ ?_<;>intro hw<;>try omega|fail
   ·rw[<-hE,vx (by assumption)];exact cK (tJ (JD _))
   ·refine⟨(1,[.cells [.str t.name,.aO false EC (t.ins.map bu),.aO false EC (t.outs.map bu),I t.aL,I t.agg,.aO false ER (t.rules.map cu)],.cells [.str [],.au,.au,I 0,I 0,.au,.au],.cells [.str t.name,.aO false EC (t.ins.map bu),.aO false EC (t.outs.map bu),I t.aL,I t.agg,.aO false ER (t.rules.map cu),.own ER 5 1 0 1],.cells [.aO false E1 (ru.cells.map bB),.aO false E1 (ru.outs.map bB)],.cells [.aO false EC (a.1.cells.map dI),.aO false EX (a.1.outs.map bg)],.vec ER [.agg [.aO false EC (a.1.cells.map dI),.aO false EX (a.1.outs.map bg)]]]),?_,?_,?_,da,at_⟩<;>(try dsimp only)
    ·refine⟨by omega,gP (by assumption),.inr ⟨by omega,.cells [.aO false E1 (ru.cells.map bB),.aO false E1 (ru.outs.map bB)],.cells [.aO false EC (a.1.cells.map dI),.aO false EX (a.1.outs.map bg)],[],?_⟩⟩;rw[kr];rfl
    ·omega
    all_goals first|rfl|(simp[go_sem];done)
  ·obtain⟨L,hL⟩:∃ L,nP t k=L:=⟨_,rfl⟩;rw[hL]at nh kr;simp only[hL];repeat' first|simp (disch:=omega) only[go_sem,aC,aD,aE,hru,nh]|refine aG ?_|refine eU c ?_|refine aF ?_ ?_<;>intro hw<;>try omega|fail
   ·rw[<-hE,vx (by assumption)];exact cK (tJ (JD _))
   ·refine⟨(k+1,.cells [.str t.name,.aO false EC (t.ins.map bu),.aO false EC (t.outs.map bu),I t.aL,I t.agg,.aO false ER (t.rules.map cu)]:: .cells [.str [],.au,.au,I 0,I 0,.au,.au]:: .cells [.str t.name,.aO false EC (t.ins.map bu),.aO false EC (t.outs.map bu),I t.aL,I t.agg,.aO false ER (t.rules.map cu),.own ER 5 (k+1) 0 (k+1)]::b1::b2:: .vec ER (L.map ow++[.agg [.aO false EC (a.1.cells.map dI),.aO false EX (a.1.outs.map bg)]])::(τ++[.cells [.aO false E1 (ru.cells.map bB),.aO false E1 (ru.outs.map bB)]]++[.cells [.aO false EC (a.1.cells.map dI),.aO false EX (a.1.outs.map bg)]])),?_,?_,?_,da,at_⟩<;>(try dsimp only)
    ·refine⟨by omega,gP (by assumption),.inr ⟨by omega,b1,b2,τ++[.cells [.aO false E1 (ru.cells.map bB),.aO false E1 (ru.outs.map bB)]]++[.cells [.aO false EC (a.1.cells.map dI),.aO false EX (a.1.outs.map bg)]],?_⟩⟩;rw[kr,gD];(first|rfl|(simp[ow,qZ,dG];done))
    ·omega
    all_goals first|rfl|(simp[go_sem];done)
 ·obtain rfl:k=t.rules.length:=by omega
  have hok:=AY pB h2;rcases h3 with⟨h0,rfl⟩|⟨hk,b1,b2,τ,rfl⟩
  ·repeat' first|refine aG ?_|refine aF ?_ ?_<;>intro hw<;>try omega|fail
   rw[<-hE,hok,h0];exact cK (tJ (View.s5 (.cons (.refl _ rfl) (.cons (.refl _ (jC _)) (.cons (.refl _ (jC _)) (.cons (.refl _ rfl) (.cons (.refl _ rfl) (.cons (.refl _ (wA _)) (.cons (.au _) (.nil _))))))))))
  ·have nh:=oe t t.rules.length;obtain⟨L,hL⟩:∃ L,nP t t.rules.length=L:=⟨_,rfl⟩;rw[hL]at nh hok;simp only[hL];repeat' first|simp (disch:=omega) only[go_sem,aC,aD,aE,nh]|refine aG ?_|refine aF ?_ ?_<;>intro hw<;>try omega|fail
   rw[<-hE,hok];exact cK (tJ (View.s5 (.cons (.refl _ rfl) (.cons (.refl _ (jC _)) (.cons (.refl _ (jC _)) (.cons (.refl _ rfl) (.cons (.refl _ rfl) (.cons (.refl _ (wA _)) (.cons (View.vec rfl (by simp[nh]) (by simp[nh]) (KR _)) (.nil _))))))))))
def iq(a b:cV): Bool:=a.name==b.name && decide (a.kind=b.kind) && gV (fun x y=>x==y) a.order b.order
def jW(a b:eL): Bool:=gV (fun x y=>x==y) a.cells b.cells && gV (fun x y=>x==y) a.outs b.outs
def iF(a b:Table): Bool:=a.name==b.name && decide (a.aL=b.aL) && decide (a.agg=b.agg) && gV iq a.ins b.ins && gV iq a.outs b.outs && gV jW a.rules b.rules
def Db(l:List cV): Prop:=l.length<=2 ^ 60/\ ∀ c ∈ l,c.order.length<=2 ^ 60
def Oq(r:eL): Prop:=r.cells.length<=2 ^ 60/\r.outs.length<=2 ^ 60
def AZ(t:Table): Prop:=Db t.ins/\Db t.outs/\t.rules.length<=2 ^ 60/\ ∀ r ∈ t.rules,Oq r
def vX(a b:cV)(ha:a.order.length<=2 ^ 60)(hb:b.order.length<=2 ^ 60): aM aK 118 [bu a,bu b] (.bool (iq a b)):=by
 have c:=C9 a.order b.order ha hb;have hS:iq a b=(a.name==b.name && decide (a.kind=b.kind) && gV (fun x y=>x==y) a.order b.order):=rfl;rw[hS];clear hS;generalize gV (fun x y=>x==y) a.order b.order=v at *;simp only[bu,dh]at c ⊢;refine aR Aq ?_;intro Q aC aD aE;repeat' first|refine aG ?_|refine eU c ?_|refine aF ?_ ?_<;>intro hw<;>try omega|fail
 all_goals (refine aS ?_ rfl;refine congrArg AV.bool ?_;rw[a_];simp_all)
def HL(a b:eL)(ha:Oq a)(hb:Oq b): aM aK 120 [cu a,cu b] (.bool (jW a b)):=by
 have c1:=tY a.cells b.cells ha.1 hb.1;have c2:=tY a.outs b.outs ha.2 hb.2;have hS:jW a b=(gV (fun x y=>x==y) a.cells b.cells && gV (fun x y=>x==y) a.outs b.outs):=rfl;rw[hS];clear hS;generalize gV (fun x y=>x==y) a.cells b.cells=v at *;generalize gV (fun x y=>x==y) a.outs b.outs=u at *;simp only[cu,bM]at c1 c2 ⊢;refine aR Cv ?_;intro Q aC aD aE;repeat' first|refine aG ?_|refine aF ?_ ?_<;>intro hw<;>try omega|fail
 all_goals (refine aS ?_ rfl;refine congrArg AV.bool ?_;rw[a_];simp_all)
def vY(l m:List cV)(hl:Db l)(hm:Db m): aM aK 111 [cH l,cH m] (.bool (gV iq l m)):=by
 obtain⟨nX,vy⟩:=hl;obtain⟨KH,Q6⟩:=hm;simp only[cH];refine aR Ap ?_;intro Q aC aD aE;repeat' first|refine aG ?_|refine aF ?_ ?_<;>intro hw<;>try omega|fail
 ·refine aS ?_ rfl;rw[nZ (by omega)]
 have n6:l.length=m.length:=by omega
 with_reducible refine bX [4,5,11,12,13,14,15,16,17,18,19,20,21,22,23,24,25,26,27,28,29,30,31,32,33,34,35,36,37,38,39,40,41,42,43,44,45,46,47,48,49,50,51,52,53,54] (fun i:Nat=>[(5,I i)]) (fun _=>[]) (fun i=>i<=l.length/\ ∀ k,k<i->iq (l.getD k default) (m.getD k default)=true) (fun i=>l.length-i) (0) ?_ ?_ ?_ ?_
 ·simp
 ·rfl
 ·exact at_
 rintro i r ⟨h1,h2⟩;by_cases hi:i<l.length
 ·have hi':i<m.length:=by omega
  have hne:iq (l.getD i default) (m.getD i default)=false->gV iq l m=false:=fun h=>pR hi h hi';have de:=fun he=>bP h2 (i:=i) he;have c:=Bv (l.getD i default).order (m.getD i default).order (vy _ (bH hi)) (Q6 _ (bH hi'));obtain⟨a,haq⟩:∃ t,l.getD i default=t:=⟨_,rfl⟩;obtain⟨b,hbq⟩:∃ t,m.getD i default=t:=⟨_,rfl⟩;rw[haq]at hne de c;rw[hbq]at hne de c;simp only[iq]at hne de;generalize gV (fun x y=>x==y) a.order b.order=v at *;simp only[dh]at c;repeat' first|simp (disch:=omega) only[go_sem,aC,aD,aE,haq,hbq]|refine aG ?_|refine eU c ?_|refine aF ?_ ?_<;>intro hw<;>try omega|fail
  all_goals first
   |(refine aS ?_ rfl;rw[hne (by clear hne de;simp_all)];done)
   | (refine ⟨i + 1, ?_, ?_, ?_, da, at_⟩ <;> (try dsimp only)
      ·exact⟨by omega,de (by clear hne de;simp_all)⟩
      ·omega
      all_goals (first|rfl|(simp[go_sem];done)))
   | exact bK
 ·repeat' first|refine aG ?_|refine aF ?_ ?_<;>intro hw<;>try omega|fail
  refine aS ?_ rfl;rw[n5 n6 (fun k hk=>h2 k (by omega))]
def y2(a b:Table)(ha:AZ a)(hb:AZ b): aM aK 74 [dS a,dS b] (.bool (iF a b)):=by
 have c1:=qH 118 [] rfl iq a.ins b.ins (fun k h1 h2=>vX _ _ (ha.1.2 _ (bH h1)) (hb.1.2 _ (bH h2))) (by have:=ha.1.1;omega) (by have:=hb.1.1;omega);have c2:=qH 118 [] rfl iq a.outs b.outs (fun k h1 h2=>vX _ _ (ha.2.1.2 _ (bH h1)) (hb.2.1.2 _ (bH h2))) (by have:=ha.2.1.1;omega) (by have:=hb.2.1.1;omega);have c3:=zB 120 [] rfl jW a.rules b.rules (fun k h1 h2=>HL _ _ (ha.2.2.2 _ (bH h1)) (hb.2.2.2 _ (bH h2))) (by have:=ha.2.2.1;omega) (by have:=hb.2.2.1;omega);have hS:iF a b=(a.name==b.name && decide (a.aL=b.aL) && decide (a.agg=b.agg) && gV iq a.ins b.ins && gV iq a.outs b.outs && gV jW a.rules b.rules):=rfl;generalize gV iq a.ins b.ins=v1 at *;generalize gV iq a.outs b.outs=v2 at *;generalize gV jW a.rules b.rules=v3 at *;obtain⟨E,hE⟩:∃ E,iF a b=E:=⟨_,rfl⟩;rw[hE]at hS ⊢;clear hE;simp only[dS,gQ,cH,eA]at c1 c2 c3 ⊢;refine aR Je ?_;intro Q aC aD aE;dsimp (config:= { zeta:=true }) only;repeat' first|refine aG ?_|refine aF ?_ ?_<;>intro hw<;>try omega|fail
 all_goals first
  | exact bK
  |(refine aS ?_ rfl;refine congrArg AV.bool ?_;rw[hS,a_];simp_all;done)
def Tw(a b:Table)(ha:AZ a)(hb:AZ b): aM aK 65 [dS a,dS b] (.bool (iF a b)):=by
 obtain⟨a1,a2,a3,a4⟩:=ha;obtain⟨b1,b2,b3,b4⟩:=hb;have c1:=vY a.ins b.ins a1 b1;have c2:=vY a.outs b.outs a2 b2;obtain⟨E,hE⟩:∃ E,iF a b=E:=⟨_,rfl⟩;rw[hE];have hS:(a.name==b.name && decide (a.aL=b.aL) && decide (a.agg=b.agg) && gV iq a.ins b.ins && gV iq a.outs b.outs && gV jW a.rules b.rules)=E:=hE;clear hE;generalize gV iq a.ins b.ins=v1 at c1 hS;generalize gV iq a.outs b.outs=v2 at c2 hS;simp only[dS,gQ,cH,eA]at c1 c2 ⊢;by_cases h0:a.name=b.name/\a.aL=b.aL/\a.agg=b.agg/\a.rules.length=b.rules.length
 case neg =>
  have hE:E=false:=by
   rw[<-hS,Bool.eq_false_iff];intro h;simp only[aq,beq_iff_eq,decide_eq_true_eq]at h;obtain⟨⟨⟨⟨⟨g1,g2⟩,g3⟩,g4⟩,g5⟩,g6⟩:=h;refine h0 ⟨g1,g2,g3,?_⟩;by_cases hl:a.rules.length=b.rules.length
   ·exact hl
   ·rw[nZ hl]at g6;cases g6
  subst hE;clear hS c1 c2;refine aR Bm ?_;intro Q aC aD aE;repeat' first|refine aG ?_|refine aF ?_ ?_<;>intro hw<;>try omega|fail
  all_goals first
   | exact aS rfl rfl
   | exact bK
   |(exfalso;apply h0;refine⟨?_,?_,?_,?_⟩<;>first|assumption|omega|simp_all)
 obtain⟨g1,g2,g3,n6⟩:=h0;rw[g1,g2,g3,beq_self_eq_true,decide_eq_true rfl,decide_eq_true rfl,ew,ew,ew]at hS;refine aR Bm ?_;intro Q aC aD aE;repeat' first|simp (disch:=omega) only[go_sem,aC,aD,aE,g1,g2,g3]|refine aG ?_|refine aF ?_ ?_<;>intro hw<;>try omega|fail
 all_goals first|(exfalso;omega)|exact bK|skip
 with_reducible refine bX [4,5,34,35,36,37,38,39,40,41,42,43,44,45,46,47,48,49,50,51,52,53,54,55,56,57,58,59,60,61,62,63,64,65,66,67,68,69,70] (fun i:Nat=>[(5,I i)]) (fun _=>[.cells [.str b.name,.aO false EC (a.ins.map bu),.aO false EC (a.outs.map bu),I b.aL,I b.agg,.aO false ER (a.rules.map cu)],.cells [.str b.name,.aO false EC (b.ins.map bu),.aO false EC (b.outs.map bu),I b.aL,I b.agg,.aO false ER (b.rules.map cu)]]) (fun i=>i<=a.rules.length/\ ∀ k,k<i->jW (a.rules.getD k default) (b.rules.getD k default)=true) (fun i=>a.rules.length-i) (0) ?_ ?_ ?_ ?_
 ·simp
 ·rfl
 ·exact at_
 rintro i r ⟨h1,h2⟩;by_cases hi:i<a.rules.length
 ·have hi':i<b.rules.length:=by omega
  have k1:=yo _ _ (a4 _ (bH hi)).1 (b4 _ (bH hi')).1;have k2:=yo _ _ (a4 _ (bH hi)).2 (b4 _ (bH hi')).2;have hne:=fun h=>pR (p:=jW) hi h hi';have de:=fun he=>bP (q:=fun k=>jW (a.rules.getD k default) (b.rules.getD k default)=true) h2 (i:=i) he;obtain⟨x,hx⟩:∃ x,a.rules.getD i default=x:=⟨_,rfl⟩;obtain⟨y,hy⟩:∃ y,b.rules.getD i default=y:=⟨_,rfl⟩;rw[hx]at k1 k2 hne de;rw[hy]at k1 k2 hne de;simp only[jW]at hne de;generalize gV (fun x y=>x==y) x.cells y.cells=w1 at k1 hne de;generalize gV (fun x y=>x==y) x.outs y.outs=w2 at k2 hne de;simp only[bM]at k1 k2;repeat' first|simp (disch:=omega) only[go_sem,aC,aD,aE,hx,hy]|refine aG ?_|refine aF ?_ ?_<;>intro hw<;>try omega|fail
  all_goals first
   | exact bK
   |(refine aS ?_ rfl;rw[<-hS,hne (by clear hne de hS;simp_all),f_];done)
   | (refine ⟨i + 1, ?_, ?_, ?_, da, at_⟩ <;> (try dsimp only)
      ·exact⟨by omega,de (by clear hne de hS;simp_all)⟩
      ·omega
      all_goals (first|rfl|(simp[go_sem];done)))
 ·rw[n5 n6 (fun k hk=>h2 k (by omega)),fW]at hS;repeat' first|refine aG ?_|refine aF ?_ ?_<;>intro hw<;>try omega|fail
  all_goals first
   | exact bK
   |(refine aS ?_ rfl;rw[<-hS];simp_all;done)
def kY(l:kB)(m:Nat): aI × Int:=uU (l.cells.getD m default)
def oD(l:kB)(m:Nat): aI × Int:=pE (l.outs.getD m default)
def cg(l:kB)(n:Nat): List aI:=(List.range n).map fun m=>(kY l m).1
def rI(l:kB)(n:Nat): List aI:=(List.range n).map fun m=>(oD l m).1
def Qh(l:kB)(n:Nat): cg l (n+1)=cg l n++[(kY l n).1]:=by simp[cg,List.range_succ]
def Tx(l:kB)(n:Nat): rI l (n+1)=rI l n++[(oD l n).1]:=by simp[rI,List.range_succ]
def A0(l:kB)(n:Nat): (cg l n).length=n:=by simp[cg]
def Dc(l:kB)(n:Nat): (rI l n).length=n:=by simp[rI]
def uD(w:Nat)(l:kB): eL × Int × Int :=
 match(List.range l.cells.length).find? (fun m=>(kY l m).2 != 0)with
 | some m=>(⟨cg l l.cells.length,rI l l.outs.length⟩,m,(kY l m).2)
 | none => match (List.range l.outs.length).find? (fun m => (oD l m).2 != 0) with
   | some m=>(⟨cg l l.cells.length,rI l l.outs.length⟩,w+m,(oD l m).2)
   | none=>(⟨cg l l.cells.length,rI l l.outs.length⟩,0,0)
def iD: Table:=⟨[],[],[],0,0,[]⟩
def qw(t:Table)(n:Nat): kB:=(eM t).1.lines.getD n default
def mB(t:Table)(n:Nat): eL × Int × Int:=uD t.ins.length (qw t n)
def ni(t:Table)(n:Nat): List eL:=(List.range n).map fun k=>(mB t k).1
def fB(t:Table): Table × Int × Int × Int :=
 if(eM t).2.2.2≠0 then(iD,(eM t).2.1,(eM t).2.2.1,(eM t).2.2.2)
 else match(List.range (eM t).1.lines.length).find? (fun n=>(mB t n).2.2 != 0)with
 | some n=>(iD,n,(mB t n).2.1,(mB t n).2.2)
 | none=>({ t with rules:=ni t (eM t).1.lines.length },0,0,0)
def Ru(r:Table × Int × Int × Int): AV:= .bU [dS r.1,I r.2.1,I r.2.2.1,I r.2.2.2]
def Ty(t:Table)(n:Nat): ni t (n+1)=ni t n++[(mB t n).1]:=by simp[ni,List.range_succ]
def yu(t:Table)(n:Nat): (ni t n).length=n:=by simp[ni]
def HM(w:Nat)(l:kB): (uD w l).1=⟨cg l l.cells.length,rI l l.outs.length⟩:=by
 unfold uD;split
 ·rfl
 ·split<;>rfl
def V9(w:Nat){l:kB}{m:Nat}(hm:m<l.cells.length)(h:∀ j,j<m->(kY l j).2=0)(he:(kY l m).2≠0): (uD w l).2=((m:Int),(kY l m).2):=by
 unfold uD;rw[uB (i:=m) hm (fun j hj=>by simp[h j hj]) (by simp[he])]
def Yw(w:Nat){l:kB}(hc:∀ j,j<l.cells.length->(kY l j).2=0){m:Nat}(hm:m<l.outs.length)(h:∀ j,j<m->(oD l j).2=0)(he:(oD l m).2≠0): (uD w l).2=((w:Int)+m,(oD l m).2):=by
 unfold uD;rw[l7 (fun j hj=>by simp[hc j hj])];dsimp only;rw[uB (i:=m) hm (fun j hj=>by simp[h j hj]) (by simp[he])]
def aa3(w:Nat){l:kB}(hc:∀ j,j<l.cells.length->(kY l j).2=0)(h:∀ j,j<l.outs.length->(oD l j).2=0): (uD w l).2=(0,0):=by
 unfold uD;rw[l7 (fun j hj=>by simp[hc j hj])];dsimp only;rw[l7 (fun j hj=>by simp[h j hj])]
def y3{t:Table}(h:(eM t).2.2.2≠0): fB t=(iD,(eM t).2.1,(eM t).2.2.1,(eM t).2.2.2):=by unfold fB;rw[if_pos h]
def Tz{t:Table}(h0:(eM t).2.2.2=0){n:Nat}(hn:n<(eM t).1.lines.length)(h:∀ j,j<n->(mB t j).2.2=0)(he:(mB t n).2.2≠0): fB t=(iD,(n:Int),(mB t n).2.1,(mB t n).2.2):=by
 unfold fB;rw[if_neg (by omega),uB (i:=n) hn (fun j hj=>by simp[h j hj]) (by simp[he])]
def yw{t:Table}(h0:(eM t).2.2.2=0)(h:∀ j,j<(eM t).1.lines.length->(mB t j).2.2=0): fB t=({ t with rules:=ni t (eM t).1.lines.length },0,0,0):=by
 unfold fB;rw[if_neg (by omega),l7 (fun j hj=>by simp[h j hj])]
def V_(l:kB): Prop:=(l.cells.length<=2 ^ 30/\ ∀ c ∈ l.cells,yZ c)/\l.outs.length<=2 ^ 30/\ ∀ x ∈ l.outs,jD x/\fT x<=2 ^ 30
def qx{t:Table}(h:(eM t).2.2.2=0): iC t=0/\(∀ j,j<t.rules.length->(jE t j).2.2=0)/\eM t=((⟨t,nP t t.rules.length⟩:Ready),(0:Int),(0:Int),(0:Int)):=by
 by_cases hf:iC t=0
 ·have hl : ∀ j, j < t.rules.length -> (jE t j).2.2 = 0 := by
   cases hq:(List.range t.rules.length).find? (fun k=>(jE t k).2.2 != 0)with
   | some k =>
     exfalso;unfold eM at h;rw[if_neg (by omega),hq]at h;have:=dW hq;simp at this;exact this h
   | none =>
     intro j hj;have:=dA.1 hq j (cY.2 hj);simpa using this
  exact⟨hf,hl,AY hf hl⟩
 ·rw[EJ hf]at h;exact absurd h hf
def Wa(t:Table)(r:eL)(h1:t.ins.length<=2 ^ 30)(h2:t.outs.length<=2 ^ 30)(hr:r.cells.length<=2 ^ 30)(ho:r.outs.length<=2 ^ 30): V_ (lE t r).1:=by
 have hc:∀ n,n<=2 ^ 30->(mD t r n).length<=2 ^ 30/\ ∀ c ∈ mD t r n,yZ c:=fun n hn=>by
  refine⟨by rw[vv];exact hn,fun c hc=>?_⟩;obtain⟨k,_,rfl⟩:=cy.1 hc;exact Tp _
 have hx:∀ n,n<=2 ^ 30->(qM t r n).length<=2 ^ 30/\ ∀ x ∈ qM t r n,jD x/\fT x<=2 ^ 30:=fun n hn=>by
  refine⟨by rw[AW];exact hn,fun x hx=>?_⟩;obtain⟨k,_,rfl⟩:=cy.1 hx;exact Lg _
 have hk:∀ {n k:Nat} {p:Nat->Bool},(List.range n).find? p=some k->k<n:=fun h=>cY.1 (fS h);unfold lE;split
 ·exact⟨⟨by simp,by simp⟩,by simp,by simp⟩
 split
 ·rename_i k hq;have:=hk hq;exact⟨hc _ (by omega),by simp,by simp⟩
 split
 ·rename_i k hq;have:=hk hq;exact⟨hc _ hr,hx _ (by omega)⟩
 ·exact⟨hc _ hr,hx _ ho⟩
def EL{t:Table}(h:j8 t)(h0:(eM t).2.2.2=0): (eM t).1.lines.length=t.rules.length/\ ∀ n,V_ (qw t n):=by
 obtain⟨_,_,hm⟩:=qx h0;refine⟨by rw[hm];exact oe _ _,fun n=>?_⟩;unfold qw;rw[hm];dsimp only;by_cases hn:n<t.rules.length
 ·have : (nP t t.rules.length).getD n default = (jE t n).1 := by
   unfold nP;rw[aj,List.getElem?_map,List.getElem?_range hn];rfl
  rw[this];have hr:=h.2.2.2.2 _ (bH hn);exact Wa t _ h.2.1.1 h.2.2.1.1 hr.1.1 hr.2.1
 ·rw[oA (by rw[oe];omega)];exact⟨⟨Nat.zero_le _,fun c hc=>by cases hc⟩,Nat.zero_le _,fun c hc=>by cases hc⟩
def tZ(L:Nat)(S:ae)(v:AV)(xs:List aI): Prop:=(xs=[]/\v = .au)\/(xs≠[]/\ ∃ q,L<=q/\v = .own E1 q xs.length 0 xs.length/\S[q]? = some (.vec E1 (xs.map bB)))
def tZ.nil(L:Nat)(S:ae): tZ L S .au []:= .inl ⟨rfl,rfl⟩
def tZ.scalar{L:Nat}{S:ae}{v:AV}{xs:List aI}(h:tZ L S v xs): v.scalar=true:=by
 rcases h with⟨_,rfl⟩|⟨_,q,_,rfl,_⟩<;>rfl
def tZ.view{L:Nat}{S:ae}{v:AV}{xs:List aI}(h:tZ L S v xs): View S v (bM xs):=by
 rcases h with⟨rfl,rfl⟩|⟨_,q,_,rfl,hq⟩
 ·exact View.au _
 ·exact View.vec hq (by simp) (by simp) (tq _)
def tZ.keep{L L':Nat}{S S':ae}{v:AV}{xs:List aI}(hL:L'<=L)(hs:∀ (q:Nat) (ys:List AV),L<=q->S[q]? = some (.vec E1 ys)->S'[q]? = some (.vec E1 ys))(h:tZ L S v xs): tZ L' S' v xs:=by
 rcases h with h|⟨h1,q,h2,h3,h4⟩
 ·exact .inl h
 ·exact .inr ⟨h1,q,cE hL h2,h3,hs _ _ h2 h4⟩
def Yx(S:ae)(a:AV)(r:eL): Prop:= ∃ v w,a = .agg [v,w]/\tZ 0 S v r.cells/\tZ 0 S w r.outs
def nj(S:ae)(rs:List AV)(l:List eL): Prop:=rs.length=l.length/\ ∀ j,j<l.length->Yx S (rs.getD j .undef) (l.getD j default)
def nj.nil(S:ae): nj S [] []:=⟨rfl,fun j hj=>by cases hj⟩
def nj.keep{S S':ae}{rs:List AV}{l:List eL}(hs:∀ (q:Nat) (ys:List AV),S[q]? = some (.vec E1 ys)->S'[q]? = some (.vec E1 ys))(h:nj S rs l): nj S' rs l:=by
 refine⟨h.1,fun j hj=>?_⟩;obtain⟨v,w,h1,h2,h3⟩:=h.2 j hj;exact⟨v,w,h1,h2.keep (Nat.le_refl _) (fun q ys _=>hs q ys),h3.keep (Nat.le_refl _) (fun q ys _=>hs q ys)⟩
def nj.snoc{S:ae}{rs:List AV}{l:List eL}{a:AV}{r:eL}(h:nj S rs l)(ha:Yx S a r): nj S (rs++[a]) (l++[r]):=by
 refine⟨by simp[h.1],fun j hj=>?_⟩;have hl:=h.1;rw[aA,List.length_cons,List.length_nil]at hj;by_cases qE:j<l.length
 ·rw[aj,aj,aH (by omega),aH qE,<-aj,<-aj];exact h.2 j qE
 ·obtain rfl:j=l.length:=by omega
  rw[aj,aj,<-hl,bL (Nat.le_refl _),hl,bL (Nat.le_refl _)];simpa using ha
def nj.view{S:ae}{rs:List AV}{l:List eL}(h:nj S rs l): bS S rs (l.map cu):=by
 refine⟨by simp[h.1],fun j hj=>?_⟩;have hl:=h.1;obtain⟨v,w,h1,h2,h3⟩:=h.2 j (by omega);rw[h1,getD_map _ _ _ (by omega)];exact View.s5 (.cons h2.view (.cons h3.view (.nil _)))
def xx(L:Nat)(S:ae)(v:AV)(l:List eL): Prop:=(l=[]/\v = .au)\/(l≠[]/\ ∃ q rs,L<=q/\v = .own ER q l.length 0 l.length/\S[q]? = some (.vec ER rs)/\nj S rs l)
def xx.nil(L:Nat)(S:ae): xx L S .au []:= .inl ⟨rfl,rfl⟩
def xx.view{L:Nat}{S:ae}{v:AV}{l:List eL}(h:xx L S v l): View S v (eA l):=by
 rcases h with⟨rfl,rfl⟩|⟨_,q,rs,_,rfl,hq,hr⟩
 ·exact View.au _
 ·exact View.acj hq hr.1.symm hr.1.symm hr.view
def xx.scalar{L:Nat}{S:ae}{v:AV}{l:List eL}(h:xx L S v l): v.scalar=true:=by
 rcases h with⟨_,rfl⟩|⟨_,q,_,_,rfl,_⟩<;>rfl
def xx.keep{L:Nat}{S S':ae}{v:AV}{l:List eL}(hs:∀ (q:Nat) (o:aZ),S[q]? = some o->(∀ cs,o≠ .cells cs)->S'[q]? = some o)(h:xx L S v l): xx L S' v l:=by
 rcases h with h|⟨h1,q,rs,h2,h3,h4,h5⟩
 ·exact .inl h
 ·exact .inr ⟨h1,q,rs,h2,h3,hs _ _ h4 (fun cs=>by simp),h5.keep (fun q ys hq=>hs q _ hq (fun cs=>by simp))⟩
