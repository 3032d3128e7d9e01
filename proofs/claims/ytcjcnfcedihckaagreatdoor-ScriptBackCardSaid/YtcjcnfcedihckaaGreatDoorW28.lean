/- Part. -/
import Derived.Test.YtcjcnfcedihckaaGreatDoorW27
set_option linter.all false
set_option maxHeartbeats 4000000
namespace Go.Proofs.YtcjcnfcedihckaaGreatDoor
open Go.AM
set_option maxRecDepth 4000
def pB(t:Table)(r:eE)(k:Nat): Cell × Int:=M8 t k (r.cells.getD k default)
def nu(t:Table)(r:eE)(k:Nat): Expr × Int:=GP t k (r.outs.getD k default)
def me(t:Table)(r:eE)(n:Nat): List Cell:=(List.range n).map fun k=>(pB t r k).1
def qj(t:Table)(r:eE)(n:Nat): List Expr:=(List.range n).map fun k=>(nu t r k).1
def kY(t:Table)(r:eE): j4 × Int × Int :=
 if r.cells.length≠t.ins.length\/r.outs.length≠t.outs.length then(⟨[],[]⟩,0,17)
 else match(List.range r.cells.length).find? (fun k=>(pB t r k).2 != 0)with
 | some k=>(⟨me t r k,[]⟩,k,(pB t r k).2)
 | none => match (List.range r.outs.length).find? (fun k => (nu t r k).2 != 0) with
   | some k=>(⟨me t r r.cells.length,qj t r k⟩,t.ins.length+k,(nu t r k).2)
   | none=>(⟨me t r r.cells.length,qj t r r.outs.length⟩,0,0)
def GQ(t:Table)(r:eE)(n:Nat): me t r (n+1)=me t r n++[(pB t r n).1]:=by simp[me,List.range_succ]
def J9(t:Table)(r:eE)(n:Nat): qj t r (n+1)=qj t r n++[(nu t r n).1]:=by simp[qj,List.range_succ]
def uO(t:Table)(r:eE)(n:Nat): (me t r n).length=n:=by simp[me]
def Ah(t:Table)(r:eE)(n:Nat): (qj t r n).length=n:=by simp[qj]
def tT{n i:Nat}{p:Nat->Bool}(hi:i<n)(h:∀ k,k<i->p k=false)(hp:p i=true): (List.range n).find? p=some i:=by
 have:=wg (p:=p) (l:=List.range n) (i:=i) (by simpa using hi) (fun k hk=>by rw[mJ (by omega)];exact h k hk) (by rw[mJ hi];exact hp);rwa[mJ hi]at this
def lP{n:Nat}{p:Nat->Bool}(h:∀ k,k<n->p k=false): (List.range n).find? p=none :=
 wO (fun k hk=>by rw[List.length_range]at hk;rw[mJ hk];exact h k hk)
def J_{t:Table}{r:eE}(h:r.cells.length≠t.ins.length\/r.outs.length≠t.outs.length): kY t r=(⟨[],[]⟩,0,17):=by
 unfold kY;rw[if_pos h]
def Ka{t:Table}{r:eE}(h1:r.cells.length=t.ins.length)(h2:r.outs.length=t.outs.length){k:Nat}(hk:k<r.cells.length)(h:∀ j,j<k->(pB t r j).2=0)(he:(pB t r k).2≠0): kY t r=((⟨me t r k,[]⟩:j4),(k:Int),(pB t r k).2):=by
 unfold kY;rw[if_neg (by omega),tT (i:=k) hk (fun j hj=>by simp[h j hj]) (by simp[he])]
def R_{t:Table}{r:eE}(h1:r.cells.length=t.ins.length)(h2:r.outs.length=t.outs.length)(hc:∀ j,j<r.cells.length->(pB t r j).2=0){k:Nat}(hk:k<r.outs.length)(h:∀ j,j<k->(nu t r j).2=0)(he:(nu t r k).2≠0): kY t r=((⟨me t r r.cells.length,qj t r k⟩:j4),(t.ins.length:Int)+k,(nu t r k).2):=by
 unfold kY;rw[if_neg (by omega),lP (fun j hj=>by simp[hc j hj])];dsimp only;rw[tT (i:=k) hk (fun j hj=>by simp[h j hj]) (by simp[he])]
def M9{t:Table}{r:eE}(h1:r.cells.length=t.ins.length)(h2:r.outs.length=t.outs.length)(hc:∀ j,j<r.cells.length->(pB t r j).2=0)(h:∀ j,j<r.outs.length->(nu t r j).2=0): kY t r=(⟨me t r r.cells.length,qj t r r.outs.length⟩,0,0):=by
 unfold kY;rw[if_neg (by omega),lP (fun j hj=>by simp[hc j hj])];dsimp only;rw[lP (fun j hj=>by simp[h j hj])]
def eLn(r:j4 × Int × Int): AV:= .bO [nY r.1,I r.2.1,I r.2.2]
def tU{σ : ae}{a b:AV}{cs:List Cell}{xs:List Expr}{n m:Int}(ha:View σ a (qD cs))(hb:View σ b (dA xs)): bL σ [.agg [a,b],I n,I m] [nY ⟨cs,xs⟩,I n,I m] :=
 mI (View.sC (.cons ha (.cons hb (.nil _))))
def OW(t:Table)(r:eE)(ht:t.ins.length<=2 ^ 30)(ho:t.outs.length<=2 ^ 30)(ht0:0<t.ins.length)(hr:(r.cells.length<=2 ^ 30/\ ∀ s ∈ r.cells,s.length<=2 ^ 30)/\r.outs.length<=2 ^ 30/\ ∀ s ∈ r.outs,s.length<=2 ^ 30): aP aK 153 [dV t,cu r] (eLn (kY t r)):=by
 obtain⟨⟨hr1,Cq⟩,hr3,YK⟩:=hr;obtain⟨E,hE⟩:∃ E,eLn (kY t r)=E:=⟨_,rfl⟩;rw[hE];have ca:=fun k (h1:k<t.ins.length) (h2:k<r.cells.length)=>R9 t k (r.cells.getD k default) ht h1 (Cq _ (bJ h2));have ce:=fun k (h1:k<t.outs.length) (h2:k<r.outs.length)=>OV t k (r.outs.getD k default) ht ho h1 (YK _ (bJ h2));simp only[show ∀ k,M8 t k (r.cells.getD k default)=pB t r k from fun _=>rfl]at ca;simp only[show ∀ k,GP t k (r.outs.getD k default)=nu t r k from fun _=>rfl]at ce;simp only[dV,ia,cJ,eF,cu,bX]at ca ce ⊢;by_cases hb:r.cells.length≠t.ins.length\/r.outs.length≠t.outs.length
 ·refine aR yP ?_;intro Q aF aG aH;repeat' first|refine aE ?_|refine aD ?_ ?_<;>intro hw<;>try omega|fail
  all_goals first
   | exact bN
   |(rw[<-hE,J_ hb];exact cG (tU (.au _) (.au _)))
 have q1:r.cells.length=t.ins.length:=by omega
 have q2:r.outs.length=t.outs.length:=by omega
 clear hb;refine aR yP ?_;intro Q aF aG aH;repeat' first|refine aE ?_|refine aD ?_ ?_<;>intro hw<;>try omega|fail
 all_goals first|exact bN|skip
 with_reducible refine bZ [5,6,7,8,9,10,35,36,37,38,39,40,41,42,43,44,45,46,47,48,49,50,51,52,53,54,55,56,57,58] (fun q:Nat × ae=>[(35,I q.1)]) (fun q=>q.2) (fun q=>q.1<=r.cells.length/\(∀ k,k<q.1->(pB t r k).2=0)/\(q.1=0/\q.2=[.cells [.str t.name,.aO false EC (t.ins.map bq),.aO false EC (t.outs.map bq),I t.aM,I t.agg,.aO false ER (t.rules.map cu)],.cells [.aO false E1 (r.cells.map cj),.aO false E1 (r.outs.map cj)],.cells [.au,.au]]\/0<q.1/\ ∃ c1 τ,q.2 = .cells [.str t.name,.aO false EC (t.ins.map bq),.aO false EC (t.outs.map bq),I t.aM,I t.agg,.aO false ER (t.rules.map cu)]:: .cells [.aO false E1 (r.cells.map cj),.aO false E1 (r.outs.map cj)]:: .cells [.own EC 4 q.1 0 q.1,.au]::c1:: .vec EC ((me t r q.1).map dD):: τ)) (fun q=>r.cells.length-q.1) (0,_) ⟨bR _,fun k hk=>by omega,.inl ⟨rfl,rfl⟩⟩ rfl ?_ ?_
 ·exact at_
 rintro⟨k,S⟩ rr ⟨h1,h2,h3⟩;dsimp only at h1 h2 h3;rcases h3 with⟨rfl,rfl⟩|⟨hk,c1,τ,rfl⟩
 ·have c:=ca 0 (by omega) (by omega);obtain⟨a,ha⟩:∃ a,pB t r 0=a:=⟨_,rfl⟩;rw[ha]at c;have uP:=fun he=>Ka q1 q2 (k:=0) (by omega) h2 he;rw[ha]at uP;have kj:=GQ t r 0;rw[ha]at kj;simp only[dD,jo]at c;repeat' first|refine aE ?_|refine fm c ?_|refine aD ?_ ?_<;>intro hw<;>try omega|fail
  ·rw[<-hE,uP (by assumption)];exact cG (tU (.au _) (.au _))
  ·refine⟨(1,[.cells [.str t.name,.aO false EC (t.ins.map bq),.aO false EC (t.outs.map bq),I t.aM,I t.agg,.aO false ER (t.rules.map cu)],.cells [.aO false E1 (r.cells.map cj),.aO false E1 (r.outs.map cj)],.cells [.own EC 4 1 0 1,.au],.cells [.bool a.1.any,.bool a.1.neg,.aO false ES (a.1.tests.map dB)],.vec EC [.agg [.bool a.1.any,.bool a.1.neg,.aO false ES (a.1.tests.map dB)]]]),?_,?_,?_,dH,at_⟩<;>(try dsimp only)
   ·refine⟨by omega,fun j hj=>?_,.inr ⟨by omega,.cells [.bool a.1.any,.bool a.1.neg,.aO false ES (a.1.tests.map dB)],[],?_⟩⟩
    ·obtain rfl:j=0:=by omega
     rw[ha];assumption
    ·rw[kj];rfl
   ·omega
   all_goals rfl
 ·by_cases s8:k<r.cells.length
  ·have c:=ca k (by omega) (by omega);have uP:=fun he=>Ka q1 q2 (k:=k) (by omega) h2 he;have kj:=GQ t r k;obtain⟨a,ha⟩:∃ a,pB t r k=a:=⟨_,rfl⟩;rw[ha]at c uP kj;have mL:=uO t r k;have gN:=fun he=>bI (q:=fun j=>(pB t r j).2=0) h2 he;obtain⟨L,hL⟩:∃ L,me t r k=L:=⟨_,rfl⟩;rw[hL]at mL kj;simp only[hL]at uP ⊢;simp only[dD,jo]at c;repeat' first|simp (disch:=omega) only[go_sem,aF,aG,aH,mL]|refine aE ?_|refine fm c ?_|refine aD ?_ ?_<;>intro hw<;>try omega|fail
   ·rw[<-hE,uP (by assumption)];exact cG (tU (View.vec rfl (by simp[mL]) (by simp[mL]) (rM _)) (.au _))
   ·refine⟨(k+1,.cells [.str t.name,.aO false EC (t.ins.map bq),.aO false EC (t.outs.map bq),I t.aM,I t.agg,.aO false ER (t.rules.map cu)]:: .cells [.aO false E1 (r.cells.map cj),.aO false E1 (r.outs.map cj)]:: .cells [.own EC 4 (k+1) 0 (k+1),.au]::c1:: .vec EC (L.map dD++[.agg [.bool a.1.any,.bool a.1.neg,.aO false ES (a.1.tests.map dB)]])::(τ++[.cells [.bool a.1.any,.bool a.1.neg,.aO false ES (a.1.tests.map dB)]])),?_,?_,?_,dH,at_⟩<;>(try dsimp only)
    ·refine⟨by omega,gN (by rw[ha];assumption),.inr ⟨by omega,c1,τ++[.cells [.bool a.1.any,.bool a.1.neg,.aO false ES (a.1.tests.map dB)]],?_⟩⟩;rw[kj,fY];rfl
    ·omega
    all_goals rfl
  ·have hkn:k=r.cells.length:=by omega
   subst hkn;have mL:=uO t r r.cells.length;have hok:=fun h=>M9 q1 q2 h2 h;have hte:=fun k (hk:k<r.outs.length) h he=>R_ q1 q2 h2 (k:=k) hk h he;obtain⟨L,hL⟩:∃ L,me t r r.cells.length=L:=⟨_,rfl⟩;rw[hL]at mL;simp only[hL]at hok hte ⊢;repeat' first|refine aE ?_|refine aD ?_ ?_<;>intro hw<;>try omega|fail
   with_reducible refine bZ [5,6,11,12,13,14,62,63,64,65,66,67,68,69,70,71,72,73,74,75,76,77,78,79,80,81,82,83,84,85,86,87,88,89] (fun q:Nat × ae=>[(62,I q.1)]) (fun q=>q.2) (fun q=>q.1<=r.outs.length/\(∀ k,k<q.1->(nu t r k).2=0)/\(q.1=0/\q.2 = .cells [.str t.name,.aO false EC (t.ins.map bq),.aO false EC (t.outs.map bq),I t.aM,I t.agg,.aO false ER (t.rules.map cu)]:: .cells [.aO false E1 (r.cells.map cj),.aO false E1 (r.outs.map cj)]:: .cells [.own EC 4 r.cells.length 0 r.cells.length,.au]::c1:: .vec EC (L.map dD):: τ\/0<q.1/\ ∃ p ρ,q.2 = .cells [.str t.name,.aO false EC (t.ins.map bq),.aO false EC (t.outs.map bq),I t.aM,I t.agg,.aO false ER (t.rules.map cu)]:: .cells [.aO false E1 (r.cells.map cj),.aO false E1 (r.outs.map cj)]:: .cells [.own EC 4 r.cells.length 0 r.cells.length,.own EX (p+1+1+1+1+1) q.1 0 q.1]::c1:: .vec EC (L.map dD):: ρ/\ ρ[p]? = some (.vec EX ((qj t r q.1).map bf)))) (fun q=>r.outs.length-q.1) (0,_) ⟨bR _,fun k hk=>by omega,.inl ⟨rfl,rfl⟩⟩ rfl ?_ ?_
   ·exact at_
   rintro⟨m,S⟩ rr ⟨g1,g2,g3⟩;dsimp only at g1 g2 g3;rcases g3 with⟨rfl,rfl⟩|⟨hm,p,ρ,rfl,hk⟩
   ·by_cases hml:0<r.outs.length
    ·have c:=ce 0 (by omega) (by omega);have uP:=fun he=>hte 0 hml g2 he;have kj:=J9 t r 0;obtain⟨a,ha⟩:∃ a,nu t r 0=a:=⟨_,rfl⟩;rw[ha]at c uP kj;rw[bB]at c;try simp only[dA]at c
     repeat' first|simp (disch:=omega) only[go_sem,aF,aG,aH,mL]|refine aE ?_|refine fm c ?_|refine aD ?_ ?_<;>intro hw<;>try omega|fail
     ·rw[<-hE,uP (by assumption)];refine cG (tU (View.vec rfl (by simp[mL]) (by simp[mL]) (rM _)) (.au _))
     ·refine⟨(1,.cells [.str t.name,.aO false EC (t.ins.map bq),.aO false EC (t.outs.map bq),I t.aM,I t.agg,.aO false ER (t.rules.map cu)]:: .cells [.aO false E1 (r.cells.map cj),.aO false E1 (r.outs.map cj)]:: .cells [.own EC 4 r.cells.length 0 r.cells.length,.own EX (τ.length+1+1+1+1+1+1) 1 0 1]::c1:: .vec EC (L.map dD)::(τ++[.cells [I a.1.op,I a.1.v.kind,I a.1.v.n,.str a.1.v.s,.str a.1.s,.aO false EX (a.1.l.map bf)]]++[.vec EX [.agg [I a.1.op,I a.1.v.kind,I a.1.v.n,.str a.1.v.s,.str a.1.s,.aO false EX (a.1.l.map bf)]]])),?_,?_,?_,dH,at_⟩<;>(try dsimp only)
      ·refine⟨by omega,fun j hj=>?_,.inr ⟨by omega,τ.length+1,_,rfl,?_⟩⟩
       ·obtain rfl:j=0:=by omega
        rw[ha];assumption
       ·rw[kj,show ∀ x,[x]=[]++[x] from fun _=>rfl];simp[qj,bB,dA]
      ·omega
      all_goals first|rfl|(simp[go_sem];done)
    ·repeat' first|simp (disch:=omega) only[go_sem,aF,aG,aH,mL]|refine aE ?_|refine aD ?_ ?_<;>intro hw<;>try omega|fail
     rw[<-hE,hok (fun j hj=>by omega)];have h0:r.outs.length=0:=by omega
     rw[h0];exact cG (tU (View.vec rfl (by simp[mL]) (by simp[mL]) (rM _)) (.au _))
   ·have hlt:=(aN.1 hk).1;have Fm:=Ah t r m;have kR:=fun d:aY=>(aC (l₁:= ρ) (l₂:=[d]) hlt).trans hk;by_cases hml:m<r.outs.length
    ·have c:=ce m (by omega) (by omega);have uP:=fun he=>hte m hml g2 he;have kj:=J9 t r m;have gN:=fun he=>bI (q:=fun j=>(nu t r j).2=0) g2 he;have iD:=fun(d w:aY)=>List.set_append_left (s:= ρ) (t:=[d]) p w hlt;obtain⟨a,ha⟩:∃ a,nu t r m=a:=⟨_,rfl⟩;rw[ha]at c uP kj;obtain⟨X,hX⟩:∃ X,qj t r m=X:=⟨_,rfl⟩;rw[hX]at Fm kj hk uP;simp only[hX]at kR;rw[bB]at c;try simp only[dA]at c
     repeat' first|simp (disch:=omega) only[go_sem,aF,aG,aH,mL,Fm,hk,kR,iD]|refine aE ?_|refine fm c ?_|refine aD ?_ ?_<;>intro hw<;>try omega|fail
     ·rw[<-hE,uP (by assumption)];refine cG (tU (View.vec rfl (by simp[mL]) (by simp[mL]) (rM _)) (View.vec (kR _) (by simp[Fm]) (by simp[Fm]) (Mn _)))
     ·refine⟨(m+1,.cells [.str t.name,.aO false EC (t.ins.map bq),.aO false EC (t.outs.map bq),I t.aM,I t.agg,.aO false ER (t.rules.map cu)]:: .cells [.aO false E1 (r.cells.map cj),.aO false E1 (r.outs.map cj)]:: .cells [.own EC 4 r.cells.length 0 r.cells.length,.own EX (p+1+1+1+1+1) (m+1) 0 (m+1)]::c1:: .vec EC (L.map dD)::(ρ.set p (.vec EX (X.map bf++[.agg [I a.1.op,I a.1.v.kind,I a.1.v.n,.str a.1.v.s,.str a.1.s,.aO false EX (a.1.l.map bf)]]))++[.cells [I a.1.op,I a.1.v.kind,I a.1.v.n,.str a.1.v.s,.str a.1.s,.aO false EX (a.1.l.map bf)]])),?_,?_,?_,dH,at_⟩<;>(try dsimp only)
      ·refine⟨by omega,gN (by rw[ha];assumption),.inr ⟨by omega,p,_,rfl,?_⟩⟩;rw[kj,fY,aC (by simpa using hlt),List.getElem?_set_self (by simpa using hlt)];simp[bB,dA]
      ·omega
      all_goals first|rfl|(simp[go_sem];done)
    ·obtain rfl:m=r.outs.length:=by omega
     repeat' first|simp (disch:=omega) only[go_sem,aF,aG,aH,mL,Fm,hk,kR]|refine aE ?_|refine aD ?_ ?_<;>intro hw<;>try omega|fail
     rw[<-hE,hok g2];exact cG (tU (View.vec rfl (by simp[mL]) (by simp[mL]) (rM _)) (View.vec hk (by simp[Fm]) (by simp[Fm]) (Mn _)))
def jm(t:Table)(k:Nat): j4 × Int × Int:=kY t (t.rules.getD k default)
def nw(t:Table)(n:Nat): List j4:=(List.range n).map fun k=>(jm t k).1
def Cv: Ready:=⟨⟨[],[],[],0,0,[]⟩,[]⟩
def eG(t:Table): Ready × Int × Int × Int :=
 if ic t≠0 then(Cv,-1,0,ic t)
 else match(List.range t.rules.length).find? (fun k=>(jm t k).2.2 != 0)with
 | some k=>(Cv,k,(jm t k).2.1,(jm t k).2.2)
 | none=>(⟨t,nw t t.rules.length⟩,0,0,0)
def YN(r:Ready × Int × Int × Int): AV:= .bO [B3 r.1,I r.2.1,I r.2.2.1,I r.2.2.2]
def Sb(t:Table)(n:Nat): nw t (n+1)=nw t n++[(jm t n).1]:=by simp[nw,List.range_succ]
def nR(t:Table)(n:Nat): (nw t n).length=n:=by simp[nw]
def D5{t:Table}(h:ic t≠0): eG t=(Cv,(-1:Int),(0:Int),ic t):=by unfold eG;rw[if_pos h]
def Sc{t:Table}(h0:ic t=0){k:Nat}(hk:k<t.rules.length)(h:∀ j,j<k->(jm t j).2.2=0)(he:(jm t k).2.2≠0): eG t=(Cv,(k:Int),(jm t k).2.1,(jm t k).2.2):=by
 unfold eG;rw[if_neg (by omega),tT (i:=k) hk (fun j hj=>by simp[h j hj]) (by simp[he])]
def Ai{t:Table}(h0:ic t=0)(h:∀ j,j<t.rules.length->(jm t j).2.2=0): eG t=((⟨t,nw t t.rules.length⟩:Ready),(0:Int),(0:Int),(0:Int)):=by
 unfold eG;rw[if_neg (by omega),lP (fun j hj=>by simp[h j hj])]
def Sd{t:Table}(h:ic t=0): 0<t.ins.length:=by
 unfold ic at h;split at h
 ·omega
 split at h
 ·omega
 ·rename_i h1 h2;exact(xW (by omega:jt t.ins false=0)).2
def sV{σ : ae}{a E:AV}{n m k:Int}(h:View σ a E): bL σ [a,I n,I m,I k] [E,I n,I m,I k]:= .cons h (.cons (.refl _ rfl) (.cons (.refl _ rfl) (.cons (.refl _ rfl) (.nil _))))
def Iv(σ : ae): View σ (.agg [.str [],.au,.au,I 0,I 0,.au,.au]) (B3 Cv) :=
 View.sC (.cons (.refl _ rfl) (.cons (.au _) (.cons (.au _) (.cons (.refl _ rfl) (.cons (.refl _ rfl) (.cons (.au _) (.cons (.au _) (.nil _))))))))
def OX(t:Table)(h:jQ t): aP aK 113 [dV t] (YN (eG t)):=by
 have cf:=M7 t h;obtain⟨E,hE⟩:∃ E,YN (eG t)=E:=⟨_,rfl⟩;rw[hE];have hl:=fun(h0:0<t.ins.length) k (hk:k<t.rules.length)=>OW t (t.rules.getD k default) h.2.1.1 h.2.2.1.1 h0 (h.2.2.2.2 _ (bJ hk));have afg:=h.2.2.2.1;simp only[dV,ia,cJ,eF]at cf hl ⊢;by_cases hf:ic t≠0
 ·have hm:=D5 hf;obtain⟨f,DW⟩:∃ f,ic t=f:=⟨_,rfl⟩;rw[DW]at cf hm hf;refine aR yN ?_;intro Q aF aG aH;repeat' first|refine aE ?_|refine aD ?_ ?_<;>intro hw<;>try omega|fail
  all_goals first
   | exact bN
   |(rw[<-hE,hm];exact cG (sV (Iv _)))
 have oQ:ic t=0:=by omega
 have hi0:0<t.ins.length:=Sd oQ;rw[oQ]at cf
 replace hl:=hl hi0
 clear hf;refine aR yN ?_;intro Q aF aG aH;repeat' first|refine aE ?_|refine aD ?_ ?_<;>intro hw<;>try omega|fail
 all_goals first|exact bN|skip
 with_reducible refine bZ [3,4,5,8,9,10,11,12,24,25,26,27,28,29,30,31,32,33,34,35,36,37,38,39,40,41,42,43,44,45,46,47,48] (fun q:Nat × ae=>[(24,I q.1)]) (fun q=>q.2) (fun q=>q.1<=t.rules.length/\(∀ k,k<q.1->(jm t k).2.2=0)/\(q.1=0/\q.2=[.cells [.str t.name,.aO false EC (t.ins.map bq),.aO false EC (t.outs.map bq),I t.aM,I t.agg,.aO false ER (t.rules.map cu)],.cells [.str [],.au,.au,I 0,I 0,.au,.au],.cells [.str t.name,.aO false EC (t.ins.map bq),.aO false EC (t.outs.map bq),I t.aM,I t.agg,.aO false ER (t.rules.map cu),.au]]\/0<q.1/\ ∃ b1 b2 τ,q.2 = .cells [.str t.name,.aO false EC (t.ins.map bq),.aO false EC (t.outs.map bq),I t.aM,I t.agg,.aO false ER (t.rules.map cu)]:: .cells [.str [],.au,.au,I 0,I 0,.au,.au]:: .cells [.str t.name,.aO false EC (t.ins.map bq),.aO false EC (t.outs.map bq),I t.aM,I t.agg,.aO false ER (t.rules.map cu),.own ER 5 q.1 0 q.1]::b1::b2:: .vec ER ((nw t q.1).map nY):: τ)) (fun q=>t.rules.length-q.1) (0,_) ⟨bR _,fun k hk=>by omega,.inl ⟨rfl,rfl⟩⟩ rfl ?_ ?_
 ·exact at_
 rintro⟨k,S⟩ rr ⟨h1,h2,h3⟩;dsimp only at h1 h2 h3;by_cases s8:k<t.rules.length
 ·have c:=hl k s8;have uP:=fun he=>Sc oQ s8 h2 he;have kj:=Sb t k;have mL:=nR t k;have gN:=fun he=>bI (q:=fun j=>(jm t j).2.2=0) h2 he;have hlr:jm t k=kY t (t.rules.getD k default):=rfl;obtain⟨a,ha⟩:∃ a,jm t k=a:=⟨_,rfl⟩;rw[ha]at uP kj gN hlr;rw[<-hlr]at c;obtain⟨ru,hru⟩:∃ ru,t.rules.getD k default=ru:=⟨_,rfl⟩;rw[hru]at c;clear hlr;simp only[eLn,nY,qD,dA,cu,bX]at c;rcases h3 with⟨rfl,rfl⟩|⟨hk,b1,b2,τ,rfl⟩
  ·repeat' first|simp (disch:=omega) only[go_sem,aF,aG,aH,hru]|refine aE ?_|refine fm c ?_|refine aD ?_ ?_<;>intro hw<;>try omega|fail
   ·rw[<-hE,uP (by assumption)];exact cG (sV (Iv _))
   ·refine⟨(1,[.cells [.str t.name,.aO false EC (t.ins.map bq),.aO false EC (t.outs.map bq),I t.aM,I t.agg,.aO false ER (t.rules.map cu)],.cells [.str [],.au,.au,I 0,I 0,.au,.au],.cells [.str t.name,.aO false EC (t.ins.map bq),.aO false EC (t.outs.map bq),I t.aM,I t.agg,.aO false ER (t.rules.map cu),.own ER 5 1 0 1],.cells [.aO false E1 (ru.cells.map cj),.aO false E1 (ru.outs.map cj)],.cells [.aO false EC (a.1.cells.map dD),.aO false EX (a.1.outs.map bf)],.vec ER [.agg [.aO false EC (a.1.cells.map dD),.aO false EX (a.1.outs.map bf)]]]),?_,?_,?_,dH,at_⟩<;>(try dsimp only)
    ·refine⟨by omega,gN (by assumption),.inr ⟨by omega,.cells [.aO false E1 (ru.cells.map cj),.aO false E1 (ru.outs.map cj)],.cells [.aO false EC (a.1.cells.map dD),.aO false EX (a.1.outs.map bf)],[],?_⟩⟩;rw[kj];rfl
    ·omega
    all_goals first|rfl|(simp[go_sem];done)
  ·obtain⟨L,hL⟩:∃ L,nw t k=L:=⟨_,rfl⟩;rw[hL]at mL kj;simp only[hL];repeat' first|simp (disch:=omega) only[go_sem,aF,aG,aH,hru,mL]|refine aE ?_|refine fm c ?_|refine aD ?_ ?_<;>intro hw<;>try omega|fail
   ·rw[<-hE,uP (by assumption)];exact cG (sV (Iv _))
   ·refine⟨(k+1,.cells [.str t.name,.aO false EC (t.ins.map bq),.aO false EC (t.outs.map bq),I t.aM,I t.agg,.aO false ER (t.rules.map cu)]:: .cells [.str [],.au,.au,I 0,I 0,.au,.au]:: .cells [.str t.name,.aO false EC (t.ins.map bq),.aO false EC (t.outs.map bq),I t.aM,I t.agg,.aO false ER (t.rules.map cu),.own ER 5 (k+1) 0 (k+1)]::b1::b2:: .vec ER (L.map nY++[.agg [.aO false EC (a.1.cells.map dD),.aO false EX (a.1.outs.map bf)]])::(τ++[.cells [.aO false E1 (ru.cells.map cj),.aO false E1 (ru.outs.map cj)]]++[.cells [.aO false EC (a.1.cells.map dD),.aO false EX (a.1.outs.map bf)]])),?_,?_,?_,dH,at_⟩<;>(try dsimp only)
    ·refine⟨by omega,gN (by assumption),.inr ⟨by omega,b1,b2,τ++[.cells [.aO false E1 (ru.cells.map cj),.aO false E1 (ru.outs.map cj)]]++[.cells [.aO false EC (a.1.cells.map dD),.aO false EX (a.1.outs.map bf)]],?_⟩⟩;rw[kj,fY];(first|rfl|(simp[nY,qD,dA];done))
    ·omega
    all_goals first|rfl|(simp[go_sem];done)
 ·obtain rfl:k=t.rules.length:=by omega
  have hok:=Ai oQ h2;rcases h3 with⟨h0,rfl⟩|⟨hk,b1,b2,τ,rfl⟩
  ·repeat' first|refine aE ?_|refine aD ?_ ?_<;>intro hw<;>try omega|fail
   rw[<-hE,hok,h0];exact cG (sV (View.sC (.cons (.refl _ rfl) (.cons (.refl _ (jk _)) (.cons (.refl _ (jk _)) (.cons (.refl _ rfl) (.cons (.refl _ rfl) (.cons (.refl _ (vP _)) (.cons (.au _) (.nil _))))))))))
  ·have mL:=nR t t.rules.length;obtain⟨L,hL⟩:∃ L,nw t t.rules.length=L:=⟨_,rfl⟩;rw[hL]at mL hok;simp only[hL];repeat' first|simp (disch:=omega) only[go_sem,aF,aG,aH,mL]|refine aE ?_|refine aD ?_ ?_<;>intro hw<;>try omega|fail
   rw[<-hE,hok];exact cG (sV (View.sC (.cons (.refl _ rfl) (.cons (.refl _ (jk _)) (.cons (.refl _ (jk _)) (.cons (.refl _ rfl) (.cons (.refl _ rfl) (.cons (.refl _ (vP _)) (.cons (View.vec rfl (by simp[mL]) (by simp[mL]) (JK _)) (.nil _))))))))))
def gX(a b:cR): Bool:=a.name==b.name && decide (a.kind=b.kind) && gy (fun x y=>x==y) a.order b.order
def jE(a b:eE): Bool:=gy (fun x y=>x==y) a.cells b.cells && gy (fun x y=>x==y) a.outs b.outs
def ie(a b:Table): Bool:=a.name==b.name && decide (a.aM=b.aM) && decide (a.agg=b.agg) && gy gX a.ins b.ins && gy gX a.outs b.outs && gy jE a.rules b.rules
def Cw(l:List cR): Prop:=l.length<=2 ^ 60/\ ∀ c ∈ l,c.order.length<=2 ^ 60
def M_(r:eE): Prop:=r.cells.length<=2 ^ 60/\r.outs.length<=2 ^ 60
def Aj(t:Table): Prop:=Cw t.ins/\Cw t.outs/\t.rules.length<=2 ^ 60/\ ∀ r ∈ t.rules,M_ r
def vy(a b:cR)(ha:a.order.length<=2 ^ 60)(hb:b.order.length<=2 ^ 60): aP aK 118 [bq a,bq b] (.bool (gX a b)):=by
 have c:=Ct a.order b.order ha hb;have hS:gX a b=(a.name==b.name && decide (a.kind=b.kind) && gy (fun x y=>x==y) a.order b.order):=rfl;rw[hS];clear hS;generalize gy (fun x y=>x==y) a.order b.order=v at *;simp only[bq,dy]at c ⊢;refine aR zQ ?_;intro Q aF aG aH;repeat' first|refine aE ?_|refine fm c ?_|refine aD ?_ ?_<;>intro hw<;>try omega|fail
 all_goals (refine aU ?_ rfl;refine congrArg AV.bool ?_;rw[a_];simp_all)
def GR(a b:eE)(ha:M_ a)(hb:M_ b): aP aK 120 [cu a,cu b] (.bool (jE a b)):=by
 have c1:=tg a.cells b.cells ha.1 hb.1;have c2:=tg a.outs b.outs ha.2 hb.2;have hS:jE a b=(gy (fun x y=>x==y) a.cells b.cells && gy (fun x y=>x==y) a.outs b.outs):=rfl;rw[hS];clear hS;generalize gy (fun x y=>x==y) a.cells b.cells=v at *;generalize gy (fun x y=>x==y) a.outs b.outs=u at *;simp only[cu,bX]at c1 c2 ⊢;refine aR BY ?_;intro Q aF aG aH;repeat' first|refine aE ?_|refine aD ?_ ?_<;>intro hw<;>try omega|fail
 all_goals (refine aU ?_ rfl;refine congrArg AV.bool ?_;rw[a_];simp_all)
def vz(l m:List cR)(hl:Cw l)(hm:Cw m): aP aK 111 [cJ l,cJ m] (.bool (gy gX l m)):=by
 obtain⟨wG,uQ⟩:=hl;obtain⟨Jz,PJ⟩:=hm;simp only[cJ];refine aR zP ?_;intro Q aF aG aH;repeat' first|refine aE ?_|refine aD ?_ ?_<;>intro hw<;>try omega|fail
 ·refine aU ?_ rfl;rw[nH (by omega)]
 have oq:l.length=m.length:=by omega
 with_reducible refine bZ [4,5,11,12,13,14,15,16,17,18,19,20,21,22,23,24,25,26,27,28,29,30,31,32,33,34,35,36,37,38,39,40,41,42,43,44,45,46,47,48,49,50,51,52,53,54] (fun i:Nat=>[(5,I i)]) (fun _=>[]) (fun i=>i<=l.length/\ ∀ k,k<i->gX (l.getD k default) (m.getD k default)=true) (fun i=>l.length-i) (0) ?_ ?_ ?_ ?_
 ·simp
 ·rfl
 ·exact at_
 rintro i r ⟨h1,h2⟩;by_cases hi:i<l.length
 ·have hi':i<m.length:=by omega
  have hne:gX (l.getD i default) (m.getD i default)=false->gy gX l m=false:=fun h=>pn hi h hi';have cZ:=fun he=>bI h2 (i:=i) he;have c:=A2 (l.getD i default).order (m.getD i default).order (uQ _ (bJ hi)) (PJ _ (bJ hi'));obtain⟨a,haq⟩:∃ t,l.getD i default=t:=⟨_,rfl⟩;obtain⟨b,hbq⟩:∃ t,m.getD i default=t:=⟨_,rfl⟩;rw[haq]at hne cZ c;rw[hbq]at hne cZ c;simp only[gX]at hne cZ;generalize gy (fun x y=>x==y) a.order b.order=v at *;simp only[dy]at c;repeat' first|simp (disch:=omega) only[go_sem,aF,aG,aH,haq,hbq]|refine aE ?_|refine fm c ?_|refine aD ?_ ?_<;>intro hw<;>try omega|fail
  all_goals first
   |(refine aU ?_ rfl;rw[hne (by clear hne cZ;simp_all)];done)
   | (refine ⟨i + 1, ?_, ?_, ?_, dH, at_⟩ <;> (try dsimp only)
      ·exact⟨by omega,cZ (by clear hne cZ;simp_all)⟩
      ·omega
      all_goals (first|rfl|(simp[go_sem];done)))
   | exact bN
 ·repeat' first|refine aE ?_|refine aD ?_ ?_<;>intro hw<;>try omega|fail
  refine aU ?_ rfl;rw[nI oq (fun k hk=>h2 k (by omega))]
def yA(a b:Table)(ha:Aj a)(hb:Aj b): aP aK 74 [dV a,dV b] (.bool (ie a b)):=by
 have c1:=qc 118 [] rfl gX a.ins b.ins (fun k h1 h2=>vy _ _ (ha.1.2 _ (bJ h1)) (hb.1.2 _ (bJ h2))) (by have:=ha.1.1;omega) (by have:=hb.1.1;omega);have c2:=qc 118 [] rfl gX a.outs b.outs (fun k h1 h2=>vy _ _ (ha.2.1.2 _ (bJ h1)) (hb.2.1.2 _ (bJ h2))) (by have:=ha.2.1.1;omega) (by have:=hb.2.1.1;omega);have c3:=y5 120 [] rfl jE a.rules b.rules (fun k h1 h2=>GR _ _ (ha.2.2.2 _ (bJ h1)) (hb.2.2.2 _ (bJ h2))) (by have:=ha.2.2.1;omega) (by have:=hb.2.2.1;omega);have hS:ie a b=(a.name==b.name && decide (a.aM=b.aM) && decide (a.agg=b.agg) && gy gX a.ins b.ins && gy gX a.outs b.outs && gy jE a.rules b.rules):=rfl;generalize gy gX a.ins b.ins=v1 at *;generalize gy gX a.outs b.outs=v2 at *;generalize gy jE a.rules b.rules=v3 at *;obtain⟨E,hE⟩:∃ E,ie a b=E:=⟨_,rfl⟩;rw[hE]at hS ⊢;clear hE;simp only[dV,ia,cJ,eF]at c1 c2 c3 ⊢;refine aR HX ?_;intro Q aF aG aH;dsimp (config:= { zeta:=true }) only;repeat' first|refine aE ?_|refine aD ?_ ?_<;>intro hw<;>try omega|fail
 all_goals first
  | exact bN
  |(refine aU ?_ rfl;refine congrArg AV.bool ?_;rw[hS,a_];simp_all;done)
def Se(a b:Table)(ha:Aj a)(hb:Aj b): aP aK 65 [dV a,dV b] (.bool (ie a b)):=by
 obtain⟨a1,a2,a3,a4⟩:=ha;obtain⟨b1,b2,b3,b4⟩:=hb;have c1:=vz a.ins b.ins a1 b1;have c2:=vz a.outs b.outs a2 b2;obtain⟨E,hE⟩:∃ E,ie a b=E:=⟨_,rfl⟩;rw[hE];have hS:(a.name==b.name && decide (a.aM=b.aM) && decide (a.agg=b.agg) && gy gX a.ins b.ins && gy gX a.outs b.outs && gy jE a.rules b.rules)=E:=hE;clear hE;generalize gy gX a.ins b.ins=v1 at c1 hS;generalize gy gX a.outs b.outs=v2 at c2 hS;simp only[dV,ia,cJ,eF]at c1 c2 ⊢;by_cases h0:a.name=b.name/\a.aM=b.aM/\a.agg=b.agg/\a.rules.length=b.rules.length
 case neg =>
  have hE:E=false:=by
   rw[<-hS,Bool.eq_false_iff];intro h;simp only[aq,beq_iff_eq,decide_eq_true_eq]at h;obtain⟨⟨⟨⟨⟨g1,g2⟩,g3⟩,g4⟩,g5⟩,g6⟩:=h;refine h0 ⟨g1,g2,g3,?_⟩;by_cases hl:a.rules.length=b.rules.length
   ·exact hl
   ·rw[nH hl]at g6;cases g6
  subst hE;clear hS c1 c2;refine aR AP ?_;intro Q aF aG aH;repeat' first|refine aE ?_|refine aD ?_ ?_<;>intro hw<;>try omega|fail
  all_goals first
   | exact aU rfl rfl
   | exact bN
   |(exfalso;apply h0;refine⟨?_,?_,?_,?_⟩<;>first|assumption|omega|simp_all)
 obtain⟨g1,g2,g3,oq⟩:=h0;rw[g1,g2,g3,beq_self_eq_true,decide_eq_true rfl,decide_eq_true rfl,dZ,dZ,dZ]at hS;refine aR AP ?_;intro Q aF aG aH;repeat' first|simp (disch:=omega) only[go_sem,aF,aG,aH,g1,g2,g3]|refine aE ?_|refine aD ?_ ?_<;>intro hw<;>try omega|fail
 all_goals first|(exfalso;omega)|exact bN|skip
 with_reducible refine bZ [4,5,34,35,36,37,38,39,40,41,42,43,44,45,46,47,48,49,50,51,52,53,54,55,56,57,58,59,60,61,62,63,64,65,66,67,68,69,70] (fun i:Nat=>[(5,I i)]) (fun _=>[.cells [.str b.name,.aO false EC (a.ins.map bq),.aO false EC (a.outs.map bq),I b.aM,I b.agg,.aO false ER (a.rules.map cu)],.cells [.str b.name,.aO false EC (b.ins.map bq),.aO false EC (b.outs.map bq),I b.aM,I b.agg,.aO false ER (b.rules.map cu)]]) (fun i=>i<=a.rules.length/\ ∀ k,k<i->jE (a.rules.getD k default) (b.rules.getD k default)=true) (fun i=>a.rules.length-i) (0) ?_ ?_ ?_ ?_
 ·simp
 ·rfl
 ·exact at_
 rintro i r ⟨h1,h2⟩;by_cases hi:i<a.rules.length
 ·have hi':i<b.rules.length:=by omega
  have k1:=xU _ _ (a4 _ (bJ hi)).1 (b4 _ (bJ hi')).1;have k2:=xU _ _ (a4 _ (bJ hi)).2 (b4 _ (bJ hi')).2;have hne:=fun h=>pn (p:=jE) hi h hi';have cZ:=fun he=>bI (q:=fun k=>jE (a.rules.getD k default) (b.rules.getD k default)=true) h2 (i:=i) he;obtain⟨x,hx⟩:∃ x,a.rules.getD i default=x:=⟨_,rfl⟩;obtain⟨y,hy⟩:∃ y,b.rules.getD i default=y:=⟨_,rfl⟩;rw[hx]at k1 k2 hne cZ;rw[hy]at k1 k2 hne cZ;simp only[jE]at hne cZ;generalize gy (fun x y=>x==y) x.cells y.cells=w1 at k1 hne cZ;generalize gy (fun x y=>x==y) x.outs y.outs=w2 at k2 hne cZ;simp only[bX]at k1 k2;repeat' first|simp (disch:=omega) only[go_sem,aF,aG,aH,hx,hy]|refine aE ?_|refine aD ?_ ?_<;>intro hw<;>try omega|fail
  all_goals first
   | exact bN
   |(refine aU ?_ rfl;rw[<-hS,hne (by clear hne cZ hS;simp_all),fT];done)
   | (refine ⟨i + 1, ?_, ?_, ?_, dH, at_⟩ <;> (try dsimp only)
      ·exact⟨by omega,cZ (by clear hne cZ hS;simp_all)⟩
      ·omega
      all_goals (first|rfl|(simp[go_sem];done)))
 ·rw[nI oq (fun k hk=>h2 k (by omega)),fP]at hS;repeat' first|refine aE ?_|refine aD ?_ ?_<;>intro hw<;>try omega|fail
  all_goals first
   | exact bN
   |(refine aU ?_ rfl;rw[<-hS];simp_all;done)
def kM(l:j4)(m:Nat): aI × Int:=uq (l.cells.getD m default)
def n8(l:j4)(m:Nat): aI × Int:=oT (l.outs.getD m default)
def bW(l:j4)(n:Nat): List aI:=(List.range n).map fun m=>(kM l m).1
def qW(l:j4)(n:Nat): List aI:=(List.range n).map fun m=>(n8 l m).1
def OY(l:j4)(n:Nat): bW l (n+1)=bW l n++[(kM l n).1]:=by simp[bW,List.range_succ]
def Sf(l:j4)(n:Nat): qW l (n+1)=qW l n++[(n8 l n).1]:=by simp[qW,List.range_succ]
def Ak(l:j4)(n:Nat): (bW l n).length=n:=by simp[bW]
def Cx(l:j4)(n:Nat): (qW l n).length=n:=by simp[qW]
def tV(w:Nat)(l:j4): eE × Int × Int :=
 match(List.range l.cells.length).find? (fun m=>(kM l m).2 != 0)with
 | some m=>(⟨bW l l.cells.length,qW l l.outs.length⟩,m,(kM l m).2)
 | none => match (List.range l.outs.length).find? (fun m => (n8 l m).2 != 0) with
   | some m=>(⟨bW l l.cells.length,qW l l.outs.length⟩,w+m,(n8 l m).2)
   | none=>(⟨bW l l.cells.length,qW l l.outs.length⟩,0,0)
def iH: Table:=⟨[],[],[],0,0,[]⟩
def pW(t:Table)(n:Nat): j4:=(eG t).1.lines.getD n default
def l7(t:Table)(n:Nat): eE × Int × Int:=tV t.ins.length (pW t n)
def mM(t:Table)(n:Nat): List eE:=(List.range n).map fun k=>(l7 t k).1
def ff(t:Table): Table × Int × Int × Int :=
 if(eG t).2.2.2≠0 then(iH,(eG t).2.1,(eG t).2.2.1,(eG t).2.2.2)
 else match(List.range (eG t).1.lines.length).find? (fun n=>(l7 t n).2.2 != 0)with
 | some n=>(iH,n,(l7 t n).2.1,(l7 t n).2.2)
 | none=>({ t with rules:=mM t (eG t).1.lines.length },0,0,0)
def Qe(r:Table × Int × Int × Int): AV:= .bO [dV r.1,I r.2.1,I r.2.2.1,I r.2.2.2]
def Sg(t:Table)(n:Nat): mM t (n+1)=mM t n++[(l7 t n).1]:=by simp[mM,List.range_succ]
def xX(t:Table)(n:Nat): (mM t n).length=n:=by simp[mM]
def GS(w:Nat)(l:j4): (tV w l).1=⟨bW l l.cells.length,qW l l.outs.length⟩:=by
 unfold tV;split
 ·rfl
 ·split<;>rfl
def UR(w:Nat){l:j4}{m:Nat}(hm:m<l.cells.length)(h:∀ j,j<m->(kM l j).2=0)(he:(kM l m).2≠0): (tV w l).2=((m:Int),(kM l m).2):=by
 unfold tV;rw[tT (i:=m) hm (fun j hj=>by simp[h j hj]) (by simp[he])]
def Xo(w:Nat){l:j4}(hc:∀ j,j<l.cells.length->(kM l j).2=0){m:Nat}(hm:m<l.outs.length)(h:∀ j,j<m->(n8 l j).2=0)(he:(n8 l m).2≠0): (tV w l).2=((w:Int)+m,(n8 l m).2):=by
 unfold tV;rw[lP (fun j hj=>by simp[hc j hj])];dsimp only;rw[tT (i:=m) hm (fun j hj=>by simp[h j hj]) (by simp[he])]
def ZR(w:Nat){l:j4}(hc:∀ j,j<l.cells.length->(kM l j).2=0)(h:∀ j,j<l.outs.length->(n8 l j).2=0): (tV w l).2=(0,0):=by
 unfold tV;rw[lP (fun j hj=>by simp[hc j hj])];dsimp only;rw[lP (fun j hj=>by simp[h j hj])]
def yB{t:Table}(h:(eG t).2.2.2≠0): ff t=(iH,(eG t).2.1,(eG t).2.2.1,(eG t).2.2.2):=by unfold ff;rw[if_pos h]
def Sh{t:Table}(h0:(eG t).2.2.2=0){n:Nat}(hn:n<(eG t).1.lines.length)(h:∀ j,j<n->(l7 t j).2.2=0)(he:(l7 t n).2.2≠0): ff t=(iH,(n:Int),(l7 t n).2.1,(l7 t n).2.2):=by
 unfold ff;rw[if_neg (by omega),tT (i:=n) hn (fun j hj=>by simp[h j hj]) (by simp[he])]
def xY{t:Table}(h0:(eG t).2.2.2=0)(h:∀ j,j<(eG t).1.lines.length->(l7 t j).2.2=0): ff t=({ t with rules:=mM t (eG t).1.lines.length },0,0,0):=by
 unfold ff;rw[if_neg (by omega),lP (fun j hj=>by simp[h j hj])]
def US(l:j4): Prop:=(l.cells.length<=2 ^ 30/\ ∀ c ∈ l.cells,yz c)/\l.outs.length<=2 ^ 30/\ ∀ x ∈ l.outs,jl x/\fN x<=2 ^ 30
def pX{t:Table}(h:(eG t).2.2.2=0): ic t=0/\(∀ j,j<t.rules.length->(jm t j).2.2=0)/\eG t=((⟨t,nw t t.rules.length⟩:Ready),(0:Int),(0:Int),(0:Int)):=by
 by_cases hf:ic t=0
 ·have hl : ∀ j, j < t.rules.length -> (jm t j).2.2 = 0 := by
   cases hq:(List.range t.rules.length).find? (fun k=>(jm t k).2.2 != 0)with
   | some k =>
     exfalso;unfold eG at h;rw[if_neg (by omega),hq]at h;have:=dN hq;simp at this;exact this h
   | none =>
     intro j hj;have:=dm.1 hq j (cU.2 hj);simpa using this
  exact⟨hf,hl,Ai hf hl⟩
 ·rw[D5 hf]at h;exact absurd h hf
def UU(t:Table)(r:eE)(h1:t.ins.length<=2 ^ 30)(h2:t.outs.length<=2 ^ 30)(hr:r.cells.length<=2 ^ 30)(ho:r.outs.length<=2 ^ 30): US (kY t r).1:=by
 have hc:∀ n,n<=2 ^ 30->(me t r n).length<=2 ^ 30/\ ∀ c ∈ me t r n,yz c:=fun n hn=>by
  refine⟨by rw[uO];exact hn,fun c hc=>?_⟩;obtain⟨k,_,rfl⟩:=cC.1 hc;exact R8 _
 have hx:∀ n,n<=2 ^ 30->(qj t r n).length<=2 ^ 30/\ ∀ x ∈ qj t r n,jl x/\fN x<=2 ^ 30:=fun n hn=>by
  refine⟨by rw[Ah];exact hn,fun x hx=>?_⟩;obtain⟨k,_,rfl⟩:=cC.1 hx;exact J8 _
 have hk:∀ {n k:Nat} {p:Nat->Bool},(List.range n).find? p=some k->k<n:=fun h=>cU.1 (fL h);unfold kY;split
 ·exact⟨⟨by simp,by simp⟩,by simp,by simp⟩
 split
 ·rename_i k hq;have:=hk hq;exact⟨hc _ (by omega),by simp,by simp⟩
 split
 ·rename_i k hq;have:=hk hq;exact⟨hc _ hr,hx _ (by omega)⟩
 ·exact⟨hc _ hr,hx _ ho⟩
def D6{t:Table}(h:jQ t)(h0:(eG t).2.2.2=0): (eG t).1.lines.length=t.rules.length/\ ∀ n,US (pW t n):=by
 obtain⟨_,_,hm⟩:=pX h0;refine⟨by rw[hm];exact nR _ _,fun n=>?_⟩;unfold pW;rw[hm];dsimp only;by_cases hn:n<t.rules.length
 ·have : (nw t t.rules.length).getD n default = (jm t n).1 := by
   unfold nw;rw[aj,List.getElem?_map,List.getElem?_range hn];rfl
  rw[this];have hr:=h.2.2.2.2 _ (bJ hn);exact UU t _ h.2.1.1 h.2.2.1.1 hr.1.1 hr.2.1
 ·rw[n5 (by rw[nR];omega)];exact⟨⟨Nat.zero_le _,fun c hc=>by cases hc⟩,Nat.zero_le _,fun c hc=>by cases hc⟩
def tj(L:Nat)(S:ae)(v:AV)(xs:List aI): Prop:=(xs=[]/\v = .au)\/(xs≠[]/\ ∃ q,L<=q/\v = .own E1 q xs.length 0 xs.length/\S[q]? = some (.vec E1 (xs.map cj)))
def tj.nil(L:Nat)(S:ae): tj L S .au []:= .inl ⟨rfl,rfl⟩
def tj.scalar{L:Nat}{S:ae}{v:AV}{xs:List aI}(h:tj L S v xs): v.scalar=true:=by
 rcases h with⟨_,rfl⟩|⟨_,q,_,rfl,_⟩<;>rfl
def tj.view{L:Nat}{S:ae}{v:AV}{xs:List aI}(h:tj L S v xs): View S v (bX xs):=by
 rcases h with⟨rfl,rfl⟩|⟨_,q,_,rfl,hq⟩
 ·exact View.au _
 ·exact View.vec hq (by simp) (by simp) (uH _)
def tj.keep{L L':Nat}{S S':ae}{v:AV}{xs:List aI}(hL:L'<=L)(hs:∀ (q:Nat) (ys:List AV),L<=q->S[q]? = some (.vec E1 ys)->S'[q]? = some (.vec E1 ys))(h:tj L S v xs): tj L' S' v xs:=by
 rcases h with h|⟨h1,q,h2,h3,h4⟩
 ·exact .inl h
 ·exact .inr ⟨h1,q,cB hL h2,h3,hs _ _ h2 h4⟩
def Xp(S:ae)(a:AV)(r:eE): Prop:= ∃ v w,a = .agg [v,w]/\tj 0 S v r.cells/\tj 0 S w r.outs
def mN(S:ae)(rs:List AV)(l:List eE): Prop:=rs.length=l.length/\ ∀ j,j<l.length->Xp S (rs.getD j .undef) (l.getD j default)
def mN.nil(S:ae): mN S [] []:=⟨rfl,fun j hj=>by cases hj⟩
def mN.keep{S S':ae}{rs:List AV}{l:List eE}(hs:∀ (q:Nat) (ys:List AV),S[q]? = some (.vec E1 ys)->S'[q]? = some (.vec E1 ys))(h:mN S rs l): mN S' rs l:=by
 refine⟨h.1,fun j hj=>?_⟩;obtain⟨v,w,h1,h2,h3⟩:=h.2 j hj;exact⟨v,w,h1,h2.keep (Nat.le_refl _) (fun q ys _=>hs q ys),h3.keep (Nat.le_refl _) (fun q ys _=>hs q ys)⟩
def mN.snoc{S:ae}{rs:List AV}{l:List eE}{a:AV}{r:eE}(h:mN S rs l)(ha:Xp S a r): mN S (rs++[a]) (l++[r]):=by
 refine⟨by simp[h.1],fun j hj=>?_⟩;have hl:=h.1;rw[aA,List.length_cons,List.length_nil]at hj;by_cases p_:j<l.length
 ·rw[aj,aj,aC (by omega),aC p_,<-aj,<-aj];exact h.2 j p_
 ·obtain rfl:j=l.length:=by omega
  rw[aj,aj,<-hl,bE (Nat.le_refl _),hl,bE (Nat.le_refl _)];simpa using ha
def mN.view{S:ae}{rs:List AV}{l:List eE}(h:mN S rs l): bL S rs (l.map cu):=by
 refine⟨by simp[h.1],fun j hj=>?_⟩;have hl:=h.1;obtain⟨v,w,h1,h2,h3⟩:=h.2 j (by omega);rw[h1,getD_map _ _ _ (by omega)];exact View.sC (.cons h2.view (.cons h3.view (.nil _)))
def wU(L:Nat)(S:ae)(v:AV)(l:List eE): Prop:=(l=[]/\v = .au)\/(l≠[]/\ ∃ q rs,L<=q/\v = .own ER q l.length 0 l.length/\S[q]? = some (.vec ER rs)/\mN S rs l)
def wU.nil(L:Nat)(S:ae): wU L S .au []:= .inl ⟨rfl,rfl⟩
def wU.view{L:Nat}{S:ae}{v:AV}{l:List eE}(h:wU L S v l): View S v (eF l):=by
 rcases h with⟨rfl,rfl⟩|⟨_,q,rs,_,rfl,hq,hr⟩
 ·exact View.au _
 ·exact View.aa5 hq hr.1.symm hr.1.symm hr.view
def wU.scalar{L:Nat}{S:ae}{v:AV}{l:List eE}(h:wU L S v l): v.scalar=true:=by
 rcases h with⟨_,rfl⟩|⟨_,q,_,_,rfl,_⟩<;>rfl
def wU.keep{L:Nat}{S S':ae}{v:AV}{l:List eE}(hs:∀ (q:Nat) (o:aY),S[q]? = some o->(∀ cs,o≠ .cells cs)->S'[q]? = some o)(h:wU L S v l): wU L S' v l:=by
 rcases h with h|⟨h1,q,rs,h2,h3,h4,h5⟩
 ·exact .inl h
 ·exact .inr ⟨h1,q,rs,h2,h3,hs _ _ h4 (fun cs=>by simp),h5.keep (fun q ys hq=>hs q _ hq (fun cs=>by simp))⟩
