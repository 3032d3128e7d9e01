/- Part. -/
import Derived.Test.YtcjcnfcedihckaaGreatDoorV28
set_option linter.all false
set_option maxHeartbeats 8000000
namespace Go.Proofs.YtcjcnfcedihckaaGreatDoor
open Go.AM
set_option maxRecDepth 4000
def T8{T:List Tok}(hT:xB T)(hl:T.length<=2 ^ 20)(p:Nat)(b:Bool): B6 (dX T p b).t:=by
 have hx:∀ p b,gV (gw T p b).x/\ew (gw T p b).x<=2 ^ 30:=fun p b=>⟨(zB hT p b).1,by have:=(zB hT p b).2;omega⟩;have h0:gV x0/\ew x0<=2 ^ 30:=⟨p_,by simp[x0,ew,lq]⟩;have h1:∀ k p b,B6 (oC k (gw T p b)).t:=fun k p b=>⟨hx p b,h0⟩;have h2:∀ lo,B6 (DG T p lo).t:=fun lo=>⟨hx _ _,hx _ _⟩;unfold dX;split
 ·exact h1 _ _ _
 split
 ·exact h1 _ _ _
 split
 ·exact h1 _ _ _
 split
 ·exact h1 _ _ _
 split
 ·exact h2 _
 split
 ·exact h2 _
 ·exact h1 _ _ _
def T9{T:List Tok}(hT:xB T)(hl:T.length<=2 ^ 20)(f:Nat): ∀(acc:List Test) (p:Nat) (b:Bool),(∀ t ∈ acc,B6 t)->(∀ t ∈ (lz T f acc p b).ts,B6 t)/\(lz T f acc p b).ts.length<=acc.length+f:=by
 induction f with
 | zero=>intro acc p b h;exact⟨h,Nat.le_refl _⟩
 | succ f ih =>
   intro acc p b h
   have h2:∀ t ∈ acc++[(dX T p b).t],B6 t:=fun t ht=>by
    rcases List.mem_append.1 ht with ht|ht
    ·exact h t ht
    ·simp only[List.mem_cons,List.not_mem_nil,or_false]at ht;subst ht;exact T8 hT hl p b
   rw[nR];split
   ·have:=ih _ ((dX T p b).p+1) (dX T p b).bad h2;rw[aC,List.length_cons,List.length_nil]at this;exact⟨this.1,by omega⟩
   ·exact⟨h2,by rw[aC,List.length_cons,List.length_nil];omega⟩
def RY(s:aG): tZ (fB s).1:=by
 have h:tZ ⟨false,lu (aX s).1,(fW (aX s).1).ts⟩:=by
  have hf:=(kP s).1;have:=T9 (sW s) (by omega) ((aX s).1.length+1) [] (Aq (aX s).1) false (fun t ht=>by cases ht);unfold fW tZ;rw[I3];exact⟨by have:=this.2;simp only[List.length_nil]at this;dsimp only;omega,this.1⟩
 have h0:tZ c0:=⟨Nat.zero_le _,fun t ht=>by cases ht⟩;have h1:tZ xC:=⟨Nat.zero_le _,fun t ht=>by cases ht⟩;unfold fB;repeat' split
 all_goals first|exact h0|exact h1|exact h
def w4(s:aG): gV (di s).1/\ew (di s).1<=2 ^ 30:=by
 have h:gV (dQ (aX s).1 0 0).1/\ew (dQ (aX s).1 0 0).1<=2 ^ 30:=by
  have hf:=(kP s).1;have:=zu (aX s).1 0 0;exact⟨M3 (sW s) _ _,by omega⟩
 have h0:gV x0/\ew x0<=2 ^ 30:=⟨p_,by simp[x0,ew,lq]⟩;unfold di;repeat' split
 all_goals first|exact h0|exact h
def Np(t:Table)(k:Nat)(s:aG): Cell × Int:=((fB s).1,if(fB s).2.2=0 then oD t.ins (t.ins.getD k default).kind (fB s).1 else(fB s).2.2)
def G3(t:Table)(k:Nat)(s:aG): Expr × Int:=((di s).1,if(di s).2.2≠0 then(di s).2.2 else if(ef t.ins (di s).1).2=0/\iS (ef t.ins (di s).1).1 (t.outs.getD k default).kind=false then 14 else(ef t.ins (di s).1).2)
def RZ(t:Table)(k:Nat)(s:aG)(ht:t.ins.length<=2 ^ 30)(hk:k<t.ins.length)(hs:s.length<=2 ^ 30): aH aE 188 [cD t,I k,.str s] (.bJ [bK (Np t k s).1,I (Np t k s).2]):=by
 have c1:=RN s hs;have c2:=RR t.ins (by omega) (t.ins.getD k default).kind (fB s).1 (B0 s);have hS:Np t k s=((fB s).1,if(fB s).2.2=0 then oD t.ins (t.ins.getD k default).kind (fB s).1 else(fB s).2.2):=rfl;rw[hS];clear hS;dsimp only;obtain⟨cc,fN⟩:∃ c,t.ins.getD k default=c:=⟨_,rfl⟩;rw[fN]at c2 ⊢;generalize oD t.ins cc.kind (fB s).1=ty at *;generalize fB s=P at *;obtain⟨c,n,e⟩:=P;dsimp only at c1 c2 ⊢;simp only[M4]at c1;obtain⟨C,hC⟩:∃ C,bK c=C:=⟨_,rfl⟩;have hC2:C = .agg [.bool c.any,.bool c.neg,.aF false ES (c.tests.map bO)]:=by rw[<-hC];rfl
 simp only[bK,eV,cD,fg,bP,dV]at c1 c2 ⊢;refine aJ K3 ?_;intro Q au aA aB;repeat' first|simp (disch:=omega) only[go_sem,au,aA,aB,fN]|refine aq ?_|refine ak ?_ ?_<;>intro hw<;>try omega|fail
 all_goals (refine bp ?_ (by simp);simp_all)
def O4(t:Table)(k:Nat)(s:aG)(ht:t.ins.length<=2 ^ 30)(ho:t.outs.length<=2 ^ 30)(hk:k<t.outs.length)(hs:s.length<=2 ^ 30): aH aE 189 [cD t,I k,.str s] (.bJ [aI (G3 t k s).1,I (G3 t k s).2]):=by
 have c1:=MJ s hs;have hp:=w4 s;have c2:=vV t.ins (by omega) (di s).1 hp.1 (by have:=hp.2;omega);have c3:=nP (ef t.ins (di s).1).1 (t.outs.getD k default).kind;have hS:G3 t k s=((di s).1,if(di s).2.2≠0 then(di s).2.2 else if(ef t.ins (di s).1).2=0/\iS (ef t.ins (di s).1).1 (t.outs.getD k default).kind=false then 14 else(ef t.ins (di s).1).2):=rfl;rw[hS];clear hS hp;dsimp only;obtain⟨cc,fN⟩:∃ c,t.outs.getD k default=c:=⟨_,rfl⟩;rw[fN]at c3 ⊢;generalize iS (ef t.ins (di s).1).1 cc.kind=fi at *;generalize ef t.ins (di s).1=ki at *;generalize di s=P at *;obtain⟨x,n,e⟩:=P;dsimp only at c1 c2 ⊢;simp only[tQ]at c1;rw[aO]at c1 c2 ⊢;simp only[cg,cD,fg,bP,dV]at c1 c2 ⊢;refine aJ IE ?_;intro Q au aA aB;repeat' first|simp (disch:=omega) only[go_sem,au,aA,aB,fN]|refine aq ?_|refine ak ?_ ?_<;>intro hw<;>try omega|fail
 all_goals (refine bp ?_ (by simp);simp_all)
def mA(t:Table)(r:eO)(k:Nat): Cell × Int:=Np t k (r.cells.getD k default)
def kA(t:Table)(r:eO)(k:Nat): Expr × Int:=G3 t k (r.outs.getD k default)
def j9(t:Table)(r:eO)(n:Nat): List Cell:=(List.range n).map fun k=>(mA t r k).1
def nu(t:Table)(r:eO)(n:Nat): List Expr:=(List.range n).map fun k=>(kA t r k).1
def j_(t:Table)(r:eO): j4 × Int × Int :=
 if r.cells.length≠t.ins.length\/r.outs.length≠t.outs.length then(⟨[],[]⟩,0,17)
 else match(List.range r.cells.length).find? (fun k=>(mA t r k).2 != 0)with
 | some k=>(⟨j9 t r k,[]⟩,k,(mA t r k).2)
 | none => match (List.range r.outs.length).find? (fun k => (kA t r k).2 != 0) with
   | some k=>(⟨j9 t r r.cells.length,nu t r k⟩,t.ins.length+k,(kA t r k).2)
   | none=>(⟨j9 t r r.cells.length,nu t r r.outs.length⟩,0,0)
def uN(t:Table)(r:eO)(n:Nat): j9 t r (n+1)=j9 t r n++[(mA t r n).1]:=by simp[j9,List.range_succ]
def w5(t:Table)(r:eO)(n:Nat): nu t r (n+1)=nu t r n++[(kA t r n).1]:=by simp[nu,List.range_succ]
def qO(t:Table)(r:eO)(n:Nat): (j9 t r n).length=n:=by simp[j9]
def zJ(t:Table)(r:eO)(n:Nat): (nu t r n).length=n:=by simp[nu]
def sZ{n i:Nat}{p:Nat->Bool}(hi:i<n)(h:∀ k,k<i->p k=false)(hp:p i=true): (List.range n).find? p=some i:=by
 have:=qL (p:=p) (l:=List.range n) (i:=i) (by simpa using hi) (fun k hk=>by rw[lY (by omega)];exact h k hk) (by rw[lY hi];exact hp);rwa[lY hi]at this
def l8{n:Nat}{p:Nat->Bool}(h:∀ k,k<n->p k=false): (List.range n).find? p=none :=
 qy (fun k hk=>by rw[List.length_range]at hk;rw[lY hk];exact h k hk)
def Cb{t:Table}{r:eO}(h:r.cells.length≠t.ins.length\/r.outs.length≠t.outs.length): j_ t r=(⟨[],[]⟩,0,17):=by
 unfold j_;rw[if_pos h]
def w6{t:Table}{r:eO}(h1:r.cells.length=t.ins.length)(h2:r.outs.length=t.outs.length){k:Nat}(hk:k<r.cells.length)(h:∀ j,j<k->(mA t r j).2=0)(he:(mA t r k).2≠0): j_ t r=((⟨j9 t r k,[]⟩:j4),(k:Int),(mA t r k).2):=by
 unfold j_;rw[if_neg (by omega),sZ (i:=k) hk (fun j hj=>by simp[h j hj]) (by simp[he])]
def G4{t:Table}{r:eO}(h1:r.cells.length=t.ins.length)(h2:r.outs.length=t.outs.length)(hc:∀ j,j<r.cells.length->(mA t r j).2=0){k:Nat}(hk:k<r.outs.length)(h:∀ j,j<k->(kA t r j).2=0)(he:(kA t r k).2≠0): j_ t r=((⟨j9 t r r.cells.length,nu t r k⟩:j4),(t.ins.length:Int)+k,(kA t r k).2):=by
 unfold j_;rw[if_neg (by omega),l8 (fun j hj=>by simp[hc j hj])];dsimp only;rw[sZ (i:=k) hk (fun j hj=>by simp[h j hj]) (by simp[he])]
def E_{t:Table}{r:eO}(h1:r.cells.length=t.ins.length)(h2:r.outs.length=t.outs.length)(hc:∀ j,j<r.cells.length->(mA t r j).2=0)(h:∀ j,j<r.outs.length->(kA t r j).2=0): j_ t r=(⟨j9 t r r.cells.length,nu t r r.outs.length⟩,0,0):=by
 unfold j_;rw[if_neg (by omega),l8 (fun j hj=>by simp[hc j hj])];dsimp only;rw[l8 (fun j hj=>by simp[h j hj])]
def Qk(r:j4 × Int × Int): AV:= .bJ [kN r.1,I r.2.1,I r.2.2]
def iM{σ : ae}{a b:AV}{cs:List Cell}{xs:List Expr}{n m:Int}(ha:View σ a (nF cs))(hb:View σ b (cg xs)): bf σ [.agg [a,b],I n,I m] [kN ⟨cs,xs⟩,I n,I m] :=
 gX (View.om (.cons ha (.cons hb (.nil _))))
def O5(t:Table)(r:eO)(ht:t.ins.length<=2 ^ 30)(ho:t.outs.length<=2 ^ 30)(ht0:0<t.ins.length)(hr:(r.cells.length<=2 ^ 30/\ ∀ s ∈ r.cells,s.length<=2 ^ 30)/\r.outs.length<=2 ^ 30/\ ∀ s ∈ r.outs,s.length<=2 ^ 30): aH aE 153 [cD t,cn r] (Qk (j_ t r)):=by
 obtain⟨⟨hr1,yx⟩,hr3,DI⟩:=hr;obtain⟨E,hE⟩:∃ E,Qk (j_ t r)=E:=⟨_,rfl⟩;rw[hE];have ca:=fun k (h1:k<t.ins.length) (h2:k<r.cells.length)=>RZ t k (r.cells.getD k default) ht h1 (yx _ (aV h2));have ce:=fun k (h1:k<t.outs.length) (h2:k<r.outs.length)=>O4 t k (r.outs.getD k default) ht ho h1 (DI _ (aV h2));simp only[show ∀ k,Np t k (r.cells.getD k default)=mA t r k from fun _=>rfl]at ca;simp only[show ∀ k,G3 t k (r.outs.getD k default)=kA t r k from fun _=>rfl]at ce;simp only[cD,fg,bP,dV,cn,bI]at ca ce ⊢;by_cases hb:r.cells.length≠t.ins.length\/r.outs.length≠t.outs.length
 ·refine aJ x4 ?_;intro Q au aA aB;repeat' first|refine aq ?_|refine ak ?_ ?_<;>intro hw<;>try omega|fail
  all_goals first
   | exact bh
   |(rw[<-hE,Cb hb];exact bG (iM (.ai _) (.ai _)))
 have q1:r.cells.length=t.ins.length:=by omega
 have q2:r.outs.length=t.outs.length:=by omega
 clear hb;refine aJ x4 ?_;intro Q au aA aB;repeat' first|refine aq ?_|refine ak ?_ ?_<;>intro hw<;>try omega|fail
 all_goals first|exact bh|skip
 with_reducible refine bn [5,6,7,8,9,10,35,36,37,38,39,40,41,42,43,44,45,46,47,48,49,50,51,52,53,54,55,56,57,58] (fun q:Nat × ae=>[(35,I q.1)]) (fun q=>q.2) (fun q=>q.1<=r.cells.length/\(∀ k,k<q.1->(mA t r k).2=0)/\(q.1=0/\q.2=[.cells [.str t.name,.aF false EC (t.ins.map bF),.aF false EC (t.outs.map bF),I t.aZ,I t.agg,.aF false ER (t.rules.map cn)],.cells [.aF false E1 (r.cells.map bj),.aF false E1 (r.outs.map bj)],.cells [.ai,.ai]]\/0<q.1/\ ∃ c1 τ,q.2 = .cells [.str t.name,.aF false EC (t.ins.map bF),.aF false EC (t.outs.map bF),I t.aZ,I t.agg,.aF false ER (t.rules.map cn)]:: .cells [.aF false E1 (r.cells.map bj),.aF false E1 (r.outs.map bj)]:: .cells [.own EC 4 q.1 0 q.1,.ai]::c1:: .vec EC ((j9 t r q.1).map bK):: τ)) (fun q=>r.cells.length-q.1) (0,_) ⟨bD _,fun k hk=>by omega,.inl ⟨rfl,rfl⟩⟩ rfl ?_ ?_
 ·exact at_
 rintro⟨k,S⟩ rr ⟨h1,h2,h3⟩;dsimp only at h1 h2 h3;rcases h3 with⟨rfl,rfl⟩|⟨hk,c1,τ,rfl⟩
 ·have c:=ca 0 (by omega) (by omega);obtain⟨a,ha⟩:∃ a,mA t r 0=a:=⟨_,rfl⟩;rw[ha]at c;have iJ:=fun he=>w6 q1 q2 (k:=0) (by omega) h2 he;rw[ha]at iJ;have fK:=uN t r 0;rw[ha]at fK;simp only[bK,eV]at c;repeat' first|refine aq ?_|refine d_ c ?_|refine ak ?_ ?_<;>intro hw<;>try omega|fail
  ·rw[<-hE,iJ (by assumption)];exact bG (iM (.ai _) (.ai _))
  ·refine⟨(1,[.cells [.str t.name,.aF false EC (t.ins.map bF),.aF false EC (t.outs.map bF),I t.aZ,I t.agg,.aF false ER (t.rules.map cn)],.cells [.aF false E1 (r.cells.map bj),.aF false E1 (r.outs.map bj)],.cells [.own EC 4 1 0 1,.ai],.cells [.bool a.1.any,.bool a.1.neg,.aF false ES (a.1.tests.map bO)],.vec EC [.agg [.bool a.1.any,.bool a.1.neg,.aF false ES (a.1.tests.map bO)]]]),?_,?_,?_,bL,at_⟩<;>(try dsimp only)
   ·refine⟨by omega,fun j hj=>?_,.inr ⟨by omega,.cells [.bool a.1.any,.bool a.1.neg,.aF false ES (a.1.tests.map bO)],[],?_⟩⟩
    ·obtain rfl:j=0:=by omega
     rw[ha];assumption
    ·rw[fK];rfl
   ·omega
   all_goals rfl
 ·by_cases oc:k<r.cells.length
  ·have c:=ca k (by omega) (by omega);have iJ:=fun he=>w6 q1 q2 (k:=k) (by omega) h2 he;have fK:=uN t r k;obtain⟨a,ha⟩:∃ a,mA t r k=a:=⟨_,rfl⟩;rw[ha]at c iJ fK;have eo:=qO t r k;have eN:=fun he=>aY (q:=fun j=>(mA t r j).2=0) h2 he;obtain⟨L,hL⟩:∃ L,j9 t r k=L:=⟨_,rfl⟩;rw[hL]at eo fK;simp only[hL]at iJ ⊢;simp only[bK,eV]at c;repeat' first|simp (disch:=omega) only[go_sem,au,aA,aB,eo]|refine aq ?_|refine d_ c ?_|refine ak ?_ ?_<;>intro hw<;>try omega|fail
   ·rw[<-hE,iJ (by assumption)];exact bG (iM (View.vec rfl (by simp[eo]) (by simp[eo]) (iB _)) (.ai _))
   ·refine⟨(k+1,.cells [.str t.name,.aF false EC (t.ins.map bF),.aF false EC (t.outs.map bF),I t.aZ,I t.agg,.aF false ER (t.rules.map cn)]:: .cells [.aF false E1 (r.cells.map bj),.aF false E1 (r.outs.map bj)]:: .cells [.own EC 4 (k+1) 0 (k+1),.ai]::c1:: .vec EC (L.map bK++[.agg [.bool a.1.any,.bool a.1.neg,.aF false ES (a.1.tests.map bO)]])::(τ++[.cells [.bool a.1.any,.bool a.1.neg,.aF false ES (a.1.tests.map bO)]])),?_,?_,?_,bL,at_⟩<;>(try dsimp only)
    ·refine⟨by omega,eN (by rw[ha];assumption),.inr ⟨by omega,c1,τ++[.cells [.bool a.1.any,.bool a.1.neg,.aF false ES (a.1.tests.map bO)]],?_⟩⟩;rw[fK,ek];rfl
    ·omega
    all_goals rfl
  ·have hkn:k=r.cells.length:=by omega
   subst hkn;have eo:=qO t r r.cells.length;have hok:=fun h=>E_ q1 q2 h2 h;have hte:=fun k (hk:k<r.outs.length) h he=>G4 q1 q2 h2 (k:=k) hk h he;obtain⟨L,hL⟩:∃ L,j9 t r r.cells.length=L:=⟨_,rfl⟩;rw[hL]at eo;simp only[hL]at hok hte ⊢;repeat' first|refine aq ?_|refine ak ?_ ?_<;>intro hw<;>try omega|fail
   with_reducible refine bn [5,6,11,12,13,14,62,63,64,65,66,67,68,69,70,71,72,73,74,75,76,77,78,79,80,81,82,83,84,85,86,87,88,89] (fun q:Nat × ae=>[(62,I q.1)]) (fun q=>q.2) (fun q=>q.1<=r.outs.length/\(∀ k,k<q.1->(kA t r k).2=0)/\(q.1=0/\q.2 = .cells [.str t.name,.aF false EC (t.ins.map bF),.aF false EC (t.outs.map bF),I t.aZ,I t.agg,.aF false ER (t.rules.map cn)]:: .cells [.aF false E1 (r.cells.map bj),.aF false E1 (r.outs.map bj)]:: .cells [.own EC 4 r.cells.length 0 r.cells.length,.ai]::c1:: .vec EC (L.map bK):: τ\/0<q.1/\ ∃ p ρ,q.2 = .cells [.str t.name,.aF false EC (t.ins.map bF),.aF false EC (t.outs.map bF),I t.aZ,I t.agg,.aF false ER (t.rules.map cn)]:: .cells [.aF false E1 (r.cells.map bj),.aF false E1 (r.outs.map bj)]:: .cells [.own EC 4 r.cells.length 0 r.cells.length,.own EX (p+1+1+1+1+1) q.1 0 q.1]::c1:: .vec EC (L.map bK):: ρ/\ ρ[p]? = some (.vec EX ((nu t r q.1).map aI)))) (fun q=>r.outs.length-q.1) (0,_) ⟨bD _,fun k hk=>by omega,.inl ⟨rfl,rfl⟩⟩ rfl ?_ ?_
   ·exact at_
   rintro⟨m,S⟩ rr ⟨g1,g2,g3⟩;dsimp only at g1 g2 g3;rcases g3 with⟨rfl,rfl⟩|⟨hm,p,ρ,rfl,hk⟩
   ·by_cases hml:0<r.outs.length
    ·have c:=ce 0 (by omega) (by omega);have iJ:=fun he=>hte 0 hml g2 he;have fK:=w5 t r 0;obtain⟨a,ha⟩:∃ a,kA t r 0=a:=⟨_,rfl⟩;rw[ha]at c iJ fK;rw[aO]at c;try simp only[cg]at c
     repeat' first|simp (disch:=omega) only[go_sem,au,aA,aB,eo]|refine aq ?_|refine d_ c ?_|refine ak ?_ ?_<;>intro hw<;>try omega|fail
     ·rw[<-hE,iJ (by assumption)];refine bG (iM (View.vec rfl (by simp[eo]) (by simp[eo]) (iB _)) (.ai _))
     ·refine⟨(1,.cells [.str t.name,.aF false EC (t.ins.map bF),.aF false EC (t.outs.map bF),I t.aZ,I t.agg,.aF false ER (t.rules.map cn)]:: .cells [.aF false E1 (r.cells.map bj),.aF false E1 (r.outs.map bj)]:: .cells [.own EC 4 r.cells.length 0 r.cells.length,.own EX (τ.length+1+1+1+1+1+1) 1 0 1]::c1:: .vec EC (L.map bK)::(τ++[.cells [I a.1.op,I a.1.v.kind,I a.1.v.n,.str a.1.v.s,.str a.1.s,.aF false EX (a.1.l.map aI)]]++[.vec EX [.agg [I a.1.op,I a.1.v.kind,I a.1.v.n,.str a.1.v.s,.str a.1.s,.aF false EX (a.1.l.map aI)]]])),?_,?_,?_,bL,at_⟩<;>(try dsimp only)
      ·refine⟨by omega,fun j hj=>?_,.inr ⟨by omega,τ.length+1,_,rfl,?_⟩⟩
       ·obtain rfl:j=0:=by omega
        rw[ha];assumption
       ·rw[fK,show ∀ x,[x]=[]++[x] from fun _=>rfl];simp[nu,aO,cg]
      ·omega
      all_goals first|rfl|(simp[go_sem];done)
    ·repeat' first|simp (disch:=omega) only[go_sem,au,aA,aB,eo]|refine aq ?_|refine ak ?_ ?_<;>intro hw<;>try omega|fail
     rw[<-hE,hok (fun j hj=>by omega)];have h0:r.outs.length=0:=by omega
     rw[h0];exact bG (iM (View.vec rfl (by simp[eo]) (by simp[eo]) (iB _)) (.ai _))
   ·have hlt:=(aP.1 hk).1;have lM:=zJ t r m;have i_:=fun d:bx=>(aN (l₁:= ρ) (l₂:=[d]) hlt).trans hk;by_cases hml:m<r.outs.length
    ·have c:=ce m (by omega) (by omega);have iJ:=fun he=>hte m hml g2 he;have fK:=w5 t r m;have eN:=fun he=>aY (q:=fun j=>(kA t r j).2=0) g2 he;have JE:=fun(d w:bx)=>List.set_append_left (s:= ρ) (t:=[d]) p w hlt;obtain⟨a,ha⟩:∃ a,kA t r m=a:=⟨_,rfl⟩;rw[ha]at c iJ fK;obtain⟨X,hX⟩:∃ X,nu t r m=X:=⟨_,rfl⟩;rw[hX]at lM fK hk iJ;simp only[hX]at i_;rw[aO]at c;try simp only[cg]at c
     repeat' first|simp (disch:=omega) only[go_sem,au,aA,aB,eo,lM,hk,i_,JE]|refine aq ?_|refine d_ c ?_|refine ak ?_ ?_<;>intro hw<;>try omega|fail
     ·rw[<-hE,iJ (by assumption)];refine bG (iM (View.vec rfl (by simp[eo]) (by simp[eo]) (iB _)) (View.vec (i_ _) (by simp[lM]) (by simp[lM]) (tO _)))
     ·refine⟨(m+1,.cells [.str t.name,.aF false EC (t.ins.map bF),.aF false EC (t.outs.map bF),I t.aZ,I t.agg,.aF false ER (t.rules.map cn)]:: .cells [.aF false E1 (r.cells.map bj),.aF false E1 (r.outs.map bj)]:: .cells [.own EC 4 r.cells.length 0 r.cells.length,.own EX (p+1+1+1+1+1) (m+1) 0 (m+1)]::c1:: .vec EC (L.map bK)::(ρ.set p (.vec EX (X.map aI++[.agg [I a.1.op,I a.1.v.kind,I a.1.v.n,.str a.1.v.s,.str a.1.s,.aF false EX (a.1.l.map aI)]]))++[.cells [I a.1.op,I a.1.v.kind,I a.1.v.n,.str a.1.v.s,.str a.1.s,.aF false EX (a.1.l.map aI)]])),?_,?_,?_,bL,at_⟩<;>(try dsimp only)
      ·refine⟨by omega,eN (by rw[ha];assumption),.inr ⟨by omega,p,_,rfl,?_⟩⟩;rw[fK,ek,aN (by simpa using hlt),List.getElem?_set_self (by simpa using hlt)];simp[aO,cg]
      ·omega
      all_goals first|rfl|(simp[go_sem];done)
    ·obtain rfl:m=r.outs.length:=by omega
     repeat' first|simp (disch:=omega) only[go_sem,au,aA,aB,eo,lM,hk,i_]|refine aq ?_|refine ak ?_ ?_<;>intro hw<;>try omega|fail
     rw[<-hE,hok g2];exact bG (iM (View.vec rfl (by simp[eo]) (by simp[eo]) (iB _)) (View.vec hk (by simp[lM]) (by simp[lM]) (tO _)))
def R0(t:Table)(r:eO)(ht:t.ins.length<=2 ^ 30)(ho:t.outs.length<=2 ^ 30)(ht0:0<t.ins.length)(hr:(r.cells.length<=2 ^ 30/\ ∀ s ∈ r.cells,s.length<=2 ^ 30)/\r.outs.length<=2 ^ 30/\ ∀ s ∈ r.outs,s.length<=2 ^ 30): aH aE 171 [cD t,cn r] (Qk (j_ t r)):=by
 obtain⟨⟨hr1,yx⟩,hr3,DI⟩:=hr;obtain⟨E,hE⟩:∃ E,Qk (j_ t r)=E:=⟨_,rfl⟩;rw[hE];simp only[cD,fg,bP,dV,cn,bI];by_cases hb:r.cells.length≠t.ins.length\/r.outs.length≠t.outs.length
 ·refine aJ Ai ?_;intro Q au aA aB;repeat' first|refine aq ?_|refine ak ?_ ?_<;>intro hw<;>try omega|fail
  all_goals first
   | exact bh
   |(rw[<-hE,Cb hb];exact bG (iM (.ai _) (.ai _)))
 have q1:r.cells.length=t.ins.length:=by omega
 have q2:r.outs.length=t.outs.length:=by omega
 clear hb;refine aJ Ai ?_;intro Q au aA aB;repeat' first|refine aq ?_|refine ak ?_ ?_<;>intro hw<;>try omega|fail
 all_goals first|exact bh|skip
 with_reducible refine bn [5,6,8,9,10,11,35,36,37,38,39,40,41,42,43,44,45,46,47,48,49,50,51,52,53,54,55,56,57,58,59,60,61,62,63,64,65,66,67,68,69,70,71,72,73,74] (fun q:Nat × ae=>[(8,I q.1)]) (fun q=>q.2) (fun q=>q.1<=r.cells.length/\(∀ k,k<q.1->(mA t r k).2=0)/\(q.1=0/\q.2=[.cells [.str t.name,.aF false EC (t.ins.map bF),.aF false EC (t.outs.map bF),I t.aZ,I t.agg,.aF false ER (t.rules.map cn)],.cells [.aF false E1 (r.cells.map bj),.aF false E1 (r.outs.map bj)],.cells [.ai,.ai],.cells [.ai,.ai]]\/0<q.1/\ ∃ c1 τ,q.2 = .cells [.str t.name,.aF false EC (t.ins.map bF),.aF false EC (t.outs.map bF),I t.aZ,I t.agg,.aF false ER (t.rules.map cn)]:: .cells [.aF false E1 (r.cells.map bj),.aF false E1 (r.outs.map bj)]:: .cells [.ai,.ai]:: .cells [.own EC 5 q.1 0 q.1,.ai]::c1:: .vec EC ((j9 t r q.1).map bK):: τ)) (fun q=>r.cells.length-q.1) (0,_) ⟨bD _,fun k hk=>by omega,.inl ⟨rfl,rfl⟩⟩ rfl ?_ ?_
 ·exact at_
 rintro⟨k,S⟩ rr ⟨h1,h2,h3⟩;dsimp only at h1 h2 h3;rcases h3 with⟨rfl,rfl⟩|⟨hk,Ql,τ,rfl⟩
 ·have iJ:=fun he=>w6 q1 q2 (k:=0) (by omega) h2 he;have fK:=uN t r 0;have hA:mA t r 0=((fB (r.cells.getD 0 default)).1,if(fB (r.cells.getD 0 default)).2.2=0 then oD t.ins (t.ins.getD 0 default).kind (fB (r.cells.getD 0 default)).1 else(fB (r.cells.getD 0 default)).2.2):=rfl;have c1:=DL (r.cells.getD 0 default) (yx _ (aV (by omega)));have c2:=DM t.ins (by omega) (t.ins.getD 0 default).kind _ (B0 (r.cells.getD 0 default));obtain⟨cc,fN⟩:∃ c,t.ins.getD 0 default=c:=⟨_,rfl⟩;rw[fN]at c2 hA;generalize oD t.ins cc.kind (fB (r.cells.getD 0 default)).1=ty at hA c2;generalize fB (r.cells.getD 0 default)=P at hA c1 c2;obtain⟨c,pn,e⟩:=P;dsimp only at c1 c2 hA;simp only[M4]at c1;simp only[bK,eV,bP]at c1 c2;by_cases he:e=0
  ·rw[if_pos he]at hA;rw[hA]at iJ fK;subst he;by_cases hty:ty=0
   ·subst hty;repeat' first|simp (disch:=omega) only[go_sem,au,aA,aB,fN]|refine aq ?_|refine ak ?_ ?_<;>intro hw<;>try omega|fail
    all_goals first
     | exact bh
     | skip
    refine⟨(1,[.cells [.str t.name,.aF false EC (t.ins.map bF),.aF false EC (t.outs.map bF),I t.aZ,I t.agg,.aF false ER (t.rules.map cn)],.cells [.aF false E1 (r.cells.map bj),.aF false E1 (r.outs.map bj)],.cells [.ai,.ai],.cells [.own EC 5 1 0 1,.ai],.cells [.bool c.any,.bool c.neg,.aF false ES (c.tests.map bO)],.vec EC [.agg [.bool c.any,.bool c.neg,.aF false ES (c.tests.map bO)]]]),?_,?_,?_,bL,at_⟩<;>(try dsimp only)
    ·refine⟨by omega,fun j hj=>?_,.inr ⟨by omega,.cells [.bool c.any,.bool c.neg,.aF false ES (c.tests.map bO)],[],?_⟩⟩
     ·obtain rfl:j=0:=by omega
      rw[hA]
     ·rw[fK];rfl
    ·omega
    all_goals rfl
   ·repeat' first|simp (disch:=omega) only[go_sem,au,aA,aB,fN]|refine aq ?_|refine ak ?_ ?_<;>intro hw<;>try omega|fail
    all_goals first
     | exact bh
     | (rw [<-hE, iJ hty]
        exact bG (iM (.ai _) (.ai _)))
  ·rw[if_neg he]at hA;rw[hA]at iJ fK;repeat' first|simp (disch:=omega) only[go_sem,au,aA,aB,fN]|refine aq ?_|refine ak ?_ ?_<;>intro hw<;>try omega|fail
   all_goals first
    | exact bh
    | (rw [<-hE, iJ he]
       exact bG (iM (.ai _) (.ai _)))
 ·by_cases oc:k<r.cells.length
  ·have iJ:=fun he=>w6 q1 q2 (k:=k) (by omega) h2 he;have fK:=uN t r k;have eo:=qO t r k;have eN:=fun he=>aY (q:=fun j=>(mA t r j).2=0) h2 he;obtain⟨L,hL⟩:∃ L,j9 t r k=L:=⟨_,rfl⟩;rw[hL]at eo fK;simp only[hL]at iJ ⊢;have hA:mA t r k=((fB (r.cells.getD k default)).1,if(fB (r.cells.getD k default)).2.2=0 then oD t.ins (t.ins.getD k default).kind (fB (r.cells.getD k default)).1 else(fB (r.cells.getD k default)).2.2):=rfl;have c1:=DL (r.cells.getD k default) (yx _ (aV (by omega)));have c2:=DM t.ins (by omega) (t.ins.getD k default).kind _ (B0 (r.cells.getD k default));obtain⟨cc,fN⟩:∃ c,t.ins.getD k default=c:=⟨_,rfl⟩;rw[fN]at c2 hA;generalize oD t.ins cc.kind (fB (r.cells.getD k default)).1=ty at hA c2;generalize fB (r.cells.getD k default)=P at hA c1 c2;obtain⟨c,pn,e⟩:=P;dsimp only at c1 c2 hA;simp only[M4]at c1;simp only[bK,eV,bP]at c1 c2;by_cases he:e=0
   ·rw[if_pos he]at hA;rw[hA]at iJ fK;subst he;by_cases hty:ty=0
    ·subst hty;repeat' first|simp (disch:=omega) only[go_sem,au,aA,aB,fN,eo]|refine aq ?_|refine ak ?_ ?_<;>intro hw<;>try omega|fail
     all_goals first
      | exact bh
      | skip
     refine⟨(k+1,.cells [.str t.name,.aF false EC (t.ins.map bF),.aF false EC (t.outs.map bF),I t.aZ,I t.agg,.aF false ER (t.rules.map cn)]:: .cells [.aF false E1 (r.cells.map bj),.aF false E1 (r.outs.map bj)]:: .cells [.ai,.ai]:: .cells [.own EC 5 (k+1) 0 (k+1),.ai]::Ql:: .vec EC (L.map bK++[.agg [.bool c.any,.bool c.neg,.aF false ES (c.tests.map bO)]])::(τ++[.cells [.bool c.any,.bool c.neg,.aF false ES (c.tests.map bO)]])),?_,?_,?_,bL,at_⟩<;>(try dsimp only)
     ·refine⟨by omega,eN (by rw[hA]),.inr ⟨by omega,Ql,τ++[.cells [.bool c.any,.bool c.neg,.aF false ES (c.tests.map bO)]],?_⟩⟩;rw[fK,ek];rfl
     ·omega
     all_goals rfl
    ·repeat' first|simp (disch:=omega) only[go_sem,au,aA,aB,fN,eo]|refine aq ?_|refine ak ?_ ?_<;>intro hw<;>try omega|fail
     all_goals first
      | exact bh
      | (rw [<-hE, iJ hty]
         exact bG (iM (View.vec rfl (by simp[eo]) (by simp[eo]) (iB _)) (.ai _)))
   ·rw[if_neg he]at hA;rw[hA]at iJ fK;repeat' first|simp (disch:=omega) only[go_sem,au,aA,aB,fN,eo]|refine aq ?_|refine ak ?_ ?_<;>intro hw<;>try omega|fail
    all_goals first
     | exact bh
     | (rw [<-hE, iJ he]
        exact bG (iM (View.vec rfl (by simp[eo]) (by simp[eo]) (iB _)) (.ai _)))
  ·have hkn:k=r.cells.length:=by omega
   subst hkn;have eo:=qO t r r.cells.length;have hok:=fun h=>E_ q1 q2 h2 h;have hte:=fun k (hk:k<r.outs.length) h he=>G4 q1 q2 h2 (k:=k) hk h he;obtain⟨L,hL⟩:∃ L,j9 t r r.cells.length=L:=⟨_,rfl⟩;rw[hL]at eo;simp only[hL]at hok hte ⊢;repeat' first|refine aq ?_|refine ak ?_ ?_<;>intro hw<;>try omega|fail
   with_reducible refine bn [5,6,12,13,14,15,16,75,76,77,78,79,80,81,82,83,84,85,86,87,88,89,90,91,92,93,94,95,96,97,98,99,100,101,102,103,104,105,106,107,108,109,110,111,112,113,114,115,116,117,118,119,120,121,122,123,124,125,126,127,128] (fun q:Nat × ae=>[(12,I q.1)]) (fun q=>q.2) (fun q=>q.1<=r.outs.length/\(∀ k,k<q.1->(kA t r k).2=0)/\(q.1=0/\q.2 = .cells [.str t.name,.aF false EC (t.ins.map bF),.aF false EC (t.outs.map bF),I t.aZ,I t.agg,.aF false ER (t.rules.map cn)]:: .cells [.aF false E1 (r.cells.map bj),.aF false E1 (r.outs.map bj)]:: .cells [.ai,.ai]:: .cells [.own EC 5 r.cells.length 0 r.cells.length,.ai]::Ql:: .vec EC (L.map bK):: τ\/0<q.1/\ ∃ p ρ,q.2 = .cells [.str t.name,.aF false EC (t.ins.map bF),.aF false EC (t.outs.map bF),I t.aZ,I t.agg,.aF false ER (t.rules.map cn)]:: .cells [.aF false E1 (r.cells.map bj),.aF false E1 (r.outs.map bj)]:: .cells [.ai,.ai]:: .cells [.own EC 5 r.cells.length 0 r.cells.length,.own EX (p+1+1+1+1+1+1) q.1 0 q.1]::Ql:: .vec EC (L.map bK):: ρ/\ ρ[p]? = some (.vec EX ((nu t r q.1).map aI)))) (fun q=>r.outs.length-q.1) (0,_) ⟨bD _,fun k hk=>by omega,.inl ⟨rfl,rfl⟩⟩ rfl ?_ ?_
   ·exact at_
   rintro⟨m,S⟩ rr ⟨g1,g2,g3⟩;dsimp only at g1 g2 g3;rcases g3 with⟨rfl,rfl⟩|⟨hm,p,ρ,rfl,hk⟩
   ·by_cases hml:0<r.outs.length
    ·have iJ:=fun he=>hte 0 hml g2 he;have fK:=w5 t r 0;have hA:kA t r 0=((di (r.outs.getD 0 default)).1,if(di (r.outs.getD 0 default)).2.2≠0 then(di (r.outs.getD 0 default)).2.2 else if(ef t.ins (di (r.outs.getD 0 default)).1).2=0/\iS (ef t.ins (di (r.outs.getD 0 default)).1).1 (t.outs.getD 0 default).kind=false then 14 else(ef t.ins (di (r.outs.getD 0 default)).1).2):=rfl;have c1:=DA (r.outs.getD 0 default) (DI _ (aV (by omega)));have hp:=w4 (r.outs.getD 0 default);have c2:=tq t.ins (by omega) (di (r.outs.getD 0 default)).1 hp.1 (by have:=hp.2;omega);have c3:=po (ef t.ins (di (r.outs.getD 0 default)).1).1 (t.outs.getD 0 default).kind;clear hp;obtain⟨cc,fN⟩:∃ c,t.outs.getD 0 default=c:=⟨_,rfl⟩;rw[fN]at c3 hA;generalize iS (ef t.ins (di (r.outs.getD 0 default)).1).1 cc.kind=fi at hA c3;generalize ef t.ins (di (r.outs.getD 0 default)).1=ki at hA c2 c3;generalize di (r.outs.getD 0 default)=P at hA c1 c2;obtain⟨x,pn,e⟩:=P;obtain⟨k1,k2⟩:=ki;dsimp only at c1 c2 c3 hA;simp only[tQ]at c1;rw[aO]at c1 c2;try simp only[cg]at c1 c2
     simp only[bP]at c2;by_cases he:e=0
     ·subst he;rw[if_neg (by simp)]at hA;by_cases Fa:k2=0
      ·subst Fa;cases fi with
       | false =>
         rw[if_pos ⟨rfl,rfl⟩]at hA;rw[hA]at iJ fK;repeat' first|simp (disch:=omega) only[go_sem,au,aA,aB,fN,eo]|refine aq ?_|refine ak ?_ ?_<;>intro hw<;>try omega|fail
         all_goals first
          | exact bh
          | (rw [<-hE, iJ (show (14 : Int) ≠ 0 by decide)]
             exact bG (iM (View.vec rfl (by simp[eo]) (by simp[eo]) (iB _)) (.ai _)))
       | true =>
         rw[if_neg (by simp)]at hA;rw[hA]at iJ fK;repeat' first|simp (disch:=omega) only[go_sem,au,aA,aB,fN,eo]|refine aq ?_|refine ak ?_ ?_<;>intro hw<;>try omega|fail
         all_goals first
          | exact bh
          | skip
         refine⟨(1,.cells [.str t.name,.aF false EC (t.ins.map bF),.aF false EC (t.outs.map bF),I t.aZ,I t.agg,.aF false ER (t.rules.map cn)]:: .cells [.aF false E1 (r.cells.map bj),.aF false E1 (r.outs.map bj)]:: .cells [.ai,.ai]:: .cells [.own EC 5 r.cells.length 0 r.cells.length,.own EX (τ.length+1+1+1+1+1+1+1) 1 0 1]::Ql:: .vec EC (L.map bK)::(τ++[.cells [I x.op,I x.v.kind,I x.v.n,.str x.v.s,.str x.s,.aF false EX (x.l.map aI)]]++[.vec EX [.agg [I x.op,I x.v.kind,I x.v.n,.str x.v.s,.str x.s,.aF false EX (x.l.map aI)]]])),?_,?_,?_,bL,at_⟩<;>(try dsimp only)
         ·refine⟨by omega,fun j hj=>?_,.inr ⟨by omega,τ.length+1,_,rfl,?_⟩⟩
          ·obtain rfl:j=0:=by omega
           rw[hA]
          ·rw[fK,show ∀ x,[x]=[]++[x] from fun _=>rfl];simp[nu,aO,cg]
         ·omega
         all_goals first|rfl|(simp[go_sem];done)
      ·rw[if_neg (fun h=>Fa h.1)]at hA;rw[hA]at iJ fK;repeat' first|simp (disch:=omega) only[go_sem,au,aA,aB,fN,eo]|refine aq ?_|refine ak ?_ ?_<;>intro hw<;>try omega|fail
       all_goals first
        | exact bh
        | (rw [<-hE, iJ Fa]
           exact bG (iM (View.vec rfl (by simp[eo]) (by simp[eo]) (iB _)) (.ai _)))
     ·rw[if_pos he]at hA;rw[hA]at iJ fK;repeat' first|simp (disch:=omega) only[go_sem,au,aA,aB,fN,eo]|refine aq ?_|refine ak ?_ ?_<;>intro hw<;>try omega|fail
      all_goals first
       | exact bh
       | (rw [<-hE, iJ he]
          exact bG (iM (View.vec rfl (by simp[eo]) (by simp[eo]) (iB _)) (.ai _)))
    ·repeat' first|simp (disch:=omega) only[go_sem,au,aA,aB,eo]|refine aq ?_|refine ak ?_ ?_<;>intro hw<;>try omega|fail
     rw[<-hE,hok (fun j hj=>by omega)];have h0:r.outs.length=0:=by omega
     rw[h0];exact bG (iM (View.vec rfl (by simp[eo]) (by simp[eo]) (iB _)) (.ai _))
   ·have hlt:=(aP.1 hk).1;have lM:=zJ t r m;have i_:=fun d:bx=>(aN (l₁:= ρ) (l₂:=[d]) hlt).trans hk;by_cases hml:m<r.outs.length
    ·have iJ:=fun he=>hte m hml g2 he;have fK:=w5 t r m;have eN:=fun he=>aY (q:=fun j=>(kA t r j).2=0) g2 he;have JE:=fun(d w:bx)=>List.set_append_left (s:= ρ) (t:=[d]) p w hlt;obtain⟨X,hX⟩:∃ X,nu t r m=X:=⟨_,rfl⟩;rw[hX]at lM fK hk iJ;simp only[hX]at i_;have hA:kA t r m=((di (r.outs.getD m default)).1,if(di (r.outs.getD m default)).2.2≠0 then(di (r.outs.getD m default)).2.2 else if(ef t.ins (di (r.outs.getD m default)).1).2=0/\iS (ef t.ins (di (r.outs.getD m default)).1).1 (t.outs.getD m default).kind=false then 14 else(ef t.ins (di (r.outs.getD m default)).1).2):=rfl;have c1:=DA (r.outs.getD m default) (DI _ (aV (by omega)));have hp:=w4 (r.outs.getD m default);have c2:=tq t.ins (by omega) (di (r.outs.getD m default)).1 hp.1 (by have:=hp.2;omega);have c3:=po (ef t.ins (di (r.outs.getD m default)).1).1 (t.outs.getD m default).kind;clear hp;obtain⟨cc,fN⟩:∃ c,t.outs.getD m default=c:=⟨_,rfl⟩;rw[fN]at c3 hA;generalize iS (ef t.ins (di (r.outs.getD m default)).1).1 cc.kind=fi at hA c3;generalize ef t.ins (di (r.outs.getD m default)).1=ki at hA c2 c3;generalize di (r.outs.getD m default)=P at hA c1 c2;obtain⟨x,pn,e⟩:=P;obtain⟨k1,k2⟩:=ki;dsimp only at c1 c2 c3 hA;simp only[tQ]at c1;rw[aO]at c1 c2;try simp only[cg]at c1 c2
     simp only[bP]at c2;by_cases he:e=0
     ·subst he;rw[if_neg (by simp)]at hA;by_cases Fa:k2=0
      ·subst Fa;cases fi with
       | false =>
         rw[if_pos ⟨rfl,rfl⟩]at hA;rw[hA]at iJ fK;repeat' first|simp (disch:=omega) only[go_sem,au,aA,aB,fN,eo,lM,hk,i_,JE]|refine aq ?_|refine ak ?_ ?_<;>intro hw<;>try omega|fail
         all_goals first
          | exact bh
          | (rw [<-hE, iJ (show (14 : Int) ≠ 0 by decide)]
             exact bG (iM (View.vec rfl (by simp[eo]) (by simp[eo]) (iB _)) (View.vec (i_ _) (by simp[lM]) (by simp[lM]) (tO _))))
       | true =>
         rw[if_neg (by simp)]at hA;rw[hA]at iJ fK;repeat' first|simp (disch:=omega) only[go_sem,au,aA,aB,fN,eo,lM,hk,i_,JE]|refine aq ?_|refine ak ?_ ?_<;>intro hw<;>try omega|fail
         all_goals first
          | exact bh
          | skip
         refine⟨(m+1,.cells [.str t.name,.aF false EC (t.ins.map bF),.aF false EC (t.outs.map bF),I t.aZ,I t.agg,.aF false ER (t.rules.map cn)]:: .cells [.aF false E1 (r.cells.map bj),.aF false E1 (r.outs.map bj)]:: .cells [.ai,.ai]:: .cells [.own EC 5 r.cells.length 0 r.cells.length,.own EX (p+1+1+1+1+1+1) (m+1) 0 (m+1)]::Ql:: .vec EC (L.map bK)::(ρ.set p (.vec EX (X.map aI++[.agg [I x.op,I x.v.kind,I x.v.n,.str x.v.s,.str x.s,.aF false EX (x.l.map aI)]]))++[.cells [I x.op,I x.v.kind,I x.v.n,.str x.v.s,.str x.s,.aF false EX (x.l.map aI)]])),?_,?_,?_,bL,at_⟩<;>(try dsimp only)
         ·refine⟨by omega,eN (by rw[hA]),.inr ⟨by omega,p,_,rfl,?_⟩⟩;rw[fK,ek,aN (by simpa using hlt),List.getElem?_set_self (by simpa using hlt)];simp[aO,cg]
         ·omega
         all_goals first|rfl|(simp[go_sem];done)
      ·rw[if_neg (fun h=>Fa h.1)]at hA;rw[hA]at iJ fK;repeat' first|simp (disch:=omega) only[go_sem,au,aA,aB,fN,eo,lM,hk,i_,JE]|refine aq ?_|refine ak ?_ ?_<;>intro hw<;>try omega|fail
       all_goals first
        | exact bh
        | (rw [<-hE, iJ Fa]
           exact bG (iM (View.vec rfl (by simp[eo]) (by simp[eo]) (iB _)) (View.vec (i_ _) (by simp[lM]) (by simp[lM]) (tO _))))
     ·rw[if_pos he]at hA;rw[hA]at iJ fK;repeat' first|simp (disch:=omega) only[go_sem,au,aA,aB,fN,eo,lM,hk,i_,JE]|refine aq ?_|refine ak ?_ ?_<;>intro hw<;>try omega|fail
      all_goals first
       | exact bh
       | (rw [<-hE, iJ he]
          exact bG (iM (View.vec rfl (by simp[eo]) (by simp[eo]) (iB _)) (View.vec (i_ _) (by simp[lM]) (by simp[lM]) (tO _))))
    ·obtain rfl:m=r.outs.length:=by omega
     repeat' first|simp (disch:=omega) only[go_sem,au,aA,aB,eo,lM,hk,i_]|refine aq ?_|refine ak ?_ ?_<;>intro hw<;>try omega|fail
     rw[<-hE,hok g2];exact bG (iM (View.vec rfl (by simp[eo]) (by simp[eo]) (iB _)) (View.vec hk (by simp[lM]) (by simp[lM]) (tO _)))
