/- Part. -/
import Derived.Test.YthakfmmgnjpmdaaGreatW25
import Derived.Lib.Bytealg
set_option linter.all false
set_option maxHeartbeats 8000000
namespace Go.Proofs.YthakfmmgnjpmdaaGreat
open Go.AM
set_option maxRecDepth 4000
def U_(t:Table)(r:kX)(ht:t.ins.length<=2 ^ 30)(ho:t.outs.length<=2 ^ 30)(ht0:0<t.ins.length)(hr:(r.cells.length<=2 ^ 30/\ ∀ s ∈ r.cells,s.length<=2 ^ 30)/\r.outs.length<=2 ^ 30/\ ∀ s ∈ r.outs,s.length<=2 ^ 30): aF aD 45 [cI t,dN r] (Tn (mT t r)):=by
 obtain⟨⟨hr1,vX⟩,hr3,Ga⟩:=hr;obtain⟨E,hE⟩:∃ E,Tn (mT t r)=E:=⟨_,rfl⟩;rw[hE];simp only[cI,eJ,aY,dy,dN,lJ];by_cases hb:r.cells.length≠t.ins.length\/r.outs.length≠t.outs.length
 ·refine aK Cp ?_;intro Q aq au aA;repeat' first|refine ak ?_|refine aj ?_ ?_<;>intro hw<;>try omega|fail
  all_goals first
   | exact aP
   |(rw[<-hE,My hb];exact cN (jo (.ai _) (.ai _)))
 have q1:r.cells.length=t.ins.length:=by omega
 have q2:r.outs.length=t.outs.length:=by omega
 clear hb;refine aK Cp ?_;intro Q aq au aA;repeat' first|refine ak ?_|refine aj ?_ ?_<;>intro hw<;>try omega|fail
 all_goals first|exact aP|skip
 with_reducible refine aX [5,6,8,9,10,11,35,36,37,38,39,40,41,42,43,44,45,46,47,48,49,50,51,52,53,54,55,56,57,58,59,60,61,62,63,64,65,66,67,68,69,70,71,72,73,74] (fun q:Nat × ae=>[(8,I q.1)]) (fun q=>q.2) (fun q=>q.1<=r.cells.length/\(∀ k,k<q.1->(pJ t r k).2=0)/\(q.1=0/\q.2=[.cells [.str t.name,.aG false EC (t.ins.map bW),.aG false EC (t.outs.map bW),I t.bu,I t.agg,.aG false ER (t.rules.map dN)],.cells [.aG false E1 (r.cells.map gf),.aG false E1 (r.outs.map gf)],.cells [.ai,.ai],.cells [.ai,.ai]]\/0<q.1/\ ∃ c1 τ,q.2 = .cells [.str t.name,.aG false EC (t.ins.map bW),.aG false EC (t.outs.map bW),I t.bu,I t.agg,.aG false ER (t.rules.map dN)]:: .cells [.aG false E1 (r.cells.map gf),.aG false E1 (r.outs.map gf)]:: .cells [.ai,.ai]:: .cells [.own EC 5 q.1 0 q.1,.ai]::c1:: .vec EC ((lM t r q.1).map bY):: τ)) (fun q=>r.cells.length-q.1) (0,_) ⟨fx _,fun k hk=>by omega,.inl ⟨rfl,rfl⟩⟩ rfl ?_ ?_
 ·exact at_
 rintro⟨k,S⟩ rr ⟨h1,h2,h3⟩;dsimp only at h1 h2 h3;rcases h3 with⟨rfl,rfl⟩|⟨hk,Tp,τ,rfl⟩
 ·have gZ:=fun he=>yT q1 q2 (k:=0) (by omega) h2 he;have ic:=wH t r 0;have hA:pJ t r 0=((fT (r.cells.getD 0 default)).1,if(fT (r.cells.getD 0 default)).2.2=0 then qt t.ins (t.ins.getD 0 default).kind (fT (r.cells.getD 0 default)).1 else(fT (r.cells.getD 0 default)).2.2):=rfl;have c1:=Gd (r.cells.getD 0 default) (vX _ (aO (by omega)));have c2:=Ge t.ins (by omega) (t.ins.getD 0 default).kind _ (Ee (r.cells.getD 0 default));obtain⟨cc,iE⟩:∃ c,t.ins.getD 0 default=c:=⟨_,rfl⟩;rw[iE]at c2 hA;generalize qt t.ins cc.kind (fT (r.cells.getD 0 default)).1=ty at hA c2;generalize fT (r.cells.getD 0 default)=P at hA c1 c2;obtain⟨c,pn,e⟩:=P;dsimp only at c1 c2 hA;simp only[P3]at c1;simp only[bY,gG,aY]at c1 c2;by_cases he:e=0
  ·rw[if_pos he]at hA;rw[hA]at gZ ic;subst he;by_cases hty:ty=0
   ·subst hty;repeat' first|simp (disch:=omega) only[go_sem,aq,au,aA,iE]|refine ak ?_|refine aj ?_ ?_<;>intro hw<;>try omega|fail
    all_goals first
     | exact aP
     | skip
    refine⟨(1,[.cells [.str t.name,.aG false EC (t.ins.map bW),.aG false EC (t.outs.map bW),I t.bu,I t.agg,.aG false ER (t.rules.map dN)],.cells [.aG false E1 (r.cells.map gf),.aG false E1 (r.outs.map gf)],.cells [.ai,.ai],.cells [.own EC 5 1 0 1,.ai],.cells [.bool c.any,.bool c.neg,.aG false ES (c.tests.map bS)],.vec EC [.agg [.bool c.any,.bool c.neg,.aG false ES (c.tests.map bS)]]]),?_,?_,?_,bK,at_⟩<;>(try dsimp only)
    ·refine⟨by omega,fun j hj=>?_,.inr ⟨by omega,.cells [.bool c.any,.bool c.neg,.aG false ES (c.tests.map bS)],[],?_⟩⟩
     ·obtain rfl:j=0:=by omega
      rw[hA]
     ·rw[ic];rfl
    ·omega
    all_goals rfl
   ·repeat' first|simp (disch:=omega) only[go_sem,aq,au,aA,iE]|refine ak ?_|refine aj ?_ ?_<;>intro hw<;>try omega|fail
    all_goals first
     | exact aP
     | (rw [<-hE, gZ hty]
        exact cN (jo (.ai _) (.ai _)))
  ·rw[if_neg he]at hA;rw[hA]at gZ ic;repeat' first|simp (disch:=omega) only[go_sem,aq,au,aA,iE]|refine ak ?_|refine aj ?_ ?_<;>intro hw<;>try omega|fail
   all_goals first
    | exact aP
    | (rw [<-hE, gZ he]
       exact cN (jo (.ai _) (.ai _)))
 ·by_cases vY:k<r.cells.length
  ·have gZ:=fun he=>yT q1 q2 (k:=k) (by omega) h2 he;have ic:=wH t r k;have dM:=vw t r k;have k9:=fun he=>bx (q:=fun j=>(pJ t r j).2=0) h2 he;obtain⟨L,hL⟩:∃ L,lM t r k=L:=⟨_,rfl⟩;rw[hL]at dM ic;simp only[hL]at gZ ⊢;have hA:pJ t r k=((fT (r.cells.getD k default)).1,if(fT (r.cells.getD k default)).2.2=0 then qt t.ins (t.ins.getD k default).kind (fT (r.cells.getD k default)).1 else(fT (r.cells.getD k default)).2.2):=rfl;have c1:=Gd (r.cells.getD k default) (vX _ (aO (by omega)));have c2:=Ge t.ins (by omega) (t.ins.getD k default).kind _ (Ee (r.cells.getD k default));obtain⟨cc,iE⟩:∃ c,t.ins.getD k default=c:=⟨_,rfl⟩;rw[iE]at c2 hA;generalize qt t.ins cc.kind (fT (r.cells.getD k default)).1=ty at hA c2;generalize fT (r.cells.getD k default)=P at hA c1 c2;obtain⟨c,pn,e⟩:=P;dsimp only at c1 c2 hA;simp only[P3]at c1;simp only[bY,gG,aY]at c1 c2;by_cases he:e=0
   ·rw[if_pos he]at hA;rw[hA]at gZ ic;subst he;by_cases hty:ty=0
    ·subst hty;repeat' first|simp (disch:=omega) only[go_sem,aq,au,aA,iE,dM]|refine ak ?_|refine aj ?_ ?_<;>intro hw<;>try omega|fail
     all_goals first
      | exact aP
      | skip
     refine⟨(k+1,.cells [.str t.name,.aG false EC (t.ins.map bW),.aG false EC (t.outs.map bW),I t.bu,I t.agg,.aG false ER (t.rules.map dN)]:: .cells [.aG false E1 (r.cells.map gf),.aG false E1 (r.outs.map gf)]:: .cells [.ai,.ai]:: .cells [.own EC 5 (k+1) 0 (k+1),.ai]::Tp:: .vec EC (L.map bY++[.agg [.bool c.any,.bool c.neg,.aG false ES (c.tests.map bS)]])::(τ++[.cells [.bool c.any,.bool c.neg,.aG false ES (c.tests.map bS)]])),?_,?_,?_,bK,at_⟩<;>(try dsimp only)
     ·refine⟨by omega,k9 (by rw[hA]),.inr ⟨by omega,Tp,τ++[.cells [.bool c.any,.bool c.neg,.aG false ES (c.tests.map bS)]],?_⟩⟩;rw[ic,iJ];rfl
     ·omega
     all_goals rfl
    ·repeat' first|simp (disch:=omega) only[go_sem,aq,au,aA,iE,dM]|refine ak ?_|refine aj ?_ ?_<;>intro hw<;>try omega|fail
     all_goals first
      | exact aP
      | (rw [<-hE, gZ hty]
         exact cN (jo (View.vec rfl (by simp[dM]) (by simp[dM]) (jf _)) (.ai _)))
   ·rw[if_neg he]at hA;rw[hA]at gZ ic;repeat' first|simp (disch:=omega) only[go_sem,aq,au,aA,iE,dM]|refine ak ?_|refine aj ?_ ?_<;>intro hw<;>try omega|fail
    all_goals first
     | exact aP
     | (rw [<-hE, gZ he]
        exact cN (jo (View.vec rfl (by simp[dM]) (by simp[dM]) (jf _)) (.ai _)))
  ·have hkn:k=r.cells.length:=by omega
   subst hkn;have dM:=vw t r r.cells.length;have hok:=fun h=>P_ q1 q2 h2 h;have hte:=fun k (hk:k<r.outs.length) h he=>JC q1 q2 h2 (k:=k) hk h he;obtain⟨L,hL⟩:∃ L,lM t r r.cells.length=L:=⟨_,rfl⟩;rw[hL]at dM;simp only[hL]at hok hte ⊢;repeat' first|refine ak ?_|refine aj ?_ ?_<;>intro hw<;>try omega|fail
   with_reducible refine aX [5,6,12,13,14,15,16,75,76,77,78,79,80,81,82,83,84,85,86,87,88,89,90,91,92,93,94,95,96,97,98,99,100,101,102,103,104,105,106,107,108,109,110,111,112,113,114,115,116,117,118,119,120,121,122,123,124,125,126,127,128] (fun q:Nat × ae=>[(12,I q.1)]) (fun q=>q.2) (fun q=>q.1<=r.outs.length/\(∀ k,k<q.1->(kG t r k).2=0)/\(q.1=0/\q.2 = .cells [.str t.name,.aG false EC (t.ins.map bW),.aG false EC (t.outs.map bW),I t.bu,I t.agg,.aG false ER (t.rules.map dN)]:: .cells [.aG false E1 (r.cells.map gf),.aG false E1 (r.outs.map gf)]:: .cells [.ai,.ai]:: .cells [.own EC 5 r.cells.length 0 r.cells.length,.ai]::Tp:: .vec EC (L.map bY):: τ\/0<q.1/\ ∃ p ρ,q.2 = .cells [.str t.name,.aG false EC (t.ins.map bW),.aG false EC (t.outs.map bW),I t.bu,I t.agg,.aG false ER (t.rules.map dN)]:: .cells [.aG false E1 (r.cells.map gf),.aG false E1 (r.outs.map gf)]:: .cells [.ai,.ai]:: .cells [.own EC 5 r.cells.length 0 r.cells.length,.own EX (p+1+1+1+1+1+1) q.1 0 q.1]::Tp:: .vec EC (L.map bY):: ρ/\ ρ[p]? = some (.vec EX ((oJ t r q.1).map aJ)))) (fun q=>r.outs.length-q.1) (0,_) ⟨fx _,fun k hk=>by omega,.inl ⟨rfl,rfl⟩⟩ rfl ?_ ?_
   ·exact at_
   rintro⟨m,S⟩ rr ⟨g1,g2,g3⟩;dsimp only at g1 g2 g3;rcases g3 with⟨rfl,rfl⟩|⟨hm,p,ρ,rfl,hk⟩
   ·by_cases hml:0<r.outs.length
    ·have gZ:=fun he=>hte 0 hml g2 he;have ic:=yR t r 0;have hA:kG t r 0=((dK (r.outs.getD 0 default)).1,if(dK (r.outs.getD 0 default)).2.2≠0 then(dK (r.outs.getD 0 default)).2.2 else if(ek t.ins (dK (r.outs.getD 0 default)).1).2=0/\bI (ek t.ins (dK (r.outs.getD 0 default)).1).1 (t.outs.getD 0 default).kind=false then 14 else(ek t.ins (dK (r.outs.getD 0 default)).1).2):=rfl;have c1:=F5 (r.outs.getD 0 default) (Ga _ (aO (by omega)));have hp:=vv (r.outs.getD 0 default);have c2:=uV t.ins (by omega) (dK (r.outs.getD 0 default)).1 hp.1 (by have:=hp.2;omega);have c3:=jI (ek t.ins (dK (r.outs.getD 0 default)).1).1 (t.outs.getD 0 default).kind;clear hp;obtain⟨cc,iE⟩:∃ c,t.outs.getD 0 default=c:=⟨_,rfl⟩;rw[iE]at c3 hA;generalize bI (ek t.ins (dK (r.outs.getD 0 default)).1).1 cc.kind=fi at hA c3;generalize ek t.ins (dK (r.outs.getD 0 default)).1=ki at hA c2 c3;generalize dK (r.outs.getD 0 default)=P at hA c1 c2;obtain⟨x,pn,e⟩:=P;obtain⟨k1,k2⟩:=ki;dsimp only at c1 c2 c3 hA;simp only[vu]at c1;rw[aU]at c1 c2;try simp only[cH]at c1 c2
     simp only[aY]at c2;by_cases he:e=0
     ·subst he;rw[if_neg (by simp)]at hA;by_cases HD:k2=0
      ·subst HD;cases fi with
       | false =>
         rw[if_pos ⟨rfl,rfl⟩]at hA;rw[hA]at gZ ic;repeat' first|simp (disch:=omega) only[go_sem,aq,au,aA,iE,dM]|refine ak ?_|refine aj ?_ ?_<;>intro hw<;>try omega|fail
         all_goals first
          | exact aP
          | (rw [<-hE, gZ (show (14 : Int) ≠ 0 by decide)]
             exact cN (jo (View.vec rfl (by simp[dM]) (by simp[dM]) (jf _)) (.ai _)))
       | true =>
         rw[if_neg (by simp)]at hA;rw[hA]at gZ ic;repeat' first|simp (disch:=omega) only[go_sem,aq,au,aA,iE,dM]|refine ak ?_|refine aj ?_ ?_<;>intro hw<;>try omega|fail
         all_goals first
          | exact aP
          | skip
         refine⟨(1,.cells [.str t.name,.aG false EC (t.ins.map bW),.aG false EC (t.outs.map bW),I t.bu,I t.agg,.aG false ER (t.rules.map dN)]:: .cells [.aG false E1 (r.cells.map gf),.aG false E1 (r.outs.map gf)]:: .cells [.ai,.ai]:: .cells [.own EC 5 r.cells.length 0 r.cells.length,.own EX (τ.length+1+1+1+1+1+1+1) 1 0 1]::Tp:: .vec EC (L.map bY)::(τ++[.cells [I x.op,I x.v.kind,I x.v.n,.str x.v.s,.str x.s,.aG false EX (x.l.map aJ)]]++[.vec EX [.agg [I x.op,I x.v.kind,I x.v.n,.str x.v.s,.str x.s,.aG false EX (x.l.map aJ)]]])),?_,?_,?_,bK,at_⟩<;>(try dsimp only)
         ·refine⟨by omega,fun j hj=>?_,.inr ⟨by omega,τ.length+1,_,rfl,?_⟩⟩
          ·obtain rfl:j=0:=by omega
           rw[hA]
          ·rw[ic,show ∀ x,[x]=[]++[x] from fun _=>rfl];simp[oJ,aU,cH]
         ·omega
         all_goals first|rfl|(simp[go_sem];done)
      ·rw[if_neg (fun h=>HD h.1)]at hA;rw[hA]at gZ ic;repeat' first|simp (disch:=omega) only[go_sem,aq,au,aA,iE,dM]|refine ak ?_|refine aj ?_ ?_<;>intro hw<;>try omega|fail
       all_goals first
        | exact aP
        | (rw [<-hE, gZ HD]
           exact cN (jo (View.vec rfl (by simp[dM]) (by simp[dM]) (jf _)) (.ai _)))
     ·rw[if_pos he]at hA;rw[hA]at gZ ic;repeat' first|simp (disch:=omega) only[go_sem,aq,au,aA,iE,dM]|refine ak ?_|refine aj ?_ ?_<;>intro hw<;>try omega|fail
      all_goals first
       | exact aP
       | (rw [<-hE, gZ he]
          exact cN (jo (View.vec rfl (by simp[dM]) (by simp[dM]) (jf _)) (.ai _)))
    ·repeat' first|simp (disch:=omega) only[go_sem,aq,au,aA,dM]|refine ak ?_|refine aj ?_ ?_<;>intro hw<;>try omega|fail
     rw[<-hE,hok (fun j hj=>by omega)];have h0:r.outs.length=0:=by omega
     rw[h0];exact cN (jo (View.vec rfl (by simp[dM]) (by simp[dM]) (jf _)) (.ai _))
   ·have hlt:=(aQ.1 hk).1;have ni:=HB t r m;have iX:=fun d:bE=>(aV (l₁:= ρ) (l₂:=[d]) hlt).trans hk;by_cases hml:m<r.outs.length
    ·have gZ:=fun he=>hte m hml g2 he;have ic:=yR t r m;have k9:=fun he=>bx (q:=fun j=>(kG t r j).2=0) g2 he;have Dh:=fun(d w:bE)=>List.set_append_left (s:= ρ) (t:=[d]) p w hlt;obtain⟨X,hX⟩:∃ X,oJ t r m=X:=⟨_,rfl⟩;rw[hX]at ni ic hk gZ;simp only[hX]at iX;have hA:kG t r m=((dK (r.outs.getD m default)).1,if(dK (r.outs.getD m default)).2.2≠0 then(dK (r.outs.getD m default)).2.2 else if(ek t.ins (dK (r.outs.getD m default)).1).2=0/\bI (ek t.ins (dK (r.outs.getD m default)).1).1 (t.outs.getD m default).kind=false then 14 else(ek t.ins (dK (r.outs.getD m default)).1).2):=rfl;have c1:=F5 (r.outs.getD m default) (Ga _ (aO (by omega)));have hp:=vv (r.outs.getD m default);have c2:=uV t.ins (by omega) (dK (r.outs.getD m default)).1 hp.1 (by have:=hp.2;omega);have c3:=jI (ek t.ins (dK (r.outs.getD m default)).1).1 (t.outs.getD m default).kind;clear hp;obtain⟨cc,iE⟩:∃ c,t.outs.getD m default=c:=⟨_,rfl⟩;rw[iE]at c3 hA;generalize bI (ek t.ins (dK (r.outs.getD m default)).1).1 cc.kind=fi at hA c3;generalize ek t.ins (dK (r.outs.getD m default)).1=ki at hA c2 c3;generalize dK (r.outs.getD m default)=P at hA c1 c2;obtain⟨x,pn,e⟩:=P;obtain⟨k1,k2⟩:=ki;dsimp only at c1 c2 c3 hA;simp only[vu]at c1;rw[aU]at c1 c2;try simp only[cH]at c1 c2
     simp only[aY]at c2;by_cases he:e=0
     ·subst he;rw[if_neg (by simp)]at hA;by_cases HD:k2=0
      ·subst HD;cases fi with
       | false =>
         rw[if_pos ⟨rfl,rfl⟩]at hA;rw[hA]at gZ ic;repeat' first|simp (disch:=omega) only[go_sem,aq,au,aA,iE,dM,ni,hk,iX,Dh]|refine ak ?_|refine aj ?_ ?_<;>intro hw<;>try omega|fail
         all_goals first
          | exact aP
          | (rw [<-hE, gZ (show (14 : Int) ≠ 0 by decide)]
             exact cN (jo (View.vec rfl (by simp[dM]) (by simp[dM]) (jf _)) (View.vec (iX _) (by simp[ni]) (by simp[ni]) (vq _))))
       | true =>
         rw[if_neg (by simp)]at hA;rw[hA]at gZ ic;repeat' first|simp (disch:=omega) only[go_sem,aq,au,aA,iE,dM,ni,hk,iX,Dh]|refine ak ?_|refine aj ?_ ?_<;>intro hw<;>try omega|fail
         all_goals first
          | exact aP
          | skip
         refine⟨(m+1,.cells [.str t.name,.aG false EC (t.ins.map bW),.aG false EC (t.outs.map bW),I t.bu,I t.agg,.aG false ER (t.rules.map dN)]:: .cells [.aG false E1 (r.cells.map gf),.aG false E1 (r.outs.map gf)]:: .cells [.ai,.ai]:: .cells [.own EC 5 r.cells.length 0 r.cells.length,.own EX (p+1+1+1+1+1+1) (m+1) 0 (m+1)]::Tp:: .vec EC (L.map bY)::(ρ.set p (.vec EX (X.map aJ++[.agg [I x.op,I x.v.kind,I x.v.n,.str x.v.s,.str x.s,.aG false EX (x.l.map aJ)]]))++[.cells [I x.op,I x.v.kind,I x.v.n,.str x.v.s,.str x.s,.aG false EX (x.l.map aJ)]])),?_,?_,?_,bK,at_⟩<;>(try dsimp only)
         ·refine⟨by omega,k9 (by rw[hA]),.inr ⟨by omega,p,_,rfl,?_⟩⟩;rw[ic,iJ,aV (by simpa using hlt),fG (by simpa using hlt)];simp[aU,cH]
         ·omega
         all_goals first|rfl|(simp[go_sem];done)
      ·rw[if_neg (fun h=>HD h.1)]at hA;rw[hA]at gZ ic;repeat' first|simp (disch:=omega) only[go_sem,aq,au,aA,iE,dM,ni,hk,iX,Dh]|refine ak ?_|refine aj ?_ ?_<;>intro hw<;>try omega|fail
       all_goals first
        | exact aP
        | (rw [<-hE, gZ HD]
           exact cN (jo (View.vec rfl (by simp[dM]) (by simp[dM]) (jf _)) (View.vec (iX _) (by simp[ni]) (by simp[ni]) (vq _))))
     ·rw[if_pos he]at hA;rw[hA]at gZ ic;repeat' first|simp (disch:=omega) only[go_sem,aq,au,aA,iE,dM,ni,hk,iX,Dh]|refine ak ?_|refine aj ?_ ?_<;>intro hw<;>try omega|fail
      all_goals first
       | exact aP
       | (rw [<-hE, gZ he]
          exact cN (jo (View.vec rfl (by simp[dM]) (by simp[dM]) (jf _)) (View.vec (iX _) (by simp[ni]) (by simp[ni]) (vq _))))
    ·obtain rfl:m=r.outs.length:=by omega
     repeat' first|simp (disch:=omega) only[go_sem,aq,au,aA,dM,ni,hk,iX]|refine ak ?_|refine aj ?_ ?_<;>intro hw<;>try omega|fail
     rw[<-hE,hok g2];exact cN (jo (View.vec rfl (by simp[dM]) (by simp[dM]) (jf _)) (View.vec hk (by simp[ni]) (by simp[ni]) (vq _)))
def kT(t:Table)(k:Nat): pG × Int × Int:=mT t (t.rules.getD k default)
def mU(t:Table)(n:Nat): List pG:=(List.range n).map fun k=>(kT t k).1
def Eh: Ready:=⟨⟨[],[],[],0,0,[]⟩,[]⟩
def iV(t:Table): Ready × Int × Int × Int :=
 if jL t≠0 then(Eh,-1,0,jL t)
 else match(List.range t.rules.length).find? (fun k=>(kT t k).2.2 != 0)with
 | some k=>(Eh,k,(kT t k).2.1,(kT t k).2.2)
 | none=>(⟨t,mU t t.rules.length⟩,0,0,0)
def Tq(r:Ready × Int × Int × Int): AV:= .bJ [iZ r.1,I r.2.1,I r.2.2.1,I r.2.2.2]
def JD(t:Table)(n:Nat): mU t (n+1)=mU t n++[(kT t n).1]:=by simp[mU,List.range_succ]
def vx(t:Table)(n:Nat): (mU t n).length=n:=by simp[mU]
def Gf{t:Table}(h:jL t≠0): iV t=(Eh,(-1:Int),(0:Int),jL t):=by unfold iV;rw[if_pos h]
def JE{t:Table}(h0:jL t=0){k:Nat}(hk:k<t.rules.length)(h:∀ j,j<k->(kT t j).2.2=0)(he:(kT t k).2.2≠0): iV t=(Eh,(k:Int),(kT t k).2.1,(kT t k).2.2):=by
 unfold iV;rw[if_neg (by omega),HC (i:=k) hk (fun j hj=>by simp[h j hj]) (by simp[he])]
def Qa{t:Table}(h0:jL t=0)(h:∀ j,j<t.rules.length->(kT t j).2.2=0): iV t=((⟨t,mU t t.rules.length⟩:Ready),(0:Int),(0:Int),(0:Int)):=by
 unfold iV;rw[if_neg (by omega),yS (fun j hj=>by simp[h j hj])]
def JF{t:Table}(h:jL t=0): 0<t.ins.length:=by
 unfold jL at h;split at h
 ·omega
 split at h
 ·omega
 ·rename_i h1 h2;exact(sQ (by omega:kF t.ins false=0)).2
def uW{σ : ae}{a E:AV}{n m k:Int}(h:View σ a E): bn σ [a,I n,I m,I k] [E,I n,I m,I k]:= .cons h (.cons (.refl _ rfl) (.cons (.refl _ rfl) (.cons (.refl _ rfl) (.nil _))))
def wU(σ : ae): View σ (.agg [.str [],.ai,.ai,I 0,I 0,.ai,.ai]) (iZ Eh) :=
 View.n9 (.cons (.refl _ rfl) (.cons (.ai _) (.cons (.ai _) (.cons (.refl _ rfl) (.cons (.refl _ rfl) (.cons (.ai _) (.cons (.ai _) (.nil _))))))))
def Sc(t:Table)(h:qT t): aF aD 21 [cI t] (Tq (iV t)):=by
 have cf:=P8 t h;obtain⟨E,hE⟩:∃ E,Tq (iV t)=E:=⟨_,rfl⟩;rw[hE];have hl:=fun(h0:0<t.ins.length) k (hk:k<t.rules.length)=>Sb t (t.rules.getD k default) h.2.1.1 h.2.2.1.1 h0 (h.2.2.2.2 _ (aO hk));have agk:=h.2.2.2.1;simp only[cI,eJ,aY,dy]at cf hl ⊢;by_cases hf:jL t≠0
 ·have hm:=Gf hf;obtain⟨f,Cm⟩:∃ f,jL t=f:=⟨_,rfl⟩;rw[Cm]at cf hm hf;refine aK zP ?_;intro Q aq au aA;repeat' first|refine ak ?_|refine aj ?_ ?_<;>intro hw<;>try omega|fail
  all_goals first
   | exact aP
   |(rw[<-hE,hm];exact cN (uW (wU _)))
 have vg:jL t=0:=by omega
 have hi0:0<t.ins.length:=JF vg;rw[vg]at cf
 replace hl:=hl hi0
 clear hf;refine aK zP ?_;intro Q aq au aA;repeat' first|refine ak ?_|refine aj ?_ ?_<;>intro hw<;>try omega|fail
 all_goals first|exact aP|skip
 with_reducible refine aX [3,4,5,8,9,10,11,12,24,25,26,27,28,29,30,31,32,33,34,35,36,37,38,39,40,41,42,43,44,45,46,47,48] (fun q:Nat × ae=>[(24,I q.1)]) (fun q=>q.2) (fun q=>q.1<=t.rules.length/\(∀ k,k<q.1->(kT t k).2.2=0)/\(q.1=0/\q.2=[.cells [.str t.name,.aG false EC (t.ins.map bW),.aG false EC (t.outs.map bW),I t.bu,I t.agg,.aG false ER (t.rules.map dN)],.cells [.str [],.ai,.ai,I 0,I 0,.ai,.ai],.cells [.str t.name,.aG false EC (t.ins.map bW),.aG false EC (t.outs.map bW),I t.bu,I t.agg,.aG false ER (t.rules.map dN),.ai]]\/0<q.1/\ ∃ b1 b2 τ,q.2 = .cells [.str t.name,.aG false EC (t.ins.map bW),.aG false EC (t.outs.map bW),I t.bu,I t.agg,.aG false ER (t.rules.map dN)]:: .cells [.str [],.ai,.ai,I 0,I 0,.ai,.ai]:: .cells [.str t.name,.aG false EC (t.ins.map bW),.aG false EC (t.outs.map bW),I t.bu,I t.agg,.aG false ER (t.rules.map dN),.own ER 5 q.1 0 q.1]::b1::b2:: .vec ER ((mU t q.1).map jb):: τ)) (fun q=>t.rules.length-q.1) (0,_) ⟨fx _,fun k hk=>by omega,.inl ⟨rfl,rfl⟩⟩ rfl ?_ ?_
 ·exact at_
 rintro⟨k,S⟩ rr ⟨h1,h2,h3⟩;dsimp only at h1 h2 h3;by_cases vY:k<t.rules.length
 ·have c:=hl k vY;have gZ:=fun he=>JE vg vY h2 he;have ic:=JD t k;have dM:=vx t k;have k9:=fun he=>bx (q:=fun j=>(kT t j).2.2=0) h2 he;have hlr:kT t k=mT t (t.rules.getD k default):=rfl;obtain⟨a,ha⟩:∃ a,kT t k=a:=⟨_,rfl⟩;rw[ha]at gZ ic k9 hlr;rw[<-hlr]at c;obtain⟨ru,Gg⟩:∃ ru,t.rules.getD k default=ru:=⟨_,rfl⟩;rw[Gg]at c;clear hlr;simp only[Tn,jb,nG,cH,dN,lJ]at c;rcases h3 with⟨rfl,rfl⟩|⟨hk,b1,b2,τ,rfl⟩
  ·repeat' first|simp (disch:=omega) only[go_sem,aq,au,aA,Gg]|refine ak ?_|refine cW c ?_|refine aj ?_ ?_<;>intro hw<;>try omega|fail
   ·rw[<-hE,gZ (by assumption)];exact cN (uW (wU _))
   ·refine⟨(1,[.cells [.str t.name,.aG false EC (t.ins.map bW),.aG false EC (t.outs.map bW),I t.bu,I t.agg,.aG false ER (t.rules.map dN)],.cells [.str [],.ai,.ai,I 0,I 0,.ai,.ai],.cells [.str t.name,.aG false EC (t.ins.map bW),.aG false EC (t.outs.map bW),I t.bu,I t.agg,.aG false ER (t.rules.map dN),.own ER 5 1 0 1],.cells [.aG false E1 (ru.cells.map gf),.aG false E1 (ru.outs.map gf)],.cells [.aG false EC (a.1.cells.map bY),.aG false EX (a.1.outs.map aJ)],.vec ER [.agg [.aG false EC (a.1.cells.map bY),.aG false EX (a.1.outs.map aJ)]]]),?_,?_,?_,bK,at_⟩<;>(try dsimp only)
    ·refine⟨by omega,k9 (by assumption),.inr ⟨by omega,.cells [.aG false E1 (ru.cells.map gf),.aG false E1 (ru.outs.map gf)],.cells [.aG false EC (a.1.cells.map bY),.aG false EX (a.1.outs.map aJ)],[],?_⟩⟩;rw[ic];rfl
    ·omega
    all_goals first|rfl|(simp[go_sem];done)
  ·obtain⟨L,hL⟩:∃ L,mU t k=L:=⟨_,rfl⟩;rw[hL]at dM ic;simp only[hL];repeat' first|simp (disch:=omega) only[go_sem,aq,au,aA,Gg,dM]|refine ak ?_|refine cW c ?_|refine aj ?_ ?_<;>intro hw<;>try omega|fail
   ·rw[<-hE,gZ (by assumption)];exact cN (uW (wU _))
   ·refine⟨(k+1,.cells [.str t.name,.aG false EC (t.ins.map bW),.aG false EC (t.outs.map bW),I t.bu,I t.agg,.aG false ER (t.rules.map dN)]:: .cells [.str [],.ai,.ai,I 0,I 0,.ai,.ai]:: .cells [.str t.name,.aG false EC (t.ins.map bW),.aG false EC (t.outs.map bW),I t.bu,I t.agg,.aG false ER (t.rules.map dN),.own ER 5 (k+1) 0 (k+1)]::b1::b2:: .vec ER (L.map jb++[.agg [.aG false EC (a.1.cells.map bY),.aG false EX (a.1.outs.map aJ)]])::(τ++[.cells [.aG false E1 (ru.cells.map gf),.aG false E1 (ru.outs.map gf)]]++[.cells [.aG false EC (a.1.cells.map bY),.aG false EX (a.1.outs.map aJ)]])),?_,?_,?_,bK,at_⟩<;>(try dsimp only)
    ·refine⟨by omega,k9 (by assumption),.inr ⟨by omega,b1,b2,τ++[.cells [.aG false E1 (ru.cells.map gf),.aG false E1 (ru.outs.map gf)]]++[.cells [.aG false EC (a.1.cells.map bY),.aG false EX (a.1.outs.map aJ)]],?_⟩⟩;rw[ic,iJ];(first|rfl|(simp[jb,nG,cH];done))
    ·omega
    all_goals first|rfl|(simp[go_sem];done)
 ·obtain rfl:k=t.rules.length:=by omega
  have hok:=Qa vg h2;rcases h3 with⟨h0,rfl⟩|⟨hk,b1,b2,τ,rfl⟩
  ·repeat' first|refine ak ?_|refine aj ?_ ?_<;>intro hw<;>try omega|fail
   rw[<-hE,hok,h0];exact cN (uW (View.n9 (.cons (.refl _ rfl) (.cons (.refl _ (ie _)) (.cons (.refl _ (ie _)) (.cons (.refl _ rfl) (.cons (.refl _ rfl) (.cons (.refl _ (qO _)) (.cons (.ai _) (.nil _))))))))))
  ·have dM:=vx t t.rules.length;obtain⟨L,hL⟩:∃ L,mU t t.rules.length=L:=⟨_,rfl⟩;rw[hL]at dM hok;simp only[hL];repeat' first|simp (disch:=omega) only[go_sem,aq,au,aA,dM]|refine ak ?_|refine aj ?_ ?_<;>intro hw<;>try omega|fail
   rw[<-hE,hok];exact cN (uW (View.n9 (.cons (.refl _ rfl) (.cons (.refl _ (ie _)) (.cons (.refl _ (ie _)) (.cons (.refl _ rfl) (.cons (.refl _ rfl) (.cons (.refl _ (qO _)) (.cons (View.vec rfl (by simp[dM]) (by simp[dM]) (DW _)) (.nil _))))))))))
def Va(t:Table)(h:qT t): aF aD 24 [cI t] (Tq (iV t)):=by
 have cf:=R9 t h;obtain⟨E,hE⟩:∃ E,Tq (iV t)=E:=⟨_,rfl⟩;rw[hE];have hl:=fun(h0:0<t.ins.length) k (hk:k<t.rules.length)=>U_ t (t.rules.getD k default) h.2.1.1 h.2.2.1.1 h0 (h.2.2.2.2 _ (aO hk));have agk:=h.2.2.2.1;simp only[cI,eJ,aY,dy]at cf hl ⊢;by_cases hf:jL t≠0
 ·have hm:=Gf hf;obtain⟨f,Cm⟩:∃ f,jL t=f:=⟨_,rfl⟩;rw[Cm]at cf hm hf;refine aK Co ?_;intro Q aq au aA;repeat' first|refine ak ?_|refine aj ?_ ?_<;>intro hw<;>try omega|fail
  all_goals first
   | exact aP
   |(rw[<-hE,hm];exact cN (uW (wU _)))
 have vg:jL t=0:=by omega
 have hi0:0<t.ins.length:=JF vg;rw[vg]at cf
 replace hl:=hl hi0
 clear hf;refine aK Co ?_;intro Q aq au aA;repeat' first|refine ak ?_|refine aj ?_ ?_<;>intro hw<;>try omega|fail
 all_goals first|exact aP|skip
 with_reducible refine aX [3,4,5,8,9,10,11,20,21,22,23,24,25,26,27,28,29,30,31,32,33,34,35,36,37,38,39,40,41,42,43,44,45,46,47,48,49] (fun q:Nat × ae=>[(8,I q.1)]) (fun q=>q.2) (fun q=>q.1<=t.rules.length/\(∀ k,k<q.1->(kT t k).2.2=0)/\(q.1=0/\q.2=[.cells [.str t.name,.aG false EC (t.ins.map bW),.aG false EC (t.outs.map bW),I t.bu,I t.agg,.aG false ER (t.rules.map dN)],.cells [.str [],.ai,.ai,I 0,I 0,.ai,.ai],.cells [.str t.name,.aG false EC (t.ins.map bW),.aG false EC (t.outs.map bW),I t.bu,I t.agg,.aG false ER (t.rules.map dN),.ai]]\/0<q.1/\ ∃ b1 τ,q.2 = .cells [.str t.name,.aG false EC (t.ins.map bW),.aG false EC (t.outs.map bW),I t.bu,I t.agg,.aG false ER (t.rules.map dN)]:: .cells [.str [],.ai,.ai,I 0,I 0,.ai,.ai]:: .cells [.str t.name,.aG false EC (t.ins.map bW),.aG false EC (t.outs.map bW),I t.bu,I t.agg,.aG false ER (t.rules.map dN),.own ER 4 q.1 0 q.1]::b1:: .vec ER ((mU t q.1).map jb):: τ)) (fun q=>t.rules.length-q.1) (0,_) ⟨fx _,fun k hk=>by omega,.inl ⟨rfl,rfl⟩⟩ rfl ?_ ?_
 ·exact at_
 rintro⟨k,S⟩ rr ⟨h1,h2,h3⟩;dsimp only at h1 h2 h3;by_cases vY:k<t.rules.length
 ·have c:=hl k vY;have gZ:=fun he=>JE vg vY h2 he;have ic:=JD t k;have dM:=vx t k;have k9:=fun he=>bx (q:=fun j=>(kT t j).2.2=0) h2 he;have hlr:kT t k=mT t (t.rules.getD k default):=rfl;obtain⟨a,ha⟩:∃ a,kT t k=a:=⟨_,rfl⟩;rw[ha]at gZ ic k9 hlr;rw[<-hlr]at c;obtain⟨ru,Gg⟩:∃ ru,t.rules.getD k default=ru:=⟨_,rfl⟩;rw[Gg]at c;clear hlr;simp only[Tn,jb,nG,cH,dN,lJ]at c;rcases h3 with⟨rfl,rfl⟩|⟨hk,b1,τ,rfl⟩
  ·repeat' first|simp (disch:=omega) only[go_sem,aq,au,aA,Gg]|refine ak ?_|refine cW c ?_|refine aj ?_ ?_<;>intro hw<;>try omega|fail
   ·rw[<-hE,gZ (by assumption)];exact cN (uW (wU _))
   ·refine⟨(1,[.cells [.str t.name,.aG false EC (t.ins.map bW),.aG false EC (t.outs.map bW),I t.bu,I t.agg,.aG false ER (t.rules.map dN)],.cells [.str [],.ai,.ai,I 0,I 0,.ai,.ai],.cells [.str t.name,.aG false EC (t.ins.map bW),.aG false EC (t.outs.map bW),I t.bu,I t.agg,.aG false ER (t.rules.map dN),.own ER 4 1 0 1],.cells [.aG false EC (a.1.cells.map bY),.aG false EX (a.1.outs.map aJ)],.vec ER [.agg [.aG false EC (a.1.cells.map bY),.aG false EX (a.1.outs.map aJ)]]]),?_,?_,?_,bK,at_⟩<;>(try dsimp only)
    ·refine⟨by omega,k9 (by assumption),.inr ⟨by omega,.cells [.aG false EC (a.1.cells.map bY),.aG false EX (a.1.outs.map aJ)],[],?_⟩⟩;rw[ic];rfl
    ·omega
    all_goals first|rfl|(simp[go_sem];done)
  ·obtain⟨L,hL⟩:∃ L,mU t k=L:=⟨_,rfl⟩;rw[hL]at dM ic;simp only[hL];repeat' first|simp (disch:=omega) only[go_sem,aq,au,aA,Gg,dM]|refine ak ?_|refine cW c ?_|refine aj ?_ ?_<;>intro hw<;>try omega|fail
   ·rw[<-hE,gZ (by assumption)];exact cN (uW (wU _))
   ·refine⟨(k+1,.cells [.str t.name,.aG false EC (t.ins.map bW),.aG false EC (t.outs.map bW),I t.bu,I t.agg,.aG false ER (t.rules.map dN)]:: .cells [.str [],.ai,.ai,I 0,I 0,.ai,.ai]:: .cells [.str t.name,.aG false EC (t.ins.map bW),.aG false EC (t.outs.map bW),I t.bu,I t.agg,.aG false ER (t.rules.map dN),.own ER 4 (k+1) 0 (k+1)]::b1:: .vec ER (L.map jb++[.agg [.aG false EC (a.1.cells.map bY),.aG false EX (a.1.outs.map aJ)]])::(τ++[.cells [.aG false EC (a.1.cells.map bY),.aG false EX (a.1.outs.map aJ)]])),?_,?_,?_,bK,at_⟩<;>(try dsimp only)
    ·refine⟨by omega,k9 (by assumption),.inr ⟨by omega,b1,τ++[.cells [.aG false EC (a.1.cells.map bY),.aG false EX (a.1.outs.map aJ)]],?_⟩⟩;rw[ic,iJ];(first|rfl|(simp[jb,nG,cH];done))
    ·omega
    all_goals first|rfl|(simp[go_sem];done)
 ·obtain rfl:k=t.rules.length:=by omega
  have hok:=Qa vg h2;rcases h3 with⟨h0,rfl⟩|⟨hk,b1,τ,rfl⟩
  ·repeat' first|refine ak ?_|refine aj ?_ ?_<;>intro hw<;>try omega|fail
   rw[<-hE,hok,h0];exact cN (uW (View.n9 (.cons (.refl _ rfl) (.cons (.refl _ (ie _)) (.cons (.refl _ (ie _)) (.cons (.refl _ rfl) (.cons (.refl _ rfl) (.cons (.refl _ (qO _)) (.cons (.ai _) (.nil _))))))))))
  ·have dM:=vx t t.rules.length;obtain⟨L,hL⟩:∃ L,mU t t.rules.length=L:=⟨_,rfl⟩;rw[hL]at dM hok;simp only[hL];repeat' first|simp (disch:=omega) only[go_sem,aq,au,aA,dM]|refine ak ?_|refine aj ?_ ?_<;>intro hw<;>try omega|fail
   rw[<-hE,hok];exact cN (uW (View.n9 (.cons (.refl _ rfl) (.cons (.refl _ (ie _)) (.cons (.refl _ (ie _)) (.cons (.refl _ rfl) (.cons (.refl _ rfl) (.cons (.refl _ (qO _)) (.cons (View.vec rfl (by simp[dM]) (by simp[dM]) (DW _)) (.nil _))))))))))
def iW(a b:Int): Int:=if a<b then -1 else if b<a then 1 else 0
def e7(a b:aH): Int:=if iW a.kind b.kind≠0 then iW a.kind b.kind else if iW a.n b.n≠0 then iW a.n b.n else Lib.compareBytes a.s b.s
def eY: List aH->List aH->Int
 | [],[]=>0
 | [],_::_=> -1
 | _::_,[]=>1
 | a::r,b::t=>if e7 a b≠0 then e7 a b else eY r t
def rh(x:List aH): List (List aH)->List (List aH)
 | []=>[x]
 | y::r=>if eY x y<0 then x::y::r else y::rh x r
def nK: List (List aH)->List (List aH)->List (List aH)
 | [],acc=>acc
 | x::r,acc=>nK r (rh x acc)
