/- Part. -/
import Derived.Test.YtmbgnaoilncbnaaGreatDoorX27
set_option linter.all false
namespace Go.Proofs.YtmbgnaoilncbnaaGreatDoor
open Go.AM
set_option maxRecDepth 4000
def abY{T:List Tok}(hT:FC T)(hl:T.length<=2 ^ 20)(p:Nat)(b:Bool): LC (ey T p b).t:=by
 have hx:∀ p b,ic (gU T p b).x/\eK (gU T p b).x<=2 ^ 30:=fun p b=>⟨(Ia hT p b).1,by have:=(Ia hT p b).2;omega⟩;have h0:ic x0/\eK x0<=2 ^ 30:=⟨vw,by simp[x0,eK,nD]⟩;have h1:∀ k p b,LC (tC k (gU T p b)).t:=fun k p b=>⟨hx p b,h0⟩;have h2:∀ lo,LC (Nw T p lo).t:=fun lo=>⟨hx _ _,hx _ _⟩;unfold ey;split
 ·exact h1 _ _ _
 split
 ·exact h1 _ _ _
 split
 ·exact h1 _ _ _
 split
 ·exact h1 _ _ _
 split
 ·exact h2 _
 split
 ·exact h2 _
 ·exact h1 _ _ _
def abZ{T:List Tok}(hT:FC T)(hl:T.length<=2 ^ 20)(f:Nat): ∀(acc:List Test) (p:Nat) (b:Bool),(∀ t ∈ acc,LC t)->(∀ t ∈ (nF T f acc p b).ts,LC t)/\(nF T f acc p b).ts.length<=acc.length+f:=by
 induction f with
 | zero=>intro acc p b h;exact⟨h,Nat.le_refl _⟩
 | succ f ih =>
   intro acc p b h
   have h2:∀ t ∈ acc++[(ey T p b).t],LC t:=fun t ht=>by
    rcases List.mem_append.1 ht with ht|ht
    ·exact h t ht
    ·simp only[List.mem_cons,List.not_mem_nil,or_false]at ht;subst ht;exact abY hT hl p b
   rw[rQ];split
   ·have:=ih _ ((ey T p b).p+1) (ey T p b).bad h2;rw[List.length_append,List.length_cons,List.length_nil]at this;exact⟨this.1,by omega⟩
   ·exact⟨h2,by rw[List.length_append,List.length_cons,List.length_nil];omega⟩
def aaH(s:aJ): Bn (fU s).1:=by
 have h:Bn ⟨false,nE (bw s).1,(gG (bw s).1).ts⟩:=by
  have hf:=(oO s).1;have:=abZ (GS s) (by omega) ((bw s).1.length+1) [] (Jv (bw s).1) false (fun t ht=>by cases ht);unfold gG Bn;rw[Sp];exact⟨by have:=this.2;simp only[List.length_nil]at this;dsimp only;omega,this.1⟩
 have h0:Bn c0:=⟨Nat.zero_le _,fun t ht=>by cases ht⟩;have h1:Bn FD:=⟨Nat.zero_le _,fun t ht=>by cases ht⟩;unfold fU;repeat' split
 all_goals first|exact h0|exact h1|exact h
def Fa(s:aJ): ic (dF s).1/\eK (dF s).1<=2 ^ 30:=by
 have h:ic (d_ (bw s).1 0 0).1/\eK (d_ (bw s).1 0 0).1<=2 ^ 30:=by
  have hf:=(oO s).1;have:=HZ (bw s).1 0 0;exact⟨Wp (GS s) _ _,by omega⟩
 have h0:ic x0/\eK x0<=2 ^ 30:=⟨vw,by simp[x0,eK,nD]⟩;unfold dF;repeat' split
 all_goals first|exact h0|exact h
def WH(t:Table)(k:Nat)(s:aJ): Cell × Int:=((fU s).1,if(fU s).2.2=0 then tD t.ins (t.ins.getD k default).kind (fU s).1 else(fU s).2.2)
def QU(t:Table)(k:Nat)(s:aJ): Expr × Int:=((dF s).1,if(dF s).2.2≠0 then(dF s).2.2 else if(eD t.ins (dF s).1).2=0/\jc (eD t.ins (dF s).1).1 (t.outs.getD k default).kind=false then 14 else(eD t.ins (dF s).1).2)
def aaI(t:Table)(k:Nat)(s:aJ)(ht:t.ins.length<=2 ^ 30)(hk:k<t.ins.length)(hs:s.length<=2 ^ 30): ai Tryz.prog CZ [bS t,I k,.str s] (.bX [bH (WH t k s).1,I (WH t k s).2]):=by
 have c1:=aav s hs;have c2:=aaz t.ins (by omega) (t.ins.getD k default).kind (fU s).1 (Ly s);have hS:WH t k s=((fU s).1,if(fU s).2.2=0 then tD t.ins (t.ins.getD k default).kind (fU s).1 else(fU s).2.2):=rfl;rw[hS];clear hS;dsimp only;obtain⟨cc,gK⟩:∃ c,t.ins.getD k default=c:=⟨_,rfl⟩;rw[gK]at c2 ⊢;generalize tD t.ins cc.kind (fU s).1=ty at *;generalize fU s=P at *;obtain⟨c,n,e⟩:=P;dsimp only at c1 c2 ⊢;simp only[Wq]at c1;obtain⟨C,hC⟩:∃ C,bH c=C:=⟨_,rfl⟩;have hC2:C = .agg [.bool c.any,.bool c.neg,.aK false ES (c.tests.map bO)]:=by rw[<-hC];rfl
 simp only[bH,fo,bS,dy,bB,cW]at c1 c2 ⊢;refine ai.aG (Un (by simp) ?_) (by simp);unfold KJ aP;intro Q au aA aB;repeat' first|simp (disch:=omega) only[go_sem,au,aA,aB,gK]|refine aq ?_|refine aC c1 ?_|refine aC c2 ?_|refine ak ?_ ?_<;>intro hw<;>try omega|fail
 all_goals (refine aT ?_ (by simp);simp_all)
def X5(t:Table)(k:Nat)(s:aJ)(ht:t.ins.length<=2 ^ 30)(ho:t.outs.length<=2 ^ 30)(hk:k<t.outs.length)(hs:s.length<=2 ^ 30): ai Tryz.prog AN [bS t,I k,.str s] (.bX [aL (QU t k s).1,I (QU t k s).2]):=by
 have c1:=V8 s hs;have hp:=Fa s;have c2:=DP t.ins (by omega) (dF s).1 hp.1 (by have:=hp.2;omega);have c3:=rO (eD t.ins (dF s).1).1 (t.outs.getD k default).kind;have hS:QU t k s=((dF s).1,if(dF s).2.2≠0 then(dF s).2.2 else if(eD t.ins (dF s).1).2=0/\jc (eD t.ins (dF s).1).1 (t.outs.getD k default).kind=false then 14 else(eD t.ins (dF s).1).2):=rfl;rw[hS];clear hS hp;dsimp only;obtain⟨cc,gK⟩:∃ c,t.outs.getD k default=c:=⟨_,rfl⟩;rw[gK]at c3 ⊢;generalize jc (eD t.ins (dF s).1).1 cc.kind=fi at *;generalize eD t.ins (dF s).1=ki at *;generalize dF s=P at *;obtain⟨x,n,e⟩:=P;dsimp only at c1 c2 ⊢;simp only[Ag]at c1;rw[aR]at c1 c2 ⊢;simp only[cw,bS,dy,bB,cW]at c1 c2 ⊢;refine ai.aG (RY (by simp) ?_) (by simp);unfold I8 aP;intro Q au aA aB;repeat' first|simp (disch:=omega) only[go_sem,au,aA,aB,gK]|refine aq ?_|refine aC c1 ?_|refine aC c2 ?_|refine aC c3 ?_|refine ak ?_ ?_<;>intro hw<;>try omega|fail
 all_goals (refine aT ?_ (by simp);simp_all)
def o8(t:Table)(r:dO)(k:Nat): Cell × Int:=WH t k (r.cells.getD k default)
def mj(t:Table)(r:dO)(k:Nat): Expr × Int:=QU t k (r.outs.getD k default)
def mo(t:Table)(r:dO)(n:Nat): List Cell:=(List.range n).map fun k=>(o8 t r k).1
def r9(t:Table)(r:dO)(n:Nat): List Expr:=(List.range n).map fun k=>(mj t r k).1
def lJ(t:Table)(r:dO): kP × Int × Int :=
 if r.cells.length≠t.ins.length\/r.outs.length≠t.outs.length then(⟨[],[]⟩,0,17)
 else match(List.range r.cells.length).find? (fun k=>(o8 t r k).2 != 0)with
 | some k=>(⟨mo t r k,[]⟩,k,(o8 t r k).2)
 | none => match (List.range r.outs.length).find? (fun k => (mj t r k).2 != 0) with
   | some k=>(⟨mo t r r.cells.length,r9 t r k⟩,t.ins.length+k,(mj t r k).2)
   | none=>(⟨mo t r r.cells.length,r9 t r r.outs.length⟩,0,0)
def Cd(t:Table)(r:dO)(n:Nat): mo t r (n+1)=mo t r n++[(o8 t r n).1]:=by simp[mo,List.range_succ]
def Fb(t:Table)(r:dO)(n:Nat): r9 t r (n+1)=r9 t r n++[(mj t r n).1]:=by simp[r9,List.range_succ]
def Ak(t:Table)(r:dO)(n:Nat): (mo t r n).length=n:=by simp[mo]
def OW(t:Table)(r:dO)(n:Nat): (r9 t r n).length=n:=by simp[r9]
def zq{n i:Nat}{p:Nat->Bool}(hi:i<n)(h:∀ k,k<i->p k=false)(hp:p i=true): (List.range n).find? p=some i:=by
 have:=wN (p:=p) (l:=List.range n) (i:=i) (by simpa using hi) (fun k hk=>by rw[oP (by omega)];exact h k hk) (by rw[oP hi];exact hp);rwa[oP hi]at this
def oR{n:Nat}{p:Nat->Bool}(h:∀ k,k<n->p k=false): (List.range n).find? p=none :=
 wk (fun k hk=>by rw[List.length_range]at hk;rw[oP hk];exact h k hk)
def LJ{t:Table}{r:dO}(h:r.cells.length≠t.ins.length\/r.outs.length≠t.outs.length): lJ t r=(⟨[],[]⟩,0,17):=by
 unfold lJ;rw[if_pos h]
def Fc{t:Table}{r:dO}(h1:r.cells.length=t.ins.length)(h2:r.outs.length=t.outs.length){k:Nat}(hk:k<r.cells.length)(h:∀ j,j<k->(o8 t r j).2=0)(he:(o8 t r k).2≠0): lJ t r=((⟨mo t r k,[]⟩:kP),(k:Int),(o8 t r k).2):=by
 unfold lJ;rw[if_neg (by omega),zq (i:=k) hk (fun j hj=>by simp[h j hj]) (by simp[he])]
def QV{t:Table}{r:dO}(h1:r.cells.length=t.ins.length)(h2:r.outs.length=t.outs.length)(hc:∀ j,j<r.cells.length->(o8 t r j).2=0){k:Nat}(hk:k<r.outs.length)(h:∀ j,j<k->(mj t r j).2=0)(he:(mj t r k).2≠0): lJ t r=((⟨mo t r r.cells.length,r9 t r k⟩:kP),(t.ins.length:Int)+k,(mj t r k).2):=by
 unfold lJ;rw[if_neg (by omega),oR (fun j hj=>by simp[hc j hj])];dsimp only;rw[zq (i:=k) hk (fun j hj=>by simp[h j hj]) (by simp[he])]
def OX{t:Table}{r:dO}(h1:r.cells.length=t.ins.length)(h2:r.outs.length=t.outs.length)(hc:∀ j,j<r.cells.length->(o8 t r j).2=0)(h:∀ j,j<r.outs.length->(mj t r j).2=0): lJ t r=(⟨mo t r r.cells.length,r9 t r r.outs.length⟩,0,0):=by
 unfold lJ;rw[if_neg (by omega),oR (fun j hj=>by simp[hc j hj])];dsimp only;rw[oR (fun j hj=>by simp[h j hj])]
def Zb(r:kP × Int × Int): AV:= .bX [mV r.1,I r.2.1,I r.2.2]
def iW{σ : aj}{a b:AV}{cs:List Cell}{xs:List Expr}{n m:Int}(ha:View σ a (rj cs))(hb:View σ b (cw xs)): aW σ [.agg [a,b],I n,I m] [mV ⟨cs,xs⟩,I n,I m] :=
 iF (View.nU (.cons ha (.cons hb (.nil _))))
set_option maxHeartbeats 4000000 in
def X6(t:Table)(r:dO)(ht:t.ins.length<=2 ^ 30)(ho:t.outs.length<=2 ^ 30)(ht0:0<t.ins.length)(hr:(r.cells.length<=2 ^ 30/\ ∀ s ∈ r.cells,s.length<=2 ^ 30)/\r.outs.length<=2 ^ 30/\ ∀ s ∈ r.outs,s.length<=2 ^ 30): ai Tryz.prog AH [bS t,cN r] (Zb (lJ t r)):=by
 obtain⟨⟨hr1,Ah⟩,hr3,Nx⟩:=hr;obtain⟨E,hE⟩:∃ E,Zb (lJ t r)=E:=⟨_,rfl⟩;rw[hE];have ca:=fun k (h1:k<t.ins.length) (h2:k<r.cells.length)=>aaI t k (r.cells.getD k default) ht h1 (Ah _ (a_ h2));have ce:=fun k (h1:k<t.outs.length) (h2:k<r.outs.length)=>X5 t k (r.outs.getD k default) ht ho h1 (Nx _ (a_ h2));simp only[show ∀ k,WH t k (r.cells.getD k default)=o8 t r k from fun _=>rfl]at ca;simp only[show ∀ k,QU t k (r.outs.getD k default)=mj t r k from fun _=>rfl]at ce;simp only[bS,dy,bB,cW,cN,eR]at ca ce ⊢;by_cases hb:r.cells.length≠t.ins.length\/r.outs.length≠t.outs.length
 ·refine ai.aG (Gk (by simp) ?_) (by simp);unfold Bb aP;intro Q au aA aB;repeat' first|refine aq ?_|refine ak ?_ ?_<;>intro hw<;>try omega|fail
  all_goals first
   | exact aY
   |(rw[<-hE,LJ hb];exact bq (iW (.ae _) (.ae _)))
 have q1:r.cells.length=t.ins.length:=by omega
 have q2:r.outs.length=t.outs.length:=by omega
 clear hb;refine ai.aG (Gk (by simp) ?_) (by simp);unfold Bb aP;intro Q au aA aB;repeat' first|refine aq ?_|refine ak ?_ ?_<;>intro hw<;>try omega|fail
 all_goals first|exact aY|skip
 with_reducible refine bn [5,6,7,8,9,10,35,36,37,38,39,40,41,42,43,44,45,46,47,48,49,50,51,52,53,54,55,56,57,58] (fun q:Nat × aj=>[(35,I q.1)]) (fun q=>q.2) (fun q=>q.1<=r.cells.length/\(∀ k,k<q.1->(o8 t r k).2=0)/\(q.1=0/\q.2=[.cells [.str t.name,.aK false EC (t.ins.map bE),.aK false EC (t.outs.map bE),I t.bA,I t.agg,.aK false ER (t.rules.map cN)],.cells [.aK false E1 (r.cells.map cS),.aK false E1 (r.outs.map cS)],.cells [.ae,.ae]]\/0<q.1/\ ∃ c1 τ,q.2 = .cells [.str t.name,.aK false EC (t.ins.map bE),.aK false EC (t.outs.map bE),I t.bA,I t.agg,.aK false ER (t.rules.map cN)]:: .cells [.aK false E1 (r.cells.map cS),.aK false E1 (r.outs.map cS)]:: .cells [.own EC 4 q.1 0 q.1,.ae]::c1:: .vec EC ((mo t r q.1).map bH):: τ)) (fun q=>r.cells.length-q.1) (0,_) ⟨bP _,fun k hk=>by omega,.inl ⟨rfl,rfl⟩⟩ rfl ?_ ?_
 ·exact at_
 rintro⟨k,S⟩ rr ⟨h1,h2,h3⟩;dsimp only at h1 h2 h3;rcases h3 with⟨rfl,rfl⟩|⟨hk,c1,τ,rfl⟩
 ·have c:=ca 0 (by omega) (by omega);obtain⟨a,ha⟩:∃ a,o8 t r 0=a:=⟨_,rfl⟩;rw[ha]at c;have iT:=fun he=>Fc q1 q2 (k:=0) (by omega) h2 he;rw[ha]at iT;have ff:=Cd t r 0;rw[ha]at ff;simp only[bH,fo]at c;repeat' first|refine aq ?_|refine aC c ?_|refine ak ?_ ?_<;>intro hw<;>try omega|fail
  ·rw[<-hE,iT (by assumption)];exact bq (iW (.ae _) (.ae _))
  ·refine⟨(1,[.cells [.str t.name,.aK false EC (t.ins.map bE),.aK false EC (t.outs.map bE),I t.bA,I t.agg,.aK false ER (t.rules.map cN)],.cells [.aK false E1 (r.cells.map cS),.aK false E1 (r.outs.map cS)],.cells [.own EC 4 1 0 1,.ae],.cells [.bool a.1.any,.bool a.1.neg,.aK false ES (a.1.tests.map bO)],.vec EC [.agg [.bool a.1.any,.bool a.1.neg,.aK false ES (a.1.tests.map bO)]]]),?_,?_,?_,bJ,at_⟩<;>(try dsimp only)
   ·refine⟨by omega,fun j hj=>?_,.inr ⟨by omega,.cells [.bool a.1.any,.bool a.1.neg,.aK false ES (a.1.tests.map bO)],[],?_⟩⟩
    ·obtain rfl:j=0:=by omega
     rw[ha];assumption
    ·rw[ff];rfl
   ·omega
   all_goals rfl
 ·by_cases w6:k<r.cells.length
  ·have c:=ca k (by omega) (by omega);have iT:=fun he=>Fc q1 q2 (k:=k) (by omega) h2 he;have ff:=Cd t r k;obtain⟨a,ha⟩:∃ a,o8 t r k=a:=⟨_,rfl⟩;rw[ha]at c iT ff;have eG:=Ak t r k;have hb2:=fun he=>bf (q:=fun j=>(o8 t r j).2=0) h2 he;obtain⟨L,hL⟩:∃ L,mo t r k=L:=⟨_,rfl⟩;rw[hL]at eG ff;simp only[hL]at iT ⊢;simp only[bH,fo]at c;repeat' first|simp (disch:=omega) only[go_sem,au,aA,aB,eG]|refine aq ?_|refine aC c ?_|refine ak ?_ ?_<;>intro hw<;>try omega|fail
   ·rw[<-hE,iT (by assumption)];exact bq (iW (View.vec rfl (by simp[eG]) (by simp[eG]) (iL _)) (.ae _))
   ·refine⟨(k+1,.cells [.str t.name,.aK false EC (t.ins.map bE),.aK false EC (t.outs.map bE),I t.bA,I t.agg,.aK false ER (t.rules.map cN)]:: .cells [.aK false E1 (r.cells.map cS),.aK false E1 (r.outs.map cS)]:: .cells [.own EC 4 (k+1) 0 (k+1),.ae]::c1:: .vec EC (L.map bH++[.agg [.bool a.1.any,.bool a.1.neg,.aK false ES (a.1.tests.map bO)]])::(τ++[.cells [.bool a.1.any,.bool a.1.neg,.aK false ES (a.1.tests.map bO)]])),?_,?_,?_,bJ,at_⟩<;>(try dsimp only)
    ·refine⟨by omega,hb2 (by rw[ha];assumption),.inr ⟨by omega,c1,τ++[.cells [.bool a.1.any,.bool a.1.neg,.aK false ES (a.1.tests.map bO)]],?_⟩⟩;rw[ff,List.map_append];rfl
    ·omega
    all_goals rfl
  ·have hkn:k=r.cells.length:=by omega
   subst hkn;have eG:=Ak t r r.cells.length;have hok:=fun h=>OX q1 q2 h2 h;have hte:=fun k (hk:k<r.outs.length) h he=>QV q1 q2 h2 (k:=k) hk h he;obtain⟨L,hL⟩:∃ L,mo t r r.cells.length=L:=⟨_,rfl⟩;rw[hL]at eG;simp only[hL]at hok hte ⊢;repeat' first|refine aq ?_|refine ak ?_ ?_<;>intro hw<;>try omega|fail
   with_reducible refine bn [5,6,11,12,13,14,62,63,64,65,66,67,68,69,70,71,72,73,74,75,76,77,78,79,80,81,82,83,84,85,86,87,88,89] (fun q:Nat × aj=>[(62,I q.1)]) (fun q=>q.2) (fun q=>q.1<=r.outs.length/\(∀ k,k<q.1->(mj t r k).2=0)/\(q.1=0/\q.2 = .cells [.str t.name,.aK false EC (t.ins.map bE),.aK false EC (t.outs.map bE),I t.bA,I t.agg,.aK false ER (t.rules.map cN)]:: .cells [.aK false E1 (r.cells.map cS),.aK false E1 (r.outs.map cS)]:: .cells [.own EC 4 r.cells.length 0 r.cells.length,.ae]::c1:: .vec EC (L.map bH):: τ\/0<q.1/\ ∃ p ρ,q.2 = .cells [.str t.name,.aK false EC (t.ins.map bE),.aK false EC (t.outs.map bE),I t.bA,I t.agg,.aK false ER (t.rules.map cN)]:: .cells [.aK false E1 (r.cells.map cS),.aK false E1 (r.outs.map cS)]:: .cells [.own EC 4 r.cells.length 0 r.cells.length,.own EX (p+1+1+1+1+1) q.1 0 q.1]::c1:: .vec EC (L.map bH):: ρ/\ ρ[p]? = some (.vec EX ((r9 t r q.1).map aL)))) (fun q=>r.outs.length-q.1) (0,_) ⟨bP _,fun k hk=>by omega,.inl ⟨rfl,rfl⟩⟩ rfl ?_ ?_
   ·exact at_
   rintro⟨m,S⟩ rr ⟨g1,g2,g3⟩;dsimp only at g1 g2 g3;rcases g3 with⟨rfl,rfl⟩|⟨hm,p,ρ,rfl,hk⟩
   ·by_cases hml:0<r.outs.length
    ·have c:=ce 0 (by omega) (by omega);have iT:=fun he=>hte 0 hml g2 he;have ff:=Fb t r 0;obtain⟨a,ha⟩:∃ a,mj t r 0=a:=⟨_,rfl⟩;rw[ha]at c iT ff;rw[aR]at c;try simp only[cw]at c
     repeat' first|simp (disch:=omega) only[go_sem,au,aA,aB,eG]|refine aq ?_|refine aC c ?_|refine ak ?_ ?_<;>intro hw<;>try omega|fail
     ·rw[<-hE,iT (by assumption)];refine bq (iW (View.vec rfl (by simp[eG]) (by simp[eG]) (iL _)) (.ae _))
     ·refine⟨(1,.cells [.str t.name,.aK false EC (t.ins.map bE),.aK false EC (t.outs.map bE),I t.bA,I t.agg,.aK false ER (t.rules.map cN)]:: .cells [.aK false E1 (r.cells.map cS),.aK false E1 (r.outs.map cS)]:: .cells [.own EC 4 r.cells.length 0 r.cells.length,.own EX (τ.length+1+1+1+1+1+1) 1 0 1]::c1:: .vec EC (L.map bH)::(τ++[.cells [I a.1.op,I a.1.v.kind,I a.1.v.n,.str a.1.v.s,.str a.1.s,.aK false EX (a.1.l.map aL)]]++[.vec EX [.agg [I a.1.op,I a.1.v.kind,I a.1.v.n,.str a.1.v.s,.str a.1.s,.aK false EX (a.1.l.map aL)]]])),?_,?_,?_,bJ,at_⟩<;>(try dsimp only)
      ·refine⟨by omega,fun j hj=>?_,.inr ⟨by omega,τ.length+1,_,rfl,?_⟩⟩
       ·obtain rfl:j=0:=by omega
        rw[ha];assumption
       ·rw[ff,show ∀ x,[x]=[]++[x] from fun _=>rfl];simp[r9,aR,cw]
      ·omega
      all_goals first|rfl|(simp[go_sem];done)
    ·repeat' first|simp (disch:=omega) only[go_sem,au,aA,aB,eG]|refine aq ?_|refine ak ?_ ?_<;>intro hw<;>try omega|fail
     rw[<-hE,hok (fun j hj=>by omega)];have h0:r.outs.length=0:=by omega
     rw[h0];exact bq (iW (View.vec rfl (by simp[eG]) (by simp[eG]) (iL _)) (.ae _))
   ·have hlt:=(aN.1 hk).1;have nZ:=OW t r m;have hk2:=fun d:aX=>(List.getElem?_append_left (l₁:= ρ) (l₂:=[d]) hlt).trans hk;by_cases hml:m<r.outs.length
    ·have c:=ce m (by omega) (by omega);have iT:=fun he=>hte m hml g2 he;have ff:=Fb t r m;have hb2:=fun he=>bf (q:=fun j=>(mj t r j).2=0) g2 he;have Zc:=fun(d w:aX)=>fA (s:= ρ) (t:=[d]) p w hlt;obtain⟨a,ha⟩:∃ a,mj t r m=a:=⟨_,rfl⟩;rw[ha]at c iT ff;obtain⟨X,hX⟩:∃ X,r9 t r m=X:=⟨_,rfl⟩;rw[hX]at nZ ff hk iT;simp only[hX]at hk2;rw[aR]at c;try simp only[cw]at c
     repeat' first|simp (disch:=omega) only[go_sem,au,aA,aB,eG,nZ,hk,hk2,Zc]|refine aq ?_|refine aC c ?_|refine ak ?_ ?_<;>intro hw<;>try omega|fail
     ·rw[<-hE,iT (by assumption)];refine bq (iW (View.vec rfl (by simp[eG]) (by simp[eG]) (iL _)) (View.vec (hk2 _) (by simp[nZ]) (by simp[nZ]) (Ad _)))
     ·refine⟨(m+1,.cells [.str t.name,.aK false EC (t.ins.map bE),.aK false EC (t.outs.map bE),I t.bA,I t.agg,.aK false ER (t.rules.map cN)]:: .cells [.aK false E1 (r.cells.map cS),.aK false E1 (r.outs.map cS)]:: .cells [.own EC 4 r.cells.length 0 r.cells.length,.own EX (p+1+1+1+1+1) (m+1) 0 (m+1)]::c1:: .vec EC (L.map bH)::(ρ.set p (.vec EX (X.map aL++[.agg [I a.1.op,I a.1.v.kind,I a.1.v.n,.str a.1.v.s,.str a.1.s,.aK false EX (a.1.l.map aL)]]))++[.cells [I a.1.op,I a.1.v.kind,I a.1.v.n,.str a.1.v.s,.str a.1.s,.aK false EX (a.1.l.map aL)]])),?_,?_,?_,bJ,at_⟩<;>(try dsimp only)
      ·refine⟨by omega,hb2 (by rw[ha];assumption),.inr ⟨by omega,p,_,rfl,?_⟩⟩;rw[ff,List.map_append,List.getElem?_append_left (by simpa using hlt),List.getElem?_set_self (by simpa using hlt)];simp[aR,cw]
      ·omega
      all_goals first|rfl|(simp[go_sem];done)
    ·obtain rfl:m=r.outs.length:=by omega
     repeat' first|simp (disch:=omega) only[go_sem,au,aA,aB,eG,nZ,hk,hk2]|refine aq ?_|refine ak ?_ ?_<;>intro hw<;>try omega|fail
     rw[<-hE,hok g2];exact bq (iW (View.vec rfl (by simp[eG]) (by simp[eG]) (iL _)) (View.vec hk (by simp[nZ]) (by simp[nZ]) (Ad _)))
set_option maxHeartbeats 8000000 in
def aaJ(t:Table)(r:dO)(ht:t.ins.length<=2 ^ 30)(ho:t.outs.length<=2 ^ 30)(ht0:0<t.ins.length)(hr:(r.cells.length<=2 ^ 30/\ ∀ s ∈ r.cells,s.length<=2 ^ 30)/\r.outs.length<=2 ^ 30/\ ∀ s ∈ r.outs,s.length<=2 ^ 30): ai Tryz.prog CX [bS t,cN r] (Zb (lJ t r)):=by
 obtain⟨⟨hr1,Ah⟩,hr3,Nx⟩:=hr;obtain⟨E,hE⟩:∃ E,Zb (lJ t r)=E:=⟨_,rfl⟩;rw[hE];simp only[bS,dy,bB,cW,cN,eR];by_cases hb:r.cells.length≠t.ins.length\/r.outs.length≠t.outs.length
 ·refine ai.aG (I5 (by simp) ?_) (by simp);unfold Dn aP;intro Q au aA aB;repeat' first|refine aq ?_|refine ak ?_ ?_<;>intro hw<;>try omega|fail
  all_goals first
   | exact aY
   |(rw[<-hE,LJ hb];exact bq (iW (.ae _) (.ae _)))
 have q1:r.cells.length=t.ins.length:=by omega
 have q2:r.outs.length=t.outs.length:=by omega
 clear hb;refine ai.aG (I5 (by simp) ?_) (by simp);unfold Dn aP;intro Q au aA aB;repeat' first|refine aq ?_|refine ak ?_ ?_<;>intro hw<;>try omega|fail
 all_goals first|exact aY|skip
 with_reducible refine bn [5,6,8,9,10,11,35,36,37,38,39,40,41,42,43,44,45,46,47,48,49,50,51,52,53,54,55,56,57,58,59,60,61,62,63,64,65,66,67,68,69,70,71,72,73,74] (fun q:Nat × aj=>[(8,I q.1)]) (fun q=>q.2) (fun q=>q.1<=r.cells.length/\(∀ k,k<q.1->(o8 t r k).2=0)/\(q.1=0/\q.2=[.cells [.str t.name,.aK false EC (t.ins.map bE),.aK false EC (t.outs.map bE),I t.bA,I t.agg,.aK false ER (t.rules.map cN)],.cells [.aK false E1 (r.cells.map cS),.aK false E1 (r.outs.map cS)],.cells [.ae,.ae],.cells [.ae,.ae]]\/0<q.1/\ ∃ c1 τ,q.2 = .cells [.str t.name,.aK false EC (t.ins.map bE),.aK false EC (t.outs.map bE),I t.bA,I t.agg,.aK false ER (t.rules.map cN)]:: .cells [.aK false E1 (r.cells.map cS),.aK false E1 (r.outs.map cS)]:: .cells [.ae,.ae]:: .cells [.own EC 5 q.1 0 q.1,.ae]::c1:: .vec EC ((mo t r q.1).map bH):: τ)) (fun q=>r.cells.length-q.1) (0,_) ⟨bP _,fun k hk=>by omega,.inl ⟨rfl,rfl⟩⟩ rfl ?_ ?_
 ·exact at_
 rintro⟨k,S⟩ rr ⟨h1,h2,h3⟩;dsimp only at h1 h2 h3;rcases h3 with⟨rfl,rfl⟩|⟨hk,Zd,τ,rfl⟩
 ·have iT:=fun he=>Fc q1 q2 (k:=0) (by omega) h2 he;have ff:=Cd t r 0;have hA:o8 t r 0=((fU (r.cells.getD 0 default)).1,if(fU (r.cells.getD 0 default)).2.2=0 then tD t.ins (t.ins.getD 0 default).kind (fU (r.cells.getD 0 default)).1 else(fU (r.cells.getD 0 default)).2.2):=rfl;have c1:=NA (r.cells.getD 0 default) (Ah _ (a_ (by omega)));have c2:=NB t.ins (by omega) (t.ins.getD 0 default).kind _ (Ly (r.cells.getD 0 default));obtain⟨cc,gK⟩:∃ c,t.ins.getD 0 default=c:=⟨_,rfl⟩;rw[gK]at c2 hA;generalize tD t.ins cc.kind (fU (r.cells.getD 0 default)).1=ty at hA c2;generalize fU (r.cells.getD 0 default)=P at hA c1 c2;obtain⟨c,pn,e⟩:=P;dsimp only at c1 c2 hA;simp only[Wq]at c1;simp only[bH,fo,bB]at c1 c2;by_cases he:e=0
  ·rw[if_pos he]at hA;rw[hA]at iT ff;subst he;by_cases hty:ty=0
   ·subst hty;repeat' first|simp (disch:=omega) only[go_sem,au,aA,aB,gK]|refine aq ?_|refine aC c1 ?_|refine aC c2 ?_|refine ak ?_ ?_<;>intro hw<;>try omega|fail
    all_goals first
     | exact aY
     | skip
    refine⟨(1,[.cells [.str t.name,.aK false EC (t.ins.map bE),.aK false EC (t.outs.map bE),I t.bA,I t.agg,.aK false ER (t.rules.map cN)],.cells [.aK false E1 (r.cells.map cS),.aK false E1 (r.outs.map cS)],.cells [.ae,.ae],.cells [.own EC 5 1 0 1,.ae],.cells [.bool c.any,.bool c.neg,.aK false ES (c.tests.map bO)],.vec EC [.agg [.bool c.any,.bool c.neg,.aK false ES (c.tests.map bO)]]]),?_,?_,?_,bJ,at_⟩<;>(try dsimp only)
    ·refine⟨by omega,fun j hj=>?_,.inr ⟨by omega,.cells [.bool c.any,.bool c.neg,.aK false ES (c.tests.map bO)],[],?_⟩⟩
     ·obtain rfl:j=0:=by omega
      rw[hA]
     ·rw[ff];rfl
    ·omega
    all_goals rfl
   ·repeat' first|simp (disch:=omega) only[go_sem,au,aA,aB,gK]|refine aq ?_|refine aC c1 ?_|refine aC c2 ?_|refine ak ?_ ?_<;>intro hw<;>try omega|fail
    all_goals first
     | exact aY
     | (rw [<-hE, iT hty]
        exact bq (iW (.ae _) (.ae _)))
  ·rw[if_neg he]at hA;rw[hA]at iT ff;repeat' first|simp (disch:=omega) only[go_sem,au,aA,aB,gK]|refine aq ?_|refine aC c1 ?_|refine aC c2 ?_|refine ak ?_ ?_<;>intro hw<;>try omega|fail
   all_goals first
    | exact aY
    | (rw [<-hE, iT he]
       exact bq (iW (.ae _) (.ae _)))
 ·by_cases w6:k<r.cells.length
  ·have iT:=fun he=>Fc q1 q2 (k:=k) (by omega) h2 he;have ff:=Cd t r k;have eG:=Ak t r k;have hb2:=fun he=>bf (q:=fun j=>(o8 t r j).2=0) h2 he;obtain⟨L,hL⟩:∃ L,mo t r k=L:=⟨_,rfl⟩;rw[hL]at eG ff;simp only[hL]at iT ⊢;have hA:o8 t r k=((fU (r.cells.getD k default)).1,if(fU (r.cells.getD k default)).2.2=0 then tD t.ins (t.ins.getD k default).kind (fU (r.cells.getD k default)).1 else(fU (r.cells.getD k default)).2.2):=rfl;have c1:=NA (r.cells.getD k default) (Ah _ (a_ (by omega)));have c2:=NB t.ins (by omega) (t.ins.getD k default).kind _ (Ly (r.cells.getD k default));obtain⟨cc,gK⟩:∃ c,t.ins.getD k default=c:=⟨_,rfl⟩;rw[gK]at c2 hA;generalize tD t.ins cc.kind (fU (r.cells.getD k default)).1=ty at hA c2;generalize fU (r.cells.getD k default)=P at hA c1 c2;obtain⟨c,pn,e⟩:=P;dsimp only at c1 c2 hA;simp only[Wq]at c1;simp only[bH,fo,bB]at c1 c2;by_cases he:e=0
   ·rw[if_pos he]at hA;rw[hA]at iT ff;subst he;by_cases hty:ty=0
    ·subst hty;repeat' first|simp (disch:=omega) only[go_sem,au,aA,aB,gK,eG]|refine aq ?_|refine aC c1 ?_|refine aC c2 ?_|refine ak ?_ ?_<;>intro hw<;>try omega|fail
     all_goals first
      | exact aY
      | skip
     refine⟨(k+1,.cells [.str t.name,.aK false EC (t.ins.map bE),.aK false EC (t.outs.map bE),I t.bA,I t.agg,.aK false ER (t.rules.map cN)]:: .cells [.aK false E1 (r.cells.map cS),.aK false E1 (r.outs.map cS)]:: .cells [.ae,.ae]:: .cells [.own EC 5 (k+1) 0 (k+1),.ae]::Zd:: .vec EC (L.map bH++[.agg [.bool c.any,.bool c.neg,.aK false ES (c.tests.map bO)]])::(τ++[.cells [.bool c.any,.bool c.neg,.aK false ES (c.tests.map bO)]])),?_,?_,?_,bJ,at_⟩<;>(try dsimp only)
     ·refine⟨by omega,hb2 (by rw[hA]),.inr ⟨by omega,Zd,τ++[.cells [.bool c.any,.bool c.neg,.aK false ES (c.tests.map bO)]],?_⟩⟩;rw[ff,List.map_append];rfl
     ·omega
     all_goals rfl
    ·repeat' first|simp (disch:=omega) only[go_sem,au,aA,aB,gK,eG]|refine aq ?_|refine aC c1 ?_|refine aC c2 ?_|refine ak ?_ ?_<;>intro hw<;>try omega|fail
     all_goals first
      | exact aY
      | (rw [<-hE, iT hty]
         exact bq (iW (View.vec rfl (by simp[eG]) (by simp[eG]) (iL _)) (.ae _)))
   ·rw[if_neg he]at hA;rw[hA]at iT ff;repeat' first|simp (disch:=omega) only[go_sem,au,aA,aB,gK,eG]|refine aq ?_|refine aC c1 ?_|refine aC c2 ?_|refine ak ?_ ?_<;>intro hw<;>try omega|fail
    all_goals first
     | exact aY
     | (rw [<-hE, iT he]
        exact bq (iW (View.vec rfl (by simp[eG]) (by simp[eG]) (iL _)) (.ae _)))
  ·have hkn:k=r.cells.length:=by omega
   subst hkn;have eG:=Ak t r r.cells.length;have hok:=fun h=>OX q1 q2 h2 h;have hte:=fun k (hk:k<r.outs.length) h he=>QV q1 q2 h2 (k:=k) hk h he;obtain⟨L,hL⟩:∃ L,mo t r r.cells.length=L:=⟨_,rfl⟩;rw[hL]at eG;simp only[hL]at hok hte ⊢;repeat' first|refine aq ?_|refine ak ?_ ?_<;>intro hw<;>try omega|fail
   with_reducible refine bn [5,6,12,13,14,15,16,75,76,77,78,79,80,81,82,83,84,85,86,87,88,89,90,91,92,93,94,95,96,97,98,99,100,101,102,103,104,105,106,107,108,109,110,111,112,113,114,115,116,117,118,119,120,121,122,123,124,125,126,127,128] (fun q:Nat × aj=>[(12,I q.1)]) (fun q=>q.2) (fun q=>q.1<=r.outs.length/\(∀ k,k<q.1->(mj t r k).2=0)/\(q.1=0/\q.2 = .cells [.str t.name,.aK false EC (t.ins.map bE),.aK false EC (t.outs.map bE),I t.bA,I t.agg,.aK false ER (t.rules.map cN)]:: .cells [.aK false E1 (r.cells.map cS),.aK false E1 (r.outs.map cS)]:: .cells [.ae,.ae]:: .cells [.own EC 5 r.cells.length 0 r.cells.length,.ae]::Zd:: .vec EC (L.map bH):: τ\/0<q.1/\ ∃ p ρ,q.2 = .cells [.str t.name,.aK false EC (t.ins.map bE),.aK false EC (t.outs.map bE),I t.bA,I t.agg,.aK false ER (t.rules.map cN)]:: .cells [.aK false E1 (r.cells.map cS),.aK false E1 (r.outs.map cS)]:: .cells [.ae,.ae]:: .cells [.own EC 5 r.cells.length 0 r.cells.length,.own EX (p+1+1+1+1+1+1) q.1 0 q.1]::Zd:: .vec EC (L.map bH):: ρ/\ ρ[p]? = some (.vec EX ((r9 t r q.1).map aL)))) (fun q=>r.outs.length-q.1) (0,_) ⟨bP _,fun k hk=>by omega,.inl ⟨rfl,rfl⟩⟩ rfl ?_ ?_
   ·exact at_
   rintro⟨m,S⟩ rr ⟨g1,g2,g3⟩;dsimp only at g1 g2 g3;rcases g3 with⟨rfl,rfl⟩|⟨hm,p,ρ,rfl,hk⟩
   ·by_cases hml:0<r.outs.length
    ·have iT:=fun he=>hte 0 hml g2 he;have ff:=Fb t r 0;have hA:mj t r 0=((dF (r.outs.getD 0 default)).1,if(dF (r.outs.getD 0 default)).2.2≠0 then(dF (r.outs.getD 0 default)).2.2 else if(eD t.ins (dF (r.outs.getD 0 default)).1).2=0/\jc (eD t.ins (dF (r.outs.getD 0 default)).1).1 (t.outs.getD 0 default).kind=false then 14 else(eD t.ins (dF (r.outs.getD 0 default)).1).2):=rfl;have c1:=Ns (r.outs.getD 0 default) (Nx _ (a_ (by omega)));have hp:=Fa (r.outs.getD 0 default);have c2:=zF t.ins (by omega) (dF (r.outs.getD 0 default)).1 hp.1 (by have:=hp.2;omega);have c3:=um (eD t.ins (dF (r.outs.getD 0 default)).1).1 (t.outs.getD 0 default).kind;clear hp;obtain⟨cc,gK⟩:∃ c,t.outs.getD 0 default=c:=⟨_,rfl⟩;rw[gK]at c3 hA;generalize jc (eD t.ins (dF (r.outs.getD 0 default)).1).1 cc.kind=fi at hA c3;generalize eD t.ins (dF (r.outs.getD 0 default)).1=ki at hA c2 c3;generalize dF (r.outs.getD 0 default)=P at hA c1 c2;obtain⟨x,pn,e⟩:=P;obtain⟨k1,k2⟩:=ki;dsimp only at c1 c2 c3 hA;simp only[Ag]at c1;rw[aR]at c1 c2;try simp only[cw]at c1 c2
     simp only[bB]at c2;by_cases he:e=0
     ·subst he;rw[if_neg (by simp)]at hA;by_cases OY:k2=0
      ·subst OY;cases fi with
       | false =>
         rw[if_pos ⟨rfl,rfl⟩]at hA;rw[hA]at iT ff;repeat' first|simp (disch:=omega) only[go_sem,au,aA,aB,gK,eG]|refine aq ?_|refine aC c1 ?_|refine aC c2 ?_|refine aC c3 ?_|refine ak ?_ ?_<;>intro hw<;>try omega|fail
         all_goals first
          | exact aY
          | (rw [<-hE, iT (show (14 : Int) ≠ 0 by decide)]
             exact bq (iW (View.vec rfl (by simp[eG]) (by simp[eG]) (iL _)) (.ae _)))
       | true =>
         rw[if_neg (by simp)]at hA;rw[hA]at iT ff;repeat' first|simp (disch:=omega) only[go_sem,au,aA,aB,gK,eG]|refine aq ?_|refine aC c1 ?_|refine aC c2 ?_|refine aC c3 ?_|refine ak ?_ ?_<;>intro hw<;>try omega|fail
         all_goals first
          | exact aY
          | skip
         refine⟨(1,.cells [.str t.name,.aK false EC (t.ins.map bE),.aK false EC (t.outs.map bE),I t.bA,I t.agg,.aK false ER (t.rules.map cN)]:: .cells [.aK false E1 (r.cells.map cS),.aK false E1 (r.outs.map cS)]:: .cells [.ae,.ae]:: .cells [.own EC 5 r.cells.length 0 r.cells.length,.own EX (τ.length+1+1+1+1+1+1+1) 1 0 1]::Zd:: .vec EC (L.map bH)::(τ++[.cells [I x.op,I x.v.kind,I x.v.n,.str x.v.s,.str x.s,.aK false EX (x.l.map aL)]]++[.vec EX [.agg [I x.op,I x.v.kind,I x.v.n,.str x.v.s,.str x.s,.aK false EX (x.l.map aL)]]])),?_,?_,?_,bJ,at_⟩<;>(try dsimp only)
         ·refine⟨by omega,fun j hj=>?_,.inr ⟨by omega,τ.length+1,_,rfl,?_⟩⟩
          ·obtain rfl:j=0:=by omega
           rw[hA]
          ·rw[ff,show ∀ x,[x]=[]++[x] from fun _=>rfl];simp[r9,aR,cw]
         ·omega
         all_goals first|rfl|(simp[go_sem];done)
      ·rw[if_neg (fun h=>OY h.1)]at hA;rw[hA]at iT ff;repeat' first|simp (disch:=omega) only[go_sem,au,aA,aB,gK,eG]|refine aq ?_|refine aC c1 ?_|refine aC c2 ?_|refine aC c3 ?_|refine ak ?_ ?_<;>intro hw<;>try omega|fail
       all_goals first
        | exact aY
        | (rw [<-hE, iT OY]
           exact bq (iW (View.vec rfl (by simp[eG]) (by simp[eG]) (iL _)) (.ae _)))
     ·rw[if_pos he]at hA;rw[hA]at iT ff;repeat' first|simp (disch:=omega) only[go_sem,au,aA,aB,gK,eG]|refine aq ?_|refine aC c1 ?_|refine aC c2 ?_|refine aC c3 ?_|refine ak ?_ ?_<;>intro hw<;>try omega|fail
      all_goals first
       | exact aY
       | (rw [<-hE, iT he]
          exact bq (iW (View.vec rfl (by simp[eG]) (by simp[eG]) (iL _)) (.ae _)))
    ·repeat' first|simp (disch:=omega) only[go_sem,au,aA,aB,eG]|refine aq ?_|refine ak ?_ ?_<;>intro hw<;>try omega|fail
     rw[<-hE,hok (fun j hj=>by omega)];have h0:r.outs.length=0:=by omega
     rw[h0];exact bq (iW (View.vec rfl (by simp[eG]) (by simp[eG]) (iL _)) (.ae _))
   ·have hlt:=(aN.1 hk).1;have nZ:=OW t r m;have hk2:=fun d:aX=>(List.getElem?_append_left (l₁:= ρ) (l₂:=[d]) hlt).trans hk;by_cases hml:m<r.outs.length
    ·have iT:=fun he=>hte m hml g2 he;have ff:=Fb t r m;have hb2:=fun he=>bf (q:=fun j=>(mj t r j).2=0) g2 he;have Zc:=fun(d w:aX)=>fA (s:= ρ) (t:=[d]) p w hlt;obtain⟨X,hX⟩:∃ X,r9 t r m=X:=⟨_,rfl⟩;rw[hX]at nZ ff hk iT;simp only[hX]at hk2;have hA:mj t r m=((dF (r.outs.getD m default)).1,if(dF (r.outs.getD m default)).2.2≠0 then(dF (r.outs.getD m default)).2.2 else if(eD t.ins (dF (r.outs.getD m default)).1).2=0/\jc (eD t.ins (dF (r.outs.getD m default)).1).1 (t.outs.getD m default).kind=false then 14 else(eD t.ins (dF (r.outs.getD m default)).1).2):=rfl;have c1:=Ns (r.outs.getD m default) (Nx _ (a_ (by omega)));have hp:=Fa (r.outs.getD m default);have c2:=zF t.ins (by omega) (dF (r.outs.getD m default)).1 hp.1 (by have:=hp.2;omega);have c3:=um (eD t.ins (dF (r.outs.getD m default)).1).1 (t.outs.getD m default).kind;clear hp;obtain⟨cc,gK⟩:∃ c,t.outs.getD m default=c:=⟨_,rfl⟩;rw[gK]at c3 hA;generalize jc (eD t.ins (dF (r.outs.getD m default)).1).1 cc.kind=fi at hA c3;generalize eD t.ins (dF (r.outs.getD m default)).1=ki at hA c2 c3;generalize dF (r.outs.getD m default)=P at hA c1 c2;obtain⟨x,pn,e⟩:=P;obtain⟨k1,k2⟩:=ki;dsimp only at c1 c2 c3 hA;simp only[Ag]at c1;rw[aR]at c1 c2;try simp only[cw]at c1 c2
     simp only[bB]at c2;by_cases he:e=0
     ·subst he;rw[if_neg (by simp)]at hA;by_cases OY:k2=0
      ·subst OY;cases fi with
       | false =>
         rw[if_pos ⟨rfl,rfl⟩]at hA;rw[hA]at iT ff;repeat' first|simp (disch:=omega) only[go_sem,au,aA,aB,gK,eG,nZ,hk,hk2,Zc]|refine aq ?_|refine aC c1 ?_|refine aC c2 ?_|refine aC c3 ?_|refine ak ?_ ?_<;>intro hw<;>try omega|fail
         all_goals first
          | exact aY
          | (rw [<-hE, iT (show (14 : Int) ≠ 0 by decide)]
             exact bq (iW (View.vec rfl (by simp[eG]) (by simp[eG]) (iL _)) (View.vec (hk2 _) (by simp[nZ]) (by simp[nZ]) (Ad _))))
       | true =>
         rw[if_neg (by simp)]at hA;rw[hA]at iT ff;repeat' first|simp (disch:=omega) only[go_sem,au,aA,aB,gK,eG,nZ,hk,hk2,Zc]|refine aq ?_|refine aC c1 ?_|refine aC c2 ?_|refine aC c3 ?_|refine ak ?_ ?_<;>intro hw<;>try omega|fail
         all_goals first
          | exact aY
          | skip
         refine⟨(m+1,.cells [.str t.name,.aK false EC (t.ins.map bE),.aK false EC (t.outs.map bE),I t.bA,I t.agg,.aK false ER (t.rules.map cN)]:: .cells [.aK false E1 (r.cells.map cS),.aK false E1 (r.outs.map cS)]:: .cells [.ae,.ae]:: .cells [.own EC 5 r.cells.length 0 r.cells.length,.own EX (p+1+1+1+1+1+1) (m+1) 0 (m+1)]::Zd:: .vec EC (L.map bH)::(ρ.set p (.vec EX (X.map aL++[.agg [I x.op,I x.v.kind,I x.v.n,.str x.v.s,.str x.s,.aK false EX (x.l.map aL)]]))++[.cells [I x.op,I x.v.kind,I x.v.n,.str x.v.s,.str x.s,.aK false EX (x.l.map aL)]])),?_,?_,?_,bJ,at_⟩<;>(try dsimp only)
         ·refine⟨by omega,hb2 (by rw[hA]),.inr ⟨by omega,p,_,rfl,?_⟩⟩;rw[ff,List.map_append,List.getElem?_append_left (by simpa using hlt),List.getElem?_set_self (by simpa using hlt)];simp[aR,cw]
         ·omega
         all_goals first|rfl|(simp[go_sem];done)
      ·rw[if_neg (fun h=>OY h.1)]at hA;rw[hA]at iT ff;repeat' first|simp (disch:=omega) only[go_sem,au,aA,aB,gK,eG,nZ,hk,hk2,Zc]|refine aq ?_|refine aC c1 ?_|refine aC c2 ?_|refine aC c3 ?_|refine ak ?_ ?_<;>intro hw<;>try omega|fail
       all_goals first
        | exact aY
        | (rw [<-hE, iT OY]
           exact bq (iW (View.vec rfl (by simp[eG]) (by simp[eG]) (iL _)) (View.vec (hk2 _) (by simp[nZ]) (by simp[nZ]) (Ad _))))
     ·rw[if_pos he]at hA;rw[hA]at iT ff;repeat' first|simp (disch:=omega) only[go_sem,au,aA,aB,gK,eG,nZ,hk,hk2,Zc]|refine aq ?_|refine aC c1 ?_|refine aC c2 ?_|refine aC c3 ?_|refine ak ?_ ?_<;>intro hw<;>try omega|fail
      all_goals first
       | exact aY
       | (rw [<-hE, iT he]
          exact bq (iW (View.vec rfl (by simp[eG]) (by simp[eG]) (iL _)) (View.vec (hk2 _) (by simp[nZ]) (by simp[nZ]) (Ad _))))
    ·obtain rfl:m=r.outs.length:=by omega
     repeat' first|simp (disch:=omega) only[go_sem,au,aA,aB,eG,nZ,hk,hk2]|refine aq ?_|refine ak ?_ ?_<;>intro hw<;>try omega|fail
     rw[<-hE,hok g2];exact bq (iW (View.vec rfl (by simp[eG]) (by simp[eG]) (iL _)) (View.vec hk (by simp[nZ]) (by simp[nZ]) (Ad _)))
end Go.Proofs.YtmbgnaoilncbnaaGreatDoor
