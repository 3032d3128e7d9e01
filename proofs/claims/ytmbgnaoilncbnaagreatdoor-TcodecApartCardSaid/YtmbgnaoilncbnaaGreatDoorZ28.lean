/- Part of a proof: see Root. -/
import Derived.Test.YtmbgnaoilncbnaaGreatDoorZ27
set_option linter.unnecessarySimpa false
set_option linter.unusedSimpArgs false
set_option linter.unusedVariables false
namespace Go.Proofs.YtmbgnaoilncbnaaGreatDoor
open Go.AM
set_option maxRecDepth 4000
theorem XZ{T:List Tok}(hT:Ci T)(hl:T.length≤2 ^ 20)(p:Nat)(b:Bool): AH (cP T p b).t:=by
 have hx:∀ p b,eH (eD T p b).x∧da (eD T p b).x≤2 ^ 30:=fun p b=>⟨(Ep hT p b).1,by have:=(Ep hT p b).2;omega⟩
 have h0:eH x0∧da x0≤2 ^ 30:=⟨rT,by simp[x0,da,kW]⟩
 have h1:∀ k p b,AH (nO k (eD T p b)).t:=fun k p b=>⟨hx p b,h0⟩
 have h2:∀ lo,AH (FH T p lo).t:=fun lo=>⟨hx _ _,hx _ _⟩
 unfold cP
 split
 ·exact h1 _ _ _
 split
 ·exact h1 _ _ _
 split
 ·exact h1 _ _ _
 split
 ·exact h1 _ _ _
 split
 ·exact h2 _
 split
 ·exact h2 _
 ·exact h1 _ _ _
theorem X0{T:List Tok}(hT:Ci T)(hl:T.length≤2 ^ 20)(f:Nat): ∀(acc:List Test) (p:Nat) (b:Bool),(∀ t ∈ acc,AH t)→(∀ t ∈ (j8 T f acc p b).ts,AH t)∧(j8 T f acc p b).ts.length≤acc.length+f:=by
 induction f with
 | zero=>intro acc p b h;exact⟨h,Nat.le_refl _⟩
 | succ f ih =>
   intro acc p b h
   have h2:∀ t ∈ acc++[(cP T p b).t],AH t:=fun t ht=>by
    rcases List.mem_append.1 ht with ht|ht
    ·exact h t ht
    ·simp only[List.mem_cons,List.not_mem_nil,or_false]at ht;subst ht;exact XZ hT hl p b
   rw[kE]
   split
   ·have:=ih _ ((cP T p b).p+1) (cP T p b).bad h2
    rw[List.length_append,List.length_cons,List.length_nil]at this
    exact⟨this.1,by omega⟩
   ·exact⟨h2,by rw[List.length_append,List.length_cons,List.length_nil];omega⟩
theorem My(s:aH): wm (cZ s).1:=by
 have h:wm ⟨false,jh (bf s).1,(dQ (bf s).1).ts⟩:=by
  have hf:=(mb s).1
  have:=X0 (Dh s) (by omega) ((bf s).1.length+1) [] (BD (bf s).1) false (fun t ht=>by cases ht)
  unfold dQ wm
  rw[N8]
  exact⟨by have:=this.2;simp only[List.length_nil]at this;dsimp only;omega,this.1⟩
 have h0:wm c0:=⟨Nat.zero_le _,fun t ht=>by cases ht⟩
 have h1:wm Cj:=⟨Nat.zero_le _,fun t ht=>by cases ht⟩
 unfold cZ
 repeat' split
 all_goals first|exact h0|exact h1|exact h
theorem xn(s:aH): eH (cz s).1∧da (cz s).1≤2 ^ 30:=by
 have h:eH (cR (bf s).1 0 0).1∧da (cR (bf s).1 0 0).1≤2 ^ 30:=by
  have hf:=(mb s).1
  have:=Ei (bf s).1 0 0
  exact⟨Sb (Dh s) _ _,by omega⟩
 have h0:eH x0∧da x0≤2 ^ 30:=⟨rT,by simp[x0,da,kW]⟩
 unfold cz
 repeat' split
 all_goals first|exact h0|exact h
def KC(t:Table)(k:Nat)(s:aH): Cell × Int:=((cZ s).1,if(cZ s).2.2=0 then oP t.ins (t.ins.getD k default).kind (cZ s).1 else(cZ s).2.2)
def BI(t:Table)(k:Nat)(s:aH): Expr × Int:=((cz s).1,if(cz s).2.2≠0 then(cz s).2.2 else if(c8 t.ins (cz s).1).2=0∧fX (c8 t.ins (cz s).1).1 (t.outs.getD k default).kind=false then 14 else(c8 t.ins (cz s).1).2)
theorem Wn(t:Table)(k:Nat)(s:aH)(ht:t.ins.length≤2 ^ 30)(hk:k<t.ins.length)(hs:s.length≤2 ^ 30): aq Tryz.prog zL [bI t,I k,.str s] (.bJ [br (KC t k s).1,I (KC t k s).2]):=by
 have c1:=Wa s hs
 have c2:=Wf t.ins (by omega) (t.ins.getD k default).kind (cZ s).1 (HK s)
 have hS:KC t k s=((cZ s).1,if(cZ s).2.2=0 then oP t.ins (t.ins.getD k default).kind (cZ s).1 else(cZ s).2.2):=rfl
 rw[hS]
 clear hS
 dsimp only
 obtain⟨cc,eG⟩:∃ c,t.ins.getD k default=c:=⟨_,rfl⟩
 rw[eG]at c2 ⊢
 generalize oP t.ins cc.kind (cZ s).1=ty at *
 generalize cZ s=P at *
 obtain⟨c,n,e⟩:=P
 dsimp only at c1 c2 ⊢
 simp only[Sc]at c1
 obtain⟨C,hC⟩:∃ C,br c=C:=⟨_,rfl⟩
 have hC2:C = .agg [.bool c.any,.bool c.neg,.aG false ES (c.tests.map bx)]:=by rw[← hC];rfl
 simp only[br,dG,bI,dc,bq,cQ]at c1 c2 ⊢
 refine aq.of_nil (P7 (by simp) ?_) (by simp)
 unfold GP aM
 intro Q aC aD aE
 repeat' first|simp (disch:=omega) only[go_sem,aC,aD,aE,aj,au,ak,Nat.reduceAdd,Nat.reduceBEq,↓reduceIte,eG]|refine aB ?_|refine aF c1 ?_|refine aF c2 ?_|refine aA (fun hw=>?_) (fun hw=>?_)<;>try omega|fail
 all_goals (refine aP ?_ (by simp);simp_all)
theorem TX(t:Table)(k:Nat)(s:aH)(ht:t.ins.length≤2 ^ 30)(ho:t.outs.length≤2 ^ 30)(hk:k<t.outs.length)(hs:s.length≤2 ^ 30): aq Tryz.prog xI [bI t,I k,.str s] (.bJ [aJ (BI t k s).1,I (BI t k s).2]):=by
 have c1:=RQ s hs
 have hp:=xn s
 have c2:=AD t.ins (by omega) (cz s).1 hp.1 (by have:=hp.2;omega)
 have c3:=oA (c8 t.ins (cz s).1).1 (t.outs.getD k default).kind
 have hS:BI t k s=((cz s).1,if(cz s).2.2≠0 then(cz s).2.2 else if(c8 t.ins (cz s).1).2=0∧fX (c8 t.ins (cz s).1).1 (t.outs.getD k default).kind=false then 14 else(c8 t.ins (cz s).1).2):=rfl
 rw[hS]
 clear hS hp
 dsimp only
 obtain⟨cc,eG⟩:∃ c,t.outs.getD k default=c:=⟨_,rfl⟩
 rw[eG]at c3 ⊢
 generalize fX (c8 t.ins (cz s).1).1 cc.kind=fi at *
 generalize c8 t.ins (cz s).1=ki at *
 generalize cz s=P at *
 obtain⟨x,n,e⟩:=P
 dsimp only at c1 c2 ⊢
 simp only[xk]at c1
 rw[aN]at c1 c2 ⊢
 simp only[bP,bI,dc,bq,cQ]at c1 c2 ⊢
 refine aq.of_nil (NG (by simp) ?_) (by simp)
 unfold Fh aM
 intro Q aC aD aE
 repeat' first|simp (disch:=omega) only[go_sem,aC,aD,aE,aj,au,ak,Nat.reduceAdd,Nat.reduceBEq,↓reduceIte,eG]|refine aB ?_|refine aF c1 ?_|refine aF c2 ?_|refine aF c3 ?_|refine aA (fun hw=>?_) (fun hw=>?_)<;>try omega|fail
 all_goals (refine aP ?_ (by simp);simp_all)
def jk(t:Table)(r:cK)(k:Nat): Cell × Int:=KC t k (r.cells.getD k default)
def gB(t:Table)(r:cK)(k:Nat): Expr × Int:=BI t k (r.outs.getD k default)
def iw(t:Table)(r:cK)(n:Nat): List Cell:=(List.range n).map fun k=>(jk t r k).1
def lI(t:Table)(r:cK)(n:Nat): List Expr:=(List.range n).map fun k=>(gB t r k).1
def fY(t:Table)(r:cK): gY × Int × Int :=
 if r.cells.length≠t.ins.length∨r.outs.length≠t.outs.length then(⟨[],[]⟩,0,17)
 else match(List.range r.cells.length).find? (fun k=>(jk t r k).2 != 0)with
 | some k=>(⟨iw t r k,[]⟩,k,(jk t r k).2)
 | none => match (List.range r.outs.length).find? (fun k => (gB t r k).2 != 0) with
   | some k=>(⟨iw t r r.cells.length,lI t r k⟩,t.ins.length+k,(gB t r k).2)
   | none=>(⟨iw t r r.cells.length,lI t r r.outs.length⟩,0,0)
theorem yY(t:Table)(r:cK)(n:Nat): iw t r (n+1)=iw t r n++[(jk t r n).1]:=by simp[iw,List.range_succ]
theorem BJ(t:Table)(r:cK)(n:Nat): lI t r (n+1)=lI t r n++[(gB t r n).1]:=by simp[lI,List.range_succ]
theorem tu(t:Table)(r:cK)(n:Nat): (iw t r n).length=n:=by simp[iw]
theorem Ex(t:Table)(r:cK)(n:Nat): (lI t r n).length=n:=by simp[lI]
theorem wo{n i:Nat}{p:Nat→Bool}(hi:i<n)(h:∀ k,k<i→p k=false)(hp:p i=true): (List.range n).find? p=some i:=by
 have:=vY (p:=p) (l:=List.range n) (i:=i) (by simpa using hi) (fun k hk=>by rw[mc (by omega)];exact h k hk) (by rw[mc hi];exact hp)
 rwa[mc hi]at this
theorem kF{n:Nat}{p:Nat→Bool}(h:∀ k,k<n→p k=false): (List.range n).find? p=none :=
 sL (fun k hk=>by rw[List.length_range]at hk;rw[mc hk];exact h k hk)
theorem HX{t:Table}{r:cK}(h:r.cells.length≠t.ins.length∨r.outs.length≠t.outs.length): fY t r=(⟨[],[]⟩,0,17):=by
 unfold fY;rw[if_pos h]
theorem BK{t:Table}{r:cK}(h1:r.cells.length=t.ins.length)(h2:r.outs.length=t.outs.length){k:Nat}(hk:k<r.cells.length)(h:∀ j,j<k→(jk t r j).2=0)(he:(jk t r k).2≠0): fY t r=((⟨iw t r k,[]⟩:gY),(k:Int),(jk t r k).2):=by
 unfold fY
 rw[if_neg (by omega),wo (i:=k) hk (fun j hj=>by simp[h j hj]) (by simp[he])]
theorem Mz{t:Table}{r:cK}(h1:r.cells.length=t.ins.length)(h2:r.outs.length=t.outs.length)(hc:∀ j,j<r.cells.length→(jk t r j).2=0){k:Nat}(hk:k<r.outs.length)(h:∀ j,j<k→(gB t r j).2=0)(he:(gB t r k).2≠0): fY t r=((⟨iw t r r.cells.length,lI t r k⟩:gY),(t.ins.length:Int)+k,(gB t r k).2):=by
 unfold fY
 rw[if_neg (by omega),kF (fun j hj=>by simp[hc j hj])]
 dsimp only
 rw[wo (i:=k) hk (fun j hj=>by simp[h j hj]) (by simp[he])]
theorem Ey{t:Table}{r:cK}(h1:r.cells.length=t.ins.length)(h2:r.outs.length=t.outs.length)(hc:∀ j,j<r.cells.length→(jk t r j).2=0)(h:∀ j,j<r.outs.length→(gB t r j).2=0): fY t r=(⟨iw t r r.cells.length,lI t r r.outs.length⟩,0,0):=by
 unfold fY
 rw[if_neg (by omega),kF (fun j hj=>by simp[hc j hj])]
 dsimp only
 rw[kF (fun j hj=>by simp[h j hj])]
def UW(r:gY × Int × Int): AV:= .bJ [ku r.1,I r.2.1,I r.2.2]
theorem fU{σ : ai}{a b:AV}{cs:List Cell}{xs:List Expr}{n m:Int}(ha:View σ a (n8 cs))(hb:View σ b (bP xs)): aQ σ [.agg [a,b],I n,I m] [ku ⟨cs,xs⟩,I n,I m] :=
 fF (View.mq (.cons ha (.cons hb (.nil _))))
set_option maxHeartbeats 4000000 in
theorem TY(t:Table)(r:cK)(ht:t.ins.length≤2 ^ 30)(ho:t.outs.length≤2 ^ 30)(ht0:0<t.ins.length)(hr:(r.cells.length≤2 ^ 30∧ ∀ s ∈ r.cells,s.length≤2 ^ 30)∧r.outs.length≤2 ^ 30∧ ∀ s ∈ r.outs,s.length≤2 ^ 30): aq Tryz.prog xF [bI t,cj r] (UW (fY t r)):=by
 obtain⟨⟨hr1,qc⟩,hr3,JB⟩:=hr
 obtain⟨E,hE⟩:∃ E,UW (fY t r)=E:=⟨_,rfl⟩
 rw[hE]
 have ca:=fun k (h1:k<t.ins.length) (h2:k<r.cells.length)=>Wn t k (r.cells.getD k default) ht h1 (qc _ (aY h2))
 have ce:=fun k (h1:k<t.outs.length) (h2:k<r.outs.length)=>TX t k (r.outs.getD k default) ht ho h1 (JB _ (aY h2))
 simp only[show ∀ k,KC t k (r.cells.getD k default)=jk t r k from fun _=>rfl]at ca
 simp only[show ∀ k,BI t k (r.outs.getD k default)=gB t r k from fun _=>rfl]at ce
 simp only[bI,dc,bq,cQ,cj,dS]at ca ce ⊢
 by_cases hb:r.cells.length≠t.ins.length∨r.outs.length≠t.outs.length
 ·refine aq.of_nil (CP (by simp) ?_) (by simp)
  unfold x4 aM
  intro Q aC aD aE
  repeat' first|refine aB ?_|refine aA (fun hw=>?_) (fun hw=>?_)<;>try omega|fail
  all_goals first
   | exact aZ
   |(rw[← hE,HX hb];exact bw (fU (.ae _) (.ae _)))
 have q1:r.cells.length=t.ins.length:=by omega
 have q2:r.outs.length=t.outs.length:=by omega
 clear hb
 refine aq.of_nil (CP (by simp) ?_) (by simp)
 unfold x4 aM
 intro Q aC aD aE
 repeat' first|refine aB ?_|refine aA (fun hw=>?_) (fun hw=>?_)<;>try omega|fail
 all_goals first|exact aZ|skip
 with_reducible refine a_ [5,6,7,8,9,10,35,36,37,38,39,40,41,42,43,44,45,46,47,48,49,50,51,52,53,54,55,56,57,58] (fun q:Nat × ai=>[(35,I q.1)]) (fun q=>q.2) (fun q=>q.1≤r.cells.length∧(∀ k,k<q.1→(jk t r k).2=0)∧(q.1=0∧q.2=[.cells [.str t.name,.aG false EC (t.ins.map bp),.aG false EC (t.outs.map bp),I t.bl,I t.agg,.aG false ER (t.rules.map cj)],.cells [.aG false E1 (r.cells.map cy),.aG false E1 (r.outs.map cy)],.cells [.ae,.ae]]∨0<q.1∧ ∃ c1 τ,q.2 = .cells [.str t.name,.aG false EC (t.ins.map bp),.aG false EC (t.outs.map bp),I t.bl,I t.agg,.aG false ER (t.rules.map cj)]:: .cells [.aG false E1 (r.cells.map cy),.aG false E1 (r.outs.map cy)]:: .cells [.own EC 4 q.1 0 q.1,.ae]::c1:: .vec EC ((iw t r q.1).map br):: τ)) (fun q=>r.cells.length-q.1) (0,_) ⟨Nat.zero_le _,fun k hk=>by omega,.inl ⟨rfl,rfl⟩⟩ rfl ?_ ?_
 ·exact at_
 rintro⟨k,S⟩ rr ⟨h1,h2,h3⟩
 dsimp only at h1 h2 h3
 rcases h3 with⟨rfl,rfl⟩|⟨hk,c1,τ,rfl⟩
 ·have c:=ca 0 (by omega) (by omega)
  obtain⟨a,ha⟩:∃ a,jk t r 0=a:=⟨_,rfl⟩
  rw[ha]at c
  have fR:=fun he=>BK q1 q2 (k:=0) (by omega) h2 he
  rw[ha]at fR
  have c_:=yY t r 0
  rw[ha]at c_
  simp only[br,dG]at c
  repeat' first|refine aB ?_|refine aF c ?_|refine aA (fun hw=>?_) (fun hw=>?_)<;>try omega|fail
  ·rw[← hE,fR (by assumption)]
   exact bw (fU (.ae _) (.ae _))
  ·refine⟨(1,[.cells [.str t.name,.aG false EC (t.ins.map bp),.aG false EC (t.outs.map bp),I t.bl,I t.agg,.aG false ER (t.rules.map cj)],.cells [.aG false E1 (r.cells.map cy),.aG false E1 (r.outs.map cy)],.cells [.own EC 4 1 0 1,.ae],.cells [.bool a.1.any,.bool a.1.neg,.aG false ES (a.1.tests.map bx)],.vec EC [.agg [.bool a.1.any,.bool a.1.neg,.aG false ES (a.1.tests.map bx)]]]),?_,?_,?_,bG,at_⟩<;>(try dsimp only)
   ·refine⟨by omega,fun j hj=>?_,.inr ⟨by omega,.cells [.bool a.1.any,.bool a.1.neg,.aG false ES (a.1.tests.map bx)],[],?_⟩⟩
    ·obtain rfl:j=0:=by omega
     rw[ha];assumption
    ·rw[c_];rfl
   ·omega
   all_goals rfl
 ·by_cases tJ:k<r.cells.length
  ·have c:=ca k (by omega) (by omega)
   have fR:=fun he=>BK q1 q2 (k:=k) (by omega) h2 he
   have c_:=yY t r k
   obtain⟨a,ha⟩:∃ a,jk t r k=a:=⟨_,rfl⟩
   rw[ha]at c fR c_
   have c9:=tu t r k
   have hb2:=fun he=>aW (q:=fun j=>(jk t r j).2=0) h2 he
   obtain⟨L,hL⟩:∃ L,iw t r k=L:=⟨_,rfl⟩
   rw[hL]at c9 c_
   simp only[hL]at fR ⊢
   simp only[br,dG]at c
   repeat' first|simp (disch:=omega) only[go_sem,aC,aD,aE,aj,au,ak,Nat.reduceAdd,Nat.reduceBEq,↓reduceIte,c9]|refine aB ?_|refine aF c ?_|refine aA (fun hw=>?_) (fun hw=>?_)<;>try omega|fail
   ·rw[← hE,fR (by assumption)]
    exact bw (fU (View.vec rfl (by simp[c9]) (by simp[c9]) (fL _)) (.ae _))
   ·refine⟨(k+1,.cells [.str t.name,.aG false EC (t.ins.map bp),.aG false EC (t.outs.map bp),I t.bl,I t.agg,.aG false ER (t.rules.map cj)]:: .cells [.aG false E1 (r.cells.map cy),.aG false E1 (r.outs.map cy)]:: .cells [.own EC 4 (k+1) 0 (k+1),.ae]::c1:: .vec EC (L.map br++[.agg [.bool a.1.any,.bool a.1.neg,.aG false ES (a.1.tests.map bx)]])::(τ++[.cells [.bool a.1.any,.bool a.1.neg,.aG false ES (a.1.tests.map bx)]])),?_,?_,?_,bG,at_⟩<;>(try dsimp only)
    ·refine⟨by omega,hb2 (by rw[ha];assumption),.inr ⟨by omega,c1,τ++[.cells [.bool a.1.any,.bool a.1.neg,.aG false ES (a.1.tests.map bx)]],?_⟩⟩
     rw[c_,List.map_append];rfl
    ·omega
    all_goals rfl
  ·have hkn:k=r.cells.length:=by omega
   subst hkn
   have c9:=tu t r r.cells.length
   have hok:=fun h=>Ey q1 q2 h2 h
   have hte:=fun k (hk:k<r.outs.length) h he=>Mz q1 q2 h2 (k:=k) hk h he
   obtain⟨L,hL⟩:∃ L,iw t r r.cells.length=L:=⟨_,rfl⟩
   rw[hL]at c9
   simp only[hL]at hok hte ⊢
   repeat' first|refine aB ?_|refine aA (fun hw=>?_) (fun hw=>?_)<;>try omega|fail
   with_reducible refine a_ [5,6,11,12,13,14,62,63,64,65,66,67,68,69,70,71,72,73,74,75,76,77,78,79,80,81,82,83,84,85,86,87,88,89] (fun q:Nat × ai=>[(62,I q.1)]) (fun q=>q.2) (fun q=>q.1≤r.outs.length∧(∀ k,k<q.1→(gB t r k).2=0)∧(q.1=0∧q.2 = .cells [.str t.name,.aG false EC (t.ins.map bp),.aG false EC (t.outs.map bp),I t.bl,I t.agg,.aG false ER (t.rules.map cj)]:: .cells [.aG false E1 (r.cells.map cy),.aG false E1 (r.outs.map cy)]:: .cells [.own EC 4 r.cells.length 0 r.cells.length,.ae]::c1:: .vec EC (L.map br):: τ∨0<q.1∧ ∃ p ρ,q.2 = .cells [.str t.name,.aG false EC (t.ins.map bp),.aG false EC (t.outs.map bp),I t.bl,I t.agg,.aG false ER (t.rules.map cj)]:: .cells [.aG false E1 (r.cells.map cy),.aG false E1 (r.outs.map cy)]:: .cells [.own EC 4 r.cells.length 0 r.cells.length,.own EX (p+1+1+1+1+1) q.1 0 q.1]::c1:: .vec EC (L.map br):: ρ∧ ρ[p]? = some (.vec EX ((lI t r q.1).map aJ)))) (fun q=>r.outs.length-q.1) (0,_) ⟨Nat.zero_le _,fun k hk=>by omega,.inl ⟨rfl,rfl⟩⟩ rfl ?_ ?_
   ·exact at_
   rintro⟨m,S⟩ rr ⟨g1,g2,g3⟩
   dsimp only at g1 g2 g3
   rcases g3 with⟨rfl,rfl⟩|⟨hm,p,ρ,rfl,hk⟩
   ·by_cases hml:0<r.outs.length
    ·have c:=ce 0 (by omega) (by omega)
     have fR:=fun he=>hte 0 hml g2 he
     have c_:=BJ t r 0
     obtain⟨a,ha⟩:∃ a,gB t r 0=a:=⟨_,rfl⟩
     rw[ha]at c fR c_
     rw[aN]at c
     try simp only[bP]at c
     repeat' first|simp (disch:=omega) only[go_sem,aC,aD,aE,aj,au,ak,Nat.reduceAdd,Nat.reduceBEq,↓reduceIte,c9]|refine aB ?_|refine aF c ?_|refine aA (fun hw=>?_) (fun hw=>?_)<;>try omega|fail
     ·rw[← hE,fR (by assumption)]
      refine bw (fU (View.vec rfl (by simp[c9]) (by simp[c9]) (fL _)) (.ae _))
     ·refine⟨(1,.cells [.str t.name,.aG false EC (t.ins.map bp),.aG false EC (t.outs.map bp),I t.bl,I t.agg,.aG false ER (t.rules.map cj)]:: .cells [.aG false E1 (r.cells.map cy),.aG false E1 (r.outs.map cy)]:: .cells [.own EC 4 r.cells.length 0 r.cells.length,.own EX (τ.length+1+1+1+1+1+1) 1 0 1]::c1:: .vec EC (L.map br)::(τ++[.cells [I a.1.op,I a.1.v.kind,I a.1.v.n,.str a.1.v.s,.str a.1.s,.aG false EX (a.1.l.map aJ)]]++[.vec EX [.agg [I a.1.op,I a.1.v.kind,I a.1.v.n,.str a.1.v.s,.str a.1.s,.aG false EX (a.1.l.map aJ)]]])),?_,?_,?_,bG,at_⟩<;>(try dsimp only)
      ·refine⟨by omega,fun j hj=>?_,.inr ⟨by omega,τ.length+1,_,rfl,?_⟩⟩
       ·obtain rfl:j=0:=by omega
        rw[ha];assumption
       ·rw[c_,show ∀ x,[x]=[]++[x] from fun _=>rfl]
        simp[lI,aN,bP]
      ·omega
      all_goals first|rfl|(simp[go_sem];done)
    ·repeat' first|simp (disch:=omega) only[go_sem,aC,aD,aE,aj,au,ak,Nat.reduceAdd,Nat.reduceBEq,↓reduceIte,c9]|refine aB ?_|refine aA (fun hw=>?_) (fun hw=>?_)<;>try omega|fail
     rw[← hE,hok (fun j hj=>by omega)]
     have h0:r.outs.length=0:=by omega
     rw[h0]
     exact bw (fU (View.vec rfl (by simp[c9]) (by simp[c9]) (fL _)) (.ae _))
   ·have hlt:=(List.getElem?_eq_some_iff.1 hk).1
    have lJ:=Ex t r m
    have hk2:=fun d:aR=>(List.getElem?_append_left (l₁:= ρ) (l₂:=[d]) hlt).trans hk
    by_cases hml:m<r.outs.length
    ·have c:=ce m (by omega) (by omega)
     have fR:=fun he=>hte m hml g2 he
     have c_:=BJ t r m
     have hb2:=fun he=>aW (q:=fun j=>(gB t r j).2=0) g2 he
     have Pk:=fun(d w:aR)=>List.set_append_left (s:= ρ) (t:=[d]) p w hlt
     obtain⟨a,ha⟩:∃ a,gB t r m=a:=⟨_,rfl⟩
     rw[ha]at c fR c_
     obtain⟨X,hX⟩:∃ X,lI t r m=X:=⟨_,rfl⟩
     rw[hX]at lJ c_ hk fR
     simp only[hX]at hk2
     rw[aN]at c
     try simp only[bP]at c
     repeat' first|simp (disch:=omega) only[go_sem,aC,aD,aE,aj,au,ak,Nat.reduceAdd,Nat.reduceBEq,↓reduceIte,c9,lJ,hk,hk2,Pk]|refine aB ?_|refine aF c ?_|refine aA (fun hw=>?_) (fun hw=>?_)<;>try omega|fail
     ·rw[← hE,fR (by assumption)]
      refine bw (fU (View.vec rfl (by simp[c9]) (by simp[c9]) (fL _)) (View.vec (hk2 _) (by simp[lJ]) (by simp[lJ]) (xe _)))
     ·refine⟨(m+1,.cells [.str t.name,.aG false EC (t.ins.map bp),.aG false EC (t.outs.map bp),I t.bl,I t.agg,.aG false ER (t.rules.map cj)]:: .cells [.aG false E1 (r.cells.map cy),.aG false E1 (r.outs.map cy)]:: .cells [.own EC 4 r.cells.length 0 r.cells.length,.own EX (p+1+1+1+1+1) (m+1) 0 (m+1)]::c1:: .vec EC (L.map br)::(ρ.set p (.vec EX (X.map aJ++[.agg [I a.1.op,I a.1.v.kind,I a.1.v.n,.str a.1.v.s,.str a.1.s,.aG false EX (a.1.l.map aJ)]]))++[.cells [I a.1.op,I a.1.v.kind,I a.1.v.n,.str a.1.v.s,.str a.1.s,.aG false EX (a.1.l.map aJ)]])),?_,?_,?_,bG,at_⟩<;>(try dsimp only)
      ·refine⟨by omega,hb2 (by rw[ha];assumption),.inr ⟨by omega,p,_,rfl,?_⟩⟩
       rw[c_,List.map_append,List.getElem?_append_left (by simpa using hlt),List.getElem?_set_self (by simpa using hlt)]
       simp[aN,bP]
      ·omega
      all_goals first|rfl|(simp[go_sem];done)
    ·obtain rfl:m=r.outs.length:=by omega
     repeat' first|simp (disch:=omega) only[go_sem,aC,aD,aE,aj,au,ak,Nat.reduceAdd,Nat.reduceBEq,↓reduceIte,c9,lJ,hk,hk2]|refine aB ?_|refine aA (fun hw=>?_) (fun hw=>?_)<;>try omega|fail
     rw[← hE,hok g2]
     exact bw (fU (View.vec rfl (by simp[c9]) (by simp[c9]) (fL _)) (View.vec hk (by simp[lJ]) (by simp[lJ]) (xe _)))
set_option maxHeartbeats 8000000 in
theorem Wo(t:Table)(r:cK)(ht:t.ins.length≤2 ^ 30)(ho:t.outs.length≤2 ^ 30)(ht0:0<t.ins.length)(hr:(r.cells.length≤2 ^ 30∧ ∀ s ∈ r.cells,s.length≤2 ^ 30)∧r.outs.length≤2 ^ 30∧ ∀ s ∈ r.outs,s.length≤2 ^ 30): aq Tryz.prog zJ [bI t,cj r] (UW (fY t r)):=by
 obtain⟨⟨hr1,qc⟩,hr3,JB⟩:=hr
 obtain⟨E,hE⟩:∃ E,UW (fY t r)=E:=⟨_,rfl⟩
 rw[hE]
 simp only[bI,dc,bq,cQ,cj,dS]
 by_cases hb:r.cells.length≠t.ins.length∨r.outs.length≠t.outs.length
 ·refine aq.of_nil (Fe (by simp) ?_) (by simp)
  unfold Ad aM
  intro Q aC aD aE
  repeat' first|refine aB ?_|refine aA (fun hw=>?_) (fun hw=>?_)<;>try omega|fail
  all_goals first
   | exact aZ
   |(rw[← hE,HX hb];exact bw (fU (.ae _) (.ae _)))
 have q1:r.cells.length=t.ins.length:=by omega
 have q2:r.outs.length=t.outs.length:=by omega
 clear hb
 refine aq.of_nil (Fe (by simp) ?_) (by simp)
 unfold Ad aM
 intro Q aC aD aE
 repeat' first|refine aB ?_|refine aA (fun hw=>?_) (fun hw=>?_)<;>try omega|fail
 all_goals first|exact aZ|skip
 with_reducible refine a_ [5,6,8,9,10,11,35,36,37,38,39,40,41,42,43,44,45,46,47,48,49,50,51,52,53,54,55,56,57,58,59,60,61,62,63,64,65,66,67,68,69,70,71,72,73,74] (fun q:Nat × ai=>[(8,I q.1)]) (fun q=>q.2) (fun q=>q.1≤r.cells.length∧(∀ k,k<q.1→(jk t r k).2=0)∧(q.1=0∧q.2=[.cells [.str t.name,.aG false EC (t.ins.map bp),.aG false EC (t.outs.map bp),I t.bl,I t.agg,.aG false ER (t.rules.map cj)],.cells [.aG false E1 (r.cells.map cy),.aG false E1 (r.outs.map cy)],.cells [.ae,.ae],.cells [.ae,.ae]]∨0<q.1∧ ∃ c1 τ,q.2 = .cells [.str t.name,.aG false EC (t.ins.map bp),.aG false EC (t.outs.map bp),I t.bl,I t.agg,.aG false ER (t.rules.map cj)]:: .cells [.aG false E1 (r.cells.map cy),.aG false E1 (r.outs.map cy)]:: .cells [.ae,.ae]:: .cells [.own EC 5 q.1 0 q.1,.ae]::c1:: .vec EC ((iw t r q.1).map br):: τ)) (fun q=>r.cells.length-q.1) (0,_) ⟨Nat.zero_le _,fun k hk=>by omega,.inl ⟨rfl,rfl⟩⟩ rfl ?_ ?_
 ·exact at_
 rintro⟨k,S⟩ rr ⟨h1,h2,h3⟩
 dsimp only at h1 h2 h3
 rcases h3 with⟨rfl,rfl⟩|⟨hk,UX,τ,rfl⟩
 ·have fR:=fun he=>BK q1 q2 (k:=0) (by omega) h2 he
  have c_:=yY t r 0
  have hA:jk t r 0=((cZ (r.cells.getD 0 default)).1,if(cZ (r.cells.getD 0 default)).2.2=0 then oP t.ins (t.ins.getD 0 default).kind (cZ (r.cells.getD 0 default)).1 else(cZ (r.cells.getD 0 default)).2.2):=rfl
  have c1:=JE (r.cells.getD 0 default) (qc _ (aY (by omega)))
  have c2:=JF t.ins (by omega) (t.ins.getD 0 default).kind _ (HK (r.cells.getD 0 default))
  obtain⟨cc,eG⟩:∃ c,t.ins.getD 0 default=c:=⟨_,rfl⟩
  rw[eG]at c2 hA
  generalize oP t.ins cc.kind (cZ (r.cells.getD 0 default)).1=ty at hA c2
  generalize cZ (r.cells.getD 0 default)=P at hA c1 c2
  obtain⟨c,pn,e⟩:=P
  dsimp only at c1 c2 hA
  simp only[Sc]at c1
  simp only[br,dG,bq]at c1 c2
  by_cases he:e=0
  ·rw[if_pos he]at hA
   rw[hA]at fR c_
   subst he
   by_cases hty:ty=0
   ·subst hty
    repeat' first|simp (disch:=omega) only[go_sem,aC,aD,aE,aj,au,ak,Nat.reduceAdd,Nat.reduceBEq,↓reduceIte,eG]|refine aB ?_|refine aF c1 ?_|refine aF c2 ?_|refine aA (fun hw=>?_) (fun hw=>?_)<;>try omega|fail
    all_goals first
     | exact aZ
     | skip
    refine⟨(1,[.cells [.str t.name,.aG false EC (t.ins.map bp),.aG false EC (t.outs.map bp),I t.bl,I t.agg,.aG false ER (t.rules.map cj)],.cells [.aG false E1 (r.cells.map cy),.aG false E1 (r.outs.map cy)],.cells [.ae,.ae],.cells [.own EC 5 1 0 1,.ae],.cells [.bool c.any,.bool c.neg,.aG false ES (c.tests.map bx)],.vec EC [.agg [.bool c.any,.bool c.neg,.aG false ES (c.tests.map bx)]]]),?_,?_,?_,bG,at_⟩<;>(try dsimp only)
    ·refine⟨by omega,fun j hj=>?_,.inr ⟨by omega,.cells [.bool c.any,.bool c.neg,.aG false ES (c.tests.map bx)],[],?_⟩⟩
     ·obtain rfl:j=0:=by omega
      rw[hA]
     ·rw[c_];rfl
    ·omega
    all_goals rfl
   ·repeat' first|simp (disch:=omega) only[go_sem,aC,aD,aE,aj,au,ak,Nat.reduceAdd,Nat.reduceBEq,↓reduceIte,eG]|refine aB ?_|refine aF c1 ?_|refine aF c2 ?_|refine aA (fun hw=>?_) (fun hw=>?_)<;>try omega|fail
    all_goals first
     | exact aZ
     | (rw [← hE, fR hty]
        exact bw (fU (.ae _) (.ae _)))
  ·rw[if_neg he]at hA
   rw[hA]at fR c_
   repeat' first|simp (disch:=omega) only[go_sem,aC,aD,aE,aj,au,ak,Nat.reduceAdd,Nat.reduceBEq,↓reduceIte,eG]|refine aB ?_|refine aF c1 ?_|refine aF c2 ?_|refine aA (fun hw=>?_) (fun hw=>?_)<;>try omega|fail
   all_goals first
    | exact aZ
    | (rw [← hE, fR he]
       exact bw (fU (.ae _) (.ae _)))
 ·by_cases tJ:k<r.cells.length
  ·have fR:=fun he=>BK q1 q2 (k:=k) (by omega) h2 he
   have c_:=yY t r k
   have c9:=tu t r k
   have hb2:=fun he=>aW (q:=fun j=>(jk t r j).2=0) h2 he
   obtain⟨L,hL⟩:∃ L,iw t r k=L:=⟨_,rfl⟩
   rw[hL]at c9 c_
   simp only[hL]at fR ⊢
   have hA:jk t r k=((cZ (r.cells.getD k default)).1,if(cZ (r.cells.getD k default)).2.2=0 then oP t.ins (t.ins.getD k default).kind (cZ (r.cells.getD k default)).1 else(cZ (r.cells.getD k default)).2.2):=rfl
   have c1:=JE (r.cells.getD k default) (qc _ (aY (by omega)))
   have c2:=JF t.ins (by omega) (t.ins.getD k default).kind _ (HK (r.cells.getD k default))
   obtain⟨cc,eG⟩:∃ c,t.ins.getD k default=c:=⟨_,rfl⟩
   rw[eG]at c2 hA
   generalize oP t.ins cc.kind (cZ (r.cells.getD k default)).1=ty at hA c2
   generalize cZ (r.cells.getD k default)=P at hA c1 c2
   obtain⟨c,pn,e⟩:=P
   dsimp only at c1 c2 hA
   simp only[Sc]at c1
   simp only[br,dG,bq]at c1 c2
   by_cases he:e=0
   ·rw[if_pos he]at hA
    rw[hA]at fR c_
    subst he
    by_cases hty:ty=0
    ·subst hty
     repeat' first|simp (disch:=omega) only[go_sem,aC,aD,aE,aj,au,ak,Nat.reduceAdd,Nat.reduceBEq,↓reduceIte,eG,c9]|refine aB ?_|refine aF c1 ?_|refine aF c2 ?_|refine aA (fun hw=>?_) (fun hw=>?_)<;>try omega|fail
     all_goals first
      | exact aZ
      | skip
     refine⟨(k+1,.cells [.str t.name,.aG false EC (t.ins.map bp),.aG false EC (t.outs.map bp),I t.bl,I t.agg,.aG false ER (t.rules.map cj)]:: .cells [.aG false E1 (r.cells.map cy),.aG false E1 (r.outs.map cy)]:: .cells [.ae,.ae]:: .cells [.own EC 5 (k+1) 0 (k+1),.ae]::UX:: .vec EC (L.map br++[.agg [.bool c.any,.bool c.neg,.aG false ES (c.tests.map bx)]])::(τ++[.cells [.bool c.any,.bool c.neg,.aG false ES (c.tests.map bx)]])),?_,?_,?_,bG,at_⟩<;>(try dsimp only)
     ·refine⟨by omega,hb2 (by rw[hA]),.inr ⟨by omega,UX,τ++[.cells [.bool c.any,.bool c.neg,.aG false ES (c.tests.map bx)]],?_⟩⟩
      rw[c_,List.map_append];rfl
     ·omega
     all_goals rfl
    ·repeat' first|simp (disch:=omega) only[go_sem,aC,aD,aE,aj,au,ak,Nat.reduceAdd,Nat.reduceBEq,↓reduceIte,eG,c9]|refine aB ?_|refine aF c1 ?_|refine aF c2 ?_|refine aA (fun hw=>?_) (fun hw=>?_)<;>try omega|fail
     all_goals first
      | exact aZ
      | (rw [← hE, fR hty]
         exact bw (fU (View.vec rfl (by simp[c9]) (by simp[c9]) (fL _)) (.ae _)))
   ·rw[if_neg he]at hA
    rw[hA]at fR c_
    repeat' first|simp (disch:=omega) only[go_sem,aC,aD,aE,aj,au,ak,Nat.reduceAdd,Nat.reduceBEq,↓reduceIte,eG,c9]|refine aB ?_|refine aF c1 ?_|refine aF c2 ?_|refine aA (fun hw=>?_) (fun hw=>?_)<;>try omega|fail
    all_goals first
     | exact aZ
     | (rw [← hE, fR he]
        exact bw (fU (View.vec rfl (by simp[c9]) (by simp[c9]) (fL _)) (.ae _)))
  ·have hkn:k=r.cells.length:=by omega
   subst hkn
   have c9:=tu t r r.cells.length
   have hok:=fun h=>Ey q1 q2 h2 h
   have hte:=fun k (hk:k<r.outs.length) h he=>Mz q1 q2 h2 (k:=k) hk h he
   obtain⟨L,hL⟩:∃ L,iw t r r.cells.length=L:=⟨_,rfl⟩
   rw[hL]at c9
   simp only[hL]at hok hte ⊢
   repeat' first|refine aB ?_|refine aA (fun hw=>?_) (fun hw=>?_)<;>try omega|fail
   with_reducible refine a_ [5,6,12,13,14,15,16,75,76,77,78,79,80,81,82,83,84,85,86,87,88,89,90,91,92,93,94,95,96,97,98,99,100,101,102,103,104,105,106,107,108,109,110,111,112,113,114,115,116,117,118,119,120,121,122,123,124,125,126,127,128] (fun q:Nat × ai=>[(12,I q.1)]) (fun q=>q.2) (fun q=>q.1≤r.outs.length∧(∀ k,k<q.1→(gB t r k).2=0)∧(q.1=0∧q.2 = .cells [.str t.name,.aG false EC (t.ins.map bp),.aG false EC (t.outs.map bp),I t.bl,I t.agg,.aG false ER (t.rules.map cj)]:: .cells [.aG false E1 (r.cells.map cy),.aG false E1 (r.outs.map cy)]:: .cells [.ae,.ae]:: .cells [.own EC 5 r.cells.length 0 r.cells.length,.ae]::UX:: .vec EC (L.map br):: τ∨0<q.1∧ ∃ p ρ,q.2 = .cells [.str t.name,.aG false EC (t.ins.map bp),.aG false EC (t.outs.map bp),I t.bl,I t.agg,.aG false ER (t.rules.map cj)]:: .cells [.aG false E1 (r.cells.map cy),.aG false E1 (r.outs.map cy)]:: .cells [.ae,.ae]:: .cells [.own EC 5 r.cells.length 0 r.cells.length,.own EX (p+1+1+1+1+1+1) q.1 0 q.1]::UX:: .vec EC (L.map br):: ρ∧ ρ[p]? = some (.vec EX ((lI t r q.1).map aJ)))) (fun q=>r.outs.length-q.1) (0,_) ⟨Nat.zero_le _,fun k hk=>by omega,.inl ⟨rfl,rfl⟩⟩ rfl ?_ ?_
   ·exact at_
   rintro⟨m,S⟩ rr ⟨g1,g2,g3⟩
   dsimp only at g1 g2 g3
   rcases g3 with⟨rfl,rfl⟩|⟨hm,p,ρ,rfl,hk⟩
   ·by_cases hml:0<r.outs.length
    ·have fR:=fun he=>hte 0 hml g2 he
     have c_:=BJ t r 0
     have hA:gB t r 0=((cz (r.outs.getD 0 default)).1,if(cz (r.outs.getD 0 default)).2.2≠0 then(cz (r.outs.getD 0 default)).2.2 else if(c8 t.ins (cz (r.outs.getD 0 default)).1).2=0∧fX (c8 t.ins (cz (r.outs.getD 0 default)).1).1 (t.outs.getD 0 default).kind=false then 14 else(c8 t.ins (cz (r.outs.getD 0 default)).1).2):=rfl
     have c1:=Jy (r.outs.getD 0 default) (JB _ (aY (by omega)))
     have hp:=xn (r.outs.getD 0 default)
     have c2:=wG t.ins (by omega) (cz (r.outs.getD 0 default)).1 hp.1 (by have:=hp.2;omega)
     have c3:=qL (c8 t.ins (cz (r.outs.getD 0 default)).1).1 (t.outs.getD 0 default).kind
     clear hp
     obtain⟨cc,eG⟩:∃ c,t.outs.getD 0 default=c:=⟨_,rfl⟩
     rw[eG]at c3 hA
     generalize fX (c8 t.ins (cz (r.outs.getD 0 default)).1).1 cc.kind=fi at hA c3
     generalize c8 t.ins (cz (r.outs.getD 0 default)).1=ki at hA c2 c3
     generalize cz (r.outs.getD 0 default)=P at hA c1 c2
     obtain⟨x,pn,e⟩:=P
     obtain⟨k1,k2⟩:=ki
     dsimp only at c1 c2 c3 hA
     simp only[xk]at c1
     rw[aN]at c1 c2
     try simp only[bP]at c1 c2
     simp only[bq]at c2
     by_cases he:e=0
     ·subst he
      rw[if_neg (by simp)]at hA
      by_cases KD:k2=0
      ·subst KD
       cases fi with
       | false =>
         rw[if_pos ⟨rfl,rfl⟩]at hA
         rw[hA]at fR c_
         repeat' first|simp (disch:=omega) only[go_sem,aC,aD,aE,aj,au,ak,Nat.reduceAdd,Nat.reduceBEq,↓reduceIte,eG,c9]|refine aB ?_|refine aF c1 ?_|refine aF c2 ?_|refine aF c3 ?_|refine aA (fun hw=>?_) (fun hw=>?_)<;>try omega|fail
         all_goals first
          | exact aZ
          | (rw [← hE, fR (show (14 : Int) ≠ 0 by decide)]
             exact bw (fU (View.vec rfl (by simp[c9]) (by simp[c9]) (fL _)) (.ae _)))
       | true =>
         rw[if_neg (by simp)]at hA
         rw[hA]at fR c_
         repeat' first|simp (disch:=omega) only[go_sem,aC,aD,aE,aj,au,ak,Nat.reduceAdd,Nat.reduceBEq,↓reduceIte,eG,c9]|refine aB ?_|refine aF c1 ?_|refine aF c2 ?_|refine aF c3 ?_|refine aA (fun hw=>?_) (fun hw=>?_)<;>try omega|fail
         all_goals first
          | exact aZ
          | skip
         refine⟨(1,.cells [.str t.name,.aG false EC (t.ins.map bp),.aG false EC (t.outs.map bp),I t.bl,I t.agg,.aG false ER (t.rules.map cj)]:: .cells [.aG false E1 (r.cells.map cy),.aG false E1 (r.outs.map cy)]:: .cells [.ae,.ae]:: .cells [.own EC 5 r.cells.length 0 r.cells.length,.own EX (τ.length+1+1+1+1+1+1+1) 1 0 1]::UX:: .vec EC (L.map br)::(τ++[.cells [I x.op,I x.v.kind,I x.v.n,.str x.v.s,.str x.s,.aG false EX (x.l.map aJ)]]++[.vec EX [.agg [I x.op,I x.v.kind,I x.v.n,.str x.v.s,.str x.s,.aG false EX (x.l.map aJ)]]])),?_,?_,?_,bG,at_⟩<;>(try dsimp only)
         ·refine⟨by omega,fun j hj=>?_,.inr ⟨by omega,τ.length+1,_,rfl,?_⟩⟩
          ·obtain rfl:j=0:=by omega
           rw[hA]
          ·rw[c_,show ∀ x,[x]=[]++[x] from fun _=>rfl]
           simp[lI,aN,bP]
         ·omega
         all_goals first|rfl|(simp[go_sem];done)
      ·rw[if_neg (fun h=>KD h.1)]at hA
       rw[hA]at fR c_
       repeat' first|simp (disch:=omega) only[go_sem,aC,aD,aE,aj,au,ak,Nat.reduceAdd,Nat.reduceBEq,↓reduceIte,eG,c9]|refine aB ?_|refine aF c1 ?_|refine aF c2 ?_|refine aF c3 ?_|refine aA (fun hw=>?_) (fun hw=>?_)<;>try omega|fail
       all_goals first
        | exact aZ
        | (rw [← hE, fR KD]
           exact bw (fU (View.vec rfl (by simp[c9]) (by simp[c9]) (fL _)) (.ae _)))
     ·rw[if_pos he]at hA
      rw[hA]at fR c_
      repeat' first|simp (disch:=omega) only[go_sem,aC,aD,aE,aj,au,ak,Nat.reduceAdd,Nat.reduceBEq,↓reduceIte,eG,c9]|refine aB ?_|refine aF c1 ?_|refine aF c2 ?_|refine aF c3 ?_|refine aA (fun hw=>?_) (fun hw=>?_)<;>try omega|fail
      all_goals first
       | exact aZ
       | (rw [← hE, fR he]
          exact bw (fU (View.vec rfl (by simp[c9]) (by simp[c9]) (fL _)) (.ae _)))
    ·repeat' first|simp (disch:=omega) only[go_sem,aC,aD,aE,aj,au,ak,Nat.reduceAdd,Nat.reduceBEq,↓reduceIte,c9]|refine aB ?_|refine aA (fun hw=>?_) (fun hw=>?_)<;>try omega|fail
     rw[← hE,hok (fun j hj=>by omega)]
     have h0:r.outs.length=0:=by omega
     rw[h0]
     exact bw (fU (View.vec rfl (by simp[c9]) (by simp[c9]) (fL _)) (.ae _))
   ·have hlt:=(List.getElem?_eq_some_iff.1 hk).1
    have lJ:=Ex t r m
    have hk2:=fun d:aR=>(List.getElem?_append_left (l₁:= ρ) (l₂:=[d]) hlt).trans hk
    by_cases hml:m<r.outs.length
    ·have fR:=fun he=>hte m hml g2 he
     have c_:=BJ t r m
     have hb2:=fun he=>aW (q:=fun j=>(gB t r j).2=0) g2 he
     have Pk:=fun(d w:aR)=>List.set_append_left (s:= ρ) (t:=[d]) p w hlt
     obtain⟨X,hX⟩:∃ X,lI t r m=X:=⟨_,rfl⟩
     rw[hX]at lJ c_ hk fR
     simp only[hX]at hk2
     have hA:gB t r m=((cz (r.outs.getD m default)).1,if(cz (r.outs.getD m default)).2.2≠0 then(cz (r.outs.getD m default)).2.2 else if(c8 t.ins (cz (r.outs.getD m default)).1).2=0∧fX (c8 t.ins (cz (r.outs.getD m default)).1).1 (t.outs.getD m default).kind=false then 14 else(c8 t.ins (cz (r.outs.getD m default)).1).2):=rfl
     have c1:=Jy (r.outs.getD m default) (JB _ (aY (by omega)))
     have hp:=xn (r.outs.getD m default)
     have c2:=wG t.ins (by omega) (cz (r.outs.getD m default)).1 hp.1 (by have:=hp.2;omega)
     have c3:=qL (c8 t.ins (cz (r.outs.getD m default)).1).1 (t.outs.getD m default).kind
     clear hp
     obtain⟨cc,eG⟩:∃ c,t.outs.getD m default=c:=⟨_,rfl⟩
     rw[eG]at c3 hA
     generalize fX (c8 t.ins (cz (r.outs.getD m default)).1).1 cc.kind=fi at hA c3
     generalize c8 t.ins (cz (r.outs.getD m default)).1=ki at hA c2 c3
     generalize cz (r.outs.getD m default)=P at hA c1 c2
     obtain⟨x,pn,e⟩:=P
     obtain⟨k1,k2⟩:=ki
     dsimp only at c1 c2 c3 hA
     simp only[xk]at c1
     rw[aN]at c1 c2
     try simp only[bP]at c1 c2
     simp only[bq]at c2
     by_cases he:e=0
     ·subst he
      rw[if_neg (by simp)]at hA
      by_cases KD:k2=0
      ·subst KD
       cases fi with
       | false =>
         rw[if_pos ⟨rfl,rfl⟩]at hA
         rw[hA]at fR c_
         repeat' first|simp (disch:=omega) only[go_sem,aC,aD,aE,aj,au,ak,Nat.reduceAdd,Nat.reduceBEq,↓reduceIte,eG,c9,lJ,hk,hk2,Pk]|refine aB ?_|refine aF c1 ?_|refine aF c2 ?_|refine aF c3 ?_|refine aA (fun hw=>?_) (fun hw=>?_)<;>try omega|fail
         all_goals first
          | exact aZ
          | (rw [← hE, fR (show (14 : Int) ≠ 0 by decide)]
             exact bw (fU (View.vec rfl (by simp[c9]) (by simp[c9]) (fL _)) (View.vec (hk2 _) (by simp[lJ]) (by simp[lJ]) (xe _))))
       | true =>
         rw[if_neg (by simp)]at hA
         rw[hA]at fR c_
         repeat' first|simp (disch:=omega) only[go_sem,aC,aD,aE,aj,au,ak,Nat.reduceAdd,Nat.reduceBEq,↓reduceIte,eG,c9,lJ,hk,hk2,Pk]|refine aB ?_|refine aF c1 ?_|refine aF c2 ?_|refine aF c3 ?_|refine aA (fun hw=>?_) (fun hw=>?_)<;>try omega|fail
         all_goals first
          | exact aZ
          | skip
         refine⟨(m+1,.cells [.str t.name,.aG false EC (t.ins.map bp),.aG false EC (t.outs.map bp),I t.bl,I t.agg,.aG false ER (t.rules.map cj)]:: .cells [.aG false E1 (r.cells.map cy),.aG false E1 (r.outs.map cy)]:: .cells [.ae,.ae]:: .cells [.own EC 5 r.cells.length 0 r.cells.length,.own EX (p+1+1+1+1+1+1) (m+1) 0 (m+1)]::UX:: .vec EC (L.map br)::(ρ.set p (.vec EX (X.map aJ++[.agg [I x.op,I x.v.kind,I x.v.n,.str x.v.s,.str x.s,.aG false EX (x.l.map aJ)]]))++[.cells [I x.op,I x.v.kind,I x.v.n,.str x.v.s,.str x.s,.aG false EX (x.l.map aJ)]])),?_,?_,?_,bG,at_⟩<;>(try dsimp only)
         ·refine⟨by omega,hb2 (by rw[hA]),.inr ⟨by omega,p,_,rfl,?_⟩⟩
          rw[c_,List.map_append,List.getElem?_append_left (by simpa using hlt),List.getElem?_set_self (by simpa using hlt)]
          simp[aN,bP]
         ·omega
         all_goals first|rfl|(simp[go_sem];done)
      ·rw[if_neg (fun h=>KD h.1)]at hA
       rw[hA]at fR c_
       repeat' first|simp (disch:=omega) only[go_sem,aC,aD,aE,aj,au,ak,Nat.reduceAdd,Nat.reduceBEq,↓reduceIte,eG,c9,lJ,hk,hk2,Pk]|refine aB ?_|refine aF c1 ?_|refine aF c2 ?_|refine aF c3 ?_|refine aA (fun hw=>?_) (fun hw=>?_)<;>try omega|fail
       all_goals first
        | exact aZ
        | (rw [← hE, fR KD]
           exact bw (fU (View.vec rfl (by simp[c9]) (by simp[c9]) (fL _)) (View.vec (hk2 _) (by simp[lJ]) (by simp[lJ]) (xe _))))
     ·rw[if_pos he]at hA
      rw[hA]at fR c_
      repeat' first|simp (disch:=omega) only[go_sem,aC,aD,aE,aj,au,ak,Nat.reduceAdd,Nat.reduceBEq,↓reduceIte,eG,c9,lJ,hk,hk2,Pk]|refine aB ?_|refine aF c1 ?_|refine aF c2 ?_|refine aF c3 ?_|refine aA (fun hw=>?_) (fun hw=>?_)<;>try omega|fail
      all_goals first
       | exact aZ
       | (rw [← hE, fR he]
          exact bw (fU (View.vec rfl (by simp[c9]) (by simp[c9]) (fL _)) (View.vec (hk2 _) (by simp[lJ]) (by simp[lJ]) (xe _))))
    ·obtain rfl:m=r.outs.length:=by omega
     repeat' first|simp (disch:=omega) only[go_sem,aC,aD,aE,aj,au,ak,Nat.reduceAdd,Nat.reduceBEq,↓reduceIte,c9,lJ,hk,hk2]|refine aB ?_|refine aA (fun hw=>?_) (fun hw=>?_)<;>try omega|fail
     rw[← hE,hok g2]
     exact bw (fU (View.vec rfl (by simp[c9]) (by simp[c9]) (fL _)) (View.vec hk (by simp[lJ]) (by simp[lJ]) (xe _)))
end Go.Proofs.YtmbgnaoilncbnaaGreatDoor
