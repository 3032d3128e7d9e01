/- Part. -/
import Derived.Test.YtmbgnaoilncbnaaGreatDoorX28
set_option linter.all false
namespace Go.Proofs.YtmbgnaoilncbnaaGreatDoor
open Go.AM
set_option maxRecDepth 4000
def j7(t:Table)(k:Nat): kP × Int × Int:=lJ t (t.rules.getD k default)
def nO(t:Table)(n:Nat): List kP:=(List.range n).map fun k=>(j7 t k).1
def LK: Ready:=⟨⟨[],[],[],0,0,[]⟩,[]⟩
def eE(t:Table): Ready × Int × Int × Int :=
 if iS t≠0 then(LK,-1,0,iS t)
 else match(List.range t.rules.length).find? (fun k=>(j7 t k).2.2 != 0)with
 | some k=>(LK,k,(j7 t k).2.1,(j7 t k).2.2)
 | none=>(⟨t,nO t t.rules.length⟩,0,0,0)
def Ty(r:Ready × Int × Int × Int): AV:= .bX [xZ r.1,I r.2.1,I r.2.2.1,I r.2.2.2]
def QW(t:Table)(n:Nat): nO t (n+1)=nO t n++[(j7 t n).1]:=by simp[nO,List.range_succ]
def wR(t:Table)(n:Nat): (nO t n).length=n:=by simp[nO]
def FE{t:Table}(h:iS t≠0): eE t=(LK,(-1:Int),(0:Int),iS t):=by unfold eE;rw[if_pos h]
def QX{t:Table}(h0:iS t=0){k:Nat}(hk:k<t.rules.length)(h:∀ j,j<k->(j7 t j).2.2=0)(he:(j7 t k).2.2≠0): eE t=(LK,(k:Int),(j7 t k).2.1,(j7 t k).2.2):=by
 unfold eE;rw[if_neg (by omega),zq (i:=k) hk (fun j hj=>by simp[h j hj]) (by simp[he])]
def OZ{t:Table}(h0:iS t=0)(h:∀ j,j<t.rules.length->(j7 t j).2.2=0): eE t=((⟨t,nO t t.rules.length⟩:Ready),(0:Int),(0:Int),(0:Int)):=by
 unfold eE;rw[if_neg (by omega),oR (fun j hj=>by simp[h j hj])]
def QY{t:Table}(h:iS t=0): 0<t.ins.length:=by
 unfold iS at h;split at h
 ·omega
 split at h
 ·omega
 ·rename_i h1 h2;exact(LI (by omega:jS t.ins false=0)).2
def kT{σ : aj}{a E:AV}{n m k:Int}(h:View σ a E): aW σ [a,I n,I m,I k] [E,I n,I m,I k]:= .cons h (.cons (.refl _ rfl) (.cons (.refl _ rfl) (.cons (.refl _ rfl) (.nil _))))
def Cn(σ : aj): View σ (.agg [.str [],.ae,.ae,I 0,I 0,.ae,.ae]) (xZ LK) :=
 View.nU (.cons (.refl _ rfl) (.cons (.ae _) (.cons (.ae _) (.cons (.refl _ rfl) (.cons (.refl _ rfl) (.cons (.ae _) (.cons (.ae _) (.nil _))))))))
set_option maxHeartbeats 4000000 in
def X7(t:Table)(h:mh t): ai Tryz.prog AB [bS t] (Ty (eE t)):=by
 have cf:=WG t h;obtain⟨E,hE⟩:∃ E,Ty (eE t)=E:=⟨_,rfl⟩;rw[hE];have hl:=fun(h0:0<t.ins.length) k (hk:k<t.rules.length)=>X6 t (t.rules.getD k default) h.2.1.1 h.2.2.1.1 h0 (h.2.2.2.2 _ (a_ hk));have ady:=h.2.2.2.1;simp only[bS,dy,bB,cW]at cf hl ⊢;by_cases hf:iS t≠0
 ·have hm:=FE hf;obtain⟨f,II⟩:∃ f,iS t=f:=⟨_,rfl⟩;rw[II]at cf hm hf;refine ai.aG (Ge (by simp) ?_) (by simp);unfold A9 aP;intro Q au aA aB;repeat' first|refine aq ?_|refine aC cf ?_|refine ak ?_ ?_<;>intro hw<;>try omega|fail
  all_goals first
   | exact aY
   |(rw[<-hE,hm];exact bq (kT (Cn _)))
 have hf0:iS t=0:=by omega
 have hi0:0<t.ins.length:=QY hf0;rw[hf0]at cf
 replace hl:=hl hi0
 clear hf;refine ai.aG (Ge (by simp) ?_) (by simp);unfold A9 aP;intro Q au aA aB;repeat' first|refine aq ?_|refine aC cf ?_|refine ak ?_ ?_<;>intro hw<;>try omega|fail
 all_goals first|exact aY|skip
 with_reducible refine bn [3,4,5,8,9,10,11,12,24,25,26,27,28,29,30,31,32,33,34,35,36,37,38,39,40,41,42,43,44,45,46,47,48] (fun q:Nat × aj=>[(24,I q.1)]) (fun q=>q.2) (fun q=>q.1<=t.rules.length/\(∀ k,k<q.1->(j7 t k).2.2=0)/\(q.1=0/\q.2=[.cells [.str t.name,.aK false EC (t.ins.map bE),.aK false EC (t.outs.map bE),I t.bA,I t.agg,.aK false ER (t.rules.map cN)],.cells [.str [],.ae,.ae,I 0,I 0,.ae,.ae],.cells [.str t.name,.aK false EC (t.ins.map bE),.aK false EC (t.outs.map bE),I t.bA,I t.agg,.aK false ER (t.rules.map cN),.ae]]\/0<q.1/\ ∃ b1 b2 τ,q.2 = .cells [.str t.name,.aK false EC (t.ins.map bE),.aK false EC (t.outs.map bE),I t.bA,I t.agg,.aK false ER (t.rules.map cN)]:: .cells [.str [],.ae,.ae,I 0,I 0,.ae,.ae]:: .cells [.str t.name,.aK false EC (t.ins.map bE),.aK false EC (t.outs.map bE),I t.bA,I t.agg,.aK false ER (t.rules.map cN),.own ER 5 q.1 0 q.1]::b1::b2:: .vec ER ((nO t q.1).map mV):: τ)) (fun q=>t.rules.length-q.1) (0,_) ⟨bP _,fun k hk=>by omega,.inl ⟨rfl,rfl⟩⟩ rfl ?_ ?_
 ·exact at_
 rintro⟨k,S⟩ rr ⟨h1,h2,h3⟩;dsimp only at h1 h2 h3;by_cases w6:k<t.rules.length
 ·have c:=hl k w6;have iT:=fun he=>QX hf0 w6 h2 he;have ff:=QW t k;have eG:=wR t k;have hb2:=fun he=>bf (q:=fun j=>(j7 t j).2.2=0) h2 he;have hlr:j7 t k=lJ t (t.rules.getD k default):=rfl;obtain⟨a,ha⟩:∃ a,j7 t k=a:=⟨_,rfl⟩;rw[ha]at iT ff hb2 hlr;rw[<-hlr]at c;obtain⟨ru,WI⟩:∃ ru,t.rules.getD k default=ru:=⟨_,rfl⟩;rw[WI]at c;clear hlr;simp only[Zb,mV,rj,cw,cN,eR]at c;rcases h3 with⟨rfl,rfl⟩|⟨hk,b1,b2,τ,rfl⟩
  ·repeat' first|simp (disch:=omega) only[go_sem,au,aA,aB,WI]|refine aq ?_|refine aC c ?_|refine ak ?_ ?_<;>intro hw<;>try omega|fail
   ·rw[<-hE,iT (by assumption)];exact bq (kT (Cn _))
   ·refine⟨(1,[.cells [.str t.name,.aK false EC (t.ins.map bE),.aK false EC (t.outs.map bE),I t.bA,I t.agg,.aK false ER (t.rules.map cN)],.cells [.str [],.ae,.ae,I 0,I 0,.ae,.ae],.cells [.str t.name,.aK false EC (t.ins.map bE),.aK false EC (t.outs.map bE),I t.bA,I t.agg,.aK false ER (t.rules.map cN),.own ER 5 1 0 1],.cells [.aK false E1 (ru.cells.map cS),.aK false E1 (ru.outs.map cS)],.cells [.aK false EC (a.1.cells.map bH),.aK false EX (a.1.outs.map aL)],.vec ER [.agg [.aK false EC (a.1.cells.map bH),.aK false EX (a.1.outs.map aL)]]]),?_,?_,?_,bJ,at_⟩<;>(try dsimp only)
    ·refine⟨by omega,hb2 (by assumption),.inr ⟨by omega,.cells [.aK false E1 (ru.cells.map cS),.aK false E1 (ru.outs.map cS)],.cells [.aK false EC (a.1.cells.map bH),.aK false EX (a.1.outs.map aL)],[],?_⟩⟩;rw[ff];rfl
    ·omega
    all_goals first|rfl|(simp[go_sem];done)
  ·obtain⟨L,hL⟩:∃ L,nO t k=L:=⟨_,rfl⟩;rw[hL]at eG ff;simp only[hL];repeat' first|simp (disch:=omega) only[go_sem,au,aA,aB,WI,eG]|refine aq ?_|refine aC c ?_|refine ak ?_ ?_<;>intro hw<;>try omega|fail
   ·rw[<-hE,iT (by assumption)];exact bq (kT (Cn _))
   ·refine⟨(k+1,.cells [.str t.name,.aK false EC (t.ins.map bE),.aK false EC (t.outs.map bE),I t.bA,I t.agg,.aK false ER (t.rules.map cN)]:: .cells [.str [],.ae,.ae,I 0,I 0,.ae,.ae]:: .cells [.str t.name,.aK false EC (t.ins.map bE),.aK false EC (t.outs.map bE),I t.bA,I t.agg,.aK false ER (t.rules.map cN),.own ER 5 (k+1) 0 (k+1)]::b1::b2:: .vec ER (L.map mV++[.agg [.aK false EC (a.1.cells.map bH),.aK false EX (a.1.outs.map aL)]])::(τ++[.cells [.aK false E1 (ru.cells.map cS),.aK false E1 (ru.outs.map cS)]]++[.cells [.aK false EC (a.1.cells.map bH),.aK false EX (a.1.outs.map aL)]])),?_,?_,?_,bJ,at_⟩<;>(try dsimp only)
    ·refine⟨by omega,hb2 (by assumption),.inr ⟨by omega,b1,b2,τ++[.cells [.aK false E1 (ru.cells.map cS),.aK false E1 (ru.outs.map cS)]]++[.cells [.aK false EC (a.1.cells.map bH),.aK false EX (a.1.outs.map aL)]],?_⟩⟩;rw[ff,List.map_append];(first|rfl|(simp[mV,rj,cw];done))
    ·omega
    all_goals first|rfl|(simp[go_sem];done)
 ·obtain rfl:k=t.rules.length:=by omega
  have hok:=OZ hf0 h2;rcases h3 with⟨h0,rfl⟩|⟨hk,b1,b2,τ,rfl⟩
  ·repeat' first|refine aq ?_|refine ak ?_ ?_<;>intro hw<;>try omega|fail
   rw[<-hE,hok,h0];exact bq (kT (View.nU (.cons (.refl _ rfl) (.cons (.refl _ (eT _)) (.cons (.refl _ (eT _)) (.cons (.refl _ rfl) (.cons (.refl _ rfl) (.cons (.refl _ (oM _)) (.cons (.ae _) (.nil _))))))))))
  ·have eG:=wR t t.rules.length;obtain⟨L,hL⟩:∃ L,nO t t.rules.length=L:=⟨_,rfl⟩;rw[hL]at eG hok;simp only[hL];repeat' first|simp (disch:=omega) only[go_sem,au,aA,aB,eG]|refine aq ?_|refine ak ?_ ?_<;>intro hw<;>try omega|fail
   rw[<-hE,hok];exact bq (kT (View.nU (.cons (.refl _ rfl) (.cons (.refl _ (eT _)) (.cons (.refl _ (eT _)) (.cons (.refl _ rfl) (.cons (.refl _ rfl) (.cons (.refl _ (oM _)) (.cons (View.vec rfl (by simp[eG]) (by simp[eG]) (Ld _)) (.nil _))))))))))
set_option maxHeartbeats 4000000 in
def aaK(t:Table)(h:mh t): ai Tryz.prog CU [bS t] (Ty (eE t)):=by
 have cf:=X4 t h;obtain⟨E,hE⟩:∃ E,Ty (eE t)=E:=⟨_,rfl⟩;rw[hE];have hl:=fun(h0:0<t.ins.length) k (hk:k<t.rules.length)=>aaJ t (t.rules.getD k default) h.2.1.1 h.2.2.1.1 h0 (h.2.2.2.2 _ (a_ hk));have ady:=h.2.2.2.1;simp only[bS,dy,bB,cW]at cf hl ⊢;by_cases hf:iS t≠0
 ·have hm:=FE hf;obtain⟨f,II⟩:∃ f,iS t=f:=⟨_,rfl⟩;rw[II]at cf hm hf;refine ai.aG (I0 (by simp) ?_) (by simp);unfold Dk aP;intro Q au aA aB;repeat' first|refine aq ?_|refine aC cf ?_|refine ak ?_ ?_<;>intro hw<;>try omega|fail
  all_goals first
   | exact aY
   |(rw[<-hE,hm];exact bq (kT (Cn _)))
 have hf0:iS t=0:=by omega
 have hi0:0<t.ins.length:=QY hf0;rw[hf0]at cf
 replace hl:=hl hi0
 clear hf;refine ai.aG (I0 (by simp) ?_) (by simp);unfold Dk aP;intro Q au aA aB;repeat' first|refine aq ?_|refine aC cf ?_|refine ak ?_ ?_<;>intro hw<;>try omega|fail
 all_goals first|exact aY|skip
 with_reducible refine bn [3,4,5,8,9,10,11,20,21,22,23,24,25,26,27,28,29,30,31,32,33,34,35,36,37,38,39,40,41,42,43,44,45,46,47,48,49] (fun q:Nat × aj=>[(8,I q.1)]) (fun q=>q.2) (fun q=>q.1<=t.rules.length/\(∀ k,k<q.1->(j7 t k).2.2=0)/\(q.1=0/\q.2=[.cells [.str t.name,.aK false EC (t.ins.map bE),.aK false EC (t.outs.map bE),I t.bA,I t.agg,.aK false ER (t.rules.map cN)],.cells [.str [],.ae,.ae,I 0,I 0,.ae,.ae],.cells [.str t.name,.aK false EC (t.ins.map bE),.aK false EC (t.outs.map bE),I t.bA,I t.agg,.aK false ER (t.rules.map cN),.ae]]\/0<q.1/\ ∃ b1 τ,q.2 = .cells [.str t.name,.aK false EC (t.ins.map bE),.aK false EC (t.outs.map bE),I t.bA,I t.agg,.aK false ER (t.rules.map cN)]:: .cells [.str [],.ae,.ae,I 0,I 0,.ae,.ae]:: .cells [.str t.name,.aK false EC (t.ins.map bE),.aK false EC (t.outs.map bE),I t.bA,I t.agg,.aK false ER (t.rules.map cN),.own ER 4 q.1 0 q.1]::b1:: .vec ER ((nO t q.1).map mV):: τ)) (fun q=>t.rules.length-q.1) (0,_) ⟨bP _,fun k hk=>by omega,.inl ⟨rfl,rfl⟩⟩ rfl ?_ ?_
 ·exact at_
 rintro⟨k,S⟩ rr ⟨h1,h2,h3⟩;dsimp only at h1 h2 h3;by_cases w6:k<t.rules.length
 ·have c:=hl k w6;have iT:=fun he=>QX hf0 w6 h2 he;have ff:=QW t k;have eG:=wR t k;have hb2:=fun he=>bf (q:=fun j=>(j7 t j).2.2=0) h2 he;have hlr:j7 t k=lJ t (t.rules.getD k default):=rfl;obtain⟨a,ha⟩:∃ a,j7 t k=a:=⟨_,rfl⟩;rw[ha]at iT ff hb2 hlr;rw[<-hlr]at c;obtain⟨ru,WI⟩:∃ ru,t.rules.getD k default=ru:=⟨_,rfl⟩;rw[WI]at c;clear hlr;simp only[Zb,mV,rj,cw,cN,eR]at c;rcases h3 with⟨rfl,rfl⟩|⟨hk,b1,τ,rfl⟩
  ·repeat' first|simp (disch:=omega) only[go_sem,au,aA,aB,WI]|refine aq ?_|refine aC c ?_|refine ak ?_ ?_<;>intro hw<;>try omega|fail
   ·rw[<-hE,iT (by assumption)];exact bq (kT (Cn _))
   ·refine⟨(1,[.cells [.str t.name,.aK false EC (t.ins.map bE),.aK false EC (t.outs.map bE),I t.bA,I t.agg,.aK false ER (t.rules.map cN)],.cells [.str [],.ae,.ae,I 0,I 0,.ae,.ae],.cells [.str t.name,.aK false EC (t.ins.map bE),.aK false EC (t.outs.map bE),I t.bA,I t.agg,.aK false ER (t.rules.map cN),.own ER 4 1 0 1],.cells [.aK false EC (a.1.cells.map bH),.aK false EX (a.1.outs.map aL)],.vec ER [.agg [.aK false EC (a.1.cells.map bH),.aK false EX (a.1.outs.map aL)]]]),?_,?_,?_,bJ,at_⟩<;>(try dsimp only)
    ·refine⟨by omega,hb2 (by assumption),.inr ⟨by omega,.cells [.aK false EC (a.1.cells.map bH),.aK false EX (a.1.outs.map aL)],[],?_⟩⟩;rw[ff];rfl
    ·omega
    all_goals first|rfl|(simp[go_sem];done)
  ·obtain⟨L,hL⟩:∃ L,nO t k=L:=⟨_,rfl⟩;rw[hL]at eG ff;simp only[hL];repeat' first|simp (disch:=omega) only[go_sem,au,aA,aB,WI,eG]|refine aq ?_|refine aC c ?_|refine ak ?_ ?_<;>intro hw<;>try omega|fail
   ·rw[<-hE,iT (by assumption)];exact bq (kT (Cn _))
   ·refine⟨(k+1,.cells [.str t.name,.aK false EC (t.ins.map bE),.aK false EC (t.outs.map bE),I t.bA,I t.agg,.aK false ER (t.rules.map cN)]:: .cells [.str [],.ae,.ae,I 0,I 0,.ae,.ae]:: .cells [.str t.name,.aK false EC (t.ins.map bE),.aK false EC (t.outs.map bE),I t.bA,I t.agg,.aK false ER (t.rules.map cN),.own ER 4 (k+1) 0 (k+1)]::b1:: .vec ER (L.map mV++[.agg [.aK false EC (a.1.cells.map bH),.aK false EX (a.1.outs.map aL)]])::(τ++[.cells [.aK false EC (a.1.cells.map bH),.aK false EX (a.1.outs.map aL)]])),?_,?_,?_,bJ,at_⟩<;>(try dsimp only)
    ·refine⟨by omega,hb2 (by assumption),.inr ⟨by omega,b1,τ++[.cells [.aK false EC (a.1.cells.map bH),.aK false EX (a.1.outs.map aL)]],?_⟩⟩;rw[ff,List.map_append];(first|rfl|(simp[mV,rj,cw];done))
    ·omega
    all_goals first|rfl|(simp[go_sem];done)
 ·obtain rfl:k=t.rules.length:=by omega
  have hok:=OZ hf0 h2;rcases h3 with⟨h0,rfl⟩|⟨hk,b1,τ,rfl⟩
  ·repeat' first|refine aq ?_|refine ak ?_ ?_<;>intro hw<;>try omega|fail
   rw[<-hE,hok,h0];exact bq (kT (View.nU (.cons (.refl _ rfl) (.cons (.refl _ (eT _)) (.cons (.refl _ (eT _)) (.cons (.refl _ rfl) (.cons (.refl _ rfl) (.cons (.refl _ (oM _)) (.cons (.ae _) (.nil _))))))))))
  ·have eG:=wR t t.rules.length;obtain⟨L,hL⟩:∃ L,nO t t.rules.length=L:=⟨_,rfl⟩;rw[hL]at eG hok;simp only[hL];repeat' first|simp (disch:=omega) only[go_sem,au,aA,aB,eG]|refine aq ?_|refine ak ?_ ?_<;>intro hw<;>try omega|fail
   rw[<-hE,hok];exact bq (kT (View.nU (.cons (.refl _ rfl) (.cons (.refl _ (eT _)) (.cons (.refl _ (eT _)) (.cons (.refl _ rfl) (.cons (.refl _ rfl) (.cons (.refl _ (oM _)) (.cons (View.vec rfl (by simp[eG]) (by simp[eG]) (Ld _)) (.nil _))))))))))
def hU(a b:cI): Bool:=a.name==b.name && decide (a.kind=b.kind) && gx (fun x y=>x==y) a.order b.order
def jT(a b:dO): Bool:=gx (fun x y=>x==y) a.cells b.cells && gx (fun x y=>x==y) a.outs b.outs
def iX(a b:Table): Bool:=a.name==b.name && decide (a.bA=b.bA) && decide (a.agg=b.agg) && gx hU a.ins b.ins && gx hU a.outs b.outs && gx jT a.rules b.rules
def LL(l:List cI): Prop:=l.length<=2 ^ 60/\ ∀ c ∈ l,c.order.length<=2 ^ 60
def WJ(r:dO): Prop:=r.cells.length<=2 ^ 60/\r.outs.length<=2 ^ 60
def Ik(t:Table): Prop:=LL t.ins/\LL t.outs/\t.rules.length<=2 ^ 60/\ ∀ r ∈ t.rules,WJ r
def BG(a b:cI)(ha:a.order.length<=2 ^ 60)(hb:b.order.length<=2 ^ 60): ai Tryz.prog jC [bE a,bE b] (.bool (hU a b)):=by
 have c:=Ai a.order b.order ha hb;have hS:hU a b=(a.name==b.name && decide (a.kind=b.kind) && gx (fun x y=>x==y) a.order b.order):=rfl;rw[hS];clear hS;generalize gx (fun x y=>x==y) a.order b.order=v at *;simp only[bE,cH]at c ⊢;refine ai.aG (HG (by simp) ?_) (by simp);unfold yC aP;intro Q au aA aB;repeat' first|refine aq ?_|refine aC c ?_|refine ak ?_ ?_<;>intro hw<;>try omega|fail
 all_goals (refine aM ?_ rfl;refine congrArg AV.bool ?_;rw[aV];simp_all)
def QZ(a b:dO)(ha:WJ a)(hb:WJ b): ai Tryz.prog pz [cN a,cN b] (.bool (jT a b)):=by
 have c1:=yK a.cells b.cells ha.1 hb.1;have c2:=yK a.outs b.outs ha.2 hb.2;have hS:jT a b=(gx (fun x y=>x==y) a.cells b.cells && gx (fun x y=>x==y) a.outs b.outs):=rfl;rw[hS];clear hS;generalize gx (fun x y=>x==y) a.cells b.cells=v at *;generalize gx (fun x y=>x==y) a.outs b.outs=u at *;simp only[cN,eR]at c1 c2 ⊢;refine ai.aG (Ky (by simp) ?_) (by simp);unfold Bv aP;intro Q au aA aB;repeat' first|refine aq ?_|refine aC c1 ?_|refine aC c2 ?_|refine ak ?_ ?_<;>intro hw<;>try omega|fail
 all_goals (refine aM ?_ rfl;refine congrArg AV.bool ?_;rw[aV];simp_all)
def BH(l m:List cI)(hl:LL l)(hm:LL m): ai Tryz.prog nL [bB l,bB m] (.bool (gx hU l m)):=by
 obtain⟨hl1,pX⟩:=hl;obtain⟨zR,Kb⟩:=hm;simp only[bB];refine ai.aG (HF (by simp) ?_) (by simp);unfold yA aP;intro Q au aA aB;repeat' first|refine aq ?_|refine ak ?_ ?_<;>intro hw<;>try omega|fail
 ·refine aM ?_ rfl;rw[ou (by omega)]
 have hlm:l.length=m.length:=by omega
 with_reducible refine bn [4,5,11,12,13,14,15,16,17,18,19,20,21,22,23,24,25,26,27,28,29,30,31,32,33,34,35,36,37,38,39,40,41,42,43,44,45,46,47,48,49,50,51,52,53,54] (fun i:Nat=>[(5,I i)]) (fun _=>[]) (fun i=>i<=l.length/\ ∀ k,k<i->hU (l.getD k default) (m.getD k default)=true) (fun i=>l.length-i) (0) ?_ ?_ ?_ ?_
 ·simp
 ·rfl
 ·exact at_
 rintro i r ⟨h1,h2⟩;by_cases hi:i<l.length
 ·have hi':i<m.length:=by omega
  have hne:hU (l.getD i default) (m.getD i default)=false->gx hU l m=false:=fun h=>rq hi h hi';have bY:=fun he=>bf h2 (i:=i) he;have c:=Jy (l.getD i default).order (m.getD i default).order (pX _ (a_ hi)) (Kb _ (a_ hi'));obtain⟨a,haq⟩:∃ t,l.getD i default=t:=⟨_,rfl⟩;obtain⟨b,hbq⟩:∃ t,m.getD i default=t:=⟨_,rfl⟩;rw[haq]at hne bY c;rw[hbq]at hne bY c;simp only[hU]at hne bY;generalize gx (fun x y=>x==y) a.order b.order=v at *;simp only[cH]at c;repeat' first|simp (disch:=omega) only[go_sem,au,aA,aB,haq,hbq]|refine aq ?_|refine aC c ?_|refine ak ?_ ?_<;>intro hw<;>try omega|fail
  all_goals first
   |(refine aM ?_ rfl;rw[hne (by clear hne bY;simp_all)];done)
   | (refine ⟨i + 1, ?_, ?_, ?_, bJ, at_⟩ <;> (try dsimp only)
      ·exact⟨by omega,bY (by clear hne bY;simp_all)⟩
      ·omega
      all_goals (first|rfl|(simp[go_sem];done)))
   | exact aY
 ·repeat' first|refine aq ?_|refine ak ?_ ?_<;>intro hw<;>try omega|fail
  refine aM ?_ rfl;rw[ow hlm (fun k hk=>h2 k (by omega))]
def FF(a b:Table)(ha:Ik a)(hb:Ik b): ai Tryz.prog qW [bS a,bS b] (.bool (iX a b)):=by
 have c1:=uJ jC [] rfl hU a.ins b.ins (fun k h1 h2=>BG _ _ (ha.1.2 _ (a_ h1)) (hb.1.2 _ (a_ h2))) (by have:=ha.1.1;omega) (by have:=hb.1.1;omega);have c2:=uJ jC [] rfl hU a.outs b.outs (fun k h1 h2=>BG _ _ (ha.2.1.2 _ (a_ h1)) (hb.2.1.2 _ (a_ h2))) (by have:=ha.2.1.1;omega) (by have:=hb.2.1.1;omega);have c3:=GX pz [] rfl jT a.rules b.rules (fun k h1 h2=>QZ _ _ (ha.2.2.2 _ (a_ h1)) (hb.2.2.2 _ (a_ h2))) (by have:=ha.2.2.1;omega) (by have:=hb.2.2.1;omega);have hS:iX a b=(a.name==b.name && decide (a.bA=b.bA) && decide (a.agg=b.agg) && gx hU a.ins b.ins && gx hU a.outs b.outs && gx jT a.rules b.rules):=rfl;generalize gx hU a.ins b.ins=v1 at *;generalize gx hU a.outs b.outs=v2 at *;generalize gx jT a.rules b.rules=v3 at *;obtain⟨E,hE⟩:∃ E,iX a b=E:=⟨_,rfl⟩;rw[hE]at hS ⊢;clear hE;simp only[bS,dy,bB,cW]at c1 c2 c3 ⊢;refine ai.aG (RO (by simp) ?_) (by simp);unfold IW aP;intro Q au aA aB;dsimp (config:= { zeta:=true }) only;repeat' first|refine aq ?_|refine aC c1 ?_|refine aC c2 ?_|refine aC c3 ?_|refine ak ?_ ?_<;>intro hw<;>try omega|fail
 all_goals first
  | exact aY
  |(refine aM ?_ rfl;refine congrArg AV.bool ?_;rw[hS,aV];simp_all;done)
def Q0(a b:Table)(ha:Ik a)(hb:Ik b): ai Tryz.prog xh [bS a,bS b] (.bool (iX a b)):=by
 obtain⟨a1,a2,a3,a4⟩:=ha;obtain⟨b1,b2,b3,b4⟩:=hb;have c1:=BH a.ins b.ins a1 b1;have c2:=BH a.outs b.outs a2 b2;obtain⟨E,hE⟩:∃ E,iX a b=E:=⟨_,rfl⟩;rw[hE];have hS:(a.name==b.name && decide (a.bA=b.bA) && decide (a.agg=b.agg) && gx hU a.ins b.ins && gx hU a.outs b.outs && gx jT a.rules b.rules)=E:=hE;clear hE;generalize gx hU a.ins b.ins=v1 at c1 hS;generalize gx hU a.outs b.outs=v2 at c2 hS;simp only[bS,dy,bB,cW]at c1 c2 ⊢;by_cases h0:a.name=b.name/\a.bA=b.bA/\a.agg=b.agg/\a.rules.length=b.rules.length
 case neg =>
  have hE:E=false:=by
   rw[<-hS,Bool.eq_false_iff];intro h;simp only[aF,beq_iff_eq,decide_eq_true_eq]at h;obtain⟨⟨⟨⟨⟨g1,g2⟩,g3⟩,g4⟩,g5⟩,g6⟩:=h;refine h0 ⟨g1,g2,g3,?_⟩;by_cases hl:a.rules.length=b.rules.length
   ·exact hl
   ·rw[ou hl]at g6;cases g6
  subst hE;clear hS c1 c2;refine ai.aG (IK (by simp) ?_) (by simp);unfold Da aP;intro Q au aA aB;repeat' first|refine aq ?_|refine ak ?_ ?_<;>intro hw<;>try omega|fail
  all_goals first
   | exact aM rfl rfl
   | exact aY
   |(exfalso;apply h0;refine⟨?_,?_,?_,?_⟩<;>first|assumption|omega|simp_all)
 obtain⟨g1,g2,g3,hlm⟩:=h0;rw[g1,g2,g3,beq_self_eq_true,decide_eq_true rfl,decide_eq_true rfl,dA,dA,dA]at hS;refine ai.aG (IK (by simp) ?_) (by simp);unfold Da aP;intro Q au aA aB;repeat' first|simp (disch:=omega) only[go_sem,au,aA,aB,g1,g2,g3]|refine aq ?_|refine ak ?_ ?_<;>intro hw<;>try omega|fail
 all_goals first|(exfalso;omega)|exact aY|skip
 with_reducible refine bn [4,5,34,35,36,37,38,39,40,41,42,43,44,45,46,47,48,49,50,51,52,53,54,55,56,57,58,59,60,61,62,63,64,65,66,67,68,69,70] (fun i:Nat=>[(5,I i)]) (fun _=>[.cells [.str b.name,.aK false EC (a.ins.map bE),.aK false EC (a.outs.map bE),I b.bA,I b.agg,.aK false ER (a.rules.map cN)],.cells [.str b.name,.aK false EC (b.ins.map bE),.aK false EC (b.outs.map bE),I b.bA,I b.agg,.aK false ER (b.rules.map cN)]]) (fun i=>i<=a.rules.length/\ ∀ k,k<i->jT (a.rules.getD k default) (b.rules.getD k default)=true) (fun i=>a.rules.length-i) (0) ?_ ?_ ?_ ?_
 ·simp
 ·rfl
 ·exact at_
 rintro i r ⟨h1,h2⟩;by_cases hi:i<a.rules.length
 ·have hi':i<b.rules.length:=by omega
  have k1:=E9 _ _ (a4 _ (a_ hi)).1 (b4 _ (a_ hi')).1;have k2:=E9 _ _ (a4 _ (a_ hi)).2 (b4 _ (a_ hi')).2;have hne:=fun h=>rq (p:=jT) hi h hi';have bY:=fun he=>bf (q:=fun k=>jT (a.rules.getD k default) (b.rules.getD k default)=true) h2 (i:=i) he;obtain⟨x,hx⟩:∃ x,a.rules.getD i default=x:=⟨_,rfl⟩;obtain⟨y,hy⟩:∃ y,b.rules.getD i default=y:=⟨_,rfl⟩;rw[hx]at k1 k2 hne bY;rw[hy]at k1 k2 hne bY;simp only[jT]at hne bY;generalize gx (fun x y=>x==y) x.cells y.cells=w1 at k1 hne bY;generalize gx (fun x y=>x==y) x.outs y.outs=w2 at k2 hne bY;simp only[eR]at k1 k2;repeat' first|simp (disch:=omega) only[go_sem,au,aA,aB,hx,hy]|refine aq ?_|refine aC k1 ?_|refine aC k2 ?_|refine ak ?_ ?_<;>intro hw<;>try omega|fail
  all_goals first
   | exact aY
   |(refine aM ?_ rfl;rw[<-hS,hne (by clear hne bY hS;simp_all),eA];done)
   | (refine ⟨i + 1, ?_, ?_, ?_, bJ, at_⟩ <;> (try dsimp only)
      ·exact⟨by omega,bY (by clear hne bY hS;simp_all)⟩
      ·omega
      all_goals (first|rfl|(simp[go_sem];done)))
 ·rw[ow hlm (fun k hk=>h2 k (by omega)),Bool.and_true]at hS;repeat' first|refine aq ?_|refine aC c1 ?_|refine aC c2 ?_|refine ak ?_ ?_<;>intro hw<;>try omega|fail
  all_goals first
   | exact aY
   |(refine aM ?_ rfl;rw[<-hS];simp_all;done)
def kH(l:kP)(m:Nat): aJ × Int:=Ij (l.cells.getD m default)
def nP(l:kP)(m:Nat): aJ × Int:=Cc (l.outs.getD m default)
def bF(l:kP)(n:Nat): List aJ:=(List.range n).map fun m=>(kH l m).1
def qL(l:kP)(n:Nat): List aJ:=(List.range n).map fun m=>(nP l m).1
def NJ(l:kP)(n:Nat): bF l (n+1)=bF l n++[(kH l n).1]:=by simp[bF,List.range_succ]
def Q1(l:kP)(n:Nat): qL l (n+1)=qL l n++[(nP l n).1]:=by simp[qL,List.range_succ]
def Il(l:kP)(n:Nat): (bF l n).length=n:=by simp[bF]
def LM(l:kP)(n:Nat): (qL l n).length=n:=by simp[qL]
def DS(w:Nat)(l:kP): dO × Int × Int :=
 match(List.range l.cells.length).find? (fun m=>(kH l m).2 != 0)with
 | some m=>(⟨bF l l.cells.length,qL l l.outs.length⟩,m,(kH l m).2)
 | none => match (List.range l.outs.length).find? (fun m => (nP l m).2 != 0) with
   | some m=>(⟨bF l l.cells.length,qL l l.outs.length⟩,w+m,(nP l m).2)
   | none=>(⟨bF l l.cells.length,qL l l.outs.length⟩,0,0)
def bM: Table:=⟨[],[],[],0,0,[]⟩
def Im(t:Table)(n:Nat): kP:=(eE t).1.lines.getD n default
def n6(t:Table)(n:Nat): dO × Int × Int:=DS t.ins.length (Im t n)
def vX(t:Table)(n:Nat): List dO:=(List.range n).map fun k=>(n6 t k).1
def iK(t:Table): Table × Int × Int × Int :=
 if(eE t).2.2.2≠0 then(bM,(eE t).2.1,(eE t).2.2.1,(eE t).2.2.2)
 else match(List.range (eE t).1.lines.length).find? (fun n=>(n6 t n).2.2 != 0)with
 | some n=>(bM,n,(n6 t n).2.1,(n6 t n).2.2)
 | none=>({ t with rules:=vX t (eE t).1.lines.length },0,0,0)
def Ze(r:Table × Int × Int × Int): AV:= .bX [bS r.1,I r.2.1,I r.2.2.1,I r.2.2.2]
def Q2(t:Table)(n:Nat): vX t (n+1)=vX t n++[(n6 t n).1]:=by simp[vX,List.range_succ]
def tJ(t:Table)(n:Nat): (vX t n).length=n:=by simp[vX]
def WK(w:Nat)(l:kP): (DS w l).1=⟨bF l l.cells.length,qL l l.outs.length⟩:=by
 unfold DS;split
 ·rfl
 ·split<;>rfl
def Tz(w:Nat){l:kP}{m:Nat}(hm:m<l.cells.length)(h:∀ j,j<m->(kH l j).2=0)(he:(kH l m).2≠0): (DS w l).2=((m:Int),(kH l m).2):=by
 unfold DS;rw[zq (i:=m) hm (fun j hj=>by simp[h j hj]) (by simp[he])]
def WL(w:Nat){l:kP}(hc:∀ j,j<l.cells.length->(kH l j).2=0){m:Nat}(hm:m<l.outs.length)(h:∀ j,j<m->(nP l j).2=0)(he:(nP l m).2≠0): (DS w l).2=((w:Int)+m,(nP l m).2):=by
 unfold DS;rw[oR (fun j hj=>by simp[hc j hj])];dsimp only;rw[zq (i:=m) hm (fun j hj=>by simp[h j hj]) (by simp[he])]
def Zf(w:Nat){l:kP}(hc:∀ j,j<l.cells.length->(kH l j).2=0)(h:∀ j,j<l.outs.length->(nP l j).2=0): (DS w l).2=(0,0):=by
 unfold DS;rw[oR (fun j hj=>by simp[hc j hj])];dsimp only;rw[oR (fun j hj=>by simp[h j hj])]
def zG{t:Table}(h:(eE t).2.2.2≠0): iK t=(bM,(eE t).2.1,(eE t).2.2.1,(eE t).2.2.2):=by unfold iK;rw[if_pos h]
def Q3{t:Table}(h0:(eE t).2.2.2=0){n:Nat}(hn:n<(eE t).1.lines.length)(h:∀ j,j<n->(n6 t j).2.2=0)(he:(n6 t n).2.2≠0): iK t=(bM,(n:Int),(n6 t n).2.1,(n6 t n).2.2):=by
 unfold iK;rw[if_neg (by omega),zq (i:=n) hn (fun j hj=>by simp[h j hj]) (by simp[he])]
def LN{t:Table}(h0:(eE t).2.2.2=0)(h:∀ j,j<(eE t).1.lines.length->(n6 t j).2.2=0): iK t=({ t with rules:=vX t (eE t).1.lines.length },0,0,0):=by
 unfold iK;rw[if_neg (by omega),oR (fun j hj=>by simp[h j hj])]
def ab0(l:kP): Prop:=(l.cells.length<=2 ^ 30/\ ∀ c ∈ l.cells,Bn c)/\l.outs.length<=2 ^ 30/\ ∀ x ∈ l.outs,ic x/\eK x<=2 ^ 30
def yj{t:Table}(h:(eE t).2.2.2=0): iS t=0/\(∀ j,j<t.rules.length->(j7 t j).2.2=0)/\eE t=((⟨t,nO t t.rules.length⟩:Ready),(0:Int),(0:Int),(0:Int)):=by
 by_cases hf:iS t=0
 ·have hl : ∀ j, j < t.rules.length -> (j7 t j).2.2 = 0 := by
   cases hq:(List.range t.rules.length).find? (fun k=>(j7 t k).2.2 != 0)with
   | some k =>
     exfalso;unfold eE at h;rw[if_neg (by omega),hq]at h;have:=eX hq;simp at this;exact this h
   | none =>
     intro j hj;have:=dG.1 hq j (gu.2 hj);simpa using this
  exact⟨hf,hl,OZ hf hl⟩
 ·rw[FE hf]at h;exact absurd h hf
def ab1(t:Table)(r:dO)(h1:t.ins.length<=2 ^ 30)(h2:t.outs.length<=2 ^ 30)(hr:r.cells.length<=2 ^ 30)(ho:r.outs.length<=2 ^ 30): ab0 (lJ t r).1:=by
 have hc:∀ n,n<=2 ^ 30->(mo t r n).length<=2 ^ 30/\ ∀ c ∈ mo t r n,Bn c:=fun n hn=>by
  refine⟨by rw[Ak];exact hn,fun c hc=>?_⟩;obtain⟨k,_,rfl⟩:=ek.1 hc;exact aaH _
 have hx:∀ n,n<=2 ^ 30->(r9 t r n).length<=2 ^ 30/\ ∀ x ∈ r9 t r n,ic x/\eK x<=2 ^ 30:=fun n hn=>by
  refine⟨by rw[OW];exact hn,fun x hx=>?_⟩;obtain⟨k,_,rfl⟩:=ek.1 hx;exact Fa _
 have hk:∀ {n k:Nat} {p:Nat->Bool},(List.range n).find? p=some k->k<n:=fun h=>gu.1 (fK h);unfold lJ;split
 ·exact⟨⟨by simp,by simp⟩,by simp,by simp⟩
 split
 ·rename_i k hq;have:=hk hq;exact⟨hc _ (by omega),by simp,by simp⟩
 split
 ·rename_i k hq;have:=hk hq;exact⟨hc _ hr,hx _ (by omega)⟩
 ·exact⟨hc _ hr,hx _ ho⟩
def FG{t:Table}(h:mh t)(h0:(eE t).2.2.2=0): (eE t).1.lines.length=t.rules.length/\ ∀ n,ab0 (Im t n):=by
 obtain⟨_,_,hm⟩:=yj h0;refine⟨by rw[hm];exact wR _ _,fun n=>?_⟩;unfold Im;rw[hm];dsimp only;by_cases hn:n<t.rules.length
 ·have : (nO t t.rules.length).getD n default = (j7 t n).1 := by
   unfold nO;rw[aE,List.getElem?_map,List.getElem?_range hn];rfl
  rw[this];have hr:=h.2.2.2.2 _ (a_ hn);exact ab1 t _ h.2.1.1 h.2.2.1.1 hr.1.1 hr.2.1
 ·rw[qI (by rw[wR];omega)];exact⟨⟨Nat.zero_le _,fun c hc=>by cases hc⟩,Nat.zero_le _,fun c hc=>by cases hc⟩
def nR(L:Nat)(S:aj)(v:AV)(xs:List aJ): Prop:=(xs=[]/\v = .ae)\/(xs≠[]/\ ∃ q,L<=q/\v = .own E1 q xs.length 0 xs.length/\S[q]? = some (.vec E1 (xs.map cS)))
def nR.nil(L:Nat)(S:aj): nR L S .ae []:= .inl ⟨rfl,rfl⟩
def nR.scalar{L:Nat}{S:aj}{v:AV}{xs:List aJ}(h:nR L S v xs): v.scalar=true:=by
 rcases h with⟨_,rfl⟩|⟨_,q,_,rfl,_⟩<;>rfl
def nR.view{L:Nat}{S:aj}{v:AV}{xs:List aJ}(h:nR L S v xs): View S v (eR xs):=by
 rcases h with⟨rfl,rfl⟩|⟨_,q,_,rfl,hq⟩
 ·exact View.ae _
 ·exact View.vec hq (by simp) (by simp) (GI _)
def nR.keep{L L':Nat}{S S':aj}{v:AV}{xs:List aJ}(hL:L'<=L)(hs:∀ (q:Nat) (ys:List AV),L<=q->S[q]? = some (.vec E1 ys)->S'[q]? = some (.vec E1 ys))(h:nR L S v xs): nR L' S' v xs:=by
 rcases h with h|⟨h1,q,h2,h3,h4⟩
 ·exact .inl h
 ·exact .inr ⟨h1,q,cD hL h2,h3,hs _ _ h2 h4⟩
def Sr(S:aj)(a:AV)(r:dO): Prop:= ∃ v w,a = .agg [v,w]/\nR 0 S v r.cells/\nR 0 S w r.outs
def gI(S:aj)(rs:List AV)(l:List dO): Prop:=rs.length=l.length/\ ∀ j,j<l.length->Sr S (rs.getD j .undef) (l.getD j default)
def gI.nil(S:aj): gI S [] []:=⟨rfl,fun j hj=>by cases hj⟩
def gI.keep{S S':aj}{rs:List AV}{l:List dO}(hs:∀ (q:Nat) (ys:List AV),S[q]? = some (.vec E1 ys)->S'[q]? = some (.vec E1 ys))(h:gI S rs l): gI S' rs l:=by
 refine⟨h.1,fun j hj=>?_⟩;obtain⟨v,w,h1,h2,h3⟩:=h.2 j hj;exact⟨v,w,h1,h2.keep (Nat.le_refl _) (fun q ys _=>hs q ys),h3.keep (Nat.le_refl _) (fun q ys _=>hs q ys)⟩
def gI.snoc{S:aj}{rs:List AV}{l:List dO}{a:AV}{r:dO}(h:gI S rs l)(ha:Sr S a r): gI S (rs++[a]) (l++[r]):=by
 refine⟨by simp[h.1],fun j hj=>?_⟩;have hl:=h.1;rw[List.length_append,List.length_cons,List.length_nil]at hj;by_cases hjl:j<l.length
 ·rw[aE,aE,List.getElem?_append_left (by omega),List.getElem?_append_left hjl,<-aE,<-aE];exact h.2 j hjl
 ·obtain rfl:j=l.length:=by omega
  rw[aE,aE,<-hl,bU (Nat.le_refl _),hl,bU (Nat.le_refl _)];simpa using ha
def gI.view{S:aj}{rs:List AV}{l:List dO}(h:gI S rs l): aW S rs (l.map cN):=by
 refine⟨by simp[h.1],fun j hj=>?_⟩;have hl:=h.1;obtain⟨v,w,h1,h2,h3⟩:=h.2 j (by omega);rw[h1,getD_map _ _ _ (by omega)];exact View.nU (.cons h2.view (.cons h3.view (.nil _)))
def tK(L:Nat)(S:aj)(v:AV)(l:List dO): Prop:=(l=[]/\v = .ae)\/(l≠[]/\ ∃ q rs,L<=q/\v = .own ER q l.length 0 l.length/\S[q]? = some (.vec ER rs)/\gI S rs l)
def tK.nil(L:Nat)(S:aj): tK L S .ae []:= .inl ⟨rfl,rfl⟩
def tK.view{L:Nat}{S:aj}{v:AV}{l:List dO}(h:tK L S v l): View S v (cW l):=by
 rcases h with⟨rfl,rfl⟩|⟨_,q,rs,_,rfl,hq,hr⟩
 ·exact View.ae _
 ·exact View.afE hq hr.1.symm hr.1.symm hr.view
def tK.scalar{L:Nat}{S:aj}{v:AV}{l:List dO}(h:tK L S v l): v.scalar=true:=by
 rcases h with⟨_,rfl⟩|⟨_,q,_,_,rfl,_⟩<;>rfl
def tK.keep{L:Nat}{S S':aj}{v:AV}{l:List dO}(hs:∀ (q:Nat) (o:aX),S[q]? = some o->(∀ cs,o≠ .cells cs)->S'[q]? = some o)(h:tK L S v l): tK L S' v l:=by
 rcases h with h|⟨h1,q,rs,h2,h3,h4,h5⟩
 ·exact .inl h
 ·exact .inr ⟨h1,q,rs,h2,h3,hs _ _ h4 (fun cs=>by simp),h5.keep (fun q ys hq=>hs q _ hq (fun cs=>by simp))⟩
end Go.Proofs.YtmbgnaoilncbnaaGreatDoor
