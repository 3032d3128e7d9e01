/- Part. -/
import Derived.Test.YtcjcnfcedihckaaGreatDoorV29
set_option linter.all false
set_option maxHeartbeats 4000000
namespace Go.Proofs.YtcjcnfcedihckaaGreatDoor
open Go.AM
set_option maxRecDepth 4000
def jm(t:Table)(k:Nat): j4 × Int × Int:=j_ t (t.rules.getD k default)
def lF(t:Table)(n:Nat): List j4:=(List.range n).map fun k=>(jm t k).1
def Cc: Ready:=⟨⟨[],[],[],0,0,[]⟩,[]⟩
def dR(t:Table): Ready × Int × Int × Int :=
 if iu t≠0 then(Cc,-1,0,iu t)
 else match(List.range t.rules.length).find? (fun k=>(jm t k).2.2 != 0)with
 | some k=>(Cc,k,(jm t k).2.1,(jm t k).2.2)
 | none=>(⟨t,lF t t.rules.length⟩,0,0,0)
def Ke(r:Ready × Int × Int × Int): AV:= .bJ [vK r.1,I r.2.1,I r.2.2.1,I r.2.2.2]
def G5(t:Table)(n:Nat): lF t (n+1)=lF t n++[(jm t n).1]:=by simp[lF,List.range_succ]
def oI(t:Table)(n:Nat): (lF t n).length=n:=by simp[lF]
def xD{t:Table}(h:iu t≠0): dR t=(Cc,(-1:Int),(0:Int),iu t):=by unfold dR;rw[if_pos h]
def G6{t:Table}(h0:iu t=0){k:Nat}(hk:k<t.rules.length)(h:∀ j,j<k->(jm t j).2.2=0)(he:(jm t k).2.2≠0): dR t=(Cc,(k:Int),(jm t k).2.1,(jm t k).2.2):=by
 unfold dR;rw[if_neg (by omega),sZ (i:=k) hk (fun j hj=>by simp[h j hj]) (by simp[he])]
def Fb{t:Table}(h0:iu t=0)(h:∀ j,j<t.rules.length->(jm t j).2.2=0): dR t=((⟨t,lF t t.rules.length⟩:Ready),(0:Int),(0:Int),(0:Int)):=by
 unfold dR;rw[if_neg (by omega),l8 (fun j hj=>by simp[h j hj])]
def G7{t:Table}(h:iu t=0): 0<t.ins.length:=by
 unfold iu at h;split at h
 ·omega
 split at h
 ·omega
 ·rename_i h1 h2;exact(wZ (by omega:jk t.ins false=0)).2
def jW{σ : ae}{a E:AV}{n m k:Int}(h:View σ a E): bf σ [a,I n,I m,I k] [E,I n,I m,I k]:= .cons h (.cons (.refl _ rfl) (.cons (.refl _ rfl) (.cons (.refl _ rfl) (.nil _))))
def u_(σ : ae): View σ (.agg [.str [],.ai,.ai,I 0,I 0,.ai,.ai]) (vK Cc) :=
 View.om (.cons (.refl _ rfl) (.cons (.ai _) (.cons (.ai _) (.cons (.refl _ rfl) (.cons (.refl _ rfl) (.cons (.ai _) (.cons (.ai _) (.nil _))))))))
def O6(t:Table)(h:l7 t): aH aE 113 [cD t] (Ke (dR t)):=by
 have cf:=Nn t h;obtain⟨E,hE⟩:∃ E,Ke (dR t)=E:=⟨_,rfl⟩;rw[hE];have hl:=fun(h0:0<t.ins.length) k (hk:k<t.rules.length)=>O5 t (t.rules.getD k default) h.2.1.1 h.2.2.1.1 h0 (h.2.2.2.2 _ (aV hk));have V7:=h.2.2.2.1;simp only[cD,fg,bP,dV]at cf hl ⊢;by_cases hf:iu t≠0
 ·have hm:=xD hf;obtain⟨f,Ab⟩:∃ f,iu t=f:=⟨_,rfl⟩;rw[Ab]at cf hm hf;refine aJ xY ?_;intro Q au aA aB;repeat' first|refine aq ?_|refine ak ?_ ?_<;>intro hw<;>try omega|fail
  all_goals first
   | exact bh
   |(rw[<-hE,hm];exact bG (jW (u_ _)))
 have qW:iu t=0:=by omega
 have hi0:0<t.ins.length:=G7 qW;rw[qW]at cf
 replace hl:=hl hi0
 clear hf;refine aJ xY ?_;intro Q au aA aB;repeat' first|refine aq ?_|refine ak ?_ ?_<;>intro hw<;>try omega|fail
 all_goals first|exact bh|skip
 with_reducible refine bn [3,4,5,8,9,10,11,12,24,25,26,27,28,29,30,31,32,33,34,35,36,37,38,39,40,41,42,43,44,45,46,47,48] (fun q:Nat × ae=>[(24,I q.1)]) (fun q=>q.2) (fun q=>q.1<=t.rules.length/\(∀ k,k<q.1->(jm t k).2.2=0)/\(q.1=0/\q.2=[.cells [.str t.name,.aF false EC (t.ins.map bF),.aF false EC (t.outs.map bF),I t.aZ,I t.agg,.aF false ER (t.rules.map cn)],.cells [.str [],.ai,.ai,I 0,I 0,.ai,.ai],.cells [.str t.name,.aF false EC (t.ins.map bF),.aF false EC (t.outs.map bF),I t.aZ,I t.agg,.aF false ER (t.rules.map cn),.ai]]\/0<q.1/\ ∃ b1 b2 τ,q.2 = .cells [.str t.name,.aF false EC (t.ins.map bF),.aF false EC (t.outs.map bF),I t.aZ,I t.agg,.aF false ER (t.rules.map cn)]:: .cells [.str [],.ai,.ai,I 0,I 0,.ai,.ai]:: .cells [.str t.name,.aF false EC (t.ins.map bF),.aF false EC (t.outs.map bF),I t.aZ,I t.agg,.aF false ER (t.rules.map cn),.own ER 5 q.1 0 q.1]::b1::b2:: .vec ER ((lF t q.1).map kN):: τ)) (fun q=>t.rules.length-q.1) (0,_) ⟨bD _,fun k hk=>by omega,.inl ⟨rfl,rfl⟩⟩ rfl ?_ ?_
 ·exact at_
 rintro⟨k,S⟩ rr ⟨h1,h2,h3⟩;dsimp only at h1 h2 h3;by_cases oc:k<t.rules.length
 ·have c:=hl k oc;have iJ:=fun he=>G6 qW oc h2 he;have fK:=G5 t k;have eo:=oI t k;have eN:=fun he=>aY (q:=fun j=>(jm t j).2.2=0) h2 he;have hlr:jm t k=j_ t (t.rules.getD k default):=rfl;obtain⟨a,ha⟩:∃ a,jm t k=a:=⟨_,rfl⟩;rw[ha]at iJ fK eN hlr;rw[<-hlr]at c;obtain⟨ru,Nq⟩:∃ ru,t.rules.getD k default=ru:=⟨_,rfl⟩;rw[Nq]at c;clear hlr;simp only[Qk,kN,nF,cg,cn,bI]at c;rcases h3 with⟨rfl,rfl⟩|⟨hk,b1,b2,τ,rfl⟩
  ·repeat' first|simp (disch:=omega) only[go_sem,au,aA,aB,Nq]|refine aq ?_|refine d_ c ?_|refine ak ?_ ?_<;>intro hw<;>try omega|fail
   ·rw[<-hE,iJ (by assumption)];exact bG (jW (u_ _))
   ·refine⟨(1,[.cells [.str t.name,.aF false EC (t.ins.map bF),.aF false EC (t.outs.map bF),I t.aZ,I t.agg,.aF false ER (t.rules.map cn)],.cells [.str [],.ai,.ai,I 0,I 0,.ai,.ai],.cells [.str t.name,.aF false EC (t.ins.map bF),.aF false EC (t.outs.map bF),I t.aZ,I t.agg,.aF false ER (t.rules.map cn),.own ER 5 1 0 1],.cells [.aF false E1 (ru.cells.map bj),.aF false E1 (ru.outs.map bj)],.cells [.aF false EC (a.1.cells.map bK),.aF false EX (a.1.outs.map aI)],.vec ER [.agg [.aF false EC (a.1.cells.map bK),.aF false EX (a.1.outs.map aI)]]]),?_,?_,?_,bL,at_⟩<;>(try dsimp only)
    ·refine⟨by omega,eN (by assumption),.inr ⟨by omega,.cells [.aF false E1 (ru.cells.map bj),.aF false E1 (ru.outs.map bj)],.cells [.aF false EC (a.1.cells.map bK),.aF false EX (a.1.outs.map aI)],[],?_⟩⟩;rw[fK];rfl
    ·omega
    all_goals first|rfl|(simp[go_sem];done)
  ·obtain⟨L,hL⟩:∃ L,lF t k=L:=⟨_,rfl⟩;rw[hL]at eo fK;simp only[hL];repeat' first|simp (disch:=omega) only[go_sem,au,aA,aB,Nq,eo]|refine aq ?_|refine d_ c ?_|refine ak ?_ ?_<;>intro hw<;>try omega|fail
   ·rw[<-hE,iJ (by assumption)];exact bG (jW (u_ _))
   ·refine⟨(k+1,.cells [.str t.name,.aF false EC (t.ins.map bF),.aF false EC (t.outs.map bF),I t.aZ,I t.agg,.aF false ER (t.rules.map cn)]:: .cells [.str [],.ai,.ai,I 0,I 0,.ai,.ai]:: .cells [.str t.name,.aF false EC (t.ins.map bF),.aF false EC (t.outs.map bF),I t.aZ,I t.agg,.aF false ER (t.rules.map cn),.own ER 5 (k+1) 0 (k+1)]::b1::b2:: .vec ER (L.map kN++[.agg [.aF false EC (a.1.cells.map bK),.aF false EX (a.1.outs.map aI)]])::(τ++[.cells [.aF false E1 (ru.cells.map bj),.aF false E1 (ru.outs.map bj)]]++[.cells [.aF false EC (a.1.cells.map bK),.aF false EX (a.1.outs.map aI)]])),?_,?_,?_,bL,at_⟩<;>(try dsimp only)
    ·refine⟨by omega,eN (by assumption),.inr ⟨by omega,b1,b2,τ++[.cells [.aF false E1 (ru.cells.map bj),.aF false E1 (ru.outs.map bj)]]++[.cells [.aF false EC (a.1.cells.map bK),.aF false EX (a.1.outs.map aI)]],?_⟩⟩;rw[fK,ek];(first|rfl|(simp[kN,nF,cg];done))
    ·omega
    all_goals first|rfl|(simp[go_sem];done)
 ·obtain rfl:k=t.rules.length:=by omega
  have hok:=Fb qW h2;rcases h3 with⟨h0,rfl⟩|⟨hk,b1,b2,τ,rfl⟩
  ·repeat' first|refine aq ?_|refine ak ?_ ?_<;>intro hw<;>try omega|fail
   rw[<-hE,hok,h0];exact bG (jW (View.om (.cons (.refl _ rfl) (.cons (.refl _ (e8 _)) (.cons (.refl _ (e8 _)) (.cons (.refl _ rfl) (.cons (.refl _ rfl) (.cons (.refl _ (o9 _)) (.cons (.ai _) (.nil _))))))))))
  ·have eo:=oI t t.rules.length;obtain⟨L,hL⟩:∃ L,lF t t.rules.length=L:=⟨_,rfl⟩;rw[hL]at eo hok;simp only[hL];repeat' first|simp (disch:=omega) only[go_sem,au,aA,aB,eo]|refine aq ?_|refine ak ?_ ?_<;>intro hw<;>try omega|fail
   rw[<-hE,hok];exact bG (jW (View.om (.cons (.refl _ rfl) (.cons (.refl _ (e8 _)) (.cons (.refl _ (e8 _)) (.cons (.refl _ rfl) (.cons (.refl _ rfl) (.cons (.refl _ (o9 _)) (.cons (View.vec rfl (by simp[eo]) (by simp[eo]) (BI _)) (.nil _))))))))))
def R1(t:Table)(h:l7 t): aH aE 133 [cD t] (Ke (dR t)):=by
 have cf:=O2 t h;obtain⟨E,hE⟩:∃ E,Ke (dR t)=E:=⟨_,rfl⟩;rw[hE];have hl:=fun(h0:0<t.ins.length) k (hk:k<t.rules.length)=>R0 t (t.rules.getD k default) h.2.1.1 h.2.2.1.1 h0 (h.2.2.2.2 _ (aV hk));have V7:=h.2.2.2.1;simp only[cD,fg,bP,dV]at cf hl ⊢;by_cases hf:iu t≠0
 ·have hm:=xD hf;obtain⟨f,Ab⟩:∃ f,iu t=f:=⟨_,rfl⟩;rw[Ab]at cf hm hf;refine aJ Ag ?_;intro Q au aA aB;repeat' first|refine aq ?_|refine ak ?_ ?_<;>intro hw<;>try omega|fail
  all_goals first
   | exact bh
   |(rw[<-hE,hm];exact bG (jW (u_ _)))
 have qW:iu t=0:=by omega
 have hi0:0<t.ins.length:=G7 qW;rw[qW]at cf
 replace hl:=hl hi0
 clear hf;refine aJ Ag ?_;intro Q au aA aB;repeat' first|refine aq ?_|refine ak ?_ ?_<;>intro hw<;>try omega|fail
 all_goals first|exact bh|skip
 with_reducible refine bn [3,4,5,8,9,10,11,20,21,22,23,24,25,26,27,28,29,30,31,32,33,34,35,36,37,38,39,40,41,42,43,44,45,46,47,48,49] (fun q:Nat × ae=>[(8,I q.1)]) (fun q=>q.2) (fun q=>q.1<=t.rules.length/\(∀ k,k<q.1->(jm t k).2.2=0)/\(q.1=0/\q.2=[.cells [.str t.name,.aF false EC (t.ins.map bF),.aF false EC (t.outs.map bF),I t.aZ,I t.agg,.aF false ER (t.rules.map cn)],.cells [.str [],.ai,.ai,I 0,I 0,.ai,.ai],.cells [.str t.name,.aF false EC (t.ins.map bF),.aF false EC (t.outs.map bF),I t.aZ,I t.agg,.aF false ER (t.rules.map cn),.ai]]\/0<q.1/\ ∃ b1 τ,q.2 = .cells [.str t.name,.aF false EC (t.ins.map bF),.aF false EC (t.outs.map bF),I t.aZ,I t.agg,.aF false ER (t.rules.map cn)]:: .cells [.str [],.ai,.ai,I 0,I 0,.ai,.ai]:: .cells [.str t.name,.aF false EC (t.ins.map bF),.aF false EC (t.outs.map bF),I t.aZ,I t.agg,.aF false ER (t.rules.map cn),.own ER 4 q.1 0 q.1]::b1:: .vec ER ((lF t q.1).map kN):: τ)) (fun q=>t.rules.length-q.1) (0,_) ⟨bD _,fun k hk=>by omega,.inl ⟨rfl,rfl⟩⟩ rfl ?_ ?_
 ·exact at_
 rintro⟨k,S⟩ rr ⟨h1,h2,h3⟩;dsimp only at h1 h2 h3;by_cases oc:k<t.rules.length
 ·have c:=hl k oc;have iJ:=fun he=>G6 qW oc h2 he;have fK:=G5 t k;have eo:=oI t k;have eN:=fun he=>aY (q:=fun j=>(jm t j).2.2=0) h2 he;have hlr:jm t k=j_ t (t.rules.getD k default):=rfl;obtain⟨a,ha⟩:∃ a,jm t k=a:=⟨_,rfl⟩;rw[ha]at iJ fK eN hlr;rw[<-hlr]at c;obtain⟨ru,Nq⟩:∃ ru,t.rules.getD k default=ru:=⟨_,rfl⟩;rw[Nq]at c;clear hlr;simp only[Qk,kN,nF,cg,cn,bI]at c;rcases h3 with⟨rfl,rfl⟩|⟨hk,b1,τ,rfl⟩
  ·repeat' first|simp (disch:=omega) only[go_sem,au,aA,aB,Nq]|refine aq ?_|refine d_ c ?_|refine ak ?_ ?_<;>intro hw<;>try omega|fail
   ·rw[<-hE,iJ (by assumption)];exact bG (jW (u_ _))
   ·refine⟨(1,[.cells [.str t.name,.aF false EC (t.ins.map bF),.aF false EC (t.outs.map bF),I t.aZ,I t.agg,.aF false ER (t.rules.map cn)],.cells [.str [],.ai,.ai,I 0,I 0,.ai,.ai],.cells [.str t.name,.aF false EC (t.ins.map bF),.aF false EC (t.outs.map bF),I t.aZ,I t.agg,.aF false ER (t.rules.map cn),.own ER 4 1 0 1],.cells [.aF false EC (a.1.cells.map bK),.aF false EX (a.1.outs.map aI)],.vec ER [.agg [.aF false EC (a.1.cells.map bK),.aF false EX (a.1.outs.map aI)]]]),?_,?_,?_,bL,at_⟩<;>(try dsimp only)
    ·refine⟨by omega,eN (by assumption),.inr ⟨by omega,.cells [.aF false EC (a.1.cells.map bK),.aF false EX (a.1.outs.map aI)],[],?_⟩⟩;rw[fK];rfl
    ·omega
    all_goals first|rfl|(simp[go_sem];done)
  ·obtain⟨L,hL⟩:∃ L,lF t k=L:=⟨_,rfl⟩;rw[hL]at eo fK;simp only[hL];repeat' first|simp (disch:=omega) only[go_sem,au,aA,aB,Nq,eo]|refine aq ?_|refine d_ c ?_|refine ak ?_ ?_<;>intro hw<;>try omega|fail
   ·rw[<-hE,iJ (by assumption)];exact bG (jW (u_ _))
   ·refine⟨(k+1,.cells [.str t.name,.aF false EC (t.ins.map bF),.aF false EC (t.outs.map bF),I t.aZ,I t.agg,.aF false ER (t.rules.map cn)]:: .cells [.str [],.ai,.ai,I 0,I 0,.ai,.ai]:: .cells [.str t.name,.aF false EC (t.ins.map bF),.aF false EC (t.outs.map bF),I t.aZ,I t.agg,.aF false ER (t.rules.map cn),.own ER 4 (k+1) 0 (k+1)]::b1:: .vec ER (L.map kN++[.agg [.aF false EC (a.1.cells.map bK),.aF false EX (a.1.outs.map aI)]])::(τ++[.cells [.aF false EC (a.1.cells.map bK),.aF false EX (a.1.outs.map aI)]])),?_,?_,?_,bL,at_⟩<;>(try dsimp only)
    ·refine⟨by omega,eN (by assumption),.inr ⟨by omega,b1,τ++[.cells [.aF false EC (a.1.cells.map bK),.aF false EX (a.1.outs.map aI)]],?_⟩⟩;rw[fK,ek];(first|rfl|(simp[kN,nF,cg];done))
    ·omega
    all_goals first|rfl|(simp[go_sem];done)
 ·obtain rfl:k=t.rules.length:=by omega
  have hok:=Fb qW h2;rcases h3 with⟨h0,rfl⟩|⟨hk,b1,τ,rfl⟩
  ·repeat' first|refine aq ?_|refine ak ?_ ?_<;>intro hw<;>try omega|fail
   rw[<-hE,hok,h0];exact bG (jW (View.om (.cons (.refl _ rfl) (.cons (.refl _ (e8 _)) (.cons (.refl _ (e8 _)) (.cons (.refl _ rfl) (.cons (.refl _ rfl) (.cons (.refl _ (o9 _)) (.cons (.ai _) (.nil _))))))))))
  ·have eo:=oI t t.rules.length;obtain⟨L,hL⟩:∃ L,lF t t.rules.length=L:=⟨_,rfl⟩;rw[hL]at eo hok;simp only[hL];repeat' first|simp (disch:=omega) only[go_sem,au,aA,aB,eo]|refine aq ?_|refine ak ?_ ?_<;>intro hw<;>try omega|fail
   rw[<-hE,hok];exact bG (jW (View.om (.cons (.refl _ rfl) (.cons (.refl _ (e8 _)) (.cons (.refl _ (e8 _)) (.cons (.refl _ rfl) (.cons (.refl _ rfl) (.cons (.refl _ (o9 _)) (.cons (View.vec rfl (by simp[eo]) (by simp[eo]) (BI _)) (.nil _))))))))))
def gP(a b:cL): Bool:=a.name==b.name && decide (a.kind=b.kind) && fL (fun x y=>x==y) a.order b.order
def jx(a b:eO): Bool:=fL (fun x y=>x==y) a.cells b.cells && fL (fun x y=>x==y) a.outs b.outs
def iN(a b:Table): Bool:=a.name==b.name && decide (a.aZ=b.aZ) && decide (a.agg=b.agg) && fL gP a.ins b.ins && fL gP a.outs b.outs && fL jx a.rules b.rules
def Cd(l:List cL): Prop:=l.length<=2 ^ 60/\ ∀ c ∈ l,c.order.length<=2 ^ 60
def Nr(r:eO): Prop:=r.cells.length<=2 ^ 60/\r.outs.length<=2 ^ 60
def zK(t:Table): Prop:=Cd t.ins/\Cd t.outs/\t.rules.length<=2 ^ 60/\ ∀ r ∈ t.rules,Nr r
def uu(a b:cL)(ha:a.order.length<=2 ^ 60)(hb:b.order.length<=2 ^ 60): aH aE 118 [bF a,bF b] (.bool (gP a b)):=by
 have c:=B9 a.order b.order ha hb;have hS:gP a b=(a.name==b.name && decide (a.kind=b.kind) && fL (fun x y=>x==y) a.order b.order):=rfl;rw[hS];clear hS;generalize fL (fun x y=>x==y) a.order b.order=v at *;simp only[bF,cU]at c ⊢;refine aJ zd ?_;intro Q au aA aB;repeat' first|refine aq ?_|refine d_ c ?_|refine ak ?_ ?_<;>intro hw<;>try omega|fail
 all_goals (refine aL ?_ rfl;refine congrArg AV.bool ?_;rw[aS];simp_all)
def G8(a b:eO)(ha:Nr a)(hb:Nr b): aH aE 120 [cn a,cn b] (.bool (jx a b)):=by
 have c1:=su a.cells b.cells ha.1 hb.1;have c2:=su a.outs b.outs ha.2 hb.2;have hS:jx a b=(fL (fun x y=>x==y) a.cells b.cells && fL (fun x y=>x==y) a.outs b.outs):=rfl;rw[hS];clear hS;generalize fL (fun x y=>x==y) a.cells b.cells=v at *;generalize fL (fun x y=>x==y) a.outs b.outs=u at *;simp only[cn,bI]at c1 c2 ⊢;refine aJ Bw ?_;intro Q au aA aB;repeat' first|refine aq ?_|refine ak ?_ ?_<;>intro hw<;>try omega|fail
 all_goals (refine aL ?_ rfl;refine congrArg AV.bool ?_;rw[aS];simp_all)
def uv(l m:List cL)(hl:Cd l)(hm:Cd m): aH aE 111 [bP l,bP m] (.bool (fL gP l m)):=by
 obtain⟨uk,DR⟩:=hl;obtain⟨xS,PN⟩:=hm;simp only[bP];refine aJ zc ?_;intro Q au aA aB;repeat' first|refine aq ?_|refine ak ?_ ?_<;>intro hw<;>try omega|fail
 ·refine aL ?_ rfl;rw[lQ (by omega)]
 have kG:l.length=m.length:=by omega
 with_reducible refine bn [4,5,11,12,13,14,15,16,17,18,19,20,21,22,23,24,25,26,27,28,29,30,31,32,33,34,35,36,37,38,39,40,41,42,43,44,45,46,47,48,49,50,51,52,53,54] (fun i:Nat=>[(5,I i)]) (fun _=>[]) (fun i=>i<=l.length/\ ∀ k,k<i->gP (l.getD k default) (m.getD k default)=true) (fun i=>l.length-i) (0) ?_ ?_ ?_ ?_
 ·simp
 ·rfl
 ·exact at_
 rintro i r ⟨h1,h2⟩;by_cases hi:i<l.length
 ·have hi':i<m.length:=by omega
  have hne:gP (l.getD i default) (m.getD i default)=false->fL gP l m=false:=fun h=>nH hi h hi';have bV:=fun he=>aY h2 (i:=i) he;have c:=Au (l.getD i default).order (m.getD i default).order (DR _ (aV hi)) (PN _ (aV hi'));obtain⟨a,haq⟩:∃ t,l.getD i default=t:=⟨_,rfl⟩;obtain⟨b,hbq⟩:∃ t,m.getD i default=t:=⟨_,rfl⟩;rw[haq]at hne bV c;rw[hbq]at hne bV c;simp only[gP]at hne bV;generalize fL (fun x y=>x==y) a.order b.order=v at *;simp only[cU]at c;repeat' first|simp (disch:=omega) only[go_sem,au,aA,aB,haq,hbq]|refine aq ?_|refine d_ c ?_|refine ak ?_ ?_<;>intro hw<;>try omega|fail
  all_goals first
   |(refine aL ?_ rfl;rw[hne (by clear hne bV;simp_all)];done)
   | (refine ⟨i + 1, ?_, ?_, ?_, bL, at_⟩ <;> (try dsimp only)
      ·exact⟨by omega,bV (by clear hne bV;simp_all)⟩
      ·omega
      all_goals (first|rfl|(simp[go_sem];done)))
   | exact bh
 ·repeat' first|refine aq ?_|refine ak ?_ ?_<;>intro hw<;>try omega|fail
  refine aL ?_ rfl;rw[lR kG (fun k hk=>h2 k (by omega))]
def DS(a b:Table)(ha:zK a)(hb:zK b): aH aE 74 [cD a,cD b] (.bool (iN a b)):=by
 have c1:=pF 118 [] rfl gP a.ins b.ins (fun k h1 h2=>uu _ _ (ha.1.2 _ (aV h1)) (hb.1.2 _ (aV h2))) (by have:=ha.1.1;omega) (by have:=hb.1.1;omega);have c2:=pF 118 [] rfl gP a.outs b.outs (fun k h1 h2=>uu _ _ (ha.2.1.2 _ (aV h1)) (hb.2.1.2 _ (aV h2))) (by have:=ha.2.1.1;omega) (by have:=hb.2.1.1;omega);have c3:=yy 120 [] rfl jx a.rules b.rules (fun k h1 h2=>G8 _ _ (ha.2.2.2 _ (aV h1)) (hb.2.2.2 _ (aV h2))) (by have:=ha.2.2.1;omega) (by have:=hb.2.2.1;omega);have hS:iN a b=(a.name==b.name && decide (a.aZ=b.aZ) && decide (a.agg=b.agg) && fL gP a.ins b.ins && fL gP a.outs b.outs && fL jx a.rules b.rules):=rfl;generalize fL gP a.ins b.ins=v1 at *;generalize fL gP a.outs b.outs=v2 at *;generalize fL jx a.rules b.rules=v3 at *;obtain⟨E,hE⟩:∃ E,iN a b=E:=⟨_,rfl⟩;rw[hE]at hS ⊢;clear hE;simp only[cD,fg,bP,dV]at c1 c2 c3 ⊢;refine aJ Ip ?_;intro Q au aA aB;dsimp (config:= { zeta:=true }) only;repeat' first|refine aq ?_|refine ak ?_ ?_<;>intro hw<;>try omega|fail
 all_goals first
  | exact bh
  |(refine aL ?_ rfl;refine congrArg AV.bool ?_;rw[hS,aS];simp_all;done)
def G9(a b:Table)(ha:zK a)(hb:zK b): aH aE 65 [cD a,cD b] (.bool (iN a b)):=by
 obtain⟨a1,a2,a3,a4⟩:=ha;obtain⟨b1,b2,b3,b4⟩:=hb;have c1:=uv a.ins b.ins a1 b1;have c2:=uv a.outs b.outs a2 b2;obtain⟨E,hE⟩:∃ E,iN a b=E:=⟨_,rfl⟩;rw[hE];have hS:(a.name==b.name && decide (a.aZ=b.aZ) && decide (a.agg=b.agg) && fL gP a.ins b.ins && fL gP a.outs b.outs && fL jx a.rules b.rules)=E:=hE;clear hE;generalize fL gP a.ins b.ins=v1 at c1 hS;generalize fL gP a.outs b.outs=v2 at c2 hS;simp only[cD,fg,bP,dV]at c1 c2 ⊢;by_cases h0:a.name=b.name/\a.aZ=b.aZ/\a.agg=b.agg/\a.rules.length=b.rules.length
 case neg =>
  have hE:E=false:=by
   rw[<-hS,Bool.eq_false_iff];intro h;simp only[aD,beq_iff_eq,decide_eq_true_eq]at h;obtain⟨⟨⟨⟨⟨g1,g2⟩,g3⟩,g4⟩,g5⟩,g6⟩:=h;refine h0 ⟨g1,g2,g3,?_⟩;by_cases hl:a.rules.length=b.rules.length
   ·exact hl
   ·rw[lQ hl]at g6;cases g6
  subst hE;clear hS c1 c2;refine aJ Ae ?_;intro Q au aA aB;repeat' first|refine aq ?_|refine ak ?_ ?_<;>intro hw<;>try omega|fail
  all_goals first
   | exact aL rfl rfl
   | exact bh
   |(exfalso;apply h0;refine⟨?_,?_,?_,?_⟩<;>first|assumption|omega|simp_all)
 obtain⟨g1,g2,g3,kG⟩:=h0;rw[g1,g2,g3,beq_self_eq_true,decide_eq_true rfl,decide_eq_true rfl,c_,c_,c_]at hS;refine aJ Ae ?_;intro Q au aA aB;repeat' first|simp (disch:=omega) only[go_sem,au,aA,aB,g1,g2,g3]|refine aq ?_|refine ak ?_ ?_<;>intro hw<;>try omega|fail
 all_goals first|(exfalso;omega)|exact bh|skip
 with_reducible refine bn [4,5,34,35,36,37,38,39,40,41,42,43,44,45,46,47,48,49,50,51,52,53,54,55,56,57,58,59,60,61,62,63,64,65,66,67,68,69,70] (fun i:Nat=>[(5,I i)]) (fun _=>[.cells [.str b.name,.aF false EC (a.ins.map bF),.aF false EC (a.outs.map bF),I b.aZ,I b.agg,.aF false ER (a.rules.map cn)],.cells [.str b.name,.aF false EC (b.ins.map bF),.aF false EC (b.outs.map bF),I b.aZ,I b.agg,.aF false ER (b.rules.map cn)]]) (fun i=>i<=a.rules.length/\ ∀ k,k<i->jx (a.rules.getD k default) (b.rules.getD k default)=true) (fun i=>a.rules.length-i) (0) ?_ ?_ ?_ ?_
 ·simp
 ·rfl
 ·exact at_
 rintro i r ⟨h1,h2⟩;by_cases hi:i<a.rules.length
 ·have hi':i<b.rules.length:=by omega
  have k1:=rR _ _ (a4 _ (aV hi)).1 (b4 _ (aV hi')).1;have k2:=rR _ _ (a4 _ (aV hi)).2 (b4 _ (aV hi')).2;have hne:=fun h=>nH (p:=jx) hi h hi';have bV:=fun he=>aY (q:=fun k=>jx (a.rules.getD k default) (b.rules.getD k default)=true) h2 (i:=i) he;obtain⟨x,hx⟩:∃ x,a.rules.getD i default=x:=⟨_,rfl⟩;obtain⟨y,hy⟩:∃ y,b.rules.getD i default=y:=⟨_,rfl⟩;rw[hx]at k1 k2 hne bV;rw[hy]at k1 k2 hne bV;simp only[jx]at hne bV;generalize fL (fun x y=>x==y) x.cells y.cells=w1 at k1 hne bV;generalize fL (fun x y=>x==y) x.outs y.outs=w2 at k2 hne bV;simp only[bI]at k1 k2;repeat' first|simp (disch:=omega) only[go_sem,au,aA,aB,hx,hy]|refine aq ?_|refine ak ?_ ?_<;>intro hw<;>try omega|fail
  all_goals first
   | exact bh
   |(refine aL ?_ rfl;rw[<-hS,hne (by clear hne bV hS;simp_all),dJ];done)
   | (refine ⟨i + 1, ?_, ?_, ?_, bL, at_⟩ <;> (try dsimp only)
      ·exact⟨by omega,bV (by clear hne bV hS;simp_all)⟩
      ·omega
      all_goals (first|rfl|(simp[go_sem];done)))
 ·rw[lR kG (fun k hk=>h2 k (by omega)),g_]at hS;repeat' first|refine aq ?_|refine ak ?_ ?_<;>intro hw<;>try omega|fail
  all_goals first
   | exact bh
   |(refine aL ?_ rfl;rw[<-hS];simp_all;done)
def jR(l:j4)(m:Nat): aG × Int:=uM (l.cells.getD m default)
def lG(l:j4)(m:Nat): aG × Int:=rO (l.outs.getD m default)
def bM(l:j4)(n:Nat): List aG:=(List.range n).map fun m=>(jR l m).1
def nw(l:j4)(n:Nat): List aG:=(List.range n).map fun m=>(lG l m).1
def DU(l:j4)(n:Nat): bM l (n+1)=bM l n++[(jR l n).1]:=by simp[bM,List.range_succ]
def G_(l:j4)(n:Nat): nw l (n+1)=nw l n++[(lG l n).1]:=by simp[nw,List.range_succ]
def uO(l:j4)(n:Nat): (bM l n).length=n:=by simp[bM]
def w7(l:j4)(n:Nat): (nw l n).length=n:=by simp[nw]
def vY(w:Nat)(l:j4): eO × Int × Int :=
 match(List.range l.cells.length).find? (fun m=>(jR l m).2 != 0)with
 | some m=>(⟨bM l l.cells.length,nw l l.outs.length⟩,m,(jR l m).2)
 | none => match (List.range l.outs.length).find? (fun m => (lG l m).2 != 0) with
   | some m=>(⟨bM l l.cells.length,nw l l.outs.length⟩,w+m,(lG l m).2)
   | none=>(⟨bM l l.cells.length,nw l l.outs.length⟩,0,0)
def fh: Table:=⟨[],[],[],0,0,[]⟩
def uP(t:Table)(n:Nat): j4:=(dR t).1.lines.getD n default
def kQ(t:Table)(n:Nat): eO × Int × Int:=vY t.ins.length (uP t n)
def n7(t:Table)(n:Nat): List eO:=(List.range n).map fun k=>(kQ t k).1
def fC(t:Table): Table × Int × Int × Int :=
 if(dR t).2.2.2≠0 then(fh,(dR t).2.1,(dR t).2.2.1,(dR t).2.2.2)
 else match(List.range (dR t).1.lines.length).find? (fun n=>(kQ t n).2.2 != 0)with
 | some n=>(fh,n,(kQ t n).2.1,(kQ t n).2.2)
 | none=>({ t with rules:=n7 t (dR t).1.lines.length },0,0,0)
def Qm(r:Table × Int × Int × Int): AV:= .bJ [cD r.1,I r.2.1,I r.2.2.1,I r.2.2.2]
def He(t:Table)(n:Nat): n7 t (n+1)=n7 t n++[(kQ t n).1]:=by simp[n7,List.range_succ]
def oJ(t:Table)(n:Nat): (n7 t n).length=n:=by simp[n7]
def Ce(w:Nat)(l:j4): (vY w l).1=⟨bM l l.cells.length,nw l l.outs.length⟩:=by
 unfold vY;split
 ·rfl
 ·split<;>rfl
def Kf(w:Nat){l:j4}{m:Nat}(hm:m<l.cells.length)(h:∀ j,j<m->(jR l j).2=0)(he:(jR l m).2≠0): (vY w l).2=((m:Int),(jR l m).2):=by
 unfold vY;rw[sZ (i:=m) hm (fun j hj=>by simp[h j hj]) (by simp[he])]
def Ns(w:Nat){l:j4}(hc:∀ j,j<l.cells.length->(jR l j).2=0){m:Nat}(hm:m<l.outs.length)(h:∀ j,j<m->(lG l j).2=0)(he:(lG l m).2≠0): (vY w l).2=((w:Int)+m,(lG l m).2):=by
 unfold vY;rw[l8 (fun j hj=>by simp[hc j hj])];dsimp only;rw[sZ (i:=m) hm (fun j hj=>by simp[h j hj]) (by simp[he])]
def Qn(w:Nat){l:j4}(hc:∀ j,j<l.cells.length->(jR l j).2=0)(h:∀ j,j<l.outs.length->(lG l j).2=0): (vY w l).2=(0,0):=by
 unfold vY;rw[l8 (fun j hj=>by simp[hc j hj])];dsimp only;rw[l8 (fun j hj=>by simp[h j hj])]
def tu{t:Table}(h:(dR t).2.2.2≠0): fC t=(fh,(dR t).2.1,(dR t).2.2.1,(dR t).2.2.2):=by unfold fC;rw[if_pos h]
def Hf{t:Table}(h0:(dR t).2.2.2=0){n:Nat}(hn:n<(dR t).1.lines.length)(h:∀ j,j<n->(kQ t j).2.2=0)(he:(kQ t n).2.2≠0): fC t=(fh,(n:Int),(kQ t n).2.1,(kQ t n).2.2):=by
 unfold fC;rw[if_neg (by omega),sZ (i:=n) hn (fun j hj=>by simp[h j hj]) (by simp[he])]
def Cf{t:Table}(h0:(dR t).2.2.2=0)(h:∀ j,j<(dR t).1.lines.length->(kQ t j).2.2=0): fC t=({ t with rules:=n7 t (dR t).1.lines.length },0,0,0):=by
 unfold fC;rw[if_neg (by omega),l8 (fun j hj=>by simp[h j hj])]
def T_(l:j4): Prop:=(l.cells.length<=2 ^ 30/\ ∀ c ∈ l.cells,tZ c)/\l.outs.length<=2 ^ 30/\ ∀ x ∈ l.outs,gV x/\ew x<=2 ^ 30
def pz{t:Table}(h:(dR t).2.2.2=0): iu t=0/\(∀ j,j<t.rules.length->(jm t j).2.2=0)/\dR t=((⟨t,lF t t.rules.length⟩:Ready),(0:Int),(0:Int),(0:Int)):=by
 by_cases hf:iu t=0
 ·have hl : ∀ j, j < t.rules.length -> (jm t j).2.2 = 0 := by
   cases hq:(List.range t.rules.length).find? (fun k=>(jm t k).2.2 != 0)with
   | some k =>
     exfalso;unfold dR at h;rw[if_neg (by omega),hq]at h;have:=eL hq;simp at this;exact this h
   | none =>
     intro j hj;have:=dy.1 hq j (dI.2 hj);simpa using this
  exact⟨hf,hl,Fb hf hl⟩
 ·rw[xD hf]at h;exact absurd h hf
def Ua(t:Table)(r:eO)(h1:t.ins.length<=2 ^ 30)(h2:t.outs.length<=2 ^ 30)(hr:r.cells.length<=2 ^ 30)(ho:r.outs.length<=2 ^ 30): T_ (j_ t r).1:=by
 have hc:∀ n,n<=2 ^ 30->(j9 t r n).length<=2 ^ 30/\ ∀ c ∈ j9 t r n,tZ c:=fun n hn=>by
  refine⟨by rw[qO];exact hn,fun c hc=>?_⟩;obtain⟨k,_,rfl⟩:=cW.1 hc;exact RY _
 have hx:∀ n,n<=2 ^ 30->(nu t r n).length<=2 ^ 30/\ ∀ x ∈ nu t r n,gV x/\ew x<=2 ^ 30:=fun n hn=>by
  refine⟨by rw[zJ];exact hn,fun x hx=>?_⟩;obtain⟨k,_,rfl⟩:=cW.1 hx;exact w4 _
 have hk:∀ {n k:Nat} {p:Nat->Bool},(List.range n).find? p=some k->k<n:=fun h=>dI.1 (fx h);unfold j_;split
 ·exact⟨⟨by simp,by simp⟩,by simp,by simp⟩
 split
 ·rename_i k hq;have:=hk hq;exact⟨hc _ (by omega),by simp,by simp⟩
 split
 ·rename_i k hq;have:=hk hq;exact⟨hc _ hr,hx _ (by omega)⟩
 ·exact⟨hc _ hr,hx _ ho⟩
def xE{t:Table}(h:l7 t)(h0:(dR t).2.2.2=0): (dR t).1.lines.length=t.rules.length/\ ∀ n,T_ (uP t n):=by
 obtain⟨_,_,hm⟩:=pz h0;refine⟨by rw[hm];exact oI _ _,fun n=>?_⟩;unfold uP;rw[hm];dsimp only;by_cases hn:n<t.rules.length
 ·have : (lF t t.rules.length).getD n default = (jm t n).1 := by
   unfold lF;rw[aj,List.getElem?_map,List.getElem?_range hn];rfl
  rw[this];have hr:=h.2.2.2.2 _ (aV hn);exact Ua t _ h.2.1.1 h.2.2.1.1 hr.1.1 hr.2.1
 ·rw[my (by rw[oI];omega)];exact⟨⟨Nat.zero_le _,fun c hc=>by cases hc⟩,Nat.zero_le _,fun c hc=>by cases hc⟩
def oK(L:Nat)(S:ae)(v:AV)(xs:List aG): Prop:=(xs=[]/\v = .ai)\/(xs≠[]/\ ∃ q,L<=q/\v = .own E1 q xs.length 0 xs.length/\S[q]? = some (.vec E1 (xs.map bj)))
def oK.nil(L:Nat)(S:ae): oK L S .ai []:= .inl ⟨rfl,rfl⟩
def oK.scalar{L:Nat}{S:ae}{v:AV}{xs:List aG}(h:oK L S v xs): v.scalar=true:=by
 rcases h with⟨_,rfl⟩|⟨_,q,_,rfl,_⟩<;>rfl
def oK.view{L:Nat}{S:ae}{v:AV}{xs:List aG}(h:oK L S v xs): View S v (bI xs):=by
 rcases h with⟨rfl,rfl⟩|⟨_,q,_,rfl,hq⟩
 ·exact View.ai _
 ·exact View.vec hq (by simp) (by simp) (pT _)
def oK.keep{L L':Nat}{S S':ae}{v:AV}{xs:List aG}(hL:L'<=L)(hs:∀ (q:Nat) (ys:List AV),L<=q->S[q]? = some (.vec E1 ys)->S'[q]? = some (.vec E1 ys))(h:oK L S v xs): oK L' S' v xs:=by
 rcases h with h|⟨h1,q,h2,h3,h4⟩
 ·exact .inl h
 ·exact .inr ⟨h1,q,bY hL h2,h3,hs _ _ h2 h4⟩
def R2(S:ae)(a:AV)(r:eO): Prop:= ∃ v w,a = .agg [v,w]/\oK 0 S v r.cells/\oK 0 S w r.outs
def jS(S:ae)(rs:List AV)(l:List eO): Prop:=rs.length=l.length/\ ∀ j,j<l.length->R2 S (rs.getD j .undef) (l.getD j default)
def jS.nil(S:ae): jS S [] []:=⟨rfl,fun j hj=>by cases hj⟩
def jS.keep{S S':ae}{rs:List AV}{l:List eO}(hs:∀ (q:Nat) (ys:List AV),S[q]? = some (.vec E1 ys)->S'[q]? = some (.vec E1 ys))(h:jS S rs l): jS S' rs l:=by
 refine⟨h.1,fun j hj=>?_⟩;obtain⟨v,w,h1,h2,h3⟩:=h.2 j hj;exact⟨v,w,h1,h2.keep (Nat.le_refl _) (fun q ys _=>hs q ys),h3.keep (Nat.le_refl _) (fun q ys _=>hs q ys)⟩
def jS.snoc{S:ae}{rs:List AV}{l:List eO}{a:AV}{r:eO}(h:jS S rs l)(ha:R2 S a r): jS S (rs++[a]) (l++[r]):=by
 refine⟨by simp[h.1],fun j hj=>?_⟩;have hl:=h.1;rw[aC,List.length_cons,List.length_nil]at hj;by_cases mX:j<l.length
 ·rw[aj,aj,aN (by omega),aN mX,<-aj,<-aj];exact h.2 j mX
 ·obtain rfl:j=l.length:=by omega
  rw[aj,aj,<-hl,cB (Nat.le_refl _),hl,cB (Nat.le_refl _)];simpa using ha
def jS.view{S:ae}{rs:List AV}{l:List eO}(h:jS S rs l): bf S rs (l.map cn):=by
 refine⟨by simp[h.1],fun j hj=>?_⟩;have hl:=h.1;obtain⟨v,w,h1,h2,h3⟩:=h.2 j (by omega);rw[h1,getD_map _ _ _ (by omega)];exact View.om (.cons h2.view (.cons h3.view (.nil _)))
def s4(L:Nat)(S:ae)(v:AV)(l:List eO): Prop:=(l=[]/\v = .ai)\/(l≠[]/\ ∃ q rs,L<=q/\v = .own ER q l.length 0 l.length/\S[q]? = some (.vec ER rs)/\jS S rs l)
def s4.nil(L:Nat)(S:ae): s4 L S .ai []:= .inl ⟨rfl,rfl⟩
def s4.view{L:Nat}{S:ae}{v:AV}{l:List eO}(h:s4 L S v l): View S v (dV l):=by
 rcases h with⟨rfl,rfl⟩|⟨_,q,rs,_,rfl,hq,hr⟩
 ·exact View.ai _
 ·exact View.Zr hq hr.1.symm hr.1.symm hr.view
def s4.scalar{L:Nat}{S:ae}{v:AV}{l:List eO}(h:s4 L S v l): v.scalar=true:=by
 rcases h with⟨_,rfl⟩|⟨_,q,_,_,rfl,_⟩<;>rfl
def s4.keep{L:Nat}{S S':ae}{v:AV}{l:List eO}(hs:∀ (q:Nat) (o:bx),S[q]? = some o->(∀ cs,o≠ .cells cs)->S'[q]? = some o)(h:s4 L S v l): s4 L S' v l:=by
 rcases h with h|⟨h1,q,rs,h2,h3,h4,h5⟩
 ·exact .inl h
 ·exact .inr ⟨h1,q,rs,h2,h3,hs _ _ h4 (fun cs=>by simp),h5.keep (fun q ys hq=>hs q _ hq (fun cs=>by simp))⟩
