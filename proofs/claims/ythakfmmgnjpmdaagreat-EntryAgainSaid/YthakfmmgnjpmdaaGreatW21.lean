/- Part. -/
import Derived.Test.YthakfmmgnjpmdaaGreatW20
set_option linter.all false
namespace Go.Proofs.YthakfmmgnjpmdaaGreat
open Go.AM
set_option maxRecDepth 4000
def Jo(T:List cg)(fr lvl:Int)(hT:T.length<=2 ^ 50)(hs:∀ q,(T.getD q default).s.length<=2 ^ 62): aF aD 141 [pT T,I fr,I lvl] (vu (ez T fr lvl)):=by
 by_cases hg:fr<0\/(T.length:Int)<fr\/lvl<0\/7<lvl
 ·have e:ez T fr lvl=(x0,0,2):=by unfold ez;rw[if_pos hg]
  rw[e];have e1:∀ σ : ae,View σ (.agg [I 0,I 0,I 0,.str [],.str [],.ai]) (aJ x0):=fun σ=>jr (.ai _);simp only[vu];generalize aJ x0=E at *;refine aK vL ?_;intro Q aq au aA;repeat' first|refine ak ?_|refine aj ?_ ?_<;>intro hw<;>try omega|fail
  all_goals first|exact cN (iU (e1 _))|(exfalso;omega)
 ·obtain⟨p,rfl⟩:∃ p:Nat,fr=p:=⟨fr.toNat,by omega⟩;obtain⟨l,rfl⟩:∃ l:Nat,lvl=l:=⟨lvl.toNat,by omega⟩;have cr:=US T (by omega) hs (8*T.length+9) l p (by omega) (by omega) (by omega)
  have e:ez T p l=if(bV T (8*T.length+9) none l p).bad then(x0,((bV T (8*T.length+9) none l p).p:Int),11)else ((bV T (8*T.length+9) none l p).x,((bV T (8*T.length+9) none l p).p:Int),0):=by
   unfold ez;rw[if_neg hg,Int.toNat_natCast,Int.toNat_natCast]
  rw[e];simp only[oc]at cr;generalize bV T (8*T.length+9) none l p=r at *;obtain⟨rx,rp,rb⟩:=r;dsimp only at *;have e1:∀ σ : ae,View σ (.agg [I 0,I 0,I 0,.str [],.str [],.ai]) (aJ x0):=fun σ=>jr (.ai _);have e2:∀ σ : ae,View σ (.agg [I rx.op,I rx.v.kind,I rx.v.n,.str rx.v.s,.str rx.s,.aG false EX (rx.l.map aJ)]) (aJ rx):=fun σ=>View.eqv (aU _).symm (dR _);rw[aU]at cr;simp only[bN]at cr;cases rb with
  | true =>
    simp only[if_true,vu];generalize aJ x0=E at *;refine aK vL ?_;intro Q aq au aA;repeat' first|refine ak ?_|refine bh cr ?_|refine aj ?_ ?_<;>intro hw<;>try omega|fail
    all_goals first|exact cN (iU (e1 _))|(exfalso;omega)
  | false =>
    simp only[aI,if_false,vu];generalize aJ rx=E at *;refine aK vL ?_;intro Q aq au aA;repeat' first|refine ak ?_|refine bh cr ?_|refine aj ?_ ?_<;>intro hw<;>try omega|fail
    all_goals first|exact cN (iU (e2 _))|(exfalso;omega)
def abl(T:List cg): (ez T 0 0).2.2=0\/(ez T 0 0).2.2=11:=by
 unfold ez;rw[if_neg (by omega)];split
 ·exact .inr rfl
 ·exact .inl rfl
def F5(s:aS)(hs:s.length<=2 ^ 30): aF aD 86 [.str s] (vu (dK s)):=by
 have cl:=Mq s hs;obtain⟨f1,f2⟩:=nH s;have cr:=Jo (bF s).1 0 0 (by omega) (fun q=>by have:=f2 q;omega);have hz:=Bz (bF s).1 0 0;obtain⟨Jm,s8⟩:=Fl (bF s).1 0 0;have he:=abl (bF s).1
 have hP:dK s=if(bF s).2.2≠0 then(x0,(bF s).2.1,(bF s).2.2)
  else if(ez (bF s).1 0 0).2.1<(bF s).1.length then(x0,((bF s).1.getD (ez (bF s).1 0 0).2.1.toNat default).pos,11)
  else if(ez (bF s).1 0 0).2.2≠0 then(x0,(s.length:Int),(ez (bF s).1 0 0).2.2)
  else if 12<kA (ez (bF s).1 0 0).1 then(x0,0,12)
  else((ez (bF s).1 0 0).1,0,0):=rfl
 rw[hP];clear hP f2;generalize ez (bF s).1 0 0=r at *;generalize bF s=L at *;obtain⟨T,la,le⟩:=L;obtain⟨rx,rn,re⟩:=r;dsimp only at *;have cd:=Jg rx (by omega);obtain⟨n,rfl⟩:∃ n:Nat,rn=n:=⟨rn.toNat,by omega⟩;have e1:∀ σ : ae,View σ (.agg [I 0,I 0,I 0,.str [],.str [],.ai]) (aJ x0):=fun σ=>jr (.ai _);have e2:∀ σ : ae,View σ (.agg [I rx.op,I rx.v.kind,I rx.v.n,.str rx.v.s,.str rx.s,.aG false EX (rx.l.map aJ)]) (aJ rx):=fun σ=>View.eqv (aU _).symm (dR _);simp only[vu]at cr ⊢;rw[aU]at cr cd;simp only[Hs,pT]at cl cr;by_cases h1:le≠0
 ·rw[if_pos h1];generalize aJ x0=E at *;refine aK n_ ?_;intro Q aq au aA;repeat' first|refine ak ?_|refine aj ?_ ?_<;>intro hw<;>try omega|fail
  all_goals exact cN (iU (e1 _))
 rw[if_neg h1];by_cases h2:(n:Int)<T.length
 ·rw[if_pos h2,ff];generalize aJ x0=E at *;have hn:n<T.length:=by omega
  refine aK n_ ?_;intro Q aq au aA;repeat' first|refine ak ?_|refine aj ?_ ?_<;>intro hw<;>try omega|fail
  all_goals exact cN (iU (e1 _))
 rw[if_neg h2];by_cases h3:re≠0
 ·rw[if_pos h3]
  obtain rfl : re = 11 := by rcases he with h | h
                             ·exact absurd h h3
                             ·exact h
  generalize aJ x0=E at *;refine aK n_ ?_;intro Q aq au aA;repeat' first|refine ak ?_|refine aj ?_ ?_<;>intro hw<;>try omega|fail
  all_goals exact cN (iU (e1 _))
 rw[if_neg h3];by_cases h4:12<kA rx
 ·rw[if_pos h4];generalize aJ x0=E at *;refine aK n_ ?_;intro Q aq au aA;repeat' first|refine ak ?_|refine aj ?_ ?_<;>intro hw<;>try omega|fail
  all_goals exact cN (iU (e1 _))
 ·rw[if_neg h4];generalize aJ rx=E at *;refine aK n_ ?_;intro Q aq au aA;repeat' first|refine ak ?_|refine aj ?_ ?_<;>intro hw<;>try omega|fail
  all_goals exact cN (iU (e2 _))
def eI(n:Int): AV:=I n
attribute [go_sem] eI
def ac4(n:Int): (eI n).cQ=true:=rfl
def xP(l:List Int): AV.bG (l.map eI)=true:=gk _ _ ac4
def bI(a b:Int): Bool:=decide (a=b) || decide (a=0) || decide (b=0)
def nh(a b:Int): Int:=if a=0 then b else a
def nU(a b:Int): aF aD 114 [I a,I b] (.bool (bI a b)):=by
 refine aK KU ?_;intro Q aq au aA;repeat' first|refine ak ?_|refine aj ?_ ?_<;>intro hw<;>try omega|fail
 all_goals refine aN ?_ rfl
 all_goals (refine congrArg AV.bool ?_;rw[aW];simp only[bI,aC,bO,decide_eq_true_eq,beq_iff_eq,cy,decide_eq_false_iff_not,beq_eq_false_iff_ne,ne_eq,true_iff,false_iff,iff_true,iff_false,aI,ik,not_and,not_or]at *;omega)
def jI(a b:Int): aF aD 88 [I a,I b] (.bool (bI a b)):=by
 refine aK Nv ?_;intro Q aq au aA;repeat' first|refine ak ?_|refine aj ?_ ?_<;>intro hw<;>try omega|fail
 all_goals refine aN ?_ rfl
 all_goals (refine congrArg AV.bool ?_;rw[aW];simp only[bI,aC,bO,decide_eq_true_eq,beq_iff_eq,cy,decide_eq_false_iff_not,beq_eq_false_iff_ne,ne_eq,true_iff,false_iff,iff_true,iff_false,aI,ik,not_and,not_or]at *;omega)
def CB(a b:Int): aF aD 259 [I a,I b] (I (nh a b)):=by
 refine aK Ad ?_;intro Q aq au aA;repeat' first|refine ak ?_|refine aj ?_ ?_<;>intro hw<;>try omega|fail
 all_goals refine aN ?_ rfl
 all_goals (unfold nh;first|rw[if_neg (by assumption)]|rw[if_pos (by assumption)]|(subst a;rfl))
def PI(a b:Int): aF aD 240 [I a,I b] (I (nh a b)):=by
 refine aK RB ?_;intro Q aq au aA;repeat' first|refine ak ?_|refine aj ?_ ?_<;>intro hw<;>try omega|fail
 all_goals refine aN ?_ rfl
 all_goals (unfold nh;first|rw[if_neg (by assumption)]|rw[if_pos (by assumption)]|(subst a;rfl))
def Td{α : Type}{p : α->Bool}(l:List α): l.all p = !(l.any fun x=> !(p x)):=by
 induction l with
 | nil=>rfl
 | cons x r ih=>simp[ih]
def Jp(w:Int)(l:List Int)(hl:l.length<=2 ^ 60): aF aD 258 [I w,.aG false E1 (l.map eI)] (.bool (l.all fun k=>bI k w)):=by
 refine aK NY ?_ (by simp[AV.cQ,AV.bG,xP]);intro Q aq au aA;repeat' first|refine ak ?_|refine aj ?_ ?_<;>intro hw<;>try omega|fail
 with_reducible refine aX [4,6,9,10,11,12,13,14,15,16,17] (fun i:Nat=>[(9,I i)]) (fun _=>[]) (fun i=>i<=l.length/\ ∀ k,k<i->(!(bI (l.getD k default) w))=false) (fun i=>l.length-i) (0) ?_ ?_ ?_ ?_
 ·simp
 ·rfl
 ·exact at_
 rintro i r ⟨h1,h2⟩;by_cases hi:i<l.length
 ·repeat' first|refine ak ?_|refine cW (nU _ _) ?_|refine aj ?_ ?_<;>intro hw<;>try omega|fail
  ·refine aN ?_ rfl;rw[Td,D4 (p:=fun x=> !(bI x w)) hi (by simpa using hw)];rfl
  ·refine⟨i+1,?_,?_,by first|rfl|(simp[go_sem];done),bK,at_⟩<;>(try dsimp only)
   ·exact⟨by omega,bx h2 (by simpa using hw)⟩
   ·omega
 ·repeat' first|refine ak ?_|refine aj ?_ ?_<;>intro hw<;>try omega|fail
  refine aN ?_ rfl;rw[Td,Ag (p:=fun x=> !(bI x w)) (fun k hk=>h2 k (by omega))];rfl
def FN(l:List Int)(v:Int)(hl:l.length<=2 ^ 60): aF aD 279 [.aG false E1 (l.map eI),I v] (I (iT (fun x=>x==v) l)):=by
 refine aK Bo ?_ (by simp[AV.cQ,AV.bG,xP]);intro Q aq au aA;repeat' first|refine ak ?_|refine aj ?_ ?_<;>intro hw<;>try omega|fail
 with_reducible refine aX [4,5,8,9,10,11,12,13,14,15,16,17,18] (fun i:Nat=>[(8,I i)]) (fun _=>[]) (fun i=>i<=l.length/\ ∀ k,k<i->(l.getD k default==v)=false) (fun i=>l.length-i) (0) ?_ ?_ ?_ ?_
 ·simp
 ·rfl
 ·exact at_
 rintro i r ⟨h1,h2⟩;by_cases hi:i<l.length
 ·repeat' first|refine ak ?_|refine aj ?_ ?_<;>intro hw<;>try omega|fail
  ·refine aN ?_ rfl;rw[lK (p:=fun x=>x==v) hi h2 (by simp_all)]
  ·refine⟨i+1,?_,?_,by first|rfl|(simp[go_sem];done),bK,at_⟩<;>(try dsimp only)
   ·exact⟨by omega,bx h2 (by rw[beq_eq_false_iff_ne];intro h;exact hw h.symm)⟩
   ·omega
 ·repeat' first|refine ak ?_|refine aj ?_ ?_<;>intro hw<;>try omega|fail
  refine aN ?_ rfl;rw[kQ (p:=fun x=>x==v) (fun k hk=>h2 k (by omega))]
def BD(l:List Int)(v:Int)(hl:l.length<=2 ^ 60): aF aD 260 [.aG false E1 (l.map eI),I v] (.bool (decide (0<=iT (fun x=>x==v) l))):=by
 refine aK yj ?_ (by simp[AV.cQ,AV.bG,xP]);intro Q aq au aA;repeat' first|refine ak ?_|refine cW (FN l v hl) ?_|refine aj ?_ ?_<;>intro hw<;>try omega|fail
 all_goals exact aN rfl rfl
def ko(op:Int)(ks:List Int): Int × Bool :=
 if op=3\/op=5\/op=6\/op=7 then(1,ks.all fun k=>bI k 1)
 else if op=4 then(if nh (ks.getD 0 0) (ks.getD 1 0)=2 then(2,ks.all fun k=>bI k 2)else (1,ks.all fun k=>bI k 1))
 else if op=8\/op=9 then(3,bI (ks.getD 0 0) (ks.getD 1 0))
 else if op=10\/op=11\/op=12\/op=13 then(3,bI (ks.getD 0 0) (ks.getD 1 0) && !(decide (0<=iT (fun x=>x==3) ks)))
 else if op=14\/op=15 then(3,ks.all fun k=>bI k 3)
 else(nh (ks.getD 1 0) (ks.getD 2 0),bI (ks.getD 0 0) 3 && bI (ks.getD 1 0) (ks.getD 2 0))
def PJ(a:Int): aF aD 215 [I 3,.aG false E1 ([a].map eI)] (.bJ [I (ko 3 [a]).1,.bool (ko 3 [a]).2]):=by
 have h:=fun w=>Jp w [a] (by simp);simp only[List.map,eI]at h ⊢;refine aK uB ?_;intro Q aq au aA;repeat' first|simp (disch:=omega) only[go_sem,aq,au,aA,Int.reduceToNat]|refine ak ?_|refine cW (h _) ?_|refine aj ?_ ?_<;>intro hw<;>try omega|fail
 all_goals exact bt rfl rfl
def PK(op a b:Int)(h4:4<=op)(CD:op<=15): aF aD 215 [I op,.aG false E1 ([a,b].map eI)] (.bJ [I (ko op [a,b]).1,.bool (ko op [a,b]).2]):=by
 have h:=fun w=>Jp w [a,b] (by simp);have hc:=BD [a,b] 3 (by simp);simp only[List.map,eI]at h hc ⊢;generalize hR:ko op [a,b]=R;refine aK uB ?_;intro Q aq au aA;repeat' first|simp (disch:=omega) only[go_sem,aq,au,aA,Int.reduceToNat]|refine ak ?_|refine cW (h _) ?_|refine cW (CB a b) ?_|refine cW (nU a b) ?_|refine aj ?_ ?_<;>intro hw<;>try omega|fail
 all_goals (refine bt ?_ rfl;clear aq au aA h hc;subst hR)
 all_goals (simp_all[ko];done)
def PL(a b c:Int): aF aD 215 [I 16,.aG false E1 ([a,b,c].map eI)] (.bJ [I (ko 16 [a,b,c]).1,.bool (ko 16 [a,b,c]).2]):=by
 simp only[List.map,eI];refine aK uB ?_;intro Q aq au aA;repeat' first|simp (disch:=omega) only[go_sem,aq,au,aA,Int.reduceToNat]|refine ak ?_|refine cW (CB b c) ?_|refine cW (nU a 3) ?_|refine cW (nU b c) ?_|refine aj ?_ ?_<;>intro hw<;>try omega|fail
 all_goals (refine bt ?_ rfl;simp_all[ko])
def oe(op:Int)(ks:List Int): Int × Int:=if(ko op ks).2 then((ko op ks).1,0)else (0,14)
def agh(a b:Int): decide (0<=iT (fun x=>x==3) [a,b])=(decide (a=3) || decide (b=3)):=by
 by_cases h1:a=3
 ·subst h1;simp[iT,List.findIdx?_cons]
 ·by_cases h2:b=3
  ·subst h2;simp[iT,List.findIdx?_cons,h1]
  ·simp[iT,List.findIdx?_cons,h1,h2]
def W9(a:Int): aF aD 196 [I 3,.aG false E1 ([a].map eI)] (.bJ [I (oe 3 [a]).1,I (oe 3 [a]).2]):=by
 simp only[List.map,eI];generalize hR:oe 3 [a]=R;refine aK zc ?_;intro Q aq au aA;repeat' first|simp (disch:=omega) only[go_sem,aq,au,aA,Int.reduceToNat]|refine ak ?_|refine cW (jI _ _) ?_|refine aj ?_ ?_<;>intro hw<;>try omega|fail
 all_goals (refine bt ?_ rfl;clear aq au aA;subst hR;simp_all[oe,ko])
def W_(op a b:Int)(h4:4<=op)(CD:op<=15): aF aD 196 [I op,.aG false E1 ([a,b].map eI)] (.bJ [I (oe op [a,b]).1,I (oe op [a,b]).2]):=by
 simp only[List.map,eI];generalize hR:oe op [a,b]=R;refine aK zc ?_;intro Q aq au aA;repeat' first|simp (disch:=omega) only[go_sem,aq,au,aA,Int.reduceToNat]|refine ak ?_|refine cW (jI _ _) ?_|refine cW (PI _ _) ?_|refine aj ?_ ?_<;>intro hw<;>try omega|fail
 all_goals (refine bt ?_ rfl;clear aq au aA;subst hR)
 all_goals first|(simp_all[oe,ko,agh];done)|skip
def Xa(a b c:Int): aF aD 196 [I 16,.aG false E1 ([a,b,c].map eI)] (.bJ [I (oe 16 [a,b,c]).1,I (oe 16 [a,b,c]).2]):=by
 simp only[List.map,eI];generalize hR:oe 16 [a,b,c]=R;refine aK zc ?_;intro Q aq au aA;repeat' first|simp (disch:=omega) only[go_sem,aq,au,aA,Int.reduceToNat]|refine ak ?_|refine cW (jI _ _) ?_|refine cW (PI _ _) ?_|refine aj ?_ ?_<;>intro hw<;>try omega|fail
 all_goals (refine bt ?_ rfl;clear aq au aA;subst hR;simp_all[oe,ko])
def q8 (fn : FuncId) (cap : List AV) (hcap : AV.bG cap = true) (p : bQ -> Bool) (l : List bQ) (h : ∀ k, k < l.length -> aF aD fn (bW (l.getD k default) :: cap) (.bool (p (l.getD k default)))) (hl : l.length <= 2 ^ 62) :
    aF aD 155 [aY l,.fn (.func fn) [] cap] (I (iT p l)):=by
 refine aK vM ?_ (by simp[AV.cQ,AV.bG,hcap,ie]);intro Q aq au aA;repeat' first|refine ak ?_|refine aj ?_ ?_<;>intro hw<;>try omega|fail
 with_reducible refine aX [4,5,8,9,10,11,12,13,14,15,16,17,18] (fun i:Nat=>[(8,I i)]) (fun _=>[]) (fun i=>i<=l.length/\ ∀ k,k<i->p (l.getD k default)=false) (fun i=>l.length-i) (0) ?_ ?_ ?_ ?_
 ·simp
 ·rfl
 ·exact at_
 ·rintro i r ⟨hi,hp⟩;by_cases hin:i<l.length
  ·have hx:=h i hin;simp only[bW,aL]at hx;repeat' first|refine ak ?_|refine aj ?_ ?_<;>intro hw<;>try omega|fail
   ·refine aN ?_ rfl;refine congrArg I ?_;exact(lK hin hp hw).symm
   ·refine⟨i+1,?_,?_,by first|rfl|(simp[go_sem];done),bK,at_⟩<;>(try dsimp only)
    ·exact⟨by omega,bx hp hw⟩
    ·omega
  ·repeat' first|refine ak ?_|refine aj ?_ ?_<;>intro hw<;>try omega|fail
   refine aN ?_ rfl;refine congrArg I ?_;exact(kQ fun k hk=>hp k (by omega)).symm
def k_(l:List bQ)(s:aS): Int:=iT (fun c=>c.name==s) l
def RY(c:bQ)(s:aS): aF aD 205 [bW c,.eL E1 (.str s) 0] (.bool (c.name==s)):=by
 refine aK K9 ?_ (by simp[AV.cQ,AV.bG,Bp]);intro Q aq au aA;repeat' first|refine ak ?_|refine aj ?_ ?_<;>intro hw<;>try omega|fail
 all_goals exact aN rfl rfl
def Mt(l:List bQ)(s:aS)(hl:l.length<=2 ^ 60): aF aD 154 [aY l,.str s] (I (k_ l s)):=by
 have hc:=q8 205 [.eL E1 (.str s) 0] rfl (fun c=>c.name==s) l (fun k _=>RY _ s) (by omega);simp only[aY]at hc;refine aK Pp ?_ (by simp[AV.cQ,AV.bG,ie]);intro Q aq au aA;repeat' first|refine ak ?_|refine Cx hc ?_|refine aj ?_ ?_<;>intro hw<;>try omega|fail
 all_goals exact aN rfl rfl
def Hx(l:List bQ)(s:aS)(hl:l.length<=2 ^ 60): aF aD 189 [aY l,.str s] (I (k_ l s)):=by
 refine aK Ry ?_ (by simp[AV.cQ,AV.bG,ie]);intro Q aq au aA;repeat' first|refine ak ?_|refine aj ?_ ?_<;>intro hw<;>try omega|fail
 with_reducible refine aX [4,5,6,7,8,9,10,11,12,13,14,15,16,17,18,19] (fun i:Nat=>[(5,I i)]) (fun _=>[]) (fun i=>i<=l.length/\ ∀ k,k<i->((l.getD k default).name==s)=false) (fun i=>l.length-i) (0) ?_ ?_ ?_ ?_
 ·simp
 ·rfl
 ·exact at_
 rintro i r ⟨hi,hp⟩;by_cases hin:i<l.length
 ·repeat' first|refine ak ?_|refine aj ?_ ?_<;>intro hw<;>try omega|fail
  ·refine aN ?_ rfl;refine congrArg I ?_;exact(lK (p:=fun c:bQ=>c.name==s) hin hp (by simpa using hw)).symm
  ·refine⟨i+1,?_,?_,by first|rfl|(simp[go_sem];done),bK,at_⟩<;>(try dsimp only)
   ·exact⟨by omega,bx hp (by simpa using hw)⟩
   ·omega
 ·repeat' first|refine ak ?_|refine aj ?_ ?_<;>intro hw<;>try omega|fail
  refine aN ?_ rfl;refine congrArg I ?_;exact(kQ (p:=fun c:bQ=>c.name==s) fun k hk=>hp k (by omega)).symm
def lC{op:Int}{n:Nat}(h:(n:Int)=lB op)(h1:op≠1)(h2:op≠2): (op=3/\n=1)\/(4<=op/\op<=15/\n=2)\/(op=16/\n=3):=by
 unfold lB at h;rw[if_neg (by omega)]at h;by_cases h3:op=3
 ·rw[if_pos h3]at h;omega
 rw[if_neg h3]at h;by_cases W0:op=16
 ·rw[if_pos W0]at h;omega
 rw[if_neg W0]at h;by_cases hr:4<=op/\op<=15
 ·rw[if_pos (Je op hr.1 hr.2).2]at h;omega
 ·rw[wD op (by omega)]at h;rw[if_neg (by decide)]at h;omega
def Ll(op:Int)(ks:List Int)(h:(ks.length:Int)=lB op)(h1:op≠1)(h2:op≠2): aF aD 215 [I op,.aG false E1 (ks.map eI)] (.bJ [I (ko op ks).1,.bool (ko op ks).2]):=by
 rcases lC h h1 h2 with⟨rfl,hn⟩|⟨h4,CD,hn⟩|⟨rfl,hn⟩
 ·match ks,hn with
  | [a],_=>exact PJ a
 ·match ks,hn with
  | [a,b],_=>exact PK op a b h4 CD
 ·match ks,hn with
  | [a,b,c],_=>exact PL a b c
def RZ(op:Int)(ks:List Int)(h:(ks.length:Int)=lB op)(h1:op≠1)(h2:op≠2): aF aD 196 [I op,.aG false E1 (ks.map eI)] (.bJ [I (oe op ks).1,I (oe op ks).2]):=by
 rcases lC h h1 h2 with⟨rfl,hn⟩|⟨h4,CD,hn⟩|⟨rfl,hn⟩
 ·match ks,hn with
  | [a],_=>exact W9 a
 ·match ks,hn with
  | [a,b],_=>exact W_ op a b h4 CD
 ·match ks,hn with
  | [a,b,c],_=>exact Xa a b c
mutual
def fB(cs:List bQ): Expr->Int × Int
 | .mk op v s l =>
   if op=1 then(v.kind,0)
   else if op=2 then(if k_ cs s<0 then(0,13)else ((cs.getD (k_ cs s).toNat default).kind,0))
   else if(jQ cs l).2=0 then oe op (jQ cs l).1 else(0,(jQ cs l).2)
def jQ(cs:List bQ): List Expr->List Int × Int
 | []=>([],0)
 | x :: r =>
   if(fB cs x).2≠0 then([],(fB cs x).2)
   else if(jQ cs r).2≠0 then([],(jQ cs r).2)
   else((fB cs x).1::(jQ cs r).1,0)
end
def Hy{cs:List bQ}: ∀ {l:List Expr} {ks:List Int},ks.length=l.length->(∀ k,k<l.length->fB cs (l.getD k default)=(ks.getD k 0,0))->jQ cs l=(ks,0)
 | [],[],_,_=>by simp only[jQ]
 | x :: r, k :: ks, hl, h => by
   have h0:=h 0 (by simp);simp only[dn]at h0;have hr:=Hy (l:=r) (ks:=ks) (by simpa using hl) (fun i hi=>by simpa using h (i+1) (by simpa using hi));simp[jQ,h0,hr]
def Ea{cs:List bQ}: ∀ {l:List Expr} {i:Nat} {e:Int},i<l.length->(∀ k,k<i->(fB cs (l.getD k default)).2=0)->(fB cs (l.getD i default)).2=e->e≠0->jQ cs l=([],e)
 | x :: r, 0, e, _, _, he, hne => by
   simp only[dn]at he;simp[jQ,he,hne]
 | x :: r, i + 1, e, hi, h, he, hne => by
   have h0:=h 0 (by omega);simp only[dn]at h0;have hr:=Ea (l:=r) (i:=i) (e:=e) (by simpa using hi) (fun k hk=>by simpa using h (k+1) (by omega)) (by simpa using he) hne;simp[jQ,h0,hr,hne]
def Lm{α : Type}[Inhabited α](p : α->Bool)(l:List α): iT p l<l.length:=by
 rcases sv p l with⟨h1,h2⟩|⟨i,h1,h2,h3⟩
 ·rw[h1];omega
 ·rw[h2];omega
def R0(cs:List bQ)(hcs:cs.length<=2 ^ 60)(x:Expr): dw x=true->fE x<=2 ^ 60->aF aD 165 [aJ x,aY cs] (.bJ [I (fB cs x).1,I (fB cs x).2]):=by
 induction x using Expr.ind with
 | h op v s l ih =>
   intro hr hz;simp only[fE]at hz;have hl:=uE l
   have vO:(l.length:Int)=lB op:=by
    simp only[dw,aC,decide_eq_true_eq]at hr;exact hr.1
   obtain⟨vk,vn,vs⟩:=v;have hA:=Mt cs s hcs;have Xb:=Lm (fun c:bQ=>c.name==s) cs
   change k_ cs s<cs.length at Xb
   simp only[aY]at hA ⊢;by_cases h1:op=1
   ·have e:fB cs (.mk op ⟨vk,vn,vs⟩ s l)=(vk,0):=by simp only[fB,if_pos h1]
    rw[e];refine aK qK ?_;intro Q aq au aA;repeat' first|refine ak ?_|refine aj ?_ ?_<;>intro hw<;>try omega|fail
    exact bt rfl rfl
   by_cases h2:op=2
   ·have e:fB cs (.mk op ⟨vk,vn,vs⟩ s l)=if k_ cs s<0 then(0,13)else ((cs.getD (k_ cs s).toNat default).kind,0):=by simp only[fB,if_neg h1,if_pos h2]
    rw[e];generalize k_ cs s=i at *;by_cases hi:i<0
    ·rw[if_pos hi];refine aK qK ?_;intro Q aq au aA;repeat' first|refine ak ?_|refine aj ?_ ?_<;>intro hw<;>try omega|fail
     exact bt rfl rfl
    ·rw[if_neg hi];obtain⟨n,rfl⟩:∃ n:Nat,i=n:=⟨i.toNat,by omega⟩;have hn:n<cs.length:=by omega
     refine aK qK ?_;intro Q aq au aA;repeat' first|refine ak ?_|refine aj ?_ ?_<;>intro hw<;>try omega|fail
     exact bt rfl rfl
   have Eb:rK l=true:=by
    simp only[dw,if_neg h1,if_neg h2,aC]at hr;exact hr.2.2
   have qZ:∀ k,k<l.length->dw (l.getD k default)=true:=fun k hk=>by
    rw[tE]at Eb;simp only[cy,List.any_eq_false,cy,Bool.not_eq_false']at Eb;simpa using Eb _ (aO hk)
   have hk:∀ k,k<l.length->_:=fun k h=>ih _ (aO h) (qZ k h) (by have:=sP (aO h);omega);have e:fB cs (.mk op ⟨vk,vn,vs⟩ s l)=if(jQ cs l).2=0 then oe op (jQ cs l).1 else(0,(jQ cs l).2):=by simp only[fB,if_neg h1,if_neg h2]
   rw[e];have Tc:l.length<=3:=by rcases lC vO h1 h2 with h|h|h<;>omega
   have UU:=fun ks h=>Ll op ks h h1 h2;clear hA Xb e hr Eb;simp only[aY]at hk;refine aK qK ?_;intro Q aq au aA;repeat' first|refine ak ?_|refine aj ?_ ?_<;>intro hw<;>try omega|fail
   with_reducible refine aX [4,5,7,9,10,11,37,38,39,40,41,42,43,44,45,46,47,48,49,50,51,52,53,54] (fun q:Nat × List Int × List bE=>[(37,I q.1),(7,.own E1 1 q.1 0 q.1)]) (fun q=> .cells [I op,I vk,I vn,.str vs,.str s,.aG false EX (l.map aJ)]:: .vec E1 (q.2.1.map eI)::q.2.2) (fun q=>q.1<=l.length/\q.2.1.length=q.1/\ ∀ k,k<q.1->fB cs (l.getD k default)=(q.2.1.getD k 0,0)) (fun q=>l.length-q.1) (0,[],[]) ?_ ?_ ?_ ?_
   ·simp
   ·rfl
   ·exact at_
   rintro⟨i,ks,τ⟩ r ⟨a1,a2,a3⟩;dsimp only at a1 a2 a3;by_cases hi:i<l.length
   ·have hx:=hk i hi;generalize hK:fB cs (l.getD i default)=K at *;obtain⟨kk,ke⟩:=K;rw[aU]at hx;repeat' first|simp (disch:=omega) only[go_sem,aq,au,aA,a2]|refine ak ?_|refine aj ?_ ?_<;>intro hw<;>try omega|fail
    ·have:jQ cs l=([],ke):=Ea hi (fun k h=>by rw[a3 k h]) (by rw[hK]) (by assumption);rw[this];refine bt ?_ rfl;dsimp only;rw[if_neg (by assumption)]
    ·refine⟨(i+1,ks++[kk],τ++[.cells [I (l.getD i default).op,I (l.getD i default).v.kind,I (l.getD i default).v.n,.str (l.getD i default).v.s,.str (l.getD i default).s,.aG false EX ((l.getD i default).l.map aJ)]]),?_,?_,?_,bK,at_⟩
     ·refine⟨by dsimp only;omega,by simp[a2],bx (fun k iX=>?_) ?_⟩
      ·rw[a3 k iX];simp[aB,aV (show k<ks.length by omega)]
      ·rw[hK];have:ke=0:=by assumption
       rw[this,<-a2];simp[aB]
     ·dsimp only;omega
     ·simp[eI]
   ·have hie:i=l.length:=by omega
    subst hie;have vY:=Hy a2 a3;rw[vY]at aq au;have hc:=UU ks (by rw[a2];exact vO);have hpk:AV.bG (ks.map eI)=true:=xP ks;have hlk:(ks.map eI).length=l.length:=by simp[a2]
    simp only[if_true]at aq au;unfold oe at aq au;clear vY a3;generalize ko op ks=R at *;obtain⟨rk,rb⟩:=R;repeat' first|simp (disch:=omega) only[go_sem,aq,au,aA,a2]|refine ak ?_|(with_reducible refine Kz hc (.cons (View.refl _ rfl) (.cons (View.vec rfl hlk.symm hlk.symm hpk) (.nil _))) rfl ?_)|refine aj ?_ ?_<;>intro hw<;>try omega|fail
    all_goals (refine bt ?_ rfl;simp_all)
def UW(cs:List bQ)(hcs:cs.length<=2 ^ 60)(x:Expr): dw x=true->fE x<=2 ^ 60->aF aD 144 [aJ x,aY cs] (.bJ [I (fB cs x).1,I (fB cs x).2]):=by
 induction x using Expr.ind with
 | h op v s l ih =>
   intro hr hz;simp only[fE]at hz;have hl:=uE l
   have vO:(l.length:Int)=lB op:=by
    simp only[dw,aC,decide_eq_true_eq]at hr;exact hr.1
   obtain⟨vk,vn,vs⟩:=v;have hA:=Hx cs s hcs;have Xb:=Lm (fun c:bQ=>c.name==s) cs
   change k_ cs s<cs.length at Xb
   simp only[aY]at hA ⊢;by_cases h1:op=1
   ·have e:fB cs (.mk op ⟨vk,vn,vs⟩ s l)=(vk,0):=by simp only[fB,if_pos h1]
    rw[e];refine aK rY ?_;intro Q aq au aA;repeat' first|refine ak ?_|refine aj ?_ ?_<;>intro hw<;>try omega|fail
    exact bt rfl rfl
   by_cases h2:op=2
   ·have e:fB cs (.mk op ⟨vk,vn,vs⟩ s l)=if k_ cs s<0 then(0,13)else ((cs.getD (k_ cs s).toNat default).kind,0):=by simp only[fB,if_neg h1,if_pos h2]
    rw[e];generalize k_ cs s=i at *;by_cases hi:i<0
    ·rw[if_pos hi];refine aK rY ?_;intro Q aq au aA;repeat' first|refine ak ?_|refine aj ?_ ?_<;>intro hw<;>try omega|fail
     exact bt rfl rfl
    ·rw[if_neg hi];obtain⟨n,rfl⟩:∃ n:Nat,i=n:=⟨i.toNat,by omega⟩;have hn:n<cs.length:=by omega
     refine aK rY ?_;intro Q aq au aA;repeat' first|refine ak ?_|refine aj ?_ ?_<;>intro hw<;>try omega|fail
     exact bt rfl rfl
   have Eb:rK l=true:=by
    simp only[dw,if_neg h1,if_neg h2,aC]at hr;exact hr.2.2
   have qZ:∀ k,k<l.length->dw (l.getD k default)=true:=fun k hk=>by
    rw[tE]at Eb;simp only[cy,List.any_eq_false,cy,Bool.not_eq_false']at Eb;simpa using Eb _ (aO hk)
   have hk:∀ k,k<l.length->_:=fun k h=>ih _ (aO h) (qZ k h) (by have:=sP (aO h);omega);have e:fB cs (.mk op ⟨vk,vn,vs⟩ s l)=if(jQ cs l).2=0 then oe op (jQ cs l).1 else(0,(jQ cs l).2):=by simp only[fB,if_neg h1,if_neg h2]
   rw[e];have Tc:l.length<=3:=by rcases lC vO h1 h2 with h|h|h<;>omega
   have UU:=fun ks h=>RZ op ks h h1 h2;clear hA Xb e hr Eb;simp only[aY]at hk;refine aK rY ?_;intro Q aq au aA;repeat' first|refine ak ?_|refine aj ?_ ?_<;>intro hw<;>try omega|fail
   with_reducible refine aX [4,5,7,8,9,10,31,32,33,34,35,36,37,38,39,40,41,42,43,44,45,46,47,48,49,50,51,52,53,54] (fun q:Nat × List Int=>[(8,I q.1),(7,.own E1 1 q.1 0 q.1)]) (fun q=> .cells [I op,I vk,I vn,.str vs,.str s,.aG false EX (l.map aJ)]::[.vec E1 (q.2.map eI)]) (fun q=>q.1<=l.length/\q.2.length=q.1/\ ∀ k,k<q.1->fB cs (l.getD k default)=(q.2.getD k 0,0)) (fun q=>l.length-q.1) (0,[]) ?_ ?_ ?_ ?_
   ·simp
   ·rfl
   ·exact at_
   rintro⟨i,ks⟩ r ⟨a1,a2,a3⟩;dsimp only at a1 a2 a3;by_cases hi:i<l.length
   ·have hx:=hk i hi;generalize hK:fB cs (l.getD i default)=K at *;obtain⟨kk,ke⟩:=K;rw[aU]at hx;repeat' first|simp (disch:=omega) only[go_sem,aq,au,aA,a2]|refine ak ?_|refine aj ?_ ?_<;>intro hw<;>try omega|fail
    ·have:jQ cs l=([],ke):=Ea hi (fun k h=>by rw[a3 k h]) (by rw[hK]) (by assumption);rw[this];refine bt ?_ rfl;dsimp only;rw[if_neg (by assumption)]
    ·refine⟨(i+1,ks++[kk]),?_,?_,?_,bK,at_⟩
     ·refine⟨by dsimp only;omega,by simp[a2],bx (fun k iX=>?_) ?_⟩
      ·rw[a3 k iX];simp[aB,aV (show k<ks.length by omega)]
      ·rw[hK];have:ke=0:=by assumption
       rw[this,<-a2];simp[aB]
     ·dsimp only;omega
     ·simp[eI]
   ·have hie:i=l.length:=by omega
    subst hie;have vY:=Hy a2 a3;rw[vY]at aq au;have hc:=UU ks (by rw[a2];exact vO);have hpk:AV.bG (ks.map eI)=true:=xP ks;have hlk:(ks.map eI).length=l.length:=by simp[a2]
    simp only[if_true]at aq au;clear vY a3;generalize oe op ks=R at *;obtain⟨rk,rb⟩:=R;repeat' first|simp (disch:=omega) only[go_sem,aq,au,aA,a2]|refine ak ?_|(with_reducible refine Kz hc (.cons (View.refl _ rfl) (.cons (View.vec rfl hlk.symm hlk.symm hpk) (.nil _))) rfl ?_)|refine aj ?_ ?_<;>intro hw<;>try omega|fail
    all_goals exact bt rfl rfl
def R5(cs:List bQ)(hcs:cs.length<=2 ^ 60)(x:Expr)(hx:iG x)(hz:fE x<=2 ^ 60): aF aD 113 [aJ x,aY cs] (.bJ [I (if dw x then(fB cs x).1 else 0),I (if dw x then(fB cs x).2 else 2)]):=by
 have h1:=xL x hx hz;have h2:=R0 cs hcs x;cases hr:dw x with
 | true =>
   have h2:=h2 hr hz;rw[hr]at h1;simp only[iz,if_true]at h1 ⊢;generalize fB cs x=K at *;rw[aU]at h1 h2 ⊢;simp only[aY]at h2 ⊢;refine aK zY ?_;intro Q aq au aA;repeat' first|refine ak ?_|refine aj ?_ ?_<;>intro hw<;>try omega|fail
   all_goals exact bt rfl rfl
 | false =>
   rw[hr]at h1;simp only[iz,aI,if_false]at h1 ⊢;rw[aU]at h1 ⊢;simp only[aY];refine aK zY ?_;intro Q aq au aA;repeat' first|refine ak ?_|refine aj ?_ ?_<;>intro hw<;>try omega|fail
   all_goals exact bt rfl rfl
def UX(cs:List bQ)(hcs:cs.length<=2 ^ 60)(x:Expr)(hx:iG x)(hz:fE x<=2 ^ 60): aF aD 87 [aJ x,aY cs] (.bJ [I (if dw x then(fB cs x).1 else 0),I (if dw x then(fB cs x).2 else 2)]):=by
 have h1:=zh x hx hz;have h2:=UW cs hcs x;cases hr:dw x with
 | true =>
   have h2:=h2 hr hz;rw[hr]at h1;simp only[if_true]at h1 ⊢;generalize fB cs x=K at *;rw[aU]at h1 h2 ⊢;simp only[aY]at h2 ⊢;refine aK Cr ?_;intro Q aq au aA;repeat' first|refine ak ?_|refine aj ?_ ?_<;>intro hw<;>try omega|fail
   all_goals exact bt rfl rfl
 | false =>
   rw[hr]at h1;simp only[aI,if_false]at h1 ⊢;rw[aU]at h1 ⊢;simp only[aY];refine aK Cr ?_;intro Q aq au aA;repeat' first|refine ak ?_|refine aj ?_ ?_<;>intro hw<;>try omega|fail
   all_goals exact bt rfl rfl
def uH(l:List bQ)(i:Nat): Int :=
 if jH (l.getD i default).name=false\/k_ l (l.getD i default).name≠i then 13
 else if(l.getD i default).kind<1\/3<(l.getD i default).kind then 14 else 0
def jZ(l:List bQ): Int:=if 6<l.length then 24 else match(List.range l.length).find? (fun i=>uH l i != 0)with
 | some i=>uH l i
 | none=>0
def nI{n k:Nat}(h:k<n): (List.range n).getD k default=k:=by simp[aB,h]
def PN{l:List bQ}{i:Nat}{e:Int}(h6:¬ 6<l.length)(hi:i<l.length)(h:∀ k,k<i->uH l k=0)(he:uH l i=e)(hne:e≠0): jZ l=e:=by
 have:=sO (p:=fun i=>uH l i != 0) (l:=List.range l.length) (i:=i) (by simpa using hi) (fun k hk=>by rw[nI (by omega)];simp[h k hk]) (by rw[nI hi];simp[he,hne]);unfold jZ;rw[if_neg h6,this,nI hi];exact he
def Mu{l:List bQ}(h6:¬ 6<l.length)(h:∀ k,k<l.length->uH l k=0): jZ l=0:=by
 have:=qg (p:=fun i=>uH l i != 0) (l:=List.range l.length) (fun k hk=>by rw[List.length_range]at hk;rw[nI hk];simp[h k hk]);unfold jZ;rw[if_neg h6,this]
def ac5{l:List bQ}{i:Nat}(hi:i<l.length): k_ l (l.getD i default).name<=i/\0<=k_ l (l.getD i default).name:=by
 unfold k_;generalize hs:(l.getD i default).name=s;rcases sv (fun c:bQ=>c.name==s) l with⟨h1,h2⟩|⟨j,h1,h2,h3⟩
 ·exfalso;have:=List.find?_eq_none.1 h2 _ (aO hi);rw[hs]at this;exact this (by simp)
 ·rw[h2];refine⟨?_,by omega⟩;by_cases hj:j<=i
  ·omega
  ·exfalso
   have h4:l.findIdx? (fun c:bQ=>c.name==s)=some j:=by
    unfold iT at h2;split at h2
    ·rename_i i' hi';rw[hi'];congr 1;omega
    ·omega
   obtain⟨_,_,h5⟩:=List.findIdx?_eq_some_iff_getElem.1 h4;have:=h5 i (by omega);rw[aB,aE hi]at hs;simp at hs;simp[hs]at this
def Ln(l:List bQ)(hn:∀ k,k<l.length->(l.getD k default).name.length<=2 ^ 62): aF aD 106 [aY l] (I (jZ l)):=by
 by_cases h6:6<l.length
 ·have e:jZ l=24:=by unfold jZ;rw[if_pos h6]
  rw[e];refine aK wc ?_ (by simp[AV.cQ,AV.bG,ie]);intro Q aq au aA;repeat' first|refine ak ?_|refine aj ?_ ?_<;>intro hw<;>try omega|fail
  exact aN rfl rfl
 refine aK wc ?_ (by simp[AV.cQ,AV.bG,ie]);intro Q aq au aA;repeat' first|refine ak ?_|refine aj ?_ ?_<;>intro hw<;>try omega|fail
 with_reducible refine aX [2,3,4,10,11,12,13,14,15,16,17,18,19,20,21,22,23,24,25,26,27,28,29,30,31,32,33,34,35,36,37,38,39,40] (fun q:Nat × List bE=>[(10,I q.1)]) (fun q=>q.2) (fun q=>q.1<=l.length/\ ∀ k,k<q.1->uH l k=0) (fun q=>l.length-q.1) (0,[]) ?_ ?_ ?_ ?_
 ·simp
 ·rfl
 ·exact at_
 rintro⟨i,τ⟩ r ⟨h1,h2⟩;dsimp only at h1 h2;by_cases hi:i<l.length
 ·have c1:=xF _ (hn i hi);have c2:=Mt l (l.getD i default).name (by omega);have hE:uH l i=if jH (l.getD i default).name=false\/k_ l (l.getD i default).name≠i then 13 else if(l.getD i default).kind<1\/3<(l.getD i default).kind then 14 else 0:=rfl
  obtain⟨c,hc⟩:∃ c,l.getD i default=c:=⟨_,rfl⟩;rw[hc]at c1 c2 hE;generalize jH c.name=nb at *;generalize k_ l c.name=an at *;simp only[aY]at c2;repeat' first|simp (disch:=omega) only[go_sem,aq,au,aA,hc]|refine ak ?_|refine aj ?_ ?_<;>intro hw<;>try omega|fail
  all_goals first
   | (refine aN ?_ rfl
      refine congrArg I ?_
      symm
      refine PN h6 hi h2 ?_ (by decide);rw[hE]
      first
       |(rw[if_pos (by simp_all)];done)
       |(rw[if_neg (by simp_all),if_pos (by omega)];done))
   | (refine ⟨(i + 1, τ ++ [.cells [.str c.name, I c.kind, .aG false EV (c.order.map bD)]]), ?_, ?_, by first | rfl | (simp [go_sem]; done), bK, at_⟩
      ·exact⟨by dsimp only;omega,bx h2 (by rw[hE,if_neg (by simp_all),if_neg (by omega)])⟩
      ·dsimp only;omega)
 ·repeat' first|refine ak ?_|refine aj ?_ ?_<;>intro hw<;>try omega|fail
  refine aN ?_ rfl;rw[Mu h6 (fun k hk=>h2 k (by omega))]
def N2(l:List bQ)(hn:∀ k,k<l.length->(l.getD k default).name.length<=2 ^ 62): aF aD 133 [aY l] (I (jZ l)):=by
 by_cases h6:6<l.length
 ·have e:jZ l=24:=by unfold jZ;rw[if_pos h6]
  rw[e];refine aK xq ?_ (by simp[AV.cQ,AV.bG,ie]);intro Q aq au aA;repeat' first|refine ak ?_|refine aj ?_ ?_<;>intro hw<;>try omega|fail
  exact aN rfl rfl
 refine aK xq ?_ (by simp[AV.cQ,AV.bG,ie]);intro Q aq au aA;repeat' first|refine ak ?_|refine aj ?_ ?_<;>intro hw<;>try omega|fail
 with_reducible refine aX [2,3,7,8,9,10,11,12,13,14,15,16,17,18,19,20,21,22,23,24,25,26,27,28,29,30,31,32,33,34,35,36,37,38,39,40,41,42,43,44,45,46] (fun i:Nat=>[(3,I i)]) (fun _=>[]) (fun i=>i<=l.length/\ ∀ k,k<i->uH l k=0) (fun i=>l.length-i) (0) ?_ ?_ ?_ ?_
 ·simp
 ·rfl
 ·exact at_
 rintro i r ⟨h1,h2⟩;by_cases hi:i<l.length
 ·have c1:=wC _ (hn i hi);have c2:=Hx l (l.getD i default).name (by omega);have hle:=ac5 hi;have hE:uH l i=if jH (l.getD i default).name=false\/k_ l (l.getD i default).name≠i then 13 else if(l.getD i default).kind<1\/3<(l.getD i default).kind then 14 else 0:=rfl
  obtain⟨c,hc⟩:∃ c,l.getD i default=c:=⟨_,rfl⟩;rw[hc]at c1 c2 hE hle;generalize jH c.name=nb at *;generalize k_ l c.name=an at *;simp only[aY]at c2;repeat' first|simp (disch:=omega) only[go_sem,aq,au,aA,hc]|refine ak ?_|refine aj ?_ ?_<;>intro hw<;>try omega|fail
  all_goals first
   | (refine aN ?_ rfl
      refine congrArg I ?_
      symm
      refine PN h6 hi h2 ?_ (by decide);rw[hE]
      first
       |(rw[if_pos (.inl (by assumption))];done)
       |(rw[if_pos (.inr (by omega))];done)
       |(rw[if_neg (by rintro(h|h)<;>first|omega|simp_all),if_pos (by omega)];done))
   | (refine ⟨i + 1, ?_, ?_, by first | rfl | (simp [go_sem]; done), bK, at_⟩ <;> (try dsimp only)
      ·exact⟨by omega,bx h2 (by rw[hE,if_neg (by rintro(h|h)<;>first|omega|simp_all),if_neg (by omega)])⟩
      ·omega)
 ·repeat' first|refine ak ?_|refine aj ?_ ?_<;>intro hw<;>try omega|fail
  refine aN ?_ rfl;rw[Mu h6 (fun k hk=>h2 k (by omega))]
def nJ(x:Expr): Bool:=dw x && decide (kA x<=12)
def Mv(x:Expr)(hx:iG x)(hz:fE x<=2 ^ 60): aF aD 251 [aJ x] (.bool (nJ x)):=by
 have h1:=xL x hx hz;have h2:=F1 x hz;unfold nJ;generalize dw x=b at *;rw[aU]at h1 h2 ⊢;refine aK Pt ?_;intro Q aq au aA;cases b<;>simp only[iz,if_true,Bool.false_eq_true,if_false]at h1
 ·repeat' first|refine ak ?_|refine aj ?_ ?_<;>intro hw<;>try omega|fail
  all_goals exact aN rfl rfl
 ·repeat' first|refine ak ?_|refine aj ?_ ?_<;>intro hw<;>try omega|fail
  all_goals (refine aN ?_ rfl;simp;omega)
def Jq(x:Expr)(hx:iG x)(hz:fE x<=2 ^ 60): aF aD 233 [aJ x] (.bool (nJ x)):=by
 have h1:=zh x hx hz;have h2:=Jg x hz;unfold nJ;generalize dw x=b at *;rw[aU]at h1 h2 ⊢;refine aK NS ?_;intro Q aq au aA;cases b
 ·repeat' first|refine ak ?_|refine aj ?_ ?_<;>intro hw<;>try omega|fail
  all_goals exact aN rfl rfl
 ·repeat' first|refine ak ?_|refine aj ?_ ?_<;>intro hw<;>try omega|fail
  all_goals (refine aN ?_ rfl;simp;omega)
