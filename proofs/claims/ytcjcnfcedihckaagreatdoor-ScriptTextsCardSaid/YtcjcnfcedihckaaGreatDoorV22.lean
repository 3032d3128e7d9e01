/- Part. -/
import Derived.Test.YtcjcnfcedihckaaGreatDoorV21
set_option linter.all false
namespace Go.Proofs.YtcjcnfcedihckaaGreatDoor
open Go.AM
set_option maxRecDepth 4000
def rJ{op:Int}{n:Nat}(h:(n:Int)=jr op)(h1:op≠1)(h2:op≠2): (op=3/\n=1)\/(4<=op/\op<=15/\n=2)\/(op=16/\n=3):=by
 unfold jr at h;rw[if_neg (by omega)]at h;by_cases h3:op=3
 ·rw[if_pos h3]at h;omega
 rw[if_neg h3]at h;by_cases Tz:op=16
 ·rw[if_pos Tz]at h;omega
 rw[if_neg Tz]at h;by_cases hr:4<=op/\op<=15
 ·rw[if_pos (Gx op hr.1 hr.2).2]at h;omega
 ·rw[uI op (by omega)]at h;rw[if_neg (by decide)]at h;omega
def I1(op:Int)(ks:List Int)(h:(ks.length:Int)=jr op)(h1:op≠1)(h2:op≠2): aH aE 293 [I op,.aF false E1 (ks.map eI)] (.bJ [I (oB op ks).1,.bool (oB op ks).2]):=by
 rcases rJ h h1 h2 with⟨rfl,hn⟩|⟨h4,TJ,hn⟩|⟨rfl,hn⟩
 ·match ks,hn with
  | [a],_=>exact ML a
 ·match ks,hn with
  | [a,b],_=>exact MN op a b h4 TJ
 ·match ks,hn with
  | [a,b,c],_=>exact MO a b c
def OP(op:Int)(ks:List Int)(h:(ks.length:Int)=jr op)(h1:op≠1)(h2:op≠2): aH aE 277 [I op,.aF false E1 (ks.map eI)] (.bJ [I (nn op ks).1,I (nn op ks).2]):=by
 rcases rJ h h1 h2 with⟨rfl,hn⟩|⟨h4,TJ,hn⟩|⟨rfl,hn⟩
 ·match ks,hn with
  | [a],_=>exact TL a
 ·match ks,hn with
  | [a,b],_=>exact TM op a b h4 TJ
 ·match ks,hn with
  | [a,b,c],_=>exact TN a b c
mutual
def gu(cs:List cL): Expr->Int × Int
 | .mk op v s l =>
   if op=1 then(v.kind,0)
   else if op=2 then(if pZ cs s<0 then(0,13)else ((cs.getD (pZ cs s).toNat default).kind,0))
   else if(kz cs l).2=0 then nn op (kz cs l).1 else(0,(kz cs l).2)
def kz(cs:List cL): List Expr->List Int × Int
 | []=>([],0)
 | x :: r =>
   if(gu cs x).2≠0 then([],(gu cs x).2)
   else if(kz cs r).2≠0 then([],(kz cs r).2)
   else((gu cs x).1::(kz cs r).1,0)
end
def EW{cs:List cL}: ∀ {l:List Expr} {ks:List Int},ks.length=l.length->(∀ k,k<l.length->gu cs (l.getD k default)=(ks.getD k 0,0))->kz cs l=(ks,0)
 | [],[],_,_=>by simp only[kz]
 | x :: r, k :: ks, hl, h => by
   have h0:=h 0 (by simp);simp only[bR]at h0;have hr:=EW (l:=r) (ks:=ks) (by simpa using hl) (fun i hi=>by simpa using h (i+1) (by simpa using hi));simp[kz,h0,hr]
def BX{cs:List cL}: ∀ {l:List Expr} {i:Nat} {e:Int},i<l.length->(∀ k,k<i->(gu cs (l.getD k default)).2=0)->(gu cs (l.getD i default)).2=e->e≠0->kz cs l=([],e)
 | x :: r, 0, e, _, _, he, hne => by
   simp only[bR]at he;simp[kz,he,hne]
 | x :: r, i + 1, e, hi, h, he, hne => by
   have h0:=h 0 (by omega);simp only[bR]at h0;have hr:=BX (l:=r) (i:=i) (e:=e) (by simpa using hi) (fun k hk=>by simpa using h (k+1) (by omega)) (by simpa using he) hne;simp[kz,h0,hr,hne]
def P6{α : Type}[Inhabited α](p : α->Bool)(l:List α): gN p l<l.length:=by
 rcases qx p l with⟨h1,h2⟩|⟨i,h1,h2,h3⟩
 ·rw[h1];omega
 ·rw[h2];omega
def OQ(cs:List cL)(hcs:cs.length<=2 ^ 60)(x:Expr): cq x=true->ew x<=2 ^ 60->aH aE 270 [aI x,bP cs] (.bJ [I (gu cs x).1,I (gu cs x).2]):=by
 induction x using Expr.ind with
 | h op v s l ih =>
   intro hr hz;simp only[ew]at hz;have hl:=sR l
   have MQ:(l.length:Int)=jr op:=by
    simp only[cq,aD,decide_eq_true_eq]at hr;exact hr.1
   obtain⟨vk,vn,vs⟩:=v;have hA:=J3 cs s hcs;have GI:=P6 (fun c:cL=>c.name==s) cs
   change pZ cs s<cs.length at GI
   simp only[bP]at hA ⊢;by_cases h1:op=1
   ·have e:gu cs (.mk op ⟨vk,vn,vs⟩ s l)=(vk,0):=by simp only[gu,if_pos h1]
    rw[e];refine aJ oZ ?_;intro Q au aA aB;repeat' first|refine aq ?_|refine ak ?_ ?_<;>intro hw<;>try omega|fail
    exact bp rfl rfl
   by_cases h2:op=2
   ·have e:gu cs (.mk op ⟨vk,vn,vs⟩ s l)=if pZ cs s<0 then(0,13)else ((cs.getD (pZ cs s).toNat default).kind,0):=by simp only[gu,if_neg h1,if_pos h2]
    rw[e];generalize pZ cs s=i at *;by_cases hi:i<0
    ·rw[if_pos hi];refine aJ oZ ?_;intro Q au aA aB;repeat' first|refine aq ?_|refine ak ?_ ?_<;>intro hw<;>try omega|fail
     exact bp rfl rfl
    ·rw[if_neg hi];obtain⟨n,rfl⟩:∃ n:Nat,i=n:=⟨i.toNat,by omega⟩;have hn:n<cs.length:=by omega
     refine aJ oZ ?_;intro Q au aA aB;repeat' first|refine aq ?_|refine ak ?_ ?_<;>intro hw<;>try omega|fail
     exact bp rfl rfl
   have mF:ov l=true:=by
    simp only[cq,if_neg h1,if_neg h2,aD]at hr;exact hr.2.2
   have F1:∀ k,k<l.length->cq (l.getD k default)=true:=fun k hk=>by
    rw[rH]at mF;simp only[bW,fS,bW,Bool.not_eq_false']at mF;simpa using mF _ (aV hk)
   have hk:∀ k,k<l.length->_:=fun k h=>ih _ (aV h) (F1 k h) (by have:=qM (aV h);omega);have e:gu cs (.mk op ⟨vk,vn,vs⟩ s l)=if(kz cs l).2=0 then nn op (kz cs l).1 else(0,(kz cs l).2):=by simp only[gu,if_neg h1,if_neg h2]
   rw[e];have P3:l.length<=3:=by rcases rJ MQ h1 h2 with h|h|h<;>omega
   have RE:=fun ks h=>I1 op ks h h1 h2;clear hA GI e hr mF;simp only[bP]at hk;refine aJ oZ ?_;intro Q au aA aB;repeat' first|refine aq ?_|refine ak ?_ ?_<;>intro hw<;>try omega|fail
   with_reducible refine bn [4,5,7,9,10,11,37,38,39,40,41,42,43,44,45,46,47,48,49,50,51,52,53,54] (fun q:Nat × List Int × List bx=>[(37,I q.1),(7,.own E1 1 q.1 0 q.1)]) (fun q=> .cells [I op,I vk,I vn,.str vs,.str s,.aF false EX (l.map aI)]:: .vec E1 (q.2.1.map eI)::q.2.2) (fun q=>q.1<=l.length/\q.2.1.length=q.1/\ ∀ k,k<q.1->gu cs (l.getD k default)=(q.2.1.getD k 0,0)) (fun q=>l.length-q.1) (0,[],[]) ?_ ?_ ?_ ?_
   ·simp
   ·rfl
   ·exact at_
   rintro⟨i,ks,τ⟩ r ⟨a1,a2,a3⟩;dsimp only at a1 a2 a3;by_cases hi:i<l.length
   ·have hx:=hk i hi;generalize hK:gu cs (l.getD i default)=K at *;obtain⟨kk,ke⟩:=K;rw[aO]at hx;repeat' first|simp (disch:=omega) only[go_sem,au,aA,aB,a2]|refine aq ?_|refine ak ?_ ?_<;>intro hw<;>try omega|fail
    ·have:kz cs l=([],ke):=BX hi (fun k h=>by rw[a3 k h]) (by rw[hK]) (by assumption);rw[this];refine bp ?_ rfl;dsimp only;rw[if_neg (by assumption)]
    ·refine⟨(i+1,ks++[kk],τ++[.cells [I (l.getD i default).op,I (l.getD i default).v.kind,I (l.getD i default).v.n,.str (l.getD i default).v.s,.str (l.getD i default).s,.aF false EX ((l.getD i default).l.map aI)]]),?_,?_,?_,bL,at_⟩
     ·refine⟨by dsimp only;omega,by simp[a2],aY (fun k i_=>?_) ?_⟩
      ·rw[a3 k i_];simp[aj,aN (show k<ks.length by omega)]
      ·rw[hK];have:ke=0:=by assumption
       rw[this,<-a2];simp[aj]
     ·dsimp only;omega
     ·simp[eI]
   ·have Z7:i=l.length:=by omega
    subst Z7;have oc:=EW a2 a3;rw[oc]at au aA;have hc:=RE ks (by rw[a2];exact MQ);have hpk:AV.bX (ks.map eI)=true:=BW ks;have hlk:(ks.map eI).length=l.length:=by simp[a2]
    simp only[if_true]at au aA;unfold nn at au aA;clear oc a3;generalize oB op ks=R at *;obtain⟨rk,rb⟩:=R;repeat' first|simp (disch:=omega) only[go_sem,au,aA,aB,a2]|refine aq ?_|(with_reducible refine sE hc (.cons (View.refl _ rfl) (.cons (View.vec rfl hlk.symm hlk.symm hpk) (.nil _))) rfl ?_)|refine ak ?_ ?_<;>intro hw<;>try omega|fail
    all_goals (refine bp ?_ rfl;simp_all)
def RF(cs:List cL)(hcs:cs.length<=2 ^ 60)(x:Expr): cq x=true->ew x<=2 ^ 60->aH aE 253 [aI x,bP cs] (.bJ [I (gu cs x).1,I (gu cs x).2]):=by
 induction x using Expr.ind with
 | h op v s l ih =>
   intro hr hz;simp only[ew]at hz;have hl:=sR l
   have MQ:(l.length:Int)=jr op:=by
    simp only[cq,aD,decide_eq_true_eq]at hr;exact hr.1
   obtain⟨vk,vn,vs⟩:=v;have hA:=MP cs s hcs;have GI:=P6 (fun c:cL=>c.name==s) cs
   change pZ cs s<cs.length at GI
   simp only[bP]at hA ⊢;by_cases h1:op=1
   ·have e:gu cs (.mk op ⟨vk,vn,vs⟩ s l)=(vk,0):=by simp only[gu,if_pos h1]
    rw[e];refine aJ qh ?_;intro Q au aA aB;repeat' first|refine aq ?_|refine ak ?_ ?_<;>intro hw<;>try omega|fail
    exact bp rfl rfl
   by_cases h2:op=2
   ·have e:gu cs (.mk op ⟨vk,vn,vs⟩ s l)=if pZ cs s<0 then(0,13)else ((cs.getD (pZ cs s).toNat default).kind,0):=by simp only[gu,if_neg h1,if_pos h2]
    rw[e];generalize pZ cs s=i at *;by_cases hi:i<0
    ·rw[if_pos hi];refine aJ qh ?_;intro Q au aA aB;repeat' first|refine aq ?_|refine ak ?_ ?_<;>intro hw<;>try omega|fail
     exact bp rfl rfl
    ·rw[if_neg hi];obtain⟨n,rfl⟩:∃ n:Nat,i=n:=⟨i.toNat,by omega⟩;have hn:n<cs.length:=by omega
     refine aJ qh ?_;intro Q au aA aB;repeat' first|refine aq ?_|refine ak ?_ ?_<;>intro hw<;>try omega|fail
     exact bp rfl rfl
   have mF:ov l=true:=by
    simp only[cq,if_neg h1,if_neg h2,aD]at hr;exact hr.2.2
   have F1:∀ k,k<l.length->cq (l.getD k default)=true:=fun k hk=>by
    rw[rH]at mF;simp only[bW,fS,bW,Bool.not_eq_false']at mF;simpa using mF _ (aV hk)
   have hk:∀ k,k<l.length->_:=fun k h=>ih _ (aV h) (F1 k h) (by have:=qM (aV h);omega);have e:gu cs (.mk op ⟨vk,vn,vs⟩ s l)=if(kz cs l).2=0 then nn op (kz cs l).1 else(0,(kz cs l).2):=by simp only[gu,if_neg h1,if_neg h2]
   rw[e];have P3:l.length<=3:=by rcases rJ MQ h1 h2 with h|h|h<;>omega
   have RE:=fun ks h=>OP op ks h h1 h2;clear hA GI e hr mF;simp only[bP]at hk;refine aJ qh ?_;intro Q au aA aB;repeat' first|refine aq ?_|refine ak ?_ ?_<;>intro hw<;>try omega|fail
   with_reducible refine bn [4,5,7,8,9,10,31,32,33,34,35,36,37,38,39,40,41,42,43,44,45,46,47,48,49,50,51,52,53,54] (fun q:Nat × List Int=>[(8,I q.1),(7,.own E1 1 q.1 0 q.1)]) (fun q=> .cells [I op,I vk,I vn,.str vs,.str s,.aF false EX (l.map aI)]::[.vec E1 (q.2.map eI)]) (fun q=>q.1<=l.length/\q.2.length=q.1/\ ∀ k,k<q.1->gu cs (l.getD k default)=(q.2.getD k 0,0)) (fun q=>l.length-q.1) (0,[]) ?_ ?_ ?_ ?_
   ·simp
   ·rfl
   ·exact at_
   rintro⟨i,ks⟩ r ⟨a1,a2,a3⟩;dsimp only at a1 a2 a3;by_cases hi:i<l.length
   ·have hx:=hk i hi;generalize hK:gu cs (l.getD i default)=K at *;obtain⟨kk,ke⟩:=K;rw[aO]at hx;repeat' first|simp (disch:=omega) only[go_sem,au,aA,aB,a2]|refine aq ?_|refine ak ?_ ?_<;>intro hw<;>try omega|fail
    ·have:kz cs l=([],ke):=BX hi (fun k h=>by rw[a3 k h]) (by rw[hK]) (by assumption);rw[this];refine bp ?_ rfl;dsimp only;rw[if_neg (by assumption)]
    ·refine⟨(i+1,ks++[kk]),?_,?_,?_,bL,at_⟩
     ·refine⟨by dsimp only;omega,by simp[a2],aY (fun k i_=>?_) ?_⟩
      ·rw[a3 k i_];simp[aj,aN (show k<ks.length by omega)]
      ·rw[hK];have:ke=0:=by assumption
       rw[this,<-a2];simp[aj]
     ·dsimp only;omega
     ·simp[eI]
   ·have Z7:i=l.length:=by omega
    subst Z7;have oc:=EW a2 a3;rw[oc]at au aA;have hc:=RE ks (by rw[a2];exact MQ);have hpk:AV.bX (ks.map eI)=true:=BW ks;have hlk:(ks.map eI).length=l.length:=by simp[a2]
    simp only[if_true]at au aA;clear oc a3;generalize nn op ks=R at *;obtain⟨rk,rb⟩:=R;repeat' first|simp (disch:=omega) only[go_sem,au,aA,aB,a2]|refine aq ?_|(with_reducible refine sE hc (.cons (View.refl _ rfl) (.cons (View.vec rfl hlk.symm hlk.symm hpk) (.nil _))) rfl ?_)|refine ak ?_ ?_<;>intro hw<;>try omega|fail
    all_goals exact bp rfl rfl
def OR(cs:List cL)(hcs:cs.length<=2 ^ 60)(x:Expr)(hx:gV x)(hz:ew x<=2 ^ 60): aH aE 234 [aI x,bP cs] (.bJ [I (if cq x then(gu cs x).1 else 0),I (if cq x then(gu cs x).2 else 2)]):=by
 have h1:=BP x hx hz;have h2:=OQ cs hcs x;cases hr:cq x with
 | true =>
   have h2:=h2 hr hz;rw[hr]at h1;simp only[mw,if_true]at h1 ⊢;generalize gu cs x=K at *;rw[aO]at h1 h2 ⊢;simp only[bP]at h2 ⊢;refine aJ ya ?_;intro Q au aA aB;repeat' first|refine aq ?_|refine ak ?_ ?_<;>intro hw<;>try omega|fail
   all_goals exact bp rfl rfl
 | false =>
   rw[hr]at h1;simp only[mw,Bool.false_eq_true,if_false]at h1 ⊢;rw[aO]at h1 ⊢;simp only[bP];refine aJ ya ?_;intro Q au aA aB;repeat' first|refine aq ?_|refine ak ?_ ?_<;>intro hw<;>try omega|fail
   all_goals exact bp rfl rfl
def RG(cs:List cL)(hcs:cs.length<=2 ^ 60)(x:Expr)(hx:gV x)(hz:ew x<=2 ^ 60): aH aE 213 [aI x,bP cs] (.bJ [I (if cq x then(gu cs x).1 else 0),I (if cq x then(gu cs x).2 else 2)]):=by
 have h1:=xx x hx hz;have h2:=RF cs hcs x;cases hr:cq x with
 | true =>
   have h2:=h2 hr hz;rw[hr]at h1;simp only[if_true]at h1 ⊢;generalize gu cs x=K at *;rw[aO]at h1 h2 ⊢;simp only[bP]at h2 ⊢;refine aJ Aj ?_;intro Q au aA aB;repeat' first|refine aq ?_|refine ak ?_ ?_<;>intro hw<;>try omega|fail
   all_goals exact bp rfl rfl
 | false =>
   rw[hr]at h1;simp only[Bool.false_eq_true,if_false]at h1 ⊢;rw[aO]at h1 ⊢;simp only[bP];refine aJ Aj ?_;intro Q au aA aB;repeat' first|refine aq ?_|refine ak ?_ ?_<;>intro hw<;>try omega|fail
   all_goals exact bp rfl rfl
def nV(l:List cL)(i:Nat): Int :=
 if fc (l.getD i default).name=false\/pZ l (l.getD i default).name≠i then 13
 else if(l.getD i default).kind<1\/3<(l.getD i default).kind then 14 else 0
def iy(l:List cL): Int:=if 6<l.length then 24 else match(List.range l.length).find? (fun i=>nV l i != 0)with
 | some i=>nV l i
 | none=>0
def lY{n k:Nat}(h:k<n): (List.range n).getD k default=k:=by simp[aj,h]
def MR{l:List cL}{i:Nat}{e:Int}(h6:¬ 6<l.length)(hi:i<l.length)(h:∀ k,k<i->nV l k=0)(he:nV l i=e)(hne:e≠0): iy l=e:=by
 have:=qL (p:=fun i=>nV l i != 0) (l:=List.range l.length) (i:=i) (by simpa using hi) (fun k hk=>by rw[lY (by omega)];simp[h k hk]) (by rw[lY hi];simp[he,hne]);unfold iy;rw[if_neg h6,this,lY hi];exact he
def J4{l:List cL}(h6:¬ 6<l.length)(h:∀ k,k<l.length->nV l k=0): iy l=0:=by
 have:=qy (p:=fun i=>nV l i != 0) (l:=List.range l.length) (fun k hk=>by rw[List.length_range]at hk;rw[lY hk];simp[h k hk]);unfold iy;rw[if_neg h6,this]
def Z8{l:List cL}{i:Nat}(hi:i<l.length): pZ l (l.getD i default).name<=i/\0<=pZ l (l.getD i default).name:=by
 unfold pZ;generalize hs:(l.getD i default).name=s;rcases qx (fun c:cL=>c.name==s) l with⟨h1,h2⟩|⟨j,h1,h2,h3⟩
 ·exfalso;have:=dy.1 h2 _ (aV hi);rw[hs]at this;exact this (by simp)
 ·rw[h2];refine⟨?_,by omega⟩;by_cases hj:j<=i
  ·omega
  ·exfalso
   have h4:l.findIdx? (fun c:cL=>c.name==s)=some j:=by
    unfold gN at h2;split at h2
    ·rename_i i' hi';rw[hi'];congr 1;omega
    ·omega
   obtain⟨_,_,h5⟩:=List.findIdx?_eq_some_iff_getElem.1 h4;have:=h5 i (by omega);rw[aj,aK hi]at hs;simp at hs;simp[hs]at this
def I2(l:List cL)(hn:∀ k,k<l.length->(l.getD k default).name.length<=2 ^ 62): aH aE 227 [bP l] (I (iy l)):=by
 by_cases h6:6<l.length
 ·have e:iy l=24:=by unfold iy;rw[if_pos h6]
  rw[e];refine aJ um ?_ (by simp[AV.dh,AV.bX,e8]);intro Q au aA aB;repeat' first|refine aq ?_|refine ak ?_ ?_<;>intro hw<;>try omega|fail
  exact aL rfl rfl
 refine aJ um ?_ (by simp[AV.dh,AV.bX,e8]);intro Q au aA aB;repeat' first|refine aq ?_|refine ak ?_ ?_<;>intro hw<;>try omega|fail
 with_reducible refine bn [2,3,4,10,11,12,13,14,15,16,17,18,19,20,21,22,23,24,25,26,27,28,29,30,31,32,33,34,35,36,37,38,39,40] (fun q:Nat × List bx=>[(10,I q.1)]) (fun q=>q.2) (fun q=>q.1<=l.length/\ ∀ k,k<q.1->nV l k=0) (fun q=>l.length-q.1) (0,[]) ?_ ?_ ?_ ?_
 ·simp
 ·rfl
 ·exact at_
 rintro⟨i,τ⟩ r ⟨h1,h2⟩;dsimp only at h1 h2;by_cases hi:i<l.length
 ·have c1:=vM _ (hn i hi);have c2:=J3 l (l.getD i default).name (by omega);have hE:nV l i=if fc (l.getD i default).name=false\/pZ l (l.getD i default).name≠i then 13 else if(l.getD i default).kind<1\/3<(l.getD i default).kind then 14 else 0:=rfl
  obtain⟨c,hc⟩:∃ c,l.getD i default=c:=⟨_,rfl⟩;rw[hc]at c1 c2 hE;generalize fc c.name=nb at *;generalize pZ l c.name=an at *;simp only[bP]at c2;repeat' first|simp (disch:=omega) only[go_sem,au,aA,aB,hc]|refine aq ?_|refine ak ?_ ?_<;>intro hw<;>try omega|fail
  all_goals first
   | (refine aL ?_ rfl
      refine congrArg I ?_
      symm
      refine MR h6 hi h2 ?_ (by decide);rw[hE]
      first
       |(rw[if_pos (by simp_all)];done)
       |(rw[if_neg (by simp_all),if_pos (by omega)];done))
   | (refine ⟨(i + 1, τ ++ [.cells [.str c.name, I c.kind, .aF false EV (c.order.map eR)]]), ?_, ?_, by first | rfl | (simp [go_sem]; done), bL, at_⟩
      ·exact⟨by dsimp only;omega,aY h2 (by rw[hE,if_neg (by simp_all),if_neg (by omega)])⟩
      ·dsimp only;omega)
 ·repeat' first|refine aq ?_|refine ak ?_ ?_<;>intro hw<;>try omega|fail
  refine aL ?_ rfl;rw[J4 h6 (fun k hk=>h2 k (by omega))]
def Lj(l:List cL)(hn:∀ k,k<l.length->(l.getD k default).name.length<=2 ^ 62): aH aE 245 [bP l] (I (iy l)):=by
 by_cases h6:6<l.length
 ·have e:iy l=24:=by unfold iy;rw[if_pos h6]
  rw[e];refine aJ vI ?_ (by simp[AV.dh,AV.bX,e8]);intro Q au aA aB;repeat' first|refine aq ?_|refine ak ?_ ?_<;>intro hw<;>try omega|fail
  exact aL rfl rfl
 refine aJ vI ?_ (by simp[AV.dh,AV.bX,e8]);intro Q au aA aB;repeat' first|refine aq ?_|refine ak ?_ ?_<;>intro hw<;>try omega|fail
 with_reducible refine bn [2,3,7,8,9,10,11,12,13,14,15,16,17,18,19,20,21,22,23,24,25,26,27,28,29,30,31,32,33,34,35,36,37,38,39,40,41,42,43,44,45,46] (fun i:Nat=>[(3,I i)]) (fun _=>[]) (fun i=>i<=l.length/\ ∀ k,k<i->nV l k=0) (fun i=>l.length-i) (0) ?_ ?_ ?_ ?_
 ·simp
 ·rfl
 ·exact at_
 rintro i r ⟨h1,h2⟩;by_cases hi:i<l.length
 ·have c1:=rG _ (hn i hi);have c2:=MP l (l.getD i default).name (by omega);have hle:=Z8 hi;have hE:nV l i=if fc (l.getD i default).name=false\/pZ l (l.getD i default).name≠i then 13 else if(l.getD i default).kind<1\/3<(l.getD i default).kind then 14 else 0:=rfl
  obtain⟨c,hc⟩:∃ c,l.getD i default=c:=⟨_,rfl⟩;rw[hc]at c1 c2 hE hle;generalize fc c.name=nb at *;generalize pZ l c.name=an at *;simp only[bP]at c2;repeat' first|simp (disch:=omega) only[go_sem,au,aA,aB,hc]|refine aq ?_|refine ak ?_ ?_<;>intro hw<;>try omega|fail
  all_goals first
   | (refine aL ?_ rfl
      refine congrArg I ?_
      symm
      refine MR h6 hi h2 ?_ (by decide);rw[hE]
      first
       |(rw[if_pos (.inl (by assumption))];done)
       |(rw[if_pos (.inr (by omega))];done)
       |(rw[if_neg (by rintro(h|h)<;>first|omega|simp_all),if_pos (by omega)];done))
   | (refine ⟨i + 1, ?_, ?_, by first | rfl | (simp [go_sem]; done), bL, at_⟩ <;> (try dsimp only)
      ·exact⟨by omega,aY h2 (by rw[hE,if_neg (by rintro(h|h)<;>first|omega|simp_all),if_neg (by omega)])⟩
      ·omega)
 ·repeat' first|refine aq ?_|refine ak ?_ ?_<;>intro hw<;>try omega|fail
  refine aL ?_ rfl;rw[J4 h6 (fun k hk=>h2 k (by omega))]
def jV(x:Expr): Bool:=cq x && decide (iP x<=12)
def J5(x:Expr)(hx:gV x)(hz:ew x<=2 ^ 60): aH aE 237 [aI x] (.bool (jV x)):=by
 have h1:=BP x hx hz;have h2:=xw x hz;unfold jV;generalize cq x=b at *;rw[aO]at h1 h2 ⊢;refine aJ Mr ?_;intro Q au aA aB;cases b<;>simp only[mw,if_true,Bool.false_eq_true,if_false]at h1
 ·repeat' first|refine aq ?_|refine ak ?_ ?_<;>intro hw<;>try omega|fail
  all_goals exact aL rfl rfl
 ·repeat' first|refine aq ?_|refine ak ?_ ?_<;>intro hw<;>try omega|fail
  all_goals (refine aL ?_ rfl;simp;omega)
def GJ(x:Expr)(hx:gV x)(hz:ew x<=2 ^ 60): aH aE 254 [aI x] (.bool (jV x)):=by
 have h1:=xx x hx hz;have h2:=zn x hz;unfold jV;generalize cq x=b at *;rw[aO]at h1 h2 ⊢;refine aJ K_ ?_;intro Q au aA aB;cases b
 ·repeat' first|refine aq ?_|refine ak ?_ ?_<;>intro hw<;>try omega|fail
  all_goals exact aL rfl rfl
 ·repeat' first|refine aq ?_|refine ak ?_ ?_<;>intro hw<;>try omega|fail
  all_goals (refine aL ?_ rfl;simp;omega)
def yu (fn : FuncId) (cap : List AV) (hcap : AV.bX cap = true) (p : Test -> Bool) (l : List Test) (h : ∀ k, k < l.length -> aH aE fn (bO (l.getD k default) :: cap) (.bool (p (l.getD k default)))) (hl : l.length <= 2 ^ 62) :
    aH aE 236 [eV l,.fn (.func fn) [] cap] (I (gN p l)):=by
 refine aJ vG ?_ (by simp[AV.dh,AV.bX,hcap,uE]);intro Q au aA aB;repeat' first|refine aq ?_|refine ak ?_ ?_<;>intro hw<;>try omega|fail
 with_reducible refine bn [4,5,8,9,10,11,12,13,14,15,16,17,18] (fun i:Nat=>[(8,I i)]) (fun _=>[]) (fun i=>i<=l.length/\ ∀ k,k<i->p (l.getD k default)=false) (fun i=>l.length-i) (0) ?_ ?_ ?_ ?_
 ·simp
 ·rfl
 ·exact at_
 ·rintro i r ⟨hi,hp⟩;by_cases hin:i<l.length
  ·have hx:=h i hin;simp only[bO,bF,cn,kN,bK,cg,eV,cU,bI,nF]at hx;repeat' first|refine aq ?_|refine ak ?_ ?_<;>intro hw<;>try omega|fail
   ·refine aL ?_ rfl;refine congrArg I ?_;exact(lP hin hp hw).symm
   ·refine⟨i+1,?_,?_,by first|rfl|(simp[go_sem];done),bL,at_⟩<;>(try dsimp only)
    ·exact⟨by omega,aY hp hw⟩
    ·omega
  ·repeat' first|refine aq ?_|refine ak ?_ ?_<;>intro hw<;>try omega|fail
   refine aL ?_ rfl;refine congrArg I ?_;exact(kT fun k hk=>hp k (by omega)).symm
def vT (fn : FuncId) (cap : List AV) (hcap : AV.bX cap = true) (p : Test -> Bool) (l : List Test) (h : ∀ k, k < l.length -> aH aE fn (bO (l.getD k default) :: cap) (.bool (p (l.getD k default)))) (hl : l.length <= 2 ^ 62) :
    aH aE 190 [eV l,.fn (.func fn) [] cap] (.bool (l.any p)):=by
 refine aJ tL ?_ (by simp[AV.dh,AV.bX,hcap,uE]);intro Q au aA aB;have hc:=yu fn cap hcap p l h hl;simp only[eV]at hc;repeat' first|refine aq ?_|refine ak ?_ ?_<;>intro hw<;>try omega|fail
 all_goals refine aL ?_ rfl
 all_goals rw[<-zo]
def jP(t:Test): Bool :=
 if t.kind=6 then jV t.a && jV t.b
 else decide (1<=t.kind/\t.kind<=5) && jV t.a && n6 t.b x0 && !t.lo && !t.hi
def DB(t:Test): Prop:=(gV t.a/\ew t.a<=2 ^ 60)/\gV t.b/\ew t.b<=2 ^ 60
def DC(c:Cell): Prop:=c.tests.length<=2 ^ 60/\ ∀ t ∈ c.tests,DB t
def iX(c:Cell): Bool :=
 if c.any then !c.neg && decide (c.tests.length=0)
 else decide (1<=c.tests.length/\c.tests.length<=12) && !(c.tests.any fun t=> !(jP t))
def MS: ew x0<=2 ^ 60:=by simp[x0,ew,lq]
def MU: aI x0 = .agg [I 0,I 0,I 0,.str [],.str [],.aF false EX []]:=by simp[x0,v0,aI]
def cell_of(t:Test): aH aE 239 [bO t] (.agg [.bool t.lo,.bool t.hi]):=by
 refine aJ Rp ?_;intro Q au aA aB;simp only[bO,cg];repeat' first|refine aq ?_|refine ak ?_ ?_<;>intro hw<;>try omega|fail
 all_goals exact aL rfl rfl
def RH(t:Test)(h:DB t): aH aE 192 [bO t] (.bool (jP t)):=by
 obtain⟨⟨a1,a2⟩,b1,b2⟩:=h;have ha:=J5 t.a a1 a2;have hb:=J5 t.b b1 b2;have hs:=OI t.b x0 (Gy _ b2) (Gy _ MS);have ho:=cell_of t;rw[MU]at hs;rw[aO]at ha hb hs;simp only[bO,cg]at ho ⊢;have hS:jP t=if t.kind=6 then jV t.a && jV t.b else decide (1<=t.kind/\t.kind<=5) && jV t.a && n6 t.b x0 && !t.lo && !t.hi:=rfl
 rw[hS];clear hS;generalize jV t.a=pa at *;generalize jV t.b=pb at *;generalize n6 t.b x0=sb at *;refine aJ K4 ?_;intro Q au aA aB;repeat' first|refine aq ?_|refine Tr hs ?_|refine ak ?_ ?_<;>intro hw<;>try omega|fail
 all_goals (refine aL ?_ rfl;refine congrArg AV.bool ?_;rw[aS];simp_all)
 all_goals (try omega)
def MV(t:Test)(h:DB t): aH aE 191 [bO t] (.bool (!(jP t))):=by
 have h1:=RH t h;simp only[bO,cg]at h1 ⊢;generalize jP t=b at *;refine aJ Gk ?_;intro Q au aA aB;repeat' first|refine aq ?_|refine ak ?_ ?_<;>intro hw<;>try omega|fail
 all_goals exact aL rfl rfl
def zy(c:Cell)(h:DC c): aH aE 154 [bK c] (I (mw (iX c))):=by
 have hc:=vT 191 [] rfl (fun t=> !(jP t)) c.tests (fun k hk=>MV _ (h.2 _ (aV hk))) (by have:=h.1;omega);have hl:=h.1;simp only[eV,bK]at hc ⊢;have hS:iX c=if c.any then !c.neg && decide (c.tests.length=0)else decide (1<=c.tests.length/\c.tests.length<=12) && !(c.tests.any fun t=> !(jP t)):=rfl
 rw[hS];clear hS;generalize c.tests.any (fun t=> !(jP t))=an at *;refine aJ KY ?_;intro Q au aA aB;repeat' first|refine aq ?_|refine ak ?_ ?_<;>intro hw<;>try omega|fail
 all_goals (refine aL ?_ rfl;refine congrArg I ?_;simp_all[mw,<-List.length_eq_zero_iff])
 all_goals (try omega)
 all_goals (intro h0;exfalso;omega)
def RI(t:Test)(h:DB t): aH aE 215 [bO t] (.bool (jP t)):=by
 obtain⟨⟨a1,a2⟩,b1,b2⟩:=h;have ha:=GJ t.a a1 a2;have hb:=GJ t.b b1 b2;have hs:=Rw t.b x0 (Gy _ b2) (Gy _ MS);rw[MU]at hs;rw[aO]at ha hb hs;simp only[bO,cg];have hS:jP t=if t.kind=6 then jV t.a && jV t.b else decide (1<=t.kind/\t.kind<=5) && jV t.a && n6 t.b x0 && !t.lo && !t.hi:=rfl
 rw[hS];clear hS;generalize jV t.a=pa at *;generalize jV t.b=pb at *;generalize n6 t.b x0=sb at *;refine aJ K6 ?_;intro Q au aA aB;repeat' first|refine aq ?_|refine Tr hs ?_|refine ak ?_ ?_<;>intro hw<;>try omega|fail
 all_goals (refine aL ?_ rfl;refine congrArg AV.bool ?_;rw[aS];simp_all)
 all_goals (try omega)
def xA(c:Cell)(h:DC c): aH aE 172 [bK c] (.bool (iX c)):=by
 have ht:=fun k (hk:k<c.tests.length)=>RI _ (h.2 _ (aV hk));have hl:=h.1;simp only[bK,eV];have hS:iX c=if c.any then !c.neg && decide (c.tests.length=0)else decide (1<=c.tests.length/\c.tests.length<=12) && !(c.tests.any fun t=> !(jP t)):=rfl
 rw[hS];clear hS;refine aJ IB ?_;intro Q au aA aB;repeat' first|refine aq ?_|refine ak ?_ ?_<;>intro hw<;>try omega|fail
 ·refine aL ?_ rfl;refine congrArg AV.bool ?_;rw[aS];simp_all
 ·refine aL ?_ rfl;refine congrArg AV.bool ?_;rw[aS];simp_all
 with_reducible refine bn [2,3,15,16,17,18,19,20,21,22,23,24,25,26,27,28] (fun i:Nat=>[(3,I i)]) (fun _=>[.cells [.bool c.any,.bool c.neg,.aF false ES (c.tests.map bO)]]) (fun i=>i<=c.tests.length/\ ∀ k,k<i->(!(jP (c.tests.getD k default)))=false) (fun i=>c.tests.length-i) (0) ?_ ?_ ?_ ?_
 ·simp
 ·rfl
 ·exact at_
 rintro i r ⟨h1,h2⟩;by_cases hi:i<c.tests.length
 ·have h3:=ht i hi;simp only[bO,cg]at h3;repeat' first|refine aq ?_|refine ak ?_ ?_<;>intro hw<;>try omega|fail
  ·refine aL ?_ rfl;rw[vO (p:=fun t=> !(jP t)) hi (by simpa using hw)];simp_all
  ·refine⟨i+1,?_,?_,by first|rfl|(simp[go_sem];done),bL,at_⟩<;>(try dsimp only)
   ·exact⟨by omega,aY h2 (by simpa using hw)⟩
   ·omega
 ·repeat' first|refine aq ?_|refine ak ?_ ?_<;>intro hw<;>try omega|fail
  all_goals (refine aL ?_ rfl;rw[sO (p:=fun t=> !(jP t)) (fun k hk=>h2 k (by omega))];refine congrArg AV.bool ?_;rw[aS];simp_all)
  all_goals (try omega)
def iI(k:Int): aG:=if k=2 then [60]else if k=3 then [60,61]else if k=4 then [62]else if k=5 then [62,61]else []
def J6(k:Int): aH aE 194 [I k] (.str (iI k)):=by
 refine aJ Mq ?_;intro Q au aA aB;repeat' first|refine aq ?_|refine ak ?_ ?_<;>intro hw<;>try omega|fail
 all_goals (refine aL ?_ rfl;simp_all[iI])
def GK(k:Int): aH aE 217 [I k] (.str (iI k)):=by
 refine aJ K7 ?_;intro Q au aA aB;repeat' first|refine aq ?_|refine ak ?_ ?_<;>intro hw<;>try omega|fail
 all_goals (refine aL ?_ rfl;simp_all[iI])
def rK(T:List Tok)(p:Nat): aG:=if(T.getD p default).kind=4 then(T.getD p default).s else []
def sU(T:List Tok)(p:Nat)(b:Bool)(s:aG)(hs:s≠[]): dW T p b 4 s=(!b && decide (rK T p=s)):=by
 unfold dW iC rK;by_cases hp:p<T.length
 ·generalize T.getD p default=t;by_cases h4:t.kind=4
  ·simp[hp,h4]
  ·simp[hp,h4,Ne.symm hs]
 ·rw[my (by omega)];simp[hp,Ry,Ne.symm hs]
def BY(T:List Tok)(p:Nat)(b:Bool): bC aE 264 0 [] (bH T p b) (bH T p b) (.str (rK T p)):=by
 by_cases hp:p<T.length
 ·refine bC.cC (sn.go ?_) rfl (aQ _ _ _);unfold dS;intro Q au aA aB;repeat' first|refine aq ?_|refine ak ?_ ?_<;>intro hw<;>try omega|fail
  all_goals (refine cu (View.eqv ?_ rfl) (bf.refl (aQ T p b));simp_all[rK])
 ·have:rK T p=[]:=by unfold rK;rw[my (by omega)];simp[Ry]
  rw[this];refine bC.cC (sn.go ?_) rfl (aQ _ _ _);unfold dS;intro Q au aA aB;repeat' first|refine aq ?_|refine ak ?_ ?_<;>intro hw<;>try omega|fail
  all_goals exact cu (View.eqv rfl rfl) (bf.refl (aQ T p b))
def P7(T:List Tok)(p:Nat)(b:Bool)(s:aG)(hs:s≠[])(hp:p<=2 ^ 61): bC aE 290 0 [.str s] (bH T p b) (bH T (nI T p b 4 s) b) (.bool (dW T p b 4 s)):=by
 have hn:=BY T p b;unfold nI;rw[sU T p b s hs];generalize rK T p=t at hn ⊢;simp only[bH]at hn;refine bC.cC (Di.go ?_) rfl (aQ _ _ _);unfold dS;intro Q au aA aB;repeat' first|refine aq ?_|refine bw hn ?_|refine ak ?_ ?_<;>intro hw<;>try omega|fail
 all_goals first
  |(refine cu (View.eqv ?_ rfl) (bf.eqv ?_ (aQ _ _ _))<;>simp_all[bH];done)
def BZ(T:List Tok)(p:Nat)(b:Bool)(s:aG)(hs:s≠[])(hp:p<=2 ^ 61): bC aE 291 0 [.str s] (bH T p b) (bH T (nI T p b 4 s) (b || !(dW T p b 4 s))) (.bJ []):=by
 have hn:=P7 T p b s hs hp;generalize dW T p b 4 s=o at hn ⊢;simp only[bH]at hn;refine bC.cC (AI.go ?_) rfl (aQ _ _ _);unfold dS;intro Q au aA aB;cases o
 ·repeat' first|refine aq ?_|refine bw hn ?_|refine ak ?_ ?_<;>intro hw<;>try omega|fail
  refine ri rfl (bf.eqv ?_ (aQ _ _ _));simp[bH]
 ·repeat' first|refine aq ?_|refine bw hn ?_|refine ak ?_ ?_<;>intro hw<;>try omega|fail
  refine ri rfl (bf.eqv ?_ (aQ _ _ _));simp[bH]
def MW(T:List Tok)(p:Nat)(b:Bool)(s:aG): bC aE 248 0 [.str s] (bH T p b) (bH T p b) (.bool (dW T p b 4 s)):=by
 refine bC.cC (Bz.go ?_) rfl (aQ _ _ _);unfold dS;intro Q au aA aB;cases b with
 | true =>
   repeat' first|refine aq ?_|refine ak ?_ ?_<;>intro hw<;>try omega|fail
   all_goals exact cu (View.eqv rfl rfl) (bf.refl (aQ T p true))
 | false =>
   by_cases hp:p<T.length
   ·repeat' first|refine aq ?_|refine ak ?_ ?_<;>intro hw<;>try omega|fail
    all_goals (refine cu (View.eqv ?_ rfl) (bf.refl (aQ T p false));refine congrArg AV.bool ?_;rw[aS];simp_all[dW,iC])
   ·repeat' first|refine aq ?_|refine ak ?_ ?_<;>intro hw<;>try omega|fail
    all_goals (refine cu (View.eqv ?_ rfl) (bf.refl (aQ T p false));refine congrArg AV.bool ?_;rw[aS];simp_all[dW,iC])
    all_goals (intros;omega)
def zz(T:List Tok)(p:Nat)(b:Bool)(s:aG)(hp:p<=2 ^ 61): bC aE 250 0 [.str s] (bH T p b) (bH T (nI T p b 4 s) (b || !(dW T p b 4 s))) (.bJ []):=by
 have hn:=MW T p b s;unfold nI;have hb:dW T p b 4 s=true->b=false:=fun h=>(jN h).2;generalize dW T p b 4 s=o at hn hb ⊢;simp only[bH]at hn;refine bC.cC (zf.go ?_) rfl (aQ _ _ _);unfold dS;intro Q au aA aB;cases o
 ·repeat' first|refine aq ?_|refine bw hn ?_|refine ak ?_ ?_<;>intro hw<;>try omega|fail
  refine ri rfl (bf.eqv ?_ (aQ _ _ _));simp[bH]
 ·repeat' first|refine aq ?_|refine bw hn ?_|refine ak ?_ ?_<;>intro hw<;>try omega|fail
  refine ri rfl (bf.eqv ?_ (aQ _ _ _));simp[bH]
def P8(T:List Tok)(l q:Nat): RS:=⟨(dQ T q l).1,(dQ T q l).2.1.toNat,decide ((dQ T q l).2.2≠0)⟩
def gw(T:List Tok)(p:Nat)(b:Bool): RS:=nJ (P8 T) 4 p b
def GL(T:List Tok)(p:Nat): gw T p true=⟨x0,p,true⟩:=rfl
def DE(T:List Tok)(p:Nat): gw T p false=P8 T 4 p:=rfl
def VP(T:List Tok){q:Nat}(hq:q<=T.length): je T.length q (P8 T 4 q):=by
 have hg:¬ ((q:Int)<0\/(T.length:Int)<q\/((4:Nat):Int)<0\/7<((4:Nat):Int)):=by omega
 have g:=(mO T (8*T.length+9) none 4 q hq).1 rfl;unfold P8 dQ;rw[if_neg hg,fR,fR];split
 ·exact⟨by simpa using g.1,by simpa using g.2.1,fun h=>by simp at h⟩
 ·rename_i h;exact⟨by simpa using g.1,by simpa using g.2.1,fun _=>by have:=g.2.2 (by simpa using h);simpa using this⟩
def wT(T:List Tok){q:Nat}{b:Bool}(hq:q<=T.length): je T.length q (gw T q b):=by
 cases b with
 | true=>exact⟨Nat.le_refl _,hq,fun h=>by cases h⟩
 | false=>exact VP T hq
def wU(T:List Tok)(p:Nat)(b:Bool)(hT:T.length<=2 ^ 50)(hs:∀ q,(T.getD q default).s.length<=2 ^ 62): bC aE 309 0 [] (bH T p b) (bH T (gw T p b).p (gw T p b).bad) (aI (gw T p b).x):=by
 cases b with
 | true =>
   rw[GL];generalize hE:aI _=E;refine bC.cC (sr.go ?_) rfl (aQ _ _ _);unfold dS;intro Q au aA aB;repeat' first|refine aq ?_|refine ak ?_ ?_<;>intro hw<;>try omega|fail
   exact cu (by rw[<-hE];exact iR (.ai _)) (bf.refl (aQ T p true))
 | false =>
   rw[DE];have cr:=Dz T p 4 hT hs;have GD:=(C0 T p 4).1;simp only[P8];have e4:((4:Nat):Int)=4:=rfl;rw[e4];generalize dQ T p 4=r at *;obtain⟨rx,rn,re⟩:=r;dsimp only at *;obtain⟨n,rfl⟩:∃ n:Nat,rn=n:=⟨rn.toNat,by omega⟩;have e2:∀ σ : ae,View σ (.agg [I rx.op,I rx.v.kind,I rx.v.n,.str rx.v.s,.str rx.s,.aF false EX (rx.l.map aI)]) (aI rx):=fun σ=>View.eqv (aO _).symm (da _);simp only[tQ,nk]at cr;rw[aO]at cr;generalize aI rx=E at *;rw[fR];refine bC.cC (sr.go ?_) rfl (aQ _ _ _);unfold dS;intro Q au aA aB;repeat' first|refine aq ?_|refine ak ?_ ?_<;>intro hw<;>try omega|fail
   all_goals (refine cu (e2 _) (bf.eqv ?_ (aQ _ _ _));simp[bH];rw[aS];simp)
def uJ(T:List Tok)(p:Nat)(b:Bool)(hT:T.length<=2 ^ 50)(hs:∀ q,(T.getD q default).s.length<=2 ^ 62): bC aE 275 0 [] (bH T p b) (bH T (gw T p b).p (gw T p b).bad) (aI (gw T p b).x):=by
 cases b with
 | true =>
   rw[GL];generalize hE:aI _=E;refine bC.cC (rD.go ?_) rfl (aQ _ _ _);unfold dS;intro Q au aA aB;repeat' first|refine aq ?_|refine ak ?_ ?_<;>intro hw<;>try omega|fail
   exact cu (by rw[<-hE];exact iR (.ai _)) (bf.refl (aQ T p true))
 | false =>
   rw[DE];have cr:=GG T p 4 hT hs;have GD:=(C0 T p 4).1;simp only[P8];have e4:((4:Nat):Int)=4:=rfl;rw[e4];generalize dQ T p 4=r at *;obtain⟨rx,rn,re⟩:=r;dsimp only at *;obtain⟨n,rfl⟩:∃ n:Nat,rn=n:=⟨rn.toNat,by omega⟩;have e2:∀ σ : ae,View σ (.agg [I rx.op,I rx.v.kind,I rx.v.n,.str rx.v.s,.str rx.s,.aF false EX (rx.l.map aI)]) (aI rx):=fun σ=>View.eqv (aO _).symm (da _);simp only[tQ,nk]at cr;rw[aO]at cr;generalize aI rx=E at *;rw[fR];refine bC.cC (rD.go ?_) rfl (aQ _ _ _);unfold dS;intro Q au aA aB;repeat' first|refine aq ?_|refine ak ?_ ?_<;>intro hw<;>try omega|fail
   all_goals (refine cu (e2 _) (bf.eqv ?_ (aQ _ _ _));simp[bH];rw[aS];simp)
