/- Part. -/
import Derived.Test.YtcjcnfcedihckaaGreatDoorV33
set_option linter.all false
set_option maxHeartbeats 4000000
namespace Go.Proofs.YtcjcnfcedihckaaGreatDoor
open Go.AM
set_option maxRecDepth 4000
def eB(p:aG × Int): AV:= .bJ [.str p.1,I p.2]
abbrev aaq(t:Table): bx:= .cells [.str t.name,.aF false EC (t.ins.map bF),.aF false EC (t.outs.map bF),I t.aZ,I t.agg,.aF false ER (t.rules.map cn)]
def NM(t:Table)(ok:l7 t): aH aE 36 [cD t] (eB (ko t)):=by
 obtain⟨E,hE⟩:∃ E,ko t=E:=⟨_,rfl⟩;rw[hE];unfold ko at hE;have c1:=Nv t ok;have c2:=DS (fC t).1 t (Nz ok) (yA ok);have hb:=fun h=>Um ok h;obtain⟨C,hC⟩:∃ C,fC t=C:=⟨_,rfl⟩;rw[hC]at c1 c2 hE hb;obtain⟨C,m1,m2,e⟩:=C;dsimp only at hE c2 hb;simp only[Qm,cD,fg,bP,dV]at c1 c2 ⊢;by_cases he:e≠0
 ·rw[if_pos he]at hE;refine aJ rq ?_ (by simp[eB]);intro Q au aA aB;repeat' first|refine aq ?_|refine ak ?_ ?_<;>intro hw<;>try omega|fail
  all_goals first|exact bh|exact bp (by rw[<-hE]) rfl
 rw[if_neg he]at hE;obtain rfl:e=0:=by omega
 cases hs:iN C t with
 | false =>
   rw[hs]at hE c2;rw[if_pos rfl]at hE;refine aJ rq ?_ (by simp[eB]);intro Q au aA aB;repeat' first|refine aq ?_|refine ak ?_ ?_<;>intro hw<;>try omega|fail
   all_goals first|exact bh|exact bp (by rw[<-hE]) rfl
 | true =>
 rw[hs]at hE c2;rw[if_neg (by simp),Fg]at hE;have h:=hb rfl;have hl:=Cn h;have hd:uT t=dn t.name++fM t.aZ++fM t.agg++(kB false t.ins++kB true t.outs++fM t.rules.length):=by unfold uT;simp only[List.append_assoc]
 obtain⟨b1,b2,b3,b4,b5,b6,b7⟩:=h;have k1:=uS t.name (by omega);have k2:=mc t.aZ b2;have k3:=mc t.agg b3;have k4:=yC t.ins false 78 b4.1 b4.2 (fun c _=>Ja c);have k5:=yC t.outs true 79 b5.1 b5.2 (fun c hc=>NJ c (b5.2 c hc));have k6:=mc t.rules.length ⟨by omega,by omega⟩;generalize uT t=x at *;generalize dn t.name=u1 at *;generalize fM t.aZ=u2 at *;generalize fM t.agg=u3 at *;generalize kB false t.ins=u4 at *;generalize kB true t.outs=u5 at *;generalize fM t.rules.length=u6 at *;have Un:=congrArg List.length hd;simp only[aC]at Un;have a1:=oP (a:=u1.length) (b:=u2.length) (by omega);have a2:=oP (a:=(u1++u2).length) (b:=u3.length) (by simp only[aC];omega);have a3:=oP (a:=u4.length) (b:=u5.length) (by omega);have a4:=oP (a:=(u4++u5).length) (b:=u6.length) (by simp only[aC];omega);have a5:=oP (a:=(u1++u2++u3).length) (b:=(u4++u5++u6).length) (by simp only[aC];omega);have hd':=hd.symm;clear hd;simp only[bP]at k4 k5;refine aJ rq ?_ (by simp[eB]);intro Q au aA aB;repeat' first|simp (disch:=omega) only[go_sem,au,aA,aB,a1,a2,a3,a4,a5,hd']|refine aq ?_|refine ak ?_ ?_<;>intro hw<;>try omega|fail
 all_goals first|exact bh|skip
 with_reducible refine bn [8,10,55,56,57,58,59,60,61,62,63,64,65,66,67,68] (fun q:Nat × List bx=>[(55,I q.1),(8,.str (x++(t.rules.take q.1).flatMap jT))]) (fun q=>aaq t::aaq C::q.2) (fun q=>q.1<=t.rules.length/\x.length+((t.rules.take q.1).flatMap jT).length<=17179869184+q.1*12884902008) (fun q=>t.rules.length-q.1) ((0,[])) ?_ ?_ ?_ ?_
 ·simp;omega
 ·rfl
 ·simp only[ff,eZ,List.append_nil];simp (disch:=omega) only[dU,dm,and_true,go_sem,au,aA,aB,Int.natCast_add,Int.cast_ofNat_Int]<;>(try trivial)<;>(try omega)<;>(try (repeat (first|trivial|(refine And.intro ?_ ?_)|(congr 1;omega))))
 rintro⟨i,τ⟩ r ⟨g1,g3⟩;dsimp only at g1 g3;by_cases hi:i<t.rules.length
 ·have hr:=b7 _ (aV hi);have eW:=s5 jT hi x;obtain⟨ru,yg⟩:∃ c,t.rules.getD i default=c:=⟨_,rfl⟩;rw[yg]at hr eW;have mF:=Co hr;obtain⟨y,hy⟩:∃ y,x++(t.rules.take i).flatMap jT=y:=⟨_,rfl⟩;have JL:y.length=x.length+((t.rules.take i).flatMap jT).length:=by rw[<-hy,aC]
  have hsl:=congrArg List.length eW;rw[hy]at eW;simp only[aC]at hsl;have hrd:jT ru=ru.cells.flatMap dn++ru.outs.flatMap dn:=rfl;have d1:=Cm ru.cells hr.1;have d2:=Cm ru.outs hr.2;have f1:=qP hr.1;have f2:=qP hr.2;generalize ru.cells.flatMap dn=v1 at *;generalize ru.outs.flatMap dn=v2 at *;have e1:=oP (a:=v1.length) (b:=v2.length) (by omega);have e2:=oP (a:=y.length) (b:=(v1++v2).length) (by simp only[aC];omega);simp only[bI]at d1 d2;repeat' first|simp (disch:=omega) only[go_sem,au,aA,aB,yg,hy,e1,e2]|refine aq ?_|refine ak ?_ ?_<;>intro hw<;>try omega|fail
  refine⟨(i+1,τ++[bx.cells [.aF false E1 (ru.cells.map bj),.aF false E1 (ru.outs.map bj)]]),?_,?_,?_,bL,?_⟩
  ·dsimp only;omega
  ·dsimp only;omega
  ·first|rfl|(simp[go_sem];done)
  ·dsimp only;rw[eW,hrd];simp (disch:=omega) only[dU,dm,and_true,go_sem,au,aA,aB,Int.natCast_add,Int.cast_ofNat_Int]<;>(try trivial)<;>(try omega)<;>(try (repeat (first|trivial|(refine And.intro ?_ ?_)|(congr 1;omega))))
 ·have ht:t.rules.take i=t.rules:=aT (by omega);rw[ht]at g3;have hxl:(x++t.rules.flatMap jT).length=x.length+(t.rules.flatMap jT).length:=aC;by_cases hbig:1400<(x++t.rules.flatMap jT).length
  ·rw[if_pos hbig]at hE;obtain⟨z,hz⟩:∃ z,x++t.rules.flatMap jT=z:=⟨_,rfl⟩;rw[hz]at hbig hxl;repeat' first|simp (disch:=omega) only[go_sem,au,aA,aB,ht,hz]|refine aq ?_|refine ak ?_ ?_<;>intro hw<;>try omega|fail
   exact bp (by rw[<-hE]) rfl
  ·rw[if_neg hbig]at hE;obtain⟨z,hz⟩:∃ z,x++t.rules.flatMap jT=z:=⟨_,rfl⟩;rw[hz]at hbig hxl hE;repeat' first|simp (disch:=omega) only[go_sem,au,aA,aB,ht,hz]|refine aq ?_|refine ak ?_ ?_<;>intro hw<;>try omega|fail
   exact bp (by rw[<-hE]) rfl
def Pg(t:Table)(ok:l7 t): aH aE 47 [cD t] (eB (ko t)):=by
 obtain⟨E,hE⟩:∃ E,ko t=E:=⟨_,rfl⟩;rw[hE];unfold ko at hE;have c1:=O7 t ok;have c2:=G9 (fC t).1 t (Nz ok) (yA ok);have hb:=fun h=>Um ok h;obtain⟨C,hC⟩:∃ C,fC t=C:=⟨_,rfl⟩;rw[hC]at c1 c2 hE hb;obtain⟨C,m1,m2,e⟩:=C;dsimp only at hE c2 hb;simp only[Qm,cD,fg,bP,dV]at c1 c2 ⊢;by_cases he:e≠0
 ·rw[if_pos he]at hE;refine aJ oY ?_ (by simp[eB]);intro Q au aA aB;repeat' first|refine aq ?_|refine ak ?_ ?_<;>intro hw<;>try omega|fail
  all_goals first|exact bh|exact bp (by rw[<-hE]) rfl
 rw[if_neg he]at hE;obtain rfl:e=0:=by omega
 cases hs:iN C t with
 | false =>
   rw[hs]at hE c2;rw[if_pos rfl]at hE;refine aJ oY ?_ (by simp[eB]);intro Q au aA aB;repeat' first|refine aq ?_|refine ak ?_ ?_<;>intro hw<;>try omega|fail
   all_goals first|exact bh|exact bp (by rw[<-hE]) rfl
 | true =>
 rw[hs]at hE c2;rw[if_neg (by simp)]at hE;have h:=hb rfl;have c3:=Sb t h;have hl:=Cn h;have hfl:=NI (f:=jT) (l:=t.rules) (fun r hr=>Co (h.2.2.2.2.2.2 r hr));have h24:=h.2.2.2.2.2.1;have hlen:(uQ t).length=(uT t).length+(t.rules.flatMap jT).length:=by rw[Fg,aC]
 generalize uQ t=z at *;simp only[cD,fg,bP,dV]at c3;by_cases hbig:1400<z.length
 ·rw[if_pos hbig]at hE;refine aJ oY ?_ (by simp[eB]);intro Q au aA aB;repeat' first|refine aq ?_|refine ak ?_ ?_<;>intro hw<;>try omega|fail
  all_goals first|exact bh|exact bp (by rw[<-hE]) rfl
 ·rw[if_neg hbig]at hE;refine aJ oY ?_ (by simp[eB]);intro Q au aA aB;repeat' first|refine aq ?_|refine ak ?_ ?_<;>intro hw<;>try omega|fail
  all_goals first|exact bh|exact bp (by rw[<-hE]) rfl
def fE(c:fy): List AV:=[I c.kind,.str c.table.name,.aF false EC (c.table.ins.map bF),.aF false EC (c.table.outs.map bF),I c.table.aZ,I c.table.agg,.aF false ER (c.table.rules.map cn),.str c.name,I c.ver,.aF false EV (c.row.map eR),I c.iw,I c.jZ]
def dF(c:fy): AV:= .agg (fE c)
def NN(c:fy): (dF c).dh=true:=by simp[dF,fE]
attribute [simp] NN
def pK(k:Int): Int:=if k=1 then 1 else if k=2 then 6 else if k=3 then 2 else if k=5 then 24 else if k=6 then 8 else 0
def Uo(k:Int): Bool:=decide (1<=k/\k<=9)
def NO(k:Int): aH aE 35 [I k] (.bJ [I (pK k),.bool (Uo k)]):=by
 have e0:¬(k=1\/k=2\/k=3\/k=5\/k=6)->pK k=0:=fun h=>by simp only[not_or]at h;simp[pK,h]
 refine aJ Ga ?_;intro Q au aA aB;by_cases k1:k=1
 ·subst k1;repeat' first|refine aq ?_|refine ak ?_ ?_<;>intro hw<;>try omega|fail
  exact bp rfl rfl
 by_cases k2:k=2
 ·subst k2;repeat' first|refine aq ?_|refine ak ?_ ?_<;>intro hw<;>try omega|fail
  exact bp rfl rfl
 by_cases k3:k=3
 ·subst k3;repeat' first|refine aq ?_|refine ak ?_ ?_<;>intro hw<;>try omega|fail
  exact bp rfl rfl
 by_cases k5:k=5
 ·subst k5;repeat' first|refine aq ?_|refine ak ?_ ?_<;>intro hw<;>try omega|fail
  exact bp rfl rfl
 by_cases k6:k=6
 ·subst k6;repeat' first|refine aq ?_|refine ak ?_ ?_<;>intro hw<;>try omega|fail
  exact bp rfl rfl
 repeat' first|refine aq ?_|refine ak ?_ ?_<;>intro hw<;>try omega|fail
 all_goals first|exact bh|(refine bp ?_ rfl;rw[e0 (by omega)];simp[Uo];omega)
def Yd(k:Int): (jD .and .i64 (pK k) 1≠0↔k=1)/\(jD .and .i64 (pK k) 2≠0↔k=2\/k=3)/\(jD .and .i64 (pK k) 4≠0↔k=2)/\(jD .and .i64 (pK k) 8≠0↔k=5\/k=6)/\(jD .and .i64 (pK k) 16≠0↔k=5):=by
 rw[lp];by_cases k1:k=1
 ·subst k1;decide +kernel
 by_cases k2:k=2
 ·subst k2;decide +kernel
 by_cases k3:k=3
 ·subst k3;decide +kernel
 by_cases k5:k=5
 ·subst k5;decide +kernel
 by_cases k6:k=6
 ·subst k6;decide +kernel
 have e:pK k=0:=by simp[pK, *]
 have z:∀ d ∈ [(1:Int),2,4,8,16],lT .and .i64 0 d=0:=by decide +kernel
 rw[e,z 1 (by simp),z 2 (by simp),z 4 (by simp),z 8 (by simp),z 16 (by simp)];simp[k1,k2,k3,k5,k6]
noncomputable def hasB (b1 b2 b3 b4 b5:Bool):Int :=
 let p1:=if b1 then 0 else jD .or .i64 0 1
 let p2:=if b2 then p1 else jD .or .i64 p1 2
 let p3:=if b3 then p2 else jD .or .i64 p2 4
 let p4:=if b4 then p3 else jD .or .i64 p3 8
 if b5 then p4 else jD .or .i64 p4 16
noncomputable def Jb (c:fy):Int:=hasB (iN c.table fh) (c.name==[] && decide (c.ver=0)) (decide (c.row.length=0)) (decide (c.iw=0)) (decide (c.jZ=0))
def Ye(c:fy): jD .andNot .i64 (Jb c) (pK c.kind)≠0↔oN c=false:=by
 unfold Jb oN;generalize iN c.table fh=b1;generalize (c.name==[] && decide (c.ver=0))=b2;generalize decide (c.row.length=0)=b3;generalize decide (c.iw=0)=b4;generalize decide (c.jZ=0)=b5;generalize c.kind=k;unfold hasB;rw[lp];by_cases k1:k=1
 ·subst k1;revert b1 b2 b3 b4 b5;decide +kernel
 by_cases k2:k=2
 ·subst k2;revert b1 b2 b3 b4 b5;decide +kernel
 by_cases k3:k=3
 ·subst k3;revert b1 b2 b3 b4 b5;decide +kernel
 by_cases k5:k=5
 ·subst k5;revert b1 b2 b3 b4 b5;decide +kernel
 by_cases k6:k=6
 ·subst k6;revert b1 b2 b3 b4 b5;decide +kernel
 have e:pK k=0:=by simp[pK, *]
 have hd:∀ p:Prop,[Decidable p]->¬p->decide p=false:=fun p _ h=>by simp[h]
 rw[e,hd _ k1,hd (k=2\/k=3) (by omega),hd _ k2,hd (k=5\/k=6) (by omega),hd _ k5];revert b1 b2 b3 b4 b5;decide +kernel
def Ph(c:fy)(ok:jX c): aH aE 37 [dF c] (I (Jb c)):=by
 have c1:=DS c.table fh (yA ok.2.1) I8;obtain⟨E,hE⟩:∃ E,Jb c=E:=⟨_,rfl⟩;rw[hE];unfold Jb at hE;have hl:=ok.2.2.2.2.1.1;obtain⟨k,t,n,v,r,f,m⟩:=c;dsimp only at c1 hE hl;generalize iN t fh=b1 at *;have eN:(n==[] && decide (v=0))=decide (n=[]/\v=0):=by cases n<;>simp
 rw[eN]at hE;unfold hasB at hE;have d2:n=[]->v=0->decide (n=[]/\v=0)=true:=fun h1 h2=>by simp[h1,h2]
 have d2n:¬n=[]->decide (n=[]/\v=0)=false:=fun h1=>by simp[h1]
 have d2v:¬v=0->decide (n=[]/\v=0)=false:=fun h1=>by simp[h1]
 have d3:r.length=0->decide (r.length=0)=true:=fun h=>decide_eq_true h;have d3n:¬r.length=0->decide (r.length=0)=false:=fun h=>decide_eq_false h;have d4:f=0->decide (f=0)=true:=fun h=>decide_eq_true h;have d4n:¬f=0->decide (f=0)=false:=fun h=>decide_eq_false h;have d5:m=0->decide (m=0)=true:=fun h=>decide_eq_true h;have d5n:¬m=0->decide (m=0)=false:=fun h=>decide_eq_false h;simp only[cD,fg,bP,dV,fh,bu]at c1;refine aJ Il ?_;intro Q au aA aB;simp only[dF,fE];cases b1
 all_goals
  repeat' first|refine aq ?_|refine Tr c1 ?_|refine ak ?_ ?_<;>intro hw<;>try omega|fail
 all_goals first|exact bh|(refine aL ?_ rfl;rw[<-hE];(first|rw[d2 (by assumption) (by assumption)]|rw[d2n (by assumption)]|rw[d2v (by assumption)]);(first|rw[d3 (by omega)]|rw[d3n (by omega)]);(first|rw[d4 (by assumption)]|rw[d4n (by assumption)]);(first|rw[d5 (by assumption)]|rw[d5n (by assumption)]);rfl)
def Ax(n:Int): aH aE 39 [I n] (.bool (l9 n)):=by
 unfold l9;refine aJ Et ?_;intro Q au aA aB;repeat' first|refine aq ?_|refine ak ?_ ?_<;>intro hw<;>try omega|fail
 all_goals (refine aL ?_ rfl;simp;omega)
def Cp(n:Int): aH aE 49 [I n] (.bool (l9 n)):=by
 unfold l9;refine aJ Gd ?_;intro Q au aA aB;repeat' first|refine aq ?_|refine ak ?_ ?_<;>intro hw<;>try omega|fail
 all_goals (refine aL ?_ rfl;simp;omega)
def Hq(v:eu)(h:jv v.n): aH aE 84 [eR v] (.bool (!bT v)):=by
 have c1:=pW v.kind v.n v.s h.1 h.2;have ev:bT ⟨v.kind,v.n,v.s⟩=bT v:=rfl;rw[ev]at c1;generalize bT v=b at *;refine aJ Bu ?_;intro Q au aA aB;cases b<;>simp only[mw,if_true,Bool.false_eq_true,if_false]at c1
 all_goals
  repeat' first|refine aq ?_|refine ak ?_ ?_<;>intro hw<;>try omega|fail
 all_goals exact aL rfl rfl
def xI (fn : FuncId) (cap : List AV) (hcap : AV.bX cap = true) (p : eu -> Bool) (l : List eu) (h : ∀ k, k < l.length -> aH aE fn (eR (l.getD k default) :: cap) (.bool (p (l.getD k default)))) (hl : l.length <= 2 ^ 62) :
    aH aE 128 [cU l,.fn (.func fn) [] cap] (I (gN p l)):=by
 refine aJ uD ?_ (by simp[AV.dh,AV.bX,hcap]);intro Q au aA aB;repeat' first|refine aq ?_|refine ak ?_ ?_<;>intro hw<;>try omega|fail
 with_reducible refine bn [4,5,8,9,10,11,12,13,14,15,16,17,18] (fun i:Nat=>[(8,I i)]) (fun _=>[]) (fun i=>i<=l.length/\ ∀ k,k<i->p (l.getD k default)=false) (fun i=>l.length-i) (0) ?_ ?_ ?_ ?_
 ·simp
 ·rfl
 ·exact at_
 ·rintro i r ⟨hi,hp⟩;by_cases hin:i<l.length
  ·have hx:=h i hin;simp only[eR]at hx;repeat' first|refine aq ?_|refine ak ?_ ?_<;>intro hw<;>try omega|fail
   ·refine aL ?_ rfl;refine congrArg I ?_;exact(lP hin hp hw).symm
   ·refine⟨i+1,?_,?_,by first|rfl|(simp[go_sem];done),bL,at_⟩<;>(try dsimp only)
    ·exact⟨by omega,aY hp hw⟩
    ·omega
  ·repeat' first|refine aq ?_|refine ak ?_ ?_<;>intro hw<;>try omega|fail
   refine aL ?_ rfl;refine congrArg I ?_;exact(kT fun k hk=>hp k (by omega)).symm
def uU (fn : FuncId) (cap : List AV) (hcap : AV.bX cap = true) (p : eu -> Bool) (l : List eu) (h : ∀ k, k < l.length -> aH aE fn (eR (l.getD k default) :: cap) (.bool (p (l.getD k default)))) (hl : l.length <= 2 ^ 62) :
    aH aE 83 [cU l,.fn (.func fn) [] cap] (.bool (l.any p)):=by
 refine aJ sH ?_ (by simp[AV.dh,AV.bX,hcap]);intro Q au aA aB;have hc:=xI fn cap hcap p l h hl;simp only[cU]at hc;repeat' first|refine aq ?_|refine ak ?_ ?_<;>intro hw<;>try omega|fail
 all_goals refine aL ?_ rfl
 all_goals rw[<-zo]
def Lo(l:List eu)(hl:v7 l): aH aE 40 [cU l] (.bool (decide (l.length<=6) && l.all bT)):=by
 obtain⟨uk,DR⟩:=hl;have c1:=uU 84 [] rfl (fun v=> !bT v) l (fun k hk=>Hq _ (DR _ (aV hk)).1) (by omega);have e:l.any (fun v=> !bT v) = !(l.all bT):=by rw[List.all_eq_not_any_not];simp
 rw[e]at c1;generalize l.all bT=b at *;simp only[cU]at c1 ⊢;refine aJ Eu ?_;intro Q au aA aB;repeat' first|refine aq ?_|refine ak ?_ ?_<;>intro hw<;>try omega|fail
 all_goals (refine aL ?_ rfl;simp;try omega)
def Hr(a b:fy)(ha:jX a)(hb:jX b): aH aE 29 [dF a,dF b] (.bool (lS a b)):=by
 have c1:=G9 a.table b.table (yA ha.2.1) (yA hb.2.1);have c2:=Au a.row b.row (by have:=ha.2.2.2.2.1.1;omega) (by have:=hb.2.2.2.2.1.1;omega);obtain⟨E,hE⟩:∃ E,lS a b=E:=⟨_,rfl⟩;rw[hE];unfold lS at hE;generalize iN a.table b.table=x at *;generalize fL (fun x y=>x==y) a.row b.row=y at *;have hn:(a.name==b.name)=decide (a.name=b.name):=by rw[aS];simp
 rw[hn]at hE;clear hn;simp only[cD,fg,bP,dV,cU]at c1 c2;refine aJ KJ ?_;intro Q au aA aB;simp only[dF,fE];repeat' first|refine aq ?_|refine ak ?_ ?_<;>intro hw<;>try omega|fail
 all_goals (refine aL ?_ rfl;rw[<-hE];first|(simp[*];done)|(refine congrArg AV.bool ?_;rw[aS];simp[*];done))
def qB {σ : ae} {c : fy} {a b r w : AV} (ha : View σ a (.aF false EC (c.table.ins.map bF))) (hb : View σ b (.aF false EC (c.table.outs.map bF))) (hr : View σ r (.aF false ER (c.table.rules.map cn))) (hw : View σ w (.aF false EV (c.row.map eR))) :
    View σ (.agg [I c.kind,.str c.table.name,a,b,I c.table.aZ,I c.table.agg,r,.str c.name,I c.ver,w,I c.iw,I c.jZ]) (dF c) :=
 View.om (.cons (.refl _ rfl) (.cons (.refl _ rfl) (.cons ha (.cons hb (.cons (.refl _ rfl) (.cons (.refl _ rfl) (.cons hr (.cons (.refl _ rfl) (.cons (.refl _ rfl) (.cons hw (.cons (.refl _ rfl) (.cons (.refl _ rfl) (.nil _)))))))))))))
def Hs{σ : ae}{f:Bool}{el:El}{l:List AV}(h:AV.bX l=true): View σ (.aF f el l) (.aF f el l):= .refl _ (by simp[AV.dh,h])
def Pj(c:fy): aH aE 48 [dF c] (dF (rW c)):=by
 obtain⟨D,hD⟩:∃ D,rW c=D:=⟨_,rfl⟩;rw[hD];unfold rW at hD;refine aJ Im ?_;intro Q au aA aB;simp only[dF,fE];by_cases k1:c.kind=1
 ·have Cq:D=⟨1,c.table,[],0,[],0,0⟩:=by rw[<-hD];simp[k1]
  repeat' first|simp (disch:=omega) only[go_sem,au,aA,aB,k1]|refine aq ?_|refine ak ?_ ?_<;>intro hw<;>try omega|fail
  all_goals (rw[Cq];exact⟨_,rfl,qB (c:=⟨1,c.table,[],0,[],0,0⟩) (Hs (EF _)) (Hs (EF _)) (Hs (JX _)) (.ai _)⟩)
 by_cases k2:c.kind=2
 ·have Cq:D=⟨2,fh,c.name,c.ver,c.row,0,0⟩:=by rw[<-hD];simp[k2]
  repeat' first|simp (disch:=omega) only[go_sem,au,aA,aB,k2]|refine aq ?_|refine ak ?_ ?_<;>intro hw<;>try omega|fail
  all_goals (rw[Cq];exact⟨_,rfl,qB (c:=⟨2,fh,c.name,c.ver,c.row,0,0⟩) (.ai _) (.ai _) (.ai _) (Hs (Mw _))⟩)
 by_cases k3:c.kind=3
 ·have Cq:D=⟨3,fh,c.name,c.ver,[],0,0⟩:=by rw[<-hD];simp[k3]
  repeat' first|simp (disch:=omega) only[go_sem,au,aA,aB,k3]|refine aq ?_|refine ak ?_ ?_<;>intro hw<;>try omega|fail
  all_goals (rw[Cq];exact⟨_,rfl,qB (c:=⟨3,fh,c.name,c.ver,[],0,0⟩) (.ai _) (.ai _) (.ai _) (.ai _)⟩)
 by_cases k5:c.kind=5
 ·have Cq:D=⟨5,fh,[],0,[],c.iw,c.jZ⟩:=by rw[<-hD];simp[k5]
  repeat' first|simp (disch:=omega) only[go_sem,au,aA,aB,k5]|refine aq ?_|refine ak ?_ ?_<;>intro hw<;>try omega|fail
  all_goals (rw[Cq];exact⟨_,rfl,qB (c:=⟨5,fh,[],0,[],c.iw,c.jZ⟩) (.ai _) (.ai _) (.ai _) (.ai _)⟩)
 by_cases k6:c.kind=6
 ·have Cq:D=⟨6,fh,[],0,[],c.iw,0⟩:=by rw[<-hD];simp[k6]
  repeat' first|simp (disch:=omega) only[go_sem,au,aA,aB,k6]|refine aq ?_|refine ak ?_ ?_<;>intro hw<;>try omega|fail
  all_goals (rw[Cq];exact⟨_,rfl,qB (c:=⟨6,fh,[],0,[],c.iw,0⟩) (.ai _) (.ai _) (.ai _) (.ai _)⟩)
 have Cq:D=⟨c.kind,fh,[],0,[],0,0⟩:=by rw[<-hD];simp[k1,k2,k3,k5,k6]
 repeat' first|refine aq ?_|refine ak ?_ ?_<;>intro hw<;>try omega|fail
 all_goals first|exact bh|(rw[Cq];exact⟨_,rfl,qB (c:=⟨c.kind,fh,[],0,[],0,0⟩) (.ai _) (.ai _) (.ai _) (.ai _)⟩)
def Wi{c:fy}(h:jX c): jX (rW c):=by
 obtain⟨h1,h2,h3,h4,h5,h6,h7⟩:=h;have v0:v7 []:=⟨by decide,fun c hc=>(by cases hc)⟩;have n0:([]:aG).length<=2 ^ 30:=by decide
 unfold rW;refine⟨h1,?_,?_,?_,?_,?_,?_⟩<;>dsimp only<;>split;all_goals first|assumption|exact I9|exact xH
def Jc(k e:Int)(q nm:Bool)(v:Int)(pf pc pl:Bool): Int:=if k=1/\e≠0 then e else if 1<=k/\k<=9/\q=true/\((k=2\/k=3)->nm=true/\0<=v/\v<=2147483648)/\pf=true/\pc=true/\pl=true then 0 else 2
def Km(c:fy): fq c=Jc c.kind (ko c.table).2 (oN c) (fc c.name) c.ver (l9 c.iw) (l9 c.jZ) (decide (c.row.length<=6) && c.row.all bT):=by
 unfold fq Jc;simp only[aD,decide_eq_true_eq]
def uc(c:fy)(ok:jX c): aH aE 19 [dF c] (I (fq c)):=by
 rw[Km];have c1:=NO c.kind;have c2:=NM c.table ok.2.1;have c3:=Ph c ok;have c4:=vM c.name (by have:=ok.2.2.1;omega);have c5:=Ax c.iw;have c6:=Ax c.jZ;have c7:=Lo c.row ok.2.2.2.2.1;have hh:=Ye c;have h2:=(Yd c.kind).2.1
 have h1:pK c.kind=1↔c.kind=1:=by
  unfold pK;repeat' split
  all_goals omega
 have ho:Uo c.kind=true↔(1<=c.kind/\c.kind<=9):=by simp[Uo]
 generalize pK c.kind=p at *;generalize Uo c.kind=o at *;generalize Jb c=s at *;generalize oN c=q at *;obtain⟨w,e1⟩:∃ w,jD .andNot .i64 s p=w:=⟨_,rfl⟩;obtain⟨u,e2⟩:∃ u,jD .and .i64 p 2=u:=⟨_,rfl⟩;rw[e1]at hh;rw[e2]at h2;generalize ko c.table=B at *;obtain⟨bs,be⟩:=B;generalize fc c.name=nm at *;generalize l9 c.iw=pf at *;generalize l9 c.jZ=pc at *;generalize (decide (c.row.length<=6) && c.row.all bT)=pl at *;obtain⟨E,hE⟩:∃ E,Jc c.kind be q nm c.ver pf pc pl=E:=⟨_,rfl⟩;dsimp only;rw[hE];unfold Jc at hE;simp only[eB,cD,fg,bP,dV,cU,dF,fE]at c2 c3 c7 ⊢;refine aJ Es ?_ (by simp[dF,fE]);intro Q au aA aB;repeat' first|simp (disch:=omega) only[go_sem,au,aA,aB,e1,e2]|refine aq ?_|refine ak ?_ ?_<;>intro hw<;>try omega|fail
 all_goals first
  | exact bh
  | (refine aL ?_ rfl
     refine congrArg I ?_;rw[<-hE];clear hE au aA aB c1 c2 c3 c4 c5 c6 c7 ok e1 e2;split
     ·first|omega|(simp_all;done)
     ·split
      ·first|rfl|(exfalso;simp_all;done)|(exfalso;simp_all;omega)
      ·first|rfl|(exfalso;simp_all;done)|(exfalso;simp_all;omega))
  | skip
def Pk(c:fy)(ok:jX c): aH aE 24 [dF c] (I (fq c)):=by
 rw[Km];have c1:=Pj c;have c2:=Pg c.table ok.2.1;have c3:=Hr c (rW c) ok (Wi ok);rw[Pc]at c3;have c4:=rG c.name (by have:=ok.2.2.1;omega);have c5:=Cp c.iw;have c6:=Cp c.jZ;have c7:=I_ c.row ok.2.2.2.2.1;generalize dF (rW c)=A at *;generalize oN c=q at *;generalize ko c.table=B at *;obtain⟨bs,be⟩:=B;generalize fc c.name=nm at *;generalize l9 c.iw=pf at *;generalize l9 c.jZ=pc at *;generalize c.row.all bT=pl at *;have hl:=ok.2.2.2.2.1.1;obtain⟨E,hE⟩:∃ E,Jc c.kind be q nm c.ver pf pc (decide (c.row.length<=6) && pl)=E:=⟨_,rfl⟩;dsimp only;rw[hE];unfold Jc at hE;simp only[eB,cD,fg,bP,dV,cU,dF,fE]at c1 c2 c3 c7 ⊢;refine aJ Ih ?_ (by simp[dF,fE]);intro Q au aA aB;repeat' first|refine aq ?_|refine ak ?_ ?_<;>intro hw<;>try omega|fail
 all_goals first
  | exact bh
  | (refine aL ?_ rfl
     refine congrArg I ?_;rw[<-hE];clear hE au aA aB c1 c2 c3 c4 c5 c6 c7 ok;split
     ·first|omega|(simp_all;done)
     ·split
      ·first|rfl|(exfalso;simp_all;done)|(exfalso;simp_all;omega)
      ·first|rfl|(exfalso;simp_all;done)|(exfalso;simp_all;omega))
  | skip
def Up{a b:Nat}(h:a+b<=2 ^ 40): ((a+b:Nat):Int)<=IntKind.i64.max:=by show _<=(9223372036854775807:Int);omega
abbrev EM: El:=⟨true,12⟩
def lH(l:List fy): AV:= .aF false EM (l.map dF)
def Wj(l:List fy): AV.bX (l.map dF)=true:=ie _ _ NN
attribute [simp] Wj
attribute [go_sem] dF fE
def adQ{l:List fy}(h:∀ k,k<l.length->fq (l.getD k default)=0): ∀ c ∈ l,fq c=0:=fun c hc=>by
 obtain⟨k,hk,rfl⟩:=bA hc;have:=h k hk;simpa[aj,hk]using this
@[go_sem] def adR (sz off n : Nat) (cs : List AV) (K : AV -> Prop) (h : ¬(off = 0 /\ n = sz)) : tj false ⟨true, sz⟩ (.agg cs) off true n (.mk : Tg K) = req (off + n <= sz) (.mk : Tg (K (.agg ((cs.drop off).take n)))) := by
  refine XL _ _ _ _ _ ?_;rw[Bool.eq_false_iff];intro hh;simp at hh;exact h hh
def Lr(l m:List fy)(hl:l.length<=2 ^ 60)(hm:m.length<=2 ^ 60)(okl:∀ c ∈ l,jX c)(okm:∀ c ∈ m,jX c): aH aE 15 [lH l,lH m] (.bool (fL lS l m)):=by
 simp only[lH];refine aJ Eo ?_;intro Q au aA aB;repeat' first|refine aq ?_|refine ak ?_ ?_<;>intro hw<;>try omega|fail
 ·refine aL ?_ rfl;rw[lQ (by omega)]
 have kG:l.length=m.length:=by omega
 with_reducible refine bn [4,5,11,12,13,14,15,16,17,18,19,20,21,22,23,24,25,26] (fun i:Nat=>[(5,I i)]) (fun _=>[]) (fun i=>i<=l.length/\ ∀ k,k<i->lS (l.getD k default) (m.getD k default)=true) (fun i=>l.length-i) (0) ?_ ?_ ?_ ?_
 ·simp
 ·rfl
 ·exact at_
 rintro i r ⟨h1,h2⟩;by_cases hi:i<l.length
 ·have c:=Hr _ _ (okl _ (aV hi)) (okm _ (aV (by omega:i<m.length)));have hne:=fun h=>nH (p:=lS) (l:=l) (m:=m) hi h (by omega);have bV:=fun he=>aY (q:=fun k=>lS (l.getD k default) (m.getD k default)=true) h2 (i:=i) he;obtain⟨v,kU⟩:∃ v,l.getD i default=v:=⟨_,rfl⟩;obtain⟨w,hwe⟩:∃ v,m.getD i default=v:=⟨_,rfl⟩;rw[kU,hwe]at c hne bV;generalize lS v w=b at *;simp only[dF,fE]at c;repeat' first|simp (disch:=omega) only[go_sem,au,aA,aB,kU,hwe]|refine aq ?_|refine d_ c ?_|refine ak ?_ ?_<;>intro hw<;>try omega|fail
  all_goals first
   | exact bh
   |(refine aL ?_ rfl;rw[hne (by simp_all)];done)
   | (refine ⟨i + 1, ?_, ?_, by first | rfl | (simp [go_sem]; done), bL, at_⟩ <;> (try dsimp only)
      ·exact⟨by omega,bV (by simp_all)⟩
      ·omega)
 ·repeat' first|refine aq ?_|refine ak ?_ ?_<;>intro hw<;>try omega|fail
  refine aL ?_ rfl;rw[lR (p:=lS) kG (fun k hk=>h2 k (by omega))]
def Fi(c:fy): Bool:=tR c.table && decide (c.name.length<=300) && (decide (c.row.length<=12) && c.row.all oM)
def Fj(l:List fy): Bool:=decide (l.length<=70) && l.all Fi
def Uq(l:List fy): aH aE 7 [lH l] (.bool (Fj l)):=by
 obtain⟨E,hE⟩:∃ E,Fj l=E:=⟨_,rfl⟩;rw[hE];unfold Fj at hE;simp only[lH];refine aJ C9 ?_;intro Q au aA aB;repeat' first|refine aq ?_|refine ak ?_ ?_<;>intro hw<;>try omega|fail
 ·exact aL (by rw[<-hE,decide_eq_false (by omega),dA]) rfl
 have h12:l.length<=70:=by omega
 rw[decide_eq_true h12,c_]at hE;with_reducible refine bn [2,3,7,8,9,10,11,12,13,14,15,16,17,18,19,20,21,22,23,24,25,26,27,28,29,30,31,32,33,34,35,36,37] (fun q:Nat=>[(3,I q)]) (fun _=>[]) (fun q=>q<=l.length/\ ∀ k,k<q->Fi (l.getD k default)=true) (fun q=>l.length-q) (0) ?_ ?_ ?_ ?_
 ·simp
 ·rfl
 ·exact at_
 rintro i r ⟨g1,g2⟩;by_cases hi:i<l.length
 ·have hne:=fun h=>zN (p:=Fi) hi h;have bV:=fun he=>aY (q:=fun k=>Fi (l.getD k default)=true) g2 (i:=i) he;obtain⟨v,kU⟩:∃ v,l.getD i default=v:=⟨_,rfl⟩;rw[kU]at hne bV;have hS:Fi v=(tR v.table && decide (v.name.length<=300) && (decide (v.row.length<=12) && v.row.all oM)):=rfl;rw[hS]at hne bV;have c1:=O8 v.table;have c2:=Ul v.row;generalize tR v.table=x at *;generalize (decide (v.row.length<=12) && v.row.all oM)=y at *;simp only[cD,fg,bP,dV,cU]at c1 c2;repeat' first|simp (disch:=omega) only[go_sem,au,aA,aB,kU]|refine aq ?_|refine ak ?_ ?_<;>intro hw<;>try omega|fail
  all_goals first
   | exact bh
   |(refine aL ?_ rfl;rw[<-hE,hne (by rw[decide_eq_false (by omega)];simp)];done)
   |(refine aL ?_ rfl;rw[<-hE,hne (by simp[*])];done)
   | (refine ⟨i + 1, ?_, ?_, by first | rfl | (simp [go_sem]; done), bL, at_⟩ <;> (try dsimp only)
      ·exact⟨by omega,bV (by rw[decide_eq_true (by omega)];simp[*])⟩
      ·omega)
 ·repeat' first|refine aq ?_|refine ak ?_ ?_<;>intro hw<;>try omega|fail
  exact aL (by rw[<-hE,zM (fun k hk=>g2 k (by omega))]) rfl
def yD(c:fy): Prop:=jv c.kind/\En c.table/\jv c.ver/\(∀ v ∈ c.row,Nw v)/\jv c.iw/\jv c.jZ
def aar{c:fy}(h:Fi c=true)(hr:yD c): jX c:=by
 obtain⟨r1,r2,r3,r4,r5,r6⟩:=hr;simp only[Fi,aD,decide_eq_true_eq,bq]at h;obtain⟨⟨h1,h2⟩,h3,h4⟩:=h;exact⟨r1,V_ h1 r2,by omega,r3,⟨by omega,fun v hv=>⟨r4 v hv,by have:=h4 v hv;simp only[oM,decide_eq_true_eq]at this;omega⟩⟩,r5,r6⟩
def pG: fy:= { mB with kind:=5,iw:=2,jZ:=5 }
def n9: fy:= { mB with kind:=4 }
def yE: jX pG:=⟨⟨by decide,by decide⟩,I9,by decide,xH,⟨by decide,fun c hc=>(by cases hc)⟩,⟨by decide,by decide⟩,⟨by decide,by decide⟩⟩
def NP: jX n9:=⟨⟨by decide,by decide⟩,I9,by decide,xH,⟨by decide,fun c hc=>(by cases hc)⟩,xH,xH⟩
def Yf{l:List fy}(h:Fj l=true)(hr:∀ c ∈ l,yD c): l.length<=70/\ ∀ c ∈ l,jX c:=by
 simp only[Fj,aD,decide_eq_true_eq,bq]at h;exact⟨h.1,fun c hc=>aar (h.2 c hc) (hr c hc)⟩
abbrev Ht: aG:=[116,97,98,108,101]
abbrev Ur: aG:=[105,110]
abbrev Cr: aG:=[111,117,116]
abbrev Hu: aG:=[114,117,108,101]
abbrev xJ: aG:=[101,110,100]
abbrev k9: aG:=[100,101,99,105,100,101]
abbrev nx: aG:=[118,101,114,115,105,111,110]
abbrev rY: aG:=[108,105,115,116]
abbrev rZ: aG:=[108,111,103]
abbrev ny: aG:=[99,111,109,112,97,99,116]
abbrev Us: aG:=[97,117,100,105,116]
abbrev Xe: aG:=[109,97,114,107]
abbrev Xf: aG:=[115,121,110,99]
abbrev Hv: aG:=[116,97,98,108,101,32]
def zS: List aG:=[[],[117,110,105,113,117,101],[102,105,114,115,116],[112,114,105,111,114,105,116,121],[97,110,121],[99,111,108,108,101,99,116],[114,117,108,101]]
def s6: List aG:=[[108,105,115,116],[115,117,109],[108,101,97,115,116],[109,111,115,116],[99,111,117,110,116]]
def s7: List aG:=[[],[105,110,116],[116,101,120,116],[98,111,111,108]]
def nX(l:List eu): aG:=Lib.join (l.map eJ) jf
def jB(s:aG)(l:List eu): aG:=if l.length=0 then s else s++[32]++nX l
def cH(l:List aG): aG:=Lib.join l [32]
def lA(l:List aG): aG:=Lib.join l [32,124,32]
def ud(p:Int): aG:=zS.getD p.toNat []
def wc(p:Int): aG:=s6.getD p.toNat []
def kF(p:Int): aG:=s7.getD p.toNat []
def w9(t:Table): aG:=cH [Ht,t.name,ud t.aZ,wc t.agg]
def mC(c:cL): aG:=cH [Ur,c.name,kF c.kind]
def jE(c:cL): aG:=jB (cH [Cr,c.name,kF c.kind]) c.order
def gY(r:eO): aG:=cH [Hu,lA r.cells,[58],lA r.outs]
def w_(t:Table): List aG:=w9 t::(t.ins.map mC++t.outs.map jE++t.rules.map gY)
def pL(t:Table): List aG:=w_ t++[xJ]
def lB(k:Int): aG:=if k=4 then rY else if k=7 then Us else if k=8 then Xe else if k=9 then Xf else []
def dZ(c:fy): List aG :=
 if c.kind=1 then pL c.table else if c.kind=2 then [jB (cH [k9,c.name,Lib.itoa c.ver]) c.row]
 else if c.kind=3 then [cH [nx,c.name,Lib.itoa c.ver]]else if c.kind=5 then [cH [rZ,Lib.itoa c.iw,Lib.itoa c.jZ]]
 else if c.kind=6 then [cH [ny,Lib.itoa c.iw]]else [lB c.kind]
def fX(l:List aG): aG:=l.flatMap fun s=>s++[10]
def jF(l:List fy): aG:=l.flatMap fun c=>fX (dZ c)
def n_(l:List fy): aG × Int :=
 if 64<l.length then([],24)else match l.find? (fun c=>fq c != 0)with
  | some c=>([],fq c)
  | none=>(jF l,0)
def iL(s:aG): aG:=Lib.trimB s 32
def eE(y:UInt8): Bool->aG->aG->List aG
 | _,cur,[]=>[iL cur]
 | true,cur,[c]=>[iL (cur++[c])]
 | true,cur,c::d::r=>if c.toNat=92 then eE y true (cur++[c,d]) r else eE y (decide (c.toNat≠34)) (cur++[c]) (d::r)
 | false,cur,c::r=>if c=y then iL cur::eE y false [] r else eE y (decide (c.toNat=34)) (cur++[c]) r
def iZ(s:aG)(y:UInt8): List aG:=eE y false [] s
def eP(c:UInt8): aG->aG × aG × Bool
 | []=>([],[],false)
 | b::r=>if b=c then([],r,true)else (b::(eP c r).1,(eP c r).2.1,(eP c r).2.2)
def pieces: Nat->aG->List aG
 | 0,s=>[s]
 | k+1,s=>if(eP 32 s).2.2=true then(eP 32 s).1::pieces k (eP 32 s).2.1 else [s]
def cM(s:aG)(n:Nat): List aG × aG × Bool :=
 if(pieces n s).length<n then([],[],false)else if(pieces n s).length=n then(pieces n s,[],true)
 else((pieces n s).take n,(pieces n s).getD n [],decide ((pieces n s).getD n []≠[]))
def wg(s:aG): eu :=
 if(aX s).2.2≠0\/(aX s).1.length<1\/2<(aX s).1.length then v0
 else if((aX s).1.getD ((aX s).1.length-1) default).kind=3 then⟨2,0,((aX s).1.getD ((aX s).1.length-1) default).s⟩
 else if((aX s).1.getD ((aX s).1.length-1) default).kind=2 then⟨1,if(aX s).1.length=2 then -((aX s).1.getD ((aX s).1.length-1) default).n else((aX s).1.getD ((aX s).1.length-1) default).n,[]⟩
 else if((aX s).1.getD ((aX s).1.length-1) default).s=jO then⟨3,1,[]⟩
 else if((aX s).1.getD ((aX s).1.length-1) default).s=jh then⟨3,0,[]⟩else v0
def Fk(s:aG): Bool:=if(aX s).2.2≠0\/(aX s).1.length<1\/2<(aX s).1.length then false else decide (eJ (wg s)=s)
def fF(s:aG): Int × Bool:=match Lib.atoiAll s with
 | .ok n=>if Lib.itoa n=s then(n,true)else (0,false)
 | _=>(0,false)
def r7(s:aG): eu:=if(fF s).2=true then⟨1,(fF s).1,[]⟩else v0
def zT(s:aG): Bool:=Fk s ||(fF s).2
def r8(s:aG): eu:=if Fk s=true then wg s else r7 s
def pA(s:aG): List eu × Bool:=if(iZ s 44).all zT=true then((iZ s 44).map r8,decide (nX ((iZ s 44).map r8)=s))else ([],false)
def yF(k:Int)(s:aG): fy × Bool :=
 if(cM s 3).2.2=false\/k=3/\(cM s 3).2.1≠[]then (mB,false)
 else if(fF ((cM s 3).1.getD 2 [])).2=true/\(cM s 3).2.1≠[]then ({ mB with kind:=k,name:=(cM s 3).1.getD 1 [],ver:=(fF ((cM s 3).1.getD 2 [])).1,row:=(pA (cM s 3).2.1).1 },(pA (cM s 3).2.1).2)
 else({ mB with kind:=k,name:=(cM s 3).1.getD 1 [],ver:=(fF ((cM s 3).1.getD 2 [])).1 },(fF ((cM s 3).1.getD 2 [])).2)
def qQ(k:Int)(s:aG)(n:Nat): fy × Bool :=
 if(cM s (n+1)).2.2=false\/(cM s (n+1)).2.1≠[]then (mB,false)
 else if(fF ((cM s (n+1)).1.getD 1 [])).2=true/\n=2 then({ mB with kind:=k,iw:=(fF ((cM s (n+1)).1.getD 1 [])).1,jZ:=(fF ((cM s (n+1)).1.getD 2 [])).1 },(fF ((cM s (n+1)).1.getD 2 [])).2)
 else({ mB with kind:=k,iw:=(fF ((cM s (n+1)).1.getD 1 [])).1 },(fF ((cM s (n+1)).1.getD 1 [])).2)
def Sc(s:aG): fy × Bool :=
 if(eP 32 s).1=k9 then yF 2 s else if(eP 32 s).1=nx then yF 3 s
 else if(eP 32 s).1=rZ then qQ 5 s 2 else if(eP 32 s).1=ny then qQ 6 s 1
 else if s=rY then({ mB with kind:=4 },true)else if s=Us then({ mB with kind:=7 },true)
 else if s=Xe then({ mB with kind:=8 },true)else if s=Xf then({ mB with kind:=9 },true)else (mB,false)
def LH(s:aG): cL × Bool :=
 if(cM s 3).2.2=false then(⟨[],0,[]⟩,false)
 else if(cM s 3).2.1≠[]then (⟨(cM s 3).1.getD 1 [],gN (fun x=>x==(cM s 3).1.getD 2 []) s7,(pA (cM s 3).2.1).1⟩,(pA (cM s 3).2.1).2 && decide (0<gN (fun x=>x==(cM s 3).1.getD 2 []) s7))
 else(⟨(cM s 3).1.getD 1 [],gN (fun x=>x==(cM s 3).1.getD 2 []) s7,[]⟩,decide (0<gN (fun x=>x==(cM s 3).1.getD 2 []) s7))
def Ut(s:aG): eO × Bool :=
 if(cM s 1).2.2=false\/(iZ (cM s 1).2.1 58).length≠2 then(⟨[],[]⟩,false)
 else(⟨iZ ((iZ (cM s 1).2.1 58).getD 0 []) 124,iZ ((iZ (cM s 1).2.1 58).getD 1 []) 124⟩,true)
def LI(t:Table): Table:=if t.outs.length=0 then { t with outs:=[⟨[111],1,if t.aZ=3 then [⟨1,0,[]⟩]else []⟩] }else t
def yG(t:Table): Bool :=
 if t.ins.length=0 then decide (t.agg=0) || decide (t.aZ=5)
 else decide ((fC (LI t)).2.2.2=0) && iN (fC (LI t)).1 (LI t) && decide ((ko (fC (LI t)).1).2=0)
def Sd(t:Table)(s:aG): Bool:=decide ((w_ t).getD ((w_ t).length-1) []=s)
structure qc where
 out:List fy
 now:Int
 t:Table
deriving Inhabited
def Hw(r:qc)(s:aG): qc × Bool :=
 if(cM s 4).2.2=false\/(cM s 4).2.1≠[]\/fc ((cM s 4).1.getD 1 [])=false then(r,false)
 else(⟨r.out,1,⟨(cM s 4).1.getD 1 [],[],[],gN (fun x=>x==(cM s 4).1.getD 2 []) zS,gN (fun x=>x==(cM s 4).1.getD 3 []) s6,[]⟩⟩,
  decide (0<gN (fun x=>x==(cM s 4).1.getD 2 []) zS) && decide (0<=gN (fun x=>x==(cM s 4).1.getD 3 []) s6))
def Se(r:qc)(s:aG): qc:=⟨r.out,2,{ r.t with ins:=r.t.ins++[(LH s).1] }⟩
def NQ(r:qc)(s:aG): qc:=⟨r.out,3,{ r.t with outs:=r.t.outs++[(LH s).1] }⟩
def Jd(r:qc)(s:aG): qc:=⟨r.out,4,{ r.t with rules:=r.t.rules++[(Ut s).1] }⟩
def Yg(r:qc)(s:aG): qc × Bool :=
 if(eP 32 s).1=Ur/\r.now<=2 then(Se r s,(LH s).2 && yG (Se r s).t && Sd (Se r s).t s)
 else if(eP 32 s).1=Cr/\(r.now=2\/r.now=3)then (NQ r s,(LH s).2 && yG (NQ r s).t && Sd (NQ r s).t s)
 else if(eP 32 s).1=Hu/\3<=r.now then(Jd r s,(Ut s).2 && yG (Jd r s).t && Sd (Jd r s).t s)
 else if s=xJ/\3<=r.now then(⟨r.out++[{ mB with kind:=1,table:=r.t }],0,r.t⟩,true)else (r,false)
def Ct(r:qc)(s:aG): qc × Bool :=
 if r.now≠0 then Yg r s else if r.out.length=64 then(r,false)
 else if Hv.isPrefixOf s=true then((Hw r s).1,(Hw r s).2 && yG (Hw r s).1.t && decide (w9 (Hw r s).1.t=s))
 else if(Sc s).2=false\/fq (Sc s).1≠0\/(dZ (Sc s).1).getD 0 []≠s then(r,false)
 else(⟨r.out++[(Sc s).1],r.now,r.t⟩,true)
def Xg: Nat->qc->aG->Int->qc × aG × Int
 | 0,r,s,n=>(r,s,n)
 | f + 1, r, s, n => if s = [] then (r, s, n) else if (eP 10 s).2.2 = false then (r, s, n)
   else if(Ct r (eP 10 s).1).2=false then((Ct r (eP 10 s).1).1,s,n)else Xg f (Ct r (eP 10 s).1).1 (eP 10 s).2.1 (n+1)
def Hx(l:List fy)(c:fy): jF (l++[c])=jF l++fX (dZ c):=by simp[jF]
structure Inv (r:qc) (u:aG):Prop where
 chk:∀ c ∈ r.out,fq c=0
 len:r.out.length<=64
 adS:r.now=0->u=jF r.out
 ae8:r.now≠0->u=jF r.out++fX (w_ r.t)/\r.out.length<64/\1<=r.now/\r.now<=4
 p1:2<=r.now->r.t.ins≠[]
 p2:r.now≠0->r.now<=2->r.t.outs=[]
 p3:r.now≠0->r.now<=3->r.t.rules=[]
 p4:3<=r.now->r.t.outs≠[]/\yG r.t=true
def aas(c:UInt8)(s:aG): (eP c s).2.2=true->s=(eP c s).1++(c::(eP c s).2.1):=by
 induction s with
 | nil=>intro h;cases h
 | cons b s ih =>
   intro h;rw[eP]at h ⊢;split at h
   ·rename_i e;rw[if_pos e,e];rfl
   ·rename_i e;rw[if_neg e];exact congrArg (b:: ·) (ih h)
def NR{l:List fy}(hl:l.length<=64)(h:∀ c ∈ l,fq c=0): n_ l=(jF l,0):=by
 unfold n_;rw[if_neg (by omega)]
 have:l.find? (fun c=>fq c != 0)=none:=by
  rw[dy];intro c hc;simp[h c hc]
 rw[this]
