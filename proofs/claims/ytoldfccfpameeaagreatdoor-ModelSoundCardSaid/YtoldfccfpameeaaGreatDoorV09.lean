/- Part. -/
import Derived.Test.YtoldfccfpameeaaGreatDoorV08
import Derived.Shelf.Strings.OnBuilder
import Derived.Shelf.Strings.Repeat
import Derived.Shelf.Small.Strs
import Derived.Shelf.Small.Wraps
import Derived.Shelf.LaysM
import Derived.Shelf.Strconv.Itoa3
import Derived.Test.YtoldfccfpameeaaGreatDoorProg
import Derived.Shelf.Bits.Mul64
set_option linter.all false
set_option maxHeartbeats 4000000
namespace Go.Proofs.YtoldfccfpameeaaGreatDoor
open Go.AM
set_option maxRecDepth 4000
def eI(n:Int): AV:=I n
attribute [go_sem] eI
def ahP(n:Int): (eI n).dy=true:=rfl
def FO(l:List Int): AV.cE (l.map eI)=true:=fN _ _ ahP
def cG(a b:Int): Bool:=decide (a=b) || decide (a=0) || decide (b=0)
def oM(a b:Int): Int:=if a=0 then b else a
def oI(a b:Int): aQ aI 186 [I a,I b] (.bool (cG a b)):=by
 refine aY MS ?_;intro Q aJ aK aL;repeat' first|refine aC ?_|refine aB ?_ ?_<;>intro hw<;>try omega|fail
 all_goals refine a_ ?_ rfl
 all_goals (refine bj AV.bool ?_;rw[cQ];simp only[cG,aD,cH,aM,beq_iff_eq,ey,decide_eq_false_iff_not,beq_eq_false_iff_ne,ne_eq,true_iff,false_iff,iff_true,iff_false,aP,Bool.true_eq_false,not_and,not_or]at *;omega)
def Ec(a b:Int): aQ aI 280 [I a,I b] (I (oM a b)):=by
 refine aY BW ?_;intro Q aJ aK aL;repeat' first|refine aC ?_|refine aB ?_ ?_<;>intro hw<;>try omega|fail
 all_goals refine a_ ?_ rfl
 all_goals (unfold oM;first|rw[if_neg (by assumption)]|rw[if_pos (by assumption)]|(subst a;rfl))
def VT{α : Type}{p : α->Bool}(l:List α): l.all p = !(l.any fun x=> !(p x)):=by
 induction l with
 | nil=>rfl
 | cons x r ih=>simp[ih]
def Lf(w:Int)(l:List Int)(hl:l.length<=2 ^ 60): aQ aI 279 [I w,.aS false E1 (l.map eI)] (.bool (l.all fun k=>cG k w)):=by
 refine aY Qe ?_ (by simp[AV.dy,AV.cE,FO]);intro Q aJ aK aL;repeat' first|refine aC ?_|refine aB ?_ ?_<;>intro hw<;>try omega|fail
 with_reducible refine bG [4,1,6,1,9,9] (fun i:Nat=>[(9,I i)]) (fun _=>[]) (fun i=>i<=l.length/\ ∀ k,k<i->(!(cG (l.getD k default) w))=false) (fun i=>l.length-i) (0) ?_ ?_ ?_ ?_
 ·simp
 ·rfl
 ·exact at_
 rintro i r ⟨h1,h2⟩;by_cases hi:i<l.length
 ·repeat' first|refine aC ?_|refine eS (oI _ _) ?_|refine aB ?_ ?_<;>intro hw<;>try omega|fail
  ·refine a_ ?_ rfl;rw[VT,aah (p:=fun x=> !(cG x w)) hi (by simpa using hw)];rfl
  refine⟨i+1,?_,?_,by first|rfl|(simp[go_sem];done),c8,at_⟩<;>(try dsimp only)
  ·exact⟨ae,cn h2 (by simpa using hw)⟩
  omega
 repeat' first|refine aC ?_|refine aB ?_ ?_<;>intro hw<;>try omega|fail
 refine a_ ?_ rfl;rw[VT,VM (p:=fun x=> !(cG x w)) (fun k hk=>h2 k ae)];rfl
def HG(l:List Int)(v:Int)(hl:l.length<=2 ^ 60): aQ aI 298 [.aS false E1 (l.map eI),I v] (I (kP (fun x=>x==v) l)):=by
 refine aY Da ?_ (by simp[AV.dy,AV.cE,FO]);intro Q aJ aK aL;repeat' first|refine aC ?_|refine aB ?_ ?_<;>intro hw<;>try omega|fail
 with_reducible refine bG [4,2,8,11] (fun i:Nat=>[(8,I i)]) (fun _=>[]) (fun i=>i<=l.length/\ ∀ k,k<i->(l.getD k default==v)=false) (fun i=>l.length-i) (0) ?_ ?_ ?_ ?_
 ·simp
 ·rfl
 ·exact at_
 rintro i r ⟨h1,h2⟩;by_cases hi:i<l.length
 ·repeat' first|refine aC ?_|refine aB ?_ ?_<;>intro hw<;>try omega|fail
  ·refine a_ ?_ rfl;rw[qz (p:=fun x=>x==v) hi h2 (by simp_all)]
  refine⟨i+1,?_,?_,by first|rfl|(simp[go_sem];done),c8,at_⟩<;>(try dsimp only)
  ·exact⟨ae,cn h2 (by rw[beq_eq_false_iff_ne];intro h;exact hw h.symm)⟩
  omega
 repeat' first|refine aC ?_|refine aB ?_ ?_<;>intro hw<;>try omega|fail
 refine a_ ?_ rfl;rw[nu (p:=fun x=>x==v) (fun k hk=>h2 k ae)]
def Dk(l:List Int)(v:Int)(hl:l.length<=2 ^ 60): aQ aI 281 [.aS false E1 (l.map eI),I v] (.bool (decide (0<=kP (fun x=>x==v) l))):=by
 refine aY zD ?_ (by simp[AV.dy,AV.cE,FO]);intro Q aJ aK aL;repeat' first|refine aC ?_|refine eS (HG l v hl) ?_|refine aB ?_ ?_<;>intro hw<;>try omega|fail
 all_goals exact a_ rfl rfl
def lJ(op:Int)(ks:List Int): Int × Bool :=
 if op=3\/op=5\/op=6\/op=7 then(1,ks.all fun k=>cG k 1)
 else if op=4 then(if oM (ks.getD 0 0) (ks.getD 1 0)=2 then(2,ks.all fun k=>cG k 2)else (1,ks.all fun k=>cG k 1))
 else if op=8\/op=9 then(3,cG (ks.getD 0 0) (ks.getD 1 0))
 else if op=10\/op=11\/op=12\/op=13 then(3,cG (ks.getD 0 0) (ks.getD 1 0) && !(decide (0<=kP (fun x=>x==3) ks)))
 else if op=14\/op=15 then(3,ks.all fun k=>cG k 3)
 else(oM (ks.getD 1 0) (ks.getD 2 0),cG (ks.getD 0 0) 3 && cG (ks.getD 1 0) (ks.getD 2 0))
def Sk(a:Int): aQ aI 257 [I 3,.aS false E1 ([a].map eI)] (.bR [I (lJ 3 [a]).1,.bool (lJ 3 [a]).2]):=by
 have h:=fun w=>Lf w [a] aR;simp only[List.map,eI]at h ⊢;refine aY vJ ?_;intro Q aJ aK aL;repeat' first|simp (disch:=omega) only[go_sem,aJ,aK,aL,Int.reduceToNat]|refine aC ?_|refine eS (h _) ?_|refine aB ?_ ?_<;>intro hw<;>try omega|fail
 all_goals exact cg rfl rfl
def Sl(op a b:Int)(h4:4<=op)(h15:op<=15): aQ aI 257 [I op,.aS false E1 ([a,b].map eI)] (.bR [I (lJ op [a,b]).1,.bool (lJ op [a,b]).2]):=by
 have h:=fun w=>Lf w [a,b] aR;have hc:=Dk [a,b] 3 aR;simp only[List.map,eI]at h hc ⊢;generalize hR:lJ op [a,b]=R;refine aY vJ ?_;intro Q aJ aK aL;repeat' first|simp (disch:=omega) only[go_sem,aJ,aK,aL,Int.reduceToNat]|refine aC ?_|refine eS (h _) ?_|refine eS (Ec a b) ?_|refine eS (oI a b) ?_|refine aB ?_ ?_<;>intro hw<;>try omega|fail
 all_goals (refine cg ?_ rfl;clear aJ aK aL h hc;subst hR)
 all_goals (simp_all[lJ];done)
def Sm(a b c:Int): aQ aI 257 [I 16,.aS false E1 ([a,b,c].map eI)] (.bR [I (lJ 16 [a,b,c]).1,.bool (lJ 16 [a,b,c]).2]):=by
 simp only[List.map,eI];refine aY vJ ?_;intro Q aJ aK aL;repeat' first|simp (disch:=omega) only[go_sem,aJ,aK,aL,Int.reduceToNat]|refine aC ?_|refine eS (Ec b c) ?_|refine eS (oI a 3) ?_|refine eS (oI b c) ?_|refine aB ?_ ?_<;>intro hw<;>try omega|fail
 all_goals (refine cg ?_ rfl;simp_all[lJ])
def XT(op:Int)(ks:List Int): Int × Int:=if(lJ op ks).2 then((lJ op ks).1,0)else (0,14)
def sB (fn : FuncId) (cap : List AV) (hcap : AV.cE cap = true) (p : cJ -> Bool) (l : List cJ) (h : ∀ k, k < l.length -> aQ aI fn (dU (l.getD k default) :: cap) (.bool (p (l.getD k default)))) (hl : l.length <= 2 ^ 62) :
    aQ aI 217 [b_ l,.fn (.func fn) [] cap] (I (kP p l)):=by
 refine aY xx ?_ (by simp[AV.dy,AV.cE,hcap,j7]);intro Q aJ aK aL;repeat' first|refine aC ?_|refine aB ?_ ?_<;>intro hw<;>try omega|fail
 with_reducible refine bG [4,2,8,11] (fun i:Nat=>[(8,I i)]) (fun _=>[]) (fun i=>i<=l.length/\ ∀ k,k<i->p (l.getD k default)=false) (fun i=>l.length-i) (0) ?_ ?_ ?_ ?_
 ·simp
 ·rfl
 ·exact at_
 rintro i r ⟨hi,hp⟩;by_cases hin:i<l.length
 ·have hx:=h i hin;simp only[dU,br]at hx;repeat' first|refine aC ?_|refine aB ?_ ?_<;>intro hw<;>try omega|fail
  ·refine a_ ?_ rfl;refine bj I ?_;exact(qz hin hp hw).symm
  refine⟨i+1,?_,?_,by first|rfl|(simp[go_sem];done),c8,at_⟩<;>(try dsimp only)
  ·exact⟨ae,cn hp hw⟩
  omega
 repeat' first|refine aC ?_|refine aB ?_ ?_<;>intro hw<;>try omega|fail
 refine a_ ?_ rfl;refine bj I ?_;exact(nu fun k hk=>hp k ae).symm
def vq(l:List cJ)(s:aT): Int:=kP (fun c=>c.name==s) l
def Uz(c:cJ)(s:aT): aQ aI 250 [dU c,.eY E1 (.str s) 0] (.bool (c.name==s)):=by
 refine aY MU ?_ (by simp[AV.dy,AV.cE,Dd]);intro Q aJ aK aL;repeat' first|refine aC ?_|refine aB ?_ ?_<;>intro hw<;>try omega|fail
 all_goals exact a_ rfl rfl
def Oz(l:List cJ)(s:aT)(hl:l.length<=2 ^ 60): aQ aI 216 [b_ l,.str s] (I (vq l s)):=by
 have hc:=sB 250 [.eY E1 (.str s) 0] rfl (fun c=>c.name==s) l (fun k _=>Uz _ s) ae;simp only[b_]at hc;refine aY RU ?_ (by simp[AV.dy,AV.cE,j7]);intro Q aJ aK aL;repeat' first|refine aC ?_|refine HZ hc ?_|refine aB ?_ ?_<;>intro hw<;>try omega|fail
 all_goals exact a_ rfl rfl
def rC{op:Int}{n:Nat}(h:(n:Int)=j8 op)(h1:op≠1)(h2:op≠2): (op=3/\n=1)\/(4<=op/\op<=15/\n=2)\/(op=16/\n=3):=by
 unfold j8 at h;rw[aj ae]at h;by_cases h3:op=3
 ·rw[au h3]at h;omega
 rw[aj h3]at h;by_cases h16:op=16
 ·rw[au h16]at h;omega
 rw[aj h16]at h;by_cases hr:4<=op/\op<=15
 ·rw[au (XK op hr.1 hr.2).2]at h;omega
 rw[XJ op ae]at h;rw[aj da]at h;omega
def M3(op:Int)(ks:List Int)(h:(ks.length:Int)=j8 op)(h1:op≠1)(h2:op≠2): aQ aI 257 [I op,.aS false E1 (ks.map eI)] (.bR [I (lJ op ks).1,.bool (lJ op ks).2]):=by
 rcases rC h h1 h2 with⟨rfl,hn⟩|⟨h4,h15,hn⟩|⟨rfl,hn⟩
 ·match ks,hn with
  | [a],_=>exact Sk a
 ·match ks,hn with
  | [a,b],_=>exact Sl op a b h4 h15
 match ks,hn with
 | [a,b,c],_=>exact Sm a b c
mutual
def jX(cs:List cJ): Expr->Int × Int
 | .mk op v s l =>
   if op=1 then(v.kind,0)
   else if op=2 then(if vq cs s<0 then(0,13)else ((cs.getD (vq cs s).toNat default).kind,0))
   else if(lz cs l).2=0 then XT op (lz cs l).1 else(0,(lz cs l).2)
def lz(cs:List cJ): List Expr->List Int × Int
 | []=>([],0)
 | x :: r =>
   if(jX cs x).2≠0 then([],(jX cs x).2)
   else if(lz cs r).2≠0 then([],(lz cs r).2)
   else((jX cs x).1::(lz cs r).1,0)
end
def Sn{cs:List cJ}: ∀ {l:List Expr} {ks:List Int},ks.length=l.length->(∀ k,k<l.length->jX cs (l.getD k default)=(ks.getD k 0,0))->lz cs l=(ks,0)
 | [],[],_,_=>by simp only[lz]
 | x :: r, k :: ks, hl, h => by
   have h0:=h 0 aR;simp only[de]at h0;have hr:=Sn (l:=r) (ks:=ks) (by simpa using hl) (fun i hi=>by simpa using h (i+1) (by simpa using hi));simp[lz,h0,hr]
def OA{cs:List cJ}: ∀ {l:List Expr} {i:Nat} {e:Int},i<l.length->(∀ k,k<i->(jX cs (l.getD k default)).2=0)->(jX cs (l.getD i default)).2=e->e≠0->lz cs l=([],e)
 | x :: r, 0, e, _, _, he, hne => by
   simp only[de]at he;simp[lz,he,hne]
 | x :: r, i + 1, e, hi, h, he, hne => by
   have h0:=h 0 ae;simp only[de]at h0;have hr:=OA (l:=r) (i:=i) (e:=e) (by simpa using hi) (fun k hk=>by simpa using h (k+1) ae) (by simpa using he) hne;simp[lz,h0,hr,hne]
def VU{α : Type}[Inhabited α](p : α->Bool)(l:List α): kP p l<l.length:=by
 rcases vO p l with⟨h1,h2⟩|⟨i,h1,h2,h3⟩
 ·rw[h1];omega
 rw[h2];omega
def UA(cs:List cJ)(hcs:cs.length<=2 ^ 60)(x:Expr): dY x=true->gM x<=2 ^ 60->aQ aI 225 [bt x,b_ cs] (.bR [I (jX cs x).1,I (jX cs x).2]):=by
 induction x using Expr.ind with
 | h op v s l ih =>
   intro hr hz;simp only[gM]at hz;have hl:=G9 l
   have XU:(l.length:Int)=j8 op:=by
    simp only[dY,aD,aM]at hr;exact hr.1
   obtain⟨vk,vn,vs⟩:=v;have hA:=Oz cs s hcs;have Ed:=VU (fun c:cJ=>c.name==s) cs
   change vq cs s<cs.length at Ed
   simp only[b_]at hA ⊢;by_cases h1:op=1
   ·have e:jX cs (.mk op ⟨vk,vn,vs⟩ s l)=(vk,0):=by simp only[jX,au h1]
    rw[e];refine aY rX ?_;intro Q aJ aK aL;repeat' first|refine aC ?_|refine aB ?_ ?_<;>intro hw<;>try omega|fail
    exact cg rfl rfl
   by_cases h2:op=2
   ·have e:jX cs (.mk op ⟨vk,vn,vs⟩ s l)=if vq cs s<0 then(0,13)else ((cs.getD (vq cs s).toNat default).kind,0):=by simp only[jX,aj h1,au h2]
    rw[e];generalize vq cs s=i at *;by_cases hi:i<0
    ·rw[au hi];refine aY rX ?_;intro Q aJ aK aL;repeat' first|refine aC ?_|refine aB ?_ ?_<;>intro hw<;>try omega|fail
     exact cg rfl rfl
    rw[aj hi];obtain⟨n,rfl⟩:∃ n:Nat,i=n:=⟨i.toNat,ae⟩;have hn:n<cs.length:=ae;refine aY rX ?_;intro Q aJ aK aL;repeat' first|refine aC ?_|refine aB ?_ ?_<;>intro hw<;>try omega|fail
    exact cg rfl rfl
   have Ee:sU l=true:=by
    simp only[dY,aj h1,aj h2,aD]at hr;exact hr.2.2
   have yP:∀ k,k<l.length->dY (l.getD k default)=true:=fun k hk=>by
    rw[K9]at Ee;simp only[ey,List.any_eq_false,ey,Bool.not_eq_false']at Ee;simpa using Ee _ (bx hk)
   have hk:∀ k,k<l.length->_:=fun k h=>ih _ (bx h) (yP k h) (by have:=B3 (bx h);omega);have e:jX cs (.mk op ⟨vk,vn,vs⟩ s l)=if(lz cs l).2=0 then XT op (lz cs l).1 else(0,(lz cs l).2):=by simp only[jX,aj h1,aj h2]
   rw[e];have hl3:l.length<=3:=by rcases rC XU h1 h2 with h|h|h<;>omega
   have ajM:=fun ks h=>M3 op ks h h1 h2;clear hA Ed e hr Ee;simp only[b_]at hk;refine aY rX ?_;intro Q aJ aK aL;repeat' first|refine aC ?_|refine aB ?_ ?_<;>intro hw<;>try omega|fail
   with_reducible refine bG [4,2,7,1,9,3,37,18] (fun q:Nat × List Int × List aX=>[(37,I q.1),(7,.own E1 1 q.1 0 q.1)]) (fun q=> .cells [I op,I vk,I vn,.str vs,.str s,.aS false EX (l.map bt)]:: .vec E1 (q.2.1.map eI)::q.2.2) (fun q=>q.1<=l.length/\q.2.1.length=q.1/\ ∀ k,k<q.1->jX cs (l.getD k default)=(q.2.1.getD k 0,0)) (fun q=>l.length-q.1) (0,[],[]) ?_ ?_ ?_ ?_
   ·simp
   ·rfl
   ·exact at_
   rintro⟨i,ks,τ⟩ r ⟨a1,a2,a3⟩;dsimp only at a1 a2 a3;by_cases hi:i<l.length
   ·have hx:=hk i hi;generalize hK:jX cs (l.getD i default)=K at *;obtain⟨kk,ke⟩:=K;rw[bK]at hx;repeat' first|refine cB a2 ?_|refine aC ?_|refine aB ?_ ?_<;>intro hw<;>try omega|fail
    ·have:lz cs l=([],ke):=OA hi (fun k h=>by rw[a3 k h]) (by rw[hK]) (by assumption);rw[this];refine cg ?_ rfl;dsimp only;rw[aj (by assumption)]
    refine⟨(i+1,ks++[kk],τ++[.cells [I (l.getD i default).op,I (l.getD i default).v.kind,I (l.getD i default).v.n,.str (l.getD i default).v.s,.str (l.getD i default).s,.aS false EX ((l.getD i default).l.map bt)]]),?_,?_,?_,c8,at_⟩
    ·refine⟨by dsimp only;omega,by simp[a2],cn (fun k k8=>?_) ?_⟩
     ·rw[a3 k k8];simp[aq,aH (show k<ks.length by omega)]
     rw[hK];have:ke=0:=by assumption
     rw[this,<-a2];simp[aq]
    ·dsimp only;omega
    simp[eI]
   have hie:i=l.length:=ae;subst hie;have zO:=Sn a2 a3;rw[zO]at aJ aK;have hc:=ajM ks (by rw[a2];exact XU);have hpk:AV.cE (ks.map eI)=true:=FO ks;have hlk:(ks.map eI).length=l.length:=by simp[a2]
   simp only[if_true]at aJ aK;unfold XT at aJ aK;clear zO a3;generalize lJ op ks=R at *;obtain⟨rk,rb⟩:=R;repeat' first|refine cB a2 ?_|refine aC ?_|(with_reducible refine vD hc (.cons (View.refl _ rfl) (.cons (View.vec rfl hlk.symm hlk.symm hpk) (.nil _))) rfl ?_)|refine aB ?_ ?_<;>intro hw<;>try omega|fail
   all_goals (refine cg ?_ rfl;simp_all)
def UB(cs:List cJ)(hcs:cs.length<=2 ^ 60)(x:Expr)(hx:jj x)(hz:gM x<=2 ^ 60): aQ aI 185 [bt x,b_ cs] (.bR [I (if dY x then(jX cs x).1 else 0),I (if dY x then(jX cs x).2 else 2)]):=by
 have h1:=y5 x hx hz;have h2:=UA cs hcs x;cases hr:dY x with
 | true =>
   have h2:=h2 hr hz;rw[hr]at h1;simp only[ji,if_true]at h1 ⊢;generalize jX cs x=K at *;rw[bK]at h1 h2 ⊢;simp only[b_]at h2 ⊢;refine aY BV ?_;intro Q aJ aK aL;repeat' first|refine aC ?_|refine aB ?_ ?_<;>intro hw<;>try omega|fail
   all_goals exact cg rfl rfl
 | false =>
   rw[hr]at h1;simp only[ji,aP,if_false]at h1 ⊢;rw[bK]at h1 ⊢;simp only[b_];refine aY BV ?_;intro Q aJ aK aL;repeat' first|refine aC ?_|refine aB ?_ ?_<;>intro hw<;>try omega|fail
   all_goals exact cg rfl rfl
def vT(l:List cJ)(i:Nat): Int :=
 if iL (l.getD i default).name=false\/vq l (l.getD i default).name≠i then 13
 else if(l.getD i default).kind<1\/3<(l.getD i default).kind then 14 else 0
def lg(l:List cJ): Int:=if 6<l.length then 24 else match(List.range l.length).find? (fun i=>vT l i != 0)with
 | some i=>vT l i
 | none=>0
def oh{n k:Nat}(h:k<n): (List.range n).getD k default=k:=by simp[aq,h]
def ac2{l:List cJ}{i:Nat}{e:Int}(h6:¬ 6<l.length)(hi:i<l.length)(h:∀ k,k<i->vT l k=0)(he:vT l i=e)(hne:e≠0): lg l=e:=by
 have:=yp (p:=fun i=>vT l i != 0) (l:=List.range l.length) (i:=i) (by simpa using hi) (fun k hk=>by rw[oh ae];simp[h k hk]) (by rw[oh hi];simp[he,hne]);unfold lg;rw[aj h6,this,oh hi];exact he
def aal{l:List cJ}(h6:¬ 6<l.length)(h:∀ k,k<l.length->vT l k=0): lg l=0:=by
 have:=vR (p:=fun i=>vT l i != 0) (l:=List.range l.length) (fun k hk=>by rw[List.length_range]at hk;rw[oh hk];simp[h k hk]);unfold lg;rw[aj h6,this]
def M5(l:List cJ)(hn:∀ k,k<l.length->(l.getD k default).name.length<=2 ^ 62): aQ aI 178 [b_ l] (I (lg l)):=by
 by_cases h6:6<l.length
 ·have e:lg l=24:=by unfold lg;rw[if_pos h6]
  rw[e];refine aY xM ?_ (by simp[AV.dy,AV.cE,j7]);intro Q aJ aK aL;repeat' first|refine aC ?_|refine aB ?_ ?_<;>intro hw<;>try omega|fail
  exact a_ rfl rfl
 refine aY xM ?_ (by simp[AV.dy,AV.cE,j7]);intro Q aJ aK aL;repeat' first|refine aC ?_|refine aB ?_ ?_<;>intro hw<;>try omega|fail
 with_reducible refine bG [2,3,10,31] (fun q:Nat × List aX=>[(10,I q.1)]) (fun q=>q.2) (fun q=>q.1<=l.length/\ ∀ k,k<q.1->vT l k=0) (fun q=>l.length-q.1) (0,[]) ?_ ?_ ?_ ?_
 ·simp
 ·rfl
 ·exact at_
 rintro⟨i,τ⟩ r ⟨h1,h2⟩;dsimp only at h1 h2;by_cases hi:i<l.length
 ·have c1:=vP _ (hn i hi);have c2:=Oz l (l.getD i default).name ae;have hE:vT l i=if iL (l.getD i default).name=false\/vq l (l.getD i default).name≠i then 13 else if(l.getD i default).kind<1\/3<(l.getD i default).kind then 14 else 0:=rfl
  obtain⟨c,hc⟩:=cq (l.getD i default);rw[hc]at c1 c2 hE;generalize iL c.name=nb at *;generalize vq l c.name=an at *;simp only[b_]at c2;repeat' first|refine cB hc ?_|refine aC ?_|refine aB ?_ ?_<;>intro hw<;>try omega|fail
  all_goals first
   | (refine a_ ?_ rfl
      refine bj I ?_
      symm
      refine ac2 h6 hi h2 ?_ da;rw[hE]
      first
       |(rw[au (by simp_all)];done)
       |(rw[aj (by simp_all),au ae];done))
   | (refine ⟨(i + 1, τ ++ [.cells [.str c.name, I c.kind, .aS false EV (c.order.map cR)]]), ?_, ?_, by first | rfl | (simp [go_sem]; done), c8, at_⟩
      ·exact⟨by dsimp only;omega,cn h2 (by rw[hE,if_neg (by simp_all),if_neg ae])⟩
      ·dsimp only;omega)
 repeat' first|refine aC ?_|refine aB ?_ ?_<;>intro hw<;>try omega|fail
 refine a_ ?_ rfl;rw[aal h6 (fun k hk=>h2 k ae)]
def pR(x:Expr): Bool:=dY x && decide (mH x<=12)
def OB(x:Expr)(hx:jj x)(hz:gM x<=2 ^ 60): aQ aI 208 [bt x] (.bool (pR x)):=by
 have h1:=y5 x hx hz;have h2:=Bc x hz;unfold pR;generalize dY x=b at *;rw[bK]at h1 h2 ⊢;refine aY RF ?_;intro Q aJ aK aL;cases b<;>simp only[ji,if_true,Bool.false_eq_true,if_false]at h1
 ·repeat' first|refine aC ?_|refine aB ?_ ?_<;>intro hw<;>try omega|fail
  all_goals exact a_ rfl rfl
 repeat' first|refine aC ?_|refine aB ?_ ?_<;>intro hw<;>try omega|fail
 all_goals (refine a_ ?_ rfl;simp;omega)
def B8 (fn : FuncId) (cap : List AV) (hcap : AV.cE cap = true) (p : Test -> Bool) (l : List Test) (h : ∀ k, k < l.length -> aQ aI fn (dR (l.getD k default) :: cap) (.bool (p (l.getD k default)))) (hl : l.length <= 2 ^ 62) :
    aQ aI 207 [jt l,.fn (.func fn) [] cap] (I (kP p l)):=by
 refine aY yZ ?_ (by simp[AV.dy,AV.cE,hcap,x8]);intro Q aJ aK aL;repeat' first|refine aC ?_|refine aB ?_ ?_<;>intro hw<;>try omega|fail
 with_reducible refine bG [4,2,8,11] (fun i:Nat=>[(8,I i)]) (fun _=>[]) (fun i=>i<=l.length/\ ∀ k,k<i->p (l.getD k default)=false) (fun i=>l.length-i) (0) ?_ ?_ ?_ ?_
 ·simp
 ·rfl
 ·exact at_
 rintro i r ⟨hi,hp⟩;by_cases hin:i<l.length
 ·have hx:=h i hin;simp only[dR,dU,fZ,mF,ei,eA,jt,br,jL,sR]at hx;repeat' first|refine aC ?_|refine aB ?_ ?_<;>intro hw<;>try omega|fail
  ·refine a_ ?_ rfl;refine bj I ?_;exact(qz hin hp hw).symm
  refine⟨i+1,?_,?_,by first|rfl|(simp[go_sem];done),c8,at_⟩<;>(try dsimp only)
  ·exact⟨ae,cn hp hw⟩
  omega
 repeat' first|refine aC ?_|refine aB ?_ ?_<;>intro hw<;>try omega|fail
 refine a_ ?_ rfl;refine bj I ?_;exact(nu fun k hk=>hp k ae).symm
def y7 (fn : FuncId) (cap : List AV) (hcap : AV.cE cap = true) (p : Test -> Bool) (l : List Test) (h : ∀ k, k < l.length -> aQ aI fn (dR (l.getD k default) :: cap) (.bool (p (l.getD k default)))) (hl : l.length <= 2 ^ 62) :
    aQ aI 161 [jt l,.fn (.func fn) [] cap] (.bool (l.any p)):=by
 refine aY wQ ?_ (by simp[AV.dy,AV.cE,hcap,x8]);intro Q aJ aK aL;have hc:=B8 fn cap hcap p l h hl;simp only[jt]at hc;repeat' first|refine aC ?_|refine aB ?_ ?_<;>intro hw<;>try omega|fail
 all_goals refine a_ ?_ rfl
 all_goals rw[<-vS]
def o8(t:Test): Bool :=
 if t.kind=6 then pR t.a && pR t.b
 else decide (1<=t.kind/\t.kind<=5) && pR t.a && Ae t.b x0 && !t.lo && !t.hi
def Lg(t:Test): Prop:=(jj t.a/\gM t.a<=2 ^ 60)/\jj t.b/\gM t.b<=2 ^ 60
def OC(c:Cell): Prop:=c.tests.length<=2 ^ 60/\ ∀ t ∈ c.tests,Lg t
def jJ(c:Cell): Bool :=
 if c.any then !c.neg && decide (c.tests.length=0)
 else decide (1<=c.tests.length/\c.tests.length<=12) && !(c.tests.any fun t=> !(o8 t))
def aam: gM x0<=2 ^ 60:=by simp[x0,gM,nD]
def ac3: bt x0 = .agg [I 0,I 0,I 0,.str [],.str [],.aS false EX []]:=by simp[x0,v0,bt]
def cell_of(t:Test): aQ aI 210 [dR t] (.agg [.bool t.lo,.bool t.hi]):=by
 refine aY XB ?_;intro Q aJ aK aL;simp only[dR,eA];repeat' first|refine aC ?_|refine aB ?_ ?_<;>intro hw<;>try omega|fail
 all_goals exact a_ rfl rfl
def XV(t:Test)(h:Lg t): aQ aI 163 [dR t] (.bool (o8 t)):=by
 obtain⟨⟨a1,a2⟩,b1,b2⟩:=h;have ha:=OB t.a a1 a2;have hb:=OB t.b b1 b2;have hs:=Uw t.b x0 (aai _ b2) (aai _ aam);have ho:=cell_of t;rw[ac3]at hs;rw[bK]at ha hb hs;simp only[dR,eA]at ho ⊢;have hS:o8 t=if t.kind=6 then pR t.a && pR t.b else decide (1<=t.kind/\t.kind<=5) && pR t.a && Ae t.b x0 && !t.lo && !t.hi:=rfl
 rw[hS];clear hS;generalize pR t.a=pa at *;generalize pR t.b=pb at *;generalize Ae t.b x0=sb at *;refine aY PU ?_;intro Q aJ aK aL;repeat' first|refine aC ?_|refine Ab hs ?_|refine aB ?_ ?_<;>intro hw<;>try omega|fail
 all_goals (refine a_ ?_ rfl;refine bj AV.bool ?_;rw[cQ];simp_all)
 all_goals (try omega)
def Sp(t:Test)(h:Lg t): aQ aI 162 [dR t] (.bool (!(o8 t))):=by
 have h1:=XV t h;simp only[dR,eA]at h1 ⊢;generalize o8 t=b at *;refine aY KO ?_;intro Q aJ aK aL;repeat' first|refine aC ?_|refine aB ?_ ?_<;>intro hw<;>try omega|fail
 all_goals exact a_ rfl rfl
def ya(c:Cell)(h:OC c): aQ aI 119 [ei c] (I (ji (jJ c))):=by
 have hc:=y7 162 [] rfl (fun t=> !(o8 t)) c.tests (fun k hk=>Sp _ (h.2 _ (bx hk))) (by have:=h.1;omega);have hl:=h.1;simp only[jt,ei]at hc ⊢;have hS:jJ c=if c.any then !c.neg && decide (c.tests.length=0)else decide (1<=c.tests.length/\c.tests.length<=12) && !(c.tests.any fun t=> !(o8 t)):=rfl
 rw[hS];clear hS;generalize c.tests.any (fun t=> !(o8 t))=an at *;refine aY PS ?_;intro Q aJ aK aL;repeat' first|refine aC ?_|refine aB ?_ ?_<;>intro hw<;>try omega|fail
 all_goals (refine a_ ?_ rfl;refine bj I ?_;simp_all[ji,<-List.length_eq_zero_iff])
 all_goals (try omega)
 all_goals (intro h0;exfalso;omega)
def mI(k:Int): aT:=if k=2 then [60]else if k=3 then [60,61]else if k=4 then [62]else if k=5 then [62,61]else []
def OD(k:Int): aQ aI 165 [I k] (.str (mI k)):=by
 refine aY RG ?_;intro Q aJ aK aL;repeat' first|refine aC ?_|refine aB ?_ ?_<;>intro hw<;>try omega|fail
 all_goals (refine a_ ?_ rfl;simp_all[mI])
def wo(T:List Tok)(p:Nat): aT:=if(T.getD p default).kind=4 then(T.getD p default).s else []
def Dl(T:List Tok)(p:Nat)(b:Bool)(s:aT)(hs:s≠[]): jo T p b 4 s=(!b && decide (wo T p=s)):=by
 unfold jo qc wo;by_cases hp:p<T.length
 ·generalize T.getD p default=t;by_cases h4:t.kind=4
  ·simp[hp,h4]
  simp[hp,h4,Ne.symm hs]
 rw[rz ae];simp[hp,XO,Ne.symm hs]
def FP(T:List Tok)(p:Nat)(b:Bool): dZ aI 220 0 [] (eM T p b) (eM T p b) (.str (wo T p)):=by
 by_cases hp:p<T.length
 ·refine dZ.iK (vi.go ?_) rfl (cu _ _ _);unfold dO;intro Q aJ aK aL;repeat' first|refine aC ?_|refine aB ?_ ?_<;>intro hw<;>try omega|fail
  all_goals (refine ia (View.eqv ?_ rfl) (cN.refl (cu T p b));simp_all[wo])
 have:wo T p=[]:=by unfold wo;rw[rz ae];simp[XO]
 rw[this];refine dZ.iK (vi.go ?_) rfl (cu _ _ _);unfold dO;intro Q aJ aK aL;repeat' first|refine aC ?_|refine aB ?_ ?_<;>intro hw<;>try omega|fail
 all_goals exact ia (View.eqv rfl rfl) (cN.refl (cu T p b))
def VW(T:List Tok)(p:Nat)(b:Bool)(s:aT)(hs:s≠[])(hp:p<=2 ^ 61): dZ aI 254 0 [.str s] (eM T p b) (eM T (vp T p b 4 s) b) (.bool (jo T p b 4 s)):=by
 have hn:=FP T p b;unfold vp;rw[Dl T p b s hs];generalize wo T p=t at hn ⊢;simp only[eM]at hn;refine dZ.iK (Hw.go ?_) rfl (cu _ _ _);unfold dO;intro Q aJ aK aL;repeat' first|refine aC ?_|refine dX hn ?_|refine aB ?_ ?_<;>intro hw<;>try omega|fail
 all_goals first
  |(refine ia (View.eqv ?_ rfl) (cN.eqv ?_ (cu _ _ _))<;>simp_all[eM];done)
def FQ(T:List Tok)(p:Nat)(b:Bool)(s:aT)(hs:s≠[])(hp:p<=2 ^ 61): dZ aI 255 0 [.str s] (eM T p b) (eM T (vp T p b 4 s) (b || !(jo T p b 4 s))) (.bR []):=by
 have hn:=VW T p b s hs hp;generalize jo T p b 4 s=o at hn ⊢;simp only[eM]at hn;refine dZ.iK (Er.go ?_) rfl (cu _ _ _);unfold dO;intro Q aJ aK aL;cases o
 ·repeat' first|refine aC ?_|refine dX hn ?_|refine aB ?_ ?_<;>intro hw<;>try omega|fail
  refine KN rfl (cN.eqv ?_ (cu _ _ _));simp[eM]
 repeat' first|refine aC ?_|refine dX hn ?_|refine aB ?_ ?_<;>intro hw<;>try omega|fail
 refine KN rfl (cN.eqv ?_ (cu _ _ _));simp[eM]
def rdX(T:List Tok)(l q:Nat): RS:=⟨(jq T q l).1,(jq T q l).2.1.toNat,decide ((jq T q l).2.2≠0)⟩
def jY(T:List Tok)(p:Nat)(b:Bool): RS:=sV (rdX T) 4 p b
def XW(T:List Tok)(p:Nat): jY T p true=⟨x0,p,true⟩:=rfl
def UC(T:List Tok)(p:Nat): jY T p false=rdX T 4 p:=rfl
def ac4(T:List Tok){q:Nat}(hq:q<=T.length): kH T.length q (rdX T 4 q):=by
 have hg:¬ ((q:Int)<0\/(T.length:Int)<q\/((4:Nat):Int)<0\/7<((4:Nat):Int)):=ae;have g:=(uf T (8*T.length+9) none 4 q hq).1 rfl;unfold rdX jq;rw[aj hg,Int.toNat_natCast,Int.toNat_natCast];split
 ·exact⟨by simpa using g.1,by simpa using g.2.1,fun h=>by simp at h⟩
 rename_i h;exact⟨by simpa using g.1,by simpa using g.2.1,fun _=>by have:=g.2.2 (by simpa using h);simpa using this⟩
def Ai(T:List Tok){q:Nat}{b:Bool}(hq:q<=T.length): kH T.length q (jY T q b):=by
 cases b with
 | true=>exact⟨Nat.le_refl _,hq,fun h=>by cases h⟩
 | false=>exact ac4 T hq
def Aj(T:List Tok)(p:Nat)(b:Bool)(hT:T.length<=2 ^ 50)(hs:∀ q,(T.getD q default).s.length<=2 ^ 62): dZ aI 274 0 [] (eM T p b) (eM T (jY T p b).p (jY T p b).bad) (bt (jY T p b).x):=by
 cases b with
 | true =>
   rw[XW];generalize hE:bt _=E;refine dZ.iK (vo.go ?_) rfl (cu _ _ _);unfold dO;intro Q aJ aK aL;repeat' first|refine aC ?_|refine aB ?_ ?_<;>intro hw<;>try omega|fail
   exact ia (by rw[<-hE];exact r7 (.aU _)) (cN.refl (cu T p true))
 | false =>
   rw[UC];have cr:=H7 T p 4 hT hs;have hp0:=(VQ T p 4).1;simp only[rdX];have e4:((4:Nat):Int)=4:=rfl;rw[e4];generalize jq T p 4=r at *;obtain⟨rx,rn,re⟩:=r;dsimp only at *;obtain⟨n,rfl⟩:∃ n:Nat,rn=n:=⟨rn.toNat,ae⟩;have e2:∀ σ : ai,View σ (.agg [I rx.op,I rx.v.kind,I rx.v.n,.str rx.v.s,.str rx.s,.aS false EX (rx.l.map bt)]) (bt rx):=fun σ=>View.eqv (bK _).symm (iF _);simp only[Oy,wk]at cr;rw[bK]at cr;generalize bt rx=E at *;rw[Int.toNat_natCast];refine dZ.iK (vo.go ?_) rfl (cu _ _ _);unfold dO;intro Q aJ aK aL;repeat' first|refine aC ?_|refine aB ?_ ?_<;>intro hw<;>try omega|fail
   all_goals (refine ia (e2 _) (cN.eqv ?_ (cu _ _ _));simp[eM];rw[cQ];simp)
structure TS where
 t:Test
 p:Nat
 bad:Bool
deriving Inhabited
def tP(k:Int)(r:RS): TS:=⟨⟨k,r.x,x0,false,false⟩,r.p,r.bad⟩
def xB(T:List Tok)(p:Nat): RS:=jY T (p+1) false
def xC(T:List Tok)(p:Nat): RS:=lT T (xB T p) 4 [46,46]
def mZ(T:List Tok)(p:Nat): RS:=jY T (xC T p).p (xC T p).bad
def inH(T:List Tok)(p:Nat): Bool:=jo T (mZ T p).p (mZ T p).bad 4 [91]
def Bf(T:List Tok)(p:Nat): RS:=if inH T p then⟨x0,(mZ T p).p+1,(mZ T p).bad⟩else lT T (mZ T p) 4 [93]
def OE(T:List Tok)(p:Nat)(lo:Bool): TS:=⟨⟨6,(xB T p).x,(mZ T p).x,lo,inH T p⟩,(Bf T p).p,(Bf T p).bad⟩
def iu(T:List Tok)(p:Nat)(b:Bool): TS :=
 if jo T p b 4 [60]then tP 2 (jY T (p+1) b)
 else if jo T p b 4 [60,61]then tP 3 (jY T (p+1) b)
 else if jo T p b 4 [62]then tP 4 (jY T (p+1) b)
 else if jo T p b 4 [62,61]then tP 5 (jY T (p+1) b)
 else if jo T p b 4 [91]then OE T p false
 else if jo T p b 4 [93]then OE T p true
 else tP 1 (jY T p b)
def ac5{k:Int}(h:2<=k)(h':k<=5): mI k≠[]:=by
 rcases(by omega:k=2\/k=3\/k=4\/k=5)with rfl|rfl|rfl|rfl<;>decide
def XX{T:List Tok}{p:Nat}{b:Bool}{k:Int}(h:2<=k)(h':k<=5)(hb:∀ j:Int,2<=j->j<k->jo T p b 4 (mI j)=false)(ho:jo T p b 4 (mI k)=true): iu T p b=tP k (jY T (p+1) b):=by
 have e2:mI 2=[60]:=rfl;have e3:mI 3=[60,61]:=rfl;have e4:mI 4=[62]:=rfl;have e5:mI 5=[62,61]:=rfl;unfold iu;rcases(by omega:k=2\/k=3\/k=4\/k=5)with rfl|rfl|rfl|rfl
 ·rw[e2]at ho;rw[au ho]
 ·have h2:=hb 2 ae ae;rw[e2]at h2;rw[e3]at ho;rw[aj (by simp[h2]),au ho]
 ·have h2:=hb 2 ae ae;have h3:=hb 3 ae ae;rw[e2]at h2;rw[e3]at h3;rw[e4]at ho;rw[aj (by simp[h2]),aj (by simp[h3]),au ho]
 have h2:=hb 2 ae ae;have h3:=hb 3 ae ae;have h4:=hb 4 ae ae;rw[e2]at h2;rw[e3]at h3;rw[e4]at h4;rw[e5]at ho;rw[aj (by simp[h2]),aj (by simp[h3]),aj (by simp[h4]),au ho]
def XY{T:List Tok}{p:Nat}{b:Bool}(hb:∀ j:Int,2<=j->j<6->jo T p b 4 (mI j)=false): iu T p b=if jo T p b 4 [91]then OE T p false else if jo T p b 4 [93]then OE T p true else tP 1 (jY T p b):=by
 have h2:jo T p b 4 [60]=false:=hb 2 ae ae;have h3:jo T p b 4 [60,61]=false:=hb 3 ae ae;have h4:jo T p b 4 [62]=false:=hb 4 ae ae;have h5:jo T p b 4 [62,61]=false:=hb 5 ae ae;unfold iu;rw[aj (by simp[h2]),aj (by simp[h3]),aj (by simp[h4]),aj (by simp[h5])]
def aan{T:List Tok}{p:Nat}{r:RS}(k:Int)(h:kH T.length p r): p<=(tP k r).p/\(tP k r).p<=T.length:=⟨h.1,h.2.1⟩
def M6{T:List Tok}{p:Nat}(hp:p<T.length): (xB T p).p<=T.length/\(xC T p).p<=T.length/\(mZ T p).p<=T.length/\(Bf T p).p<=T.length/\p<=(Bf T p).p:=by
 have g1:kH T.length (p+1) (xB T p):=Ai T hp;have g2:kH T.length (p+1) (xC T p):=wT _ _ g1;have g3:kH T.length (xC T p).p (mZ T p):=Ai T g2.2.1
 have g4:(Bf T p).p<=T.length/\(mZ T p).p<=(Bf T p).p:=by
  unfold Bf;split
  ·rename_i h;exact⟨(oZ h).1,Nat.le_succ _⟩
  have:=wT 4 [93] g3;refine⟨this.2.1,?_⟩;simp only[lT,vp];split<;>omega
 have:=g1.1;have:=g2.1;have:=g3.1;have m2:(xB T p).p<=(xC T p).p:=by simp only[xC,lT,vp];split<;>omega
 exact⟨g1.2.1,g2.2.1,g3.2.1,g4.1,ae⟩
def OF{T:List Tok}{p:Nat}{b:Bool}(hp:p<=T.length): p<=(iu T p b).p/\(iu T p b).p<=T.length:=by
 have st:∀ k s,jo T p b 4 s=true->p<=(tP k (jY T (p+1) b)).p/\(tP k (jY T (p+1) b)).p<=T.length:=fun k s h=>by
  have:=Ai T (q:=p+1) (b:=b) (oZ h).1;exact⟨Nat.le_of_succ_le this.1,this.2.1⟩
 unfold iu;split
 ·rename_i h;exact st _ _ h
 split
 ·rename_i h;exact st _ _ h
 split
 ·rename_i h;exact st _ _ h
 split
 ·rename_i h;exact st _ _ h
 split
 ·rename_i h;have:=M6 (oZ h).1;exact⟨this.2.2.2.2,this.2.2.2.1⟩
 split
 ·rename_i h;have:=M6 (oZ h).1;exact⟨this.2.2.2.2,this.2.2.2.1⟩
 exact aan 1 (Ai T hp)
def uI(T:List Tok)(p:Nat)(b:Bool)(s:aT)(o:Bool)(hs:s≠[])(hp:p<=2 ^ 61)(h:jo T p b 4 s=o): dZ aI 254 0 [.str s] (eM T p b) (eM T (if o then p+1 else p) b) (.bool o):=by
 have:=VW T p b s hs hp;unfold vp at this;rw[h]at this;exact this
def aao{σ : ai}{k:Int}{r:Expr}: View σ (.agg [I k,I r.op,I r.v.kind,I r.v.n,.str r.v.s,.str r.s,.aS false EX (r.l.map bt),I 0,I 0,I 0,.str [],.str [],.aU,.bool false,.bool false]) (dR ⟨k,r,x0,false,false⟩):=by
 simp only[dR,eA];refine View.nO (.cons (.refl _ rfl) (.cons (.refl _ rfl) (.cons (.refl _ rfl) (.cons (.refl _ rfl) (.cons (.refl _ rfl) (.cons (.refl _ rfl) (.cons (.refl _ ?_) (.cons (.refl _ rfl) (.cons (.refl _ rfl) (.cons (.refl _ rfl) (.cons (.refl _ rfl) (.cons (.refl _ rfl) (.cons (.aU _) (.cons (.refl _ rfl) (.cons (.refl _ rfl) (.nil _))))))))))))))));simp
def aap (T : List Tok) (p : Nat) (b : Bool) (hp : p <= T.length) (hT : T.length <= 2 ^ 50) (hs : ∀ q, (T.getD q default).s.length <= 2 ^ 62) :
    dZ aI 253 0 [] (eM T p b) (eM T (iu T p b).p (iu T p b).bad) (dR (iu T p b).t):=by
 generalize hR:iu T p b=R;generalize hE:dR R.t=E;refine dZ.iK (Es.go ?_) rfl (cu _ _ _);unfold dO;intro Q aJ aK aL;repeat' first|refine aC ?_|refine aB ?_ ?_<;>intro hw<;>try omega|fail
 with_reducible refine bG [3,1,5,12] (fun k:Int=>[(3,I k)]) (fun _=>[.cells [.aS false ET (T.map tN),I p,.bool b],.cells [I 0,I 0,I 0,I 0,.str [],.str [],.aU,I 0,I 0,I 0,.str [],.str [],.aU,.bool false,.bool false]]) (fun k=>2<=k/\k<=6/\ ∀ j:Int,2<=j->j<k->jo T p b 4 (mI j)=false) (fun k=>(6-k).toNat) (2) ?_ ?_ ?_ ?_
 ·exact⟨ae,ae,fun j h1 h2=>by omega⟩
 ·rfl
 ·exact at_
 rintro k r ⟨h1,h2,h3⟩;by_cases hk:k<=5
 ·have wU:=OD k;obtain⟨o,ho⟩:=cq (jo T p b 4 (mI k));have tZ:=uI T p b (mI k) o (ac5 h1 hk) ae ho;cases o with
  | false =>
    simp only[eM,aP,if_false]at tZ;repeat' first|refine aC ?_|refine dX tZ ?_|refine aB ?_ ?_<;>intro hw<;>try omega|fail
    refine⟨k+1,?_,?_,by first|rfl|(simp[go_sem];done),c8,at_⟩<;>(try dsimp only)
    ·refine⟨ae,ae,fun j NX hj2=>?_⟩;by_cases Fc:j=k
     ·subst Fc;exact ho
     exact h3 j NX ae
    omega
  | true =>
    have qK:=oZ ho;have hce:=Aj T (p+1) b hT hs;rw[XX h1 hk h3 ho]at hR;subst hR;simp only[tP]at hE aJ aK aL;generalize jY T (p+1) b=x at *;rw[bK]at hce;simp only[eM,if_true,bC,bn]at tZ hce;repeat' first|simp (disch:=omega) only[go_sem,aJ,aK,aL,bC,bn]|refine aC ?_|refine dX tZ ?_|refine dX hce ?_|refine aB ?_ ?_<;>intro hw<;>try omega|fail
    exact ia (by rw[<-hE];exact aao) (cN.refl (cu _ _ _))
 obtain rfl:k=6:=ae;rw[XY (fun j NX hj2=>h3 j NX hj2)]at hR;have hmk:=FP T p b;obtain⟨o1,VP⟩:∃ o,jo T p b 4 [91]=o:=⟨_,rfl⟩;obtain⟨o2,Ov⟩:∃ o,jo T p b 4 [93]=o:=⟨_,rfl⟩;have FR:=uI T p b [91] o1 da ae VP;have Sq:=uI T p b [93] o2 da ae Ov;have hmo:=Dl T p b [93] da;rw[VP,Ov]at hR;rw[Ov]at hmo;have HT:=Dl T p b [91] da;rw[VP]at HT;generalize VX:wo T p=mt at *;by_cases hin:o1=true\/o2=true
 ·have qK : p < T.length /\ b = false := by
   rcases hin with h|h
   ·exact oZ (VP.trans h)
   exact oZ (Ov.trans h)
  obtain⟨qK,rfl⟩:=qK
  have D4:R=OE T p (decide (mt=[93])):=by
   rw[<-hR];simp only[iH,gH]at hmo HT;cases o1 with
   | true =>
     have:mt=[91]:=by simpa using HT.symm
     rw[au rfl,this];rfl
   | false =>
     rcases hin with h|h
     ·cases h
     subst h;have:mt=[93]:=by simpa using hmo.symm
     rw[aj aR,au rfl,this];rfl
  clear hR;subst D4;obtain⟨g1,g2,g3,g4,_⟩:=M6 (T:=T) qK;have c1:=Aj T (p+1) false hT hs;have c2:=FQ T (xB T p).p (xB T p).bad [46,46] da ae;have c3:=Aj T (xC T p).p (xC T p).bad hT hs;obtain⟨o3,ho3⟩:∃ o,inH T p=o:=⟨_,rfl⟩;have c4:=uI T (mZ T p).p (mZ T p).bad [91] o3 da ae ho3;have c5:=FQ T (mZ T p).p (mZ T p).bad [93] da ae
  change dZ _ _ _ _ _ (eM T (xB T p).p (xB T p).bad) (bt (xB T p).x)at c1
  change dZ _ _ _ _ _ (eM T (xC T p).p (xC T p).bad) _ at c2
  change dZ _ _ _ _ _ (eM T (mZ T p).p (mZ T p).bad) (bt (mZ T p).x)at c3
  change dZ _ _ _ _ _ (eM T (lT T (mZ T p) 4 [93]).p (lT T (mZ T p) 4 [93]).bad) _ at c5
  have hr4:Bf T p=if o3 then⟨x0,(mZ T p).p+1,(mZ T p).bad⟩else lT T (mZ T p) 4 [93]:=by rw[<-ho3];rfl
  have ahQ:OE T p (decide (mt=[93]))=⟨⟨6,(xB T p).x,(mZ T p).x,decide (mt=[93]),o3⟩,(Bf T p).p,(Bf T p).bad⟩:=by rw[<-ho3];rfl
  rw[ahQ]at hE aJ aK aL;rw[hr4]at aJ aK aL;clear hr4 ahQ ho3 VP Ov g1 g2 g4;generalize lT T (mZ T p) 4 [93]=r5 at *;generalize xB T p=r1 at *;generalize xC T p=r2 at *;generalize mZ T p=r3 at *;rw[bK]at c1 c3;simp only[dR,eA]at hE;simp only[eM]at hmk
  have fin:∀ σ : ai,View σ (.agg [I 6,I r1.x.op,I r1.x.v.kind,I r1.x.v.n,.str r1.x.v.s,.str r1.x.s,.aS false EX (r1.x.l.map bt),I r3.x.op,I r3.x.v.kind,I r3.x.v.n,.str r3.x.v.s,.str r3.x.s,.aS false EX (r3.x.l.map bt),.bool (mt==[93]),.bool o3]) E:=fun σ=>by
   rw[<-hE,show decide (mt=[93])=(mt==[93]) from by rw[cQ];simp];exact View.eqv rfl aR
  clear hE;have hne:mt==[93]↔mt=[93]:=aR;cases o1 with
  | true =>
    simp only[eM,if_true,bC,bn]at FR c1 c2 c3 c4 c5;cases o3 with
    | true =>
      simp only[if_true]at c4 fin aJ aK aL;repeat' first|simp (disch:=omega) only[go_sem,aJ,aK,aL,bC,bn]|refine aC ?_|refine dX hmk ?_|refine dX FR ?_|refine dX c1 ?_|refine dX c2 ?_|refine dX c3 ?_|refine dX c4 ?_|refine aB ?_ ?_<;>intro hw<;>try omega|fail
      exact ia (fin _) (cN.eqv (by simp[eM]) (cu _ _ _))
    | false =>
      simp only[aP,if_false]at c4 fin aJ aK aL;repeat' first|simp (disch:=omega) only[go_sem,aJ,aK,aL,bC,bn]|refine aC ?_|refine dX hmk ?_|refine dX FR ?_|refine dX c1 ?_|refine dX c2 ?_|refine dX c3 ?_|refine dX c4 ?_|refine dX c5 ?_|refine aB ?_ ?_<;>intro hw<;>try omega|fail
      exact ia (fin _) (cN.eqv (by simp[eM]) (cu _ _ _))
  | false =>
    have al3:o2=true:=by rcases hin with h|h<;>first|(cases h;done)|exact h
    subst al3;simp only[eM,if_true,aP,if_false,bC,bn]at FR Sq c1 c2 c3 c4 c5;cases o3 with
    | true =>
      simp only[if_true]at c4 fin aJ aK aL;repeat' first|simp (disch:=omega) only[go_sem,aJ,aK,aL,bC,bn]|refine aC ?_|refine dX hmk ?_|refine dX FR ?_|refine dX Sq ?_|refine dX c1 ?_|refine dX c2 ?_|refine dX c3 ?_|refine dX c4 ?_|refine aB ?_ ?_<;>intro hw<;>try omega|fail
      exact ia (fin _) (cN.eqv (by simp[eM]) (cu _ _ _))
    | false =>
      simp only[aP,if_false]at c4 fin aJ aK aL;repeat' first|simp (disch:=omega) only[go_sem,aJ,aK,aL,bC,bn]|refine aC ?_|refine dX hmk ?_|refine dX FR ?_|refine dX Sq ?_|refine dX c1 ?_|refine dX c2 ?_|refine dX c3 ?_|refine dX c4 ?_|refine dX c5 ?_|refine aB ?_ ?_<;>intro hw<;>try omega|fail
      exact ia (fin _) (cN.eqv (by simp[eM]) (cu _ _ _))
 obtain⟨rfl,rfl⟩:o1=false/\o2=false:=⟨by cases o1 with|false=>rfl|true=>exact absurd (.inl rfl) hin,by cases o2 with|false=>rfl|true=>exact absurd (.inr rfl) hin⟩;simp only[aP,if_false]at hR;subst hR;have c1:=Aj T p b hT hs;simp only[tP]at hE aJ aK aL;generalize jY T p b=x at *;rw[bK]at c1;simp only[eM,aP,if_false]at FR Sq c1 hmk;repeat' first|refine aC ?_|refine dX hmk ?_|refine dX FR ?_|refine dX Sq ?_|refine dX c1 ?_|refine aB ?_ ?_<;>intro hw<;>try omega|fail
 exact ia (by rw[<-hE];exact aao) (cN.refl (cu _ _ _))
def ahR: aT:=[110,111,116]
def sF(T:List Tok): Bool:=decide (1<T.length) && (qc T 0 1 ahR && qc T 1 4 [40])
def ac6(T:List Tok): aQ aI 252 [wk T] (.bool (sF T)):=by
 refine aY Ug ?_;intro Q aJ aK aL;repeat' first|refine aC ?_|refine aB ?_ ?_<;>intro hw<;>try omega|fail
 all_goals (refine a_ ?_ rfl;refine bj AV.bool ?_;rw[cQ];simp_all[sF,qc,ahR])
 all_goals (try omega)
 all_goals (exact⟨fun h=>⟨ae,ae,ae,h⟩,fun h=>h.2.2.2⟩)
structure CS where
 ts:List Test
 p:Nat
 bad:Bool
deriving Inhabited
def sW(T:List Tok): Nat->List Test->Nat->Bool->CS
 | 0,acc,p,b=>⟨acc,p,b⟩
 | f+1,acc,p,b=>if jo T (iu T p b).p (iu T p b).bad 4 [44]then sW T f (acc++[(iu T p b).t]) ((iu T p b).p+1) (iu T p b).bad else⟨acc++[(iu T p b).t],(iu T p b).p,(iu T p b).bad⟩
def wq(T:List Tok)(f:Nat)(acc:List Test)(p:Nat)(b:Bool): sW T (f+1) acc p b=if jo T (iu T p b).p (iu T p b).bad 4 [44]then sW T f (acc++[(iu T p b).t]) ((iu T p b).p+1) (iu T p b).bad else⟨acc++[(iu T p b).t],(iu T p b).p,(iu T p b).bad⟩:=rfl
def XZ{T:List Tok}(f:Nat): ∀(acc:List Test) (p:Nat) (b:Bool),p<=T.length->(sW T f acc p b).p<=T.length:=by
 induction f with
 | zero=>intro acc p b hp;exact hp
 | succ f ih =>
   intro acc p b hp;rw[wq];split
   ·rename_i h;exact ih _ _ _ (oZ h).1
   exact(OF hp).2
def Jw(T:List Tok)(n:Bool)(c:CS): CS:=if n then⟨c.ts,vp T c.p c.bad 4 [41],c.bad || !(jo T c.p c.bad 4 [41])⟩else c
def VY(T:List Tok): Nat:=if sF T then 2 else 0
def kV(T:List Tok): CS:=Jw T (sF T) (sW T (T.length+1) [] (VY T) false)
def aaq(T:List Tok): VY T<=T.length:=by
 unfold VY;split
 ·rename_i h;simp only[sF,aD,aM]at h;omega
 exact ew _
def stC(T:List Tok)(n:Bool)(p:Nat)(b:Bool): List Test->ai
 | []=>[.cells (eM T p b),.cells [.bool false,.bool false,.aU],.cells [.bool false,.bool n,.aU]]
 | t::acc=>[.cells (eM T p b),.cells [.bool false,.bool false,.aU],.cells [.bool false,.bool n,.own ES 3 (acc.length+1) 0 (acc.length+1)],.vec ES (dR t::acc.map dR)]
structure Lc where
 acc:List Test
 p:Nat
 b:Bool
 f:Nat
def VZ(T:List Tok)(n:Bool)(p:Nat)(b:Bool): stC T n p b []=[.cells [.aS false ET (T.map tN),I p,.bool b],.cells [.bool false,.bool false,.aU],.cells [.bool false,.bool n,.aU]]:=rfl
def Sr(T:List Tok)(n:Bool)(p:Nat)(b:Bool)(t:Test)(acc:List Test): stC T n p b (t::acc)=[.cells [.aS false ET (T.map tN),I p,.bool b],.cells [.bool false,.bool false,.aU],.cells [.bool false,.bool n,.own ES 3 (acc.length+1) 0 (acc.length+1)],.vec ES (dR t::acc.map dR)]:=rfl
def ac7(T:List Tok)(n:Bool)(p:Nat)(b:Bool)(acc:List Test)(t:Test): stC T n p b (acc++[t])=[.cells (eM T p b),.cells [.bool false,.bool false,.aU],.cells [.bool false,.bool n,.own ES 3 (acc.length+1) 0 (acc.length+1)],.vec ES (acc.map dR++[dR t])]:=by
 cases acc with
 | nil=>rfl
 | cons x acc=>simp[stC]
def aar{σ : ai}{n:Bool}{ts:List Test}{k:Nat}(hk:k=ts.length)(h : σ[3]? = some (.vec ES (ts.map dR))): View σ (.agg [.bool false,.bool n,.own ES 3 k 0 k]) (ei ⟨false,n,ts⟩):=by
 subst hk;exact View.nO (.cons (.refl _ rfl) (.cons (.refl _ rfl) (.cons (View.vec h aR aR (Om _)) (.nil _))))
def aas (T : List Tok) (hT : T.length <= 2 ^ 30) (hs : ∀ q, (T.getD q default).s.length <= 2 ^ 62) :
    dZ aI 221 0 [] (eM T 0 false) (eM T (kV T).p (kV T).bad) (ei ⟨false,sF T,(kV T).ts⟩):=by
 have hn:=ac6 T;have hp0:=aaq T;have e0:VY T=if sF T then 2 else 0:=rfl
 generalize hR:kV T=R;unfold kV at hR;generalize sF T=n at *;generalize hE:ei _=E;simp only[wk]at hn
 have fin:∀ (σ : ai) (k:Nat) (ts:List Test),R.ts=ts->k=ts.length->σ[3]? = some (.vec ES (ts.map dR))->View σ (.agg [.bool false,.bool n,.own ES 3 k 0 k]) E:=fun σ k ts h1 h2 h3=>by
  rw[<-hE,h1];exact aar h2 h3
 clear hE;refine dZ.iK (Ep.go ?_) rfl (cu _ _ _);unfold dO;intro Q aJ aK aL;cases n
 all_goals
  simp only[aP,if_false,if_true]at e0;rw[e0]at hR hp0;repeat' first|refine aC ?_|refine aB ?_ ?_<;>intro hw<;>try omega|fail
  with_reducible refine bG [17,10] (fun x:Lc=>([]:List (Nat × AV))) (fun x=>stC T _ x.p x.b x.acc) (fun x=>x.p<=T.length/\x.acc.length+x.f=T.length+1/\T.length+1<=x.f+x.p/\Jw T _ (sW T x.f x.acc x.p x.b)=R) (fun x=>x.f) ⟨[],_,false,T.length+1⟩ ⟨?_,?_,?_,hR⟩ rfl ?_ ?_
  ·dsimp only;omega
  ·dsimp only;simp
  ·dsimp only;omega
  ·exact at_
  rintro⟨acc,p,b,f⟩ r ⟨h1,h2,h3,h4⟩;dsimp only at h1 h2 h3 h4;obtain⟨f,rfl⟩:∃ g,f=g+1:=⟨f-1,ae⟩;rw[wq]at h4;have ct:=aap T p b h1 ae hs;have gt:=OF (T:=T) (b:=b) h1;generalize iu T p b=x at *;obtain⟨xt,xp,xb⟩:=x;dsimp only at ct gt h4;obtain⟨o,ho⟩:=cq (jo T xp xb 4 [44]);have V5:=uI T xp xb [44] o da ae ho;have mR:=fun n' p' b'=>ac7 T n' p' b' acc xt;simp only[dR,eA]at ct;rw[ho]at h4;cases o with
  | true =>
    have hlt:=(oZ ho).1;rw[au rfl]at h4;simp only[eM,if_true,bC,bn]at ct V5;cases acc with
    | nil =>
      simp only[bu]at h2;rw[VZ T _ p b];repeat' first|simp (disch:=omega) only[go_sem,aJ,aK,aL,bC,bn]|refine aC ?_|refine dX ct ?_|refine dX V5 ?_|refine aB ?_ ?_<;>intro hw<;>try omega|fail
      refine⟨⟨[xt],xp+1,xb,f⟩,?_,?_,?_,c8,at_⟩<;>(try dsimp only)
      ·exact⟨ae,by simp only[aO,bu];omega,ae,h4⟩
      ·omega
      rfl
    | cons t0 acc =>
      simp only[aO]at h2;rw[Sr T _ p b];repeat' first|simp (disch:=omega) only[go_sem,aJ,aK,aL,bC,bn]|refine aC ?_|refine dX ct ?_|refine dX V5 ?_|refine aB ?_ ?_<;>intro hw<;>try omega|fail
      refine⟨⟨t0::acc++[xt],xp+1,xb,f⟩,?_,?_,?_,c8,at_⟩<;>(try dsimp only)
      ·exact⟨ae,by simp only[aO,aA,bu];omega,ae,h4⟩
      ·omega
      rw[mR];simp[eM,dR,eA]
  | false =>
    rw[aj aR]at h4;simp only[eM,aP,if_false]at ct V5;have cm:=FQ T xp xb [41] da ae;simp only[Jw,aP,if_false,if_true]at h4;subst h4;dsimp only at fin aJ aK aL cm;generalize vp T xp xb 4 [41]=p9 at *;generalize (xb || !(jo T xp xb 4 [41]))=b9 at *;simp only[eM]at cm;cases acc with
    | nil =>
      simp only[bu]at h2;rw[VZ T _ p b];repeat' first|refine aC ?_|refine dX ct ?_|refine dX V5 ?_|refine dX cm ?_|refine aB ?_ ?_<;>intro hw<;>try omega|fail
      exact ia (fin _ _ _ rfl rfl rfl) (cN.eqv rfl (cu _ _ _))
    | cons t0 acc =>
      simp only[aO]at h2;rw[Sr T _ p b];repeat' first|refine aC ?_|refine dX ct ?_|refine dX V5 ?_|refine dX cm ?_|refine aB ?_ ?_<;>intro hw<;>try omega|fail
      exact ia (fin _ _ _ rfl aR (by simp[dR,eA])) (cN.eqv rfl (cu _ _ _))
def Bg(T:List Tok): Prop:= ∀ q,(T.getD q default).s.length<=2 ^ 62/\ -9223372036854775808<=(T.getD q default).n/\(T.getD q default).n<=9223372036854775807
def sX: jj x0:=by simp[x0,jj,H6,v0]
def Lh{op:Int}{l:List Expr}(h:H6 l): jj (.mk op v0 [] l):=by simp[jj,v0,h]
def aat{rd:Nat->Nat->RS}{l q:Nat}{b:Bool}(h:∀ l q,jj (rd l q).x): jj (sV rd l q b).x:=by
 unfold sV;split
 ·exact sX
 exact h _ _
def ac8{s:aT}{v:aW}(h:Af s=some v): v.s=[]/\0<=v.n/\v.n<=1:=by
 unfold Af at h;split at h
 ·cases h;exact⟨rfl,da,da⟩
 split at h
 ·cases h;exact⟨rfl,da,da⟩
 split at h
 ·cases h;exact⟨rfl,da,da⟩
 ·cases h
def afP{T:List Tok}(hT:Bg T){rd:Nat->Nat->RS}(h:∀ l q,jj (rd l q).x)(p:Nat): jj (pQ rd T p).x:=by
 have hp:=hT p;unfold pQ;split
 ·exact h 0 (p+1)
 split
 ·simp[Be,jj,H6];exact hp.2
 split
 ·simp[Be,jj,H6];exact hp.1
 split
 ·split
  ·rename_i v hv;have:=ac8 hv;simp[Be,jj,H6,this.1];omega
  split
  ·simp[jj,H6,v0];exact hp.1
  exact sX
 exact sX
def ajN{T:List Tok}(hT:Bg T)(f:Nat): ∀(m:Option Expr) (lvl p:Nat),(∀ x,m=some x->jj x)->jj (dJ T f m lvl p).x:=by
 induction f with
 | zero=>intro m lvl p _;exact sX
 | succ f ih =>
   intro m lvl p hm;have h:∀ l q,jj (dJ T f none l q).x:=fun l q=>ih none l q (fun x hx=>by cases hx);cases m with
   | none =>
     simp only[dJ];split
     ·split
      ·exact Lh ⟨h _ _,aat (rd:=fun l q=>dJ T f none l q) h,aat (rd:=fun l q=>dJ T f none l q) h,trivial⟩
      exact h _ _
     split
     ·exact Lh ⟨h _ _,trivial⟩
     split
     ·exact afP hT h p
     split
     ·exact h _ _
     exact ih _ _ _ (fun x hx=>by cases hx;exact h _ _)
   | some x =>
     simp only[dJ];split
     ·exact hm x rfl
     split
     ·exact Lh ⟨hm x rfl,h _ _,trivial⟩
     exact ih _ _ _ (fun y hy=>by cases hy;exact Lh ⟨hm x rfl,h _ _,trivial⟩)
def Ss{T:List Tok}(hT:Bg T)(fr lvl:Int): jj (jq T fr lvl).1:=by
 unfold jq;split
 ·exact sX
 split
 ·exact sX
 exact ajN hT _ _ _ _ (fun x hx=>by cases hx)
def X0(s:aT): (∀ c ∈ s,gQ c=true)-> ∀ v:Int,0<=v->v<=9223372036854775807-> ∀ n,vM s v=some n->0<=n/\n<=9223372036854775807:=by
 induction s with
 | nil=>intro _ v h1 h2 n h;simp only[vM]at h;cases h;exact⟨h1,h2⟩
 | cons c r ih =>
   intro hd v h1 h2 n h;have hc:=hd c aR;simp only[gQ,aD,aM]at hc;simp only[vM]at h;split at h
   ·cases h
   exact ih (fun c hc=>hd c (dm _ hc)) _ ae ae n h
def Qg{p:UInt8->Bool}(s:aT): ∀ c ∈ s.takeWhile p,p c=true:=by
 induction s with
 | nil=>intro c h;cases h
 | cons x r ih =>
   intro c h;rw[ig]at h;split at h
   ·rename_i hx;rcases List.mem_cons.1 h with rfl|h
    ·exact hx
    exact ih c h
   ·cases h
def ahS(s:aT): 0<=(kG s).n/\(kG s).n<=9223372036854775807:=by
 have e:∀ k,0<=(PR.err k).n/\(PR.err k).n<=9223372036854775807:=fun k=>by simp[PR.err]
 unfold kG;simp only;split
 ·unfold G8;split
  ·exact e _
  exact⟨aR,aR⟩
 split
 ·unfold qy;simp only;split
  ·exact e _
  split
  ·exact e _
  rename_i v hv;exact X0 _ (Qg s) 0 ae ae v hv
 split
 ·have : ∀ (r b : aT) (i : Nat), 0 <= (mG r b i).n /\ (mG r b i).n <= 9223372036854775807 := fun r b i => by
   fun_induction mG r b i<;>first|exact e _|assumption|exact⟨aR,aR⟩
  exact this _ _ _
 unfold x9;split
 ·exact⟨aR,aR⟩
 exact e _
def ahT(f:Nat): ∀(s:aT) (pos:Nat) (acc:List Tok),(∀ t ∈ acc,0<=t.n/\t.n<=9223372036854775807)-> ∀ t ∈ (tO f s pos acc).1,0<=t.n/\t.n<=9223372036854775807:=by
 induction f with
 | zero=>intro s pos acc h;exact h
 | succ f ih =>
   intro s pos acc h;cases s with
   | nil=>exact h
   | cons c r =>
     rw[wR];split
     ·exact ih r (pos+1) acc h
     split
     ·refine ih _ _ _ (fun t ht=>?_);rcases List.mem_append.1 ht with ht|ht
      ·exact h t ht
      simp only[fY,fF,or_false]at ht;subst ht;exact ahS _
     intro t ht;cases ht
def Hf(s:aT): Bg (dQ s).1:=by
 intro q;have h1:=(r8 s).2 q
 have h2:∀ t ∈ (dQ s).1,0<=t.n/\t.n<=9223372036854775807:=by
  unfold dQ;split
  ·intro t ht;cases ht
  exact ahT _ _ _ _ (fun t ht=>by cases ht)
 refine⟨ae,?_⟩;by_cases hq:q<(dQ s).1.length
 ·have:=h2 _ (bx hq);omega
 rw[rz ae];decide
def Dm{T:List Tok}(hT:Bg T)(p:Nat)(b:Bool): jj (jY T p b).x/\gM (jY T p b).x<=1+4*T.length:=by
 unfold jY sV;split
 ·exact⟨sX,by simp[x0,gM,nD]⟩
 exact⟨Ss hT _ _,Jv T _ _⟩
def ac9{T:List Tok}(hT:Bg T)(hl:T.length<=2 ^ 50)(p:Nat)(b:Bool): Lg (iu T p b).t:=by
 have hx:∀ p b,jj (jY T p b).x/\gM (jY T p b).x<=2 ^ 60:=fun p b=>⟨(Dm hT p b).1,by have:=(Dm hT p b).2;omega⟩;have h0:jj x0/\gM x0<=2 ^ 60:=⟨sX,aam⟩;have h1:∀ k p b,Lg (tP k (jY T p b)).t:=fun k p b=>⟨hx p b,h0⟩;have h2:∀ lo,Lg (OE T p lo).t:=fun lo=>⟨hx _ _,hx _ _⟩;unfold iu;split
 ·exact h1 _ _ _
 split
 ·exact h1 _ _ _
 split
 ·exact h1 _ _ _
 split
 ·exact h1 _ _ _
 split
 ·exact h2 _
 split
 ·exact h2 _
 exact h1 _ _ _
def ac_{T:List Tok}(hT:Bg T)(hl:T.length<=2 ^ 50)(f:Nat): ∀(acc:List Test) (p:Nat) (b:Bool),(∀ t ∈ acc,Lg t)->(∀ t ∈ (sW T f acc p b).ts,Lg t)/\(sW T f acc p b).ts.length<=acc.length+f:=by
 induction f with
 | zero=>intro acc p b h;exact⟨h,bf _⟩
 | succ f ih =>
   intro acc p b h
   have h2:∀ t ∈ acc++[(iu T p b).t],Lg t:=fun t ht=>by
    rcases List.mem_append.1 ht with ht|ht
    ·exact h t ht
    simp only[fY,fF,or_false]at ht;subst ht;exact ac9 hT hl p b
   rw[wq];split
   ·have:=ih _ ((iu T p b).p+1) (iu T p b).bad h2;rw[aA,aO,bu]at this;exact⟨this.1,ae⟩
   exact⟨h2,by rw[aA,aO,bu];omega⟩
def V6(T:List Tok)(n:Bool)(c:CS): (Jw T n c).ts=c.ts:=by unfold Jw;split<;>rfl
def St{T:List Tok}(hT:Bg T)(hl:T.length<=2 ^ 50): OC ⟨false,sF T,(kV T).ts⟩:=by
 have:=ac_ hT hl (T.length+1) [] (VY T) false (fun t ht=>by cases ht);unfold kV OC;rw[V6];exact⟨by have:=this.2;simp only[List.length_nil]at this;dsimp only;omega,this.1⟩
def ahU{T:List Tok}{n:Bool}{c:CS}(h:c.p<=T.length): (Jw T n c).p<=T.length:=by
 unfold Jw;split
 ·dsimp only[vp];split
  ·rename_i h;exact(oZ h).1
  exact h
 exact h
def afQ(T:List Tok): (kV T).p<=T.length:=ahU (XZ _ _ _ _ (aaq T))
def c0: Cell:=⟨false,false,[]⟩
def Jx: Cell:=⟨true,false,[]⟩
def mo(s:aT): Cell × Int × Int :=
 if(dQ s).2.2≠0 then(c0,(dQ s).2.1,(dQ s).2.2)
 else if(dQ s).1.length=1/\jo (dQ s).1 0 false 4 [45]=true then(Jx,0,0)
 else if(kV (dQ s).1).p<(dQ s).1.length then(c0,((dQ s).1.getD (kV (dQ s).1).p default).pos,11)
 else if(kV (dQ s).1).bad=true then(c0,s.length,11)
 else if 12<(kV (dQ s).1).ts.length then(c0,0,24)
 else if jJ ⟨false,sF (dQ s).1,(kV (dQ s).1).ts⟩=false then(c0,0,12)
 else(⟨false,sF (dQ s).1,(kV (dQ s).1).ts⟩,0,0)
def eC3(r:Cell × Int × Int): AV:= .bR [ei r.1,I r.2.1,I r.2.2]
def aau(s:aT): OC (mo s).1:=by
 have h:=St (Hf s) (by have:=(r8 s).1;omega);have h0:OC c0:=⟨Nat.zero_le _,fun t ht=>by cases ht⟩;have h1:OC Jx:=⟨Nat.zero_le _,fun t ht=>by cases ht⟩;unfold mo;repeat' split
 all_goals first|exact h0|exact h1|exact h
def afR{σ : ai}: View σ (.agg [.bool false,.bool false,.aU]) (ei c0):=View.nO (.cons (.refl _ rfl) (.cons (.refl _ rfl) (.cons (.aU _) (.nil _))))
def aav{σ : ai}: View σ (.agg [.bool true,.bool false,.aU]) (ei Jx):=View.nO (.cons (.refl _ rfl) (.cons (.refl _ rfl) (.cons (.aU _) (.nil _))))
def ahV(T:List Tok)(p:Nat): jo T p false 4 [45]=(wo T p==[45]):=by
 rw[Dl T p false [45] da,cQ];simp
def X3(s:aT)(hs:s.length<=2 ^ 30): aQ aI 182 [.str s] (eC3 (mo s)):=by
 have cl:=VL s hs;obtain⟨f1,f2⟩:=r8 s;have cm:=FP (dQ s).1 0 false;have cr:=aas (dQ s).1 ae (fun q=>by have:=f2 q;omega);have hok:=St (Hf s) ae;have cc:=ya _ hok;have hp1:=afQ (dQ s).1;have hd:=ahV (dQ s).1 0
 have hP:mo s=if(dQ s).2.2≠0 then(c0,(dQ s).2.1,(dQ s).2.2)
  else if(dQ s).1.length=1/\jo (dQ s).1 0 false 4 [45]=true then(Jx,0,0)
  else if(kV (dQ s).1).p<(dQ s).1.length then(c0,((dQ s).1.getD (kV (dQ s).1).p default).pos,11)
  else if(kV (dQ s).1).bad=true then(c0,(s.length:Int),11)
  else if 12<(kV (dQ s).1).ts.length then(c0,0,24)
  else if jJ ⟨false,sF (dQ s).1,(kV (dQ s).1).ts⟩=false then(c0,0,12)
  else(⟨false,sF (dQ s).1,(kV (dQ s).1).ts⟩,0,0):=rfl
 rw[hP,hd];clear hP f2 hd hok;generalize jJ ⟨false,sF (dQ s).1,(kV (dQ s).1).ts⟩=rb at *;generalize kV (dQ s).1=r at *;generalize wo (dQ s).1 0=mt at *;generalize sF (dQ s).1=n at *;generalize dQ s=L at *;obtain⟨T,la,le⟩:=L;obtain⟨rts,rp,ahW⟩:=r;dsimp only at *;simp only[eC3]at ⊢;simp only[XH,wk]at cl;simp only[eM,bn]at cm cr;simp only[ei,jt]at cr cc;have e1:∀ σ : ai,View σ (.agg [.bool false,.bool false,.aU]) (ei c0):=fun σ=>afR;have e2:∀ σ : ai,View σ (.agg [.bool true,.bool false,.aU]) (ei Jx):=fun σ=>aav;have e3:∀ σ : ai,View σ (.agg [.bool false,.bool n,.aS false ES (rts.map dR)]) (ei ⟨false,n,rts⟩):=fun σ=>View.eqv rfl (Ac _);by_cases h1:le≠0
 ·rw[au h1];generalize ei c0=E at *;refine aY mQ ?_;intro Q aJ aK aL;repeat' first|refine aC ?_|refine aB ?_ ?_<;>intro hw<;>try omega|fail
  all_goals exact gN (oO (e1 _))
 rw[aj h1];by_cases h2:T.length=1/\(mt==[45])=true
 ·rw[au h2];generalize ei Jx=E2 at *;obtain⟨h2,h3⟩:=h2;refine aY mQ ?_;intro Q aJ aK aL;repeat' first|refine cB (zA h2 h3) ?_|refine aC ?_|refine dX cm ?_|refine aB ?_ ?_<;>intro hw<;>try omega|fail
  all_goals first|exact gN (oO (e2 _))|exact bI
 rw[aj h2];by_cases h4:rp<T.length
 ·rw[au h4];generalize ei c0=E at *;refine aY mQ ?_;intro Q aJ aK aL;repeat' first|refine aC ?_|refine dX cm ?_|refine dX cr ?_|refine aB ?_ ?_<;>intro hw<;>try omega|fail
  all_goals first|exact gN (oO (e1 _))|exact bI
 rw[aj h4];by_cases h5:ahW=true
 ·rw[au h5];subst h5;generalize ei c0=E at *;refine aY mQ ?_;intro Q aJ aK aL;repeat' first|refine aC ?_|refine dX cm ?_|refine dX cr ?_|refine aB ?_ ?_<;>intro hw<;>try omega|fail
  all_goals first|exact gN (oO (e1 _))|exact bI
 rw[aj h5];obtain rfl:ahW=false:=by simpa using h5
 by_cases h6:12<rts.length
 ·rw[au h6];generalize ei c0=E at *;refine aY mQ ?_;intro Q aJ aK aL;repeat' first|refine aC ?_|refine dX cm ?_|refine dX cr ?_|refine aB ?_ ?_<;>intro hw<;>try omega|fail
  all_goals first|exact gN (oO (e1 _))|exact bI
 rw[aj h6];cases rb with
 | false =>
   rw[au rfl];generalize ei c0=E at *;simp only[ji,aP,if_false]at cc;refine aY mQ ?_;intro Q aJ aK aL;repeat' first|refine aC ?_|refine dX cm ?_|refine dX cr ?_|refine aB ?_ ?_<;>intro hw<;>try omega|fail
   all_goals first|exact gN (oO (e1 _))|exact bI
 | true =>
   rw[aj aR];generalize ei ⟨false,n,rts⟩=E3 at *;simp only[ji,if_true]at cc;refine aY mQ ?_;intro Q aJ aK aL;repeat' first|refine aC ?_|refine dX cm ?_|refine dX cr ?_|refine aB ?_ ?_<;>intro hw<;>try omega|fail
   all_goals first|exact gN (oO (e3 _))|exact bI
structure Lp2 where
 t:Test
 acc:List Test
 p:Nat
 b:Bool
 f:Nat
def oP(t:Test)(a b:Int): Bool:=cG a b && (decide (t.kind=1) ||(decide (a≠3) && decide (b≠3)))
def FT(t:Test)(a b:Int): aQ aI 223 [dR t,I a,I b] (.bool (oP t a b)):=by
 have hf:=oI a b;have hS:oP t a b=(cG a b && (decide (t.kind=1) ||(decide (a≠3) && decide (b≠3)))):=rfl;rw[hS];generalize cG a b=f at *;simp only[dR,eA];refine aY RE ?_;intro Q aJ aK aL;repeat' first|refine aC ?_|refine aB ?_ ?_<;>intro hw<;>try omega|fail
 all_goals (refine a_ ?_ rfl;refine bj AV.bool ?_;rw[cQ];simp_all)
def qf(t:Test): List Expr:=if t.kind=6 then [t.a,t.b]else [t.a]
def Li(t:Test): aQ aI 222 [dR t] (eA (qf t)):=by
 have h1:∀ σ : ai,View σ (.aS true EX [.agg [I t.a.op,I t.a.v.kind,I t.a.v.n,.str t.a.v.s,.str t.a.s,.aS false EX (t.a.l.map bt)]]) (eA [t.a]):=fun σ=>by
  rw[eA,bB,cY,bK];exact View.weak _ _ _ aR
 have h2:∀ σ : ai,View σ (.aS true EX [.agg [I t.a.op,I t.a.v.kind,I t.a.v.n,.str t.a.v.s,.str t.a.s,.aS false EX (t.a.l.map bt)],.agg [I t.b.op,I t.b.v.kind,I t.b.v.n,.str t.b.v.s,.str t.b.s,.aS false EX (t.b.l.map bt)]]) (eA [t.a,t.b]):=fun σ=>by
  rw[eA,bB,bB,cY,bK,bK];exact View.weak _ _ _ aR
 unfold qf;by_cases h6:t.kind=6
 ·rw[au h6];generalize eA [t.a,t.b]=E at *;simp only[dR,eA];refine aY D7 ?_;intro Q aJ aK aL;repeat' first|refine cB h6 ?_|refine aC ?_|refine aB ?_ ?_<;>intro hw<;>try omega|fail
  all_goals exact zZ (h2 _)
 rw[aj h6];generalize eA [t.a]=E at *;simp only[dR,eA];refine aY D7 ?_;intro Q aJ aK aL;repeat' first|refine aC ?_|refine aB ?_ ?_<;>intro hw<;>try omega|fail
 all_goals exact zZ (h1 _)
def jT(cs:List cJ)(x:Expr): Int × Int:=if dY x then jX cs x else(0,2)
def y8(cs:List cJ)(hcs:cs.length<=2 ^ 60)(x:Expr)(hx:jj x)(hz:gM x<=2 ^ 60): aQ aI 185 [bt x,b_ cs] (.bR [I (jT cs x).1,I (jT cs x).2]):=by
 have:=UB cs hcs x hx hz;unfold jT;cases hr:dY x<;>simpa[hr]using this
def Dn(cs:List cJ)(kind:Int)(t:Test): Int :=
 if(jT cs t.a).2≠0 then(jT cs t.a).2
 else if t.kind=6 then(if(jT cs t.b).2≠0 then(jT cs t.b).2 else if oP t kind (jT cs t.a).1 && oP t kind (jT cs t.b).1 then 0 else 14)
 else if oP t kind (jT cs t.a).1 then 0 else 14
def Bh(cs:List cJ)(kind:Int)(c:Cell): Int:=if jJ c then(match c.tests.find? (fun t=>Dn cs kind t != 0)with
 | some t=>Dn cs kind t
 | none=>0)else 2
def afS{cs:List cJ}{kind:Int}{c:Cell}{i:Nat}{e:Int}(hr:jJ c=true)(hi:i<c.tests.length)(h:∀ k,k<i->(Dn cs kind (c.tests.getD k default) != 0)=false)(he:Dn cs kind (c.tests.getD i default)=e)(hne:e≠0): Bh cs kind c=e:=by
 unfold Bh;rw[au hr,yp (p:=fun t=>Dn cs kind t != 0) hi h (by rw[he];simpa using hne)];exact he
def ada{cs:List cJ}{kind:Int}{c:Cell}(hr:jJ c=true)(h:∀ k,k<c.tests.length->(Dn cs kind (c.tests.getD k default) != 0)=false): Bh cs kind c=0:=by
 unfold Bh;rw[au hr,vR (p:=fun t=>Dn cs kind t != 0) h]
def X4(cs:List cJ)(hcs:cs.length<=2 ^ 60)(kind:Int)(c:Cell)(h:OC c): aQ aI 183 [ei c,I kind,b_ cs] (I (Bh cs kind c)):=by
 have hR:=ya c h;obtain⟨hl,ht⟩:=h;cases hr:jJ c with
 | false =>
   rw[show Bh cs kind c=2 from by unfold Bh;rw[if_neg (by simp[hr])]];rw[hr]at hR;simp only[ji,aP,if_false]at hR;simp only[ei,jt,b_]at hR ⊢;refine aY D6 ?_;intro Q aJ aK aL;repeat' first|refine aC ?_|refine aB ?_ ?_<;>intro hw<;>try omega|fail
   exact a_ rfl rfl
 | true =>
   rw[hr]at hR;simp only[ji,if_true]at hR;simp only[ei,jt,b_]at hR ⊢;refine aY D6 ?_;intro Q aJ aK aL;repeat' first|refine aC ?_|refine aB ?_ ?_<;>intro hw<;>try omega|fail
   with_reducible refine bG [6,1,9,2,12,3,23,31] (fun q:Nat × List aX=>[(23,I q.1)]) (fun q=> .cells [.bool c.any,.bool c.neg,.aS false ES (c.tests.map dR)]::q.2) (fun q=>q.1<=c.tests.length/\ ∀ k,k<q.1->(Dn cs kind (c.tests.getD k default) != 0)=false) (fun q=>c.tests.length-q.1) (0,[]) ?_ ?_ ?_ ?_
   ·simp
   ·rfl
   ·exact at_
   rintro⟨i,τ⟩ r ⟨h1,h2⟩;dsimp only at h1 h2;by_cases hi:i<c.tests.length
   ·have zQ:=ht _ (bx hi);have hat:=fun e he hne=>afS (cs:=cs) (kind:=kind) (e:=e) hr hi h2 he hne;have eF:=fun he=>cn h2 (i:=i) he;obtain⟨t,Jy⟩:=cq (c.tests.getD i default);rw[Jy]at zQ hat eF;have ka:=y8 cs hcs t.a zQ.1.1 zQ.1.2;have kb:=y8 cs hcs t.b zQ.2.1 zQ.2.2;have fa:=FT t kind (jT cs t.a).1;have fb:=FT t kind (jT cs t.b).1;have hp:=Li t;simp only[Dn]at hat eF;generalize oP t kind (jT cs t.a).1=va at *;generalize oP t kind (jT cs t.b).1=vb at *;generalize jT cs t.a=ra at *;generalize jT cs t.b=rb at *;rw[bK]at ka kb;simp only[dR,eA,b_]at ka kb fa fb;by_cases h6:t.kind=6
    ·rw[qf,au h6,eA,bB,bB,cY,bK,bK]at hp;simp only[dR,eA]at hp;simp only[au h6]at hat eF;repeat' first|refine cB Jy ?_|refine aC ?_|refine aB ?_ ?_<;>intro hw<;>try omega|fail
     with_reducible refine bG [6,1,10,1,12,3,30,21] (fun q:Int × Bool × List aX=>[(30,I q.1),(10,.bool q.2.1)]) (fun q=> .cells [.bool c.any,.bool c.neg,.aS false ES (c.tests.map dR)]::q.2.2) (fun q=>((q.1=0/\q.2.1=true)\/(q.1=1/\ra.2=0/\q.2.1=va)\/(q.1=2/\ra.2=0/\rb.2=0/\q.2.1=(va && vb)))/\q.2.2[τ.length]? = some (.cells [I t.kind,I t.a.op,I t.a.v.kind,I t.a.v.n,.str t.a.v.s,.str t.a.s,.aS false EX (t.a.l.map bt),I t.b.op,I t.b.v.kind,I t.b.v.n,.str t.b.v.s,.str t.b.s,.aS false EX (t.b.l.map bt),.bool t.lo,.bool t.hi])) (fun q=>(2-q.1).toNat) (0,true,τ++[.cells [I t.kind,I t.a.op,I t.a.v.kind,I t.a.v.n,.str t.a.v.s,.str t.a.s,.aS false EX (t.a.l.map bt),I t.b.op,I t.b.v.kind,I t.b.v.n,.str t.b.v.s,.str t.b.s,.aS false EX (t.b.l.map bt),.bool t.lo,.bool t.hi]]) ?_ ?_ ?_ ?_
     ·exact⟨.inl ⟨rfl,rfl⟩,aR⟩
     ·rfl
     ·exact at_
     clear hp;rintro⟨j,ok,Lj⟩ r2 ⟨hj,hk⟩;dsimp only at hj hk;have k8:=fun d:aX=>(aH (l₁:=Lj) (l₂:=[d]) (aE.1 hk).1).trans hk;rcases hj with⟨rfl,rfl⟩|⟨rfl,hra,rfl⟩|⟨rfl,hra,hrb,rfl⟩
     ·repeat' first|simp (disch:=omega) only[go_sem,aJ,aK,aL,hk,k8,Int.toNat_one]|refine aC ?_|refine aB ?_ ?_<;>intro hw<;>try omega|fail
      all_goals first
       |(refine a_ ?_ rfl;refine bj I ?_;symm;refine hat _ ?_ ?_<;>(clear hat eF;simp_all;done))
       | (refine ⟨(1, va, Lj ++ [.cells [I t.a.op, I t.a.v.kind, I t.a.v.n, .str t.a.v.s, .str t.a.s, .aS false EX (t.a.l.map bt)]]), ?_, ?_, ?_, c8, at_⟩ <;> (try dsimp only)
          ·exact⟨.inr (.inl ⟨rfl,by assumption,rfl⟩),k8 _⟩
          ·omega
          all_goals (first|rfl|(simp[go_sem];done)))
       | exact bI
     ·cases ok
      ·repeat' first|simp (disch:=omega) only[go_sem,aJ,aK,aL,hk,k8,Int.toNat_one]|refine aC ?_|refine aB ?_ ?_<;>intro hw<;>try omega|fail
       all_goals first
        |(refine a_ ?_ rfl;refine bj I ?_;symm;refine hat _ ?_ ?_<;>(clear hat eF;simp_all;done))
        | (refine ⟨(2, false, Lj ++ [.cells [I t.b.op, I t.b.v.kind, I t.b.v.n, .str t.b.v.s, .str t.b.s, .aS false EX (t.b.l.map bt)]]), ?_, ?_, ?_, c8, at_⟩ <;> (try dsimp only)
           ·exact⟨.inr (.inr ⟨rfl,by assumption,by assumption,rfl⟩),k8 _⟩
           ·omega
           all_goals (first|rfl|(simp[go_sem];done)))
        | exact bI
      repeat' first|simp (disch:=omega) only[go_sem,aJ,aK,aL,hk,k8,Int.toNat_one]|refine aC ?_|refine aB ?_ ?_<;>intro hw<;>try omega|fail
      all_goals first
       |(refine a_ ?_ rfl;refine bj I ?_;symm;refine hat _ ?_ ?_<;>(clear hat eF;simp_all;done))
       | (refine ⟨(2, vb, Lj ++ [.cells [I t.b.op, I t.b.v.kind, I t.b.v.n, .str t.b.v.s, .str t.b.s, .aS false EX (t.b.l.map bt)]]), ?_, ?_, ?_, c8, at_⟩ <;> (try dsimp only)
          ·exact⟨.inr (.inr ⟨rfl,by assumption,by assumption,rfl⟩),k8 _⟩
          ·omega
          all_goals (first|rfl|(simp[go_sem];done)))
       | exact bI
     repeat' first|refine cB (zA hk k8) ?_|refine aC ?_|refine aB ?_ ?_<;>intro hw<;>try omega|fail
     all_goals first
      |(refine a_ ?_ rfl;refine bj I ?_;symm;refine hat _ ?_ ?_<;>(clear hat eF;simp_all;done))
      | (refine ⟨(i + 1, Lj), ?_, ?_, ?_, c8, at_⟩ <;> (try dsimp only)
         ·exact⟨ae,eF (by clear hat eF;simp_all)⟩
         ·omega
         all_goals (first|rfl|(simp[go_sem];done)))
      | exact bI
    rw[qf,aj h6,eA,bB,cY,bK]at hp;simp only[dR,eA]at hp;simp only[aj h6]at hat eF;repeat' first|refine cB Jy ?_|refine aC ?_|refine aB ?_ ?_<;>intro hw<;>try omega|fail
    with_reducible refine bG [6,1,10,1,12,3,30,21] (fun q:Int × Bool × List aX=>[(30,I q.1),(10,.bool q.2.1)]) (fun q=> .cells [.bool c.any,.bool c.neg,.aS false ES (c.tests.map dR)]::q.2.2) (fun q=>((q.1=0/\q.2.1=true)\/(q.1=1/\ra.2=0/\q.2.1=va))/\q.2.2[τ.length]? = some (.cells [I t.kind,I t.a.op,I t.a.v.kind,I t.a.v.n,.str t.a.v.s,.str t.a.s,.aS false EX (t.a.l.map bt),I t.b.op,I t.b.v.kind,I t.b.v.n,.str t.b.v.s,.str t.b.s,.aS false EX (t.b.l.map bt),.bool t.lo,.bool t.hi])) (fun q=>(2-q.1).toNat) (0,true,τ++[.cells [I t.kind,I t.a.op,I t.a.v.kind,I t.a.v.n,.str t.a.v.s,.str t.a.s,.aS false EX (t.a.l.map bt),I t.b.op,I t.b.v.kind,I t.b.v.n,.str t.b.v.s,.str t.b.s,.aS false EX (t.b.l.map bt),.bool t.lo,.bool t.hi]]) ?_ ?_ ?_ ?_
    ·exact⟨.inl ⟨rfl,rfl⟩,aR⟩
    ·rfl
    ·exact at_
    clear hp;rintro⟨j,ok,Lj⟩ r2 ⟨hj,hk⟩;dsimp only at hj hk;have k8:=fun d:aX=>(aH (l₁:=Lj) (l₂:=[d]) (aE.1 hk).1).trans hk;rcases hj with⟨rfl,rfl⟩|⟨rfl,hra,rfl⟩
    ·repeat' first|simp (disch:=omega) only[go_sem,aJ,aK,aL,hk,k8,Int.toNat_one]|refine aC ?_|refine aB ?_ ?_<;>intro hw<;>try omega|fail
     all_goals first
      |(refine a_ ?_ rfl;refine bj I ?_;symm;refine hat _ ?_ ?_<;>(clear hat eF;simp_all;done))
      | (refine ⟨(1, va, Lj ++ [.cells [I t.a.op, I t.a.v.kind, I t.a.v.n, .str t.a.v.s, .str t.a.s, .aS false EX (t.a.l.map bt)]]), ?_, ?_, ?_, c8, at_⟩ <;> (try dsimp only)
         ·exact⟨.inr ⟨rfl,by assumption,rfl⟩,k8 _⟩
         ·omega
         all_goals (first|rfl|(simp[go_sem];done)))
      | exact bI
    repeat' first|refine cB (zA hk k8) ?_|refine aC ?_|refine aB ?_ ?_<;>intro hw<;>try omega|fail
    all_goals first
     |(refine a_ ?_ rfl;refine bj I ?_;symm;refine hat _ ?_ ?_<;>(clear hat eF;simp_all;done))
     | (refine ⟨(i + 1, Lj), ?_, ?_, ?_, c8, at_⟩ <;> (try dsimp only)
        ·exact⟨ae,eF (by clear hat eF;simp_all)⟩
        ·omega
        all_goals (first|rfl|(simp[go_sem];done)))
     | exact bI
   repeat' first|refine aC ?_|refine aB ?_ ?_<;>intro hw<;>try omega|fail
   refine a_ ?_ rfl;rw[ada hr (fun k hk=>h2 k ae)]
end Go.Proofs.YtoldfccfpameeaaGreatDoor
namespace Go.Proofs
open Go.Shelf
def Tryz.H8: Go.Shelf.Ren:=⟨fun|156=>121|165=>88|166=>89|169=>91|240=>132|241=>133|276=>174|277=>175|n=>n,fun|31=>47|9=>9|3=>3|4=>4|0=>0|20=>20|72=>162|76=>166|70=>159|37=>160|75=>165|127=>217|164=>263|5=>5|80=>169|n=>n,fun|n=>n⟩
def Tryz.V7: Go.Proofs.Lays.n156 Tryz.prog Tryz.H8:=ND
def Tryz.xN: Builder.Extra Tryz.prog Tryz.H8:=ND
open Go.RowKit in
def Tryz.strings_Join_none (a : Option Addr) (c : Nat) (sep : ByteArray) (w : World) :
    Calls Tryz.prog 121 #[.slice a 0 c,.string sep] w fun e w'=>e = .returned (.string ⟨#[]⟩)/\w'=w:=Any.strings_Join_none Tryz.V7 Tryz.xN a c sep w
open Go.RowKit in
def Tryz.strings_Join (bk o c : Nat) (xs : List ByteArray) (sep : ByteArray) (w : World) (hcells : ∀ (j : Nat) x, xs[j]? = some x -> w.cell? ⟨bk, o + j, none⟩ = some (.string x)) (hbk : bk < w.heap.size) (hN : xs.length <= 140737488355328) (hcap : xs.length <= c) (hlen : (Lib.join (xs.map (·.data.toList)) sep.data.toList).length <= 140737488355328) :
    Calls Tryz.prog 121 #[.slice (some ⟨bk,o,none⟩) xs.length c,.string sep] w fun e w'=>e = .returned (.string ⟨(Lib.join (xs.map (·.data.toList)) sep.data.toList).toArray⟩)/\Below w.heap.size w w':=Any.strings_Join Tryz.V7 Tryz.xN bk o c xs sep w hcells hbk hN hcap hlen
def Tryz.UD: Go.Shelf.Ren:=⟨fun|106=>239|213=>266|265=>286|n=>n,fun|9=>9|3=>3|n=>n,fun|n=>n⟩
def Tryz.afT: Go.Proofs.Lays.n106 Tryz.prog Tryz.UD:=ND
open Go.RowKit in
def Tryz.strings_Compare (a b : ByteArray) (w : World) :
    Calls Tryz.prog 239 #[.string a,.string b] w fun e w'=>e = .returned (.int .i64 (Lib.compareBytes a.data.toList b.data.toList))/\w'=w:=Any.strings_Compare Tryz.afT a b w
def Tryz.UE: Go.Shelf.Ren:=⟨fun|121=>214|214=>249|n=>n,fun|4=>4|9=>9|n=>n,fun|n=>n⟩
def Tryz.afU: Go.Proofs.Lays.n121 Tryz.prog Tryz.UE:=ND
open Go.RowKit in
def Tryz.strconv_FormatBool (b : Bool) (w : World) :
    Calls Tryz.prog 214 #[.bool b] w fun e w'=>e = .returned (.string ⟨(Lib.formatBool b).toArray⟩)/\w'=w:=Any.strconv_FormatBool Tryz.afU b w
def Tryz.Sv: Go.Shelf.Ren:=⟨fun|171=>212|243=>247|246=>268|283=>287|284=>288|285=>289|286=>290|129=>160|317=>301|318=>302|319=>303|320=>304|337=>305|338=>306|n=>n,fun|3=>3|9=>9|2=>2|4=>4|171=>379|0=>0|53=>175|37=>160|5=>5|173=>381|212=>391|51=>212|20=>20|213=>392|46=>155|232=>393|233=>394|n=>n,fun|17=>1|18=>2|19=>3|n=>n⟩
def Tryz.adb: Go.Proofs.LaysM.n171 Tryz.prog Tryz.Sv:=ND
open Go.RowKit Go.Sort Go.Lib in
def Tryz.strconv_Itoa (n : Int) (h0 : -9223372036854775808 ≤ n) (h1 : n ≤ 9223372036854775807) (w : World) (htab : Lib.TabIs Tryz.prog w "internal/strconv.uint64pow10" .u64 Lib.pow10Tab) :
    Calls Tryz.prog 212 #[.int .i64 n] w fun e w'=>e = .returned (.string ⟨(Lib.itoa n).toArray⟩)/\ ∃ k os,w'=grow (w.drewN k) os:=Any.strconv_Itoa Tryz.adb n h0 h1 w htab
def Tryz.UG: Go.Shelf.Ren:=⟨fun|212=>86|263=>129|264=>130|n=>n,fun|46=>155|51=>212|146=>213|53=>175|148=>215|n=>n,fun|n=>n⟩
def Tryz.afV: Go.Proofs.Lays.n212 Tryz.prog Tryz.UG:=ND
open Go.RowKit Go.Lib in
def Tryz.bits_Mul (x y : Nat) (hx : x < 18446744073709551616) (hy : y < 18446744073709551616) (w : World) :
    Calls Tryz.prog 86 #[.int .u64 x,.int .u64 y] w fun e w'=>e = .returned (.tuple #[.int .u64 ((x*y / 18446744073709551616:Nat):Int),.int .u64 ((x*y % 18446744073709551616:Nat):Int)])/\w'=w:=Any.bits_Mul Tryz.afV x y hx hy w
def Tryz.H9: Go.Shelf.Ren:=⟨fun|105=>55|212=>86|99=>87|165=>88|166=>89|170=>90|169=>91|263=>129|264=>130|206=>131|240=>132|241=>133|276=>174|277=>175|n=>n,fun|9=>9|3=>3|4=>4|20=>20|0=>0|46=>155|109=>156|5=>5|72=>162|76=>166|51=>212|146=>213|53=>175|148=>215|70=>159|37=>160|75=>165|127=>217|164=>263|80=>169|n=>n,fun|n=>n⟩
def Tryz.afW: Go.Proofs.Lays.n105 Tryz.prog Tryz.H9:=ND
def Tryz.HI: Builder.Extra Tryz.prog Tryz.H9:=ND
open Go.RowKit Go.Lib in
def Tryz.strings_Repeat (s : ByteArray) (c : Nat) (w : World) (hc : c <= 9223372036854775807) (hlen : s.size * c <= 140737488355328) :
    Calls Tryz.prog 55 #[.string s,.int .i64 c] w fun e w'=>e = .returned (.string ⟨(Lib.repeatL s.data.toList c).toArray⟩)/\Below w.heap.size w w':=Any.strings_Repeat Tryz.afW Tryz.HI s c w hc hlen
end Go.Proofs
namespace Go.Proofs.YtoldfccfpameeaaGreatDoor
open Go.AM
set_option maxRecDepth 4000
def nx {P : Program} {f : FuncId} {args : List AV} {r : AV} (hf : Has P f)
    (h : ∀ (g : aN) (w : World) (σ : ai) (vs : Array Value), Rel g w σ -> args.length = vs.size -> (∀ i, i < args.length -> VR g w (args.getD i .undef) (vs.getD i Go.undef)) ->
      ∃ v,(∀ g' w',VR g' w' r v)/\Calls P f vs w fun e w'=>e = .returned v/\w'.os=w.os/\w'.tape=w.tape/\w'.output=w.output/\w.heap.size<=w'.heap.size/\ ∀ b,b<w.heap.size->w'.heap[b]? = w.heap[b]?):aQ P f args r:=by
 intro σ;refine⟨hf,fun g w vs hR hl hv=>?_⟩;obtain⟨v,h1,h2⟩:=h g w σ vs hR hl hv;refine h2.mono ?_;rintro e w' ⟨rfl,k1,k2,k3,k4,k5⟩;obtain⟨r1,r2⟩:=hR.wL k4 k1 k2 k3 k5;exact⟨.ret r,_,σ,r1,r2,h1 _ _,rfl,rfl⟩
def VR.QA{g:aN}{w:World}(s:aT): VR g w (.str s) (.string ⟨s.toArray⟩):=VR.str s
def aaw{vs:Array Value}(h:1=vs.size): vs = #[vs.getD 0 Go.undef]:=by
 apply Array.ext
 ·simp[<-h]
 intro i h1 h2;simp at h2;subst h2;simp[<-h]
def Ll{vs:Array Value}(h:2=vs.size): vs = #[vs.getD 0 Go.undef,vs.getD 1 Go.undef]:=by
 apply Array.ext
 ·simp[<-h]
 intro i h1 h2;simp at h2;obtain rfl|rfl:i=0\/i=1:=ae
 ·simp[<-h]
 simp[<-h]
def strconv_Itoa(n:Int)(h0 : -9223372036854775808<=n)(h1:n<=9223372036854775807): aQ aI 212 [I n] (.str (Lib.itoa n)):=by
 refine nx ⟨_,Tryz.func212,iQ,iQ⟩ fun g w σ vs hR hl hv=>?_;have h2:=hv 0 aR;rw[aaw hl];generalize vs.getD 0 Go.undef=v at h2;simp only[de]at h2;cases h2;refine⟨_,fun g' w'=>VR.QA (Lib.itoa n),(Tryz.strconv_Itoa n h0 h1 w hR.glob.2).mono ?_⟩;rintro e w' ⟨rfl,k,os,rfl⟩;refine⟨rfl,rfl,rfl,rfl,by simp[Sort.grow,World.drewN],fun b hb=>?_⟩;simp only[Sort.grow,World.drewN];rw[e8 (by simpa using hb)]
def strconv_FormatBool(b:Bool): aQ aI 214 [.bool b] (.str (if b then Ah else wV)):=by
 refine nx ⟨_,Tryz.func214,iQ,iQ⟩ fun g w σ vs hR hl hv=>?_;have h2:=hv 0 aR;rw[aaw hl];generalize vs.getD 0 Go.undef=v at h2;simp only[de]at h2;cases h2;have e:Lib.formatBool b=if b then Ah else wV:=by cases b<;>decide
 refine⟨_,fun g' w'=>VR.QA (if b then Ah else wV),(Tryz.strconv_FormatBool b w).mono ?_⟩;rintro e w' ⟨rfl,rfl⟩;refine⟨by rw[e],rfl,rfl,rfl,bf _,fun _ _=>rfl⟩
def strings_Join(l:List aT)(sep:aT)(hl:l.length<=2 ^ 40)(hj:(Lib.join l sep).length<=2 ^ 40): aQ aI 121 [jL l,.str sep] (.str (Lib.join l sep)):=by
 refine nx ⟨_,Tryz.func121,iQ,iQ⟩ fun g w σ vs hR hlen hv=>?_;have h2:=hv 0 aR;have h3:=hv 1 aR;rw[Ll hlen];generalize vs.getD 0 Go.undef=v at h2;generalize vs.getD 1 Go.undef=u at h3;simp only[de,ie]at h2 h3;cases h3;simp only[jL]at h2;generalize hxs:l.map eZ=xs at h2;have below:∀ w':World,RowKit.Below w.heap.size w w'->w'.os=w.os/\w'.tape=w.tape/\w'.output=w.output/\w.heap.size<=w'.heap.size/\ ∀ b,b<w.heap.size->w'.heap[b]? = w.heap[b]?:=fun w' h=>⟨h.os,h.tape,h.output,h.size,h.block⟩;cases h2 with
 | jd f el b cap hf =>
   obtain rfl:l=[]:=by cases l<;>simp at hxs;rfl
   refine⟨_,fun g' w'=>VR.QA (Lib.join [] sep),(Tryz.strings_Join_none b cap ⟨sep.toArray⟩ w).mono ?_⟩;rintro e w' ⟨rfl,rfl⟩;refine⟨rfl,rfl,rfl,rfl,bf _,fun _ _=>rfl⟩
 | aS f el xs b off cap hi hf hx ft hc h =>
   subst hxs;have Ea:=hR.lt b hi
   have hm:(l.map fun s=>(⟨s.toArray⟩:ByteArray)).map (·.data.toList)=l:=by
    rw[List.map_map];conv=>rhs;rw[<-List.map_id l]
    rfl
   have hcells:∀ (j:Nat) x,(l.map fun s=>(⟨s.toArray⟩:ByteArray))[j]? = some x->w.cell? ⟨b,off+j,none⟩=some (.string x):=fun j x hx'=>by
    obtain⟨hj',rfl⟩:=aE.1 hx';have sy:j<l.length:=by simpa using hj'
    have c1:=hc j 0 (by simpa using sy) da;have c2:=h j 0 (by simpa using sy) da;have e1:off+(j*(⟨false,1⟩:El).sz+0)=off+j:=by show off+(j*1+0)=off+j;omega
    rw[e1]at c1 c2;obtain⟨v,hv⟩:=gj.1 c1;have e2:((l.map eZ).getD j .undef).cell 0 = .str (l[j]):=by simp[sy,eZ,AV.cell]
    rw[e2]at c2;simp only[eT,hv,bO]at c2;cases c2;rw[hv];simp
   have:=Tryz.strings_Join b off cap (l.map fun s=>(⟨s.toArray⟩:ByteArray)) ⟨sep.toArray⟩ w hcells Ea (by simp;omega) (by simpa using hx) (by rw[hm];show(Lib.join l sep).length<=_;omega);rw[hm]at this;simp only[dF]at this ⊢;refine⟨_,fun g' w'=>VR.QA (Lib.join l sep),this.mono ?_⟩;rintro e w' ⟨rfl,hb⟩;exact⟨rfl,below w' hb⟩
def ade{m:Nat}(h:10<=m): Lib.decDigits m=Lib.decDigits (m / 10)++[UInt8.ofNat (48+m % 10)]:=by
 conv=>lhs;rw[Lib.decDigits]
 rw[dif_neg ae]
def Lm{m:Nat}(h:m<10): Lib.decDigits m=[UInt8.ofNat (48+m)]:=by rw[Lib.decDigits,dif_pos h]
def Sw(k:Nat): ∀ u:Nat,u<10 ^ (k+1)->(Lib.decDigits u).length<=k+1:=by
 induction k with
 | zero=>intro u h;rw[Lm ae];simp
 | succ k ih =>
   intro u h;by_cases h9:u<10
   ·rw[Lm h9];simp
   rw[ade ae,aA];have:=ih (u / 10) (by rw[Nat.pow_succ]at h;omega);simp only[aO,bu];omega
def o9(c:UInt8): aT:=if c.toNat=34\/c.toNat=92 then [92,c]else [c]
def y9(s:aT): aT:=34::(s.flatMap o9++[34])
def X5{s:aT}{i:Nat}(h:i<s.length): (s.take (i+1)).flatMap o9=(s.take i).flatMap o9++o9 (s.getD i 0):=by
 rw[dz h,List.flatMap_append];simp[h]
def OG(s:aT): (s.flatMap o9).length<=2*s.length:=by
 induction s with
 | nil=>simp
 | cons c r ih =>
   rw[jz,aA,aO];have:(o9 c).length<=2:=by unfold o9;split<;>simp
   omega
def Dp(v:aW): aT:=if v.kind=1 then Lib.itoa v.n else if v.kind=2 then y9 v.s else if v.kind=3 then(if v.n=1 then Ah else wV)else Le
def tQ: aT:=[105,102,32]
def rD: aT:=[32,116,104,101,110,32]
def y_: aT:=[32,101,108,115,101,32]
def om(w:Int × aT)(lvl:Int): aT:=if w.1<lvl then 40::(w.2++[41])else w.2
def uJ(op:Int)(v:aW)(s:aT)(ws:List (Int × aT)): aT :=
 if op=1 then Dp v else if op=2 then s
 else if op=3 then 45::om (ws.getD 0 default) 6
 else if op=16 then tQ++om (ws.getD 0 default) 0++rD++om (ws.getD 1 default) 0++y_++om (ws.getD 2 default) 0
 else om (ws.getD 0 default) (if(fg op).level=3 then 4 else(fg op).level)++[32]++(fg op).sign++[32]++om (ws.getD 1 default) ((fg op).level+1)
mutual
def fV: Expr->aT
 | .mk op v s l=>uJ op v s (wW l)
def wW: List Expr->List (Int × aT)
 | []=>[]
 | x::r=>(fJ x.op,fV x)::wW r
end
def lC(x:Expr)(lvl:Int): aT:=om (fJ x.op,fV x) lvl
def adf(n:Int)(h0 : -9223372036854775808<=n)(h1:n<=9223372036854775807): (Lib.itoa n).length<=21:=by
 unfold Lib.itoa;split
 ·have:=Sw 19 n.natAbs ae;rw[aO];omega
 have:=Sw 19 n.toNat ae;omega
def aax(v:aW)(h0 : -9223372036854775808<=v.n)(h1:v.n<=9223372036854775807)(hr:bZ v=true): (Dp v).length<=82:=by
 unfold Dp;split
 ·have:=adf v.n h0 h1;omega
 split
 ·rename_i h1 h2;unfold bZ at hr;rw[aj ae,aj ae,au h2]at hr;simp only[mj,aD,aM]at hr;have:=OG v.s;simp only[y9,aO,aA,bu];omega
 split
 ·split<;>simp[Ah,wV]
 simp[Le]
def Ln(w:Int × aT)(lvl:Int): (om w lvl).length<=w.2.length+2:=by
 unfold om;split<;>simp
def Sx(op:Int): (fg op).sign.length<=3:=by
 unfold fg;cases h:lf.find? (fun b=>b.op==op)with
 | none=>simp
 | some b =>
   have:=ij h;simp only[lf,fY,fF,or_false]at this;rcases this with rfl|rfl|rfl|rfl|rfl|rfl|rfl|rfl|rfl|rfl|rfl|rfl<;>simp
def wu {op : Int} {v : aW} {s : aT} {l : List Expr} (h : dY (.mk op v s l) = true) :
    (op=1/\l=[]/\s=[]/\bZ v=true/\(v.kind≠1\/0<=v.n))\/(op=2/\l=[]/\v=v0/\iL s=true)\/(op=3/\v=v0/\s=[]/\ ∃ a,l=[a]/\dY a=true) \/
    (op=16/\v=v0/\s=[]/\ ∃ a b c,l=[a,b,c]/\dY a=true/\dY b=true/\dY c=true) \/
    (4<=op/\op<=15/\v=v0/\s=[]/\1<=(fg op).level/\(fg op).level<=5/\fJ op=(fg op).level/\(fg op).op=op/\(fg op) ∈ lf/\ ∃ a b,l=[a,b]/\dY a=true/\dY b=true):=by
 simp only[dY,aD,aM]at h;obtain⟨h1,h2⟩:=h;by_cases o1:op=1
 ·left;rw[au o1]at h2;simp only[aD,aM,cH]at h2;have:j8 op=0:=by unfold j8;rw[if_pos (.inl o1)]
  exact⟨o1,dn.1 ae,h2.1.1,h2.1.2,h2.2⟩
 rw[aj o1]at h2;by_cases o2:op=2
 ·right;left;rw[au o2]at h2;simp only[aD,aM]at h2;have:j8 op=0:=by unfold j8;rw[if_pos (.inr o2)]
  exact⟨o2,dn.1 ae,h2.1,h2.2⟩
 rw[aj o2]at h2;simp only[aD,aM]at h2;obtain⟨⟨h3,h4⟩,h5⟩:=h2;by_cases o3:op=3
 ·right;right;left;have:j8 op=1:=by unfold j8;rw[if_neg ae,if_pos o3]
  match l,h1,h5 with
  | [a],_,h5=>simp only[sU,jy]at h5;exact⟨o3,h3,h4,a,rfl,h5⟩
  | [],h1,_=>simp at h1;omega
  | _::_::_,h1,_=>simp at h1;omega
 by_cases o4:op=16
 ·right;right;right;left;have:j8 op=3:=by unfold j8;rw[if_neg ae,if_neg o3,if_pos o4]
  match l,h1,h5 with
  | [a,b,c],_,h5=>simp only[sU,jy,aD]at h5;exact⟨o4,h3,h4,a,b,c,rfl,h5.1,h5.2.1,h5.2.2⟩
  | [],h1,_=>simp at h1;omega
  | [_],h1,_=>simp at h1;omega
  | [_,_],h1,_=>simp at h1;omega
  | _::_::_::_::_,h1,_=>simp at h1;omega
 right;right;right;right;have hc:j8 op=if 0<(fg op).level then 2 else -1:=by unfold j8;rw[if_neg ae,if_neg o3,if_neg o4]
 have hlv:0<(fg op).level:=by
  by_cases h:0<(fg op).level
  ·exact h
  rw[aj h]at hc;omega
 rw[au hlv]at hc;have X6:fJ op=(fg op).level:=by unfold fJ;rw[if_neg o4,if_neg o3,if_neg ae]
 have hf:(fg op).op=op/\fg op ∈ lf:=by
  unfold fg at hlv ⊢;cases hq:lf.find? (fun b=>b.op==op)with
  | none=>rw[hq]at hlv;simp at hlv
  | some b =>
    have h1:=fA hq;exact⟨by simpa using h1,ij hq⟩
 have hb:4<=op/\op<=15/\(fg op).level<=5:=by
  obtain⟨q1,q2⟩:=hf;generalize fg op=b at q1 q2;simp only[lf,fY,fF,or_false]at q2;rcases q2 with rfl|rfl|rfl|rfl|rfl|rfl|rfl|rfl|rfl|rfl|rfl|rfl<;>(dsimp only at q1 ⊢;omega)
 match l,h1,h5 with
 | [a,b],_,h5=>simp only[sU,jy,aD]at h5;exact⟨hb.1,hb.2.1,h3,h4,ae,hb.2.2,X6,hf.1,hf.2,a,b,rfl,h5.1,h5.2⟩
 | [],h1,_=>simp at h1;omega
 | [_],h1,_=>simp at h1;omega
 | _::_::_::_,h1,_=>simp at h1;omega
def Ef{x:Expr}(h:dY x=true): 0<=fJ x.op:=by
 obtain⟨op,v,s,l⟩:=x;rcases wu h with⟨rfl,_⟩|⟨rfl,_⟩|⟨rfl,_⟩|⟨rfl,_⟩|⟨_,_,_,_,h1,_,h2,_⟩
 ·show 0<=fJ 1;decide
 ·show 0<=fJ 2;decide
 ·show 0<=fJ 3;decide
 ·show 0<=fJ 16;decide
 show 0<=fJ op;omega
def Jz{x:Expr}{lv:Int}(h:¬ fJ x.op<lv): lC x lv=fV x:=by unfold lC om;exact if_neg h
def Sy{x:Expr}{lv:Int}(h:fJ x.op<lv): lC x lv=40::(fV x++[41]):=by unfold lC om;exact if_pos h
def aay{s:aT}(h:iL s=true): s.length<=16:=by
 simp only[iL,aD,aM]at h;exact h.1.2
def X7(x:Expr): dY x=true->jj x->(fV x).length<=110*gM x:=by
 induction x using Expr.ind with
 | h op v s l ih =>
   intro hr hx;simp only[jj]at hx;obtain⟨_,_,hv1,hv2,hl⟩:=hx
   have key:∀ y ∈ l,dY y=true-> ∀ lvl,(om (fJ y.op,fV y) lvl).length<=110*gM y+2:=fun y hy hry lvl=>by
    have:=ih y hy hry (B6 hl hy);have:=Ln (fJ y.op,fV y) lvl;dsimp only at this;omega
   have hsg:=Sx op;rcases wu hr with⟨rfl,rfl,rfl,h1,_⟩|⟨rfl,rfl,rfl,h1⟩|⟨rfl,rfl,rfl,a,rfl,ha⟩|⟨rfl,rfl,rfl,a,b,c,rfl,ha,hb,hc⟩|⟨o1,o2,rfl,rfl,_,_,_,_,_,a,b,rfl,ha,hb⟩
   ·have:=aax v hv1 hv2 h1;simp only[fV,uJ,if_true,gM];omega
   ·have:=aay h1;simp[fV,uJ,gM];omega
   ·have:=key a aR ha 6;simp[fV,wW,uJ,gM,nD];omega
   ·have k1:=key a aR ha 0;have k2:=key b aR hb 0;have k3:=key c aR hc 0;simp[fV,wW,uJ,gM,nD,tQ,rD,y_];omega
   have k1:=key a aR ha (if(fg op).level=3 then 4 else(fg op).level);have k2:=key b aR hb ((fg op).level+1)
   have:fV (.mk op v0 [] [a,b])=om (fJ a.op,fV a) (if(fg op).level=3 then 4 else(fg op).level)++[32]++(fg op).sign++[32]++om (fJ b.op,fV b) ((fg op).level+1):=by
    simp only[fV,wW,uJ];rw[aj ae,aj ae,aj ae,aj ae];rfl
   rw[this];simp only[aA,aO,bu,gM,nD];omega
def qF(x:Expr): Bool:=decide (200<(fV x).length)
def Ak(x:Expr): aT × Int:=if dY x=false then([],2)else if 12<mH x then([],12)else if qF x=true then([],5)else (fV x,0)
def adg{x:Expr}(hr:dY x=true): lC x 0=fV x:=by
 have:=Ef hr;exact Jz ae
