/- Part. -/
import Derived.Test.YtmbgnaoilncbnaaGreatDoorX20
set_option linter.all false
namespace Go.Proofs.YtmbgnaoilncbnaaGreatDoor
open Go.AM
set_option maxRecDepth 4000
def Qw(T:List Tok)(fr lvl:Int)(hT:T.length<=2 ^ 50)(hs:∀ q,(T.getD q default).s.length<=2 ^ 62): ai Tryz.prog xC [sD T,I fr,I lvl] (Ag (d_ T fr lvl)):=by
 by_cases hg:fr<0\/(T.length:Int)<fr\/lvl<0\/7<lvl
 ·have e:d_ T fr lvl=(x0,0,2):=by unfold d_;rw[if_pos hg]
  rw[e];have e1:∀ σ : aj,View σ (.agg [I 0,I 0,I 0,.str [],.str [],.ae]) (aL x0):=fun σ=>jb (.ae _);simp only[Ag];generalize aL x0=E at *;refine ai.aG (Bi (by simp) ?_) (by simp);unfold xS aP;intro Q au aA aB;repeat' first|refine aq ?_|refine ak ?_ ?_<;>intro hw<;>try omega|fail
  all_goals first|exact bq (iF (e1 _))|(exfalso;omega)
 ·obtain⟨p,rfl⟩:∃ p:Nat,fr=p:=⟨fr.toNat,by omega⟩;obtain⟨l,rfl⟩:∃ l:Nat,lvl=l:=⟨lvl.toNat,by omega⟩;have cr:=aam T (by omega) hs (8*T.length+9) l p (by omega) (by omega) (by omega)
  have e:d_ T p l=if(bI T (8*T.length+9) none l p).bad then(x0,((bI T (8*T.length+9) none l p).p:Int),11)else ((bI T (8*T.length+9) none l p).x,((bI T (8*T.length+9) none l p).p:Int),0):=by
   unfold d_;rw[if_neg hg,Int.toNat_natCast,Int.toNat_natCast]
  rw[e];simp only[pT]at cr;generalize bI T (8*T.length+9) none l p=r at *;obtain⟨rx,rp,rb⟩:=r;dsimp only at *;have e1:∀ σ : aj,View σ (.agg [I 0,I 0,I 0,.str [],.str [],.ae]) (aL x0):=fun σ=>jb (.ae _);have e2:∀ σ : aj,View σ (.agg [I rx.op,I rx.v.kind,I rx.v.n,.str rx.v.s,.str rx.s,.aK false EX (rx.l.map aL)]) (aL rx):=fun σ=>View.eqv (aR _).symm (dD _);rw[aR]at cr;simp only[bD]at cr;cases rb with
  | true =>
    simp only[if_true,Ag];generalize aL x0=E at *;refine ai.aG (Bi (by simp) ?_) (by simp);unfold xS aP;intro Q au aA aB;repeat' first|refine aq ?_|refine bh cr ?_|refine ak ?_ ?_<;>intro hw<;>try omega|fail
    all_goals first|exact bq (iF (e1 _))|(exfalso;omega)
  | false =>
    simp only[Bool.false_eq_true,if_false,Ag];generalize aL rx=E at *;refine ai.aG (Bi (by simp) ?_) (by simp);unfold xS aP;intro Q au aA aB;repeat' first|refine aq ?_|refine bh cr ?_|refine ak ?_ ?_<;>intro hw<;>try omega|fail
    all_goals first|exact bq (iF (e2 _))|(exfalso;omega)
def aeJ(T:List Tok): (d_ T 0 0).2.2=0\/(d_ T 0 0).2.2=11:=by
 unfold d_;rw[if_neg (by omega)];split
 ·exact .inr rfl
 ·exact .inl rfl
def Ns(s:aJ)(hs:s.length<=2 ^ 30): ai Tryz.prog AW [.str s] (Ag (dF s)):=by
 have cl:=Tj s hs;obtain⟨f1,f2⟩:=oO s;have cr:=Qw (bw s).1 0 0 (by omega) (fun q=>by have:=f2 q;omega);have hz:=HZ (bw s).1 0 0;obtain⟨Qu,CH⟩:=Mp (bw s).1 0 0;have he:=aeJ (bw s).1
 have hP:dF s=if(bw s).2.2≠0 then(x0,(bw s).2.1,(bw s).2.2)
  else if(d_ (bw s).1 0 0).2.1<(bw s).1.length then(x0,((bw s).1.getD (d_ (bw s).1 0 0).2.1.toNat default).pos,11)
  else if(d_ (bw s).1 0 0).2.2≠0 then(x0,(s.length:Int),(d_ (bw s).1 0 0).2.2)
  else if 12<i_ (d_ (bw s).1 0 0).1 then(x0,0,12)
  else((d_ (bw s).1 0 0).1,0,0):=rfl
 rw[hP];clear hP f2;generalize d_ (bw s).1 0 0=r at *;generalize bw s=L at *;obtain⟨T,la,le⟩:=L;obtain⟨rx,rn,re⟩:=r;dsimp only at *;have cd:=HU rx (by omega);obtain⟨n,rfl⟩:∃ n:Nat,rn=n:=⟨rn.toNat,by omega⟩;have e1:∀ σ : aj,View σ (.agg [I 0,I 0,I 0,.str [],.str [],.ae]) (aL x0):=fun σ=>jb (.ae _);have e2:∀ σ : aj,View σ (.agg [I rx.op,I rx.v.kind,I rx.v.n,.str rx.v.s,.str rx.s,.aK false EX (rx.l.map aL)]) (aL rx):=fun σ=>View.eqv (aR _).symm (dD _);simp only[Ag]at cr ⊢;rw[aR]at cr cd;simp only[OC,sD]at cl cr;by_cases h1:le≠0
 ·rw[if_pos h1];generalize aL x0=E at *;refine ai.aG (pP (by simp) ?_) (by simp);unfold oh aP;intro Q au aA aB;repeat' first|refine aq ?_|refine aC cl ?_|refine ak ?_ ?_<;>intro hw<;>try omega|fail
  all_goals exact bq (iF (e1 _))
 rw[if_neg h1];by_cases h2:(n:Int)<T.length
 ·rw[if_pos h2,er];generalize aL x0=E at *;have hn:n<T.length:=by omega
  refine ai.aG (pP (by simp) ?_) (by simp);unfold oh aP;intro Q au aA aB;repeat' first|refine aq ?_|refine aC cl ?_|refine aC cr ?_|refine ak ?_ ?_<;>intro hw<;>try omega|fail
  all_goals exact bq (iF (e1 _))
 rw[if_neg h2];by_cases h3:re≠0
 ·rw[if_pos h3]
  obtain rfl : re = 11 := by rcases he with h | h
                             ·exact absurd h h3
                             ·exact h
  generalize aL x0=E at *;refine ai.aG (pP (by simp) ?_) (by simp);unfold oh aP;intro Q au aA aB;repeat' first|refine aq ?_|refine aC cl ?_|refine aC cr ?_|refine ak ?_ ?_<;>intro hw<;>try omega|fail
  all_goals exact bq (iF (e1 _))
 rw[if_neg h3];by_cases h4:12<i_ rx
 ·rw[if_pos h4];generalize aL x0=E at *;refine ai.aG (pP (by simp) ?_) (by simp);unfold oh aP;intro Q au aA aB;repeat' first|refine aq ?_|refine aC cl ?_|refine aC cr ?_|refine aC cd ?_|refine ak ?_ ?_<;>intro hw<;>try omega|fail
  all_goals exact bq (iF (e1 _))
 ·rw[if_neg h4];generalize aL rx=E at *;refine ai.aG (pP (by simp) ?_) (by simp);unfold oh aP;intro Q au aA aB;repeat' first|refine aq ?_|refine aC cl ?_|refine aC cr ?_|refine aC cd ?_|refine ak ?_ ?_<;>intro hw<;>try omega|fail
  all_goals exact bq (iF (e2 _))
def eI(n:Int): AV:=I n
attribute [go_sem] eI
def agb(n:Int): (eI n).dn=true:=rfl
def Lt(l:List Int): AV.cy (l.map eI)=true:=gZ _ _ agb
def jc(a b:Int): Bool:=decide (a=b) || decide (a=0) || decide (b=0)
def YT(a b:Int): Int:=if a=0 then b else a
def rO(a b:Int): ai Tryz.prog jL [I a,I b] (.bool (jc a b)):=by
 refine ai.aG (R8 (by simp) ?_) rfl;unfold Jh aP;intro Q au aA aB;repeat' first|refine aq ?_|refine ak ?_ ?_<;>intro hw<;>try omega|fail
 all_goals refine aM ?_ rfl
 all_goals (refine congrArg AV.bool ?_;rw[aV];simp only[jc,aF,dB,decide_eq_true_eq,beq_iff_eq,bZ,decide_eq_false_iff_not,beq_eq_false_iff_ne,ne_eq,true_iff,false_iff,iff_true,iff_false,Bool.false_eq_true,gX,not_and,not_or]at *;omega)
def um(a b:Int): ai Tryz.prog fT [I a,I b] (.bool (jc a b)):=by
 refine ai.aG (Us (by simp) ?_) rfl;unfold KP aP;intro Q au aA aB;repeat' first|refine aq ?_|refine ak ?_ ?_<;>intro hw<;>try omega|fail
 all_goals refine aM ?_ rfl
 all_goals (refine congrArg AV.bool ?_;rw[aV];simp only[jc,aF,dB,decide_eq_true_eq,beq_iff_eq,bZ,decide_eq_false_iff_not,beq_eq_false_iff_ne,ne_eq,true_iff,false_iff,iff_true,iff_false,Bool.false_eq_true,gX,not_and,not_or]at *;omega)
def Ju(a b:Int): ai Tryz.prog mT [I a,I b] (I (YT a b)):=by
 refine ai.aG (GF (by simp) ?_) rfl;unfold xX aP;intro Q au aA aB;repeat' first|refine aq ?_|refine ak ?_ ?_<;>intro hw<;>try omega|fail
 all_goals refine aM ?_ rfl
 all_goals (unfold YT;first|rw[if_neg (by assumption)]|rw[if_pos (by assumption)]|(subst a;rfl))
def V9(a b:Int): ai Tryz.prog BU [I a,I b] (I (YT a b)):=by
 refine ai.aG (XF (by simp) ?_) rfl;unfold Qf aP;intro Q au aA aB;repeat' first|refine aq ?_|refine ak ?_ ?_<;>intro hw<;>try omega|fail
 all_goals refine aM ?_ rfl
 all_goals (unfold YT;first|rw[if_neg (by assumption)]|rw[if_pos (by assumption)]|(subst a;rfl))
def YU{α : Type}{p : α->Bool}(l:List α): l.all p = !(l.any fun x=> !(p x)):=by
 induction l with
 | nil=>rfl
 | cons x r ih=>simp[ih]
def Qx(w:Int)(l:List Int)(hl:l.length<=2 ^ 60): ai Tryz.prog sU [I w,.aK false E1 (l.map eI)] (.bool (l.all fun k=>jc k w)):=by
 refine ai.aG (UD (by simp) ?_) (by simp[AV.dn,AV.cy,Lt]);unfold K7 aP;intro Q au aA aB;repeat' first|refine aq ?_|refine ak ?_ ?_<;>intro hw<;>try omega|fail
 with_reducible refine bn [4,6,9,10,11,12,13,14,15,16,17] (fun i:Nat=>[(9,I i)]) (fun _=>[]) (fun i=>i<=l.length/\ ∀ k,k<i->(!(jc (l.getD k default) w))=false) (fun i=>l.length-i) (0) ?_ ?_ ?_ ?_
 ·simp
 ·rfl
 ·exact at_
 rintro i r ⟨h1,h2⟩;by_cases hi:i<l.length
 ·repeat' first|refine aq ?_|refine aC (rO _ _) ?_|refine ak ?_ ?_<;>intro hw<;>try omega|fail
  ·refine aM ?_ rfl;rw[YU,DI (p:=fun x=> !(jc x w)) hi (by simpa using hw)];rfl
  ·refine⟨i+1,?_,?_,by first|rfl|(simp[go_sem];done),bJ,at_⟩<;>(try dsimp only)
   ·exact⟨by omega,bf h2 (by simpa using hw)⟩
   ·omega
 ·repeat' first|refine aq ?_|refine ak ?_ ?_<;>intro hw<;>try omega|fail
  refine aM ?_ rfl;rw[YU,zj (p:=fun x=> !(jc x w)) (fun k hk=>h2 k (by omega))];rfl
def MV(l:List Int)(v:Int)(hl:l.length<=2 ^ 60): ai Tryz.prog rX [.aK false E1 (l.map eI),I v] (I (jI (fun x=>x==v) l)):=by
 refine ai.aG (HO (by simp) ?_) (by simp[AV.dn,AV.cy,Lt]);unfold yJ aP;intro Q au aA aB;repeat' first|refine aq ?_|refine ak ?_ ?_<;>intro hw<;>try omega|fail
 with_reducible refine bn [4,5,8,9,10,11,12,13,14,15,16,17,18] (fun i:Nat=>[(8,I i)]) (fun _=>[]) (fun i=>i<=l.length/\ ∀ k,k<i->(l.getD k default==v)=false) (fun i=>l.length-i) (0) ?_ ?_ ?_ ?_
 ·simp
 ·rfl
 ·exact at_
 rintro i r ⟨h1,h2⟩;by_cases hi:i<l.length
 ·repeat' first|refine aq ?_|refine ak ?_ ?_<;>intro hw<;>try omega|fail
  ·refine aM ?_ rfl;rw[pR (p:=fun x=>x==v) hi h2 (by simp_all)]
  ·refine⟨i+1,?_,?_,by first|rfl|(simp[go_sem];done),bJ,at_⟩<;>(try dsimp only)
   ·exact⟨by omega,bf h2 (by rw[beq_eq_false_iff_ne];intro h;exact hw h.symm)⟩
   ·omega
 ·repeat' first|refine aq ?_|refine ak ?_ ?_<;>intro hw<;>try omega|fail
  refine aM ?_ rfl;rw[oN (p:=fun x=>x==v) (fun k hk=>h2 k (by omega))]
def H7(l:List Int)(v:Int)(hl:l.length<=2 ^ 60): ai Tryz.prog oX [.aK false E1 (l.map eI),I v] (.bool (decide (0<=jI (fun x=>x==v) l))):=by
 refine ai.aG (Ec (by simp) ?_) (by simp[AV.dn,AV.cy,Lt]);unfold vo aP;intro Q au aA aB;repeat' first|refine aq ?_|refine aC (MV l v hl) ?_|refine ak ?_ ?_<;>intro hw<;>try omega|fail
 all_goals exact aM rfl rfl
def tB(op:Int)(ks:List Int): Int × Bool :=
 if op=3\/op=5\/op=6\/op=7 then(1,ks.all fun k=>jc k 1)
 else if op=4 then(if YT (ks.getD 0 0) (ks.getD 1 0)=2 then(2,ks.all fun k=>jc k 2)else (1,ks.all fun k=>jc k 1))
 else if op=8\/op=9 then(3,jc (ks.getD 0 0) (ks.getD 1 0))
 else if op=10\/op=11\/op=12\/op=13 then(3,jc (ks.getD 0 0) (ks.getD 1 0) && !(decide (0<=jI (fun x=>x==3) ks)))
 else if op=14\/op=15 then(3,ks.all fun k=>jc k 3)
 else(YT (ks.getD 1 0) (ks.getD 2 0),jc (ks.getD 0 0) 3 && jc (ks.getD 1 0) (ks.getD 2 0))
def V_(a:Int): ai Tryz.prog og [I 3,.aK false E1 ([a].map eI)] (.bX [I (tB 3 [a]).1,.bool (tB 3 [a]).2]):=by
 have h:=fun w=>Qx w [a] (by simp);simp only[List.map,eI]at h ⊢;refine ai.aG (zg (by simp) ?_) rfl;unfold vU aP;intro Q au aA aB;repeat' first|simp (disch:=omega) only[go_sem,au,aA,aB,Int.reduceToNat]|refine aq ?_|refine aC (h _) ?_|refine ak ?_ ?_<;>intro hw<;>try omega|fail
 all_goals exact aT rfl rfl
def Wa(op a b:Int)(h4:4<=op)(h15:op<=15): ai Tryz.prog og [I op,.aK false E1 ([a,b].map eI)] (.bX [I (tB op [a,b]).1,.bool (tB op [a,b]).2]):=by
 have h:=fun w=>Qx w [a,b] (by simp);have hc:=H7 [a,b] 3 (by simp);simp only[List.map,eI]at h hc ⊢;generalize hR:tB op [a,b]=R;refine ai.aG (zg (by simp) ?_) rfl;unfold vU aP;intro Q au aA aB;repeat' first|simp (disch:=omega) only[go_sem,au,aA,aB,Int.reduceToNat]|refine aq ?_|refine aC (h _) ?_|refine aC hc ?_|refine aC (Ju a b) ?_|refine aC (rO a b) ?_|refine ak ?_ ?_<;>intro hw<;>try omega|fail
 all_goals (refine aT ?_ rfl;clear au aA aB h hc;subst hR)
 all_goals (simp_all[tB];done)
def Wb(a b c:Int): ai Tryz.prog og [I 16,.aK false E1 ([a,b,c].map eI)] (.bX [I (tB 16 [a,b,c]).1,.bool (tB 16 [a,b,c]).2]):=by
 simp only[List.map,eI];refine ai.aG (zg (by simp) ?_) rfl;unfold vU aP;intro Q au aA aB;repeat' first|simp (disch:=omega) only[go_sem,au,aA,aB,Int.reduceToNat]|refine aq ?_|refine aC (Ju b c) ?_|refine aC (rO a 3) ?_|refine aC (rO b c) ?_|refine ak ?_ ?_<;>intro hw<;>try omega|fail
 all_goals (refine aT ?_ rfl;simp_all[tB])
def qJ(op:Int)(ks:List Int): Int × Int:=if(tB op ks).2 then((tB op ks).1,0)else (0,14)
def ajZ(a b:Int): decide (0<=jI (fun x=>x==3) [a,b])=(decide (a=3) || decide (b=3)):=by
 by_cases h1:a=3
 ·subst h1;simp[jI,List.findIdx?_cons]
 ·by_cases h2:b=3
  ·subst h2;simp[jI,List.findIdx?_cons,h1]
  ·simp[jI,List.findIdx?_cons,h1,h2]
def abJ(a:Int): ai Tryz.prog ud [I 3,.aK false E1 ([a].map eI)] (.bX [I (qJ 3 [a]).1,I (qJ 3 [a]).2]):=by
 simp only[List.map,eI];generalize hR:qJ 3 [a]=R;refine ai.aG (Fv (by simp) ?_) rfl;unfold BX aP;intro Q au aA aB;repeat' first|simp (disch:=omega) only[go_sem,au,aA,aB,Int.reduceToNat]|refine aq ?_|refine aC (um _ _) ?_|refine ak ?_ ?_<;>intro hw<;>try omega|fail
 all_goals (refine aT ?_ rfl;clear au aA aB;subst hR;simp_all[qJ,tB])
def abK(op a b:Int)(h4:4<=op)(h15:op<=15): ai Tryz.prog ud [I op,.aK false E1 ([a,b].map eI)] (.bX [I (qJ op [a,b]).1,I (qJ op [a,b]).2]):=by
 simp only[List.map,eI];generalize hR:qJ op [a,b]=R;refine ai.aG (Fv (by simp) ?_) rfl;unfold BX aP;intro Q au aA aB;repeat' first|simp (disch:=omega) only[go_sem,au,aA,aB,Int.reduceToNat]|refine aq ?_|refine aC (um _ _) ?_|refine aC (V9 _ _) ?_|refine ak ?_ ?_<;>intro hw<;>try omega|fail
 all_goals (refine aT ?_ rfl;clear au aA aB;subst hR)
 all_goals first|(simp_all[qJ,tB,ajZ];done)|skip
def abL(a b c:Int): ai Tryz.prog ud [I 16,.aK false E1 ([a,b,c].map eI)] (.bX [I (qJ 16 [a,b,c]).1,I (qJ 16 [a,b,c]).2]):=by
 simp only[List.map,eI];generalize hR:qJ 16 [a,b,c]=R;refine ai.aG (Fv (by simp) ?_) rfl;unfold BX aP;intro Q au aA aB;repeat' first|simp (disch:=omega) only[go_sem,au,aA,aB,Int.reduceToNat]|refine aq ?_|refine aC (um _ _) ?_|refine aC (V9 _ _) ?_|refine ak ?_ ?_<;>intro hw<;>try omega|fail
 all_goals (refine aT ?_ rfl;clear au aA aB;subst hR;simp_all[qJ,tB])
def uH (fn : FuncId) (cap : List AV) (hcap : AV.cy cap = true) (p : cI -> Bool) (l : List cI) (h : ∀ k, k < l.length -> ai Tryz.prog fn (bE (l.getD k default) :: cap) (.bool (p (l.getD k default)))) (hl : l.length <= 2 ^ 62) :
    ai Tryz.prog j5 [bB l,.fn (.func fn) [] cap] (I (jI p l)):=by
 refine ai.aG (Bj (by simp) ?_) (by simp[AV.dn,AV.cy,hcap,eT]);unfold sy aP;intro Q au aA aB;repeat' first|refine aq ?_|refine ak ?_ ?_<;>intro hw<;>try omega|fail
 with_reducible refine bn [4,5,8,9,10,11,12,13,14,15,16,17,18] (fun i:Nat=>[(8,I i)]) (fun _=>[]) (fun i=>i<=l.length/\ ∀ k,k<i->p (l.getD k default)=false) (fun i=>l.length-i) (0) ?_ ?_ ?_ ?_
 ·simp
 ·rfl
 ·exact at_
 ·rintro i r ⟨hi,hp⟩;by_cases hin:i<l.length
  ·have hx:=h i hin;simp only[bE,cH]at hx;repeat' first|refine aq ?_|refine aC hx ?_|refine ak ?_ ?_<;>intro hw<;>try omega|fail
   ·refine aM ?_ rfl;refine congrArg I ?_;exact(pR hin hp hw).symm
   ·refine⟨i+1,?_,?_,by first|rfl|(simp[go_sem];done),bJ,at_⟩<;>(try dsimp only)
    ·exact⟨by omega,bf hp hw⟩
    ·omega
  ·repeat' first|refine aq ?_|refine ak ?_ ?_<;>intro hw<;>try omega|fail
   refine aM ?_ rfl;refine congrArg I ?_;exact(oN fun k hk=>hp k (by omega)).symm
def wP(l:List cI)(s:aJ): Int:=jI (fun c=>c.name==s) l
def XV(c:cI)(s:aJ): ai Tryz.prog vQ [bE c,.fR E1 (.str s) 0] (.bool (c.name==s)):=by
 refine ai.aG (Se (by simp) ?_) (by simp[AV.dn,AV.cy,DC]);unfold Jo aP;intro Q au aA aB;repeat' first|refine aq ?_|refine ak ?_ ?_<;>intro hw<;>try omega|fail
 all_goals exact aM rfl rfl
def Tm(l:List cI)(s:aJ)(hl:l.length<=2 ^ 60): ai Tryz.prog zD [bB l,.str s] (I (wP l s)):=by
 have hc:=uH vQ [.fR E1 (.str s) 0] rfl (fun c=>c.name==s) l (fun k _=>XV _ s) (by omega);simp only[bB]at hc;refine ai.aG (VO (by simp) ?_) (by simp[AV.dn,AV.cy,eT]);unfold Nd aP;intro Q au aA aB;repeat' first|refine aq ?_|refine Td hc ?_|refine ak ?_ ?_<;>intro hw<;>try omega|fail
 all_goals exact aM rfl rfl
def Wc(l:List cI)(s:aJ)(hl:l.length<=2 ^ 60): ai Tryz.prog BR [bB l,.str s] (I (wP l s)):=by
 refine ai.aG (XC (by simp) ?_) (by simp[AV.dn,AV.cy,eT]);unfold Qb aP;intro Q au aA aB;repeat' first|refine aq ?_|refine ak ?_ ?_<;>intro hw<;>try omega|fail
 with_reducible refine bn [4,5,6,7,8,9,10,11,12,13,14,15,16,17,18,19] (fun i:Nat=>[(5,I i)]) (fun _=>[]) (fun i=>i<=l.length/\ ∀ k,k<i->((l.getD k default).name==s)=false) (fun i=>l.length-i) (0) ?_ ?_ ?_ ?_
 ·simp
 ·rfl
 ·exact at_
 rintro i r ⟨hi,hp⟩;by_cases hin:i<l.length
 ·repeat' first|refine aq ?_|refine ak ?_ ?_<;>intro hw<;>try omega|fail
  ·refine aM ?_ rfl;refine congrArg I ?_;exact(pR (p:=fun c:cI=>c.name==s) hin hp (by simpa using hw)).symm
  ·refine⟨i+1,?_,?_,by first|rfl|(simp[go_sem];done),bJ,at_⟩<;>(try dsimp only)
   ·exact⟨by omega,bf hp (by simpa using hw)⟩
   ·omega
 ·repeat' first|refine aq ?_|refine ak ?_ ?_<;>intro hw<;>try omega|fail
  refine aM ?_ rfl;refine congrArg I ?_;exact(oN (p:=fun c:cI=>c.name==s) fun k hk=>hp k (by omega)).symm
def x_{op:Int}{n:Nat}(h:(n:Int)=jJ op)(h1:op≠1)(h2:op≠2): (op=3/\n=1)\/(4<=op/\op<=15/\n=2)\/(op=16/\n=3):=by
 unfold jJ at h;rw[if_neg (by omega)]at h;by_cases h3:op=3
 ·rw[if_pos h3]at h;omega
 rw[if_neg h3]at h;by_cases h16:op=16
 ·rw[if_pos h16]at h;omega
 rw[if_neg h16]at h;by_cases hr:4<=op/\op<=15
 ·rw[if_pos (Qo op hr.1 hr.2).2]at h;omega
 ·rw[B8 op (by omega)]at h;rw[if_neg (by decide)]at h;omega
def Sn(op:Int)(ks:List Int)(h:(ks.length:Int)=jJ op)(h1:op≠1)(h2:op≠2): ai Tryz.prog og [I op,.aK false E1 (ks.map eI)] (.bX [I (tB op ks).1,.bool (tB op ks).2]):=by
 rcases x_ h h1 h2 with⟨rfl,hn⟩|⟨h4,h15,hn⟩|⟨rfl,hn⟩
 ·match ks,hn with
  | [a],_=>exact V_ a
 ·match ks,hn with
  | [a,b],_=>exact Wa op a b h4 h15
 ·match ks,hn with
  | [a,b,c],_=>exact Wb a b c
def XW(op:Int)(ks:List Int)(h:(ks.length:Int)=jJ op)(h1:op≠1)(h2:op≠2): ai Tryz.prog ud [I op,.aK false E1 (ks.map eI)] (.bX [I (qJ op ks).1,I (qJ op ks).2]):=by
 rcases x_ h h1 h2 with⟨rfl,hn⟩|⟨h4,h15,hn⟩|⟨rfl,hn⟩
 ·match ks,hn with
  | [a],_=>exact abJ a
 ·match ks,hn with
  | [a,b],_=>exact abK op a b h4 h15
 ·match ks,hn with
  | [a,b,c],_=>exact abL a b c
mutual
def gT(cs:List cI): Expr->Int × Int
 | .mk op v s l =>
   if op=1 then(v.kind,0)
   else if op=2 then(if wP cs s<0 then(0,13)else ((cs.getD (wP cs s).toNat default).kind,0))
   else if(mg cs l).2=0 then qJ op (mg cs l).1 else(0,(mg cs l).2)
def mg(cs:List cI): List Expr->List Int × Int
 | []=>([],0)
 | x :: r =>
   if(gT cs x).2≠0 then([],(gT cs x).2)
   else if(mg cs r).2≠0 then([],(mg cs r).2)
   else((gT cs x).1::(mg cs r).1,0)
end
def OL{cs:List cI}: ∀ {l:List Expr} {ks:List Int},ks.length=l.length->(∀ k,k<l.length->gT cs (l.getD k default)=(ks.getD k 0,0))->mg cs l=(ks,0)
 | [],[],_,_=>by simp only[mg]
 | x :: r, k :: ks, hl, h => by
   have h0:=h 0 (by simp);simp only[cQ]at h0;have hr:=OL (l:=r) (ks:=ks) (by simpa using hl) (fun i hi=>by simpa using h (i+1) (by simpa using hi));simp[mg,h0,hr]
def Lu{cs:List cI}: ∀ {l:List Expr} {i:Nat} {e:Int},i<l.length->(∀ k,k<i->(gT cs (l.getD k default)).2=0)->(gT cs (l.getD i default)).2=e->e≠0->mg cs l=([],e)
 | x :: r, 0, e, _, _, he, hne => by
   simp only[cQ]at he;simp[mg,he,hne]
 | x :: r, i + 1, e, hi, h, he, hne => by
   have h0:=h 0 (by omega);simp only[cQ]at h0;have hr:=Lu (l:=r) (i:=i) (e:=e) (by simpa using hi) (fun k hk=>by simpa using h (k+1) (by omega)) (by simpa using he) hne;simp[mg,h0,hr,hne]
def YV{α : Type}[Inhabited α](p : α->Bool)(l:List α): jI p l<l.length:=by
 rcases wj p l with⟨h1,h2⟩|⟨i,h1,h2,h3⟩
 ·rw[h1];omega
 ·rw[h2];omega
def XX(cs:List cI)(hcs:cs.length<=2 ^ 60)(x:Expr): cA x=true->eK x<=2 ^ 60->ai Tryz.prog vP [aL x,bB cs] (.bX [I (gT cs x).1,I (gT cs x).2]):=by
 induction x using Expr.ind with
 | h op v s l ih =>
   intro hr hz;simp only[eK]at hz;have hl:=zk l
   have Wd:(l.length:Int)=jJ op:=by
    simp only[cA,aF,decide_eq_true_eq]at hr;exact hr.1
   obtain⟨vk,vn,vs⟩:=v;have hA:=Tm cs s hcs;have hAl:=YV (fun c:cI=>c.name==s) cs
   change wP cs s<cs.length at hAl
   simp only[bB]at hA ⊢;by_cases h1:op=1
   ·have e:gT cs (.mk op ⟨vk,vn,vs⟩ s l)=(vk,0):=by simp only[gT,if_pos h1]
    rw[e];refine ai.aG (ug (by simp) ?_) (by simp);unfold ri aP;intro Q au aA aB;repeat' first|refine aq ?_|refine ak ?_ ?_<;>intro hw<;>try omega|fail
    exact aT rfl rfl
   by_cases h2:op=2
   ·have e:gT cs (.mk op ⟨vk,vn,vs⟩ s l)=if wP cs s<0 then(0,13)else ((cs.getD (wP cs s).toNat default).kind,0):=by simp only[gT,if_neg h1,if_pos h2]
    rw[e];generalize wP cs s=i at *;by_cases hi:i<0
    ·rw[if_pos hi];refine ai.aG (ug (by simp) ?_) (by simp);unfold ri aP;intro Q au aA aB;repeat' first|refine aq ?_|refine aC hA ?_|refine ak ?_ ?_<;>intro hw<;>try omega|fail
     exact aT rfl rfl
    ·rw[if_neg hi];obtain⟨n,rfl⟩:∃ n:Nat,i=n:=⟨i.toNat,by omega⟩;have hn:n<cs.length:=by omega
     refine ai.aG (ug (by simp) ?_) (by simp);unfold ri aP;intro Q au aA aB;repeat' first|refine aq ?_|refine aC hA ?_|refine ak ?_ ?_<;>intro hw<;>try omega|fail
     exact aT rfl rfl
   have hrl:tj l=true:=by
    simp only[cA,if_neg h1,if_neg h2,aF]at hr;exact hr.2.2
   have PD:∀ k,k<l.length->cA (l.getD k default)=true:=fun k hk=>by
    rw[x8]at hrl;simp only[bZ,List.any_eq_false,bZ,Bool.not_eq_false']at hrl;simpa using hrl _ (a_ hk)
   have hk:∀ k,k<l.length->_:=fun k h=>ih _ (a_ h) (PD k h) (by have:=wO (a_ h);omega);have e:gT cs (.mk op ⟨vk,vn,vs⟩ s l)=if(mg cs l).2=0 then qJ op (mg cs l).1 else(0,(mg cs l).2):=by simp only[gT,if_neg h1,if_neg h2]
   rw[e];have Jt:l.length<=3:=by rcases x_ Wd h1 h2 with h|h|h<;>omega
   have aan:=fun ks h=>Sn op ks h h1 h2;clear hA hAl e hr hrl;simp only[bB]at hk;refine ai.aG (ug (by simp) ?_) (by simp);unfold ri aP;intro Q au aA aB;repeat' first|refine aq ?_|refine ak ?_ ?_<;>intro hw<;>try omega|fail
   with_reducible refine bn [4,5,7,9,10,11,37,38,39,40,41,42,43,44,45,46,47,48,49,50,51,52,53,54] (fun q:Nat × List Int × List aX=>[(37,I q.1),(7,.own E1 1 q.1 0 q.1)]) (fun q=> .cells [I op,I vk,I vn,.str vs,.str s,.aK false EX (l.map aL)]:: .vec E1 (q.2.1.map eI)::q.2.2) (fun q=>q.1<=l.length/\q.2.1.length=q.1/\ ∀ k,k<q.1->gT cs (l.getD k default)=(q.2.1.getD k 0,0)) (fun q=>l.length-q.1) (0,[],[]) ?_ ?_ ?_ ?_
   ·simp
   ·rfl
   ·exact at_
   rintro⟨i,ks,τ⟩ r ⟨a1,a2,a3⟩;dsimp only at a1 a2 a3;by_cases hi:i<l.length
   ·have hx:=hk i hi;generalize hK:gT cs (l.getD i default)=K at *;obtain⟨kk,ke⟩:=K;rw[aR]at hx;repeat' first|simp (disch:=omega) only[go_sem,au,aA,aB,a2]|refine aq ?_|refine aC hx ?_|refine ak ?_ ?_<;>intro hw<;>try omega|fail
    ·have:mg cs l=([],ke):=Lu hi (fun k h=>by rw[a3 k h]) (by rw[hK]) (by assumption);rw[this];refine aT ?_ rfl;dsimp only;rw[if_neg (by assumption)]
    ·refine⟨(i+1,ks++[kk],τ++[.cells [I (l.getD i default).op,I (l.getD i default).v.kind,I (l.getD i default).v.n,.str (l.getD i default).v.s,.str (l.getD i default).s,.aK false EX ((l.getD i default).l.map aL)]]),?_,?_,?_,bJ,at_⟩
     ·refine⟨by dsimp only;omega,by simp[a2],bf (fun k hk2=>?_) ?_⟩
      ·rw[a3 k hk2];simp[aE,List.getElem?_append_left (show k<ks.length by omega)]
      ·rw[hK];have:ke=0:=by assumption
       rw[this,<-a2];simp[aE]
     ·dsimp only;omega
     ·simp[eI]
   ·have hie:i=l.length:=by omega
    subst hie;have w6:=OL a2 a3;rw[w6]at au aA;have hc:=aan ks (by rw[a2];exact Wd);have hpk:AV.cy (ks.map eI)=true:=Lt ks;have hlk:(ks.map eI).length=l.length:=by simp[a2]
    simp only[if_true]at au aA;unfold qJ at au aA;clear w6 a3;generalize tB op ks=R at *;obtain⟨rk,rb⟩:=R;repeat' first|simp (disch:=omega) only[go_sem,au,aA,aB,a2]|refine aq ?_|(with_reducible refine wC hc (.cons (View.refl _ rfl) (.cons (View.vec rfl hlk.symm hlk.symm hpk) (.nil _))) rfl ?_)|refine ak ?_ ?_<;>intro hw<;>try omega|fail
    all_goals (refine aT ?_ rfl;simp_all)
def aao(cs:List cI)(hcs:cs.length<=2 ^ 60)(x:Expr): cA x=true->eK x<=2 ^ 60->ai Tryz.prog xD [aL x,bB cs] (.bX [I (gT cs x).1,I (gT cs x).2]):=by
 induction x using Expr.ind with
 | h op v s l ih =>
   intro hr hz;simp only[eK]at hz;have hl:=zk l
   have Wd:(l.length:Int)=jJ op:=by
    simp only[cA,aF,decide_eq_true_eq]at hr;exact hr.1
   obtain⟨vk,vn,vs⟩:=v;have hA:=Wc cs s hcs;have hAl:=YV (fun c:cI=>c.name==s) cs
   change wP cs s<cs.length at hAl
   simp only[bB]at hA ⊢;by_cases h1:op=1
   ·have e:gT cs (.mk op ⟨vk,vn,vs⟩ s l)=(vk,0):=by simp only[gT,if_pos h1]
    rw[e];refine ai.aG (vS (by simp) ?_) (by simp);unfold s_ aP;intro Q au aA aB;repeat' first|refine aq ?_|refine ak ?_ ?_<;>intro hw<;>try omega|fail
    exact aT rfl rfl
   by_cases h2:op=2
   ·have e:gT cs (.mk op ⟨vk,vn,vs⟩ s l)=if wP cs s<0 then(0,13)else ((cs.getD (wP cs s).toNat default).kind,0):=by simp only[gT,if_neg h1,if_pos h2]
    rw[e];generalize wP cs s=i at *;by_cases hi:i<0
    ·rw[if_pos hi];refine ai.aG (vS (by simp) ?_) (by simp);unfold s_ aP;intro Q au aA aB;repeat' first|refine aq ?_|refine aC hA ?_|refine ak ?_ ?_<;>intro hw<;>try omega|fail
     exact aT rfl rfl
    ·rw[if_neg hi];obtain⟨n,rfl⟩:∃ n:Nat,i=n:=⟨i.toNat,by omega⟩;have hn:n<cs.length:=by omega
     refine ai.aG (vS (by simp) ?_) (by simp);unfold s_ aP;intro Q au aA aB;repeat' first|refine aq ?_|refine aC hA ?_|refine ak ?_ ?_<;>intro hw<;>try omega|fail
     exact aT rfl rfl
   have hrl:tj l=true:=by
    simp only[cA,if_neg h1,if_neg h2,aF]at hr;exact hr.2.2
   have PD:∀ k,k<l.length->cA (l.getD k default)=true:=fun k hk=>by
    rw[x8]at hrl;simp only[bZ,List.any_eq_false,bZ,Bool.not_eq_false']at hrl;simpa using hrl _ (a_ hk)
   have hk:∀ k,k<l.length->_:=fun k h=>ih _ (a_ h) (PD k h) (by have:=wO (a_ h);omega);have e:gT cs (.mk op ⟨vk,vn,vs⟩ s l)=if(mg cs l).2=0 then qJ op (mg cs l).1 else(0,(mg cs l).2):=by simp only[gT,if_neg h1,if_neg h2]
   rw[e];have Jt:l.length<=3:=by rcases x_ Wd h1 h2 with h|h|h<;>omega
   have aan:=fun ks h=>XW op ks h h1 h2;clear hA hAl e hr hrl;simp only[bB]at hk;refine ai.aG (vS (by simp) ?_) (by simp);unfold s_ aP;intro Q au aA aB;repeat' first|refine aq ?_|refine ak ?_ ?_<;>intro hw<;>try omega|fail
   with_reducible refine bn [4,5,7,8,9,10,31,32,33,34,35,36,37,38,39,40,41,42,43,44,45,46,47,48,49,50,51,52,53,54] (fun q:Nat × List Int=>[(8,I q.1),(7,.own E1 1 q.1 0 q.1)]) (fun q=> .cells [I op,I vk,I vn,.str vs,.str s,.aK false EX (l.map aL)]::[.vec E1 (q.2.map eI)]) (fun q=>q.1<=l.length/\q.2.length=q.1/\ ∀ k,k<q.1->gT cs (l.getD k default)=(q.2.getD k 0,0)) (fun q=>l.length-q.1) (0,[]) ?_ ?_ ?_ ?_
   ·simp
   ·rfl
   ·exact at_
   rintro⟨i,ks⟩ r ⟨a1,a2,a3⟩;dsimp only at a1 a2 a3;by_cases hi:i<l.length
   ·have hx:=hk i hi;generalize hK:gT cs (l.getD i default)=K at *;obtain⟨kk,ke⟩:=K;rw[aR]at hx;repeat' first|simp (disch:=omega) only[go_sem,au,aA,aB,a2]|refine aq ?_|refine aC hx ?_|refine ak ?_ ?_<;>intro hw<;>try omega|fail
    ·have:mg cs l=([],ke):=Lu hi (fun k h=>by rw[a3 k h]) (by rw[hK]) (by assumption);rw[this];refine aT ?_ rfl;dsimp only;rw[if_neg (by assumption)]
    ·refine⟨(i+1,ks++[kk]),?_,?_,?_,bJ,at_⟩
     ·refine⟨by dsimp only;omega,by simp[a2],bf (fun k hk2=>?_) ?_⟩
      ·rw[a3 k hk2];simp[aE,List.getElem?_append_left (show k<ks.length by omega)]
      ·rw[hK];have:ke=0:=by assumption
       rw[this,<-a2];simp[aE]
     ·dsimp only;omega
     ·simp[eI]
   ·have hie:i=l.length:=by omega
    subst hie;have w6:=OL a2 a3;rw[w6]at au aA;have hc:=aan ks (by rw[a2];exact Wd);have hpk:AV.cy (ks.map eI)=true:=Lt ks;have hlk:(ks.map eI).length=l.length:=by simp[a2]
    simp only[if_true]at au aA;clear w6 a3;generalize qJ op ks=R at *;obtain⟨rk,rb⟩:=R;repeat' first|simp (disch:=omega) only[go_sem,au,aA,aB,a2]|refine aq ?_|(with_reducible refine wC hc (.cons (View.refl _ rfl) (.cons (View.vec rfl hlk.symm hlk.symm hpk) (.nil _))) rfl ?_)|refine ak ?_ ?_<;>intro hw<;>try omega|fail
    all_goals exact aT rfl rfl
def XY(cs:List cI)(hcs:cs.length<=2 ^ 60)(x:Expr)(hx:ic x)(hz:eK x<=2 ^ 60): ai Tryz.prog qY [aL x,bB cs] (.bX [I (if cA x then(gT cs x).1 else 0),I (if cA x then(gT cs x).2 else 2)]):=by
 have h1:=Ll x hx hz;have h2:=XX cs hcs x;cases hr:cA x with
 | true =>
   have h2:=h2 hr hz;rw[hr]at h1;simp only[mX,if_true]at h1 ⊢;generalize gT cs x=K at *;rw[aR]at h1 h2 ⊢;simp only[bB]at h2 ⊢;refine ai.aG (Gy (by simp) ?_) (by simp);unfold Bg aP;intro Q au aA aB;repeat' first|refine aq ?_|refine aC h1 ?_|refine aC h2 ?_|refine ak ?_ ?_<;>intro hw<;>try omega|fail
   all_goals exact aT rfl rfl
 | false =>
   rw[hr]at h1;simp only[mX,Bool.false_eq_true,if_false]at h1 ⊢;rw[aR]at h1 ⊢;simp only[bB];refine ai.aG (Gy (by simp) ?_) (by simp);unfold Bg aP;intro Q au aA aB;repeat' first|refine aq ?_|refine aC h1 ?_|refine ak ?_ ?_<;>intro hw<;>try omega|fail
   all_goals exact aT rfl rfl
def aap(cs:List cI)(hcs:cs.length<=2 ^ 60)(x:Expr)(hx:ic x)(hz:eK x<=2 ^ 60): ai Tryz.prog pL [aL x,bB cs] (.bX [I (if cA x then(gT cs x).1 else 0),I (if cA x then(gT cs x).2 else 2)]):=by
 have h1:=Fz x hx hz;have h2:=aao cs hcs x;cases hr:cA x with
 | true =>
   have h2:=h2 hr hz;rw[hr]at h1;simp only[if_true]at h1 ⊢;generalize gT cs x=K at *;rw[aR]at h1 h2 ⊢;simp only[bB]at h2 ⊢;refine ai.aG (Jd (by simp) ?_) (by simp);unfold Du aP;intro Q au aA aB;repeat' first|refine aq ?_|refine aC h1 ?_|refine aC h2 ?_|refine ak ?_ ?_<;>intro hw<;>try omega|fail
   all_goals exact aT rfl rfl
 | false =>
   rw[hr]at h1;simp only[Bool.false_eq_true,if_false]at h1 ⊢;rw[aR]at h1 ⊢;simp only[bB];refine ai.aG (Jd (by simp) ?_) (by simp);unfold Du aP;intro Q au aA aB;repeat' first|refine aq ?_|refine aC h1 ?_|refine ak ?_ ?_<;>intro hw<;>try omega|fail
   all_goals exact aT rfl rfl
def wm(l:List cI)(i:Nat): Int :=
 if gE (l.getD i default).name=false\/wP l (l.getD i default).name≠i then 13
 else if(l.getD i default).kind<1\/3<(l.getD i default).kind then 14 else 0
def jn(l:List cI): Int:=if 6<l.length then 24 else match(List.range l.length).find? (fun i=>wm l i != 0)with
 | some i=>wm l i
 | none=>0
def oP{n k:Nat}(h:k<n): (List.range n).getD k default=k:=by simp[aE,h]
def Wf{l:List cI}{i:Nat}{e:Int}(h6:¬ 6<l.length)(hi:i<l.length)(h:∀ k,k<i->wm l k=0)(he:wm l i=e)(hne:e≠0): jn l=e:=by
 have:=wN (p:=fun i=>wm l i != 0) (l:=List.range l.length) (i:=i) (by simpa using hi) (fun k hk=>by rw[oP (by omega)];simp[h k hk]) (by rw[oP hi];simp[he,hne]);unfold jn;rw[if_neg h6,this,oP hi];exact he
def Tn{l:List cI}(h6:¬ 6<l.length)(h:∀ k,k<l.length->wm l k=0): jn l=0:=by
 have:=wk (p:=fun i=>wm l i != 0) (l:=List.range l.length) (fun k hk=>by rw[List.length_range]at hk;rw[oP hk];simp[h k hk]);unfold jn;rw[if_neg h6,this]
def agc{l:List cI}{i:Nat}(hi:i<l.length): wP l (l.getD i default).name<=i/\0<=wP l (l.getD i default).name:=by
 unfold wP;generalize hs:(l.getD i default).name=s;rcases wj (fun c:cI=>c.name==s) l with⟨h1,h2⟩|⟨j,h1,h2,h3⟩
 ·exfalso;have:=dG.1 h2 _ (a_ hi);rw[hs]at this;exact this (by simp)
 ·rw[h2];refine⟨?_,by omega⟩;by_cases hj:j<=i
  ·omega
  ·exfalso
   have h4:l.findIdx? (fun c:cI=>c.name==s)=some j:=by
    unfold jI at h2;split at h2
    ·rename_i i' hi';rw[hi'];congr 1;omega
    ·omega
   obtain⟨_,_,h5⟩:=List.findIdx?_eq_some_iff_getElem.1 h4;have:=h5 i (by omega);rw[aE,aQ hi]at hs;simp at hs;simp[hs]at this
def So(l:List cI)(hn:∀ k,k<l.length->(l.getD k default).name.length<=2 ^ 62): ai Tryz.prog wg [bB l] (I (jn l)):=by
 by_cases h6:6<l.length
 ·have e:jn l=24:=by unfold jn;rw[if_pos h6]
  rw[e];refine ai.aG (Bx (by simp) ?_) (by simp[AV.dn,AV.cy,eT]);unfold wh aP;intro Q au aA aB;repeat' first|refine aq ?_|refine ak ?_ ?_<;>intro hw<;>try omega|fail
  exact aM rfl rfl
 refine ai.aG (Bx (by simp) ?_) (by simp[AV.dn,AV.cy,eT]);unfold wh aP;intro Q au aA aB;repeat' first|refine aq ?_|refine ak ?_ ?_<;>intro hw<;>try omega|fail
 with_reducible refine bn [2,3,4,10,11,12,13,14,15,16,17,18,19,20,21,22,23,24,25,26,27,28,29,30,31,32,33,34,35,36,37,38,39,40] (fun q:Nat × List aX=>[(10,I q.1)]) (fun q=>q.2) (fun q=>q.1<=l.length/\ ∀ k,k<q.1->wm l k=0) (fun q=>l.length-q.1) (0,[]) ?_ ?_ ?_ ?_
 ·simp
 ·rfl
 ·exact at_
 rintro⟨i,τ⟩ r ⟨h1,h2⟩;dsimp only at h1 h2;by_cases hi:i<l.length
 ·have c1:=DG _ (hn i hi);have c2:=Tm l (l.getD i default).name (by omega);have hE:wm l i=if gE (l.getD i default).name=false\/wP l (l.getD i default).name≠i then 13 else if(l.getD i default).kind<1\/3<(l.getD i default).kind then 14 else 0:=rfl
  obtain⟨c,hc⟩:∃ c,l.getD i default=c:=⟨_,rfl⟩;rw[hc]at c1 c2 hE;generalize gE c.name=nb at *;generalize wP l c.name=an at *;simp only[bB]at c2;repeat' first|simp (disch:=omega) only[go_sem,au,aA,aB,hc]|refine aq ?_|refine aC c1 ?_|refine aC c2 ?_|refine ak ?_ ?_<;>intro hw<;>try omega|fail
  all_goals first
   | (refine aM ?_ rfl
      refine congrArg I ?_
      symm
      refine Wf h6 hi h2 ?_ (by decide);rw[hE]
      first
       |(rw[if_pos (by simp_all)];done)
       |(rw[if_neg (by simp_all),if_pos (by omega)];done))
   | (refine ⟨(i + 1, τ ++ [.cells [.str c.name, I c.kind, .aK false EV (c.order.map iJ)]]), ?_, ?_, by first | rfl | (simp [go_sem]; done), bJ, at_⟩
      ·exact⟨by dsimp only;omega,bf h2 (by rw[hE,if_neg (by simp_all),if_neg (by omega)])⟩
      ·dsimp only;omega)
 ·repeat' first|refine aq ?_|refine ak ?_ ?_<;>intro hw<;>try omega|fail
  refine aM ?_ rfl;rw[Tn h6 (fun k hk=>h2 k (by omega))]
def UI(l:List cI)(hn:∀ k,k<l.length->(l.getD k default).name.length<=2 ^ 62): ai Tryz.prog xA [bB l] (I (jn l)):=by
 by_cases h6:6<l.length
 ·have e:jn l=24:=by unfold jn;rw[if_pos h6]
  rw[e];refine ai.aG (Dy (by simp) ?_) (by simp[AV.dn,AV.cy,eT]);unfold xR aP;intro Q au aA aB;repeat' first|refine aq ?_|refine ak ?_ ?_<;>intro hw<;>try omega|fail
  exact aM rfl rfl
 refine ai.aG (Dy (by simp) ?_) (by simp[AV.dn,AV.cy,eT]);unfold xR aP;intro Q au aA aB;repeat' first|refine aq ?_|refine ak ?_ ?_<;>intro hw<;>try omega|fail
 with_reducible refine bn [2,3,7,8,9,10,11,12,13,14,15,16,17,18,19,20,21,22,23,24,25,26,27,28,29,30,31,32,33,34,35,36,37,38,39,40,41,42,43,44,45,46] (fun i:Nat=>[(3,I i)]) (fun _=>[]) (fun i=>i<=l.length/\ ∀ k,k<i->wm l k=0) (fun i=>l.length-i) (0) ?_ ?_ ?_ ?_
 ·simp
 ·rfl
 ·exact at_
 rintro i r ⟨h1,h2⟩;by_cases hi:i<l.length
 ·have c1:=x7 _ (hn i hi);have c2:=Wc l (l.getD i default).name (by omega);have hle:=agc hi;have hE:wm l i=if gE (l.getD i default).name=false\/wP l (l.getD i default).name≠i then 13 else if(l.getD i default).kind<1\/3<(l.getD i default).kind then 14 else 0:=rfl
  obtain⟨c,hc⟩:∃ c,l.getD i default=c:=⟨_,rfl⟩;rw[hc]at c1 c2 hE hle;generalize gE c.name=nb at *;generalize wP l c.name=an at *;simp only[bB]at c2;repeat' first|simp (disch:=omega) only[go_sem,au,aA,aB,hc]|refine aq ?_|refine aC c1 ?_|refine aC c2 ?_|refine ak ?_ ?_<;>intro hw<;>try omega|fail
  all_goals first
   | (refine aM ?_ rfl
      refine congrArg I ?_
      symm
      refine Wf h6 hi h2 ?_ (by decide);rw[hE]
      first
       |(rw[if_pos (.inl (by assumption))];done)
       |(rw[if_pos (.inr (by omega))];done)
       |(rw[if_neg (by rintro(h|h)<;>first|omega|simp_all),if_pos (by omega)];done))
   | (refine ⟨i + 1, ?_, ?_, by first | rfl | (simp [go_sem]; done), bJ, at_⟩ <;> (try dsimp only)
      ·exact⟨by omega,bf h2 (by rw[hE,if_neg (by rintro(h|h)<;>first|omega|simp_all),if_neg (by omega)])⟩
      ·omega)
 ·repeat' first|refine aq ?_|refine ak ?_ ?_<;>intro hw<;>try omega|fail
  refine aM ?_ rfl;rw[Tn h6 (fun k hk=>h2 k (by omega))]
def kS(x:Expr): Bool:=cA x && decide (i_ x<=12)
def To(x:Expr)(hx:ic x)(hz:eK x<=2 ^ 60): ai Tryz.prog uY [aL x] (.bool (kS x)):=by
 have h1:=Ll x hx hz;have h2:=Fy x hz;unfold kS;generalize cA x=b at *;rw[aR]at h1 h2 ⊢;refine ai.aG (VN (by simp) ?_) (by simp);unfold Nc aP;intro Q au aA aB;cases b<;>simp only[mX,if_true,Bool.false_eq_true,if_false]at h1
 ·repeat' first|refine aq ?_|refine aC h1 ?_|refine aC h2 ?_|refine ak ?_ ?_<;>intro hw<;>try omega|fail
  all_goals exact aM rfl rfl
 ·repeat' first|refine aq ?_|refine aC h1 ?_|refine aC h2 ?_|refine ak ?_ ?_<;>intro hw<;>try omega|fail
  all_goals (refine aM ?_ rfl;simp;omega)
def Qy(x:Expr)(hx:ic x)(hz:eK x<=2 ^ 60): ai Tryz.prog sQ [aL x] (.bool (kS x)):=by
 have h1:=Fz x hx hz;have h2:=HU x hz;unfold kS;generalize cA x=b at *;rw[aR]at h1 h2 ⊢;refine ai.aG (Uy (by simp) ?_) (by simp);unfold KZ aP;intro Q au aA aB;cases b
 ·repeat' first|refine aq ?_|refine aC h1 ?_|refine aC h2 ?_|refine ak ?_ ?_<;>intro hw<;>try omega|fail
  all_goals exact aM rfl rfl
 ·repeat' first|refine aq ?_|refine aC h1 ?_|refine aC h2 ?_|refine ak ?_ ?_<;>intro hw<;>try omega|fail
  all_goals (refine aM ?_ rfl;simp;omega)
end Go.Proofs.YtmbgnaoilncbnaaGreatDoor
