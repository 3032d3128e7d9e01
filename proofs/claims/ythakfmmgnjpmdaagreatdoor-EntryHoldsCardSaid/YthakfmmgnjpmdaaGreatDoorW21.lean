/- Part. -/
import Derived.Test.YthakfmmgnjpmdaaGreatDoorW20
set_option linter.all false
set_option maxHeartbeats 4000000
namespace Go.Proofs.YthakfmmgnjpmdaaGreatDoor
open Go.AM
set_option maxRecDepth 4000
def AK(op:Int)(v:aL)(s:aO)(l:List Expr): fW (.mk op v s l)=mT l+1:=by simp only[fW]
def Ma: Option Expr->Nat
 | none=>1
 | some x=>fW x
def KD{T:List Tok}{r:RS}{k:Int}{s:aO}: (jO T r k s).x=r.x/\r.p<=(jO T r k s).p:=by
 refine⟨rfl,?_⟩;simp only[jO,qh];split<;>omega
def XG{rd:Nat->Nat->RS}{l q:Nat}{b:Bool}(h:fW (rd l q).x+4*q<=1+4*(rd l q).p): fW (qF rd l q b).x+4*q<=1+4*(qF rd l q b).p:=by
 unfold qF;split
 ·simp[x0,fW,mT]
 ·exact h
def agD(T:List Tok)(f:Nat): ∀(m:Option Expr) (lvl p:Nat),p<=T.length->fW (bY T f m lvl p).x+4*p<=Ma m+4*(bY T f m lvl p).p:=by
 induction f with
 | zero =>
   intro m lvl p hp
   have:1<=Ma m:=by
    cases m with
    | none=>exact Nat.le_refl _
    | some x=>cases x;simp[Ma,fW]
   simp only[bY,x0,fW,mT];omega
 | succ f ih =>
   intro m lvl p hp;have hrd:∀ l q,q<=T.length->fW (bY T f none l q).x+4*q<=1+4*(bY T f none l q).p:=fun l q hq=>ih none l q hq;have pn:∀ l q,q<=T.length->Goes T.length q (bY T f none l q):=fun l q hq=>(tq T f none l q hq).1 rfl;cases m with
   | none =>
     simp only[bY,Ma];split
     ·split
      ·rename_i h;have h1:=pg h;have ga:=BV pn (p:=p+1) h1;have gb:=BW pn (p:=p+1) h1;have a:=hrd 0 (p+1) h1;have b:=XG (b:=(nH (bY T f none) T (p+1)).bad) (hrd 0 _ ga.2.1);have c:=XG (b:=(ua (bY T f none) T (p+1)).bad) (hrd 0 _ gb.2.1);have a2:=KD (T:=T) (r:=bY T f none 0 (p+1)) (k:=1) (s:=thenS);have b2:=KD (T:=T) (r:=qF (bY T f none) 0 (nH (bY T f none) T (p+1)).p (nH (bY T f none) T (p+1)).bad) (k:=1) (s:=zi);have ea:(nH (bY T f none) T (p+1))=jO T (bY T f none 0 (p+1)) 1 thenS:=rfl;have eb:(ua (bY T f none) T (p+1))=jO T (qF (bY T f none) 0 (nH (bY T f none) T (p+1)).p (nH (bY T f none) T (p+1)).bad) 1 zi:=rfl;have ec:(AJ (bY T f none) T (p+1))=qF (bY T f none) 0 (ua (bY T f none) T (p+1)).p (ua (bY T f none) T (p+1)).bad:=rfl;show fW (.mk 16 v0 [] [(nH (bY T f none) T (p+1)).x,(ua (bY T f none) T (p+1)).x,(AJ (bY T f none) T (p+1)).x])+4*p<=1+4*(AJ (bY T f none) T (p+1)).p;rw[<-ea]at a2;rw[<-eb]at b2;rw[<-ec]at c;simp only[AK,mT];rw[a2.1,b2.1];omega
      ·exact hrd 1 p hp
     ·split
      ·rename_i h;have h1:=pg h.2;have c:=hrd 6 (p+1) h1;simp only[AK,mT];omega
      ·split
       ·have ok:∀ v s,fW (.mk 1 v s [])+4*p<=1+4*(p+1):=fun v s=>by simp only[AK,mT];omega
        unfold nh;split
        ·rename_i h;have c:=hrd 0 (p+1) (pg h);have a2:=KD (T:=T) (r:=bY T f none 0 (p+1)) (k:=4) (s:=[41]);show fW (jO T (bY T f none 0 (p+1)) 4 [41]).x+4*p<=1+4*(jO T (bY T f none 0 (p+1)) 4 [41]).p;rw[a2.1];omega
        ·repeat' split
         all_goals simp only[zR,x0,AK,mT]
         all_goals omega
       ·split
        ·exact hrd _ _ hp
        ·have a:=hrd (lvl+1) p hp;have b:=ih (some (bY T f none (lvl+1) p).x) lvl _ (pn (lvl+1) p hp).2.1;simp only[Ma]at b;omega
   | some x =>
     simp only[bY,Ma];split
     ·exact Nat.le_refl _
     ·rename_i o ho;have h1:=(D7 ho).1;have a:=hrd (lvl+1) (p+1) h1;have g:=pn (lvl+1) (p+1) h1;split
      ·simp only[AK,mT];omega
      ·have b:=ih (some (.mk o.op v0 [] [x,(bY T f none (lvl+1) (p+1)).x])) lvl _ g.2.1;simp only[Ma,AK,mT]at b;omega
def iw(T:List Tok)(fr lvl:Int): Expr × Int × Int :=
 if fr<0\/(T.length:Int)<fr\/lvl<0\/7<lvl then(x0,0,2)
 else if(bY T (8*T.length+9) none lvl.toNat fr.toNat).bad then(x0,(bY T (8*T.length+9) none lvl.toNat fr.toNat).p,11)
 else((bY T (8*T.length+9) none lvl.toNat fr.toNat).x,(bY T (8*T.length+9) none lvl.toNat fr.toNat).p,0)
def Mb(r:Expr × Int × Int): AV:= .bH [aT r.1,I r.2.1,I r.2.2]
def n5{σ : ae}{a E:AV}{n m:Int}(h:View σ a E): bN σ [a,I n,I m] [E,I n,I m]:= .cons h (.cons (.refl _ rfl) (.cons (.refl _ rfl) (.nil _)))
def Gb(T:List Tok)(fr lvl:Int)(hT:T.length<=2 ^ 50)(hs:∀ q,(T.getD q default).s.length<=2 ^ 62): aM aH 148 [vH T,I fr,I lvl] (Mb (iw T fr lvl)):=by
 by_cases hg:fr<0\/(T.length:Int)<fr\/lvl<0\/7<lvl
 ·have e:iw T fr lvl=(x0,0,2):=by unfold iw;rw[if_pos hg]
  rw[e];have e1:∀ σ : ae,View σ (.agg [I 0,I 0,I 0,.str [],.str [],.aA]) (aT x0):=fun σ=>ri (.aA _);simp only[Mb];generalize aT x0=E at *;refine aR u_ ?_;intro Q aB aC aD;repeat' first|refine au ?_|refine aq ?_ ?_<;>intro hw<;>try omega|fail
  all_goals first|exact fD (n5 (e1 _))|(exfalso;omega)
 ·obtain⟨p,rfl⟩:∃ p:Nat,fr=p:=⟨fr.toNat,by omega⟩;obtain⟨l,rfl⟩:∃ l:Nat,lvl=l:=⟨lvl.toNat,by omega⟩;have cr:=RI T (by omega) hs (8*T.length+9) l p (by omega) (by omega) (by omega)
  have e:iw T p l=if(bY T (8*T.length+9) none l p).bad then(x0,((bY T (8*T.length+9) none l p).p:Int),11)else ((bY T (8*T.length+9) none l p).x,((bY T (8*T.length+9) none l p).p:Int),0):=by
   unfold iw;rw[if_neg hg,Int.toNat_natCast,Int.toNat_natCast]
  rw[e];simp only[zj]at cr;generalize bY T (8*T.length+9) none l p=r at *;obtain⟨rx,rp,rb⟩:=r;dsimp only at *;have e1:∀ σ : ae,View σ (.agg [I 0,I 0,I 0,.str [],.str [],.aA]) (aT x0):=fun σ=>ri (.aA _);have e2:∀ σ : ae,View σ (.agg [I rx.op,I rx.v.kind,I rx.v.n,.str rx.v.s,.str rx.s,.aN false EX (rx.l.map aT)]) (aT rx):=fun σ=>View.eqv (bq _).symm (gH _);rw[bq]at cr;simp only[ei]at cr;cases rb with
  | true =>
    simp only[if_true,Mb];generalize aT x0=E at *;refine aR u_ ?_;intro Q aB aC aD;repeat' first|refine au ?_|refine da cr ?_|refine aq ?_ ?_<;>intro hw<;>try omega|fail
    all_goals first|exact fD (n5 (e1 _))|(exfalso;omega)
  | false =>
    simp only[aG,if_false,Mb];generalize aT rx=E at *;refine aR u_ ?_;intro Q aB aC aD;repeat' first|refine au ?_|refine da cr ?_|refine aq ?_ ?_<;>intro hw<;>try omega|fail
    all_goals first|exact fD (n5 (e2 _))|(exfalso;omega)
def ac8(r b:aO)(i:Nat): (lD r b i).s.length<=b.length+r.length:=by
 fun_induction lD r b i<;>simp_all[PR.err]<;>omega
def ae3(s:aO): (jg s).s.length<=s.length+2:=by
 unfold jg;simp only;split
 ·unfold BO;split<;>simp[PR.err];omega
 ·split
  ·unfold om;simp only;split
   ·simp[PR.err]
   ·split<;>simp[PR.err]
  ·split
   ·have:=ac8 (s.drop 1) [] 1;rw[List.length_drop]at this;simp only[List.length_nil]at this;omega
   ·unfold tY;split
    ·rename_i m hm;have h2:=f_ hm;simp only[tX,List.mem_cons,List.not_mem_nil,or_false]at h2;rcases h2 with h|h|h|h|h|h|h|h|h|h|h|h|h|h|h|h<;>subst h<;>simp
    ·simp[PR.err]
def U6(f:Nat): ∀(s:aO) (pos:Nat) (acc:List Tok),(∀ t ∈ acc,t.s.length<=1000)->s.length<=900->(rI f s pos acc).1.length<=acc.length+s.length/\ ∀ t ∈ (rI f s pos acc).1,t.s.length<=1000:=by
 induction f with
 | zero=>intro s pos acc h _;exact⟨Nat.le_add_right _ _,h⟩
 | succ f ih =>
   intro s pos acc h hs;cases s with
   | nil=>exact⟨Nat.le_add_right _ _,h⟩
   | cons c r =>
     rw[v7];simp only[List.length_cons]at hs ⊢;split
     ·have:=ih r (pos+1) acc h (by omega);exact⟨by omega,this.2⟩
     ·split
      ·rename_i he;have h1:=Pf (s:=c::r) (by simp) he;have h2:=ae3 (c::r);simp only[List.length_cons]at h1 h2
       have:=ih ((c::r).drop (jg (c::r)).len) (pos+(jg (c::r)).len) (acc++[⟨(jg (c::r)).kind,(jg (c::r)).s,(jg (c::r)).n,pos⟩]) (fun t ht=>by
        rcases List.mem_append.1 ht with ht|ht
        ·exact h t ht
        ·simp only[List.mem_cons,List.not_mem_nil,or_false]at ht;subst ht;dsimp only;omega) (by rw[List.length_drop,List.length_cons];omega)
       rw[List.length_drop,List.length_append,List.length_cons]at this;simp only[List.length_cons,List.length_nil]at this;exact⟨by omega,this.2⟩
      ·exact⟨Nat.zero_le _,fun t ht=>by cases ht⟩
def rj(s:aO): (de s).1.length<=200/\ ∀ q,((de s).1.getD q default).s.length<=1000:=by
 have h:(de s).1.length<=200/\ ∀ t ∈ (de s).1,t.s.length<=1000:=by
  unfold de;split
  ·exact⟨Nat.zero_le _,fun t ht=>by cases ht⟩
  ·have:=U6 (s.length+1) s 0 [] (fun t ht=>by cases ht) (by omega);simp only[List.length_nil]at this;exact⟨by omega,this.2⟩
 refine⟨h.1,fun q=>?_⟩;by_cases hq:q<(de s).1.length
 ·exact h.2 _ (bn hq)
 ·rw[qE (by omega)];exact bO _
def Hr(T:List Tok)(fr lvl:Int): fW (iw T fr lvl).1<=1+4*T.length:=by
 have h0:fW x0=1:=by simp[x0,fW,mT]
 unfold iw;split
 ·dsimp only;omega
 ·rename_i hg;split
  ·dsimp only;omega
  ·have:=agD T (8*T.length+9) none lvl.toNat fr.toNat (by omega);have g:=(tq T (8*T.length+9) none lvl.toNat fr.toNat (by omega)).2.2;simp only[Ma]at this;dsimp only;omega
def iH(s:aO): Expr × Int × Int :=
 if(de s).2.2≠0 then(x0,(de s).2.1,(de s).2.2)
 else if(iw (de s).1 0 0).2.1<(de s).1.length then(x0,((de s).1.getD (iw (de s).1 0 0).2.1.toNat default).pos,11)
 else if(iw (de s).1 0 0).2.2≠0 then(x0,s.length,(iw (de s).1 0 0).2.2)
 else if 12<kV (iw (de s).1 0 0).1 then(x0,0,12)
 else((iw (de s).1 0 0).1,0,0)
def S6(T:List Tok)(fr lvl:Int): 0<=(iw T fr lvl).2.1/\(iw T fr lvl).2.1<=T.length:=by
 unfold iw;split
 ·exact⟨Int.le_refl _,by dsimp only;omega⟩
 ·rename_i hg;have g:=(tq T (8*T.length+9) none lvl.toNat fr.toNat (by omega)).2.2;split<;>(dsimp only;omega)
def Px(s:aO)(hs:s.length<=2 ^ 30): aM aH 108 [.str s] (Mb (iH s)):=by
 have cl:=SZ s hs;obtain⟨f1,f2⟩:=rj s;have cr:=Gb (de s).1 0 0 (by omega) (fun q=>by have:=f2 q;omega);have hz:=Hr (de s).1 0 0;obtain⟨hp0,Dt⟩:=S6 (de s).1 0 0
 have hP:iH s=if(de s).2.2≠0 then(x0,(de s).2.1,(de s).2.2)
  else if(iw (de s).1 0 0).2.1<(de s).1.length then(x0,((de s).1.getD (iw (de s).1 0 0).2.1.toNat default).pos,11)
  else if(iw (de s).1 0 0).2.2≠0 then(x0,(s.length:Int),(iw (de s).1 0 0).2.2)
  else if 12<kV (iw (de s).1 0 0).1 then(x0,0,12)
  else((iw (de s).1 0 0).1,0,0):=rfl
 rw[hP];clear hP f2;generalize iw (de s).1 0 0=r at *;generalize de s=L at *;obtain⟨T,la,le⟩:=L;obtain⟨rx,rn,re⟩:=r;dsimp only at *;have cd:=zP rx (by omega);obtain⟨n,rfl⟩:∃ n:Nat,rn=n:=⟨rn.toNat,by omega⟩;have e1:∀ σ : ae,View σ (.agg [I 0,I 0,I 0,.str [],.str [],.aA]) (aT x0):=fun σ=>ri (.aA _);have e2:∀ σ : ae,View σ (.agg [I rx.op,I rx.v.kind,I rx.v.n,.str rx.v.s,.str rx.s,.aN false EX (rx.l.map aT)]) (aT rx):=fun σ=>View.eqv (bq _).symm (gH _);simp only[Mb]at cr ⊢;rw[bq]at cr cd;simp only[UW,vH]at cl cr;by_cases h1:le≠0
 ·rw[if_pos h1];generalize aT x0=E at *;refine aR nC ?_;intro Q aB aC aD;repeat' first|refine au ?_|refine aq ?_ ?_<;>intro hw<;>try omega|fail
  all_goals exact fD (n5 (e1 _))
 rw[if_neg h1];by_cases h2:(n:Int)<T.length
 ·rw[if_pos h2,eL];generalize aT x0=E at *;have hn:n<T.length:=by omega
  refine aR nC ?_;intro Q aB aC aD;repeat' first|refine au ?_|refine aq ?_ ?_<;>intro hw<;>try omega|fail
  all_goals exact fD (n5 (e1 _))
 rw[if_neg h2];by_cases h3:re≠0
 ·rw[if_pos h3];generalize aT x0=E at *;refine aR nC ?_;intro Q aB aC aD;repeat' first|refine au ?_|refine aq ?_ ?_<;>intro hw<;>try omega|fail
  all_goals exact fD (n5 (e1 _))
 rw[if_neg h3];by_cases h4:12<kV rx
 ·rw[if_pos h4];generalize aT x0=E at *;refine aR nC ?_;intro Q aB aC aD;repeat' first|refine au ?_|refine aq ?_ ?_<;>intro hw<;>try omega|fail
  all_goals exact fD (n5 (e1 _))
 ·rw[if_neg h4];generalize aT rx=E at *;refine aR nC ?_;intro Q aB aC aD;repeat' first|refine au ?_|refine aq ?_ ?_<;>intro hw<;>try omega|fail
  all_goals exact fD (n5 (e2 _))
def I_: aO:=[110,117,108,108]
def zk: aO:=[116,114,117,101]
def wh: aO:=[102,97,108,115,101]
structure Lq where
 op:Int
 vk:Int
 vn:Int
 vs:aO
 s:aO
 fl:Bool
 zs:List AV
 x:Expr
 p:Nat
 b:Bool
 f:Nat
def Lq.cs(q:Lq): List AV:=[I q.op,I q.vk,I q.vn,.str q.vs,.str q.s,.aN q.fl EX q.zs]
def eI(n:Int): AV:=I n
attribute [go_sem] eI
def ae4(n:Int): (eI n).dz=true:=rfl
def AL(l:List Int): AV.cg (l.map eI)=true:=gV _ _ ae4
def bT(a b:Int): Bool:=decide (a=b) || decide (a=0) || decide (b=0)
def nY(a b:Int): Int:=if a=0 then b else a
def nW(a b:Int): aM aH 110 [I a,I b] (.bool (bT a b)):=by
 refine aR Ku ?_;intro Q aB aC aD;repeat' first|refine au ?_|refine aq ?_ ?_<;>intro hw<;>try omega|fail
 all_goals refine aU ?_ rfl
 all_goals (refine congrArg AV.bool ?_;rw[cG];simp only[bT,aj,bU,decide_eq_true_eq,beq_iff_eq,cy,decide_eq_false_iff_not,beq_eq_false_iff_ne,ne_eq,true_iff,false_iff,iff_true,iff_false,aG,Bool.true_eq_false,not_and,not_or]at *;omega)
def CO(a b:Int): aM aH 204 [I a,I b] (I (nY a b)):=by
 refine aR AA ?_;intro Q aB aC aD;repeat' first|refine au ?_|refine aq ?_ ?_<;>intro hw<;>try omega|fail
 all_goals refine aU ?_ rfl
 all_goals (unfold nY;first|rw[if_neg (by assumption)]|rw[if_pos (by assumption)]|(subst a;rfl))
def S7{α : Type}{p : α->Bool}(l:List α): l.all p = !(l.any fun x=> !(p x)):=by
 induction l with
 | nil=>rfl
 | cons x r ih=>simp[ih]
def Ja(w:Int)(l:List Int)(hl:l.length<=2 ^ 60): aM aH 203 [I w,.aN false E1 (l.map eI)] (.bool (l.all fun k=>bT k w)):=by
 refine aR NB ?_ (by simp[AV.dz,AV.cg,AL]);intro Q aB aC aD;repeat' first|refine au ?_|refine aq ?_ ?_<;>intro hw<;>try omega|fail
 with_reducible refine bE [4,6,9,10,11,12,13,14,15,16,17] (fun i:Nat=>[(9,I i)]) (fun _=>[]) (fun i=>i<=l.length/\ ∀ k,k<i->(!(bT (l.getD k default) w))=false) (fun i=>l.length-i) (0) ?_ ?_ ?_ ?_
 ·simp
 ·rfl
 ·exact at_
 rintro i r ⟨h1,h2⟩;by_cases hi:i<l.length
 ·repeat' first|refine au ?_|refine eZ (nW _ _) ?_|refine aq ?_ ?_<;>intro hw<;>try omega|fail
  ·refine aU ?_ rfl;rw[S7,XB (p:=fun x=> !(bT x w)) hi (by simpa using hw)];rfl
  ·refine⟨i+1,?_,?_,by first|rfl|(simp[go_sem];done),cZ,at_⟩<;>(try dsimp only)
   ·exact⟨by omega,bQ h2 (by simpa using hw)⟩
   ·omega
 ·repeat' first|refine au ?_|refine aq ?_ ?_<;>intro hw<;>try omega|fail
  refine aU ?_ rfl;rw[S7,S0 (p:=fun x=> !(bT x w)) (fun k hk=>h2 k (by omega))];rfl
def FU(l:List Int)(v:Int)(hl:l.length<=2 ^ 60): aM aH 223 [.aN false E1 (l.map eI),I v] (I (kr (fun x=>x==v) l)):=by
 refine aR BL ?_ (by simp[AV.dz,AV.cg,AL]);intro Q aB aC aD;repeat' first|refine au ?_|refine aq ?_ ?_<;>intro hw<;>try omega|fail
 with_reducible refine bE [4,5,8,9,10,11,12,13,14,15,16,17,18] (fun i:Nat=>[(8,I i)]) (fun _=>[]) (fun i=>i<=l.length/\ ∀ k,k<i->(l.getD k default==v)=false) (fun i=>l.length-i) (0) ?_ ?_ ?_ ?_
 ·simp
 ·rfl
 ·exact at_
 rintro i r ⟨h1,h2⟩;by_cases hi:i<l.length
 ·repeat' first|refine au ?_|refine aq ?_ ?_<;>intro hw<;>try omega|fail
  ·refine aU ?_ rfl;rw[pO (p:=fun x=>x==v) hi h2 (by simp_all)]
  ·refine⟨i+1,?_,?_,by first|rfl|(simp[go_sem];done),cZ,at_⟩<;>(try dsimp only)
   ·exact⟨by omega,bQ h2 (by rw[beq_eq_false_iff_ne];intro h;exact hw h.symm)⟩
   ·omega
 ·repeat' first|refine au ?_|refine aq ?_ ?_<;>intro hw<;>try omega|fail
  refine aU ?_ rfl;rw[mH (p:=fun x=>x==v) (fun k hk=>h2 k (by omega))]
def BX(l:List Int)(v:Int)(hl:l.length<=2 ^ 60): aM aH 205 [.aN false E1 (l.map eI),I v] (.bool (decide (0<=kr (fun x=>x==v) l))):=by
 refine aR yR ?_ (by simp[AV.dz,AV.cg,AL]);intro Q aB aC aD;repeat' first|refine au ?_|refine eZ (FU l v hl) ?_|refine aq ?_ ?_<;>intro hw<;>try omega|fail
 all_goals exact aU rfl rfl
def lp(op:Int)(ks:List Int): Int × Bool :=
 if op=3\/op=5\/op=6\/op=7 then(1,ks.all fun k=>bT k 1)
 else if op=4 then(if nY (ks.getD 0 0) (ks.getD 1 0)=2 then(2,ks.all fun k=>bT k 2)else (1,ks.all fun k=>bT k 1))
 else if op=8\/op=9 then(3,bT (ks.getD 0 0) (ks.getD 1 0))
 else if op=10\/op=11\/op=12\/op=13 then(3,bT (ks.getD 0 0) (ks.getD 1 0) && !(decide (0<=kr (fun x=>x==3) ks)))
 else if op=14\/op=15 then(3,ks.all fun k=>bT k 3)
 else(nY (ks.getD 1 0) (ks.getD 2 0),bT (ks.getD 0 0) 3 && bT (ks.getD 1 0) (ks.getD 2 0))
def Py(a:Int): aM aH 181 [I 3,.aN false E1 ([a].map eI)] (.bH [I (lp 3 [a]).1,.bool (lp 3 [a]).2]):=by
 have h:=fun w=>Ja w [a] (by simp);simp only[List.map,eI]at h ⊢;refine aR vf ?_;intro Q aB aC aD;repeat' first|simp (disch:=omega) only[go_sem,aB,aC,aD,Int.reduceToNat]|refine au ?_|refine eZ (h _) ?_|refine aq ?_ ?_<;>intro hw<;>try omega|fail
 all_goals exact bx rfl rfl
def Pz(op a b:Int)(h4:4<=op)(XH:op<=15): aM aH 181 [I op,.aN false E1 ([a,b].map eI)] (.bH [I (lp op [a,b]).1,.bool (lp op [a,b]).2]):=by
 have h:=fun w=>Ja w [a,b] (by simp);have hc:=BX [a,b] 3 (by simp);simp only[List.map,eI]at h hc ⊢;generalize hR:lp op [a,b]=R;refine aR vf ?_;intro Q aB aC aD;repeat' first|simp (disch:=omega) only[go_sem,aB,aC,aD,Int.reduceToNat]|refine au ?_|refine eZ (h _) ?_|refine eZ (CO a b) ?_|refine eZ (nW a b) ?_|refine aq ?_ ?_<;>intro hw<;>try omega|fail
 all_goals (refine bx ?_ rfl;clear aB aC aD h hc;subst hR)
 all_goals (simp_all[lp];done)
def PA(a b c:Int): aM aH 181 [I 16,.aN false E1 ([a,b,c].map eI)] (.bH [I (lp 16 [a,b,c]).1,.bool (lp 16 [a,b,c]).2]):=by
 simp only[List.map,eI];refine aR vf ?_;intro Q aB aC aD;repeat' first|simp (disch:=omega) only[go_sem,aB,aC,aD,Int.reduceToNat]|refine au ?_|refine eZ (CO b c) ?_|refine eZ (nW a 3) ?_|refine eZ (nW b c) ?_|refine aq ?_ ?_<;>intro hw<;>try omega|fail
 all_goals (refine bx ?_ rfl;simp_all[lp])
def U7(op:Int)(ks:List Int): Int × Int:=if(lp op ks).2 then((lp op ks).1,0)else (0,14)
def rF (fn : FuncId) (cap : List AV) (hcap : AV.cg cap = true) (p : cN -> Bool) (l : List cN) (h : ∀ k, k < l.length -> aM aH fn (ew (l.getD k default) :: cap) (.bool (p (l.getD k default)))) (hl : l.length <= 2 ^ 62) :
    aM aH 141 [bV l,.fn (.func fn) [] cap] (I (kr p l)):=by
 refine aR wG ?_ (by simp[AV.dz,AV.cg,hcap,kz]);intro Q aB aC aD;repeat' first|refine au ?_|refine aq ?_ ?_<;>intro hw<;>try omega|fail
 with_reducible refine bE [4,5,8,9,10,11,12,13,14,15,16,17,18] (fun i:Nat=>[(8,I i)]) (fun _=>[]) (fun i=>i<=l.length/\ ∀ k,k<i->p (l.getD k default)=false) (fun i=>l.length-i) (0) ?_ ?_ ?_ ?_
 ·simp
 ·rfl
 ·exact at_
 ·rintro i r ⟨hi,hp⟩;by_cases hin:i<l.length
  ·have hx:=h i hin;simp only[ew,aW]at hx;repeat' first|refine au ?_|refine aq ?_ ?_<;>intro hw<;>try omega|fail
   ·refine aU ?_ rfl;refine congrArg I ?_;exact(pO hin hp hw).symm
   ·refine⟨i+1,?_,?_,by first|rfl|(simp[go_sem];done),cZ,at_⟩<;>(try dsimp only)
    ·exact⟨by omega,bQ hp hw⟩
    ·omega
  ·repeat' first|refine au ?_|refine aq ?_ ?_<;>intro hw<;>try omega|fail
   refine aU ?_ rfl;refine congrArg I ?_;exact(mH fun k hk=>hp k (by omega)).symm
def uR(l:List cN)(s:aO): Int:=kr (fun c=>c.name==s) l
def RJ(c:cN)(s:aO): aM aH 174 [ew c,.eK E1 (.str s) 0] (.bool (c.name==s)):=by
 refine aR Ky ?_ (by simp[AV.dz,AV.cg,BN]);intro Q aB aC aD;repeat' first|refine au ?_|refine aq ?_ ?_<;>intro hw<;>try omega|fail
 all_goals exact aU rfl rfl
def Mc(l:List cN)(s:aO)(hl:l.length<=2 ^ 60): aM aH 140 [bV l,.str s] (I (uR l s)):=by
 have hc:=rF 174 [.eK E1 (.str s) 0] rfl (fun c=>c.name==s) l (fun k _=>RJ _ s) (by omega);simp only[bV]at hc;refine aR O9 ?_ (by simp[AV.dz,AV.cg,kz]);intro Q aB aC aD;repeat' first|refine au ?_|refine F9 hc ?_|refine aq ?_ ?_<;>intro hw<;>try omega|fail
 all_goals exact aU rfl rfl
def qH{op:Int}{n:Nat}(h:(n:Int)=jG op)(h1:op≠1)(h2:op≠2): (op=3/\n=1)\/(4<=op/\op<=15/\n=2)\/(op=16/\n=3):=by
 unfold jG at h;rw[if_neg (by omega)]at h;by_cases h3:op=3
 ·rw[if_pos h3]at h;omega
 rw[if_neg h3]at h;by_cases h16:op=16
 ·rw[if_pos h16]at h;omega
 rw[if_neg h16]at h;by_cases hr:4<=op/\op<=15
 ·rw[if_pos (UZ op hr.1 hr.2).2]at h;omega
 ·rw[UY op (by omega)]at h;rw[if_neg (by decide)]at h;omega
def KE(op:Int)(ks:List Int)(h:(ks.length:Int)=jG op)(h1:op≠1)(h2:op≠2): aM aH 181 [I op,.aN false E1 (ks.map eI)] (.bH [I (lp op ks).1,.bool (lp op ks).2]):=by
 rcases qH h h1 h2 with⟨rfl,hn⟩|⟨h4,XH,hn⟩|⟨rfl,hn⟩
 ·match ks,hn with
  | [a],_=>exact Py a
 ·match ks,hn with
  | [a,b],_=>exact Pz op a b h4 XH
 ·match ks,hn with
  | [a,b,c],_=>exact PA a b c
mutual
def jr(cs:List cN): Expr->Int × Int
 | .mk op v s l =>
   if op=1 then(v.kind,0)
   else if op=2 then(if uR cs s<0 then(0,13)else ((cs.getD (uR cs s).toNat default).kind,0))
   else if(kW cs l).2=0 then U7 op (kW cs l).1 else(0,(kW cs l).2)
def kW(cs:List cN): List Expr->List Int × Int
 | []=>([],0)
 | x :: r =>
   if(jr cs x).2≠0 then([],(jr cs x).2)
   else if(kW cs r).2≠0 then([],(kW cs r).2)
   else((jr cs x).1::(kW cs r).1,0)
end
def PB{cs:List cN}: ∀ {l:List Expr} {ks:List Int},ks.length=l.length->(∀ k,k<l.length->jr cs (l.getD k default)=(ks.getD k 0,0))->kW cs l=(ks,0)
 | [],[],_,_=>by simp only[kW]
 | x :: r, k :: ks, hl, h => by
   have h0:=h 0 (by simp);simp only[bD]at h0;have hr:=PB (l:=r) (ks:=ks) (by simpa using hl) (fun i hi=>by simpa using h (i+1) (by simpa using hi));simp[kW,h0,hr]
def Md{cs:List cN}: ∀ {l:List Expr} {i:Nat} {e:Int},i<l.length->(∀ k,k<i->(jr cs (l.getD k default)).2=0)->(jr cs (l.getD i default)).2=e->e≠0->kW cs l=([],e)
 | x :: r, 0, e, _, _, he, hne => by
   simp only[bD]at he;simp[kW,he,hne]
 | x :: r, i + 1, e, hi, h, he, hne => by
   have h0:=h 0 (by omega);simp only[bD]at h0;have hr:=Md (l:=r) (i:=i) (e:=e) (by simpa using hi) (fun k hk=>by simpa using h (k+1) (by omega)) (by simpa using he) hne;simp[kW,h0,hr,hne]
def S8{α : Type}[Inhabited α](p : α->Bool)(l:List α): kr p l<l.length:=by
 rcases vi p l with⟨h1,h2⟩|⟨i,h1,h2,h3⟩
 ·rw[h1];omega
 ·rw[h2];omega
def RL(cs:List cN)(hcs:cs.length<=2 ^ 60)(x:Expr): cq x=true->fW x<=2 ^ 60->aM aH 149 [aT x,bV cs] (.bH [I (jr cs x).1,I (jr cs x).2]):=by
 induction x using Expr.ind with
 | h op v s l ih =>
   intro hr hz;simp only[fW]at hz;have hl:=Fq l
   have U8:(l.length:Int)=jG op:=by
    simp only[cq,aj,decide_eq_true_eq]at hr;exact hr.1
   obtain⟨vk,vn,vs⟩:=v;have hA:=Mc cs s hcs;have hAl:=S8 (fun c:cN=>c.name==s) cs
   change uR cs s<cs.length at hAl
   simp only[bV]at hA ⊢;by_cases h1:op=1
   ·have e:jr cs (.mk op ⟨vk,vn,vs⟩ s l)=(vk,0):=by simp only[jr,if_pos h1]
    rw[e];refine aR q8 ?_;intro Q aB aC aD;repeat' first|refine au ?_|refine aq ?_ ?_<;>intro hw<;>try omega|fail
    exact bx rfl rfl
   by_cases h2:op=2
   ·have e:jr cs (.mk op ⟨vk,vn,vs⟩ s l)=if uR cs s<0 then(0,13)else ((cs.getD (uR cs s).toNat default).kind,0):=by simp only[jr,if_neg h1,if_pos h2]
    rw[e];generalize uR cs s=i at *;by_cases hi:i<0
    ·rw[if_pos hi];refine aR q8 ?_;intro Q aB aC aD;repeat' first|refine au ?_|refine aq ?_ ?_<;>intro hw<;>try omega|fail
     exact bx rfl rfl
    ·rw[if_neg hi];obtain⟨n,rfl⟩:∃ n:Nat,i=n:=⟨i.toNat,by omega⟩;have hn:n<cs.length:=by omega
     refine aR q8 ?_;intro Q aB aC aD;repeat' first|refine au ?_|refine aq ?_ ?_<;>intro hw<;>try omega|fail
     exact bx rfl rfl
   have D8:rV l=true:=by
    simp only[cq,if_neg h1,if_neg h2,aj]at hr;exact hr.2.2
   have x7:∀ k,k<l.length->cq (l.getD k default)=true:=fun k hk=>by
    rw[I4]at D8;simp only[cy,iQ,cy,Bool.not_eq_false']at D8;simpa using D8 _ (bn hk)
   have hk:∀ k,k<l.length->_:=fun k h=>ih _ (bn h) (x7 k h) (by have:=AE (bn h);omega);have e:jr cs (.mk op ⟨vk,vn,vs⟩ s l)=if(kW cs l).2=0 then U7 op (kW cs l).1 else(0,(kW cs l).2):=by simp only[jr,if_neg h1,if_neg h2]
   rw[e];have hl3:l.length<=3:=by rcases qH U8 h1 h2 with h|h|h<;>omega
   have agE:=fun ks h=>KE op ks h h1 h2;clear hA hAl e hr D8;simp only[bV]at hk;refine aR q8 ?_;intro Q aB aC aD;repeat' first|refine au ?_|refine aq ?_ ?_<;>intro hw<;>try omega|fail
   with_reducible refine bE [4,5,7,9,10,11,37,38,39,40,41,42,43,44,45,46,47,48,49,50,51,52,53,54] (fun q:Nat × List Int × List bj=>[(37,I q.1),(7,.own E1 1 q.1 0 q.1)]) (fun q=> .cells [I op,I vk,I vn,.str vs,.str s,.aN false EX (l.map aT)]:: .vec E1 (q.2.1.map eI)::q.2.2) (fun q=>q.1<=l.length/\q.2.1.length=q.1/\ ∀ k,k<q.1->jr cs (l.getD k default)=(q.2.1.getD k 0,0)) (fun q=>l.length-q.1) (0,[],[]) ?_ ?_ ?_ ?_
   ·simp
   ·rfl
   ·exact at_
   rintro⟨i,ks,τ⟩ r ⟨a1,a2,a3⟩;dsimp only at a1 a2 a3;by_cases hi:i<l.length
   ·have hx:=hk i hi;generalize hK:jr cs (l.getD i default)=K at *;obtain⟨kk,ke⟩:=K;rw[bq]at hx;repeat' first|simp (disch:=omega) only[go_sem,aB,aC,aD,a2]|refine au ?_|refine aq ?_ ?_<;>intro hw<;>try omega|fail
    ·have:kW cs l=([],ke):=Md hi (fun k h=>by rw[a3 k h]) (by rw[hK]) (by assumption);rw[this];refine bx ?_ rfl;dsimp only;rw[if_neg (by assumption)]
    ·refine⟨(i+1,ks++[kk],τ++[.cells [I (l.getD i default).op,I (l.getD i default).v.kind,I (l.getD i default).v.n,.str (l.getD i default).v.s,.str (l.getD i default).s,.aN false EX ((l.getD i default).l.map aT)]]),?_,?_,?_,cZ,at_⟩
     ·refine⟨by dsimp only;omega,by simp[a2],bQ (fun k kR=>?_) ?_⟩
      ·rw[a3 k kR];simp[ai,aJ (show k<ks.length by omega)]
      ·rw[hK];have:ke=0:=by assumption
       rw[this,<-a2];simp[ai]
     ·dsimp only;omega
     ·simp[eI]
   ·have hie:i=l.length:=by omega
    subst hie;have Df:=PB a2 a3;rw[Df]at aB aC;have hc:=agE ks (by rw[a2];exact U8);have hpk:AV.cg (ks.map eI)=true:=AL ks;have hlk:(ks.map eI).length=l.length:=by simp[a2]
    simp only[if_true]at aB aC;unfold U7 at aB aC;clear Df a3;generalize lp op ks=R at *;obtain⟨rk,rb⟩:=R;repeat' first|simp (disch:=omega) only[go_sem,aB,aC,aD,a2]|refine au ?_|(with_reducible refine xG hc (.cons (View.refl _ rfl) (.cons (View.vec rfl hlk.symm hlk.symm hpk) (.nil _))) rfl ?_)|refine aq ?_ ?_<;>intro hw<;>try omega|fail
    all_goals (refine bx ?_ rfl;simp_all)
def RM(cs:List cN)(hcs:cs.length<=2 ^ 60)(x:Expr)(hx:ig x)(hz:fW x<=2 ^ 60): aM aH 109 [aT x,bV cs] (.bH [I (if cq x then(jr cs x).1 else 0),I (if cq x then(jr cs x).2 else 2)]):=by
 have h1:=ym x hx hz;have h2:=RL cs hcs x;cases hr:cq x with
 | true =>
   have h2:=h2 hr hz;rw[hr]at h1;simp only[ie,if_true]at h1 ⊢;generalize jr cs x=K at *;rw[bq]at h1 h2 ⊢;simp only[bV]at h2 ⊢;refine aR Aw ?_;intro Q aB aC aD;repeat' first|refine au ?_|refine aq ?_ ?_<;>intro hw<;>try omega|fail
   all_goals exact bx rfl rfl
 | false =>
   rw[hr]at h1;simp only[ie,aG,if_false]at h1 ⊢;rw[bq]at h1 ⊢;simp only[bV];refine aR Aw ?_;intro Q aB aC aD;repeat' first|refine au ?_|refine aq ?_ ?_<;>intro hw<;>try omega|fail
   all_goals exact bx rfl rfl
def yn(l:List cN)(i:Nat): Int :=
 if jU (l.getD i default).name=false\/uR l (l.getD i default).name≠i then 13
 else if(l.getD i default).kind<1\/3<(l.getD i default).kind then 14 else 0
def mw(l:List cN): Int:=if 6<l.length then 24 else match(List.range l.length).find? (fun i=>yn l i != 0)with
 | some i=>yn l i
 | none=>0
def nI{n k:Nat}(h:k<n): (List.range n).getD k default=k:=by simp[ai,h]
def aap{l:List cN}{i:Nat}{e:Int}(h6:¬ 6<l.length)(hi:i<l.length)(h:∀ k,k<i->yn l k=0)(he:yn l i=e)(hne:e≠0): mw l=e:=by
 have:=xH (p:=fun i=>yn l i != 0) (l:=List.range l.length) (i:=i) (by simpa using hi) (fun k hk=>by rw[nI (by omega)];simp[h k hk]) (by rw[nI hi];simp[he,hne]);unfold mw;rw[if_neg h6,this,nI hi];exact he
def XI{l:List cN}(h6:¬ 6<l.length)(h:∀ k,k<l.length->yn l k=0): mw l=0:=by
 have:=vp (p:=fun i=>yn l i != 0) (l:=List.range l.length) (fun k hk=>by rw[List.length_range]at hk;rw[nI hk];simp[h k hk]);unfold mw;rw[if_neg h6,this]
def KG(l:List cN)(hn:∀ k,k<l.length->(l.getD k default).name.length<=2 ^ 62): aM aH 102 [bV l] (I (mw l)):=by
 by_cases h6:6<l.length
 ·have e:mw l=24:=by unfold mw;rw[if_pos h6]
  rw[e];refine aR wR ?_ (by simp[AV.dz,AV.cg,kz]);intro Q aB aC aD;repeat' first|refine au ?_|refine aq ?_ ?_<;>intro hw<;>try omega|fail
  exact aU rfl rfl
 refine aR wR ?_ (by simp[AV.dz,AV.cg,kz]);intro Q aB aC aD;repeat' first|refine au ?_|refine aq ?_ ?_<;>intro hw<;>try omega|fail
 with_reducible refine bE [2,3,4,10,11,12,13,14,15,16,17,18,19,20,21,22,23,24,25,26,27,28,29,30,31,32,33,34,35,36,37,38,39,40] (fun q:Nat × List bj=>[(10,I q.1)]) (fun q=>q.2) (fun q=>q.1<=l.length/\ ∀ k,k<q.1->yn l k=0) (fun q=>l.length-q.1) (0,[]) ?_ ?_ ?_ ?_
 ·simp
 ·rfl
 ·exact at_
 rintro⟨i,τ⟩ r ⟨h1,h2⟩;dsimp only at h1 h2;by_cases hi:i<l.length
 ·have c1:=yj _ (hn i hi);have c2:=Mc l (l.getD i default).name (by omega);have hE:yn l i=if jU (l.getD i default).name=false\/uR l (l.getD i default).name≠i then 13 else if(l.getD i default).kind<1\/3<(l.getD i default).kind then 14 else 0:=rfl
  obtain⟨c,hc⟩:∃ c,l.getD i default=c:=⟨_,rfl⟩;rw[hc]at c1 c2 hE;generalize jU c.name=nb at *;generalize uR l c.name=an at *;simp only[bV]at c2;repeat' first|simp (disch:=omega) only[go_sem,aB,aC,aD,hc]|refine au ?_|refine aq ?_ ?_<;>intro hw<;>try omega|fail
  all_goals first
   | (refine aU ?_ rfl
      refine congrArg I ?_
      symm
      refine aap h6 hi h2 ?_ (by decide);rw[hE]
      first
       |(rw[if_pos (by simp_all)];done)
       |(rw[if_neg (by simp_all),if_pos (by omega)];done))
   | (refine ⟨(i + 1, τ ++ [.cells [.str c.name, I c.kind, .aN false EV (c.order.map bX)]]), ?_, ?_, by first | rfl | (simp [go_sem]; done), cZ, at_⟩
      ·exact⟨by dsimp only;omega,bQ h2 (by rw[hE,if_neg (by simp_all),if_neg (by omega)])⟩
      ·dsimp only;omega)
 ·repeat' first|refine au ?_|refine aq ?_ ?_<;>intro hw<;>try omega|fail
  refine aU ?_ rfl;rw[XI h6 (fun k hk=>h2 k (by omega))]
def nJ(x:Expr): Bool:=cq x && decide (kV x<=12)
def Me(x:Expr)(hx:ig x)(hz:fW x<=2 ^ 60): aM aH 130 [aT x] (.bool (nJ x)):=by
 have h1:=ym x hx hz;have h2:=zP x hz;unfold nJ;generalize cq x=b at *;rw[bq]at h1 h2 ⊢;refine aR O8 ?_;intro Q aB aC aD;cases b<;>simp only[ie,if_true,Bool.false_eq_true,if_false]at h1
 ·repeat' first|refine au ?_|refine aq ?_ ?_<;>intro hw<;>try omega|fail
  all_goals exact aU rfl rfl
 ·repeat' first|refine au ?_|refine aq ?_ ?_<;>intro hw<;>try omega|fail
  all_goals (refine aU ?_ rfl;simp;omega)
def AN (fn : FuncId) (cap : List AV) (hcap : AV.cg cap = true) (p : Test -> Bool) (l : List Test) (h : ∀ k, k < l.length -> aM aH fn (dA (l.getD k default) :: cap) (.bool (p (l.getD k default)))) (hl : l.length <= 2 ^ 62) :
    aM aH 129 [jj l,.fn (.func fn) [] cap] (I (kr p l)):=by
 refine aR ye ?_ (by simp[AV.dz,AV.cg,hcap,xn]);intro Q aB aC aD;repeat' first|refine au ?_|refine aq ?_ ?_<;>intro hw<;>try omega|fail
 with_reducible refine bE [4,5,8,9,10,11,12,13,14,15,16,17,18] (fun i:Nat=>[(8,I i)]) (fun _=>[]) (fun i=>i<=l.length/\ ∀ k,k<i->p (l.getD k default)=false) (fun i=>l.length-i) (0) ?_ ?_ ?_ ?_
 ·simp
 ·rfl
 ·exact at_
 ·rintro i r ⟨hi,hp⟩;by_cases hin:i<l.length
  ·have hx:=h i hin;simp only[dA,ew,ia,m_,dG,dQ,jj,aW,lC,vZ]at hx;repeat' first|refine au ?_|refine aq ?_ ?_<;>intro hw<;>try omega|fail
   ·refine aU ?_ rfl;refine congrArg I ?_;exact(pO hin hp hw).symm
   ·refine⟨i+1,?_,?_,by first|rfl|(simp[go_sem];done),cZ,at_⟩<;>(try dsimp only)
    ·exact⟨by omega,bQ hp hw⟩
    ·omega
  ·repeat' first|refine au ?_|refine aq ?_ ?_<;>intro hw<;>try omega|fail
   refine aU ?_ rfl;refine congrArg I ?_;exact(mH fun k hk=>hp k (by omega)).symm
def yo (fn : FuncId) (cap : List AV) (hcap : AV.cg cap = true) (p : Test -> Bool) (l : List Test) (h : ∀ k, k < l.length -> aM aH fn (dA (l.getD k default) :: cap) (.bool (p (l.getD k default)))) (hl : l.length <= 2 ^ 62) :
    aM aH 85 [jj l,.fn (.func fn) [] cap] (.bool (l.any p)):=by
 refine aR vW ?_ (by simp[AV.dz,AV.cg,hcap,xn]);intro Q aB aC aD;have hc:=AN fn cap hcap p l h hl;simp only[jj]at hc;repeat' first|refine au ?_|refine aq ?_ ?_<;>intro hw<;>try omega|fail
 all_goals refine aU ?_ rfl
 all_goals rw[<-vq]
def jH(t:Test): Bool :=
 if t.kind=6 then nJ t.a && nJ t.b
 else decide (1<=t.kind/\t.kind<=5) && nJ t.a && vI t.b x0 && !t.lo && !t.hi
def Jb(t:Test): Prop:=(ig t.a/\fW t.a<=2 ^ 60)/\ig t.b/\fW t.b<=2 ^ 60
def Mf(c:Cell): Prop:=c.tests.length<=2 ^ 60/\ ∀ t ∈ c.tests,Jb t
def gP(c:Cell): Bool :=
 if c.any then !c.neg && decide (c.tests.length=0)
 else decide (1<=c.tests.length/\c.tests.length<=12) && !(c.tests.any fun t=> !(jH t))
def XJ: fW x0<=2 ^ 60:=by simp[x0,fW,mT]
def aaq: aT x0 = .agg [I 0,I 0,I 0,.str [],.str [],.aN false EX []]:=by simp[x0,v0,aT]
def cell_of(t:Test): aM aH 132 [dA t] (.agg [.bool t.lo,.bool t.hi]):=by
 refine aR UR ?_;intro Q aB aC aD;simp only[dA,dQ];repeat' first|refine au ?_|refine aq ?_ ?_<;>intro hw<;>try omega|fail
 all_goals exact aU rfl rfl
def U9(t:Test)(h:Jb t): aM aH 87 [dA t] (.bool (jH t)):=by
 obtain⟨⟨a1,a2⟩,b1,b2⟩:=h;have ha:=Me t.a a1 a2;have hb:=Me t.b b1 b2;have hs:=RG t.b x0 (XD _ b2) (XD _ XJ);have ho:=cell_of t;rw[aaq]at hs;rw[bq]at ha hb hs;simp only[dA,dQ]at ho ⊢;have hS:jH t=if t.kind=6 then nJ t.a && nJ t.b else decide (1<=t.kind/\t.kind<=5) && nJ t.a && vI t.b x0 && !t.lo && !t.hi:=rfl
 rw[hS];clear hS;generalize nJ t.a=pa at *;generalize nJ t.b=pb at *;generalize vI t.b x0=sb at *;refine aR Nu ?_;intro Q aB aC aD;repeat' first|refine au ?_|refine zd hs ?_|refine aq ?_ ?_<;>intro hw<;>try omega|fail
 all_goals (refine aU ?_ rfl;refine congrArg AV.bool ?_;rw[cG];simp_all)
 all_goals (try omega)
def PC(t:Test)(h:Jb t): aM aH 86 [dA t] (.bool (!(jH t))):=by
 have h1:=U9 t h;simp only[dA,dQ]at h1 ⊢;generalize jH t=b at *;refine aR IL ?_;intro Q aB aC aD;repeat' first|refine au ?_|refine aq ?_ ?_<;>intro hw<;>try omega|fail
 all_goals exact aU rfl rfl
def xu(c:Cell)(h:Mf c): aM aH 52 [dG c] (I (ie (gP c))):=by
 have hc:=yo 86 [] rfl (fun t=> !(jH t)) c.tests (fun k hk=>PC _ (h.2 _ (bn hk))) (by have:=h.1;omega);have hl:=h.1;simp only[jj,dG]at hc ⊢;have hS:gP c=if c.any then !c.neg && decide (c.tests.length=0)else decide (1<=c.tests.length/\c.tests.length<=12) && !(c.tests.any fun t=> !(jH t)):=rfl
 rw[hS];clear hS;generalize c.tests.any (fun t=> !(jH t))=an at *;refine aR Nn ?_;intro Q aB aC aD;repeat' first|refine au ?_|refine aq ?_ ?_<;>intro hw<;>try omega|fail
 all_goals (refine aU ?_ rfl;refine congrArg I ?_;simp_all[ie,<-List.length_eq_zero_iff])
 all_goals (try omega)
 all_goals (intro h0;exfalso;omega)
