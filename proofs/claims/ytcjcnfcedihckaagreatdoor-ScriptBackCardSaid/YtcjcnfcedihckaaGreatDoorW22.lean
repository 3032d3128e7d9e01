/- Part. -/
import Derived.Test.YtcjcnfcedihckaaGreatDoorW21
set_option linter.all false
namespace Go.Proofs.YtcjcnfcedihckaaGreatDoor
open Go.AM
set_option maxRecDepth 4000
def zz(op:Int)(v:ez)(s:aI)(l:List Expr): fT (.mk op v s l)=mA l+1:=by simp only[fT]
def KZ: Option Expr->Nat
 | none=>1
 | some x=>fT x
def Jy{T:List Tok}{r:RS}{k:Int}{s:aI}: (kD T r k s).x=r.x/\r.p<=(kD T r k s).p:=by
 refine⟨rfl,?_⟩;simp only[kD,tC];split<;>omega
def Vx{rd:Nat->Nat->RS}{l q:Nat}{b:Bool}(h:fT (rd l q).x+4*q<=1+4*(rd l q).p): fT (rh rd l q b).x+4*q<=1+4*(rh rd l q b).p:=by
 unfold rh;split
 ·simp[x0,fT,mA]
 ·exact h
def aes(T:List Tok)(f:Nat): ∀(m:Option Expr) (lvl p:Nat),p<=T.length->fT (cN T f m lvl p).x+4*p<=KZ m+4*(cN T f m lvl p).p:=by
 induction f with
 | zero =>
   intro m lvl p hp
   have:1<=KZ m:=by
    cases m with
    | none=>exact Nat.le_refl _
    | some x=>cases x;simp[KZ,fT]
   simp only[cN,x0,fT,mA];omega
 | succ f ih =>
   intro m lvl p hp;have hrd:∀ l q,q<=T.length->fT (cN T f none l q).x+4*q<=1+4*(cN T f none l q).p:=fun l q hq=>ih none l q hq;have tW:∀ l q,q<=T.length->jN T.length q (cN T f none l q):=fun l q hq=>(sy T f none l q hq).1 rfl;cases m with
   | none =>
     simp only[cN,KZ];split
     ·split
      ·rename_i h;have h1:=oP h;have ga:=AA tW (p:=p+1) h1;have gb:=AB tW (p:=p+1) h1;have a:=hrd 0 (p+1) h1;have b:=Vx (b:=(n7 (cN T f none) T (p+1)).bad) (hrd 0 _ ga.2.1);have c:=Vx (b:=(vo (cN T f none) T (p+1)).bad) (hrd 0 _ gb.2.1);have a2:=Jy (T:=T) (r:=cN T f none 0 (p+1)) (k:=1) (s:=thenS);have b2:=Jy (T:=T) (r:=rh (cN T f none) 0 (n7 (cN T f none) T (p+1)).p (n7 (cN T f none) T (p+1)).bad) (k:=1) (s:=D2);have ea:(n7 (cN T f none) T (p+1))=kD T (cN T f none 0 (p+1)) 1 thenS:=rfl;have eb:(vo (cN T f none) T (p+1))=kD T (rh (cN T f none) 0 (n7 (cN T f none) T (p+1)).p (n7 (cN T f none) T (p+1)).bad) 1 D2:=rfl;have ec:(CQ (cN T f none) T (p+1))=rh (cN T f none) 0 (vo (cN T f none) T (p+1)).p (vo (cN T f none) T (p+1)).bad:=rfl;show fT (.mk 16 v0 [] [(n7 (cN T f none) T (p+1)).x,(vo (cN T f none) T (p+1)).x,(CQ (cN T f none) T (p+1)).x])+4*p<=1+4*(CQ (cN T f none) T (p+1)).p;rw[<-ea]at a2;rw[<-eb]at b2;rw[<-ec]at c;simp only[zz,mA];rw[a2.1,b2.1];omega
      ·exact hrd 1 p hp
     ·split
      ·rename_i h;have h1:=oP h.2;have c:=hrd 6 (p+1) h1;simp only[zz,mA];omega
      ·split
       ·have ok:∀ v s,fT (.mk 1 v s [])+4*p<=1+4*(p+1):=fun v s=>by simp only[zz,mA];omega
        unfold nM;split
        ·rename_i h;have c:=hrd 0 (p+1) (oP h);have a2:=Jy (T:=T) (r:=cN T f none 0 (p+1)) (k:=4) (s:=[41]);show fT (kD T (cN T f none 0 (p+1)) 4 [41]).x+4*p<=1+4*(kD T (cN T f none 0 (p+1)) 4 [41]).p;rw[a2.1];omega
        ·repeat' split
         all_goals simp only[yV,x0,zz,mA]
         all_goals omega
       ·split
        ·exact hrd _ _ hp
        ·have a:=hrd (lvl+1) p hp;have b:=ih (some (cN T f none (lvl+1) p).x) lvl _ (tW (lvl+1) p hp).2.1;simp only[KZ]at b;omega
   | some x =>
     simp only[cN,KZ];split
     ·exact Nat.le_refl _
     ·rename_i o ho;have h1:=(CU ho).1;have a:=hrd (lvl+1) (p+1) h1;have g:=tW (lvl+1) (p+1) h1;split
      ·simp only[zz,mA];omega
      ·have b:=ih (some (.mk o.op v0 [] [x,(cN T f none (lvl+1) (p+1)).x])) lvl _ g.2.1;simp only[KZ,zz,mA]at b;omega
def iw(T:List Tok)(fr lvl:Int): Expr × Int × Int :=
 if fr<0\/(T.length:Int)<fr\/lvl<0\/7<lvl then(x0,0,2)
 else if(cN T (8*T.length+9) none lvl.toNat fr.toNat).bad then(x0,(cN T (8*T.length+9) none lvl.toNat fr.toNat).p,11)
 else((cN T (8*T.length+9) none lvl.toNat fr.toNat).x,(cN T (8*T.length+9) none lvl.toNat fr.toNat).p,0)
def K0(r:Expr × Int × Int): AV:= .bU [bg r.1,I r.2.1,I r.2.2]
def mX{σ : ae}{a E:AV}{n m:Int}(h:View σ a E): bS σ [a,I n,I m] [E,I n,I m]:= .cons h (.cons (.refl _ rfl) (.cons (.refl _ rfl) (.nil _)))
def EG(T:List Tok)(fr lvl:Int)(hT:T.length<=2 ^ 50)(hs:∀ q,(T.getD q default).s.length<=2 ^ 62): aM aK 268 [tj T,I fr,I lvl] (K0 (iw T fr lvl)):=by
 by_cases hg:fr<0\/(T.length:Int)<fr\/lvl<0\/7<lvl
 ·have e:iw T fr lvl=(x0,0,2):=by unfold iw;rw[if_pos hg]
  rw[e];have e1:∀ σ : ae,View σ (.agg [I 0,I 0,I 0,.str [],.str [],.au]) (bg x0):=fun σ=>qu (.au _);simp only[K0];generalize bg x0=E at *;refine aR uu ?_;intro Q aC aD aE;repeat' first|refine aG ?_|refine aF ?_ ?_<;>intro hw<;>try omega|fail
  all_goals first|exact cK (mX (e1 _))|(exfalso;omega)
 ·obtain⟨p,rfl⟩:∃ p:Nat,fr=p:=⟨fr.toNat,by omega⟩;obtain⟨l,rfl⟩:∃ l:Nat,lvl=l:=⟨lvl.toNat,by omega⟩;have cr:=P2 T (by omega) hs (8*T.length+9) l p (by omega) (by omega) (by omega)
  have e:iw T p l=if(cN T (8*T.length+9) none l p).bad then(x0,((cN T (8*T.length+9) none l p).p:Int),11)else ((cN T (8*T.length+9) none l p).x,((cN T (8*T.length+9) none l p).p:Int),0):=by
   unfold iw;rw[if_neg hg,Int.toNat_natCast,Int.toNat_natCast]
  rw[e];simp only[yl]at cr;generalize cN T (8*T.length+9) none l p=r at *;obtain⟨rx,rp,rb⟩:=r;dsimp only at *;have e1:∀ σ : ae,View σ (.agg [I 0,I 0,I 0,.str [],.str [],.au]) (bg x0):=fun σ=>qu (.au _);have e2:∀ σ : ae,View σ (.agg [I rx.op,I rx.v.kind,I rx.v.n,.str rx.v.s,.str rx.s,.aO false EX (rx.l.map bg)]) (bg rx):=fun σ=>View.eqv (bG _).symm (fX _);rw[bG]at cr;simp only[dM]at cr;cases rb with
  | true =>
    simp only[if_true,K0];generalize bg x0=E at *;refine aR uu ?_;intro Q aC aD aE;repeat' first|refine aG ?_|refine c8 cr ?_|refine aF ?_ ?_<;>intro hw<;>try omega|fail
    all_goals first|exact cK (mX (e1 _))|(exfalso;omega)
  | false =>
    simp only[aB,if_false,K0];generalize bg rx=E at *;refine aR uu ?_;intro Q aC aD aE;repeat' first|refine aG ?_|refine c8 cr ?_|refine aF ?_ ?_<;>intro hw<;>try omega|fail
    all_goals first|exact cK (mX (e2 _))|(exfalso;omega)
def aaQ(r b:aI)(i:Nat): (j6 r b i).s.length<=b.length+r.length:=by
 fun_induction j6 r b i<;>simp_all[PR.err]<;>omega
def acM(s:aI): (iy s).s.length<=s.length+2:=by
 unfold iy;simp only;split
 ·unfold yg;split<;>simp[PR.err];omega
 ·split
  ·unfold mL;simp only;split
   ·simp[PR.err]
   ·split<;>simp[PR.err]
  ·split
   ·have:=aaQ (s.drop 1) [] 1;rw[List.length_drop]at this;simp only[List.length_nil]at this;omega
   ·unfold tA;split
    ·rename_i m hm;have h2:=fS hm;simp only[vi,List.mem_cons,List.not_mem_nil,or_false]at h2;rcases h2 with h|h|h|h|h|h|h|h|h|h|h|h|h|h|h|h<;>subst h<;>simp
    ·simp[PR.err]
def S6(f:Nat): ∀(s:aI) (pos:Nat) (acc:List Tok),(∀ t ∈ acc,t.s.length<=1000)->s.length<=900->(pP f s pos acc).1.length<=acc.length+s.length/\ ∀ t ∈ (pP f s pos acc).1,t.s.length<=1000:=by
 induction f with
 | zero=>intro s pos acc h _;exact⟨Nat.le_add_right _ _,h⟩
 | succ f ih =>
   intro s pos acc h hs;cases s with
   | nil=>exact⟨Nat.le_add_right _ _,h⟩
   | cons c r =>
     rw[sx];simp only[List.length_cons]at hs ⊢;split
     ·have:=ih r (pos+1) acc h (by omega);exact⟨by omega,this.2⟩
     ·split
      ·rename_i he;have h1:=ND (s:=c::r) (by simp) he;have h2:=acM (c::r);simp only[List.length_cons]at h1 h2
       have:=ih ((c::r).drop (iy (c::r)).len) (pos+(iy (c::r)).len) (acc++[⟨(iy (c::r)).kind,(iy (c::r)).s,(iy (c::r)).n,pos⟩]) (fun t ht=>by
        rcases List.mem_append.1 ht with ht|ht
        ·exact h t ht
        ·simp only[List.mem_cons,List.not_mem_nil,or_false]at ht;subst ht;dsimp only;omega) (by rw[List.length_drop,List.length_cons];omega)
       rw[List.length_drop,aA,List.length_cons]at this;simp only[List.length_cons,List.length_nil]at this;exact⟨by omega,this.2⟩
      ·exact⟨Nat.zero_le _,fun t ht=>by cases ht⟩
def oB(s:aI): (bN s).1.length<=200/\ ∀ q,((bN s).1.getD q default).s.length<=1000:=by
 have h:(bN s).1.length<=200/\ ∀ t ∈ (bN s).1,t.s.length<=1000:=by
  unfold bN;split
  ·exact⟨Nat.zero_le _,fun t ht=>by cases ht⟩
  ·have:=S6 (s.length+1) s 0 [] (fun t ht=>by cases ht) (by omega);simp only[List.length_nil]at this;exact⟨by omega,this.2⟩
 refine⟨h.1,fun q=>?_⟩;by_cases hq:q<(bN s).1.length
 ·exact h.2 _ (bH hq)
 ·rw[oA (by omega)];exact bJ _
def FV(T:List Tok)(fr lvl:Int): fT (iw T fr lvl).1<=1+4*T.length:=by
 have h0:fT x0=1:=by simp[x0,fT,mA]
 unfold iw;split
 ·dsimp only;omega
 ·rename_i hg;split
  ·dsimp only;omega
  ·have:=aes T (8*T.length+9) none lvl.toNat fr.toNat (by omega);have g:=(sy T (8*T.length+9) none lvl.toNat fr.toNat (by omega)).2.2;simp only[KZ]at this;dsimp only;omega
def jw(s:aI): Expr × Int × Int :=
 if(bN s).2.2≠0 then(x0,(bN s).2.1,(bN s).2.2)
 else if(iw (bN s).1 0 0).2.1<(bN s).1.length then(x0,((bN s).1.getD (iw (bN s).1 0 0).2.1.toNat default).pos,11)
 else if(iw (bN s).1 0 0).2.2≠0 then(x0,s.length,(iw (bN s).1 0 0).2.2)
 else if 12<lC (iw (bN s).1 0 0).1 then(x0,0,12)
 else((iw (bN s).1 0 0).1,0,0)
def Ri(T:List Tok)(fr lvl:Int): 0<=(iw T fr lvl).2.1/\(iw T fr lvl).2.1<=T.length:=by
 unfold iw;split
 ·exact⟨Int.le_refl _,by dsimp only;omega⟩
 ·rename_i hg;have g:=(sy T (8*T.length+9) none lvl.toNat fr.toNat (by omega)).2.2;split<;>(dsimp only;omega)
def NW(s:aI)(hs:s.length<=2 ^ 30): aM aK 233 [.str s] (K0 (jw s)):=by
 have cl:=Jt s hs;obtain⟨f1,f2⟩:=oB s;have cr:=EG (bN s).1 0 0 (by omega) (fun q=>by have:=f2 q;omega);have hz:=FV (bN s).1 0 0;obtain⟨hp0,zb⟩:=Ri (bN s).1 0 0
 have hP:jw s=if(bN s).2.2≠0 then(x0,(bN s).2.1,(bN s).2.2)
  else if(iw (bN s).1 0 0).2.1<(bN s).1.length then(x0,((bN s).1.getD (iw (bN s).1 0 0).2.1.toNat default).pos,11)
  else if(iw (bN s).1 0 0).2.2≠0 then(x0,(s.length:Int),(iw (bN s).1 0 0).2.2)
  else if 12<lC (iw (bN s).1 0 0).1 then(x0,0,12)
  else((iw (bN s).1 0 0).1,0,0):=rfl
 rw[hP];clear hP f2;generalize iw (bN s).1 0 0=r at *;generalize bN s=L at *;obtain⟨T,la,le⟩:=L;obtain⟨rx,rn,re⟩:=r;dsimp only at *;have cd:=yT rx (by omega);obtain⟨n,rfl⟩:∃ n:Nat,rn=n:=⟨rn.toNat,by omega⟩;have e1:∀ σ : ae,View σ (.agg [I 0,I 0,I 0,.str [],.str [],.au]) (bg x0):=fun σ=>qu (.au _);have e2:∀ σ : ae,View σ (.agg [I rx.op,I rx.v.kind,I rx.v.n,.str rx.v.s,.str rx.s,.aO false EX (rx.l.map bg)]) (bg rx):=fun σ=>View.eqv (bG _).symm (fX _);simp only[K0]at cr ⊢;rw[bG]at cr cd;simp only[NJ,tj]at cl cr;by_cases h1:le≠0
 ·rw[if_pos h1];generalize bg x0=E at *;refine aR mW ?_;intro Q aC aD aE;repeat' first|refine aG ?_|refine aF ?_ ?_<;>intro hw<;>try omega|fail
  all_goals exact cK (mX (e1 _))
 rw[if_neg h1];by_cases h2:(n:Int)<T.length
 ·rw[if_pos h2,iG];generalize bg x0=E at *;have hn:n<T.length:=by omega
  refine aR mW ?_;intro Q aC aD aE;repeat' first|refine aG ?_|refine aF ?_ ?_<;>intro hw<;>try omega|fail
  all_goals exact cK (mX (e1 _))
 rw[if_neg h2];by_cases h3:re≠0
 ·rw[if_pos h3];generalize bg x0=E at *;refine aR mW ?_;intro Q aC aD aE;repeat' first|refine aG ?_|refine aF ?_ ?_<;>intro hw<;>try omega|fail
  all_goals exact cK (mX (e1 _))
 rw[if_neg h3];by_cases h4:12<lC rx
 ·rw[if_pos h4];generalize bg x0=E at *;refine aR mW ?_;intro Q aC aD aE;repeat' first|refine aG ?_|refine aF ?_ ?_<;>intro hw<;>try omega|fail
  all_goals exact cK (mX (e1 _))
 ·rw[if_neg h4];generalize bg rx=E at *;refine aR mW ?_;intro Q aC aD aE;repeat' first|refine aG ?_|refine aF ?_ ?_<;>intro hw<;>try omega|fail
  all_goals exact cK (mX (e2 _))
def AE: aI:=[110,117,108,108]
def pD: aI:=[116,114,117,101]
def mY: aI:=[102,97,108,115,101]
structure Lq where
 op:Int
 vk:Int
 vn:Int
 vs:aI
 s:aI
 fl:Bool
 zs:List AV
 x:Expr
 p:Nat
 b:Bool
 f:Nat
def Lq.cs(q:Lq): List AV:=[I q.op,I q.vk,I q.vn,.str q.vs,.str q.s,.aO q.fl EX q.zs]
def Lq.seen(q:Lq): Prop:=View [] (.agg q.cs) (bg q.x)
def eI(n:Int): AV:=I n
attribute [go_sem] eI
def acN(n:Int): (eI n).dF=true:=rfl
def CW(l:List Int): AV.cB (l.map eI)=true:=iJ _ _ acN
def kE(a b:Int): Bool:=decide (a=b) || decide (a=0) || decide (b=0)
def Rj(a b:Int): Int:=if a=0 then b else a
def oW(a b:Int): aM aK 235 [I a,I b] (.bool (kE a b)):=by
 refine aR Jp ?_;intro Q aC aD aE;repeat' first|refine aG ?_|refine aF ?_ ?_<;>intro hw<;>try omega|fail
 all_goals refine aS ?_ rfl
 all_goals (refine congrArg AV.bool ?_;rw[a_];simp only[kE,aq,dm,decide_eq_true_eq,beq_iff_eq,cF,decide_eq_false_iff_not,beq_eq_false_iff_ne,ne_eq,true_iff,false_iff,iff_true,iff_false,aB,Bool.true_eq_false,not_and,not_or]at *;omega)
def AG(a b:Int): aM aK 214 [I a,I b] (.bool (kE a b)):=by
 refine aR Mq ?_;intro Q aC aD aE;repeat' first|refine aG ?_|refine aF ?_ ?_<;>intro hw<;>try omega|fail
 all_goals refine aS ?_ rfl
 all_goals (refine congrArg AV.bool ?_;rw[a_];simp only[kE,aq,dm,decide_eq_true_eq,beq_iff_eq,cF,decide_eq_false_iff_not,beq_eq_false_iff_ne,ne_eq,true_iff,false_iff,iff_true,iff_false,aB,Bool.true_eq_false,not_and,not_or]at *;omega)
def Bt(a b:Int): aM aK 315 [I a,I b] (I (Rj a b)):=by
 refine aR zp ?_;intro Q aC aD aE;repeat' first|refine aG ?_|refine aF ?_ ?_<;>intro hw<;>try omega|fail
 all_goals refine aS ?_ rfl
 all_goals (unfold Rj;first|rw[if_neg (by assumption)]|rw[if_pos (by assumption)]|(subst a;rfl))
def NX(a b:Int): aM aK 302 [I a,I b] (I (Rj a b)):=by
 refine aR PO ?_;intro Q aC aD aE;repeat' first|refine aG ?_|refine aF ?_ ?_<;>intro hw<;>try omega|fail
 all_goals refine aS ?_ rfl
 all_goals (unfold Rj;first|rw[if_neg (by assumption)]|rw[if_pos (by assumption)]|(subst a;rfl))
def Rk{α : Type}{p : α->Bool}(l:List α): l.all p = !(l.any fun x=> !(p x)):=by
 induction l with
 | nil=>rfl
 | cons x r ih=>simp[ih]
def Hu(w:Int)(l:List Int)(hl:l.length<=2 ^ 60): aM aK 314 [I w,.aO false E1 (l.map eI)] (.bool (l.all fun k=>kE k w)):=by
 refine aR Mt ?_ (by simp[AV.dF,AV.cB,CW]);intro Q aC aD aE;repeat' first|refine aG ?_|refine aF ?_ ?_<;>intro hw<;>try omega|fail
 with_reducible refine bX [4,6,9,10,11,12,13,14,15,16,17] (fun i:Nat=>[(9,I i)]) (fun _=>[]) (fun i=>i<=l.length/\ ∀ k,k<i->(!(kE (l.getD k default) w))=false) (fun i=>l.length-i) (0) ?_ ?_ ?_ ?_
 ·simp
 ·rfl
 ·exact at_
 rintro i r ⟨h1,h2⟩;by_cases hi:i<l.length
 ·repeat' first|refine aG ?_|refine eU (oW _ _) ?_|refine aF ?_ ?_<;>intro hw<;>try omega|fail
  ·refine aS ?_ rfl;rw[Rk,Vs (p:=fun x=> !(kE x w)) hi (by simpa using hw)];rfl
  ·refine⟨i+1,?_,?_,by first|rfl|(simp[go_sem];done),da,at_⟩<;>(try dsimp only)
   ·exact⟨by omega,bP h2 (by simpa using hw)⟩
   ·omega
 ·repeat' first|refine aG ?_|refine aF ?_ ?_<;>intro hw<;>try omega|fail
  refine aS ?_ rfl;rw[Rk,Re (p:=fun x=> !(kE x w)) (fun k hk=>h2 k (by omega))];rfl
def Ep(l:List Int)(v:Int)(hl:l.length<=2 ^ 60): aM aK 322 [.aO false E1 (l.map eI),I v] (I (fI (fun x=>x==v) l)):=by
 refine aR As ?_ (by simp[AV.dF,AV.cB,CW]);intro Q aC aD aE;repeat' first|refine aG ?_|refine aF ?_ ?_<;>intro hw<;>try omega|fail
 with_reducible refine bX [4,5,8,9,10,11,12,13,14,15,16,17,18] (fun i:Nat=>[(8,I i)]) (fun _=>[]) (fun i=>i<=l.length/\ ∀ k,k<i->(l.getD k default==v)=false) (fun i=>l.length-i) (0) ?_ ?_ ?_ ?_
 ·simp
 ·rfl
 ·exact at_
 rintro i r ⟨h1,h2⟩;by_cases hi:i<l.length
 ·repeat' first|refine aG ?_|refine aF ?_ ?_<;>intro hw<;>try omega|fail
  ·refine aS ?_ rfl;rw[mo (p:=fun x=>x==v) hi h2 (by simp_all)]
  ·refine⟨i+1,?_,?_,by first|rfl|(simp[go_sem];done),da,at_⟩<;>(try dsimp only)
   ·exact⟨by omega,bP h2 (by rw[beq_eq_false_iff_ne];intro h;exact hw h.symm)⟩
   ·omega
 ·repeat' first|refine aG ?_|refine aF ?_ ?_<;>intro hw<;>try omega|fail
  refine aS ?_ rfl;rw[lZ (p:=fun x=>x==v) (fun k hk=>h2 k (by omega))]
def AH(l:List Int)(v:Int)(hl:l.length<=2 ^ 60): aM aK 316 [.aO false E1 (l.map eI),I v] (.bool (decide (0<=fI (fun x=>x==v) l))):=by
 refine aR xP ?_ (by simp[AV.dF,AV.cB,CW]);intro Q aC aD aE;repeat' first|refine aG ?_|refine eU (Ep l v hl) ?_|refine aF ?_ ?_<;>intro hw<;>try omega|fail
 all_goals exact aS rfl rfl
def pT(op:Int)(ks:List Int): Int × Bool :=
 if op=3\/op=5\/op=6\/op=7 then(1,ks.all fun k=>kE k 1)
 else if op=4 then(if Rj (ks.getD 0 0) (ks.getD 1 0)=2 then(2,ks.all fun k=>kE k 2)else (1,ks.all fun k=>kE k 1))
 else if op=8\/op=9 then(3,kE (ks.getD 0 0) (ks.getD 1 0))
 else if op=10\/op=11\/op=12\/op=13 then(3,kE (ks.getD 0 0) (ks.getD 1 0) && !(decide (0<=fI (fun x=>x==3) ks)))
 else if op=14\/op=15 then(3,ks.all fun k=>kE k 3)
 else(Rj (ks.getD 1 0) (ks.getD 2 0),kE (ks.getD 0 0) 3 && kE (ks.getD 1 0) (ks.getD 2 0))
def NY(a:Int): aM aK 293 [I 3,.aO false E1 ([a].map eI)] (.bU [I (pT 3 [a]).1,.bool (pT 3 [a]).2]):=by
 have h:=fun w=>Hu w [a] (by simp);simp only[List.map,eI]at h ⊢;refine aR uv ?_;intro Q aC aD aE;repeat' first|simp (disch:=omega) only[go_sem,aC,aD,aE,Int.reduceToNat]|refine aG ?_|refine eU (h _) ?_|refine aF ?_ ?_<;>intro hw<;>try omega|fail
 all_goals exact cj rfl rfl
def NZ(op a b:Int)(h4:4<=op)(Vy:op<=15): aM aK 293 [I op,.aO false E1 ([a,b].map eI)] (.bU [I (pT op [a,b]).1,.bool (pT op [a,b]).2]):=by
 have h:=fun w=>Hu w [a,b] (by simp);have hc:=AH [a,b] 3 (by simp);simp only[List.map,eI]at h hc ⊢;generalize hR:pT op [a,b]=R;refine aR uv ?_;intro Q aC aD aE;repeat' first|simp (disch:=omega) only[go_sem,aC,aD,aE,Int.reduceToNat]|refine aG ?_|refine eU (h _) ?_|refine eU (Bt a b) ?_|refine eU (oW a b) ?_|refine aF ?_ ?_<;>intro hw<;>try omega|fail
 all_goals (refine cj ?_ rfl;clear aC aD aE h hc;subst hR)
 all_goals (simp_all[pT];done)
def N0(a b c:Int): aM aK 293 [I 16,.aO false E1 ([a,b,c].map eI)] (.bU [I (pT 16 [a,b,c]).1,.bool (pT 16 [a,b,c]).2]):=by
 simp only[List.map,eI];refine aR uv ?_;intro Q aC aD aE;repeat' first|simp (disch:=omega) only[go_sem,aC,aD,aE,Int.reduceToNat]|refine aG ?_|refine eU (Bt b c) ?_|refine eU (oW a 3) ?_|refine eU (oW b c) ?_|refine aF ?_ ?_<;>intro hw<;>try omega|fail
 all_goals (refine cj ?_ rfl;simp_all[pT])
def oC(op:Int)(ks:List Int): Int × Int:=if(pT op ks).2 then((pT op ks).1,0)else (0,14)
def ags(a b:Int): decide (0<=fI (fun x=>x==3) [a,b])=(decide (a=3) || decide (b=3)):=by
 by_cases h1:a=3
 ·subst h1;simp[fI,List.findIdx?_cons]
 ·by_cases h2:b=3
  ·subst h2;simp[fI,List.findIdx?_cons,h1]
  ·simp[fI,List.findIdx?_cons,h1,h2]
def Vz(a:Int): aM aK 277 [I 3,.aO false E1 ([a].map eI)] (.bU [I (oC 3 [a]).1,I (oC 3 [a]).2]):=by
 simp only[List.map,eI];generalize hR:oC 3 [a]=R;refine aR yR ?_;intro Q aC aD aE;repeat' first|simp (disch:=omega) only[go_sem,aC,aD,aE,Int.reduceToNat]|refine aG ?_|refine eU (AG _ _) ?_|refine aF ?_ ?_<;>intro hw<;>try omega|fail
 all_goals (refine cj ?_ rfl;clear aC aD aE;subst hR;simp_all[oC,pT])
def VA(op a b:Int)(h4:4<=op)(Vy:op<=15): aM aK 277 [I op,.aO false E1 ([a,b].map eI)] (.bU [I (oC op [a,b]).1,I (oC op [a,b]).2]):=by
 simp only[List.map,eI];generalize hR:oC op [a,b]=R;refine aR yR ?_;intro Q aC aD aE;repeat' first|simp (disch:=omega) only[go_sem,aC,aD,aE,Int.reduceToNat]|refine aG ?_|refine eU (AG _ _) ?_|refine eU (NX _ _) ?_|refine aF ?_ ?_<;>intro hw<;>try omega|fail
 all_goals (refine cj ?_ rfl;clear aC aD aE;subst hR)
 all_goals first|(simp_all[oC,pT,ags];done)|skip
def VB(a b c:Int): aM aK 277 [I 16,.aO false E1 ([a,b,c].map eI)] (.bU [I (oC 16 [a,b,c]).1,I (oC 16 [a,b,c]).2]):=by
 simp only[List.map,eI];generalize hR:oC 16 [a,b,c]=R;refine aR yR ?_;intro Q aC aD aE;repeat' first|simp (disch:=omega) only[go_sem,aC,aD,aE,Int.reduceToNat]|refine aG ?_|refine eU (AG _ _) ?_|refine eU (NX _ _) ?_|refine aF ?_ ?_<;>intro hw<;>try omega|fail
 all_goals (refine cj ?_ rfl;clear aC aD aE;subst hR;simp_all[oC,pT])
def qF (fn : FuncId) (cap : List AV) (hcap : AV.cB cap = true) (p : cV -> Bool) (l : List cV) (h : ∀ k, k < l.length -> aM aK fn (bu (l.getD k default) :: cap) (.bool (p (l.getD k default)))) (hl : l.length <= 2 ^ 62) :
    aM aK 262 [cH l,.fn (.func fn) [] cap] (I (fI p l)):=by
 refine aR vH ?_ (by simp[AV.dF,AV.cB,hcap,jC]);intro Q aC aD aE;repeat' first|refine aG ?_|refine aF ?_ ?_<;>intro hw<;>try omega|fail
 with_reducible refine bX [4,5,8,9,10,11,12,13,14,15,16,17,18] (fun i:Nat=>[(8,I i)]) (fun _=>[]) (fun i=>i<=l.length/\ ∀ k,k<i->p (l.getD k default)=false) (fun i=>l.length-i) (0) ?_ ?_ ?_ ?_
 ·simp
 ·rfl
 ·exact at_
 ·rintro i r ⟨hi,hp⟩;by_cases hin:i<l.length
  ·have hx:=h i hin;simp only[bu,dh]at hx;repeat' first|refine aG ?_|refine aF ?_ ?_<;>intro hw<;>try omega|fail
   ·refine aS ?_ rfl;refine congrArg I ?_;exact(mo hin hp hw).symm
   ·refine⟨i+1,?_,?_,by first|rfl|(simp[go_sem];done),da,at_⟩<;>(try dsimp only)
    ·exact⟨by omega,bP hp hw⟩
    ·omega
  ·repeat' first|refine aG ?_|refine aF ?_ ?_<;>intro hw<;>try omega|fail
   refine aS ?_ rfl;refine congrArg I ?_;exact(lZ fun k hk=>hp k (by omega)).symm
def tX(l:List cV)(s:aI): Int:=fI (fun c=>c.name==s) l
def P3(c:cV)(s:aI): aM aK 287 [bu c,.dY E1 (.str s) 0] (.bool (c.name==s)):=by
 refine aR Jr ?_ (by simp[AV.dF,AV.cB,Au]);intro Q aC aD aE;repeat' first|refine aG ?_|refine aF ?_ ?_<;>intro hw<;>try omega|fail
 all_goals exact aS rfl rfl
def K3(l:List cV)(s:aI)(hl:l.length<=2 ^ 60): aM aK 261 [cH l,.str s] (I (tX l s)):=by
 have hc:=qF 287 [.dY E1 (.str s) 0] rfl (fun c=>c.name==s) l (fun k _=>P3 _ s) (by omega);simp only[cH]at hc;refine aR Nx ?_ (by simp[AV.dF,AV.cB,jC]);intro Q aC aD aE;repeat' first|refine aG ?_|refine xj hc ?_|refine aF ?_ ?_<;>intro hw<;>try omega|fail
 all_goals exact aS rfl rfl
def Yf(l:List cV)(s:aI)(hl:l.length<=2 ^ 60): aM aK 273 [cH l,.str s] (I (tX l s)):=by
 refine aR PJ ?_ (by simp[AV.dF,AV.cB,jC]);intro Q aC aD aE;repeat' first|refine aG ?_|refine aF ?_ ?_<;>intro hw<;>try omega|fail
 with_reducible refine bX [4,5,6,7,8,9,10,11,12,13,14,15,16,17,18,19] (fun i:Nat=>[(5,I i)]) (fun _=>[]) (fun i=>i<=l.length/\ ∀ k,k<i->((l.getD k default).name==s)=false) (fun i=>l.length-i) (0) ?_ ?_ ?_ ?_
 ·simp
 ·rfl
 ·exact at_
 rintro i r ⟨hi,hp⟩;by_cases hin:i<l.length
 ·repeat' first|refine aG ?_|refine aF ?_ ?_<;>intro hw<;>try omega|fail
  ·refine aS ?_ rfl;refine congrArg I ?_;exact(mo (p:=fun c:cV=>c.name==s) hin hp (by simpa using hw)).symm
  ·refine⟨i+1,?_,?_,by first|rfl|(simp[go_sem];done),da,at_⟩<;>(try dsimp only)
   ·exact⟨by omega,bP hp (by simpa using hw)⟩
   ·omega
 ·repeat' first|refine aG ?_|refine aF ?_ ?_<;>intro hw<;>try omega|fail
  refine aS ?_ rfl;refine congrArg I ?_;exact(lZ (p:=fun c:cV=>c.name==s) fun k hk=>hp k (by omega)).symm
def tE{op:Int}{n:Nat}(h:(n:Int)=jZ op)(h1:op≠1)(h2:op≠2): (op=3/\n=1)\/(4<=op/\op<=15/\n=2)\/(op=16/\n=3):=by
 unfold jZ at h;rw[if_neg (by omega)]at h;by_cases h3:op=3
 ·rw[if_pos h3]at h;omega
 rw[if_neg h3]at h;by_cases h16:op=16
 ·rw[if_pos h16]at h;omega
 rw[if_neg h16]at h;by_cases hr:4<=op/\op<=15
 ·rw[if_pos (SX op hr.1 hr.2).2]at h;omega
 ·rw[SW op (by omega)]at h;rw[if_neg (by decide)]at h;omega
def Jz(op:Int)(ks:List Int)(h:(ks.length:Int)=jZ op)(h1:op≠1)(h2:op≠2): aM aK 293 [I op,.aO false E1 (ks.map eI)] (.bU [I (pT op ks).1,.bool (pT op ks).2]):=by
 rcases tE h h1 h2 with⟨rfl,hn⟩|⟨h4,Vy,hn⟩|⟨rfl,hn⟩
 ·match ks,hn with
  | [a],_=>exact NY a
 ·match ks,hn with
  | [a,b],_=>exact NZ op a b h4 Vy
 ·match ks,hn with
  | [a,b,c],_=>exact N0 a b c
def P4(op:Int)(ks:List Int)(h:(ks.length:Int)=jZ op)(h1:op≠1)(h2:op≠2): aM aK 277 [I op,.aO false E1 (ks.map eI)] (.bU [I (oC op ks).1,I (oC op ks).2]):=by
 rcases tE h h1 h2 with⟨rfl,hn⟩|⟨h4,Vy,hn⟩|⟨rfl,hn⟩
 ·match ks,hn with
  | [a],_=>exact Vz a
 ·match ks,hn with
  | [a,b],_=>exact VA op a b h4 Vy
 ·match ks,hn with
  | [a,b,c],_=>exact VB a b c
mutual
def iU(cs:List cV): Expr->Int × Int
 | .mk op v s l =>
   if op=1 then(v.kind,0)
   else if op=2 then(if tX cs s<0 then(0,13)else ((cs.getD (tX cs s).toNat default).kind,0))
   else if(lD cs l).2=0 then oC op (lD cs l).1 else(0,(lD cs l).2)
def lD(cs:List cV): List Expr->List Int × Int
 | []=>([],0)
 | x :: r =>
   if(iU cs x).2≠0 then([],(iU cs x).2)
   else if(lD cs r).2≠0 then([],(lD cs r).2)
   else((iU cs x).1::(lD cs r).1,0)
end
def FW{cs:List cV}: ∀ {l:List Expr} {ks:List Int},ks.length=l.length->(∀ k,k<l.length->iU cs (l.getD k default)=(ks.getD k 0,0))->lD cs l=(ks,0)
 | [],[],_,_=>by simp only[lD]
 | x :: r, k :: ks, hl, h => by
   have h0:=h 0 (by simp);simp only[aV]at h0;have hr:=FW (l:=r) (ks:=ks) (by simpa using hl) (fun i hi=>by simpa using h (i+1) (by simpa using hi));simp[lD,h0,hr]
def CX{cs:List cV}: ∀ {l:List Expr} {i:Nat} {e:Int},i<l.length->(∀ k,k<i->(iU cs (l.getD k default)).2=0)->(iU cs (l.getD i default)).2=e->e≠0->lD cs l=([],e)
 | x :: r, 0, e, _, _, he, hne => by
   simp only[aV]at he;simp[lD,he,hne]
 | x :: r, i + 1, e, hi, h, he, hne => by
   have h0:=h 0 (by omega);simp only[aV]at h0;have hr:=CX (l:=r) (i:=i) (e:=e) (by simpa using hi) (fun k hk=>by simpa using h (k+1) (by omega)) (by simpa using he) hne;simp[lD,h0,hr,hne]
def Rl{α : Type}[Inhabited α](p : α->Bool)(l:List α): fI p l<l.length:=by
 rcases ux p l with⟨h1,h2⟩|⟨i,h1,h2,h3⟩
 ·rw[h1];omega
 ·rw[h2];omega
def P5(cs:List cV)(hcs:cs.length<=2 ^ 60)(x:Expr): di x=true->fT x<=2 ^ 60->aM aK 270 [bg x,cH cs] (.bU [I (iU cs x).1,I (iU cs x).2]):=by
 induction x using Expr.ind with
 | h op v s l ih =>
   intro hr hz;simp only[fT]at hz;have hl:=zu l
   have N1:(l.length:Int)=jZ op:=by
    simp only[di,aq,decide_eq_true_eq]at hr;exact hr.1
   obtain⟨vk,vn,vs⟩:=v;have hA:=K3 cs s hcs;have Hv:=Rl (fun c:cV=>c.name==s) cs
   change tX cs s<cs.length at Hv
   simp only[cH]at hA ⊢;by_cases h1:op=1
   ·have e:iU cs (.mk op ⟨vk,vn,vs⟩ s l)=(vk,0):=by simp only[iU,if_pos h1]
    rw[e];refine aR qp ?_;intro Q aC aD aE;repeat' first|refine aG ?_|refine aF ?_ ?_<;>intro hw<;>try omega|fail
    exact cj rfl rfl
   by_cases h2:op=2
   ·have e:iU cs (.mk op ⟨vk,vn,vs⟩ s l)=if tX cs s<0 then(0,13)else ((cs.getD (tX cs s).toNat default).kind,0):=by simp only[iU,if_neg h1,if_pos h2]
    rw[e];generalize tX cs s=i at *;by_cases hi:i<0
    ·rw[if_pos hi];refine aR qp ?_;intro Q aC aD aE;repeat' first|refine aG ?_|refine aF ?_ ?_<;>intro hw<;>try omega|fail
     exact cj rfl rfl
    ·rw[if_neg hi];obtain⟨n,rfl⟩:∃ n:Nat,i=n:=⟨i.toNat,by omega⟩;have hn:n<cs.length:=by omega
     refine aR qp ?_;intro Q aC aD aE;repeat' first|refine aG ?_|refine aF ?_ ?_<;>intro hw<;>try omega|fail
     exact cj rfl rfl
   have qG:rf l=true:=by
    simp only[di,if_neg h1,if_neg h2,aq]at hr;exact hr.2.2
   have GR:∀ k,k<l.length->di (l.getD k default)=true:=fun k hk=>by
    rw[Az]at qG;simp only[cF,gE,cF,Bool.not_eq_false']at qG;simpa using qG _ (bH hk)
   have hk:∀ k,k<l.length->_:=fun k h=>ih _ (bH h) (GR k h) (by have:=zw (bH h);omega);have e:iU cs (.mk op ⟨vk,vn,vs⟩ s l)=if(lD cs l).2=0 then oC op (lD cs l).1 else(0,(lD cs l).2):=by simp only[iU,if_neg h1,if_neg h2]
   rw[e];have hl3:l.length<=3:=by rcases tE N1 h1 h2 with h|h|h<;>omega
   have S7:=fun ks h=>Jz op ks h h1 h2;clear hA Hv e hr qG;simp only[cH]at hk;refine aR qp ?_;intro Q aC aD aE;repeat' first|refine aG ?_|refine aF ?_ ?_<;>intro hw<;>try omega|fail
   with_reducible refine bX [4,5,7,9,10,11,37,38,39,40,41,42,43,44,45,46,47,48,49,50,51,52,53,54] (fun q:Nat × List Int × List aZ=>[(37,I q.1),(7,.own E1 1 q.1 0 q.1)]) (fun q=> .cells [I op,I vk,I vn,.str vs,.str s,.aO false EX (l.map bg)]:: .vec E1 (q.2.1.map eI)::q.2.2) (fun q=>q.1<=l.length/\q.2.1.length=q.1/\ ∀ k,k<q.1->iU cs (l.getD k default)=(q.2.1.getD k 0,0)) (fun q=>l.length-q.1) (0,[],[]) ?_ ?_ ?_ ?_
   ·simp
   ·rfl
   ·exact at_
   rintro⟨i,ks,τ⟩ r ⟨a1,a2,a3⟩;dsimp only at a1 a2 a3;by_cases hi:i<l.length
   ·have hx:=hk i hi;generalize hK:iU cs (l.getD i default)=K at *;obtain⟨kk,ke⟩:=K;rw[bG]at hx;repeat' first|simp (disch:=omega) only[go_sem,aC,aD,aE,a2]|refine aG ?_|refine aF ?_ ?_<;>intro hw<;>try omega|fail
    ·have:lD cs l=([],ke):=CX hi (fun k h=>by rw[a3 k h]) (by rw[hK]) (by assumption);rw[this];refine cj ?_ rfl;dsimp only;rw[if_neg (by assumption)]
    ·refine⟨(i+1,ks++[kk],τ++[.cells [I (l.getD i default).op,I (l.getD i default).v.kind,I (l.getD i default).v.n,.str (l.getD i default).v.s,.str (l.getD i default).s,.aO false EX ((l.getD i default).l.map bg)]]),?_,?_,?_,da,at_⟩
     ·refine⟨by dsimp only;omega,by simp[a2],bP (fun k lj=>?_) ?_⟩
      ·rw[a3 k lj];simp[aj,aH (show k<ks.length by omega)]
      ·rw[hK];have:ke=0:=by assumption
       rw[this,<-a2];simp[aj]
     ·dsimp only;omega
     ·simp[eI]
   ·have hie:i=l.length:=by omega
    subst hie;have oL:=FW a2 a3;rw[oL]at aC aD;have hc:=S7 ks (by rw[a2];exact N1);have hpk:AV.cB (ks.map eI)=true:=CW ks;have hlk:(ks.map eI).length=l.length:=by simp[a2]
    simp only[if_true]at aC aD;unfold oC at aC aD;clear oL a3;generalize pT op ks=R at *;obtain⟨rk,rb⟩:=R;repeat' first|simp (disch:=omega) only[go_sem,aC,aD,aE,a2]|refine aG ?_|(with_reducible refine qo hc (.cons (View.refl _ rfl) (.cons (View.vec rfl hlk.symm hlk.symm hpk) (.nil _))) rfl ?_)|refine aF ?_ ?_<;>intro hw<;>try omega|fail
    all_goals (refine cj ?_ rfl;simp_all)
def aeu(cs:List cV)(hcs:cs.length<=2 ^ 60)(x:Expr): di x=true->fT x<=2 ^ 60->aM aK 253 [bg x,cH cs] (.bU [I (iU cs x).1,I (iU cs x).2]):=by
 induction x using Expr.ind with
 | h op v s l ih =>
   intro hr hz;simp only[fT]at hz;have hl:=zu l
   have N1:(l.length:Int)=jZ op:=by
    simp only[di,aq,decide_eq_true_eq]at hr;exact hr.1
   obtain⟨vk,vn,vs⟩:=v;have hA:=Yf cs s hcs;have Hv:=Rl (fun c:cV=>c.name==s) cs
   change tX cs s<cs.length at Hv
   simp only[cH]at hA ⊢;by_cases h1:op=1
   ·have e:iU cs (.mk op ⟨vk,vn,vs⟩ s l)=(vk,0):=by simp only[iU,if_pos h1]
    rw[e];refine aR rF ?_;intro Q aC aD aE;repeat' first|refine aG ?_|refine aF ?_ ?_<;>intro hw<;>try omega|fail
    exact cj rfl rfl
   by_cases h2:op=2
   ·have e:iU cs (.mk op ⟨vk,vn,vs⟩ s l)=if tX cs s<0 then(0,13)else ((cs.getD (tX cs s).toNat default).kind,0):=by simp only[iU,if_neg h1,if_pos h2]
    rw[e];generalize tX cs s=i at *;by_cases hi:i<0
    ·rw[if_pos hi];refine aR rF ?_;intro Q aC aD aE;repeat' first|refine aG ?_|refine aF ?_ ?_<;>intro hw<;>try omega|fail
     exact cj rfl rfl
    ·rw[if_neg hi];obtain⟨n,rfl⟩:∃ n:Nat,i=n:=⟨i.toNat,by omega⟩;have hn:n<cs.length:=by omega
     refine aR rF ?_;intro Q aC aD aE;repeat' first|refine aG ?_|refine aF ?_ ?_<;>intro hw<;>try omega|fail
     exact cj rfl rfl
   have qG:rf l=true:=by
    simp only[di,if_neg h1,if_neg h2,aq]at hr;exact hr.2.2
   have GR:∀ k,k<l.length->di (l.getD k default)=true:=fun k hk=>by
    rw[Az]at qG;simp only[cF,gE,cF,Bool.not_eq_false']at qG;simpa using qG _ (bH hk)
   have hk:∀ k,k<l.length->_:=fun k h=>ih _ (bH h) (GR k h) (by have:=zw (bH h);omega);have e:iU cs (.mk op ⟨vk,vn,vs⟩ s l)=if(lD cs l).2=0 then oC op (lD cs l).1 else(0,(lD cs l).2):=by simp only[iU,if_neg h1,if_neg h2]
   rw[e];have hl3:l.length<=3:=by rcases tE N1 h1 h2 with h|h|h<;>omega
   have S7:=fun ks h=>P4 op ks h h1 h2;clear hA Hv e hr qG;simp only[cH]at hk;refine aR rF ?_;intro Q aC aD aE;repeat' first|refine aG ?_|refine aF ?_ ?_<;>intro hw<;>try omega|fail
   with_reducible refine bX [4,5,7,8,9,10,31,32,33,34,35,36,37,38,39,40,41,42,43,44,45,46,47,48,49,50,51,52,53,54] (fun q:Nat × List Int=>[(8,I q.1),(7,.own E1 1 q.1 0 q.1)]) (fun q=> .cells [I op,I vk,I vn,.str vs,.str s,.aO false EX (l.map bg)]::[.vec E1 (q.2.map eI)]) (fun q=>q.1<=l.length/\q.2.length=q.1/\ ∀ k,k<q.1->iU cs (l.getD k default)=(q.2.getD k 0,0)) (fun q=>l.length-q.1) (0,[]) ?_ ?_ ?_ ?_
   ·simp
   ·rfl
   ·exact at_
   rintro⟨i,ks⟩ r ⟨a1,a2,a3⟩;dsimp only at a1 a2 a3;by_cases hi:i<l.length
   ·have hx:=hk i hi;generalize hK:iU cs (l.getD i default)=K at *;obtain⟨kk,ke⟩:=K;rw[bG]at hx;repeat' first|simp (disch:=omega) only[go_sem,aC,aD,aE,a2]|refine aG ?_|refine aF ?_ ?_<;>intro hw<;>try omega|fail
    ·have:lD cs l=([],ke):=CX hi (fun k h=>by rw[a3 k h]) (by rw[hK]) (by assumption);rw[this];refine cj ?_ rfl;dsimp only;rw[if_neg (by assumption)]
    ·refine⟨(i+1,ks++[kk]),?_,?_,?_,da,at_⟩
     ·refine⟨by dsimp only;omega,by simp[a2],bP (fun k lj=>?_) ?_⟩
      ·rw[a3 k lj];simp[aj,aH (show k<ks.length by omega)]
      ·rw[hK];have:ke=0:=by assumption
       rw[this,<-a2];simp[aj]
     ·dsimp only;omega
     ·simp[eI]
   ·have hie:i=l.length:=by omega
    subst hie;have oL:=FW a2 a3;rw[oL]at aC aD;have hc:=S7 ks (by rw[a2];exact N1);have hpk:AV.cB (ks.map eI)=true:=CW ks;have hlk:(ks.map eI).length=l.length:=by simp[a2]
    simp only[if_true]at aC aD;clear oL a3;generalize oC op ks=R at *;obtain⟨rk,rb⟩:=R;repeat' first|simp (disch:=omega) only[go_sem,aC,aD,aE,a2]|refine aG ?_|(with_reducible refine qo hc (.cons (View.refl _ rfl) (.cons (View.vec rfl hlk.symm hlk.symm hpk) (.nil _))) rfl ?_)|refine aF ?_ ?_<;>intro hw<;>try omega|fail
    all_goals exact cj rfl rfl
def P6(cs:List cV)(hcs:cs.length<=2 ^ 60)(x:Expr)(hx:jD x)(hz:fT x<=2 ^ 60): aM aK 234 [bg x,cH cs] (.bU [I (if di x then(iU cs x).1 else 0),I (if di x then(iU cs x).2 else 2)]):=by
 have h1:=CN x hx hz;have h2:=P5 cs hcs x;cases hr:di x with
 | true =>
   have h2:=h2 hr hz;rw[hr]at h1;simp only[nF,if_true]at h1 ⊢;generalize iU cs x=K at *;rw[bG]at h1 h2 ⊢;simp only[cH]at h2 ⊢;refine aR zm ?_;intro Q aC aD aE;repeat' first|refine aG ?_|refine aF ?_ ?_<;>intro hw<;>try omega|fail
   all_goals exact cj rfl rfl
 | false =>
   rw[hr]at h1;simp only[nF,aB,if_false]at h1 ⊢;rw[bG]at h1 ⊢;simp only[cH];refine aR zm ?_;intro Q aC aD aE;repeat' first|refine aG ?_|refine aF ?_ ?_<;>intro hw<;>try omega|fail
   all_goals exact cj rfl rfl
