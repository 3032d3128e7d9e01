/- Part. -/
import Derived.Test.YtcjcnfcedihckaaGreatDoorW21
set_option linter.all false
namespace Go.Proofs.YtcjcnfcedihckaaGreatDoor
open Go.AM
set_option maxRecDepth 4000
def y3(op:Int)(v:eu)(s:aI)(l:List Expr): fN (.mk op v s l)=lZ l+1:=by simp only[fN]
def JR: Option Expr->Nat
 | none=>1
 | some x=>fN x
def Io{T:List Tok}{r:RS}{k:Int}{s:aI}: (j7 T r k s).x=r.x/\r.p<=(j7 T r k s).p:=by
 refine⟨rfl,?_⟩;simp only[j7,sM];split<;>omega
def Un{rd:Nat->Nat->RS}{l q:Nat}{b:Bool}(h:fN (rd l q).x+4*q<=1+4*(rd l q).p): fN (qI rd l q b).x+4*q<=1+4*(qI rd l q b).p:=by
 unfold qI;split
 ·simp[x0,fN,lZ]
 ·exact h
def adg(T:List Tok)(f:Nat): ∀(m:Option Expr) (lvl p:Nat),p<=T.length->fN (cM T f m lvl p).x+4*p<=JR m+4*(cM T f m lvl p).p:=by
 induction f with
 | zero =>
   intro m lvl p hp
   have:1<=JR m:=by
    cases m with
    | none=>exact Nat.le_refl _
    | some x=>cases x;simp[JR,fN]
   simp only[cM,x0,fN,lZ];omega
 | succ f ih =>
   intro m lvl p hp;have hrd:∀ l q,q<=T.length->fN (cM T f none l q).x+4*q<=1+4*(cM T f none l q).p:=fun l q hq=>ih none l q hq;have uL:∀ l q,q<=T.length->jr T.length q (cM T f none l q):=fun l q hq=>(rO T f none l q hq).1 rfl;cases m with
   | none =>
     simp only[cM,JR];split
     ·split
      ·rename_i h;have h1:=ot h;have ga:=zZ uL (p:=p+1) h1;have gb:=z6 uL (p:=p+1) h1;have a:=hrd 0 (p+1) h1;have b:=Un (b:=(nJ (cM T f none) T (p+1)).bad) (hrd 0 _ ga.2.1);have c:=Un (b:=(uJ (cM T f none) T (p+1)).bad) (hrd 0 _ gb.2.1);have a2:=Io (T:=T) (r:=cM T f none 0 (p+1)) (k:=1) (s:=thenS);have b2:=Io (T:=T) (r:=qI (cM T f none) 0 (nJ (cM T f none) T (p+1)).p (nJ (cM T f none) T (p+1)).bad) (k:=1) (s:=Dn);have ea:(nJ (cM T f none) T (p+1))=j7 T (cM T f none 0 (p+1)) 1 thenS:=rfl;have eb:(uJ (cM T f none) T (p+1))=j7 T (qI (cM T f none) 0 (nJ (cM T f none) T (p+1)).p (nJ (cM T f none) T (p+1)).bad) 1 Dn:=rfl;have ec:(Cg (cM T f none) T (p+1))=qI (cM T f none) 0 (uJ (cM T f none) T (p+1)).p (uJ (cM T f none) T (p+1)).bad:=rfl;show fN (.mk 16 v0 [] [(nJ (cM T f none) T (p+1)).x,(uJ (cM T f none) T (p+1)).x,(Cg (cM T f none) T (p+1)).x])+4*p<=1+4*(Cg (cM T f none) T (p+1)).p;rw[<-ea]at a2;rw[<-eb]at b2;rw[<-ec]at c;simp only[y3,lZ];rw[a2.1,b2.1];omega
      ·exact hrd 1 p hp
     ·split
      ·rename_i h;have h1:=ot h.2;have c:=hrd 6 (p+1) h1;simp only[y3,lZ];omega
      ·split
       ·have ok:∀ v s,fN (.mk 1 v s [])+4*p<=1+4*(p+1):=fun v s=>by simp only[y3,lZ];omega
        unfold nq;split
        ·rename_i h;have c:=hrd 0 (p+1) (ot h);have a2:=Io (T:=T) (r:=cM T f none 0 (p+1)) (k:=4) (s:=[41]);show fN (j7 T (cM T f none 0 (p+1)) 4 [41]).x+4*p<=1+4*(j7 T (cM T f none 0 (p+1)) 4 [41]).p;rw[a2.1];omega
        ·repeat' split
         all_goals simp only[yu,x0,y3,lZ]
         all_goals omega
       ·split
        ·exact hrd _ _ hp
        ·have a:=hrd (lvl+1) p hp;have b:=ih (some (cM T f none (lvl+1) p).x) lvl _ (uL (lvl+1) p hp).2.1;simp only[JR]at b;omega
   | some x =>
     simp only[cM,JR];split
     ·exact Nat.le_refl _
     ·rename_i o ho;have h1:=(Ch ho).1;have a:=hrd (lvl+1) (p+1) h1;have g:=uL (lvl+1) (p+1) h1;split
      ·simp only[y3,lZ];omega
      ·have b:=ih (some (.mk o.op v0 [] [x,(cM T f none (lvl+1) (p+1)).x])) lvl _ g.2.1;simp only[JR,y3,lZ]at b;omega
def gY(T:List Tok)(fr lvl:Int): Expr × Int × Int :=
 if fr<0\/(T.length:Int)<fr\/lvl<0\/7<lvl then(x0,0,2)
 else if(cM T (8*T.length+9) none lvl.toNat fr.toNat).bad then(x0,(cM T (8*T.length+9) none lvl.toNat fr.toNat).p,11)
 else((cM T (8*T.length+9) none lvl.toNat fr.toNat).x,(cM T (8*T.length+9) none lvl.toNat fr.toNat).p,0)
def JT(r:Expr × Int × Int): AV:= .bO [bf r.1,I r.2.1,I r.2.2]
def mI{σ : ae}{a E:AV}{n m:Int}(h:View σ a E): bL σ [a,I n,I m] [E,I n,I m]:= .cons h (.cons (.refl _ rfl) (.cons (.refl _ rfl) (.nil _)))
def D2(T:List Tok)(fr lvl:Int)(hT:T.length<=2 ^ 50)(hs:∀ q,(T.getD q default).s.length<=2 ^ 62): aP aK 268 [sJ T,I fr,I lvl] (JT (gY T fr lvl)):=by
 by_cases hg:fr<0\/(T.length:Int)<fr\/lvl<0\/7<lvl
 ·have e:gY T fr lvl=(x0,0,2):=by unfold gY;rw[if_pos hg]
  rw[e];have e1:∀ σ : ae,View σ (.agg [I 0,I 0,I 0,.str [],.str [],.au]) (bf x0):=fun σ=>pT (.au _);simp only[JT];generalize bf x0=E at *;refine aR tM ?_;intro Q aF aG aH;repeat' first|refine aE ?_|refine aD ?_ ?_<;>intro hw<;>try omega|fail
  all_goals first|exact cG (mI (e1 _))|(exfalso;omega)
 ·obtain⟨p,rfl⟩:∃ p:Nat,fr=p:=⟨fr.toNat,by omega⟩;obtain⟨l,rfl⟩:∃ l:Nat,lvl=l:=⟨lvl.toNat,by omega⟩;have cr:=OH T (by omega) hs (8*T.length+9) l p (by omega) (by omega) (by omega)
  have e:gY T p l=if(cM T (8*T.length+9) none l p).bad then(x0,((cM T (8*T.length+9) none l p).p:Int),11)else ((cM T (8*T.length+9) none l p).x,((cM T (8*T.length+9) none l p).p:Int),0):=by
   unfold gY;rw[if_neg hg,Int.toNat_natCast,Int.toNat_natCast]
  rw[e];simp only[xP]at cr;generalize cM T (8*T.length+9) none l p=r at *;obtain⟨rx,rp,rb⟩:=r;dsimp only at *;have e1:∀ σ : ae,View σ (.agg [I 0,I 0,I 0,.str [],.str [],.au]) (bf x0):=fun σ=>pT (.au _);have e2:∀ σ : ae,View σ (.agg [I rx.op,I rx.v.kind,I rx.v.n,.str rx.v.s,.str rx.s,.aO false EX (rx.l.map bf)]) (bf rx):=fun σ=>View.eqv (bB _).symm (fQ _);rw[bB]at cr;simp only[dI]at cr;cases rb with
  | true =>
    simp only[if_true,JT];generalize bf x0=E at *;refine aR tM ?_;intro Q aF aG aH;repeat' first|refine aE ?_|refine cW cr ?_|refine aD ?_ ?_<;>intro hw<;>try omega|fail
    all_goals first|exact cG (mI (e1 _))|(exfalso;omega)
  | false =>
    simp only[aB,if_false,JT];generalize bf rx=E at *;refine aR tM ?_;intro Q aF aG aH;repeat' first|refine aE ?_|refine cW cr ?_|refine aD ?_ ?_<;>intro hw<;>try omega|fail
    all_goals first|exact cG (mI (e2 _))|(exfalso;omega)
def ZD(r b:aI)(i:Nat): (jO r b i).s.length<=b.length+r.length:=by
 fun_induction jO r b i<;>simp_all[PR.err]<;>omega
def abx(s:aI): (gZ s).s.length<=s.length+2:=by
 unfold gZ;simp only;split
 ·unfold xM;split<;>simp[PR.err];omega
 ·split
  ·unfold mu;simp only;split
   ·simp[PR.err]
   ·split<;>simp[PR.err]
  ·split
   ·have:=ZD (s.drop 1) [] 1;rw[List.length_drop]at this;simp only[List.length_nil]at this;omega
   ·unfold sK;split
    ·rename_i m hm;have h2:=fL hm;simp only[uI,List.mem_cons,List.not_mem_nil,or_false]at h2;rcases h2 with h|h|h|h|h|h|h|h|h|h|h|h|h|h|h|h<;>subst h<;>simp
    ·simp[PR.err]
def RN(f:Nat): ∀(s:aI) (pos:Nat) (acc:List Tok),(∀ t ∈ acc,t.s.length<=1000)->s.length<=900->(o_ f s pos acc).1.length<=acc.length+s.length/\ ∀ t ∈ (o_ f s pos acc).1,t.s.length<=1000:=by
 induction f with
 | zero=>intro s pos acc h _;exact⟨Nat.le_add_right _ _,h⟩
 | succ f ih =>
   intro s pos acc h hs;cases s with
   | nil=>exact⟨Nat.le_add_right _ _,h⟩
   | cons c r =>
     rw[rN];simp only[List.length_cons]at hs ⊢;split
     ·have:=ih r (pos+1) acc h (by omega);exact⟨by omega,this.2⟩
     ·split
      ·rename_i he;have h1:=Mr (s:=c::r) (by simp) he;have h2:=abx (c::r);simp only[List.length_cons]at h1 h2
       have:=ih ((c::r).drop (gZ (c::r)).len) (pos+(gZ (c::r)).len) (acc++[⟨(gZ (c::r)).kind,(gZ (c::r)).s,(gZ (c::r)).n,pos⟩]) (fun t ht=>by
        rcases List.mem_append.1 ht with ht|ht
        ·exact h t ht
        ·simp only[List.mem_cons,List.not_mem_nil,or_false]at ht;subst ht;dsimp only;omega) (by rw[List.length_drop,List.length_cons];omega)
       rw[List.length_drop,aA,List.length_cons]at this;simp only[List.length_cons,List.length_nil]at this;exact⟨by omega,this.2⟩
      ·exact⟨Nat.zero_le _,fun t ht=>by cases ht⟩
def n6(s:aI): (bG s).1.length<=200/\ ∀ q,((bG s).1.getD q default).s.length<=1000:=by
 have h:(bG s).1.length<=200/\ ∀ t ∈ (bG s).1,t.s.length<=1000:=by
  unfold bG;split
  ·exact⟨Nat.zero_le _,fun t ht=>by cases ht⟩
  ·have:=RN (s.length+1) s 0 [] (fun t ht=>by cases ht) (by omega);simp only[List.length_nil]at this;exact⟨by omega,this.2⟩
 refine⟨h.1,fun q=>?_⟩;by_cases hq:q<(bG s).1.length
 ·exact h.2 _ (bJ hq)
 ·rw[n5 (by omega)];exact bR _
def Fb(T:List Tok)(fr lvl:Int): fN (gY T fr lvl).1<=1+4*T.length:=by
 have h0:fN x0=1:=by simp[x0,fN,lZ]
 unfold gY;split
 ·dsimp only;omega
 ·rename_i hg;split
  ·dsimp only;omega
  ·have:=adg T (8*T.length+9) none lvl.toNat fr.toNat (by omega);have g:=(rO T (8*T.length+9) none lvl.toNat fr.toNat (by omega)).2.2;simp only[JR]at this;dsimp only;omega
def jf(s:aI): Expr × Int × Int :=
 if(bG s).2.2≠0 then(x0,(bG s).2.1,(bG s).2.2)
 else if(gY (bG s).1 0 0).2.1<(bG s).1.length then(x0,((bG s).1.getD (gY (bG s).1 0 0).2.1.toNat default).pos,11)
 else if(gY (bG s).1 0 0).2.2≠0 then(x0,s.length,(gY (bG s).1 0 0).2.2)
 else if 12<kW (gY (bG s).1 0 0).1 then(x0,0,12)
 else((gY (bG s).1 0 0).1,0,0)
def P3(T:List Tok)(fr lvl:Int): 0<=(gY T fr lvl).2.1/\(gY T fr lvl).2.1<=T.length:=by
 unfold gY;split
 ·exact⟨Int.le_refl _,by dsimp only;omega⟩
 ·rename_i hg;have g:=(rO T (8*T.length+9) none lvl.toNat fr.toNat (by omega)).2.2;split<;>(dsimp only;omega)
def MH(s:aI)(hs:s.length<=2 ^ 30): aP aK 233 [.str s] (JT (jf s)):=by
 have cl:=Ii s hs;obtain⟨f1,f2⟩:=n6 s;have cr:=D2 (bG s).1 0 0 (by omega) (fun q=>by have:=f2 q;omega);have hz:=Fb (bG s).1 0 0;obtain⟨hp0,BH⟩:=P3 (bG s).1 0 0
 have hP:jf s=if(bG s).2.2≠0 then(x0,(bG s).2.1,(bG s).2.2)
  else if(gY (bG s).1 0 0).2.1<(bG s).1.length then(x0,((bG s).1.getD (gY (bG s).1 0 0).2.1.toNat default).pos,11)
  else if(gY (bG s).1 0 0).2.2≠0 then(x0,(s.length:Int),(gY (bG s).1 0 0).2.2)
  else if 12<kW (gY (bG s).1 0 0).1 then(x0,0,12)
  else((gY (bG s).1 0 0).1,0,0):=rfl
 rw[hP];clear hP f2;generalize gY (bG s).1 0 0=r at *;generalize bG s=L at *;obtain⟨T,la,le⟩:=L;obtain⟨rx,rn,re⟩:=r;dsimp only at *;have cd:=yp rx (by omega);obtain⟨n,rfl⟩:∃ n:Nat,rn=n:=⟨rn.toNat,by omega⟩;have e1:∀ σ : ae,View σ (.agg [I 0,I 0,I 0,.str [],.str [],.au]) (bf x0):=fun σ=>pT (.au _);have e2:∀ σ : ae,View σ (.agg [I rx.op,I rx.v.kind,I rx.v.n,.str rx.v.s,.str rx.s,.aO false EX (rx.l.map bf)]) (bf rx):=fun σ=>View.eqv (bB _).symm (fQ _);simp only[JT]at cr ⊢;rw[bB]at cr cd;simp only[Mv,sJ]at cl cr;by_cases h1:le≠0
 ·rw[if_pos h1];generalize bf x0=E at *;refine aR mH ?_;intro Q aF aG aH;repeat' first|refine aE ?_|refine aD ?_ ?_<;>intro hw<;>try omega|fail
  all_goals exact cG (mI (e1 _))
 rw[if_neg h1];by_cases h2:(n:Int)<T.length
 ·rw[if_pos h2,ig];generalize bf x0=E at *;have hn:n<T.length:=by omega
  refine aR mH ?_;intro Q aF aG aH;repeat' first|refine aE ?_|refine aD ?_ ?_<;>intro hw<;>try omega|fail
  all_goals exact cG (mI (e1 _))
 rw[if_neg h2];by_cases h3:re≠0
 ·rw[if_pos h3];generalize bf x0=E at *;refine aR mH ?_;intro Q aF aG aH;repeat' first|refine aE ?_|refine aD ?_ ?_<;>intro hw<;>try omega|fail
  all_goals exact cG (mI (e1 _))
 rw[if_neg h3];by_cases h4:12<kW rx
 ·rw[if_pos h4];generalize bf x0=E at *;refine aR mH ?_;intro Q aF aG aH;repeat' first|refine aE ?_|refine aD ?_ ?_<;>intro hw<;>try omega|fail
  all_goals exact cG (mI (e1 _))
 ·rw[if_neg h4];generalize bf rx=E at *;refine aR mH ?_;intro Q aF aG aH;repeat' first|refine aE ?_|refine aD ?_ ?_<;>intro hw<;>try omega|fail
  all_goals exact cG (mI (e2 _))
def GB: aI:=[110,117,108,108]
def qV: aI:=[116,114,117,101]
def ou: aI:=[102,97,108,115,101]
structure Lq where
 op:Int
 vk:Int
 vn:Int
 vs:aI
 s:aI
 fl:Bool
 zs:List AV
 x:Expr
 p:Nat
 b:Bool
 f:Nat
def Lq.cs(q:Lq): List AV:=[I q.op,I q.vk,I q.vn,.str q.vs,.str q.s,.aO q.fl EX q.zs]
def Lq.seen(q:Lq): Prop:=View [] (.agg q.cs) (bf q.x)
def eI(n:Int): AV:=I n
attribute [go_sem] eI
def aby(n:Int): (eI n).dz=true:=rfl
def Ci(l:List Int): AV.cA (l.map eI)=true:=iu _ _ aby
def j8(a b:Int): Bool:=decide (a=b) || decide (a=0) || decide (b=0)
def P4(a b:Int): Int:=if a=0 then b else a
def oD(a b:Int): aP aK 235 [I a,I b] (.bool (j8 a b)):=by
 refine aR Ic ?_;intro Q aF aG aH;repeat' first|refine aE ?_|refine aD ?_ ?_<;>intro hw<;>try omega|fail
 all_goals refine aU ?_ rfl
 all_goals (refine congrArg AV.bool ?_;rw[a_];simp only[j8,aq,c_,decide_eq_true_eq,beq_iff_eq,cD,decide_eq_false_iff_not,beq_eq_false_iff_ne,ne_eq,true_iff,false_iff,iff_true,iff_false,aB,Bool.true_eq_false,not_and,not_or]at *;omega)
def z7(a b:Int): aP aK 214 [I a,I b] (.bool (j8 a b)):=by
 refine aR K8 ?_;intro Q aF aG aH;repeat' first|refine aE ?_|refine aD ?_ ?_<;>intro hw<;>try omega|fail
 all_goals refine aU ?_ rfl
 all_goals (refine congrArg AV.bool ?_;rw[a_];simp only[j8,aq,c_,decide_eq_true_eq,beq_iff_eq,cD,decide_eq_false_iff_not,beq_eq_false_iff_ne,ne_eq,true_iff,false_iff,iff_true,iff_false,aB,Bool.true_eq_false,not_and,not_or]at *;omega)
def A0(a b:Int): aP aK 315 [I a,I b] (I (P4 a b)):=by
 refine aR yV ?_;intro Q aF aG aH;repeat' first|refine aE ?_|refine aD ?_ ?_<;>intro hw<;>try omega|fail
 all_goals refine aU ?_ rfl
 all_goals (unfold P4;first|rw[if_neg (by assumption)]|rw[if_pos (by assumption)]|(subst a;rfl))
def MI(a b:Int): aP aK 302 [I a,I b] (I (P4 a b)):=by
 refine aR Oz ?_;intro Q aF aG aH;repeat' first|refine aE ?_|refine aD ?_ ?_<;>intro hw<;>try omega|fail
 all_goals refine aU ?_ rfl
 all_goals (unfold P4;first|rw[if_neg (by assumption)]|rw[if_pos (by assumption)]|(subst a;rfl))
def P5{α : Type}{p : α->Bool}(l:List α): l.all p = !(l.any fun x=> !(p x)):=by
 induction l with
 | nil=>rfl
 | cons x r ih=>simp[ih]
def GC(w:Int)(l:List Int)(hl:l.length<=2 ^ 60): aP aK 314 [I w,.aO false E1 (l.map eI)] (.bool (l.all fun k=>j8 k w)):=by
 refine aR La ?_ (by simp[AV.dz,AV.cA,Ci]);intro Q aF aG aH;repeat' first|refine aE ?_|refine aD ?_ ?_<;>intro hw<;>try omega|fail
 with_reducible refine bZ [4,6,9,10,11,12,13,14,15,16,17] (fun i:Nat=>[(9,I i)]) (fun _=>[]) (fun i=>i<=l.length/\ ∀ k,k<i->(!(j8 (l.getD k default) w))=false) (fun i=>l.length-i) (0) ?_ ?_ ?_ ?_
 ·simp
 ·rfl
 ·exact at_
 rintro i r ⟨h1,h2⟩;by_cases hi:i<l.length
 ·repeat' first|refine aE ?_|refine fm (oD _ _) ?_|refine aD ?_ ?_<;>intro hw<;>try omega|fail
  ·refine aU ?_ rfl;rw[P5,Ui (p:=fun x=> !(j8 x w)) hi (by simpa using hw)];rfl
  ·refine⟨i+1,?_,?_,by first|rfl|(simp[go_sem];done),dH,at_⟩<;>(try dsimp only)
   ·exact⟨by omega,bI h2 (by simpa using hw)⟩
   ·omega
 ·repeat' first|refine aE ?_|refine aD ?_ ?_<;>intro hw<;>try omega|fail
  refine aU ?_ rfl;rw[P5,PW (p:=fun x=> !(j8 x w)) (fun k hk=>h2 k (by omega))];rfl
def DK(l:List Int)(v:Int)(hl:l.length<=2 ^ 60): aP aK 322 [.aO false E1 (l.map eI),I v] (I (fy (fun x=>x==v) l)):=by
 refine aR zS ?_ (by simp[AV.dz,AV.cA,Ci]);intro Q aF aG aH;repeat' first|refine aE ?_|refine aD ?_ ?_<;>intro hw<;>try omega|fail
 with_reducible refine bZ [4,5,8,9,10,11,12,13,14,15,16,17,18] (fun i:Nat=>[(8,I i)]) (fun _=>[]) (fun i=>i<=l.length/\ ∀ k,k<i->(l.getD k default==v)=false) (fun i=>l.length-i) (0) ?_ ?_ ?_ ?_
 ·simp
 ·rfl
 ·exact at_
 rintro i r ⟨h1,h2⟩;by_cases hi:i<l.length
 ·repeat' first|refine aE ?_|refine aD ?_ ?_<;>intro hw<;>try omega|fail
  ·refine aU ?_ rfl;rw[lU (p:=fun x=>x==v) hi h2 (by simp_all)]
  ·refine⟨i+1,?_,?_,by first|rfl|(simp[go_sem];done),dH,at_⟩<;>(try dsimp only)
   ·exact⟨by omega,bI h2 (by rw[beq_eq_false_iff_ne];intro h;exact hw h.symm)⟩
   ·omega
 ·repeat' first|refine aE ?_|refine aD ?_ ?_<;>intro hw<;>try omega|fail
  refine aU ?_ rfl;rw[lO (p:=fun x=>x==v) (fun k hk=>h2 k (by omega))]
def z8(l:List Int)(v:Int)(hl:l.length<=2 ^ 60): aP aK 316 [.aO false E1 (l.map eI),I v] (.bool (decide (0<=fy (fun x=>x==v) l))):=by
 refine aR xh ?_ (by simp[AV.dz,AV.cA,Ci]);intro Q aF aG aH;repeat' first|refine aE ?_|refine fm (DK l v hl) ?_|refine aD ?_ ?_<;>intro hw<;>try omega|fail
 all_goals exact aU rfl rfl
def pq(op:Int)(ks:List Int): Int × Bool :=
 if op=3\/op=5\/op=6\/op=7 then(1,ks.all fun k=>j8 k 1)
 else if op=4 then(if P4 (ks.getD 0 0) (ks.getD 1 0)=2 then(2,ks.all fun k=>j8 k 2)else (1,ks.all fun k=>j8 k 1))
 else if op=8\/op=9 then(3,j8 (ks.getD 0 0) (ks.getD 1 0))
 else if op=10\/op=11\/op=12\/op=13 then(3,j8 (ks.getD 0 0) (ks.getD 1 0) && !(decide (0<=fy (fun x=>x==3) ks)))
 else if op=14\/op=15 then(3,ks.all fun k=>j8 k 3)
 else(P4 (ks.getD 1 0) (ks.getD 2 0),j8 (ks.getD 0 0) 3 && j8 (ks.getD 1 0) (ks.getD 2 0))
def MJ(a:Int): aP aK 293 [I 3,.aO false E1 ([a].map eI)] (.bO [I (pq 3 [a]).1,.bool (pq 3 [a]).2]):=by
 have h:=fun w=>GC w [a] (by simp);simp only[List.map,eI]at h ⊢;refine aR tN ?_;intro Q aF aG aH;repeat' first|simp (disch:=omega) only[go_sem,aF,aG,aH,Int.reduceToNat]|refine aE ?_|refine fm (h _) ?_|refine aD ?_ ?_<;>intro hw<;>try omega|fail
 all_goals exact b_ rfl rfl
def MK(op a b:Int)(h4:4<=op)(Uo:op<=15): aP aK 293 [I op,.aO false E1 ([a,b].map eI)] (.bO [I (pq op [a,b]).1,.bool (pq op [a,b]).2]):=by
 have h:=fun w=>GC w [a,b] (by simp);have hc:=z8 [a,b] 3 (by simp);simp only[List.map,eI]at h hc ⊢;generalize hR:pq op [a,b]=R;refine aR tN ?_;intro Q aF aG aH;repeat' first|simp (disch:=omega) only[go_sem,aF,aG,aH,Int.reduceToNat]|refine aE ?_|refine fm (h _) ?_|refine fm (A0 a b) ?_|refine fm (oD a b) ?_|refine aD ?_ ?_<;>intro hw<;>try omega|fail
 all_goals (refine b_ ?_ rfl;clear aF aG aH h hc;subst hR)
 all_goals (simp_all[pq];done)
def ML(a b c:Int): aP aK 293 [I 16,.aO false E1 ([a,b,c].map eI)] (.bO [I (pq 16 [a,b,c]).1,.bool (pq 16 [a,b,c]).2]):=by
 simp only[List.map,eI];refine aR tN ?_;intro Q aF aG aH;repeat' first|simp (disch:=omega) only[go_sem,aF,aG,aH,Int.reduceToNat]|refine aE ?_|refine fm (A0 b c) ?_|refine fm (oD a 3) ?_|refine fm (oD b c) ?_|refine aD ?_ ?_<;>intro hw<;>try omega|fail
 all_goals (refine b_ ?_ rfl;simp_all[pq])
def n7(op:Int)(ks:List Int): Int × Int:=if(pq op ks).2 then((pq op ks).1,0)else (0,14)
def afd(a b:Int): decide (0<=fy (fun x=>x==3) [a,b])=(decide (a=3) || decide (b=3)):=by
 by_cases h1:a=3
 ·subst h1;simp[fy,List.findIdx?_cons]
 ·by_cases h2:b=3
  ·subst h2;simp[fy,List.findIdx?_cons,h1]
  ·simp[fy,List.findIdx?_cons,h1,h2]
def Up(a:Int): aP aK 277 [I 3,.aO false E1 ([a].map eI)] (.bO [I (n7 3 [a]).1,I (n7 3 [a]).2]):=by
 simp only[List.map,eI];generalize hR:n7 3 [a]=R;refine aR yn ?_;intro Q aF aG aH;repeat' first|simp (disch:=omega) only[go_sem,aF,aG,aH,Int.reduceToNat]|refine aE ?_|refine fm (z7 _ _) ?_|refine aD ?_ ?_<;>intro hw<;>try omega|fail
 all_goals (refine b_ ?_ rfl;clear aF aG aH;subst hR;simp_all[n7,pq])
def Uq(op a b:Int)(h4:4<=op)(Uo:op<=15): aP aK 277 [I op,.aO false E1 ([a,b].map eI)] (.bO [I (n7 op [a,b]).1,I (n7 op [a,b]).2]):=by
 simp only[List.map,eI];generalize hR:n7 op [a,b]=R;refine aR yn ?_;intro Q aF aG aH;repeat' first|simp (disch:=omega) only[go_sem,aF,aG,aH,Int.reduceToNat]|refine aE ?_|refine fm (z7 _ _) ?_|refine fm (MI _ _) ?_|refine aD ?_ ?_<;>intro hw<;>try omega|fail
 all_goals (refine b_ ?_ rfl;clear aF aG aH;subst hR)
 all_goals first|(simp_all[n7,pq,afd];done)|skip
def Ur(a b c:Int): aP aK 277 [I 16,.aO false E1 ([a,b,c].map eI)] (.bO [I (n7 16 [a,b,c]).1,I (n7 16 [a,b,c]).2]):=by
 simp only[List.map,eI];generalize hR:n7 16 [a,b,c]=R;refine aR yn ?_;intro Q aF aG aH;repeat' first|simp (disch:=omega) only[go_sem,aF,aG,aH,Int.reduceToNat]|refine aE ?_|refine fm (z7 _ _) ?_|refine fm (MI _ _) ?_|refine aD ?_ ?_<;>intro hw<;>try omega|fail
 all_goals (refine b_ ?_ rfl;clear aF aG aH;subst hR;simp_all[n7,pq])
def qa (fn : FuncId) (cap : List AV) (hcap : AV.cA cap = true) (p : cR -> Bool) (l : List cR) (h : ∀ k, k < l.length -> aP aK fn (bq (l.getD k default) :: cap) (.bool (p (l.getD k default)))) (hl : l.length <= 2 ^ 62) :
    aP aK 262 [cJ l,.fn (.func fn) [] cap] (I (fy p l)):=by
 refine aR uX ?_ (by simp[AV.dz,AV.cA,hcap,jk]);intro Q aF aG aH;repeat' first|refine aE ?_|refine aD ?_ ?_<;>intro hw<;>try omega|fail
 with_reducible refine bZ [4,5,8,9,10,11,12,13,14,15,16,17,18] (fun i:Nat=>[(8,I i)]) (fun _=>[]) (fun i=>i<=l.length/\ ∀ k,k<i->p (l.getD k default)=false) (fun i=>l.length-i) (0) ?_ ?_ ?_ ?_
 ·simp
 ·rfl
 ·exact at_
 ·rintro i r ⟨hi,hp⟩;by_cases hin:i<l.length
  ·have hx:=h i hin;simp only[bq,dy]at hx;repeat' first|refine aE ?_|refine aD ?_ ?_<;>intro hw<;>try omega|fail
   ·refine aU ?_ rfl;refine congrArg I ?_;exact(lU hin hp hw).symm
   ·refine⟨i+1,?_,?_,by first|rfl|(simp[go_sem];done),dH,at_⟩<;>(try dsimp only)
    ·exact⟨by omega,bI hp hw⟩
    ·omega
  ·repeat' first|refine aE ?_|refine aD ?_ ?_<;>intro hw<;>try omega|fail
   refine aU ?_ rfl;refine congrArg I ?_;exact(lO fun k hk=>hp k (by omega)).symm
def tf(l:List cR)(s:aI): Int:=fy (fun c=>c.name==s) l
def OI(c:cR)(s:aI): aP aK 287 [bq c,.dO E1 (.str s) 0] (.bool (c.name==s)):=by
 refine aR Ig ?_ (by simp[AV.dz,AV.cA,zT]);intro Q aF aG aH;repeat' first|refine aE ?_|refine aD ?_ ?_<;>intro hw<;>try omega|fail
 all_goals exact aU rfl rfl
def JU(l:List cR)(s:aI)(hl:l.length<=2 ^ 60): aP aK 261 [cJ l,.str s] (I (tf l s)):=by
 have hc:=qa 287 [.dO E1 (.str s) 0] rfl (fun c=>c.name==s) l (fun k _=>OI _ s) (by omega);simp only[cJ]at hc;refine aR Mk ?_ (by simp[AV.dz,AV.cA,jk]);intro Q aF aG aH;repeat' first|refine aE ?_|refine xK hc ?_|refine aD ?_ ?_<;>intro hw<;>try omega|fail
 all_goals exact aU rfl rfl
def W8(l:List cR)(s:aI)(hl:l.length<=2 ^ 60): aP aK 273 [cJ l,.str s] (I (tf l s)):=by
 refine aR Ov ?_ (by simp[AV.dz,AV.cA,jk]);intro Q aF aG aH;repeat' first|refine aE ?_|refine aD ?_ ?_<;>intro hw<;>try omega|fail
 with_reducible refine bZ [4,5,6,7,8,9,10,11,12,13,14,15,16,17,18,19] (fun i:Nat=>[(5,I i)]) (fun _=>[]) (fun i=>i<=l.length/\ ∀ k,k<i->((l.getD k default).name==s)=false) (fun i=>l.length-i) (0) ?_ ?_ ?_ ?_
 ·simp
 ·rfl
 ·exact at_
 rintro i r ⟨hi,hp⟩;by_cases hin:i<l.length
 ·repeat' first|refine aE ?_|refine aD ?_ ?_<;>intro hw<;>try omega|fail
  ·refine aU ?_ rfl;refine congrArg I ?_;exact(lU (p:=fun c:cR=>c.name==s) hin hp (by simpa using hw)).symm
  ·refine⟨i+1,?_,?_,by first|rfl|(simp[go_sem];done),dH,at_⟩<;>(try dsimp only)
   ·exact⟨by omega,bI hp (by simpa using hw)⟩
   ·omega
 ·repeat' first|refine aE ?_|refine aD ?_ ?_<;>intro hw<;>try omega|fail
  refine aU ?_ rfl;refine congrArg I ?_;exact(lO (p:=fun c:cR=>c.name==s) fun k hk=>hp k (by omega)).symm
def sO{op:Int}{n:Nat}(h:(n:Int)=jH op)(h1:op≠1)(h2:op≠2): (op=3/\n=1)\/(4<=op/\op<=15/\n=2)\/(op=16/\n=3):=by
 unfold jH at h;rw[if_neg (by omega)]at h;by_cases h3:op=3
 ·rw[if_pos h3]at h;omega
 rw[if_neg h3]at h;by_cases h16:op=16
 ·rw[if_pos h16]at h;omega
 rw[if_neg h16]at h;by_cases hr:4<=op/\op<=15
 ·rw[if_pos (RG op hr.1 hr.2).2]at h;omega
 ·rw[RF op (by omega)]at h;rw[if_neg (by decide)]at h;omega
def Ip(op:Int)(ks:List Int)(h:(ks.length:Int)=jH op)(h1:op≠1)(h2:op≠2): aP aK 293 [I op,.aO false E1 (ks.map eI)] (.bO [I (pq op ks).1,.bool (pq op ks).2]):=by
 rcases sO h h1 h2 with⟨rfl,hn⟩|⟨h4,Uo,hn⟩|⟨rfl,hn⟩
 ·match ks,hn with
  | [a],_=>exact MJ a
 ·match ks,hn with
  | [a,b],_=>exact MK op a b h4 Uo
 ·match ks,hn with
  | [a,b,c],_=>exact ML a b c
def OJ(op:Int)(ks:List Int)(h:(ks.length:Int)=jH op)(h1:op≠1)(h2:op≠2): aP aK 277 [I op,.aO false E1 (ks.map eI)] (.bO [I (n7 op ks).1,I (n7 op ks).2]):=by
 rcases sO h h1 h2 with⟨rfl,hn⟩|⟨h4,Uo,hn⟩|⟨rfl,hn⟩
 ·match ks,hn with
  | [a],_=>exact Up a
 ·match ks,hn with
  | [a,b],_=>exact Uq op a b h4 Uo
 ·match ks,hn with
  | [a,b,c],_=>exact Ur a b c
mutual
def iI(cs:List cR): Expr->Int × Int
 | .mk op v s l =>
   if op=1 then(v.kind,0)
   else if op=2 then(if tf cs s<0 then(0,13)else ((cs.getD (tf cs s).toNat default).kind,0))
   else if(kX cs l).2=0 then n7 op (kX cs l).1 else(0,(kX cs l).2)
def kX(cs:List cR): List Expr->List Int × Int
 | []=>([],0)
 | x :: r =>
   if(iI cs x).2≠0 then([],(iI cs x).2)
   else if(kX cs r).2≠0 then([],(kX cs r).2)
   else((iI cs x).1::(kX cs r).1,0)
end
def Fc{cs:List cR}: ∀ {l:List Expr} {ks:List Int},ks.length=l.length->(∀ k,k<l.length->iI cs (l.getD k default)=(ks.getD k 0,0))->kX cs l=(ks,0)
 | [],[],_,_=>by simp only[kX]
 | x :: r, k :: ks, hl, h => by
   have h0:=h 0 (by simp);simp only[aT]at h0;have hr:=Fc (l:=r) (ks:=ks) (by simpa using hl) (fun i hi=>by simpa using h (i+1) (by simpa using hi));simp[kX,h0,hr]
def Cj{cs:List cR}: ∀ {l:List Expr} {i:Nat} {e:Int},i<l.length->(∀ k,k<i->(iI cs (l.getD k default)).2=0)->(iI cs (l.getD i default)).2=e->e≠0->kX cs l=([],e)
 | x :: r, 0, e, _, _, he, hne => by
   simp only[aT]at he;simp[kX,he,hne]
 | x :: r, i + 1, e, hi, h, he, hne => by
   have h0:=h 0 (by omega);simp only[aT]at h0;have hr:=Cj (l:=r) (i:=i) (e:=e) (by simpa using hi) (fun k hk=>by simpa using h (k+1) (by omega)) (by simpa using he) hne;simp[kX,h0,hr,hne]
def P6{α : Type}[Inhabited α](p : α->Bool)(l:List α): fy p l<l.length:=by
 rcases tP p l with⟨h1,h2⟩|⟨i,h1,h2,h3⟩
 ·rw[h1];omega
 ·rw[h2];omega
def OL(cs:List cR)(hcs:cs.length<=2 ^ 60)(x:Expr): c8 x=true->fN x<=2 ^ 60->aP aK 270 [bf x,cJ cs] (.bO [I (iI cs x).1,I (iI cs x).2]):=by
 induction x using Expr.ind with
 | h op v s l ih =>
   intro hr hz;simp only[fN]at hz;have hl:=yX l
   have MN:(l.length:Int)=jH op:=by
    simp only[c8,aq,decide_eq_true_eq]at hr;exact hr.1
   obtain⟨vk,vn,vs⟩:=v;have hA:=JU cs s hcs;have MO:=P6 (fun c:cR=>c.name==s) cs
   change tf cs s<cs.length at MO
   simp only[cJ]at hA ⊢;by_cases h1:op=1
   ·have e:iI cs (.mk op ⟨vk,vn,vs⟩ s l)=(vk,0):=by simp only[iI,if_pos h1]
    rw[e];refine aR pR ?_;intro Q aF aG aH;repeat' first|refine aE ?_|refine aD ?_ ?_<;>intro hw<;>try omega|fail
    exact b_ rfl rfl
   by_cases h2:op=2
   ·have e:iI cs (.mk op ⟨vk,vn,vs⟩ s l)=if tf cs s<0 then(0,13)else ((cs.getD (tf cs s).toNat default).kind,0):=by simp only[iI,if_neg h1,if_pos h2]
    rw[e];generalize tf cs s=i at *;by_cases hi:i<0
    ·rw[if_pos hi];refine aR pR ?_;intro Q aF aG aH;repeat' first|refine aE ?_|refine aD ?_ ?_<;>intro hw<;>try omega|fail
     exact b_ rfl rfl
    ·rw[if_neg hi];obtain⟨n,rfl⟩:∃ n:Nat,i=n:=⟨i.toNat,by omega⟩;have hn:n<cs.length:=by omega
     refine aR pR ?_;intro Q aF aG aH;repeat' first|refine aE ?_|refine aD ?_ ?_<;>intro hw<;>try omega|fail
     exact b_ rfl rfl
   have qb:qH l=true:=by
    simp only[c8,if_neg h1,if_neg h2,aq]at hr;exact hr.2.2
   have F5:∀ k,k<l.length->c8 (l.getD k default)=true:=fun k hk=>by
    rw[zY]at qb;simp only[cD,fZ,cD,Bool.not_eq_false']at qb;simpa using qb _ (bJ hk)
   have hk:∀ k,k<l.length->_:=fun k h=>ih _ (bJ h) (F5 k h) (by have:=yY (bJ h);omega);have e:iI cs (.mk op ⟨vk,vn,vs⟩ s l)=if(kX cs l).2=0 then n7 op (kX cs l).1 else(0,(kX cs l).2):=by simp only[iI,if_neg h1,if_neg h2]
   rw[e];have hl3:l.length<=3:=by rcases sO MN h1 h2 with h|h|h<;>omega
   have RO:=fun ks h=>Ip op ks h h1 h2;clear hA MO e hr qb;simp only[cJ]at hk;refine aR pR ?_;intro Q aF aG aH;repeat' first|refine aE ?_|refine aD ?_ ?_<;>intro hw<;>try omega|fail
   with_reducible refine bZ [4,5,7,9,10,11,37,38,39,40,41,42,43,44,45,46,47,48,49,50,51,52,53,54] (fun q:Nat × List Int × List aY=>[(37,I q.1),(7,.own E1 1 q.1 0 q.1)]) (fun q=> .cells [I op,I vk,I vn,.str vs,.str s,.aO false EX (l.map bf)]:: .vec E1 (q.2.1.map eI)::q.2.2) (fun q=>q.1<=l.length/\q.2.1.length=q.1/\ ∀ k,k<q.1->iI cs (l.getD k default)=(q.2.1.getD k 0,0)) (fun q=>l.length-q.1) (0,[],[]) ?_ ?_ ?_ ?_
   ·simp
   ·rfl
   ·exact at_
   rintro⟨i,ks,τ⟩ r ⟨a1,a2,a3⟩;dsimp only at a1 a2 a3;by_cases hi:i<l.length
   ·have hx:=hk i hi;generalize hK:iI cs (l.getD i default)=K at *;obtain⟨kk,ke⟩:=K;rw[bB]at hx;repeat' first|simp (disch:=omega) only[go_sem,aF,aG,aH,a2]|refine aE ?_|refine aD ?_ ?_<;>intro hw<;>try omega|fail
    ·have:kX cs l=([],ke):=Cj hi (fun k h=>by rw[a3 k h]) (by rw[hK]) (by assumption);rw[this];refine b_ ?_ rfl;dsimp only;rw[if_neg (by assumption)]
    ·refine⟨(i+1,ks++[kk],τ++[.cells [I (l.getD i default).op,I (l.getD i default).v.kind,I (l.getD i default).v.n,.str (l.getD i default).v.s,.str (l.getD i default).s,.aO false EX ((l.getD i default).l.map bf)]]),?_,?_,?_,dH,at_⟩
     ·refine⟨by dsimp only;omega,by simp[a2],bI (fun k kR=>?_) ?_⟩
      ·rw[a3 k kR];simp[aj,aC (show k<ks.length by omega)]
      ·rw[hK];have:ke=0:=by assumption
       rw[this,<-a2];simp[aj]
     ·dsimp only;omega
     ·simp[eI]
   ·have hie:i=l.length:=by omega
    subst hie;have s8:=Fc a2 a3;rw[s8]at aF aG;have hc:=RO ks (by rw[a2];exact MN);have hpk:AV.cA (ks.map eI)=true:=Ci ks;have hlk:(ks.map eI).length=l.length:=by simp[a2]
    simp only[if_true]at aF aG;unfold n7 at aF aG;clear s8 a3;generalize pq op ks=R at *;obtain⟨rk,rb⟩:=R;repeat' first|simp (disch:=omega) only[go_sem,aF,aG,aH,a2]|refine aE ?_|(with_reducible refine pQ hc (.cons (View.refl _ rfl) (.cons (View.vec rfl hlk.symm hlk.symm hpk) (.nil _))) rfl ?_)|refine aD ?_ ?_<;>intro hw<;>try omega|fail
    all_goals (refine b_ ?_ rfl;simp_all)
def adh(cs:List cR)(hcs:cs.length<=2 ^ 60)(x:Expr): c8 x=true->fN x<=2 ^ 60->aP aK 253 [bf x,cJ cs] (.bO [I (iI cs x).1,I (iI cs x).2]):=by
 induction x using Expr.ind with
 | h op v s l ih =>
   intro hr hz;simp only[fN]at hz;have hl:=yX l
   have MN:(l.length:Int)=jH op:=by
    simp only[c8,aq,decide_eq_true_eq]at hr;exact hr.1
   obtain⟨vk,vn,vs⟩:=v;have hA:=W8 cs s hcs;have MO:=P6 (fun c:cR=>c.name==s) cs
   change tf cs s<cs.length at MO
   simp only[cJ]at hA ⊢;by_cases h1:op=1
   ·have e:iI cs (.mk op ⟨vk,vn,vs⟩ s l)=(vk,0):=by simp only[iI,if_pos h1]
    rw[e];refine aR qT ?_;intro Q aF aG aH;repeat' first|refine aE ?_|refine aD ?_ ?_<;>intro hw<;>try omega|fail
    exact b_ rfl rfl
   by_cases h2:op=2
   ·have e:iI cs (.mk op ⟨vk,vn,vs⟩ s l)=if tf cs s<0 then(0,13)else ((cs.getD (tf cs s).toNat default).kind,0):=by simp only[iI,if_neg h1,if_pos h2]
    rw[e];generalize tf cs s=i at *;by_cases hi:i<0
    ·rw[if_pos hi];refine aR qT ?_;intro Q aF aG aH;repeat' first|refine aE ?_|refine aD ?_ ?_<;>intro hw<;>try omega|fail
     exact b_ rfl rfl
    ·rw[if_neg hi];obtain⟨n,rfl⟩:∃ n:Nat,i=n:=⟨i.toNat,by omega⟩;have hn:n<cs.length:=by omega
     refine aR qT ?_;intro Q aF aG aH;repeat' first|refine aE ?_|refine aD ?_ ?_<;>intro hw<;>try omega|fail
     exact b_ rfl rfl
   have qb:qH l=true:=by
    simp only[c8,if_neg h1,if_neg h2,aq]at hr;exact hr.2.2
   have F5:∀ k,k<l.length->c8 (l.getD k default)=true:=fun k hk=>by
    rw[zY]at qb;simp only[cD,fZ,cD,Bool.not_eq_false']at qb;simpa using qb _ (bJ hk)
   have hk:∀ k,k<l.length->_:=fun k h=>ih _ (bJ h) (F5 k h) (by have:=yY (bJ h);omega);have e:iI cs (.mk op ⟨vk,vn,vs⟩ s l)=if(kX cs l).2=0 then n7 op (kX cs l).1 else(0,(kX cs l).2):=by simp only[iI,if_neg h1,if_neg h2]
   rw[e];have hl3:l.length<=3:=by rcases sO MN h1 h2 with h|h|h<;>omega
   have RO:=fun ks h=>OJ op ks h h1 h2;clear hA MO e hr qb;simp only[cJ]at hk;refine aR qT ?_;intro Q aF aG aH;repeat' first|refine aE ?_|refine aD ?_ ?_<;>intro hw<;>try omega|fail
   with_reducible refine bZ [4,5,7,8,9,10,31,32,33,34,35,36,37,38,39,40,41,42,43,44,45,46,47,48,49,50,51,52,53,54] (fun q:Nat × List Int=>[(8,I q.1),(7,.own E1 1 q.1 0 q.1)]) (fun q=> .cells [I op,I vk,I vn,.str vs,.str s,.aO false EX (l.map bf)]::[.vec E1 (q.2.map eI)]) (fun q=>q.1<=l.length/\q.2.length=q.1/\ ∀ k,k<q.1->iI cs (l.getD k default)=(q.2.getD k 0,0)) (fun q=>l.length-q.1) (0,[]) ?_ ?_ ?_ ?_
   ·simp
   ·rfl
   ·exact at_
   rintro⟨i,ks⟩ r ⟨a1,a2,a3⟩;dsimp only at a1 a2 a3;by_cases hi:i<l.length
   ·have hx:=hk i hi;generalize hK:iI cs (l.getD i default)=K at *;obtain⟨kk,ke⟩:=K;rw[bB]at hx;repeat' first|simp (disch:=omega) only[go_sem,aF,aG,aH,a2]|refine aE ?_|refine aD ?_ ?_<;>intro hw<;>try omega|fail
    ·have:kX cs l=([],ke):=Cj hi (fun k h=>by rw[a3 k h]) (by rw[hK]) (by assumption);rw[this];refine b_ ?_ rfl;dsimp only;rw[if_neg (by assumption)]
    ·refine⟨(i+1,ks++[kk]),?_,?_,?_,dH,at_⟩
     ·refine⟨by dsimp only;omega,by simp[a2],bI (fun k kR=>?_) ?_⟩
      ·rw[a3 k kR];simp[aj,aC (show k<ks.length by omega)]
      ·rw[hK];have:ke=0:=by assumption
       rw[this,<-a2];simp[aj]
     ·dsimp only;omega
     ·simp[eI]
   ·have hie:i=l.length:=by omega
    subst hie;have s8:=Fc a2 a3;rw[s8]at aF aG;have hc:=RO ks (by rw[a2];exact MN);have hpk:AV.cA (ks.map eI)=true:=Ci ks;have hlk:(ks.map eI).length=l.length:=by simp[a2]
    simp only[if_true]at aF aG;clear s8 a3;generalize n7 op ks=R at *;obtain⟨rk,rb⟩:=R;repeat' first|simp (disch:=omega) only[go_sem,aF,aG,aH,a2]|refine aE ?_|(with_reducible refine pQ hc (.cons (View.refl _ rfl) (.cons (View.vec rfl hlk.symm hlk.symm hpk) (.nil _))) rfl ?_)|refine aD ?_ ?_<;>intro hw<;>try omega|fail
    all_goals exact b_ rfl rfl
def OM(cs:List cR)(hcs:cs.length<=2 ^ 60)(x:Expr)(hx:jl x)(hz:fN x<=2 ^ 60): aP aK 234 [bf x,cJ cs] (.bO [I (if c8 x then(iI cs x).1 else 0),I (if c8 x then(iI cs x).2 else 2)]):=by
 have h1:=Cd x hx hz;have h2:=OL cs hcs x;cases hr:c8 x with
 | true =>
   have h2:=h2 hr hz;rw[hr]at h1;simp only[mZ,if_true]at h1 ⊢;generalize iI cs x=K at *;rw[bB]at h1 h2 ⊢;simp only[cJ]at h2 ⊢;refine aR yS ?_;intro Q aF aG aH;repeat' first|refine aE ?_|refine aD ?_ ?_<;>intro hw<;>try omega|fail
   all_goals exact b_ rfl rfl
 | false =>
   rw[hr]at h1;simp only[mZ,aB,if_false]at h1 ⊢;rw[bB]at h1 ⊢;simp only[cJ];refine aR yS ?_;intro Q aF aG aH;repeat' first|refine aE ?_|refine aD ?_ ?_<;>intro hw<;>try omega|fail
   all_goals exact b_ rfl rfl
