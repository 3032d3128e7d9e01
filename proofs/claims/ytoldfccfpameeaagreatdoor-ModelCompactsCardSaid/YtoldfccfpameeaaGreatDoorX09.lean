/- Part. -/
import Derived.Test.YtoldfccfpameeaaGreatDoorX08
import Derived.Shelf.Strings.OnBuilder
import Derived.Shelf.Strings.Repeat
import Derived.Shelf.Small.Strs
import Derived.Shelf.Small.Wraps
import Derived.Shelf.LaysM
import Derived.Shelf.Strconv.Itoa3
import Derived.Test.YtoldfccfpameeaaGreatDoorProg
import Derived.Shelf.Bits.Mul64
set_option linter.all false
set_option maxHeartbeats 4000000
namespace Go.Proofs.YtoldfccfpameeaaGreatDoor
open Go.AM
set_option maxRecDepth 4000
def Cn(op:Int)(v:aX)(s:aU)(l:List Expr): gV (.mk op v s l)=nF l+1:=by simp only[gV]
def Ph: Option Expr->Nat
 | none=>1
 | some x=>gV x
def NP{T:List Tok}{r:RS}{k:Int}{s:aU}: (l8 T r k s).x=r.x/\r.p<=(l8 T r k s).p:=by
 refine⟨rfl,?_⟩;simp only[l8,vF];split<;>omega
def aaQ{rd:Nat->Nat->RS}{l q:Nat}{b:Bool}(h:gV (rd l q).x+4*q<=1+4*(rd l q).p): gV (s0 rd l q b).x+4*q<=1+4*(s0 rd l q b).p:=by
 unfold s0;split
 ·simp[x0,gV,nF]
 exact h
def akl(T:List Tok)(f:Nat): ∀(m:Option Expr) (lvl p:Nat),p<=T.length->gV (dM T f m lvl p).x+4*p<=Ph m+4*(dM T f m lvl p).p:=by
 induction f with
 | zero =>
   intro m lvl p hp
   have:1<=Ph m:=by
    cases m with
    | none=>exact bg _
    | some x=>cases x;simp[Ph,gV]
   simp only[dM,x0,gV,nF];omega
 | succ f ih =>
   intro m lvl p hp;have hrd:∀ l q,q<=T.length->gV (dM T f none l q).x+4*q<=1+4*(dM T f none l q).p:=fun l q hq=>ih none l q hq;have xj:∀ l q,q<=T.length->kN T.length q (dM T f none l q):=fun l q hq=>(uu T f none l q hq).1 rfl;cases m with
   | none =>
     simp only[dM,Ph];split
     ·split
      ·rename_i h;have h1:=qp h;have ga:=DH xj (p:=p+1) h1;have gb:=DI xj (p:=p+1) h1;have a:=hrd 0 (p+1) h1;have b:=aaQ (b:=(o9 (dM T f none) T (p+1)).bad) (hrd 0 _ ga.2.1);have c:=aaQ (b:=(xe (dM T f none) T (p+1)).bad) (hrd 0 _ gb.2.1);have a2:=NP (T:=T) (r:=dM T f none 0 (p+1)) (k:=1) (s:=thenS);have b2:=NP (T:=T) (r:=s0 (dM T f none) 0 (o9 (dM T f none) T (p+1)).p (o9 (dM T f none) T (p+1)).bad) (k:=1) (s:=HJ);have ea:(o9 (dM T f none) T (p+1))=l8 T (dM T f none 0 (p+1)) 1 thenS:=rfl;have eb:(xe (dM T f none) T (p+1))=l8 T (s0 (dM T f none) 0 (o9 (dM T f none) T (p+1)).p (o9 (dM T f none) T (p+1)).bad) 1 HJ:=rfl;have ec:(Gh (dM T f none) T (p+1))=s0 (dM T f none) 0 (xe (dM T f none) T (p+1)).p (xe (dM T f none) T (p+1)).bad:=rfl;show gV (.mk 16 v0 [] [(o9 (dM T f none) T (p+1)).x,(xe (dM T f none) T (p+1)).x,(Gh (dM T f none) T (p+1)).x])+4*p<=1+4*(Gh (dM T f none) T (p+1)).p;rw[<-ea]at a2;rw[<-eb]at b2;rw[<-ec]at c;simp only[Cn,nF];rw[a2.1,b2.1];omega
      exact hrd 1 p hp
     split
     ·rename_i h;have h1:=qp h.2;have c:=hrd 6 (p+1) h1;simp only[Cn,nF];omega
     split
     ·have ok:∀ v s,gV (.mk 1 v s [])+4*p<=1+4*(p+1):=fun v s=>by simp only[Cn,nF];omega
      unfold pP;split
      ·rename_i h;have c:=hrd 0 (p+1) (qp h);have a2:=NP (T:=T) (r:=dM T f none 0 (p+1)) (k:=4) (s:=[41]);show gV (l8 T (dM T f none 0 (p+1)) 4 [41]).x+4*p<=1+4*(l8 T (dM T f none 0 (p+1)) 4 [41]).p;rw[a2.1];omega
      repeat' split
      all_goals simp only[Bx,x0,Cn,nF]
      all_goals omega
     split
     ·exact hrd _ _ hp
     have a:=hrd (lvl+1) p hp;have b:=ih (some (dM T f none (lvl+1) p).x) lvl _ (xj (lvl+1) p hp).2.1;simp only[Ph]at b;omega
   | some x =>
     simp only[dM,Ph];split
     ·exact bg _
     rename_i o ho;have h1:=(Gi ho).1;have a:=hrd (lvl+1) (p+1) h1;have g:=xj (lvl+1) (p+1) h1;split
     ·simp only[Cn,nF];omega
     have b:=ih (some (.mk o.op v0 [] [x,(dM T f none (lvl+1) (p+1)).x])) lvl _ g.2.1;simp only[Ph,Cn,nF]at b;omega
def jo(T:List Tok)(fr lvl:Int): Expr × Int × Int :=
 if fr<0\/(T.length:Int)<fr\/lvl<0\/7<lvl then(x0,0,2)
 else if(dM T (8*T.length+9) none lvl.toNat fr.toNat).bad then(x0,(dM T (8*T.length+9) none lvl.toNat fr.toNat).p,11)
 else((dM T (8*T.length+9) none lvl.toNat fr.toNat).x,(dM T (8*T.length+9) none lvl.toNat fr.toNat).p,0)
def Pj(r:Expr × Int × Int): AV:= .bU [br r.1,I r.2.1,I r.2.2]
def oS{σ : ai}{a E:AV}{n m:Int}(h:View σ a E): cY σ [a,I n,I m] [E,I n,I m]:= .cons h (.cons (.refl _ rfl) (.cons (.refl _ rfl) (.nil _)))
def IG(T:List Tok)(fr lvl:Int)(hT:T.length<=2^50)(hs:∀ q,(T.getD q default).s.length<=2^62): aS aH 224 [wH T,I fr,I lvl] (Pj (jo T fr lvl)):=by
 by_cases hg:fr<0\/(T.length:Int)<fr\/lvl<0\/7<lvl
 ·have e:jo T fr lvl=(x0,0,2):=by unfold jo;rw[if_pos hg]
  rw[e];have e1:∀ σ : ai,View σ (.agg [I 0,I 0,I 0,.str [],.str [],.aV]) (br x0):=fun σ=>si (.aV _);simp only[Pj];generalize br x0=E at *;refine a_ vU ?_;intro Q aJ aK aL;repeat' first|refine aB ?_|refine aA ?_ ?_<;>intro hw<;>try omega|fail
  all_goals first|exact gW (oS (e1 _))|(exfalso;omega)
 obtain⟨p,rfl⟩:∃ p:Nat,fr=p:=⟨fr.toNat,ae⟩;obtain⟨l,rfl⟩:∃ l:Nat,lvl=l:=⟨lvl.toNat,ae⟩;have cr:=U9 T ae hs (8*T.length+9) l p ae ae ae
 have e:jo T p l=if(dM T (8*T.length+9) none l p).bad then(x0,((dM T (8*T.length+9) none l p).p:Int),11)else ((dM T (8*T.length+9) none l p).x,((dM T (8*T.length+9) none l p).p:Int),0):=by
  unfold jo;rw[if_neg hg,Int.toNat_natCast,Int.toNat_natCast]
 rw[e];simp only[Az]at cr;generalize dM T (8*T.length+9) none l p=r at *;obtain⟨rx,rp,rb⟩:=r;dsimp only at *;have e1:∀ σ : ai,View σ (.agg [I 0,I 0,I 0,.str [],.str [],.aV]) (br x0):=fun σ=>si (.aV _);have e2:∀ σ : ai,View σ (.agg [I rx.op,I rx.v.kind,I rx.v.n,.str rx.v.s,.str rx.s,.aR false EX (rx.l.map br)]) (br rx):=fun σ=>View.eqv (bM _).symm (iI _);rw[bM]at cr;simp only[eM]at cr;cases rb with
 | true =>
   simp only[if_true,Pj];generalize br x0=E at *;refine a_ vU ?_;intro Q aJ aK aL;repeat' first|refine aB ?_|refine d_ cr ?_|refine aA ?_ ?_<;>intro hw<;>try omega|fail
   all_goals first|exact gW (oS (e1 _))|(exfalso;omega)
 | false =>
   simp only[aP,if_false,Pj];generalize br rx=E at *;refine a_ vU ?_;intro Q aJ aK aL;repeat' first|refine aB ?_|refine d_ cr ?_|refine aA ?_ ?_<;>intro hw<;>try omega|fail
   all_goals first|exact gW (oS (e2 _))|(exfalso;omega)
def agm(r b:aU)(i:Nat): (mN r b i).s.length<=b.length+r.length:=by
 fun_induction mN r b i<;>simp_all[PR.err]<;>omega
def aim(s:aU): (kM s).s.length<=s.length+2:=by
 unfold kM;simp only;split
 ·unfold HG;split<;>simp[PR.err];omega
 split
 ·unfold qG;simp only;split
  ·simp[PR.err]
  split<;>simp[PR.err]
 split
 ·have:=agm (s.drop 1) [] 1;rw[dJ]at this;simp only[bt]at this;omega
 unfold yy;split
 ·rename_i m hm;have h2:=iy hm;simp only[zl,gj,fO,or_false]at h2;rcases h2 with h|h|h|h|h|h|h|h|h|h|h|h|h|h|h|h<;>subst h<;>simp
 simp[PR.err]
def Yx(f:Nat): ∀(s:aU) (pos:Nat) (acc:List Tok),(∀ t ∈ acc,t.s.length<=1000)->s.length<=900->(tZ f s pos acc).1.length<=acc.length+s.length/\ ∀ t ∈ (tZ f s pos acc).1,t.s.length<=1000:=by
 induction f with
 | zero=>intro s pos acc h _;exact⟨Nat.le_add_right _ _,h⟩
 | succ f ih =>
   intro s pos acc h hs;cases s with
   | nil=>exact⟨Nat.le_add_right _ _,h⟩
   | cons c r =>
     rw[w_];simp only[aO]at hs |-;split
     ·have:=ih r (pos+1) acc h ae;exact⟨ae,this.2⟩
     split
     ·rename_i he;have h1:=SE (s:=c::r) aQ he;have h2:=aim (c::r);simp only[aO]at h1 h2
      have:=ih ((c::r).drop (kM (c::r)).len) (pos+(kM (c::r)).len) (acc++[⟨(kM (c::r)).kind,(kM (c::r)).s,(kM (c::r)).n,pos⟩]) (fun t ht=>by
       rcases List.mem_append.1 ht with ht|ht
       ·exact h t ht
       ·simp only[List.mem_cons,List.not_mem_nil,or_false]at ht;subst ht;dsimp only;omega) (by rw[List.length_drop,List.length_cons];omega)
      rw[dJ,aC,aO]at this;simp only[aO,bt]at this;exact⟨ae,this.2⟩
     exact⟨Nat.zero_le _,fun t ht=>by cases ht⟩
def sj(s:aU): (dU s).1.length<=200/\ ∀ q,((dU s).1.getD q default).s.length<=1000:=by
 have h:(dU s).1.length<=200/\ ∀ t ∈ (dU s).1,t.s.length<=1000:=by
  unfold dU;split
  ·exact⟨Nat.zero_le _,fun t ht=>by cases ht⟩
  have:=Yx (s.length+1) s 0 [] (fun t ht=>by cases ht) ae;simp only[bt]at this;exact⟨ae,this.2⟩
 refine⟨h.1,fun q=>?_⟩;by_cases hq:q<(dU s).1.length
 ·exact h.2 _ (bq hq)
 rw[rC ae];exact ew _
def J6(T:List Tok)(fr lvl:Int): gV (jo T fr lvl).1<=1+4*T.length:=by
 have h0:gV x0=1:=by simp[x0,gV,nF]
 unfold jo;split
 ·dsimp only;omega
 rename_i hg;split
 ·dsimp only;omega
 have:=akl T (8*T.length+9) none lvl.toNat fr.toNat ae;have g:=(uu T (8*T.length+9) none lvl.toNat fr.toNat ae).2.2;simp only[Ph]at this;dsimp only;omega
def jT(s:aU): Expr × Int × Int :=
 if(dU s).2.2≠0 then(x0,(dU s).2.1,(dU s).2.2)
 else if(jo (dU s).1 0 0).2.1<(dU s).1.length then(x0,((dU s).1.getD (jo (dU s).1 0 0).2.1.toNat default).pos,11)
 else if(jo (dU s).1 0 0).2.2≠0 then(x0,s.length,(jo (dU s).1 0 0).2.2)
 else if 12<mO (jo (dU s).1 0 0).1 then(x0,0,12)
 else((jo (dU s).1 0 0).1,0,0)
def WB(T:List Tok)(fr lvl:Int): 0<=(jo T fr lvl).2.1/\(jo T fr lvl).2.1<=T.length:=by
 unfold jo;split
 ·exact⟨Int.le_refl _,by dsimp only;omega⟩
 rename_i hg;have g:=(uu T (8*T.length+9) none lvl.toNat fr.toNat ae).2.2;split<;>(dsimp only;omega)
def SV(s:aU)(hs:s.length<=2^30): aS aH 184 [.str s] (Pj (jT s)):=by
 have cl:=Ww s hs;obtain⟨f1,f2⟩:=sj s;have cr:=IG (dU s).1 0 0 ae (fun q=>by have:=f2 q;omega);have hz:=J6 (dU s).1 0 0;obtain⟨hp0,hp1⟩:=WB (dU s).1 0 0
 have hP:jT s=if(dU s).2.2≠0 then(x0,(dU s).2.1,(dU s).2.2)
  else if(jo (dU s).1 0 0).2.1<(dU s).1.length then(x0,((dU s).1.getD (jo (dU s).1 0 0).2.1.toNat default).pos,11)
  else if(jo (dU s).1 0 0).2.2≠0 then(x0,(s.length:Int),(jo (dU s).1 0 0).2.2)
  else if 12<mO (jo (dU s).1 0 0).1 then(x0,0,12)
  else((jo (dU s).1 0 0).1,0,0):=rfl
 rw[hP];clear hP f2;generalize jo (dU s).1 0 0=r at *;generalize dU s=L at *;obtain⟨T,la,le⟩:=L;obtain⟨rx,rn,re⟩:=r;dsimp only at *;have cd:=Bv rx ae;obtain⟨n,rfl⟩:∃ n:Nat,rn=n:=⟨rn.toNat,ae⟩;have e1:∀ σ : ai,View σ (.agg [I 0,I 0,I 0,.str [],.str [],.aV]) (br x0):=fun σ=>si (.aV _);have e2:∀ σ : ai,View σ (.agg [I rx.op,I rx.v.kind,I rx.v.n,.str rx.v.s,.str rx.s,.aR false EX (rx.l.map br)]) (br rx):=fun σ=>View.eqv (bM _).symm (iI _);simp only[Pj]at cr |-;rw[bM]at cr cd;simp only[Yn,wH]at cl cr;by_cases h1:le≠0
 ·rw[au h1];generalize br x0=E at *;refine a_ ov ?_;intro Q aJ aK aL;repeat' first|refine aB ?_|refine aA ?_ ?_<;>intro hw<;>try omega|fail
  all_goals exact gW (oS (e1 _))
 rw[aj h1];by_cases h2:(n:Int)<T.length
 ·rw[au h2,Int.toNat_natCast];generalize br x0=E at *;have hn:n<T.length:=ae;refine a_ ov ?_;intro Q aJ aK aL;repeat' first|refine aB ?_|refine aA ?_ ?_<;>intro hw<;>try omega|fail
  all_goals exact gW (oS (e1 _))
 rw[aj h2];by_cases h3:re≠0
 ·rw[au h3];generalize br x0=E at *;refine a_ ov ?_;intro Q aJ aK aL;repeat' first|refine aB ?_|refine aA ?_ ?_<;>intro hw<;>try omega|fail
  all_goals exact gW (oS (e1 _))
 rw[aj h3];by_cases h4:12<mO rx
 ·rw[au h4];generalize br x0=E at *;refine a_ ov ?_;intro Q aJ aK aL;repeat' first|refine aB ?_|refine aA ?_ ?_<;>intro hw<;>try omega|fail
  all_goals exact gW (oS (e1 _))
 rw[aj h4];generalize br rx=E at *;refine a_ ov ?_;intro Q aJ aK aL;repeat' first|refine aB ?_|refine aA ?_ ?_<;>intro hw<;>try omega|fail
 all_goals exact gW (oS (e2 _))
def L4: aU:=[110,117,108,108]
def AA: aU:=[116,114,117,101]
def xk: aU:=[102,97,108,115,101]
structure Lq where
 op:Int
 vk:Int
 vn:Int
 vs:aU
 s:aU
 fl:Bool
 zs:List AV
 x:Expr
 p:Nat
 b:Bool
 f:Nat
def Lq.cs(q:Lq): List AV:=[I q.op,I q.vk,I q.vn,.str q.vs,.str q.s,.aR q.fl EX q.zs]
def eI(n:Int): AV:=I n
attribute [go_sem] eI
def ain(n:Int): (eI n).dy=true:=rfl
def Gj(l:List Int): AV.cG (l.map eI)=true:=fm _ _ ain
def cK(a b:Int): Bool:=decide (a=b) || decide (a=0) || decide (b=0)
def oP(a b:Int): Int:=if a=0 then b else a
def oM(a b:Int): aS aH 186 [I a,I b] (.bool (cK a b)):=by
 refine a_ ND ?_;intro Q aJ aK aL;repeat' first|refine aB ?_|refine aA ?_ ?_<;>intro hw<;>try omega|fail
 all_goals refine aZ ?_ rfl
 all_goals (refine aW AV.bool ?_;rw[c7];simp only[cK,aD,cN,aM,beq_iff_eq,ey,decide_eq_false_iff_not,beq_eq_false_iff_ne,ne_eq,true_iff,false_iff,iff_true,iff_false,aP,Bool.true_eq_false,not_and,not_or]at *;omega)
def EG(a b:Int): aS aH 280 [I a,I b] (I (oP a b)):=by
 refine a_ Ce ?_;intro Q aJ aK aL;repeat' first|refine aB ?_|refine aA ?_ ?_<;>intro hw<;>try omega|fail
 all_goals refine aZ ?_ rfl
 all_goals (unfold oP;first|rw[if_neg (by assumption)]|rw[if_pos (by assumption)]|(subst a;rfl))
def WC{α : Type}{p : α->Bool}(l:List α): l.all p = !(l.any fun x=> !(p x)):=by
 induction l with
 | nil=>rfl
 | cons x r ih=>simp[ih]
def L5(w:Int)(l:List Int)(hl:l.length<=2^60): aS aH 279 [I w,.aR false E1 (l.map eI)] (.bool (l.all fun k=>cK k w)):=by
 refine a_ QU ?_ (by simp[AV.dy,AV.cG,Gj]);intro Q aJ aK aL;repeat' first|refine aB ?_|refine aA ?_ ?_<;>intro hw<;>try omega|fail
 with_reducible refine bE [4,1,6,1,9,9] (fun i:Nat=>[(9,I i)]) (fun _=>[]) (fun i=>i<=l.length/\ ∀ k,k<i->(!(cK (l.getD k default) w))=false) (fun i=>l.length-i) (0) ?_ ?_ ?_ ?_
 ·simp
 ·rfl
 ·exact at_
 rintro i r ⟨h1,h2⟩;by_cases hi:i<l.length
 ·repeat' first|refine aB ?_|refine eU (oM _ _) ?_|refine aA ?_ ?_<;>intro hw<;>try omega|fail
  ·refine aZ ?_ rfl;rw[WC,aaN (p:=fun x=> !(cK x w)) hi (by simpa using hw)];rfl
  refine⟨i+1,?_,?_,by first|rfl|(simp[go_sem];done),da,at_⟩<;>(try dsimp only)
  ·exact⟨ae,cj h2 (by simpa using hw)⟩
  omega
 repeat' first|refine aB ?_|refine aA ?_ ?_<;>intro hw<;>try omega|fail
 refine aZ ?_ rfl;rw[WC,Wx (p:=fun x=> !(cK x w)) (fun k hk=>h2 k ae)];rfl
def Ih(l:List Int)(v:Int)(hl:l.length<=2^60): aS aH 298 [.aR false E1 (l.map eI),I v] (I (kW (fun x=>x==v) l)):=by
 refine a_ Dx ?_ (by simp[AV.dy,AV.cG,Gj]);intro Q aJ aK aL;repeat' first|refine aB ?_|refine aA ?_ ?_<;>intro hw<;>try omega|fail
 with_reducible refine bE [4,2,8,11] (fun i:Nat=>[(8,I i)]) (fun _=>[]) (fun i=>i<=l.length/\ ∀ k,k<i->(l.getD k default==v)=false) (fun i=>l.length-i) (0) ?_ ?_ ?_ ?_
 ·simp
 ·rfl
 ·exact at_
 rintro i r ⟨h1,h2⟩;by_cases hi:i<l.length
 ·repeat' first|refine aB ?_|refine aA ?_ ?_<;>intro hw<;>try omega|fail
  ·refine aZ ?_ rfl;rw[qH (p:=fun x=>x==v) hi h2 (by simp_all)]
  refine⟨i+1,?_,?_,by first|rfl|(simp[go_sem];done),da,at_⟩<;>(try dsimp only)
  ·exact⟨ae,cj h2 (by rw[beq_eq_false_iff_ne];intro h;exact hw h.symm)⟩
  omega
 repeat' first|refine aB ?_|refine aA ?_ ?_<;>intro hw<;>try omega|fail
 refine aZ ?_ rfl;rw[nA (p:=fun x=>x==v) (fun k hk=>h2 k ae)]
def DJ(l:List Int)(v:Int)(hl:l.length<=2^60): aS aH 281 [.aR false E1 (l.map eI),I v] (.bool (decide (0<=kW (fun x=>x==v) l))):=by
 refine a_ zW ?_ (by simp[AV.dy,AV.cG,Gj]);intro Q aJ aK aL;repeat' first|refine aB ?_|refine eU (Ih l v hl) ?_|refine aA ?_ ?_<;>intro hw<;>try omega|fail
 all_goals exact aZ rfl rfl
def lP(op:Int)(ks:List Int): Int × Bool :=
 if op=3\/op=5\/op=6\/op=7 then(1,ks.all fun k=>cK k 1)
 else if op=4 then(if oP (ks.getD 0 0) (ks.getD 1 0)=2 then(2,ks.all fun k=>cK k 2)else (1,ks.all fun k=>cK k 1))
 else if op=8\/op=9 then(3,cK (ks.getD 0 0) (ks.getD 1 0))
 else if op=10\/op=11\/op=12\/op=13 then(3,cK (ks.getD 0 0) (ks.getD 1 0) && !(decide (0<=kW (fun x=>x==3) ks)))
 else if op=14\/op=15 then(3,ks.all fun k=>cK k 3)
 else(oP (ks.getD 1 0) (ks.getD 2 0),cK (ks.getD 0 0) 3 && cK (ks.getD 1 0) (ks.getD 2 0))
def SW(a:Int): aS aH 257 [I 3,.aR false E1 ([a].map eI)] (.bU [I (lP 3 [a]).1,.bool (lP 3 [a]).2]):=by
 have h:=fun w=>L5 w [a] aQ;simp only[List.map,eI]at h |-;refine a_ vV ?_;intro Q aJ aK aL;repeat' first|simp (disch:=omega) only[go_sem,aJ,aK,aL,Int.reduceToNat]|refine aB ?_|refine eU (h _) ?_|refine aA ?_ ?_<;>intro hw<;>try omega|fail
 all_goals exact cn rfl rfl
def SZ(op a b:Int)(h4:4<=op)(h15:op<=15): aS aH 257 [I op,.aR false E1 ([a,b].map eI)] (.bU [I (lP op [a,b]).1,.bool (lP op [a,b]).2]):=by
 have h:=fun w=>L5 w [a,b] aQ;have hc:=DJ [a,b] 3 aQ;simp only[List.map,eI]at h hc |-;generalize hR:lP op [a,b]=R;refine a_ vV ?_;intro Q aJ aK aL;repeat' first|simp (disch:=omega) only[go_sem,aJ,aK,aL,Int.reduceToNat]|refine aB ?_|refine eU (h _) ?_|refine eU (EG a b) ?_|refine eU (oM a b) ?_|refine aA ?_ ?_<;>intro hw<;>try omega|fail
 all_goals (refine cn ?_ rfl;clear aJ aK aL h hc;subst hR)
 all_goals (simp_all[lP];done)
def S0(a b c:Int): aS aH 257 [I 16,.aR false E1 ([a,b,c].map eI)] (.bU [I (lP 16 [a,b,c]).1,.bool (lP 16 [a,b,c]).2]):=by
 simp only[List.map,eI];refine a_ vV ?_;intro Q aJ aK aL;repeat' first|simp (disch:=omega) only[go_sem,aJ,aK,aL,Int.reduceToNat]|refine aB ?_|refine eU (EG b c) ?_|refine eU (oM a 3) ?_|refine eU (oM b c) ?_|refine aA ?_ ?_<;>intro hw<;>try omega|fail
 all_goals (refine cn ?_ rfl;simp_all[lP])
def Yy(op:Int)(ks:List Int): Int × Int:=if(lP op ks).2 then((lP op ks).1,0)else (0,14)
def sE (fn : FuncId) (cap : List AV) (hcap : AV.cG cap = true) (p : cV -> Bool) (l : List cV) (h : ∀ k, k < l.length -> aS aH fn (dQ (l.getD k default) :: cap) (.bool (p (l.getD k default)))) (hl : l.length <= 2^62) :
    aS aH 217 [b_ l,.fn (.func fn) [] cap] (I (kW p l)):=by
 refine a_ xO ?_ (by simp[AV.dy,AV.cG,hcap,kf]);intro Q aJ aK aL;repeat' first|refine aB ?_|refine aA ?_ ?_<;>intro hw<;>try omega|fail
 with_reducible refine bE [4,2,8,11] (fun i:Nat=>[(8,I i)]) (fun _=>[]) (fun i=>i<=l.length/\ ∀ k,k<i->p (l.getD k default)=false) (fun i=>l.length-i) (0) ?_ ?_ ?_ ?_
 ·simp
 ·rfl
 ·exact at_
 rintro i r ⟨hi,hp⟩;by_cases hin:i<l.length
 ·have hx:=h i hin;simp only[dQ,bu]at hx;repeat' first|refine aB ?_|refine aA ?_ ?_<;>intro hw<;>try omega|fail
  ·refine aZ ?_ rfl;refine aW I ?_;exact(qH hin hp hw).symm
  refine⟨i+1,?_,?_,by first|rfl|(simp[go_sem];done),da,at_⟩<;>(try dsimp only)
  ·exact⟨ae,cj hp hw⟩
  omega
 repeat' first|refine aB ?_|refine aA ?_ ?_<;>intro hw<;>try omega|fail
 refine aZ ?_ rfl;refine aW I ?_;exact(nA fun k hk=>hp k ae).symm
def vG(l:List cV)(s:aU): Int:=kW (fun c=>c.name==s) l
def U_(c:cV)(s:aU): aS aH 250 [dQ c,.fh E1 (.str s) 0] (.bool (c.name==s)):=by
 refine a_ NG ?_ (by simp[AV.dy,AV.cG,DA]);intro Q aJ aK aL;repeat' first|refine aB ?_|refine aA ?_ ?_<;>intro hw<;>try omega|fail
 all_goals exact aZ rfl rfl
def Pk(l:List cV)(s:aU)(hl:l.length<=2^60): aS aH 216 [b_ l,.str s] (I (vG l s)):=by
 have hc:=sE 250 [.fh E1 (.str s) 0] rfl (fun c=>c.name==s) l (fun k _=>U_ _ s) ae;simp only[b_]at hc;refine a_ Sz ?_ (by simp[AV.dy,AV.cG,kf]);intro Q aJ aK aL;repeat' first|refine aB ?_|refine IC hc ?_|refine aA ?_ ?_<;>intro hw<;>try omega|fail
 all_goals exact aZ rfl rfl
def rF{op:Int}{n:Nat}(h:(n:Int)=kg op)(h1:op≠1)(h2:op≠2): (op=3/\n=1)\/(4<=op/\op<=15/\n=2)\/(op=16/\n=3):=by
 unfold kg at h;rw[aj ae]at h;by_cases h3:op=3
 ·rw[au h3]at h;omega
 rw[aj h3]at h;by_cases h16:op=16
 ·rw[au h16]at h;omega
 rw[aj h16]at h;by_cases hr:4<=op/\op<=15
 ·rw[au (Yq op hr.1 hr.2).2]at h;omega
 rw[Yp op ae]at h;rw[aj cW]at h;omega
def NQ(op:Int)(ks:List Int)(h:(ks.length:Int)=kg op)(h1:op≠1)(h2:op≠2): aS aH 257 [I op,.aR false E1 (ks.map eI)] (.bU [I (lP op ks).1,.bool (lP op ks).2]):=by
 rcases rF h h1 h2 with⟨rfl,hn⟩|⟨h4,h15,hn⟩|⟨rfl,hn⟩
 ·match ks,hn with
  | [a],_=>exact SW a
 ·match ks,hn with
  | [a,b],_=>exact SZ op a b h4 h15
 match ks,hn with
 | [a,b,c],_=>exact S0 a b c
mutual
def jZ(cs:List cV): Expr->Int × Int
 | .mk op v s l =>
   if op=1 then(v.kind,0)
   else if op=2 then(if vG cs s<0 then(0,13)else ((cs.getD (vG cs s).toNat default).kind,0))
   else if(lF cs l).2=0 then Yy op (lF cs l).1 else(0,(lF cs l).2)
def lF(cs:List cV): List Expr->List Int × Int
 | []=>([],0)
 | x :: r =>
   if(jZ cs x).2≠0 then([],(jZ cs x).2)
   else if(lF cs r).2≠0 then([],(lF cs r).2)
   else((jZ cs x).1::(lF cs r).1,0)
end
def S6{cs:List cV}: ∀ {l:List Expr} {ks:List Int},ks.length=l.length->(∀ k,k<l.length->jZ cs (l.getD k default)=(ks.getD k 0,0))->lF cs l=(ks,0)
 | [],[],_,_=>by simp only[lF]
 | x :: r, k :: ks, hl, h => by
   have h0:=h 0 aQ;simp only[cH]at h0;have hr:=S6 (l:=r) (ks:=ks) (by simpa using hl) (fun i hi=>by simpa using h (i+1) (by simpa using hi));simp[lF,h0,hr]
def Pm{cs:List cV}: ∀ {l:List Expr} {i:Nat} {e:Int},i<l.length->(∀ k,k<i->(jZ cs (l.getD k default)).2=0)->(jZ cs (l.getD i default)).2=e->e≠0->lF cs l=([],e)
 | x :: r, 0, e, _, _, he, hne => by
   simp only[cH]at he;simp[lF,he,hne]
 | x :: r, i + 1, e, hi, h, he, hne => by
   have h0:=h 0 ae;simp only[cH]at h0;have hr:=Pm (l:=r) (i:=i) (e:=e) (by simpa using hi) (fun k hk=>by simpa using h (k+1) ae) (by simpa using he) hne;simp[lF,h0,hr,hne]
def WD{α : Type}[Inhabited α](p : α->Bool)(l:List α): kW p l<l.length:=by
 rcases vZ p l with⟨h1,h2⟩|⟨i,h1,h2,h3⟩
 ·rw[h1];omega
 rw[h2];omega
def Va(cs:List cV)(hcs:cs.length<=2^60)(x:Expr): ef x=true->gV x<=2^60->aS aH 225 [br x,b_ cs] (.bU [I (jZ cs x).1,I (jZ cs x).2]):=by
 induction x using Expr.ind with
 | h op v s l ih =>
   intro hr hz;simp only[gV]at hz;have hl:=HI l
   have Yz:(l.length:Int)=kg op:=by
    simp only[ef,aD,aM]at hr;exact hr.1
   obtain⟨vk,vn,vs⟩:=v;have hA:=Pk cs s hcs;have EH:=WD (fun c:cV=>c.name==s) cs
   change vG cs s<cs.length at EH
   simp only[b_]at hA |-;by_cases h1:op=1
   ·have e:jZ cs (.mk op ⟨vk,vn,vs⟩ s l)=(vk,0):=by simp only[jZ,au h1]
    rw[e];refine a_ r8 ?_;intro Q aJ aK aL;repeat' first|refine aB ?_|refine aA ?_ ?_<;>intro hw<;>try omega|fail
    exact cn rfl rfl
   by_cases h2:op=2
   ·have e:jZ cs (.mk op ⟨vk,vn,vs⟩ s l)=if vG cs s<0 then(0,13)else ((cs.getD (vG cs s).toNat default).kind,0):=by simp only[jZ,aj h1,au h2]
    rw[e];generalize vG cs s=i at *;by_cases hi:i<0
    ·rw[au hi];refine a_ r8 ?_;intro Q aJ aK aL;repeat' first|refine aB ?_|refine aA ?_ ?_<;>intro hw<;>try omega|fail
     exact cn rfl rfl
    rw[aj hi];obtain⟨n,rfl⟩:∃ n:Nat,i=n:=⟨i.toNat,ae⟩;have hn:n<cs.length:=ae;refine a_ r8 ?_;intro Q aJ aK aL;repeat' first|refine aB ?_|refine aA ?_ ?_<;>intro hw<;>try omega|fail
    exact cn rfl rfl
   have EI:sZ l=true:=by
    simp only[ef,aj h1,aj h2,aD]at hr;exact hr.2.2
   have za:∀ k,k<l.length->ef (l.getD k default)=true:=fun k hk=>by
    rw[LZ]at EI;simp only[ey,List.any_eq_false,ey,Bool.not_eq_false']at EI;simpa using EI _ (bq hk)
   have hk:∀ k,k<l.length->_:=fun k h=>ih _ (bq h) (za k h) (by have:=Cj (bq h);omega);have e:jZ cs (.mk op ⟨vk,vn,vs⟩ s l)=if(lF cs l).2=0 then Yy op (lF cs l).1 else(0,(lF cs l).2):=by simp only[jZ,aj h1,aj h2]
   rw[e];have hl3:l.length<=3:=by rcases rF Yz h1 h2 with h|h|h<;>omega
   have akm:=fun ks h=>NQ op ks h h1 h2;clear hA EH e hr EI;simp only[b_]at hk;refine a_ r8 ?_;intro Q aJ aK aL;repeat' first|refine aB ?_|refine aA ?_ ?_<;>intro hw<;>try omega|fail
   with_reducible refine bE [4,2,7,1,9,3,37,18] (fun q:Nat × List Int × List aY=>[(37,I q.1),(7,.own E1 1 q.1 0 q.1)]) (fun q=> .cells [I op,I vk,I vn,.str vs,.str s,.aR false EX (l.map br)]:: .vec E1 (q.2.1.map eI)::q.2.2) (fun q=>q.1<=l.length/\q.2.1.length=q.1/\ ∀ k,k<q.1->jZ cs (l.getD k default)=(q.2.1.getD k 0,0)) (fun q=>l.length-q.1) (0,[],[]) ?_ ?_ ?_ ?_
   ·simp
   ·rfl
   ·exact at_
   rintro⟨i,ks,τ⟩ r ⟨a1,a2,a3⟩;dsimp only at a1 a2 a3;by_cases hi:i<l.length
   ·have hx:=hk i hi;generalize hK:jZ cs (l.getD i default)=K at *;obtain⟨kk,ke⟩:=K;rw[bM]at hx;repeat' first|refine cz a2 ?_|refine aB ?_|refine aA ?_ ?_<;>intro hw<;>try omega|fail
    ·have:lF cs l=([],ke):=Pm hi (fun k h=>by rw[a3 k h]) (by rw[hK]) (by assumption);rw[this];refine cn ?_ rfl;dsimp only;rw[aj (by assumption)]
    refine⟨(i+1,ks++[kk],τ++[.cells [I (l.getD i default).op,I (l.getD i default).v.kind,I (l.getD i default).v.n,.str (l.getD i default).v.s,.str (l.getD i default).s,.aR false EX ((l.getD i default).l.map br)]]),?_,?_,?_,da,at_⟩
    ·refine⟨by dsimp only;omega,by simp[a2],cj (fun k kI=>?_) ?_⟩
     ·rw[a3 k kI];simp[aq,aI (show k<ks.length by omega)]
     rw[hK];have:ke=0:=by assumption
     rw[this,<-a2];simp[aq]
    ·dsimp only;omega
    simp[eI]
   have hie:i=l.length:=ae;subst hie;have x4:=S6 a2 a3;rw[x4]at aJ aK;have hc:=akm ks (by rw[a2];exact Yz);have hpk:AV.cG (ks.map eI)=true:=Gj ks;have hlk:(ks.map eI).length=l.length:=by simp[a2]
   simp only[if_true]at aJ aK;unfold Yy at aJ aK;clear x4 a3;generalize lP op ks=R at *;obtain⟨rk,rb⟩:=R;repeat' first|refine cz a2 ?_|refine aB ?_|(with_reducible refine yM hc (.cons (View.refl _ rfl) (.cons (View.vec rfl hlk.symm hlk.symm hpk) (.nil _))) rfl ?_)|refine aA ?_ ?_<;>intro hw<;>try omega|fail
   all_goals (refine cn ?_ rfl;simp_all)
def Vb(cs:List cV)(hcs:cs.length<=2^60)(x:Expr)(hx:jj x)(hz:gV x<=2^60): aS aH 185 [br x,b_ cs] (.bU [I (if ef x then(jZ cs x).1 else 0),I (if ef x then(jZ cs x).2 else 2)]):=by
 have h1:=zn x hx hz;have h2:=Va cs hcs x;cases hr:ef x with
 | true =>
   have h2:=h2 hr hz;rw[hr]at h1;simp only[ji,if_true]at h1 |-;generalize jZ cs x=K at *;rw[bM]at h1 h2 |-;simp only[b_]at h2 |-;refine a_ Cd ?_;intro Q aJ aK aL;repeat' first|refine aB ?_|refine aA ?_ ?_<;>intro hw<;>try omega|fail
   all_goals exact cn rfl rfl
 | false =>
   rw[hr]at h1;simp only[ji,aP,if_false]at h1 |-;rw[bM]at h1 |-;simp only[b_];refine a_ Cd ?_;intro Q aJ aK aL;repeat' first|refine aB ?_|refine aA ?_ ?_<;>intro hw<;>try omega|fail
   all_goals exact cn rfl rfl
def wh(l:List cV)(i:Nat): Int :=
 if iZ (l.getD i default).name=false\/vG l (l.getD i default).name≠i then 13
 else if(l.getD i default).kind<1\/3<(l.getD i default).kind then 14 else 0
def lA(l:List cV): Int:=if 6<l.length then 24 else match(List.range l.length).find? (fun i=>wh l i != 0)with
 | some i=>wh l i
 | none=>0
def oz{n k:Nat}(h:k<n): (List.range n).getD k default=k:=by simp[aq,h]
def adC{l:List cV}{i:Nat}{e:Int}(h6:¬ 6<l.length)(hi:i<l.length)(h:∀ k,k<i->wh l k=0)(he:wh l i=e)(hne:e≠0): lA l=e:=by
 have:=yO (p:=fun i=>wh l i != 0) (l:=List.range l.length) (i:=i) (by simpa using hi) (fun k hk=>by rw[oz ae];simp[h k hk]) (by rw[oz hi];simp[he,hne]);unfold lA;rw[aj h6,this,oz hi];exact he
def aaR{l:List cV}(h6:¬ 6<l.length)(h:∀ k,k<l.length->wh l k=0): lA l=0:=by
 have:=wc (p:=fun i=>wh l i != 0) (l:=List.range l.length) (fun k hk=>by rw[List.length_range]at hk;rw[oz hk];simp[h k hk]);unfold lA;rw[aj h6,this]
def NR(l:List cV)(hn:∀ k,k<l.length->(l.getD k default).name.length<=2^62): aS aH 178 [b_ l] (I (lA l)):=by
 by_cases h6:6<l.length
 ·have e:lA l=24:=by unfold lA;rw[if_pos h6]
  rw[e];refine a_ x8 ?_ (by simp[AV.dy,AV.cG,kf]);intro Q aJ aK aL;repeat' first|refine aB ?_|refine aA ?_ ?_<;>intro hw<;>try omega|fail
  exact aZ rfl rfl
 refine a_ x8 ?_ (by simp[AV.dy,AV.cG,kf]);intro Q aJ aK aL;repeat' first|refine aB ?_|refine aA ?_ ?_<;>intro hw<;>try omega|fail
 with_reducible refine bE [2,3,10,31] (fun q:Nat × List aY=>[(10,I q.1)]) (fun q=>q.2) (fun q=>q.1<=l.length/\ ∀ k,k<q.1->wh l k=0) (fun q=>l.length-q.1) (0,[]) ?_ ?_ ?_ ?_
 ·simp
 ·rfl
 ·exact at_
 rintro⟨i,τ⟩ r ⟨h1,h2⟩;dsimp only at h1 h2;by_cases hi:i<l.length
 ·have c1:=v7 _ (hn i hi);have c2:=Pk l (l.getD i default).name ae;have hE:wh l i=if iZ (l.getD i default).name=false\/vG l (l.getD i default).name≠i then 13 else if(l.getD i default).kind<1\/3<(l.getD i default).kind then 14 else 0:=rfl
  obtain⟨c,hc⟩:=cq (l.getD i default);rw[hc]at c1 c2 hE;generalize iZ c.name=nb at *;generalize vG l c.name=an at *;simp only[b_]at c2;repeat' first|refine cz hc ?_|refine aB ?_|refine aA ?_ ?_<;>intro hw<;>try omega|fail
  all_goals first
   | (refine aZ ?_ rfl
      refine aW I ?_
      symm
      refine adC h6 hi h2 ?_ cW;rw[hE]
      first
       |(rw[au (by simp_all)];done)
       |(rw[aj (by simp_all),au ae];done))
   | (refine ⟨(i + 1, τ ++ [.cells [.str c.name, I c.kind, .aR false EV (c.order.map c8)]]), ?_, ?_, by first | rfl | (simp [go_sem]; done), da, at_⟩
      ·exact⟨by dsimp only;omega,cj h2 (by rw[hE,if_neg (by simp_all),if_neg ae])⟩
      ·dsimp only;omega)
 repeat' first|refine aB ?_|refine aA ?_ ?_<;>intro hw<;>try omega|fail
 refine aZ ?_ rfl;rw[aaR h6 (fun k hk=>h2 k ae)]
def pQ(x:Expr): Bool:=ef x && decide (mO x<=12)
def Pn(x:Expr)(hx:jj x)(hz:gV x<=2^60): aS aH 208 [br x] (.bool (pQ x)):=by
 have h1:=zn x hx hz;have h2:=Bv x hz;unfold pQ;generalize ef x=b at *;rw[bM]at h1 h2 |-;refine a_ Sk ?_;intro Q aJ aK aL;cases b<;>simp only[ji,if_true,Bool.false_eq_true,if_false]at h1
 ·repeat' first|refine aB ?_|refine aA ?_ ?_<;>intro hw<;>try omega|fail
  all_goals exact aZ rfl rfl
 repeat' first|refine aB ?_|refine aA ?_ ?_<;>intro hw<;>try omega|fail
 all_goals (refine aZ ?_ rfl;simp;omega)
def Co (fn : FuncId) (cap : List AV) (hcap : AV.cG cap = true) (p : Test -> Bool) (l : List Test) (h : ∀ k, k < l.length -> aS aH fn (dV (l.getD k default) :: cap) (.bool (p (l.getD k default)))) (hl : l.length <= 2^62) :
    aS aH 207 [jr l,.fn (.func fn) [] cap] (I (kW p l)):=by
 refine a_ zk ?_ (by simp[AV.dy,AV.cG,hcap,yx]);intro Q aJ aK aL;repeat' first|refine aB ?_|refine aA ?_ ?_<;>intro hw<;>try omega|fail
 with_reducible refine bE [4,2,8,11] (fun i:Nat=>[(8,I i)]) (fun _=>[]) (fun i=>i<=l.length/\ ∀ k,k<i->p (l.getD k default)=false) (fun i=>l.length-i) (0) ?_ ?_ ?_ ?_
 ·simp
 ·rfl
 ·exact at_
 rintro i r ⟨hi,hp⟩;by_cases hin:i<l.length
 ·have hx:=h i hin;simp only[dV,dQ,fY,mM,er,ez,jr,bu,iY,sX]at hx;repeat' first|refine aB ?_|refine aA ?_ ?_<;>intro hw<;>try omega|fail
  ·refine aZ ?_ rfl;refine aW I ?_;exact(qH hin hp hw).symm
  refine⟨i+1,?_,?_,by first|rfl|(simp[go_sem];done),da,at_⟩<;>(try dsimp only)
  ·exact⟨ae,cj hp hw⟩
  omega
 repeat' first|refine aB ?_|refine aA ?_ ?_<;>intro hw<;>try omega|fail
 refine aZ ?_ rfl;refine aW I ?_;exact(nA fun k hk=>hp k ae).symm
def zq (fn : FuncId) (cap : List AV) (hcap : AV.cG cap = true) (p : Test -> Bool) (l : List Test) (h : ∀ k, k < l.length -> aS aH fn (dV (l.getD k default) :: cap) (.bool (p (l.getD k default)))) (hl : l.length <= 2^62) :
    aS aH 161 [jr l,.fn (.func fn) [] cap] (.bool (l.any p)):=by
 refine a_ w8 ?_ (by simp[AV.dy,AV.cG,hcap,yx]);intro Q aJ aK aL;have hc:=Co fn cap hcap p l h hl;simp only[jr]at hc;repeat' first|refine aB ?_|refine aA ?_ ?_<;>intro hw<;>try omega|fail
 all_goals refine aZ ?_ rfl
 all_goals rw[<-wg]
def pg(t:Test): Bool :=
 if t.kind=6 then pQ t.a && pQ t.b
 else decide (1<=t.kind/\t.kind<=5) && pQ t.a && Aw t.b x0 && !t.lo && !t.hi
def L6(t:Test): Prop:=(jj t.a/\gV t.a<=2^60)/\jj t.b/\gV t.b<=2^60
def Po(c:Cell): Prop:=c.tests.length<=2^60/\ ∀ t ∈ c.tests,L6 t
def jH(c:Cell): Bool :=
 if c.any then !c.neg && decide (c.tests.length=0)
 else decide (1<=c.tests.length/\c.tests.length<=12) && !(c.tests.any fun t=> !(pg t))
def aaS: gV x0<=2^60:=by simp[x0,gV,nF]
def adD: br x0 = .agg [I 0,I 0,I 0,.str [],.str [],.aR false EX []]:=by simp[x0,v0,br]
def cell_of(t:Test): aS aH 210 [dV t] (.agg [.bool t.lo,.bool t.hi]):=by
 refine a_ Yh ?_;intro Q aJ aK aL;simp only[dV,ez];repeat' first|refine aB ?_|refine aA ?_ ?_<;>intro hw<;>try omega|fail
 all_goals exact aZ rfl rfl
def YA(t:Test)(h:L6 t): aS aH 163 [dV t] (.bool (pg t)):=by
 obtain⟨⟨a1,a2⟩,b1,b2⟩:=h;have ha:=Pn t.a a1 a2;have hb:=Pn t.b b1 b2;have hs:=U7 t.b x0 (aaO _ b2) (aaO _ aaS);have ho:=cell_of t;rw[adD]at hs;rw[bM]at ha hb hs;simp only[dV,ez]at ho |-;have hS:pg t=if t.kind=6 then pQ t.a && pQ t.b else decide (1<=t.kind/\t.kind<=5) && pQ t.a && Aw t.b x0 && !t.lo && !t.hi:=rfl
 rw[hS];clear hS;generalize pQ t.a=pa at *;generalize pQ t.b=pb at *;generalize Aw t.b x0=sb at *;refine a_ Qy ?_;intro Q aJ aK aL;repeat' first|refine aB ?_|refine As hs ?_|refine aA ?_ ?_<;>intro hw<;>try omega|fail
 all_goals (refine aZ ?_ rfl;refine aW AV.bool ?_;rw[c7];simp_all)
 all_goals (try omega)
def S7(t:Test)(h:L6 t): aS aH 162 [dV t] (.bool (!(pg t))):=by
 have h1:=YA t h;simp only[dV,ez]at h1 |-;generalize pg t=b at *;refine a_ LG ?_;intro Q aJ aK aL;repeat' first|refine aB ?_|refine aA ?_ ?_<;>intro hw<;>try omega|fail
 all_goals exact aZ rfl rfl
def yz(c:Cell)(h:Po c): aS aH 119 [er c] (I (ji (jH c))):=by
 have hc:=zq 162 [] rfl (fun t=> !(pg t)) c.tests (fun k hk=>S7 _ (h.2 _ (bq hk))) (by have:=h.1;omega);have hl:=h.1;simp only[jr,er]at hc |-;have hS:jH c=if c.any then !c.neg && decide (c.tests.length=0)else decide (1<=c.tests.length/\c.tests.length<=12) && !(c.tests.any fun t=> !(pg t)):=rfl
 rw[hS];clear hS;generalize c.tests.any (fun t=> !(pg t))=an at *;refine a_ Qx ?_;intro Q aJ aK aL;repeat' first|refine aB ?_|refine aA ?_ ?_<;>intro hw<;>try omega|fail
 all_goals (refine aZ ?_ rfl;refine aW I ?_;simp_all[ji,<-List.length_eq_zero_iff])
 all_goals (try omega)
 all_goals (intro h0;exfalso;omega)
def mP(k:Int): aU:=if k=2 then [60]else if k=3 then [60,61]else if k=4 then [62]else if k=5 then [62,61]else []
def Pp(k:Int): aS aH 165 [I k] (.str (mP k)):=by
 refine a_ Sl ?_;intro Q aJ aK aL;repeat' first|refine aB ?_|refine aA ?_ ?_<;>intro hw<;>try omega|fail
 all_goals (refine aZ ?_ rfl;simp_all[mP])
def wJ(T:List Tok)(p:Nat): aU:=if(T.getD p default).kind=4 then(T.getD p default).s else []
def DK(T:List Tok)(p:Nat)(b:Bool)(s:aU)(hs:s≠[]): jn T p b 4 s=(!b && decide (wJ T p=s)):=by
 unfold jn qo wJ;by_cases hp:p<T.length
 ·generalize T.getD p default=t;by_cases h4:t.kind=4
  ·simp[hp,h4]
  simp[hp,h4,Ne.symm hs]
 rw[rC ae];simp[hp,Yt,Ne.symm hs]
def Gk(T:List Tok)(p:Nat)(b:Bool): ei aH 220 0 [] (eM T p b) (eM T p b) (.str (wJ T p)):=by
 by_cases hp:p<T.length
 ·refine ei.iM (vD.go ?_) rfl (cy _ _ _);unfold dP;intro Q aJ aK aL;repeat' first|refine aB ?_|refine aA ?_ ?_<;>intro hw<;>try omega|fail
  all_goals (refine ik (View.eqv ?_ rfl) (cY.refl (cy T p b));simp_all[wJ])
 have:wJ T p=[]:=by unfold wJ;rw[rC ae];simp[Yt]
 rw[this];refine ei.iM (vD.go ?_) rfl (cy _ _ _);unfold dP;intro Q aJ aK aL;repeat' first|refine aB ?_|refine aA ?_ ?_<;>intro hw<;>try omega|fail
 all_goals exact ik (View.eqv rfl rfl) (cY.refl (cy T p b))
def WE(T:List Tok)(p:Nat)(b:Bool)(s:aU)(hs:s≠[])(hp:p<=2^61): ei aH 254 0 [.str s] (eM T p b) (eM T (vF T p b 4 s) b) (.bool (jn T p b 4 s)):=by
 have hn:=Gk T p b;unfold vF;rw[DK T p b s hs];generalize wJ T p=t at hn |-;simp only[eM]at hn;refine ei.iM (H6.go ?_) rfl (cy _ _ _);unfold dP;intro Q aJ aK aL;repeat' first|refine aB ?_|refine d_ hn ?_|refine aA ?_ ?_<;>intro hw<;>try omega|fail
 all_goals first
  |(refine ik (View.eqv ?_ rfl) (cY.eqv ?_ (cy _ _ _))<;>simp_all[eM];done)
def Gl(T:List Tok)(p:Nat)(b:Bool)(s:aU)(hs:s≠[])(hp:p<=2^61): ei aH 255 0 [.str s] (eM T p b) (eM T (vF T p b 4 s) (b || !(jn T p b 4 s))) (.bU []):=by
 have hn:=WE T p b s hs hp;generalize jn T p b 4 s=o at hn |-;simp only[eM]at hn;refine ei.iM (EY.go ?_) rfl (cy _ _ _);unfold dP;intro Q aJ aK aL;cases o
 ·repeat' first|refine aB ?_|refine d_ hn ?_|refine aA ?_ ?_<;>intro hw<;>try omega|fail
  refine LD rfl (cY.eqv ?_ (cy _ _ _));simp[eM]
 repeat' first|refine aB ?_|refine d_ hn ?_|refine aA ?_ ?_<;>intro hw<;>try omega|fail
 refine LD rfl (cY.eqv ?_ (cy _ _ _));simp[eM]
def rdX(T:List Tok)(l q:Nat): RS:=⟨(jo T q l).1,(jo T q l).2.1.toNat,decide ((jo T q l).2.2≠0)⟩
def j0(T:List Tok)(p:Nat)(b:Bool): RS:=s0 (rdX T) 4 p b
def YB(T:List Tok)(p:Nat): j0 T p true=⟨x0,p,true⟩:=rfl
def Vc(T:List Tok)(p:Nat): j0 T p false=rdX T 4 p:=rfl
def adE(T:List Tok){q:Nat}(hq:q<=T.length): kN T.length q (rdX T 4 q):=by
 have hg:¬ ((q:Int)<0\/(T.length:Int)<q\/((4:Nat):Int)<0\/7<((4:Nat):Int)):=ae;have g:=(uu T (8*T.length+9) none 4 q hq).1 rfl;unfold rdX jo;rw[aj hg,Int.toNat_natCast,Int.toNat_natCast];split
 ·exact⟨by simpa using g.1,by simpa using g.2.1,fun h=>by simp at h⟩
 rename_i h;exact⟨by simpa using g.1,by simpa using g.2.1,fun _=>by have:=g.2.2 (by simpa using h);simpa using this⟩
def AB(T:List Tok){q:Nat}{b:Bool}(hq:q<=T.length): kN T.length q (j0 T q b):=by
 cases b with
 | true=>exact⟨Nat.le_refl _,hq,fun h=>by cases h⟩
 | false=>exact adE T hq
def AE(T:List Tok)(p:Nat)(b:Bool)(hT:T.length<=2^50)(hs:∀ q,(T.getD q default).s.length<=2^62): ei aH 274 0 [] (eM T p b) (eM T (j0 T p b).p (j0 T p b).bad) (br (j0 T p b).x):=by
 cases b with
 | true =>
   rw[YB];generalize hE:br _=E;refine ei.iM (vE.go ?_) rfl (cy _ _ _);unfold dP;intro Q aJ aK aL;repeat' first|refine aB ?_|refine aA ?_ ?_<;>intro hw<;>try omega|fail
   exact ik (by rw[<-hE];exact si (.aV _)) (cY.refl (cy T p true))
 | false =>
   rw[Vc];have cr:=IG T p 4 hT hs;have hp0:=(WB T p 4).1;simp only[rdX];have e4:((4:Nat):Int)=4:=rfl;rw[e4];generalize jo T p 4=r at *;obtain⟨rx,rn,re⟩:=r;dsimp only at *;obtain⟨n,rfl⟩:∃ n:Nat,rn=n:=⟨rn.toNat,ae⟩;have e2:∀ σ : ai,View σ (.agg [I rx.op,I rx.v.kind,I rx.v.n,.str rx.v.s,.str rx.s,.aR false EX (rx.l.map br)]) (br rx):=fun σ=>View.eqv (bM _).symm (iI _);simp only[Pj,wH]at cr;rw[bM]at cr;generalize br rx=E at *;rw[Int.toNat_natCast];refine ei.iM (vE.go ?_) rfl (cy _ _ _);unfold dP;intro Q aJ aK aL;repeat' first|refine aB ?_|refine aA ?_ ?_<;>intro hw<;>try omega|fail
   all_goals (refine ik (e2 _) (cY.eqv ?_ (cy _ _ _));simp[eM];rw[c7];simp)
structure TS where
 t:Test
 p:Nat
 bad:Bool
deriving Inhabited
def t_(k:Int)(r:RS): TS:=⟨⟨k,r.x,x0,false,false⟩,r.p,r.bad⟩
def xR(T:List Tok)(p:Nat): RS:=j0 T (p+1) false
def xS(T:List Tok)(p:Nat): RS:=l8 T (xR T p) 4 [46,46]
def nk(T:List Tok)(p:Nat): RS:=j0 T (xS T p).p (xS T p).bad
def inH(T:List Tok)(p:Nat): Bool:=jn T (nk T p).p (nk T p).bad 4 [91]
def By(T:List Tok)(p:Nat): RS:=if inH T p then⟨x0,(nk T p).p+1,(nk T p).bad⟩else l8 T (nk T p) 4 [93]
def Pq(T:List Tok)(p:Nat)(lo:Bool): TS:=⟨⟨6,(xR T p).x,(nk T p).x,lo,inH T p⟩,(By T p).p,(By T p).bad⟩
def iB(T:List Tok)(p:Nat)(b:Bool): TS :=
 if jn T p b 4 [60]then t_ 2 (j0 T (p+1) b)
 else if jn T p b 4 [60,61]then t_ 3 (j0 T (p+1) b)
 else if jn T p b 4 [62]then t_ 4 (j0 T (p+1) b)
 else if jn T p b 4 [62,61]then t_ 5 (j0 T (p+1) b)
 else if jn T p b 4 [91]then Pq T p false
 else if jn T p b 4 [93]then Pq T p true
 else t_ 1 (j0 T p b)
def adF{k:Int}(h:2<=k)(h':k<=5): mP k≠[]:=by
 rcases(by omega:k=2\/k=3\/k=4\/k=5)with rfl|rfl|rfl|rfl<;>decide
def YC{T:List Tok}{p:Nat}{b:Bool}{k:Int}(h:2<=k)(h':k<=5)(hb:∀ j:Int,2<=j->j<k->jn T p b 4 (mP j)=false)(ho:jn T p b 4 (mP k)=true): iB T p b=t_ k (j0 T (p+1) b):=by
 have e2:mP 2=[60]:=rfl;have e3:mP 3=[60,61]:=rfl;have e4:mP 4=[62]:=rfl;have e5:mP 5=[62,61]:=rfl;unfold iB;rcases(by omega:k=2\/k=3\/k=4\/k=5)with rfl|rfl|rfl|rfl
 ·rw[e2]at ho;rw[au ho]
 ·have h2:=hb 2 ae ae;rw[e2]at h2;rw[e3]at ho;rw[aj (by simp[h2]),au ho]
 ·have h2:=hb 2 ae ae;have h3:=hb 3 ae ae;rw[e2]at h2;rw[e3]at h3;rw[e4]at ho;rw[aj (by simp[h2]),aj (by simp[h3]),au ho]
 have h2:=hb 2 ae ae;have h3:=hb 3 ae ae;have h4:=hb 4 ae ae;rw[e2]at h2;rw[e3]at h3;rw[e4]at h4;rw[e5]at ho;rw[aj (by simp[h2]),aj (by simp[h3]),aj (by simp[h4]),au ho]
def YD{T:List Tok}{p:Nat}{b:Bool}(hb:∀ j:Int,2<=j->j<6->jn T p b 4 (mP j)=false): iB T p b=if jn T p b 4 [91]then Pq T p false else if jn T p b 4 [93]then Pq T p true else t_ 1 (j0 T p b):=by
 have h2:jn T p b 4 [60]=false:=hb 2 ae ae;have h3:jn T p b 4 [60,61]=false:=hb 3 ae ae;have h4:jn T p b 4 [62]=false:=hb 4 ae ae;have h5:jn T p b 4 [62,61]=false:=hb 5 ae ae;unfold iB;rw[aj (by simp[h2]),aj (by simp[h3]),aj (by simp[h4]),aj (by simp[h5])]
def aaT{T:List Tok}{p:Nat}{r:RS}(k:Int)(h:kN T.length p r): p<=(t_ k r).p/\(t_ k r).p<=T.length:=⟨h.1,h.2.1⟩
def NS{T:List Tok}{p:Nat}(hp:p<T.length): (xR T p).p<=T.length/\(xS T p).p<=T.length/\(nk T p).p<=T.length/\(By T p).p<=T.length/\p<=(By T p).p:=by
 have g1:kN T.length (p+1) (xR T p):=AB T hp;have g2:kN T.length (p+1) (xS T p):=xh _ _ g1;have g3:kN T.length (xS T p).p (nk T p):=AB T g2.2.1
 have g4:(By T p).p<=T.length/\(nk T p).p<=(By T p).p:=by
  unfold By;split
  ·rename_i h;exact⟨(o_ h).1,Nat.le_succ _⟩
  have:=xh 4 [93] g3;refine⟨this.2.1,?_⟩;simp only[l8,vF];split<;>omega
 have:=g1.1;have:=g2.1;have:=g3.1;have m2:(xR T p).p<=(xS T p).p:=by simp only[xS,l8,vF];split<;>omega
 exact⟨g1.2.1,g2.2.1,g3.2.1,g4.1,ae⟩
def Pr{T:List Tok}{p:Nat}{b:Bool}(hp:p<=T.length): p<=(iB T p b).p/\(iB T p b).p<=T.length:=by
 have st:∀ k s,jn T p b 4 s=true->p<=(t_ k (j0 T (p+1) b)).p/\(t_ k (j0 T (p+1) b)).p<=T.length:=fun k s h=>by
  have:=AB T (q:=p+1) (b:=b) (o_ h).1;exact⟨Nat.le_of_succ_le this.1,this.2.1⟩
 unfold iB;split
 ·rename_i h;exact st _ _ h
 split
 ·rename_i h;exact st _ _ h
 split
 ·rename_i h;exact st _ _ h
 split
 ·rename_i h;exact st _ _ h
 split
 ·rename_i h;have:=NS (o_ h).1;exact⟨this.2.2.2.2,this.2.2.2.1⟩
 split
 ·rename_i h;have:=NS (o_ h).1;exact⟨this.2.2.2.2,this.2.2.2.1⟩
 exact aaT 1 (AB T hp)
def uV(T:List Tok)(p:Nat)(b:Bool)(s:aU)(o:Bool)(hs:s≠[])(hp:p<=2^61)(h:jn T p b 4 s=o): ei aH 254 0 [.str s] (eM T p b) (eM T (if o then p+1 else p) b) (.bool o):=by
 have:=WE T p b s hs hp;unfold vF at this;rw[h]at this;exact this
def aaU{σ : ai}{k:Int}{r:Expr}: View σ (.agg [I k,I r.op,I r.v.kind,I r.v.n,.str r.v.s,.str r.s,.aR false EX (r.l.map br),I 0,I 0,I 0,.str [],.str [],.aV,.bool false,.bool false]) (dV ⟨k,r,x0,false,false⟩):=by
 simp only[dV,ez];refine View.nS (.cons (.refl _ rfl) (.cons (.refl _ rfl) (.cons (.refl _ rfl) (.cons (.refl _ rfl) (.cons (.refl _ rfl) (.cons (.refl _ rfl) (.cons (.refl _ ?_) (.cons (.refl _ rfl) (.cons (.refl _ rfl) (.cons (.refl _ rfl) (.cons (.refl _ rfl) (.cons (.refl _ rfl) (.cons (.aV _) (.cons (.refl _ rfl) (.cons (.refl _ rfl) (.nil _))))))))))))))));simp
def aaV (T : List Tok) (p : Nat) (b : Bool) (hp : p <= T.length) (hT : T.length <= 2^50) (hs : ∀ q, (T.getD q default).s.length <= 2^62) :
    ei aH 253 0 [] (eM T p b) (eM T (iB T p b).p (iB T p b).bad) (dV (iB T p b).t):=by
 generalize hR:iB T p b=R;generalize hE:dV R.t=E;refine ei.iM (EZ.go ?_) rfl (cy _ _ _);unfold dP;intro Q aJ aK aL;repeat' first|refine aB ?_|refine aA ?_ ?_<;>intro hw<;>try omega|fail
 with_reducible refine bE [3,1,5,12] (fun k:Int=>[(3,I k)]) (fun _=>[.cells [.aR false ET (T.map tY),I p,.bool b],.cells [I 0,I 0,I 0,I 0,.str [],.str [],.aV,I 0,I 0,I 0,.str [],.str [],.aV,.bool false,.bool false]]) (fun k=>2<=k/\k<=6/\ ∀ j:Int,2<=j->j<k->jn T p b 4 (mP j)=false) (fun k=>(6-k).toNat) (2) ?_ ?_ ?_ ?_
 ·exact⟨ae,ae,fun j h1 h2=>by omega⟩
 ·rfl
 ·exact at_
 rintro k r ⟨h1,h2,h3⟩;by_cases hk:k<=5
 ·have xj:=Pp k;obtain⟨o,ho⟩:=cq (jn T p b 4 (mP k));have um:=uV T p b (mP k) o (adF h1 hk) ae ho;cases o with
  | false =>
    simp only[eM,aP,if_false]at um;repeat' first|refine aB ?_|refine d_ um ?_|refine aA ?_ ?_<;>intro hw<;>try omega|fail
    refine⟨k+1,?_,?_,by first|rfl|(simp[go_sem];done),da,at_⟩<;>(try dsimp only)
    ·refine⟨ae,ae,fun j OJ hj2=>?_⟩;by_cases FH:j=k
     ·subst FH;exact ho
     exact h3 j OJ ae
    omega
  | true =>
    have qQ:=o_ ho;have hce:=AE T (p+1) b hT hs;rw[YC h1 hk h3 ho]at hR;subst hR;simp only[t_]at hE aJ aK aL;generalize j0 T (p+1) b=x at *;rw[bM]at hce;simp only[eM,if_true,bI,bA]at um hce;repeat' first|simp (disch:=omega) only[go_sem,aJ,aK,aL,bI,bA]|refine aB ?_|refine d_ um ?_|refine d_ hce ?_|refine aA ?_ ?_<;>intro hw<;>try omega|fail
    exact ik (by rw[<-hE];exact aaU) (cY.refl (cy _ _ _))
 obtain rfl:k=6:=ae;rw[YD (fun j OJ hj2=>h3 j OJ hj2)]at hR;have hmk:=Gk T p b;obtain⟨o1,WA⟩:∃ o,jn T p b 4 [91]=o:=⟨_,rfl⟩;obtain⟨o2,Pf⟩:∃ o,jn T p b 4 [93]=o:=⟨_,rfl⟩;have Gm:=uV T p b [91] o1 cW ae WA;have S8:=uV T p b [93] o2 cW ae Pf;have hmo:=DK T p b [93] cW;rw[WA,Pf]at hR;rw[Pf]at hmo;have wY:=DK T p b [91] cW;rw[WA]at wY;generalize WG:wJ T p=mt at *;by_cases hin:o1=true\/o2=true
 ·have qQ : p < T.length /\ b = false := by
   rcases hin with h|h
   ·exact o_ (WA.trans h)
   exact o_ (Pf.trans h)
  obtain⟨qQ,rfl⟩:=qQ
  have Ev:R=Pq T p (decide (mt=[93])):=by
   rw[<-hR];simp only[iK,fF]at hmo wY;cases o1 with
   | true =>
     have:mt=[91]:=by simpa using wY.symm
     rw[au rfl,this];rfl
   | false =>
     rcases hin with h|h
     ·cases h
     subst h;have:mt=[93]:=by simpa using hmo.symm
     rw[aj aQ,au rfl,this];rfl
  clear hR;subst Ev;obtain⟨g1,g2,g3,g4,_⟩:=NS (T:=T) qQ;have c1:=AE T (p+1) false hT hs;have c2:=Gl T (xR T p).p (xR T p).bad [46,46] cW ae;have c3:=AE T (xS T p).p (xS T p).bad hT hs;obtain⟨o3,ho3⟩:∃ o,inH T p=o:=⟨_,rfl⟩;have c4:=uV T (nk T p).p (nk T p).bad [91] o3 cW ae ho3;have c5:=Gl T (nk T p).p (nk T p).bad [93] cW ae
  change ei _ _ _ _ _ (eM T (xR T p).p (xR T p).bad) (br (xR T p).x)at c1
  change ei _ _ _ _ _ (eM T (xS T p).p (xS T p).bad) _ at c2
  change ei _ _ _ _ _ (eM T (nk T p).p (nk T p).bad) (br (nk T p).x)at c3
  change ei _ _ _ _ _ (eM T (l8 T (nk T p) 4 [93]).p (l8 T (nk T p) 4 [93]).bad) _ at c5
  have hr4:By T p=if o3 then⟨x0,(nk T p).p+1,(nk T p).bad⟩else l8 T (nk T p) 4 [93]:=by rw[<-ho3];rfl
  have aio:Pq T p (decide (mt=[93]))=⟨⟨6,(xR T p).x,(nk T p).x,decide (mt=[93]),o3⟩,(By T p).p,(By T p).bad⟩:=by rw[<-ho3];rfl
  rw[aio]at hE aJ aK aL;rw[hr4]at aJ aK aL;clear hr4 aio ho3 WA Pf g1 g2 g4;generalize l8 T (nk T p) 4 [93]=r5 at *;generalize xR T p=r1 at *;generalize xS T p=r2 at *;generalize nk T p=r3 at *;rw[bM]at c1 c3;simp only[dV,ez]at hE;simp only[eM]at hmk
  have fin:∀ σ : ai,View σ (.agg [I 6,I r1.x.op,I r1.x.v.kind,I r1.x.v.n,.str r1.x.v.s,.str r1.x.s,.aR false EX (r1.x.l.map br),I r3.x.op,I r3.x.v.kind,I r3.x.v.n,.str r3.x.v.s,.str r3.x.s,.aR false EX (r3.x.l.map br),.bool (mt==[93]),.bool o3]) E:=fun σ=>by
   rw[<-hE,show decide (mt=[93])=(mt==[93]) from by rw[c7];simp];exact View.eqv rfl aQ
  clear hE;have hne:mt==[93]↔mt=[93]:=aQ;cases o1 with
  | true =>
    simp only[eM,if_true,bI,bA]at Gm c1 c2 c3 c4 c5;cases o3 with
    | true =>
      simp only[if_true]at c4 fin aJ aK aL;repeat' first|simp (disch:=omega) only[go_sem,aJ,aK,aL,bI,bA]|refine aB ?_|refine d_ hmk ?_|refine d_ Gm ?_|refine d_ c1 ?_|refine d_ c2 ?_|refine d_ c3 ?_|refine d_ c4 ?_|refine aA ?_ ?_<;>intro hw<;>try omega|fail
      exact ik (fin _) (cY.eqv (by simp[eM]) (cy _ _ _))
    | false =>
      simp only[aP,if_false]at c4 fin aJ aK aL;repeat' first|simp (disch:=omega) only[go_sem,aJ,aK,aL,bI,bA]|refine aB ?_|refine d_ hmk ?_|refine d_ Gm ?_|refine d_ c1 ?_|refine d_ c2 ?_|refine d_ c3 ?_|refine d_ c4 ?_|refine d_ c5 ?_|refine aA ?_ ?_<;>intro hw<;>try omega|fail
      exact ik (fin _) (cY.eqv (by simp[eM]) (cy _ _ _))
  | false =>
    have amF:o2=true:=by rcases hin with h|h<;>first|(cases h;done)|exact h
    subst amF;simp only[eM,if_true,aP,if_false,bI,bA]at Gm S8 c1 c2 c3 c4 c5;cases o3 with
    | true =>
      simp only[if_true]at c4 fin aJ aK aL;repeat' first|simp (disch:=omega) only[go_sem,aJ,aK,aL,bI,bA]|refine aB ?_|refine d_ hmk ?_|refine d_ Gm ?_|refine d_ S8 ?_|refine d_ c1 ?_|refine d_ c2 ?_|refine d_ c3 ?_|refine d_ c4 ?_|refine aA ?_ ?_<;>intro hw<;>try omega|fail
      exact ik (fin _) (cY.eqv (by simp[eM]) (cy _ _ _))
    | false =>
      simp only[aP,if_false]at c4 fin aJ aK aL;repeat' first|simp (disch:=omega) only[go_sem,aJ,aK,aL,bI,bA]|refine aB ?_|refine d_ hmk ?_|refine d_ Gm ?_|refine d_ S8 ?_|refine d_ c1 ?_|refine d_ c2 ?_|refine d_ c3 ?_|refine d_ c4 ?_|refine d_ c5 ?_|refine aA ?_ ?_<;>intro hw<;>try omega|fail
      exact ik (fin _) (cY.eqv (by simp[eM]) (cy _ _ _))
 obtain⟨rfl,rfl⟩:o1=false/\o2=false:=⟨by cases o1 with|false=>rfl|true=>exact absurd (.inl rfl) hin,by cases o2 with|false=>rfl|true=>exact absurd (.inr rfl) hin⟩;simp only[aP,if_false]at hR;subst hR;have c1:=AE T p b hT hs;simp only[t_]at hE aJ aK aL;generalize j0 T p b=x at *;rw[bM]at c1;simp only[eM,aP,if_false]at Gm S8 c1 hmk;repeat' first|refine aB ?_|refine d_ hmk ?_|refine d_ Gm ?_|refine d_ S8 ?_|refine d_ c1 ?_|refine aA ?_ ?_<;>intro hw<;>try omega|fail
 exact ik (by rw[<-hE];exact aaU) (cY.refl (cy _ _ _))
def aip: aU:=[110,111,116]
def sI(T:List Tok): Bool:=decide (1<T.length) && (qo T 0 1 aip && qo T 1 4 [40])
def adG(T:List Tok): aS aH 252 [wH T] (.bool (sI T)):=by
 refine a_ UQ ?_;intro Q aJ aK aL;repeat' first|refine aB ?_|refine aA ?_ ?_<;>intro hw<;>try omega|fail
 all_goals (refine aZ ?_ rfl;refine aW AV.bool ?_;rw[c7];simp_all[sI,qo,aip])
 all_goals (try omega)
 all_goals (exact⟨fun h=>⟨ae,ae,ae,h⟩,fun h=>h.2.2.2⟩)
structure CS where
 ts:List Test
 p:Nat
 bad:Bool
deriving Inhabited
def s4(T:List Tok): Nat->List Test->Nat->Bool->CS
 | 0,acc,p,b=>⟨acc,p,b⟩
 | f+1,acc,p,b=>if jn T (iB T p b).p (iB T p b).bad 4 [44]then s4 T f (acc++[(iB T p b).t]) ((iB T p b).p+1) (iB T p b).bad else⟨acc++[(iB T p b).t],(iB T p b).p,(iB T p b).bad⟩
def wK(T:List Tok)(f:Nat)(acc:List Test)(p:Nat)(b:Bool): s4 T (f+1) acc p b=if jn T (iB T p b).p (iB T p b).bad 4 [44]then s4 T f (acc++[(iB T p b).t]) ((iB T p b).p+1) (iB T p b).bad else⟨acc++[(iB T p b).t],(iB T p b).p,(iB T p b).bad⟩:=rfl
def YE{T:List Tok}(f:Nat): ∀(acc:List Test) (p:Nat) (b:Bool),p<=T.length->(s4 T f acc p b).p<=T.length:=by
 induction f with
 | zero=>intro acc p b hp;exact hp
 | succ f ih =>
   intro acc p b hp;rw[wK];split
   ·rename_i h;exact ih _ _ _ (o_ h).1
   exact(Pr hp).2
def J7(T:List Tok)(n:Bool)(c:CS): CS:=if n then⟨c.ts,vF T c.p c.bad 4 [41],c.bad || !(jn T c.p c.bad 4 [41])⟩else c
def WH(T:List Tok): Nat:=if sI T then 2 else 0
def lf(T:List Tok): CS:=J7 T (sI T) (s4 T (T.length+1) [] (WH T) false)
def aaW(T:List Tok): WH T<=T.length:=by
 unfold WH;split
 ·rename_i h;simp only[sI,aD,aM]at h;omega
 exact ew _
def stC(T:List Tok)(n:Bool)(p:Nat)(b:Bool): List Test->ai
 | []=>[.cells (eM T p b),.cells [.bool false,.bool false,.aV],.cells [.bool false,.bool n,.aV]]
 | t::acc=>[.cells (eM T p b),.cells [.bool false,.bool false,.aV],.cells [.bool false,.bool n,.own ES 3 (acc.length+1) 0 (acc.length+1)],.vec ES (dV t::acc.map dV)]
structure Lc where
 acc:List Test
 p:Nat
 b:Bool
 f:Nat
def WI(T:List Tok)(n:Bool)(p:Nat)(b:Bool): stC T n p b []=[.cells [.aR false ET (T.map tY),I p,.bool b],.cells [.bool false,.bool false,.aV],.cells [.bool false,.bool n,.aV]]:=rfl
def S9(T:List Tok)(n:Bool)(p:Nat)(b:Bool)(t:Test)(acc:List Test): stC T n p b (t::acc)=[.cells [.aR false ET (T.map tY),I p,.bool b],.cells [.bool false,.bool false,.aV],.cells [.bool false,.bool n,.own ES 3 (acc.length+1) 0 (acc.length+1)],.vec ES (dV t::acc.map dV)]:=rfl
def adH(T:List Tok)(n:Bool)(p:Nat)(b:Bool)(acc:List Test)(t:Test): stC T n p b (acc++[t])=[.cells (eM T p b),.cells [.bool false,.bool false,.aV],.cells [.bool false,.bool n,.own ES 3 (acc.length+1) 0 (acc.length+1)],.vec ES (acc.map dV++[dV t])]:=by
 cases acc with
 | nil=>rfl
 | cons x acc=>simp[stC]
def aaX{σ : ai}{n:Bool}{ts:List Test}{k:Nat}(hk:k=ts.length)(h : σ[3]? = some (.vec ES (ts.map dV))): View σ (.agg [.bool false,.bool n,.own ES 3 k 0 k]) (er ⟨false,n,ts⟩):=by
 subst hk;exact View.nS (.cons (.refl _ rfl) (.cons (.refl _ rfl) (.cons (View.vec h aQ aQ (O_ _)) (.nil _))))
def aaY (T : List Tok) (hT : T.length <= 2^30) (hs : ∀ q, (T.getD q default).s.length <= 2^62) :
    ei aH 221 0 [] (eM T 0 false) (eM T (lf T).p (lf T).bad) (er ⟨false,sI T,(lf T).ts⟩):=by
 have hn:=adG T;have hp0:=aaW T;have e0:WH T=if sI T then 2 else 0:=rfl
 generalize hR:lf T=R;unfold lf at hR;generalize sI T=n at *;generalize hE:er _=E;simp only[wH]at hn
 have fin:∀ (σ : ai) (k:Nat) (ts:List Test),R.ts=ts->k=ts.length->σ[3]? = some (.vec ES (ts.map dV))->View σ (.agg [.bool false,.bool n,.own ES 3 k 0 k]) E:=fun σ k ts h1 h2 h3=>by
  rw[<-hE,h1];exact aaX h2 h3
 clear hE;refine ei.iM (EW.go ?_) rfl (cy _ _ _);unfold dP;intro Q aJ aK aL;cases n
 all_goals
  simp only[aP,if_false,if_true]at e0;rw[e0]at hR hp0;repeat' first|refine aB ?_|refine aA ?_ ?_<;>intro hw<;>try omega|fail
  with_reducible refine bE [17,10] (fun x:Lc=>([]:List (Nat × AV))) (fun x=>stC T _ x.p x.b x.acc) (fun x=>x.p<=T.length/\x.acc.length+x.f=T.length+1/\T.length+1<=x.f+x.p/\J7 T _ (s4 T x.f x.acc x.p x.b)=R) (fun x=>x.f) ⟨[],_,false,T.length+1⟩ ⟨?_,?_,?_,hR⟩ rfl ?_ ?_
  ·dsimp only;omega
  ·dsimp only;simp
  ·dsimp only;omega
  ·exact at_
  rintro⟨acc,p,b,f⟩ r ⟨h1,h2,h3,h4⟩;dsimp only at h1 h2 h3 h4;obtain⟨f,rfl⟩:∃ g,f=g+1:=⟨f-1,ae⟩;rw[wK]at h4;have ct:=aaV T p b h1 ae hs;have gt:=Pr (T:=T) (b:=b) h1;generalize iB T p b=x at *;obtain⟨xt,xp,xb⟩:=x;dsimp only at ct gt h4;obtain⟨o,ho⟩:=cq (jn T xp xb 4 [44]);have WJ:=uV T xp xb [44] o cW ae ho;have mY:=fun n' p' b'=>adH T n' p' b' acc xt;simp only[dV,ez]at ct;rw[ho]at h4;cases o with
  | true =>
    have hlt:=(o_ ho).1;rw[au rfl]at h4;simp only[eM,if_true,bI,bA]at ct WJ;cases acc with
    | nil =>
      simp only[bt]at h2;rw[WI T _ p b];repeat' first|simp (disch:=omega) only[go_sem,aJ,aK,aL,bI,bA]|refine aB ?_|refine d_ ct ?_|refine d_ WJ ?_|refine aA ?_ ?_<;>intro hw<;>try omega|fail
      refine⟨⟨[xt],xp+1,xb,f⟩,?_,?_,?_,da,at_⟩<;>(try dsimp only)
      ·exact⟨ae,by simp only[aO,bt];omega,ae,h4⟩
      ·omega
      rfl
    | cons t0 acc =>
      simp only[aO]at h2;rw[S9 T _ p b];repeat' first|simp (disch:=omega) only[go_sem,aJ,aK,aL,bI,bA]|refine aB ?_|refine d_ ct ?_|refine d_ WJ ?_|refine aA ?_ ?_<;>intro hw<;>try omega|fail
      refine⟨⟨t0::acc++[xt],xp+1,xb,f⟩,?_,?_,?_,da,at_⟩<;>(try dsimp only)
      ·exact⟨ae,by simp only[aO,aC,bt];omega,ae,h4⟩
      ·omega
      rw[mY];simp[eM,dV,ez]
  | false =>
    rw[aj aQ]at h4;simp only[eM,aP,if_false]at ct WJ;have cm:=Gl T xp xb [41] cW ae;simp only[J7,aP,if_false,if_true]at h4;subst h4;dsimp only at fin aJ aK aL cm;generalize vF T xp xb 4 [41]=p9 at *;generalize (xb || !(jn T xp xb 4 [41]))=b9 at *;simp only[eM]at cm;cases acc with
    | nil =>
      simp only[bt]at h2;rw[WI T _ p b];repeat' first|refine aB ?_|refine d_ ct ?_|refine d_ WJ ?_|refine d_ cm ?_|refine aA ?_ ?_<;>intro hw<;>try omega|fail
      exact ik (fin _ _ _ rfl rfl rfl) (cY.eqv rfl (cy _ _ _))
    | cons t0 acc =>
      simp only[aO]at h2;rw[S9 T _ p b];repeat' first|refine aB ?_|refine d_ ct ?_|refine d_ WJ ?_|refine d_ cm ?_|refine aA ?_ ?_<;>intro hw<;>try omega|fail
      exact ik (fin _ _ _ rfl aQ (by simp[dV,ez])) (cY.eqv rfl (cy _ _ _))
def Bz(T:List Tok): Prop:= ∀ q,(T.getD q default).s.length<=2^62/\ -9223372036854775808<=(T.getD q default).n/\(T.getD q default).n<=9223372036854775807
def s5: jj x0:=by simp[x0,jj,IE,v0]
def L7{op:Int}{l:List Expr}(h:IE l): jj (.mk op v0 [] l):=by simp[jj,v0,h]
def aaZ{rd:Nat->Nat->RS}{l q:Nat}{b:Bool}(h:∀ l q,jj (rd l q).x): jj (s0 rd l q b).x:=by
 unfold s0;split
 ·exact s5
 exact h _ _
def adI{s:aU}{v:aX}(h:Ay s=some v): v.s=[]/\0<=v.n/\v.n<=1:=by
 unfold Ay at h;split at h
 ·cases h;exact⟨rfl,cW,cW⟩
 split at h
 ·cases h;exact⟨rfl,cW,cW⟩
 split at h
 ·cases h;exact⟨rfl,cW,cW⟩
 ·cases h
def agn{T:List Tok}(hT:Bz T){rd:Nat->Nat->RS}(h:∀ l q,jj (rd l q).x)(p:Nat): jj (pP rd T p).x:=by
 have hp:=hT p;unfold pP;split
 ·exact h 0 (p+1)
 split
 ·simp[Bx,jj,IE];exact hp.2
 split
 ·simp[Bx,jj,IE];exact hp.1
 split
 ·split
  ·rename_i v hv;have:=adI hv;simp[Bx,jj,IE,this.1];omega
  split
  ·simp[jj,IE,v0];exact hp.1
  exact s5
 exact s5
def akn{T:List Tok}(hT:Bz T)(f:Nat): ∀(m:Option Expr) (lvl p:Nat),(∀ x,m=some x->jj x)->jj (dM T f m lvl p).x:=by
 induction f with
 | zero=>intro m lvl p _;exact s5
 | succ f ih =>
   intro m lvl p hm;have h:∀ l q,jj (dM T f none l q).x:=fun l q=>ih none l q (fun x hx=>by cases hx);cases m with
   | none =>
     simp only[dM];split
     ·split
      ·exact L7 ⟨h _ _,aaZ (rd:=fun l q=>dM T f none l q) h,aaZ (rd:=fun l q=>dM T f none l q) h,trivial⟩
      exact h _ _
     split
     ·exact L7 ⟨h _ _,trivial⟩
     split
     ·exact agn hT h p
     split
     ·exact h _ _
     exact ih _ _ _ (fun x hx=>by cases hx;exact h _ _)
   | some x =>
     simp only[dM];split
     ·exact hm x rfl
     split
     ·exact L7 ⟨hm x rfl,h _ _,trivial⟩
     exact ih _ _ _ (fun y hy=>by cases hy;exact L7 ⟨hm x rfl,h _ _,trivial⟩)
def S_{T:List Tok}(hT:Bz T)(fr lvl:Int): jj (jo T fr lvl).1:=by
 unfold jo;split
 ·exact s5
 split
 ·exact s5
 exact akn hT _ _ _ _ (fun x hx=>by cases hx)
def YF(s:aU): (∀ c ∈ s,ic c=true)-> ∀ v:Int,0<=v->v<=9223372036854775807-> ∀ n,vX s v=some n->0<=n/\n<=9223372036854775807:=by
 induction s with
 | nil=>intro _ v h1 h2 n h;simp only[vX]at h;cases h;exact⟨h1,h2⟩
 | cons c r ih =>
   intro hd v h1 h2 n h;have hc:=hd c aQ;simp only[ic,aD,aM]at hc;simp only[vX]at h;split at h
   ·cases h
   exact ih (fun c hc=>hd c (dz _ hc)) _ ae ae n h
def QW{p:UInt8->Bool}(s:aU): ∀ c ∈ s.takeWhile p,p c=true:=by
 induction s with
 | nil=>intro c h;cases h
 | cons x r ih =>
   intro c h;rw[iw]at h;split at h
   ·rename_i hx;rcases List.mem_cons.1 h with rfl|h
    ·exact hx
    exact ih c h
   ·cases h
def aiq(s:aU): 0<=(kM s).n/\(kM s).n<=9223372036854775807:=by
 have e:∀ k,0<=(PR.err k).n/\(PR.err k).n<=9223372036854775807:=fun k=>by simp[PR.err]
 unfold kM;simp only;split
 ·unfold HG;split
  ·exact e _
  exact⟨aQ,aQ⟩
 split
 ·unfold qG;simp only;split
  ·exact e _
  split
  ·exact e _
  rename_i v hv;exact YF _ (QW s) 0 ae ae v hv
 split
 ·have : ∀ (r b : aU) (i : Nat), 0 <= (mN r b i).n /\ (mN r b i).n <= 9223372036854775807 := fun r b i => by
   fun_induction mN r b i<;>first|exact e _|assumption|exact⟨aQ,aQ⟩
  exact this _ _ _
 unfold yy;split
 ·exact⟨aQ,aQ⟩
 exact e _
def air(f:Nat): ∀(s:aU) (pos:Nat) (acc:List Tok),(∀ t ∈ acc,0<=t.n/\t.n<=9223372036854775807)-> ∀ t ∈ (tZ f s pos acc).1,0<=t.n/\t.n<=9223372036854775807:=by
 induction f with
 | zero=>intro s pos acc h;exact h
 | succ f ih =>
   intro s pos acc h;cases s with
   | nil=>exact h
   | cons c r =>
     rw[w_];split
     ·exact ih r (pos+1) acc h
     split
     ·refine ih _ _ _ (fun t ht=>?_);rcases List.mem_append.1 ht with ht|ht
      ·exact h t ht
      simp only[gj,fO,or_false]at ht;subst ht;exact aiq _
     intro t ht;cases ht
def HL(s:aU): Bz (dU s).1:=by
 intro q;have h1:=(sj s).2 q
 have h2:∀ t ∈ (dU s).1,0<=t.n/\t.n<=9223372036854775807:=by
  unfold dU;split
  ·intro t ht;cases ht
  exact air _ _ _ _ (fun t ht=>by cases ht)
 refine⟨ae,?_⟩;by_cases hq:q<(dU s).1.length
 ·have:=h2 _ (bq hq);omega
 rw[rC ae];decide
def DL{T:List Tok}(hT:Bz T)(p:Nat)(b:Bool): jj (j0 T p b).x/\gV (j0 T p b).x<=1+4*T.length:=by
 unfold j0 s0;split
 ·exact⟨s5,by simp[x0,gV,nF]⟩
 exact⟨S_ hT _ _,J6 T _ _⟩
def adJ{T:List Tok}(hT:Bz T)(hl:T.length<=2^50)(p:Nat)(b:Bool): L6 (iB T p b).t:=by
 have hx:∀ p b,jj (j0 T p b).x/\gV (j0 T p b).x<=2^60:=fun p b=>⟨(DL hT p b).1,by have:=(DL hT p b).2;omega⟩;have h0:jj x0/\gV x0<=2^60:=⟨s5,aaS⟩;have h1:∀ k p b,L6 (t_ k (j0 T p b)).t:=fun k p b=>⟨hx p b,h0⟩;have h2:∀ lo,L6 (Pq T p lo).t:=fun lo=>⟨hx _ _,hx _ _⟩;unfold iB;split
 ·exact h1 _ _ _
 split
 ·exact h1 _ _ _
 split
 ·exact h1 _ _ _
 split
 ·exact h1 _ _ _
 split
 ·exact h2 _
 split
 ·exact h2 _
 exact h1 _ _ _
def adK{T:List Tok}(hT:Bz T)(hl:T.length<=2^50)(f:Nat): ∀(acc:List Test) (p:Nat) (b:Bool),(∀ t ∈ acc,L6 t)->(∀ t ∈ (s4 T f acc p b).ts,L6 t)/\(s4 T f acc p b).ts.length<=acc.length+f:=by
 induction f with
 | zero=>intro acc p b h;exact⟨h,bg _⟩
 | succ f ih =>
   intro acc p b h
   have h2:∀ t ∈ acc++[(iB T p b).t],L6 t:=fun t ht=>by
    rcases List.mem_append.1 ht with ht|ht
    ·exact h t ht
    simp only[gj,fO,or_false]at ht;subst ht;exact adJ hT hl p b
   rw[wK];split
   ·have:=ih _ ((iB T p b).p+1) (iB T p b).bad h2;rw[aC,aO,bt]at this;exact⟨this.1,ae⟩
   exact⟨h2,by rw[aC,aO,bt];omega⟩
def WK(T:List Tok)(n:Bool)(c:CS): (J7 T n c).ts=c.ts:=by unfold J7;split<;>rfl
def Ta{T:List Tok}(hT:Bz T)(hl:T.length<=2^50): Po ⟨false,sI T,(lf T).ts⟩:=by
 have:=adK hT hl (T.length+1) [] (WH T) false (fun t ht=>by cases ht);unfold lf Po;rw[WK];exact⟨by have:=this.2;simp only[List.length_nil]at this;dsimp only;omega,this.1⟩
def ais{T:List Tok}{n:Bool}{c:CS}(h:c.p<=T.length): (J7 T n c).p<=T.length:=by
 unfold J7;split
 ·dsimp only[vF];split
  ·rename_i h;exact(o_ h).1
  exact h
 exact h
def ago(T:List Tok): (lf T).p<=T.length:=ais (YE _ _ _ _ (aaW T))
def c0: Cell:=⟨false,false,[]⟩
def J8: Cell:=⟨true,false,[]⟩
def mz(s:aU): Cell × Int × Int :=
 if(dU s).2.2≠0 then(c0,(dU s).2.1,(dU s).2.2)
 else if(dU s).1.length=1/\jn (dU s).1 0 false 4 [45]=true then(J8,0,0)
 else if(lf (dU s).1).p<(dU s).1.length then(c0,((dU s).1.getD (lf (dU s).1).p default).pos,11)
 else if(lf (dU s).1).bad=true then(c0,s.length,11)
 else if 12<(lf (dU s).1).ts.length then(c0,0,24)
 else if jH ⟨false,sI (dU s).1,(lf (dU s).1).ts⟩=false then(c0,0,12)
 else(⟨false,sI (dU s).1,(lf (dU s).1).ts⟩,0,0)
def eC3(r:Cell × Int × Int): AV:= .bU [er r.1,I r.2.1,I r.2.2]
def aa0(s:aU): Po (mz s).1:=by
 have h:=Ta (HL s) (by have:=(sj s).1;omega);have h0:Po c0:=⟨Nat.zero_le _,fun t ht=>by cases ht⟩;have h1:Po J8:=⟨Nat.zero_le _,fun t ht=>by cases ht⟩;unfold mz;repeat' split
 all_goals first|exact h0|exact h1|exact h
def agp{σ : ai}: View σ (.agg [.bool false,.bool false,.aV]) (er c0):=View.nS (.cons (.refl _ rfl) (.cons (.refl _ rfl) (.cons (.aV _) (.nil _))))
def aa1{σ : ai}: View σ (.agg [.bool true,.bool false,.aV]) (er J8):=View.nS (.cons (.refl _ rfl) (.cons (.refl _ rfl) (.cons (.aV _) (.nil _))))
def ait(T:List Tok)(p:Nat): jn T p false 4 [45]=(wJ T p==[45]):=by
 rw[DK T p false [45] cW,c7];simp
def YG(s:aU)(hs:s.length<=2^30): aS aH 182 [.str s] (eC3 (mz s)):=by
 have cl:=Ww s hs;obtain⟨f1,f2⟩:=sj s;have cm:=Gk (dU s).1 0 false;have cr:=aaY (dU s).1 ae (fun q=>by have:=f2 q;omega);have hok:=Ta (HL s) ae;have cc:=yz _ hok;have hp1:=ago (dU s).1;have hd:=ait (dU s).1 0
 have hP:mz s=if(dU s).2.2≠0 then(c0,(dU s).2.1,(dU s).2.2)
  else if(dU s).1.length=1/\jn (dU s).1 0 false 4 [45]=true then(J8,0,0)
  else if(lf (dU s).1).p<(dU s).1.length then(c0,((dU s).1.getD (lf (dU s).1).p default).pos,11)
  else if(lf (dU s).1).bad=true then(c0,(s.length:Int),11)
  else if 12<(lf (dU s).1).ts.length then(c0,0,24)
  else if jH ⟨false,sI (dU s).1,(lf (dU s).1).ts⟩=false then(c0,0,12)
  else(⟨false,sI (dU s).1,(lf (dU s).1).ts⟩,0,0):=rfl
 rw[hP,hd];clear hP f2 hd hok;generalize jH ⟨false,sI (dU s).1,(lf (dU s).1).ts⟩=rb at *;generalize lf (dU s).1=r at *;generalize wJ (dU s).1 0=mt at *;generalize sI (dU s).1=n at *;generalize dU s=L at *;obtain⟨T,la,le⟩:=L;obtain⟨rts,rp,aiu⟩:=r;dsimp only at *;simp only[eC3]at |-;simp only[Yn,wH]at cl;simp only[eM,bA]at cm cr;simp only[er,jr]at cr cc;have e1:∀ σ : ai,View σ (.agg [.bool false,.bool false,.aV]) (er c0):=fun σ=>agp;have e2:∀ σ : ai,View σ (.agg [.bool true,.bool false,.aV]) (er J8):=fun σ=>aa1;have e3:∀ σ : ai,View σ (.agg [.bool false,.bool n,.aR false ES (rts.map dV)]) (er ⟨false,n,rts⟩):=fun σ=>View.eqv rfl (Au _);by_cases h1:le≠0
 ·rw[au h1];generalize er c0=E at *;refine a_ mX ?_;intro Q aJ aK aL;repeat' first|refine aB ?_|refine aA ?_ ?_<;>intro hw<;>try omega|fail
  all_goals exact gW (oS (e1 _))
 rw[aj h1];by_cases h2:T.length=1/\(mt==[45])=true
 ·rw[au h2];generalize er J8=E2 at *;obtain⟨h2,h3⟩:=h2;refine a_ mX ?_;intro Q aJ aK aL;repeat' first|refine cz (zA h2 h3) ?_|refine aB ?_|refine d_ cm ?_|refine aA ?_ ?_<;>intro hw<;>try omega|fail
  all_goals first|exact gW (oS (e2 _))|exact bJ
 rw[aj h2];by_cases h4:rp<T.length
 ·rw[au h4];generalize er c0=E at *;refine a_ mX ?_;intro Q aJ aK aL;repeat' first|refine aB ?_|refine d_ cm ?_|refine d_ cr ?_|refine aA ?_ ?_<;>intro hw<;>try omega|fail
  all_goals first|exact gW (oS (e1 _))|exact bJ
 rw[aj h4];by_cases h5:aiu=true
 ·rw[au h5];subst h5;generalize er c0=E at *;refine a_ mX ?_;intro Q aJ aK aL;repeat' first|refine aB ?_|refine d_ cm ?_|refine d_ cr ?_|refine aA ?_ ?_<;>intro hw<;>try omega|fail
  all_goals first|exact gW (oS (e1 _))|exact bJ
 rw[aj h5];obtain rfl:aiu=false:=by simpa using h5
 by_cases h6:12<rts.length
 ·rw[au h6];generalize er c0=E at *;refine a_ mX ?_;intro Q aJ aK aL;repeat' first|refine aB ?_|refine d_ cm ?_|refine d_ cr ?_|refine aA ?_ ?_<;>intro hw<;>try omega|fail
  all_goals first|exact gW (oS (e1 _))|exact bJ
 rw[aj h6];cases rb with
 | false =>
   rw[au rfl];generalize er c0=E at *;simp only[ji,aP,if_false]at cc;refine a_ mX ?_;intro Q aJ aK aL;repeat' first|refine aB ?_|refine d_ cm ?_|refine d_ cr ?_|refine aA ?_ ?_<;>intro hw<;>try omega|fail
   all_goals first|exact gW (oS (e1 _))|exact bJ
 | true =>
   rw[aj aQ];generalize er ⟨false,n,rts⟩=E3 at *;simp only[ji,if_true]at cc;refine a_ mX ?_;intro Q aJ aK aL;repeat' first|refine aB ?_|refine d_ cm ?_|refine d_ cr ?_|refine aA ?_ ?_<;>intro hw<;>try omega|fail
   all_goals first|exact gW (oS (e3 _))|exact bJ
structure Lp2 where
 t:Test
 acc:List Test
 p:Nat
 b:Bool
 f:Nat
def oT(t:Test)(a b:Int): Bool:=cK a b && (decide (t.kind=1) ||(decide (a≠3) && decide (b≠3)))
def Gn(t:Test)(a b:Int): aS aH 223 [dV t,I a,I b] (.bool (oT t a b)):=by
 have hf:=oM a b;have hS:oT t a b=(cK a b && (decide (t.kind=1) ||(decide (a≠3) && decide (b≠3)))):=rfl;rw[hS];generalize cK a b=f at *;simp only[dV,ez];refine a_ Sj ?_;intro Q aJ aK aL;repeat' first|refine aB ?_|refine aA ?_ ?_<;>intro hw<;>try omega|fail
 all_goals (refine aZ ?_ rfl;refine aW AV.bool ?_;rw[c7];simp_all)
def qt(t:Test): List Expr:=if t.kind=6 then [t.a,t.b]else [t.a]
def L8(t:Test): aS aH 222 [dV t] (ez (qt t)):=by
 have h1:∀ σ : ai,View σ (.aR true EX [.agg [I t.a.op,I t.a.v.kind,I t.a.v.n,.str t.a.v.s,.str t.a.s,.aR false EX (t.a.l.map br)]]) (ez [t.a]):=fun σ=>by
  rw[ez,bB,de,bM];exact View.weak _ _ _ aQ
 have h2:∀ σ : ai,View σ (.aR true EX [.agg [I t.a.op,I t.a.v.kind,I t.a.v.n,.str t.a.v.s,.str t.a.s,.aR false EX (t.a.l.map br)],.agg [I t.b.op,I t.b.v.kind,I t.b.v.n,.str t.b.v.s,.str t.b.s,.aR false EX (t.b.l.map br)]]) (ez [t.a,t.b]):=fun σ=>by
  rw[ez,bB,bB,de,bM,bM];exact View.weak _ _ _ aQ
 unfold qt;by_cases h6:t.kind=6
 ·rw[au h6];generalize ez [t.a,t.b]=E at *;simp only[dV,ez];refine a_ Ey ?_;intro Q aJ aK aL;repeat' first|refine cz h6 ?_|refine aB ?_|refine aA ?_ ?_<;>intro hw<;>try omega|fail
  all_goals exact Ao (h2 _)
 rw[aj h6];generalize ez [t.a]=E at *;simp only[dV,ez];refine a_ Ey ?_;intro Q aJ aK aL;repeat' first|refine aB ?_|refine aA ?_ ?_<;>intro hw<;>try omega|fail
 all_goals exact Ao (h1 _)
def jU(cs:List cV)(x:Expr): Int × Int:=if ef x then jZ cs x else(0,2)
def zu(cs:List cV)(hcs:cs.length<=2^60)(x:Expr)(hx:jj x)(hz:gV x<=2^60): aS aH 185 [br x,b_ cs] (.bU [I (jU cs x).1,I (jU cs x).2]):=by
 have:=Vb cs hcs x hx hz;unfold jU;cases hr:ef x<;>simpa[hr]using this
def DM(cs:List cV)(kind:Int)(t:Test): Int :=
 if(jU cs t.a).2≠0 then(jU cs t.a).2
 else if t.kind=6 then(if(jU cs t.b).2≠0 then(jU cs t.b).2 else if oT t kind (jU cs t.a).1 && oT t kind (jU cs t.b).1 then 0 else 14)
 else if oT t kind (jU cs t.a).1 then 0 else 14
def BA(cs:List cV)(kind:Int)(c:Cell): Int:=if jH c then(match c.tests.find? (fun t=>DM cs kind t != 0)with
 | some t=>DM cs kind t
 | none=>0)else 2
def agq{cs:List cV}{kind:Int}{c:Cell}{i:Nat}{e:Int}(hr:jH c=true)(hi:i<c.tests.length)(h:∀ k,k<i->(DM cs kind (c.tests.getD k default) != 0)=false)(he:DM cs kind (c.tests.getD i default)=e)(hne:e≠0): BA cs kind c=e:=by
 unfold BA;rw[au hr,yO (p:=fun t=>DM cs kind t != 0) hi h (by rw[he];simpa using hne)];exact he
def adL{cs:List cV}{kind:Int}{c:Cell}(hr:jH c=true)(h:∀ k,k<c.tests.length->(DM cs kind (c.tests.getD k default) != 0)=false): BA cs kind c=0:=by
 unfold BA;rw[au hr,wc (p:=fun t=>DM cs kind t != 0) h]
def YH(cs:List cV)(hcs:cs.length<=2^60)(kind:Int)(c:Cell)(h:Po c): aS aH 183 [er c,I kind,b_ cs] (I (BA cs kind c)):=by
 have hR:=yz c h;obtain⟨hl,ht⟩:=h;cases hr:jH c with
 | false =>
   rw[show BA cs kind c=2 from by unfold BA;rw[if_neg (by simp[hr])]];rw[hr]at hR;simp only[ji,aP,if_false]at hR;simp only[er,jr,b_]at hR |-;refine a_ Ex ?_;intro Q aJ aK aL;repeat' first|refine aB ?_|refine aA ?_ ?_<;>intro hw<;>try omega|fail
   exact aZ rfl rfl
 | true =>
   rw[hr]at hR;simp only[ji,if_true]at hR;simp only[er,jr,b_]at hR |-;refine a_ Ex ?_;intro Q aJ aK aL;repeat' first|refine aB ?_|refine aA ?_ ?_<;>intro hw<;>try omega|fail
   with_reducible refine bE [6,1,9,2,12,3,23,31] (fun q:Nat × List aY=>[(23,I q.1)]) (fun q=> .cells [.bool c.any,.bool c.neg,.aR false ES (c.tests.map dV)]::q.2) (fun q=>q.1<=c.tests.length/\ ∀ k,k<q.1->(DM cs kind (c.tests.getD k default) != 0)=false) (fun q=>c.tests.length-q.1) (0,[]) ?_ ?_ ?_ ?_
   ·simp
   ·rfl
   ·exact at_
   rintro⟨i,τ⟩ r ⟨h1,h2⟩;dsimp only at h1 h2;by_cases hi:i<c.tests.length
   ·have Ae:=ht _ (bq hi);have hat:=fun e he hne=>agq (cs:=cs) (kind:=kind) (e:=e) hr hi h2 he hne;have dR:=fun he=>cj h2 (i:=i) he;obtain⟨t,J9⟩:=cq (c.tests.getD i default);rw[J9]at Ae hat dR;have ka:=zu cs hcs t.a Ae.1.1 Ae.1.2;have kb:=zu cs hcs t.b Ae.2.1 Ae.2.2;have fa:=Gn t kind (jU cs t.a).1;have fb:=Gn t kind (jU cs t.b).1;have hp:=L8 t;simp only[DM]at hat dR;generalize oT t kind (jU cs t.a).1=va at *;generalize oT t kind (jU cs t.b).1=vb at *;generalize jU cs t.a=ra at *;generalize jU cs t.b=rb at *;rw[bM]at ka kb;simp only[dV,ez,b_]at ka kb fa fb;by_cases h6:t.kind=6
    ·rw[qt,au h6,ez,bB,bB,de,bM,bM]at hp;simp only[dV,ez]at hp;simp only[au h6]at hat dR;repeat' first|refine cz J9 ?_|refine aB ?_|refine aA ?_ ?_<;>intro hw<;>try omega|fail
     with_reducible refine bE [6,1,10,1,12,3,30,21] (fun q:Int × Bool × List aY=>[(30,I q.1),(10,.bool q.2.1)]) (fun q=> .cells [.bool c.any,.bool c.neg,.aR false ES (c.tests.map dV)]::q.2.2) (fun q=>((q.1=0/\q.2.1=true)\/(q.1=1/\ra.2=0/\q.2.1=va)\/(q.1=2/\ra.2=0/\rb.2=0/\q.2.1=(va && vb)))/\q.2.2[τ.length]? = some (.cells [I t.kind,I t.a.op,I t.a.v.kind,I t.a.v.n,.str t.a.v.s,.str t.a.s,.aR false EX (t.a.l.map br),I t.b.op,I t.b.v.kind,I t.b.v.n,.str t.b.v.s,.str t.b.s,.aR false EX (t.b.l.map br),.bool t.lo,.bool t.hi])) (fun q=>(2-q.1).toNat) (0,true,τ++[.cells [I t.kind,I t.a.op,I t.a.v.kind,I t.a.v.n,.str t.a.v.s,.str t.a.s,.aR false EX (t.a.l.map br),I t.b.op,I t.b.v.kind,I t.b.v.n,.str t.b.v.s,.str t.b.s,.aR false EX (t.b.l.map br),.bool t.lo,.bool t.hi]]) ?_ ?_ ?_ ?_
     ·exact⟨.inl ⟨rfl,rfl⟩,aQ⟩
     ·rfl
     ·exact at_
     clear hp;rintro⟨j,ok,L9⟩ r2 ⟨hj,hk⟩;dsimp only at hj hk;have kI:=fun d:aY=>(aI (l₁:=L9) (l₂:=[d]) (aE.1 hk).1).trans hk;rcases hj with⟨rfl,rfl⟩|⟨rfl,hra,rfl⟩|⟨rfl,hra,hrb,rfl⟩
     ·repeat' first|simp (disch:=omega) only[go_sem,aJ,aK,aL,hk,kI,Int.toNat_one]|refine aB ?_|refine aA ?_ ?_<;>intro hw<;>try omega|fail
      all_goals first
       |(refine aZ ?_ rfl;refine aW I ?_;symm;refine hat _ ?_ ?_<;>(clear hat dR;simp_all;done))
       | (refine ⟨(1, va, L9 ++ [.cells [I t.a.op, I t.a.v.kind, I t.a.v.n, .str t.a.v.s, .str t.a.s, .aR false EX (t.a.l.map br)]]), ?_, ?_, ?_, da, at_⟩ <;> (try dsimp only)
          ·exact⟨.inr (.inl ⟨rfl,by assumption,rfl⟩),kI _⟩
          ·omega
          all_goals (first|rfl|(simp[go_sem];done)))
       | exact bJ
     ·cases ok
      ·repeat' first|simp (disch:=omega) only[go_sem,aJ,aK,aL,hk,kI,Int.toNat_one]|refine aB ?_|refine aA ?_ ?_<;>intro hw<;>try omega|fail
       all_goals first
        |(refine aZ ?_ rfl;refine aW I ?_;symm;refine hat _ ?_ ?_<;>(clear hat dR;simp_all;done))
        | (refine ⟨(2, false, L9 ++ [.cells [I t.b.op, I t.b.v.kind, I t.b.v.n, .str t.b.v.s, .str t.b.s, .aR false EX (t.b.l.map br)]]), ?_, ?_, ?_, da, at_⟩ <;> (try dsimp only)
           ·exact⟨.inr (.inr ⟨rfl,by assumption,by assumption,rfl⟩),kI _⟩
           ·omega
           all_goals (first|rfl|(simp[go_sem];done)))
        | exact bJ
      repeat' first|simp (disch:=omega) only[go_sem,aJ,aK,aL,hk,kI,Int.toNat_one]|refine aB ?_|refine aA ?_ ?_<;>intro hw<;>try omega|fail
      all_goals first
       |(refine aZ ?_ rfl;refine aW I ?_;symm;refine hat _ ?_ ?_<;>(clear hat dR;simp_all;done))
       | (refine ⟨(2, vb, L9 ++ [.cells [I t.b.op, I t.b.v.kind, I t.b.v.n, .str t.b.v.s, .str t.b.s, .aR false EX (t.b.l.map br)]]), ?_, ?_, ?_, da, at_⟩ <;> (try dsimp only)
          ·exact⟨.inr (.inr ⟨rfl,by assumption,by assumption,rfl⟩),kI _⟩
          ·omega
          all_goals (first|rfl|(simp[go_sem];done)))
       | exact bJ
     repeat' first|refine cz (zA hk kI) ?_|refine aB ?_|refine aA ?_ ?_<;>intro hw<;>try omega|fail
     all_goals first
      |(refine aZ ?_ rfl;refine aW I ?_;symm;refine hat _ ?_ ?_<;>(clear hat dR;simp_all;done))
      | (refine ⟨(i + 1, L9), ?_, ?_, ?_, da, at_⟩ <;> (try dsimp only)
         ·exact⟨ae,dR (by clear hat dR;simp_all)⟩
         ·omega
         all_goals (first|rfl|(simp[go_sem];done)))
      | exact bJ
    rw[qt,aj h6,ez,bB,de,bM]at hp;simp only[dV,ez]at hp;simp only[aj h6]at hat dR;repeat' first|refine cz J9 ?_|refine aB ?_|refine aA ?_ ?_<;>intro hw<;>try omega|fail
    with_reducible refine bE [6,1,10,1,12,3,30,21] (fun q:Int × Bool × List aY=>[(30,I q.1),(10,.bool q.2.1)]) (fun q=> .cells [.bool c.any,.bool c.neg,.aR false ES (c.tests.map dV)]::q.2.2) (fun q=>((q.1=0/\q.2.1=true)\/(q.1=1/\ra.2=0/\q.2.1=va))/\q.2.2[τ.length]? = some (.cells [I t.kind,I t.a.op,I t.a.v.kind,I t.a.v.n,.str t.a.v.s,.str t.a.s,.aR false EX (t.a.l.map br),I t.b.op,I t.b.v.kind,I t.b.v.n,.str t.b.v.s,.str t.b.s,.aR false EX (t.b.l.map br),.bool t.lo,.bool t.hi])) (fun q=>(2-q.1).toNat) (0,true,τ++[.cells [I t.kind,I t.a.op,I t.a.v.kind,I t.a.v.n,.str t.a.v.s,.str t.a.s,.aR false EX (t.a.l.map br),I t.b.op,I t.b.v.kind,I t.b.v.n,.str t.b.v.s,.str t.b.s,.aR false EX (t.b.l.map br),.bool t.lo,.bool t.hi]]) ?_ ?_ ?_ ?_
    ·exact⟨.inl ⟨rfl,rfl⟩,aQ⟩
    ·rfl
    ·exact at_
    clear hp;rintro⟨j,ok,L9⟩ r2 ⟨hj,hk⟩;dsimp only at hj hk;have kI:=fun d:aY=>(aI (l₁:=L9) (l₂:=[d]) (aE.1 hk).1).trans hk;rcases hj with⟨rfl,rfl⟩|⟨rfl,hra,rfl⟩
    ·repeat' first|simp (disch:=omega) only[go_sem,aJ,aK,aL,hk,kI,Int.toNat_one]|refine aB ?_|refine aA ?_ ?_<;>intro hw<;>try omega|fail
     all_goals first
      |(refine aZ ?_ rfl;refine aW I ?_;symm;refine hat _ ?_ ?_<;>(clear hat dR;simp_all;done))
      | (refine ⟨(1, va, L9 ++ [.cells [I t.a.op, I t.a.v.kind, I t.a.v.n, .str t.a.v.s, .str t.a.s, .aR false EX (t.a.l.map br)]]), ?_, ?_, ?_, da, at_⟩ <;> (try dsimp only)
         ·exact⟨.inr ⟨rfl,by assumption,rfl⟩,kI _⟩
         ·omega
         all_goals (first|rfl|(simp[go_sem];done)))
      | exact bJ
    repeat' first|refine cz (zA hk kI) ?_|refine aB ?_|refine aA ?_ ?_<;>intro hw<;>try omega|fail
    all_goals first
     |(refine aZ ?_ rfl;refine aW I ?_;symm;refine hat _ ?_ ?_<;>(clear hat dR;simp_all;done))
     | (refine ⟨(i + 1, L9), ?_, ?_, ?_, da, at_⟩ <;> (try dsimp only)
        ·exact⟨ae,dR (by clear hat dR;simp_all)⟩
        ·omega
        all_goals (first|rfl|(simp[go_sem];done)))
     | exact bJ
   repeat' first|refine aB ?_|refine aA ?_ ?_<;>intro hw<;>try omega|fail
   refine aZ ?_ rfl;rw[adL hr (fun k hk=>h2 k ae)]
end Go.Proofs.YtoldfccfpameeaaGreatDoor
namespace Go.Proofs
open Go.Shelf
def Tryz.II: Go.Shelf.Ren:=⟨fun|156=>121|165=>88|166=>89|169=>91|240=>132|241=>133|276=>174|277=>175|n=>n,fun|31=>47|9=>9|3=>3|4=>4|0=>0|20=>20|72=>162|76=>166|70=>159|37=>160|75=>165|127=>217|164=>263|5=>5|80=>169|n=>n,fun|n=>n⟩
def Tryz.WL: Go.Proofs.Lays.n156 Tryz.prog Tryz.II:=Ot
def Tryz.x9: Builder.Extra Tryz.prog Tryz.II:=Ot
open Go.RowKit in
def Tryz.strings_Join_none (a : Option Addr) (c : Nat) (sep : ByteArray) (w : World) :
    Calls Tryz.prog 121 #[.slice a 0 c,.string sep] w fun e w'=>e = .returned (.string ⟨#[]⟩)/\w'=w:=Any.strings_Join_none Tryz.WL Tryz.x9 a c sep w
open Go.RowKit in
def Tryz.strings_Join (bk o c : Nat) (xs : List ByteArray) (sep : ByteArray) (w : World) (hcells : ∀ (j : Nat) x, xs[j]? = some x -> w.cell? ⟨bk, o + j, none⟩ = some (.string x)) (hbk : bk < w.heap.size) (hN : xs.length <= 140737488355328) (hcap : xs.length <= c) (hlen : (Lib.join (xs.map (·.data.toList)) sep.data.toList).length <= 140737488355328) :
    Calls Tryz.prog 121 #[.slice (some ⟨bk,o,none⟩) xs.length c,.string sep] w fun e w'=>e = .returned (.string ⟨(Lib.join (xs.map (·.data.toList)) sep.data.toList).toArray⟩)/\Below w.heap.size w w':=Any.strings_Join Tryz.WL Tryz.x9 bk o c xs sep w hcells hbk hN hcap hlen
def Tryz.Vd: Go.Shelf.Ren:=⟨fun|106=>239|213=>266|265=>286|n=>n,fun|9=>9|3=>3|n=>n,fun|n=>n⟩
def Tryz.agr: Go.Proofs.Lays.n106 Tryz.prog Tryz.Vd:=Ot
open Go.RowKit in
def Tryz.strings_Compare (a b : ByteArray) (w : World) :
    Calls Tryz.prog 239 #[.string a,.string b] w fun e w'=>e = .returned (.int .i64 (Lib.compareBytes a.data.toList b.data.toList))/\w'=w:=Any.strings_Compare Tryz.agr a b w
def Tryz.Ve: Go.Shelf.Ren:=⟨fun|121=>214|214=>249|n=>n,fun|4=>4|9=>9|n=>n,fun|n=>n⟩
def Tryz.ags: Go.Proofs.Lays.n121 Tryz.prog Tryz.Ve:=Ot
open Go.RowKit in
def Tryz.strconv_FormatBool (b : Bool) (w : World) :
    Calls Tryz.prog 214 #[.bool b] w fun e w'=>e = .returned (.string ⟨(Lib.formatBool b).toArray⟩)/\w'=w:=Any.strconv_FormatBool Tryz.ags b w
def Tryz.Tb: Go.Shelf.Ren:=⟨fun|171=>212|243=>247|246=>268|283=>287|284=>288|285=>289|286=>290|129=>160|317=>301|318=>302|319=>303|320=>304|337=>305|338=>306|n=>n,fun|3=>3|9=>9|2=>2|4=>4|171=>379|0=>0|53=>175|37=>160|5=>5|173=>381|212=>391|51=>212|20=>20|213=>392|46=>155|232=>393|233=>394|n=>n,fun|17=>1|18=>2|19=>3|n=>n⟩
def Tryz.adM: Go.Proofs.LaysM.n171 Tryz.prog Tryz.Tb:=Ot
open Go.RowKit Go.Sort Go.Lib in
def Tryz.strconv_Itoa (n : Int) (h0 : -9223372036854775808 ≤ n) (h1 : n ≤ 9223372036854775807) (w : World) (htab : Lib.TabIs Tryz.prog w "internal/strconv.uint64pow10" .u64 Lib.pow10Tab) :
    Calls Tryz.prog 212 #[.int .i64 n] w fun e w'=>e = .returned (.string ⟨(Lib.itoa n).toArray⟩)/\ ∃ k os,w'=grow (w.drewN k) os:=Any.strconv_Itoa Tryz.adM n h0 h1 w htab
def Tryz.Vf: Go.Shelf.Ren:=⟨fun|212=>86|263=>129|264=>130|n=>n,fun|46=>155|51=>212|146=>213|53=>175|148=>215|n=>n,fun|n=>n⟩
def Tryz.agt: Go.Proofs.Lays.n212 Tryz.prog Tryz.Vf:=Ot
open Go.RowKit Go.Lib in
def Tryz.bits_Mul (x y : Nat) (hx : x < 18446744073709551616) (hy : y < 18446744073709551616) (w : World) :
    Calls Tryz.prog 86 #[.int .u64 x,.int .u64 y] w fun e w'=>e = .returned (.tuple #[.int .u64 ((x*y / 18446744073709551616:Nat):Int),.int .u64 ((x*y % 18446744073709551616:Nat):Int)])/\w'=w:=Any.bits_Mul Tryz.agt x y hx hy w
def Tryz.IJ: Go.Shelf.Ren:=⟨fun|105=>55|212=>86|99=>87|165=>88|166=>89|170=>90|169=>91|263=>129|264=>130|206=>131|240=>132|241=>133|276=>174|277=>175|n=>n,fun|9=>9|3=>3|4=>4|20=>20|0=>0|46=>155|109=>156|5=>5|72=>162|76=>166|51=>212|146=>213|53=>175|148=>215|70=>159|37=>160|75=>165|127=>217|164=>263|80=>169|n=>n,fun|n=>n⟩
def Tryz.agu: Go.Proofs.Lays.n105 Tryz.prog Tryz.IJ:=Ot
def Tryz.Ii: Builder.Extra Tryz.prog Tryz.IJ:=Ot
open Go.RowKit Go.Lib in
def Tryz.strings_Repeat (s : ByteArray) (c : Nat) (w : World) (hc : c <= 9223372036854775807) (hlen : s.size * c <= 140737488355328) :
    Calls Tryz.prog 55 #[.string s,.int .i64 c] w fun e w'=>e = .returned (.string ⟨(Lib.repeatL s.data.toList c).toArray⟩)/\Below w.heap.size w w':=Any.strings_Repeat Tryz.agu Tryz.Ii s c w hc hlen
end Go.Proofs
namespace Go.Proofs.YtoldfccfpameeaaGreatDoor
open Go.AM
set_option maxRecDepth 4000
def nC {P : Program} {f : FuncId} {args : List AV} {r : AV} (hf : Has P f)
    (h : ∀ (g : aN) (w : World) (σ : ai) (vs : Array Value), Rel g w σ -> args.length = vs.size -> (∀ i, i < args.length -> VR g w (args.getD i .undef) (vs.getD i Go.undef)) ->
      ∃ v,(∀ g' w',VR g' w' r v)/\Calls P f vs w fun e w'=>e = .returned v/\w'.os=w.os/\w'.tape=w.tape/\w'.output=w.output/\w.heap.size<=w'.heap.size/\ ∀ b,b<w.heap.size->w'.heap[b]? = w.heap[b]?):aS P f args r:=by
 intro σ;refine⟨hf,fun g w vs hR hl hv=>?_⟩;obtain⟨v,h1,h2⟩:=h g w σ vs hR hl hv;refine h2.mono ?_;rintro e w' ⟨rfl,k1,k2,k3,k4,k5⟩;obtain⟨r1,r2⟩:=hR.uK k4 k1 k2 k3 k5;exact⟨.ret r,_,σ,r1,r2,h1 _ _,rfl,rfl⟩
def VR.Rj{g:aN}{w:World}(s:aU): VR g w (.str s) (.string ⟨s.toArray⟩):=VR.str s
def aa2{vs:Array Value}(h:1=vs.size): vs = #[vs.getD 0 Go.undef]:=by
 apply Array.ext
 ·simp[<-h]
 intro i h1 h2;simp at h2;subst h2;simp[<-h]
def L_{vs:Array Value}(h:2=vs.size): vs = #[vs.getD 0 Go.undef,vs.getD 1 Go.undef]:=by
 apply Array.ext
 ·simp[<-h]
 intro i h1 h2;simp at h2;obtain rfl|rfl:i=0\/i=1:=ae
 ·simp[<-h]
 simp[<-h]
def strconv_Itoa(n:Int)(h0 : -9223372036854775808<=n)(h1:n<=9223372036854775807): aS aH 212 [I n] (.str (Lib.itoa n)):=by
 refine nC ⟨_,Tryz.func212,fc,fc⟩ fun g w σ vs hR hl hv=>?_;have h2:=hv 0 aQ;rw[aa2 hl];generalize vs.getD 0 Go.undef=v at h2;simp only[cH]at h2;cases h2;refine⟨_,fun g' w'=>VR.Rj (Lib.itoa n),(Tryz.strconv_Itoa n h0 h1 w hR.glob.2).mono ?_⟩;rintro e w' ⟨rfl,k,os,rfl⟩;refine⟨rfl,rfl,rfl,rfl,by simp[Sort.grow,World.drewN],fun b hb=>?_⟩;simp only[Sort.grow,World.drewN];rw[fx (by simpa using hb)]
def strconv_FormatBool(b:Bool): aS aH 214 [.bool b] (.str (if b then AA else xk)):=by
 refine nC ⟨_,Tryz.func214,fc,fc⟩ fun g w σ vs hR hl hv=>?_;have h2:=hv 0 aQ;rw[aa2 hl];generalize vs.getD 0 Go.undef=v at h2;simp only[cH]at h2;cases h2;have e:Lib.formatBool b=if b then AA else xk:=by cases b<;>decide
 refine⟨_,fun g' w'=>VR.Rj (if b then AA else xk),(Tryz.strconv_FormatBool b w).mono ?_⟩;rintro e w' ⟨rfl,rfl⟩;refine⟨by rw[e],rfl,rfl,rfl,bg _,fun _ _=>rfl⟩
def strings_Join(l:List aU)(sep:aU)(hl:l.length<=2^40)(hj:(Lib.join l sep).length<=2^40): aS aH 121 [iY l,.str sep] (.str (Lib.join l sep)):=by
 refine nC ⟨_,Tryz.func121,fc,fc⟩ fun g w σ vs hR hlen hv=>?_;have h2:=hv 0 aQ;have h3:=hv 1 aQ;rw[L_ hlen];generalize vs.getD 0 Go.undef=v at h2;generalize vs.getD 1 Go.undef=u at h3;simp only[cH,iu]at h2 h3;cases h3;simp only[iY]at h2;generalize hxs:l.map fH=xs at h2;have below:∀ w':World,RowKit.Below w.heap.size w w'->w'.os=w.os/\w'.tape=w.tape/\w'.output=w.output/\w.heap.size<=w'.heap.size/\ ∀ b,b<w.heap.size->w'.heap[b]? = w.heap[b]?:=fun w' h=>⟨h.os,h.tape,h.output,h.size,h.block⟩;cases h2 with
 | iT f el b cap hf =>
   obtain rfl:l=[]:=by cases l<;>simp at hxs;rfl
   refine⟨_,fun g' w'=>VR.Rj (Lib.join [] sep),(Tryz.strings_Join_none b cap ⟨sep.toArray⟩ w).mono ?_⟩;rintro e w' ⟨rfl,rfl⟩;refine⟨rfl,rfl,rfl,rfl,bg _,fun _ _=>rfl⟩
 | aR f el xs b off cap hi hf hx ft hc h =>
   subst hxs;have Ax:=hR.lt b hi
   have hm:(l.map fun s=>(⟨s.toArray⟩:ByteArray)).map (·.data.toList)=l:=by
    rw[List.map_map];conv=>rhs;rw[<-List.map_id l]
    rfl
   have hcells:∀ (j:Nat) x,(l.map fun s=>(⟨s.toArray⟩:ByteArray))[j]? = some x->w.cell? ⟨b,off+j,none⟩=some (.string x):=fun j x hx'=>by
    obtain⟨hj',rfl⟩:=aE.1 hx';have sD:j<l.length:=by simpa using hj'
    have c1:=hc j 0 (by simpa using sD) cW;have c2:=h j 0 (by simpa using sD) cW;have e1:off+(j*(⟨false,1⟩:El).sz+0)=off+j:=by show off+(j*1+0)=off+j;omega
    rw[e1]at c1 c2;obtain⟨v,hv⟩:=gD.1 c1;have e2:((l.map fH).getD j .undef).cell 0 = .str (l[j]):=by simp[sD,fH,AV.cell]
    rw[e2]at c2;simp only[eT,hv,bT]at c2;cases c2;rw[hv];simp
   have:=Tryz.strings_Join b off cap (l.map fun s=>(⟨s.toArray⟩:ByteArray)) ⟨sep.toArray⟩ w hcells Ax (by simp;omega) (by simpa using hx) (by rw[hm];show(Lib.join l sep).length<=_;omega);rw[hm]at this;simp only[cZ]at this |-;refine⟨_,fun g' w'=>VR.Rj (Lib.join l sep),this.mono ?_⟩;rintro e w' ⟨rfl,hb⟩;exact⟨rfl,below w' hb⟩
def adN{m:Nat}(h:10<=m): Lib.decDigits m=Lib.decDigits (m / 10)++[UInt8.ofNat (48+m % 10)]:=by
 conv=>lhs;rw[Lib.decDigits]
 rw[dif_neg ae]
def Ma{m:Nat}(h:m<10): Lib.decDigits m=[UInt8.ofNat (48+m)]:=by rw[Lib.decDigits,dif_pos h]
def Tc(k:Nat): ∀ u:Nat,u<10 ^ (k+1)->(Lib.decDigits u).length<=k+1:=by
 induction k with
 | zero=>intro u h;rw[Ma ae];simp
 | succ k ih =>
   intro u h;by_cases h9:u<10
   ·rw[Ma h9];simp
   rw[adN ae,aC];have:=ih (u / 10) (by rw[Nat.pow_succ]at h;omega);simp only[aO,bt];omega
def pn(c:UInt8): aU:=if c.toNat=34\/c.toNat=92 then [92,c]else [c]
def zw(s:aU): aU:=34::(s.flatMap pn++[34])
def YI{s:aU}{i:Nat}(h:i<s.length): (s.take (i+1)).flatMap pn=(s.take i).flatMap pn++pn (s.getD i 0):=by
 rw[dD h,List.flatMap_append];simp[h]
def Ps(s:aU): (s.flatMap pn).length<=2*s.length:=by
 induction s with
 | nil=>simp
 | cons c r ih =>
   rw[jx,aC,aO];have:(pn c).length<=2:=by unfold pn;split<;>simp
   omega
def DN(v:aX): aU:=if v.kind=1 then Lib.itoa v.n else if v.kind=2 then zw v.s else if v.kind=3 then(if v.n=1 then AA else xk)else L4
