/- Part. -/
import Derived.Test.YtmbgnaoilncbnaaGreatDoorX19
set_option linter.all false
namespace Go.Proofs.YtmbgnaoilncbnaaGreatDoor
open Go.AM
set_option maxRecDepth 4000
def GP(op:Int)(v:eg)(s:aJ)(l:List Expr): eK (.mk op v s l)=nD l+1:=by simp only[eK]
def Tl: Option Expr->Nat
 | none=>1
 | some x=>eK x
def Sm{T:List Tok}{r:RS}{k:Int}{s:aJ}: (ie T r k s).x=r.x/\r.p<=(ie T r k s).p:=by
 refine⟨rfl,?_⟩;simp only[ie,rA];split<;>omega
def abI{rd:Nat->Nat->RS}{l q:Nat}{b:Bool}(h:eK (rd l q).x+4*q<=1+4*(rd l q).p): eK (rB rd l q b).x+4*q<=1+4*(rB rd l q b).p:=by
 unfold rB;split
 ·simp[x0,eK,nD]
 ·exact h
def ahL(T:List Tok)(f:Nat): ∀(m:Option Expr) (lvl p:Nat),p<=T.length->eK (bI T f m lvl p).x+4*p<=Tl m+4*(bI T f m lvl p).p:=by
 induction f with
 | zero =>
   intro m lvl p hp
   have:1<=Tl m:=by
    cases m with
    | none=>exact Nat.le_refl _
    | some x=>cases x;simp[Tl,eK]
   simp only[bI,x0,eK,nD];omega
 | succ f ih =>
   intro m lvl p hp;have hrd:∀ l q,q<=T.length->eK (bI T f none l q).x+4*q<=1+4*(bI T f none l q).p:=fun l q hq=>ih none l q hq;have hgo:∀ l q,q<=T.length->jm T.length q (bI T f none l q):=fun l q hq=>(pS T f none l q hq).1 rfl;cases m with
   | none =>
     simp only[bI,Tl];split
     ·split
      ·rename_i h;have h1:=kC h;have ga:=DL hgo (p:=p+1) h1;have gb:=DM hgo (p:=p+1) h1;have a:=hrd 0 (p+1) h1;have b:=abI (b:=(jO (bI T f none) T (p+1)).bad) (hrd 0 _ ga.2.1);have c:=abI (b:=(tq (bI T f none) T (p+1)).bad) (hrd 0 _ gb.2.1);have a2:=Sm (T:=T) (r:=bI T f none 0 (p+1)) (k:=1) (s:=thenS);have b2:=Sm (T:=T) (r:=rB (bI T f none) 0 (jO (bI T f none) T (p+1)).p (jO (bI T f none) T (p+1)).bad) (k:=1) (s:=EZ);have ea:(jO (bI T f none) T (p+1))=ie T (bI T f none 0 (p+1)) 1 thenS:=rfl;have eb:(tq (bI T f none) T (p+1))=ie T (rB (bI T f none) 0 (jO (bI T f none) T (p+1)).p (jO (bI T f none) T (p+1)).bad) 1 EZ:=rfl;have ec:(DK (bI T f none) T (p+1))=rB (bI T f none) 0 (tq (bI T f none) T (p+1)).p (tq (bI T f none) T (p+1)).bad:=rfl;show eK (.mk 16 v0 [] [(jO (bI T f none) T (p+1)).x,(tq (bI T f none) T (p+1)).x,(DK (bI T f none) T (p+1)).x])+4*p<=1+4*(DK (bI T f none) T (p+1)).p;rw[<-ea]at a2;rw[<-eb]at b2;rw[<-ec]at c;simp only[GP,nD];rw[a2.1,b2.1];omega
      ·exact hrd 1 p hp
     ·split
      ·rename_i h;have h1:=kC h.2;have c:=hrd 6 (p+1) h1;simp only[GP,nD];omega
      ·split
       ·have ok:∀ v s,eK (.mk 1 v s [])+4*p<=1+4*(p+1):=fun v s=>by simp only[GP,nD];omega
        unfold ja;split
        ·rename_i h;have c:=hrd 0 (p+1) (kC h);have a2:=Sm (T:=T) (r:=bI T f none 0 (p+1)) (k:=4) (s:=[41]);show eK (ie T (bI T f none 0 (p+1)) 4 [41]).x+4*p<=1+4*(ie T (bI T f none 0 (p+1)) 4 [41]).p;rw[a2.1];omega
        ·repeat' split
         all_goals simp only[zl,x0,GP,nD]
         all_goals omega
       ·split
        ·exact hrd _ _ hp
        ·have a:=hrd (lvl+1) p hp;have b:=ih (some (bI T f none (lvl+1) p).x) lvl _ (hgo (lvl+1) p hp).2.1;simp only[Tl]at b;omega
   | some x =>
     simp only[bI,Tl];split
     ·exact Nat.le_refl _
     ·rename_i o ho;have h1:=(GN ho).1;have a:=hrd (lvl+1) (p+1) h1;have g:=hgo (lvl+1) (p+1) h1;split
      ·simp only[GP,nD];omega
      ·have b:=ih (some (.mk o.op v0 [] [x,(bI T f none (lvl+1) (p+1)).x])) lvl _ g.2.1;simp only[Tl,GP,nD]at b;omega
def d_(T:List Tok)(fr lvl:Int): Expr × Int × Int :=
 if fr<0\/(T.length:Int)<fr\/lvl<0\/7<lvl then(x0,0,2)
 else if(bI T (8*T.length+9) none lvl.toNat fr.toNat).bad then(x0,(bI T (8*T.length+9) none lvl.toNat fr.toNat).p,11)
 else((bI T (8*T.length+9) none lvl.toNat fr.toNat).x,(bI T (8*T.length+9) none lvl.toNat fr.toNat).p,0)
def Ag(r:Expr × Int × Int): AV:= .bX [aL r.1,I r.2.1,I r.2.2]
def iF{σ : aj}{a E:AV}{n m:Int}(h:View σ a E): aW σ [a,I n,I m] [E,I n,I m]:= .cons h (.cons (.refl _ rfl) (.cons (.refl _ rfl) (.nil _)))
def Nr(T:List Tok)(fr lvl:Int)(hT:T.length<=2 ^ 50)(hs:∀ q,(T.getD q default).s.length<=2 ^ 62): ai Tryz.prog vO [sD T,I fr,I lvl] (Ag (d_ T fr lvl)):=by
 by_cases hg:fr<0\/(T.length:Int)<fr\/lvl<0\/7<lvl
 ·have e:d_ T fr lvl=(x0,0,2):=by unfold d_;rw[if_pos hg]
  rw[e];have e1:∀ σ : aj,View σ (.agg [I 0,I 0,I 0,.str [],.str [],.ae]) (aL x0):=fun σ=>jb (.ae _);simp only[Ag];generalize aL x0=E at *;refine ai.aG (ze (by simp) ?_) (by simp);unfold vT aP;intro Q au aA aB;repeat' first|refine aq ?_|refine ak ?_ ?_<;>intro hw<;>try omega|fail
  all_goals first|exact bq (iF (e1 _))|(exfalso;omega)
 ·obtain⟨p,rfl⟩:∃ p:Nat,fr=p:=⟨fr.toNat,by omega⟩;obtain⟨l,rfl⟩:∃ l:Nat,lvl=l:=⟨lvl.toNat,by omega⟩;have cr:=XS T (by omega) hs (8*T.length+9) l p (by omega) (by omega) (by omega)
  have e:d_ T p l=if(bI T (8*T.length+9) none l p).bad then(x0,((bI T (8*T.length+9) none l p).p:Int),11)else ((bI T (8*T.length+9) none l p).x,((bI T (8*T.length+9) none l p).p:Int),0):=by
   unfold d_;rw[if_neg hg,Int.toNat_natCast,Int.toNat_natCast]
  rw[e];simp only[pT]at cr;generalize bI T (8*T.length+9) none l p=r at *;obtain⟨rx,rp,rb⟩:=r;dsimp only at *;have e1:∀ σ : aj,View σ (.agg [I 0,I 0,I 0,.str [],.str [],.ae]) (aL x0):=fun σ=>jb (.ae _);have e2:∀ σ : aj,View σ (.agg [I rx.op,I rx.v.kind,I rx.v.n,.str rx.v.s,.str rx.s,.aK false EX (rx.l.map aL)]) (aL rx):=fun σ=>View.eqv (aR _).symm (dD _);rw[aR]at cr;simp only[bD]at cr;cases rb with
  | true =>
    simp only[if_true,Ag];generalize aL x0=E at *;refine ai.aG (ze (by simp) ?_) (by simp);unfold vT aP;intro Q au aA aB;repeat' first|refine aq ?_|refine bh cr ?_|refine ak ?_ ?_<;>intro hw<;>try omega|fail
    all_goals first|exact bq (iF (e1 _))|(exfalso;omega)
  | false =>
    simp only[Bool.false_eq_true,if_false,Ag];generalize aL rx=E at *;refine ai.aG (ze (by simp) ?_) (by simp);unfold vT aP;intro Q au aA aB;repeat' first|refine aq ?_|refine bh cr ?_|refine ak ?_ ?_<;>intro hw<;>try omega|fail
    all_goals first|exact bq (iF (e2 _))|(exfalso;omega)
def aeI(r b:aJ)(i:Nat): (j6 r b i).s.length<=b.length+r.length:=by
 fun_induction j6 r b i<;>simp_all[PR.err]<;>omega
def af9(s:aJ): (iE s).s.length<=s.length+2:=by
 unfold iE;simp only;split
 ·unfold EW;split<;>simp[PR.err];omega
 ·split
  ·unfold oq;simp only;split
   ·simp[PR.err]
   ·split<;>simp[PR.err]
  ·split
   ·have:=aeI (s.drop 1) [] 1;rw[List.length_drop]at this;simp only[List.length_nil]at this;omega
   ·unfold vV;split
    ·rename_i m hm;have h2:=fK hm;simp only[rm,List.mem_cons,List.not_mem_nil,or_false]at h2;rcases h2 with h|h|h|h|h|h|h|h|h|h|h|h|h|h|h|h<;>subst h<;>simp
    ·simp[PR.err]
def aal(f:Nat): ∀(s:aJ) (pos:Nat) (acc:List Tok),(∀ t ∈ acc,t.s.length<=1000)->s.length<=900->(tg f s pos acc).1.length<=acc.length+s.length/\ ∀ t ∈ (tg f s pos acc).1,t.s.length<=1000:=by
 induction f with
 | zero=>intro s pos acc h _;exact⟨Nat.le_add_right _ _,h⟩
 | succ f ih =>
   intro s pos acc h hs;cases s with
   | nil=>exact⟨Nat.le_add_right _ _,h⟩
   | cons c r =>
     rw[wM];simp only[List.length_cons]at hs ⊢;split
     ·have:=ih r (pos+1) acc h (by omega);exact⟨by omega,this.2⟩
     ·split
      ·rename_i he;have h1:=OB (s:=c::r) (by simp) he;have h2:=af9 (c::r);simp only[List.length_cons]at h1 h2
       have:=ih ((c::r).drop (iE (c::r)).len) (pos+(iE (c::r)).len) (acc++[⟨(iE (c::r)).kind,(iE (c::r)).s,(iE (c::r)).n,pos⟩]) (fun t ht=>by
        rcases List.mem_append.1 ht with ht|ht
        ·exact h t ht
        ·simp only[List.mem_cons,List.not_mem_nil,or_false]at ht;subst ht;dsimp only;omega) (by rw[List.length_drop,List.length_cons];omega)
       rw[List.length_drop,List.length_append,List.length_cons]at this;simp only[List.length_cons,List.length_nil]at this;exact⟨by omega,this.2⟩
      ·exact⟨Nat.zero_le _,fun t ht=>by cases ht⟩
def oO(s:aJ): (bw s).1.length<=200/\ ∀ q,((bw s).1.getD q default).s.length<=1000:=by
 have h:(bw s).1.length<=200/\ ∀ t ∈ (bw s).1,t.s.length<=1000:=by
  unfold bw;split
  ·exact⟨Nat.zero_le _,fun t ht=>by cases ht⟩
  ·have:=aal (s.length+1) s 0 [] (fun t ht=>by cases ht) (by omega);simp only[List.length_nil]at this;exact⟨by omega,this.2⟩
 refine⟨h.1,fun q=>?_⟩;by_cases hq:q<(bw s).1.length
 ·exact h.2 _ (a_ hq)
 ·rw[qI (by omega)];exact bP _
def HZ(T:List Tok)(fr lvl:Int): eK (d_ T fr lvl).1<=1+4*T.length:=by
 have h0:eK x0=1:=by simp[x0,eK,nD]
 unfold d_;split
 ·dsimp only;omega
 ·rename_i hg;split
  ·dsimp only;omega
  ·have:=ahL T (8*T.length+9) none lvl.toNat fr.toNat (by omega);have g:=(pS T (8*T.length+9) none lvl.toNat fr.toNat (by omega)).2.2;simp only[Tl]at this;dsimp only;omega
def dF(s:aJ): Expr × Int × Int :=
 if(bw s).2.2≠0 then(x0,(bw s).2.1,(bw s).2.2)
 else if(d_ (bw s).1 0 0).2.1<(bw s).1.length then(x0,((bw s).1.getD (d_ (bw s).1 0 0).2.1.toNat default).pos,11)
 else if(d_ (bw s).1 0 0).2.2≠0 then(x0,s.length,(d_ (bw s).1 0 0).2.2)
 else if 12<i_ (d_ (bw s).1 0 0).1 then(x0,0,12)
 else((d_ (bw s).1 0 0).1,0,0)
def Mp(T:List Tok)(fr lvl:Int): 0<=(d_ T fr lvl).2.1/\(d_ T fr lvl).2.1<=T.length:=by
 unfold d_;split
 ·exact⟨Int.le_refl _,by dsimp only;omega⟩
 ·rename_i hg;have g:=(pS T (8*T.length+9) none lvl.toNat fr.toNat (by omega)).2.2;split<;>(dsimp only;omega)
def V8(s:aJ)(hs:s.length<=2 ^ 30): ai Tryz.prog y5 [.str s] (Ag (dF s)):=by
 have cl:=YR s hs;obtain⟨f1,f2⟩:=oO s;have cr:=Nr (bw s).1 0 0 (by omega) (fun q=>by have:=f2 q;omega);have hz:=HZ (bw s).1 0 0;obtain⟨Qu,CH⟩:=Mp (bw s).1 0 0
 have hP:dF s=if(bw s).2.2≠0 then(x0,(bw s).2.1,(bw s).2.2)
  else if(d_ (bw s).1 0 0).2.1<(bw s).1.length then(x0,((bw s).1.getD (d_ (bw s).1 0 0).2.1.toNat default).pos,11)
  else if(d_ (bw s).1 0 0).2.2≠0 then(x0,(s.length:Int),(d_ (bw s).1 0 0).2.2)
  else if 12<i_ (d_ (bw s).1 0 0).1 then(x0,0,12)
  else((d_ (bw s).1 0 0).1,0,0):=rfl
 rw[hP];clear hP f2;generalize d_ (bw s).1 0 0=r at *;generalize bw s=L at *;obtain⟨T,la,le⟩:=L;obtain⟨rx,rn,re⟩:=r;dsimp only at *;have cd:=Fy rx (by omega);obtain⟨n,rfl⟩:∃ n:Nat,rn=n:=⟨rn.toNat,by omega⟩;have e1:∀ σ : aj,View σ (.agg [I 0,I 0,I 0,.str [],.str [],.ae]) (aL x0):=fun σ=>jb (.ae _);have e2:∀ σ : aj,View σ (.agg [I rx.op,I rx.v.kind,I rx.v.n,.str rx.v.s,.str rx.s,.aK false EX (rx.l.map aL)]) (aL rx):=fun σ=>View.eqv (aR _).symm (dD _);simp only[Ag]at cr ⊢;rw[aR]at cr cd;simp only[OC,sD]at cl cr;by_cases h1:le≠0
 ·rw[if_pos h1];generalize aL x0=E at *;refine ai.aG (oK (by simp) ?_) (by simp);unfold nk aP;intro Q au aA aB;repeat' first|refine aq ?_|refine aC cl ?_|refine ak ?_ ?_<;>intro hw<;>try omega|fail
  all_goals exact bq (iF (e1 _))
 rw[if_neg h1];by_cases h2:(n:Int)<T.length
 ·rw[if_pos h2,er];generalize aL x0=E at *;have hn:n<T.length:=by omega
  refine ai.aG (oK (by simp) ?_) (by simp);unfold nk aP;intro Q au aA aB;repeat' first|refine aq ?_|refine aC cl ?_|refine aC cr ?_|refine ak ?_ ?_<;>intro hw<;>try omega|fail
  all_goals exact bq (iF (e1 _))
 rw[if_neg h2];by_cases h3:re≠0
 ·rw[if_pos h3];generalize aL x0=E at *;refine ai.aG (oK (by simp) ?_) (by simp);unfold nk aP;intro Q au aA aB;repeat' first|refine aq ?_|refine aC cl ?_|refine aC cr ?_|refine ak ?_ ?_<;>intro hw<;>try omega|fail
  all_goals exact bq (iF (e1 _))
 rw[if_neg h3];by_cases h4:12<i_ rx
 ·rw[if_pos h4];generalize aL x0=E at *;refine ai.aG (oK (by simp) ?_) (by simp);unfold nk aP;intro Q au aA aB;repeat' first|refine aq ?_|refine aC cl ?_|refine aC cr ?_|refine aC cd ?_|refine ak ?_ ?_<;>intro hw<;>try omega|fail
  all_goals exact bq (iF (e1 _))
 ·rw[if_neg h4];generalize aL rx=E at *;refine ai.aG (oK (by simp) ?_) (by simp);unfold nk aP;intro Q au aA aB;repeat' first|refine aq ?_|refine aC cl ?_|refine aC cr ?_|refine aC cd ?_|refine ak ?_ ?_<;>intro hw<;>try omega|fail
  all_goals exact bq (iF (e2 _))
def OJ(T:List Tok)(p:Nat)(b:Bool)(k:Int)(s:aJ): bj Tryz.prog fD 0 [I k,.str s] (bD T p b) (bD T p b) (.bool (iM T p k s)):=by
 unfold iM;refine bj.bV (K4 (by simp) ?_) rfl (aS _ _ _);unfold BA aP;intro Q au aA aB;by_cases hp:p<T.length
 ·repeat' first|refine aq ?_|refine ak ?_ ?_<;>intro hw<;>try omega|fail
  all_goals refine bR (View.eqv ?_ (by rfl)) (aW.refl (aS T p b))
  all_goals (clear au aA aB;refine congrArg AV.bool ?_;rw[aV];simp_all)
 ·repeat' first|refine aq ?_|refine ak ?_ ?_<;>intro hw<;>try omega|fail
  refine bR (View.eqv ?_ (by rfl)) (aW.refl (aS T p b));rw[decide_eq_false hp];rfl
def vv(T:List Tok)(p:Nat)(b:Bool)(k:Int)(s:aJ)(o:Bool)(h:iM T p k s=o): bj Tryz.prog fD 0 [I k,.str s] (bD T p b) (bD T p b) (.bool o):=by
 have:=OJ T p b k s;rwa[h]at this
def H6(T:List Tok)(p:Nat)(b:Bool)(k:Int)(s:aJ)(hp:p<=2 ^ 61): bj Tryz.prog kW 0 [I k,.str s] (bD T p b) (bD T (rA T p b k s) (b || !(ew T p b k s))) (.bX []):=by
 unfold rA ew;cases b with
 | true =>
   refine bj.bV (xW (by simp) ?_) rfl (aS _ _ _);unfold r7 aP;intro Q au aA aB;repeat' first|refine aq ?_|refine ak ?_ ?_<;>intro hw<;>try omega|fail
   refine xd rfl (aW.eqv ?_ (aS _ _ _));simp[bD]
 | false =>
   have hn:=OJ T p false k s;generalize iM T p k s=o at hn ⊢;simp only[bD]at hn;refine bj.bV (xW (by simp) ?_) rfl (aS _ _ _);unfold r7 aP;intro Q au aA aB;cases o
   ·repeat' first|refine aq ?_|refine bh hn ?_|refine ak ?_ ?_<;>intro hw<;>try omega|fail
    refine xd rfl (aW.eqv ?_ (aS _ _ _));simp[bD]
   ·repeat' first|refine aq ?_|refine bh hn ?_|refine ak ?_ ?_<;>intro hw<;>try omega|fail
    refine xd rfl (aW.eqv ?_ (aS _ _ _));simp[bD]
def af_: ∀ i:Nat,i<12->cV ((i:Int)+4)=gO.getD i default/\dc ((i:Int)+4)=(gO.getD i default).level/\(gO.getD i default).op=(i:Int)+4/\lI (gO.getD i default)=(if(i:Int)+4=14\/(i:Int)+4=15 then 1 else 4):=by decide
def adh(T:List Tok)(p:Nat)(lvl:Int): bj Tryz.prog uP 0 [I lvl] (bD T p false) (bD T p false) (I (Ln (vu T p false lvl))):=by
 refine bj.bV (K5 (by simp) ?_) rfl (aS _ _ _);unfold BB aP;intro Q au aA aB;have hi:=fun k s=>OJ T p false k s;simp only[bD]at hi;repeat' first|refine aq ?_|refine ak ?_ ?_<;>intro hw<;>try omega|fail
 with_reducible refine bn [4,5,6,7,8,9,10,11,12,13,14,15,16,17,18,19,20,21,22,23,24,25,26,27,28] (fun i:Nat=>[(5,I ((i:Int)+4))]) (fun _=>[.cells [.aK false ET (T.map mF),I p,.bool false]]) (fun i=>i<=12/\ ∀ k,k<i->((gO.getD k default).level==lvl && ew T p false (lI (gO.getD k default)) (gO.getD k default).sign)=false) (fun i=>12-i) (0) ?_ ?_ ?_ ?_
 ·simp
 ·rfl
 ·exact at_
 rintro i r ⟨h1,h2⟩;by_cases aga:i<12
 ·obtain⟨b1,b2,b3,b4⟩:=af_ i aga;obtain⟨x,hx⟩:∃ x,gO.getD i default=x:=⟨_,rfl⟩;rw[hx]at b1 b2 b3 b4
  have hyes:(x.level==lvl && iM T p (lI x) x.sign)=true->vu T p false lvl=some x:=fun h=>by
   unfold vu;rw[wN (p:=fun y:GJ=>y.level==lvl && ew T p false (lI y) y.sign) (by exact aga) h2 (by rw[hx];exact h),hx]
  have Sj:(x.level==lvl && iM T p (lI x) x.sign)=false-> ∀ k,k<i+1->((gO.getD k default).level==lvl && ew T p false (lI (gO.getD k default)) (gO.getD k default).sign)=false:=fun h=>bf h2 (by rw[hx];exact h);clear h2;have hl:=Nn ((i:Int)+4);have hs:=HQ ((i:Int)+4);rw[b2]at hl;rw[b1]at hs
  have hk2:(((i:Int)+4=14\/(i:Int)+4=15)/\lI x=1)\/(¬ ((i:Int)+4=14\/(i:Int)+4=15)/\lI x=4):=by
   rw[b4];split<;>simp_all
  clear b1 b2 b4;rcases hk2 with⟨hlv,hkb⟩|⟨hlv,hkb⟩;all_goals rw[hkb]at hyes Sj
  all_goals (
   repeat' first|refine aq ?_|refine aC hl ?_|refine aC hs ?_|refine bh (hi 1 _) ?_|refine bh (hi 4 _) ?_|refine ak ?_ ?_<;>intro hw<;>try omega|fail
   all_goals first
    | (have hy := hyes (by simp_all)
       refine bR (View.eqv ?_ rfl) (aW.refl (aS T p false));rw[hy];simp only[Ln,b3];done)
    | (refine ⟨i + 1, ?_, ?_, by first | rfl | (simp [go_sem]; done), bJ, at_⟩ <;> (try dsimp only)
       ·exact⟨by omega,Sj (by simp_all)⟩
       ·omega))
 ·have hno : vu T p false lvl = none := by
   unfold vu;rw[wk (p:=fun y:GJ=>y.level==lvl && ew T p false (lI y) y.sign) (fun k hk=>h2 k (by have:gO.length=12:=rfl;omega))]
  repeat' first|refine aq ?_|refine ak ?_ ?_<;>intro hw<;>try omega|fail
  refine bR (View.eqv ?_ rfl) (aW.refl (aS T p false));rw[hno];rfl
def nN: aJ:=[110,117,108,108]
def mc: aJ:=[116,114,117,101]
def kE: aJ:=[102,97,108,115,101]
def Qv(T:List Tok)(p:Nat): bj Tryz.prog mS 0 [] (bD T p true) (bD T p true) (aL x0):=by
 generalize hE:aL x0=E;refine bj.bV (dY (by simp) ?_) rfl (aS _ _ _);unfold dU aP;intro Q au aA aB;repeat' first|refine aq ?_|refine ak ?_ ?_<;>intro hw<;>try omega|fail
 exact bR (by rw[<-hE];exact jb (.ae _)) (aW.refl (aS T p true))
set_option maxHeartbeats 1000000 in
def XT (T : List Tok) (p : Nat) (rd : Nat -> Nat -> RS) (hp : p <= T.length) (hT : T.length <= 2 ^ 60) (hs : ∀ q, (T.getD q default).s.length <= 2 ^ 62)
    (hrd:iM T p 4 [40]=true->pT T cq rd 0 (p+1)/\(rd 0 (p+1)).p<=T.length) :
    bj Tryz.prog mS 0 [] (bD T p false) (bD T (ja rd T p).p (ja rd T p).bad) (aL (ja rd T p).x):=by
 by_cases hlt:p<T.length
 case neg =>
  have hno:iM T p 4 [40]=false:=by
   cases h:iM T p 4 [40]with
   | false=>rfl
   | true=>exact absurd (kC h) hlt
  have ha:ja rd T p=⟨x0,p,true⟩:=by
   unfold ja;rw[hno,qI (by omega)];rfl
  rw[ha];dsimp only;generalize hE:aL x0=E;refine bj.bV (dY (by simp) ?_) rfl (aS _ _ _);unfold dU aP;intro Q au aA aB;repeat' first|refine aq ?_|refine ak ?_ ?_<;>intro hw<;>try omega|fail
  exact bR (by rw[<-hE];exact jb (.ae _)) (aW.refl (aS T p true))
 have hsp:=hs p
 have his:∀ k s,iM T p k s=(decide ((T.getD p default).kind=k) && decide ((T.getD p default).s=s)):=fun k s=>by
  unfold iM;rw[decide_eq_true hlt,Bool.true_and]
 have ci:=fun k s o h=>vv T p false k s o h;simp only[his]at hrd ci
 have ha:ja rd T p=if(decide ((T.getD p default).kind=4) && decide ((T.getD p default).s=[40]))=true then ie T (rd 0 (p+1)) 4 [41]else
  (if(T.getD p default).kind=2 then zl ⟨1,(T.getD p default).n,[]⟩ (p+1)
  else if(T.getD p default).kind=3 then zl ⟨2,0,(T.getD p default).s⟩ (p+1)
  else if(T.getD p default).kind=1 then
   (match uk (T.getD p default).s with
   | some v=>zl v (p+1)
   | none=>if gE (T.getD p default).s then⟨.mk 2 v0 (T.getD p default).s [],p+1,false⟩else ⟨x0,p,true⟩)
  else⟨x0,p,true⟩:RS):=by unfold ja;rw[his]<;>rfl
 rw[ha];clear ha hs his;obtain⟨t,ht⟩:∃ t,T.getD p default=t:=⟨_,rfl⟩;rw[ht]at hrd ci hsp ⊢;obtain⟨tk,ts,tn,tp⟩:=t;simp only at hrd ci hsp ⊢;have hname:=x7 ts hsp;by_cases x9:(decide (tk=4) && decide (ts=[40]))=true
 ·rw[if_pos x9];obtain⟨hr,hb⟩:=hrd x9;simp only[aF,decide_eq_true_eq]at x9;obtain⟨rfl,rfl⟩:=x9;have c1:=ci 1 nN false (by simp);have c2:=ci 1 mc false (by simp);have c3:=ci 1 kE false (by simp);have c4:=ci 4 [40] true (by simp);unfold pT at hr;generalize rd 0 (p+1)=r at *;have hm:=H6 T r.p r.bad 4 [41] (by omega);generalize hE:aL (ie T r 4 [41]).x=E;have YK:aL r.x=E:=hE;rw[aR]at hr YK;simp only[bD,nN,mc,kE,Int.natCast_add,Int.cast_ofNat_Int]at c1 c2 c3 c4 hr hm;refine bj.bV (dY (by simp) ?_) rfl (aS _ _ _);unfold dU aP;intro Q au aA aB;repeat' first|simp (disch:=omega) only[go_sem,au,aA,aB,ht,Int.natCast_add,Int.cast_ofNat_Int]|refine aq ?_|refine bh c1 ?_|refine bh c2 ?_|refine bh c3 ?_|refine bh c4 ?_|refine bh hr ?_|refine bh hm ?_|refine ak ?_ ?_<;>intro hw<;>try omega|fail
  exact bR (by rw[<-YK];exact View.refl _ (by simp)) (aW.refl (aS _ _ _))
 rw[if_neg x9];have UY:(decide (tk=4) && decide (ts=[40]))=false:=by simpa using x9
 have c4:=ci 4 [40] false UY;clear hrd x9;by_cases h2:tk=2
 ·rw[if_pos h2];generalize hE:aL _=E;refine bj.bV (dY (by simp) ?_) rfl (aS _ _ _);unfold dU aP;intro Q au aA aB;repeat' first|simp (disch:=omega) only[go_sem,au,aA,aB,ht]|refine aq ?_|refine ak ?_ ?_<;>intro hw<;>try omega|fail
  exact bR (by rw[<-hE];exact jb (.ae _)) (aW.eqv rfl (aS T (p+1) false))
 rw[if_neg h2];by_cases h3:tk=3
 ·rw[if_pos h3];generalize hE:aL _=E;refine bj.bV (dY (by simp) ?_) rfl (aS _ _ _);unfold dU aP;intro Q au aA aB;repeat' first|simp (disch:=omega) only[go_sem,au,aA,aB,ht]|refine aq ?_|refine ak ?_ ?_<;>intro hw<;>try omega|fail
  exact bR (by rw[<-hE];exact jb (.ae _)) (aW.eqv rfl (aS T (p+1) false))
 rw[if_neg h3];by_cases h1:tk=1
 case neg =>
  rw[if_neg h1];have c1:=ci 1 nN false (by simp[h1]);have c2:=ci 1 mc false (by simp[h1]);have c3:=ci 1 kE false (by simp[h1]);simp only[bD,nN,mc,kE]at c1 c2 c3 c4;generalize hE:aL _=E;refine bj.bV (dY (by simp) ?_) rfl (aS _ _ _);unfold dU aP;intro Q au aA aB;repeat' first|simp (disch:=omega) only[go_sem,au,aA,aB,ht]|refine aq ?_|refine bh c1 ?_|refine bh c2 ?_|refine bh c3 ?_|refine bh c4 ?_|refine ak ?_ ?_<;>intro hw<;>try omega|fail
  exact bR (by rw[<-hE];exact jb (.ae _)) (aW.eqv rfl (aS T p true))
 rw[if_pos h1];have cb:∀ s b,decide (ts=s)=b->(decide (tk=1) && decide (ts=s))=b:=fun s b h=>by rw[decide_eq_true h1,dA,h]
 by_cases w1:ts=nN
 ·have hw:uk ts=some v0:=by rw[w1];rfl
  rw[hw];dsimp only;have c1:=ci 1 nN true (cb _ _ (decide_eq_true w1));simp only[bD,nN]at c1;generalize hE:aL _=E;refine bj.bV (dY (by simp) ?_) rfl (aS _ _ _);unfold dU aP;intro Q au aA aB;repeat' first|simp (disch:=omega) only[go_sem,au,aA,aB,ht]|refine aq ?_|refine bh c1 ?_|refine ak ?_ ?_<;>intro hw<;>try omega|fail
  exact bR (by rw[<-hE];exact jb (.ae _)) (aW.eqv rfl (aS T (p+1) false))
 have c1:=ci 1 nN false (cb _ _ (decide_eq_false w1));by_cases w2:ts=mc
 ·have hw:uk ts=some ⟨3,1,[]⟩:=by rw[w2];rfl
  rw[hw];dsimp only;have c2:=ci 1 mc true (cb _ _ (decide_eq_true w2));simp only[bD,nN,mc]at c1 c2;generalize hE:aL _=E;refine bj.bV (dY (by simp) ?_) rfl (aS _ _ _);unfold dU aP;intro Q au aA aB;repeat' first|simp (disch:=omega) only[go_sem,au,aA,aB,ht]|refine aq ?_|refine bh c1 ?_|refine bh c2 ?_|refine ak ?_ ?_<;>intro hw<;>try omega|fail
  exact bR (by rw[<-hE];exact jb (.ae _)) (aW.eqv rfl (aS T (p+1) false))
 have c2:=ci 1 mc false (cb _ _ (decide_eq_false w2));by_cases w3:ts=kE
 ·have hw:uk ts=some ⟨3,0,[]⟩:=by rw[w3];rfl
  rw[hw];dsimp only;have c3:=ci 1 kE true (cb _ _ (decide_eq_true w3));simp only[bD,nN,mc,kE]at c1 c2 c3;generalize hE:aL _=E;refine bj.bV (dY (by simp) ?_) rfl (aS _ _ _);unfold dU aP;intro Q au aA aB;repeat' first|simp (disch:=omega) only[go_sem,au,aA,aB,ht]|refine aq ?_|refine bh c1 ?_|refine bh c2 ?_|refine bh c3 ?_|refine ak ?_ ?_<;>intro hw<;>try omega|fail
  exact bR (by rw[<-hE];exact jb (.ae _)) (aW.eqv rfl (aS T (p+1) false))
 have c3:=ci 1 kE false (cb _ _ (decide_eq_false w3))
 have hw:uk ts=none:=by
  exact(if_neg w1).trans ((if_neg w3).trans (if_neg w2))
 rw[hw];dsimp only;clear w1 w2 w3 hw cb ci;simp only[bD,nN,mc,kE]at c1 c2 c3 c4;cases hn:gE ts with
 | true =>
   rw[hn]at hname;simp only[if_true];generalize hE:aL _=E;refine bj.bV (dY (by simp) ?_) rfl (aS _ _ _);unfold dU aP;intro Q au aA aB;repeat' first|simp (disch:=omega) only[go_sem,au,aA,aB,ht]|refine aq ?_|refine bh c1 ?_|refine bh c2 ?_|refine bh c3 ?_|refine bh c4 ?_|refine aC hname ?_|refine ak ?_ ?_<;>intro hw<;>try omega|fail
   exact bR (by rw[<-hE];exact jb (.ae _)) (aW.eqv rfl (aS T (p+1) false))
 | false =>
   rw[hn]at hname;simp only[Bool.false_eq_true,if_false];generalize hE:aL _=E;refine bj.bV (dY (by simp) ?_) rfl (aS _ _ _);unfold dU aP;intro Q au aA aB;repeat' first|simp (disch:=omega) only[go_sem,au,aA,aB,ht]|refine aq ?_|refine bh c1 ?_|refine bh c2 ?_|refine bh c3 ?_|refine bh c4 ?_|refine aC hname ?_|refine ak ?_ ?_<;>intro hw<;>try omega|fail
   exact bR (by rw[<-hE];exact jb (.ae _)) (aW.eqv rfl (aS T p true))
def GQ(T:List Tok)(lvl:Int)(p:Nat): bj Tryz.prog cq 0 [I lvl] (bD T p true) (bD T p true) (aL x0):=by
 have hf:=Qv T p;generalize hE:aL x0=E;rw[aR]at hf;simp only[bD]at hf;refine bj.bV (iD (by simp) ?_) rfl (aS _ _ _);unfold gQ aP;intro Q au aA aB;repeat' first|refine aq ?_|refine bh hf ?_|refine ak ?_ ?_<;>intro hw<;>try omega|fail
 exact bR (by rw[<-hE];exact View.eqv (aR _).symm (dD _)) (aW.refl (aS T p true))
structure Lq where
 op:Int
 vk:Int
 vn:Int
 vs:aJ
 s:aJ
 fl:Bool
 zs:List AV
 x:Expr
 p:Nat
 b:Bool
 f:Nat
def Lq.cs(q:Lq): List AV:=[I q.op,I q.vk,I q.vn,.str q.vs,.str q.s,.aK q.fl EX q.zs]
def Lq.seen(q:Lq): Prop:=View [] (.agg q.cs) (aL q.x)
def UH (T : List Tok) (hT : T.length <= 2 ^ 60) (f lvl p : Nat) (h1 : 1 <= lvl) (h5 : lvl <= 5) (hp : p <= T.length) (hf : 8 * (T.length - p) + (8 - lvl) <= f)
    (ih:∀ j,j<=f-> ∀ l q,l<=7->q<=T.length->8*(T.length-q)+(8-l)<j->pT T cq (fun l q=>bI T j none l q) l q) :
    bj Tryz.prog cq 0 [I lvl] (bD T p false) (bD T (bI T (f+1) none lvl p).p (bI T (f+1) none lvl p).bad) (aL (bI T (f+1) none lvl p).x):=by
 have ga:=(pS T f none (lvl+1) p hp).1 rfl;have ca:=ih f (Nat.le_refl _) (lvl+1) p (by omega) hp (by omega);simp only[pT]at ca;obtain⟨ga1,ga2,ga3⟩:=ga
 have hR:bI T (f+1) none lvl p=if(bI T f none (lvl+1) p).bad then bI T f none (lvl+1) p else bI T f (some (bI T f none (lvl+1) p).x) lvl (bI T f none (lvl+1) p).p:=by
  rw[bI];rw[if_neg (by omega),if_neg (by omega),if_neg (by omega)]
 generalize bI T (f+1) none lvl p=R at *;generalize bI T f none (lvl+1) p=a at *;obtain⟨ax,ap,ab⟩:=a;dsimp only at *;have e0:∀ σ : aj,View σ (.agg [I ax.op,I ax.v.kind,I ax.v.n,.str ax.v.s,.str ax.s,.aK false EX (ax.l.map aL)]) (aL ax):=fun σ=>View.eqv (aR _).symm (dD _)
 have hfp:ab=true\/8*(T.length-ap)+8<=f:=by
  cases ab with
  | true=>exact .inl rfl
  | false=>have:=ga3 rfl;exact .inr (by omega)
 rw[aR]at ca;simp only[bD,Int.natCast_add,Int.cast_ofNat_Int]at ca;refine bj.bV (iD (by simp) ?_) rfl (aS _ _ _);unfold gQ aP;intro Q au aA aB;repeat' first|refine aq ?_|refine bh ca ?_|refine ak ?_ ?_<;>intro hw<;>try omega|fail
 clear ca;with_reducible refine bn [9,83,84,85,86,87,88,89,90,91,92,93,94,95,96,97,98,99,100,101,102,103,104,105,106,107,108,109,110,111] (fun _:Lq=>[]) (fun q=>[.cells [.aK false ET (T.map mF),I q.p,.bool q.b],.cells [I 0,I 0,I 0,.str [],.str [],.ae],.cells [I q.op,I q.vk,I q.vn,.str q.vs,.str q.s,.aK q.fl EX q.zs]]) (fun q=>(q.seen/\AV.cy q.zs=true)/\q.p<=T.length/\q.f<=f/\(q.b=true->R=⟨q.x,q.p,true⟩)/\(q.b=false->8*(T.length-q.p)+8<=q.f/\R=bI T q.f (some q.x) lvl q.p)) (fun q=>q.f) (⟨ax.op,ax.v.kind,ax.v.n,ax.v.s,ax.s,false,ax.l.map aL,ax,ap,ab,f⟩) ?_ ?_ ?_ ?_
 ·refine⟨⟨e0 [],Ad _⟩,ga2,Nat.le_refl _,fun h=>?_,fun h=>?_⟩
  ·dsimp only at h;subst h;exact hR
  ·dsimp only at h;subst h;refine⟨?_,hR⟩;rcases hfp with h|h
   ·cases h
   ·exact h
 ·rfl
 ·exact at_
 clear hR e0;rintro⟨GO,xvk,xvn,xvs,xs,xfl,xz,X,xp,xb,xf⟩ r0 ⟨⟨a1,a2⟩,a3,a4,a5,a6⟩;dsimp only at a3 a4 a5 a6;have ev:∀ σ : aj,View σ (.agg [I GO,I xvk,I xvn,.str xvs,.str xs,.aK xfl EX xz]) (aL X):=fun σ=>View.mono (σ:=[]) (fun _ _ h=>by simp at h) a1;clear a1;cases xb with
 | true =>
   have a5:=a5 rfl;subst a5;dsimp only at au aA aB;generalize aL X=E at *;repeat' first|refine aq ?_|refine ak ?_ ?_<;>intro hw<;>try omega|fail
   exact bR (ev _) (aW.refl (aS _ _ _))
 | false =>
   obtain⟨a7,a8⟩:=a6 rfl;clear a5 a6;obtain⟨j,rfl⟩:∃ j,xf=j+1:=⟨xf-1,by omega⟩;have cb:=adh T xp lvl;rw[bI]at a8;cases hq:vu T xp false lvl with
   | none =>
     rw[hq]at a8 cb;dsimp only at a8;subst a8;dsimp only at au aA aB;simp only[Ln,bD]at cb;generalize aL X=E at *;repeat' first|refine aq ?_|refine bh cb ?_|refine ak ?_ ?_<;>intro hw<;>try omega|fail
     exact bR (ev _) (aW.refl (aS _ _ _))
   | some o2 =>
     rw[hq]at a8 cb;dsimp only at a8;obtain⟨CH,_,Vq,hp3⟩:=GN hq
     have ajY:o2.op≠0:=by
      intro h;simp only[gO,List.mem_cons,List.not_mem_nil,or_false]at Vq;rcases Vq with rfl|rfl|rfl|rfl|rfl|rfl|rfl|rfl|rfl|rfl|rfl|rfl<;>simp at h
     have cc:=ih j (by omega) (lvl+1) (xp+1) (by omega) (by omega) (by omega);obtain⟨gd1,gd2,gd3⟩:=(pS T j none (lvl+1) (xp+1) (by omega)).1 rfl;simp only[pT]at cc;simp only[Ln,bD]at cb;generalize bI T j none (lvl+1) (xp+1)=d at *;obtain⟨dx,dp,db⟩:=d;dsimp only at *;have e1:∀ σ : aj,View σ (.agg (tA o2.op [.agg [I GO,I xvk,I xvn,.str xvs,.str xs,.aK xfl EX xz],aL dx])) (aL (.mk o2.op v0 [] [X,dx])):=fun σ=>E0 (Lr (ev _) (.refl _ (dD _)));have hpz:AV.cy [.agg [I GO,I xvk,I xvn,.str xvs,.str xs,.aK xfl EX xz],aL dx]=true:=by simp[AV.dn,AV.cy,a2,dD]
     rw[aR dx]at cc e1 hpz;simp only[bD,Int.natCast_add,Int.cast_ofNat_Int]at cc;by_cases Jt:lvl=3
     ·rw[if_pos (.inl Jt)]at a8;subst a8;dsimp only at au aA aB;generalize hE:aL (.mk o2.op v0 [] [X,dx])=E at *;repeat' first|simp (disch:=omega) only[go_sem,au,aA,aB,Int.natCast_add,Int.cast_ofNat_Int]|refine aq ?_|refine bh cb ?_|refine bh cc ?_|refine ak ?_ ?_<;>intro hw<;>try omega|fail
      all_goals first|exact bR (e1 _) (aW.refl (aS _ _ _))|(exfalso;omega)
     ·repeat' first|simp (disch:=omega) only[go_sem,au,aA,aB,Int.natCast_add,Int.cast_ofNat_Int]|refine aq ?_|refine bh cb ?_|refine bh cc ?_|refine ak ?_ ?_<;>intro hw<;>try omega|fail
      refine⟨⟨o2.op,0,0,[],[],true,[.agg [I GO,I xvk,I xvn,.str xvs,.str xs,.aK xfl EX xz],.agg [I dx.op,I dx.v.kind,I dx.v.n,.str dx.v.s,.str dx.s,.aK false EX (dx.l.map aL)]],.mk o2.op v0 [] [X,dx],dp,db,j⟩,⟨⟨e1 [],hpz⟩,gd2,by dsimp only;omega,fun h=>?_,fun h=>?_⟩,by dsimp only;omega,rfl,bJ,at_⟩
      ·dsimp only at h ⊢;subst h;rw[if_pos (.inr rfl)]at a8;exact a8
      ·dsimp only at h ⊢;subst h;rw[if_neg (by simp[Jt])]at a8;have:=gd3 rfl;exact⟨by omega,a8⟩
def XU (T : List Tok) (p : Nat) (rd : Nat -> Nat -> RS) (hp : p <= T.length) (hT : T.length <= 2 ^ 60) (hs : ∀ q, (T.getD q default).s.length <= 2 ^ 62)
    (hrd:iM T p 4 [40]=true->pT T cq rd 0 (p+1)/\(rd 0 (p+1)).p<=T.length) :
    bj Tryz.prog cq 0 [I 7] (bD T p false) (bD T (ja rd T p).p (ja rd T p).bad) (aL (ja rd T p).x):=by
 have hf:=XT T p rd hp hT hs hrd;generalize ja rd T p=R at *;generalize hE:aL R.x=E at *;rw[<-hE,aR]at hf;simp only[bD]at hf;refine bj.bV (iD (by simp) ?_) rfl (aS _ _ _);unfold gQ aP;intro Q au aA aB;repeat' first|refine aq ?_|refine bh hf ?_|refine ak ?_ ?_<;>intro hw<;>try omega|fail
 exact bR (by rw[<-hE];exact View.eqv (aR _).symm (dD _)) (aW.refl (aS _ _ _))
def adi (T : List Tok) (p : Nat) (rd : Nat -> Nat -> RS) (hi : iM T p 1 [105, 102] = true) (hT : T.length <= 2 ^ 60) (hgo : ∀ l q, q <= T.length -> jm T.length q (rd l q))
    (hrd:∀ q,p+1<=q->q<=T.length->pT T cq rd 0 q) :
    bj Tryz.prog cq 0 [I 0] (bD T p false) (bD T (GM rd T (p+1)).p (GM rd T (p+1)).bad) (aL (GM rd T (p+1)).x):=by
 have hp:p+1<=T.length:=kC hi;have co:=vv T p false 1 [105,102] true hi;have ga:=DL hgo hp;have gb:=DM hgo hp;have g0:=hgo 0 (p+1) hp;have g1:=HX hgo (l:=0) (b:=(jO rd T (p+1)).bad) ga.2.1;have c1:=hrd (p+1) (Nat.le_refl _) hp;have m1:=H6 T (rd 0 (p+1)).p (rd 0 (p+1)).bad 1 thenS (by have:=g0.2.1;omega);have c2:=HY (l:=0) (q:=(jO rd T (p+1)).p) (b:=(jO rd T (p+1)).bad) (fun _=>hrd _ ga.1 ga.2.1) (GQ T _ _);have m2:=H6 T (rB rd 0 (jO rd T (p+1)).p (jO rd T (p+1)).bad).p (rB rd 0 (jO rd T (p+1)).p (jO rd T (p+1)).bad).bad 1 EZ (by have:=g1.2.1;omega);have c3:=HY (l:=0) (q:=(tq rd T (p+1)).p) (b:=(tq rd T (p+1)).bad) (fun _=>hrd _ (cD ga.1 gb.1) gb.2.1) (GQ T _ _)
 change bj _ _ _ _ _ (bD T (jO rd T (p+1)).p (jO rd T (p+1)).bad) _ at m1
 change bj _ _ _ _ _ (bD T (tq rd T (p+1)).p (tq rd T (p+1)).bad) _ at m2
 change bj _ _ _ _ _ (bD T (DK rd T (p+1)).p (DK rd T (p+1)).bad) (aL (DK rd T (p+1)).x)at c3
 unfold pT at c1;simp only[GM];have xa:(jO rd T (p+1)).x=(rd 0 (p+1)).x:=rfl;have xb:(tq rd T (p+1)).x=(rB rd 0 (jO rd T (p+1)).p (jO rd T (p+1)).bad).x:=rfl;rw[xa,xb];generalize rB rd 0 (jO rd T (p+1)).p (jO rd T (p+1)).bad=rb at *;generalize jO rd T (p+1)=ra at *;generalize tq rd T (p+1)=rb2 at *;generalize DK rd T (p+1)=rc at *;generalize rd 0 (p+1)=r1 at *;rw[aR]at c1 c2 c3;simp only[bD,thenS,EZ,Int.natCast_add,Int.cast_ofNat_Int]at co c1 m1 c2 m2 c3;generalize hE:aL _=E;refine bj.bV (iD (by simp) ?_) rfl (aS _ _ _);unfold gQ aP;intro Q au aA aB;repeat' first|simp (disch:=omega) only[go_sem,au,aA,aB,Int.natCast_add,Int.cast_ofNat_Int]|refine aq ?_|refine bh co ?_|refine bh c1 ?_|refine bh m1 ?_|refine bh c2 ?_|refine bh m2 ?_|refine bh c3 ?_|refine ak ?_ ?_<;>intro hw<;>try omega|fail
 refine bR ?_ (aW.refl (aS _ _ _));rw[<-hE];refine jb ?_;rw[bu,bu,bu,bt,aR,aR,aR];refine View.weak _ _ _ ?_;simp
def aam(T:List Tok)(hT:T.length<=2 ^ 60)(hs:∀ q,(T.getD q default).s.length<=2 ^ 62): ∀ f,∀ lvl p,lvl<=7->p<=T.length->8*(T.length-p)+(8-lvl)<f->pT T cq (fun l q=>bI T f none l q) lvl p:=by
 intro f
 induction f using Nat.strongRecOn with
 | ind f ih =>
 intro lvl p hl hp hf;obtain⟨f,rfl⟩:∃ f',f=f'+1:=⟨f-1,by omega⟩;have Qt:=ih f (Nat.lt_succ_self _);have hgo:∀ l q,q<=T.length->jm T.length q (bI T f none l q):=fun l q hq=>(pS T f none l q hq).1 rfl;simp only[pT];by_cases h5:1<=lvl/\lvl<=5
 ·exact UH T hT f lvl p h5.1 h5.2 hp (by omega) (fun j hj l q h1 h2 h3=>ih j (by omega) l q h1 h2 h3)
 by_cases h0:lvl=0
 ·subst h0
  have hR:bI T (f+1) none 0 p=if iM T p 1 [105,102]then GM (fun l q=>bI T f none l q) T (p+1)else bI T f none 1 p:=by
   rw[bI,if_pos rfl]
  by_cases hi:iM T p 1 [105,102]=true
  ·rw[if_pos hi]at hR;have CH:=kC hi;rw[hR];exact adi T p (fun l q=>bI T f none l q) hi hT hgo (fun q h1 h2=>Qt 0 q (by omega) h2 (by omega))
  ·rw[if_neg hi]at hR;have hi':iM T p 1 [105,102]=false:=by simpa using hi
   have co:=vv T p false 1 [105,102] false hi';have cr:=Qt 1 p (by omega) hp (by omega);rw[hR];simp only[pT]at cr;generalize bI T f none 1 p=R at *;generalize hE:aL R.x=E at *;rw[<-hE,aR]at cr;simp only[bD,Int.natCast_add,Int.cast_ofNat_Int]at co cr;refine bj.bV (iD (by simp) ?_) rfl (aS _ _ _);unfold gQ aP;intro Q au aA aB;repeat' first|simp (disch:=omega) only[go_sem,au,aA,aB,Int.natCast_add,Int.cast_ofNat_Int,Int.reduceAdd]|refine aq ?_|refine bh co ?_|refine bh cr ?_|refine ak ?_ ?_<;>intro hw<;>try omega|fail
   exact bR (by rw[<-hE];exact View.eqv (aR _).symm (dD _)) (aW.refl (aS _ _ _))
 by_cases h6:lvl=6/\iM T p 4 [45]=true
 ·obtain⟨rfl,hi⟩:=h6;have CH:=kC hi
  have hR:bI T (f+1) none 6 p=⟨.mk 3 v0 [] [(bI T f none 6 (p+1)).x],(bI T f none 6 (p+1)).p,(bI T f none 6 (p+1)).bad⟩:=by
   rw[bI,if_neg h0,if_pos ⟨rfl,hi⟩]
  have co:=vv T p false 4 [45] true hi;have cr:=Qt 6 (p+1) (by omega) CH (by omega);rw[hR];simp only[pT]at cr;generalize bI T f none 6 (p+1)=R at *;obtain⟨rx,rp,rb⟩:=R;dsimp only at *;have e1:∀ σ : aj,View σ (.agg (tA 3 [aL rx])) (aL (.mk 3 v0 [] [rx])):=fun σ=>E0 (.cons (.refl _ (dD _)) (.nil _));rw[aR rx]at e1 cr;generalize hE:aL (.mk 3 v0 [] [rx])=E at *;simp only[bD,Int.natCast_add,Int.cast_ofNat_Int]at co cr;refine bj.bV (iD (by simp) ?_) rfl (aS _ _ _);unfold gQ aP;intro Q au aA aB;repeat' first|simp (disch:=omega) only[go_sem,au,aA,aB,Int.natCast_add,Int.cast_ofNat_Int]|refine aq ?_|refine bh co ?_|refine bh cr ?_|refine ak ?_ ?_<;>intro hw<;>try omega|fail
  exact bR (e1 _) (aW.refl (aS _ _ _))
 have h67:6<=lvl:=by omega
 have hR:bI T (f+1) none lvl p=ja (fun l q=>bI T f none l q) T p:=by
  rw[bI,if_neg h0,if_neg h6,if_pos h67]
 have ca:=XU T p (fun l q=>bI T f none l q) hp hT hs (fun h=>⟨Qt 0 (p+1) (by omega) (kC h) (by have:=kC h;omega),(hgo 0 (p+1) (kC h)).2.1⟩);rw[hR];by_cases hl6:lvl=6
 ·have hno : iM T p 4 [45] = false := by
   cases hq:iM T p 4 [45]with
   | false=>rfl
   | true=>exact absurd ⟨hl6,hq⟩ h6
  have co:=vv T p false 4 [45] false hno;subst hl6;generalize ja (fun l q=>bI T f none l q) T p=R at *;generalize hE:aL R.x=E at *;rw[<-hE,aR]at ca;simp only[bD,Int.natCast_add,Int.cast_ofNat_Int]at co ca;refine bj.bV (iD (by simp) ?_) rfl (aS _ _ _);unfold gQ aP;intro Q au aA aB;repeat' first|simp (disch:=omega) only[go_sem,au,aA,aB,Int.natCast_add,Int.cast_ofNat_Int,Int.reduceAdd]|refine aq ?_|refine bh co ?_|refine bh ca ?_|refine ak ?_ ?_<;>intro hw<;>try omega|fail
  exact bR (by rw[<-hE];exact View.eqv (aR _).symm (dD _)) (aW.refl (aS _ _ _))
 ·obtain rfl:lvl=7:=by omega
  exact ca
end Go.Proofs.YtmbgnaoilncbnaaGreatDoor
