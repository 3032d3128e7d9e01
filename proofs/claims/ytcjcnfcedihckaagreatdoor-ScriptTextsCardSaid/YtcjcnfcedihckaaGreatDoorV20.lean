/- Part. -/
import Derived.Test.YtcjcnfcedihckaaGreatDoorV19
set_option linter.all false
namespace Go.Proofs.YtcjcnfcedihckaaGreatDoor
open Go.AM
set_option maxRecDepth 4000
def iR{σ : ae}{op vk vn:Int}{vs s:aG}{L:AV}{l:List Expr}(hL:View σ L (.aF false EX (l.map aI))): View σ (.agg [I op,I vk,I vn,.str vs,.str s,L]) (aI (.mk op ⟨vk,vn,vs⟩ s l)):=by
 rw[aO];refine View.om (.cons (.refl _ rfl) (.cons (.refl _ rfl) (.cons (.refl _ rfl) (.cons (.refl _ rfl) (.cons (.refl _ rfl) (.cons ?_ (.nil _)))))));exact hL
def mP(T:List Tok)(n:FuncId)(rd:Nat->Nat->RS)(l q:Nat): Prop:=bC aE n 0 [I l] (bH T q false) (bH T (rd l q).p (rd l q).bad) (aI (rd l q).x)
def oz(T:List Tok)(p:Nat)(k:Int)(s:aG)(o:Bool)(hk:k≠0)(hp:p<=2 ^ 61)(h:iC T p k s=o): bC aE 310 0 [I k,.str s] (bH T p false) (bH T (if o then p+1 else p) false) (.bool o):=by
 have:=BS T p false k s hk hp;unfold nI at this;rw[show dW T p false k s=o from h]at this;cases o
 ·simpa using this
 ·simpa using this
def OJ (T : List Tok) (p : Nat) (rd : Nat -> Nat -> RS) (hp : p <= T.length) (hT : T.length <= 2 ^ 60) (hs : ∀ q, (T.getD q default).s.length <= 2 ^ 62)
    (hrd:iC T p 4 [40]=true->mP T 292 rd 0 (p+1)/\(rd 0 (p+1)).p<=T.length) :
    bC aE 312 0 [] (bH T p false) (bH T (iQ rd T p).p (iQ rd T p).bad) (aI (iQ rd T p).x):=by
 have mV:=fun o (ho:iC T p 4 [40]=o)=>oz T p 4 [40] o (by decide) (by omega) ho;have GA:=Gz T p false;have hsp:=hs p;simp only[BQ,Bool.false_eq_true,if_false]at GA;by_cases rI:iC T p 4 [40]=true
 ·have ha:iQ rd T p=gW T (rd 0 (p+1)) 4 [41]:=by unfold iQ;rw[if_pos rI]
  obtain⟨hr,hb⟩:=hrd rI;unfold mP at hr;rw[ha];have mV:=mV true rI;generalize rd 0 (p+1)=r at *;have hm:=xy T r.p r.bad 4 [41] (by decide) (by omega);rw[aO]at hr;simp only[bH,if_true]at mV hr hm;generalize hE:aI _=E;refine bC.cC (gM.go ?_) rfl (aQ _ _ _);unfold dS;intro Q au aA aB;repeat' first|refine aq ?_|refine bw mV ?_|refine bw hr ?_|refine bw hm ?_|refine ak ?_ ?_<;>intro hw<;>try omega|fail
  exact cu (View.eqv (by rw[<-hE];exact(aO _).symm) (by rw[<-hE];exact da _)) (bf.refl (aQ _ _ _))
 have LD:iC T p 4 [40]=false:=by simpa using rI
 have mV:=mV false LD;simp only[bH,Bool.false_eq_true,if_false]at mV GA;have ha:iQ rd T p=(if(T.getD p default).kind=2 then sS ⟨1,(T.getD p default).n,[]⟩ (p+1)
 else if(T.getD p default).kind=3 then sS ⟨2,0,(T.getD p default).s⟩ (p+1)
 else if(T.getD p default).kind=1 then
  (match pg (T.getD p default).s with
  | some v=>sS v (p+1)
  | none=>if fc (T.getD p default).s then⟨.mk 2 v0 (T.getD p default).s [],p+1,false⟩else ⟨x0,p,true⟩)
 else⟨x0,p,true⟩:RS):=by unfold iQ;rw[if_neg rI]<;>rfl
 rw[ha];clear ha hrd hs rI LD;generalize T.getD p default=t at *;obtain⟨tk,ts,tn,tp⟩:=t;simp only[jU]at GA hsp ⊢;have hname:=vM ts hsp;have hword:=MI ts;by_cases h2:tk=2
 ·rw[if_pos h2];generalize hE:aI _=E;refine bC.cC (gM.go ?_) rfl (aQ _ _ _);unfold dS;intro Q au aA aB;repeat' first|refine aq ?_|refine bw mV ?_|refine bw GA ?_|refine ak ?_ ?_<;>intro hw<;>try omega|fail
  exact cu (by rw[<-hE];exact iR (.ai _)) (bf.eqv rfl (aQ T (p+1) false))
 rw[if_neg h2];by_cases h3:tk=3
 ·rw[if_pos h3];generalize hE:aI _=E;refine bC.cC (gM.go ?_) rfl (aQ _ _ _);unfold dS;intro Q au aA aB;repeat' first|refine aq ?_|refine bw mV ?_|refine bw GA ?_|refine ak ?_ ?_<;>intro hw<;>try omega|fail
  exact cu (by rw[<-hE];exact iR (.ai _)) (bf.eqv rfl (aQ T (p+1) false))
 rw[if_neg h3];by_cases h1:tk=1
 case neg =>
  rw[if_neg h1];generalize hE:aI _=E;refine bC.cC (gM.go ?_) rfl (aQ _ _ _);unfold dS;intro Q au aA aB;repeat' first|refine aq ?_|refine bw mV ?_|refine bw GA ?_|refine ak ?_ ?_<;>intro hw<;>try omega|fail
  exact cu (by rw[<-hE];exact iR (.ai _)) (bf.eqv rfl (aQ T p true))
 rw[if_pos h1];cases hw:pg ts with
 | some v =>
   rw[hw]at hword;simp only[bB,Option.isSome_some,eR]at hword;dsimp only;generalize hE:aI _=E;refine bC.cC (gM.go ?_) rfl (aQ _ _ _);unfold dS;intro Q au aA aB;repeat' first|refine aq ?_|refine bw mV ?_|refine bw GA ?_|refine ak ?_ ?_<;>intro hw<;>try omega|fail
   exact cu (by rw[<-hE];exact iR (.ai _)) (bf.eqv rfl (aQ T (p+1) false))
 | none =>
   rw[hw]at hword;simp only[Option.getD_none,Option.isSome_none,eR,v0]at hword;dsimp only;cases hn:fc ts with
   | true =>
     rw[hn]at hname;simp only[if_true];generalize hE:aI _=E;refine bC.cC (gM.go ?_) rfl (aQ _ _ _);unfold dS;intro Q au aA aB;repeat' first|refine aq ?_|refine bw mV ?_|refine bw GA ?_|refine ak ?_ ?_<;>intro hw<;>try omega|fail
     exact cu (by rw[<-hE];exact iR (.ai _)) (bf.eqv rfl (aQ T (p+1) false))
   | false =>
     rw[hn]at hname;simp only[Bool.false_eq_true,if_false];generalize hE:aI _=E;refine bC.cC (gM.go ?_) rfl (aQ _ _ _);unfold dS;intro Q au aA aB;repeat' first|refine aq ?_|refine bw mV ?_|refine bw GA ?_|refine ak ?_ ?_<;>intro hw<;>try omega|fail
     exact cu (by rw[<-hE];exact iR (.ai _)) (bf.eqv rfl (aQ T p true))
def zq {T : List Tok} {n : FuncId} {rd : Nat -> Nat -> RS} {l q : Nat} {b : Bool} (h : b = false -> mP T n rd l q) (EP : bC aE n 0 [I l] (bH T q true) (bH T q true) (aI x0)) :
    bC aE n 0 [I l] (bH T q b) (bH T (nJ rd l q b).p (nJ rd l q b).bad) (aI (nJ rd l q b).x):=by
 cases b with
 | true=>exact EP
 | false=>exact h rfl
def Lh (T : List Tok) (p : Nat) (rd : Nat -> Nat -> RS) (hp : p <= T.length) (hT : T.length <= 2 ^ 60) (mZ : ∀ l q, q <= T.length -> je T.length q (rd l q))
    (EP:∀ q,bC aE 292 0 [I 0] (bH T q true) (bH T q true) (aI x0)) (hrd:∀ q,p<=q->q<=T.length->mP T 292 rd 0 q) :
    bC aE 311 0 [] (bH T p false) (bH T (ym rd T p).p (ym rd T p).bad) (aI (ym rd T p).x):=by
 have ga:=vR mZ hp;have gb:=vS mZ hp;have g0:=mZ 0 p hp;have g1:=zp mZ (l:=0) (b:=(jw rd T p).bad) ga.2.1;have c1:=hrd p (Nat.le_refl _) hp;have m1:=xy T (rd 0 p).p (rd 0 p).bad 1 thenS (by decide) (by have:=g0.2.1;omega);have c2:=zq (l:=0) (q:=(jw rd T p).p) (b:=(jw rd T p).bad) (fun _=>hrd _ ga.1 ga.2.1) (EP _);have m2:=xy T (nJ rd 0 (jw rd T p).p (jw rd T p).bad).p (nJ rd 0 (jw rd T p).p (jw rd T p).bad).bad 1 wP (by decide) (by have:=g1.2.1;omega);have c3:=zq (l:=0) (q:=(ow rd T p).p) (b:=(ow rd T p).bad) (fun _=>hrd _ (bY ga.1 gb.1) gb.2.1) (EP _)
 change bC _ _ _ _ _ (bH T (jw rd T p).p (jw rd T p).bad) _ at m1
 change bC _ _ _ _ _ (bH T (ow rd T p).p (ow rd T p).bad) _ at m2
 change bC _ _ _ _ _ (bH T (vQ rd T p).p (vQ rd T p).bad) (aI (vQ rd T p).x)at c3
 unfold mP at c1;simp only[ym];have xa:(jw rd T p).x=(rd 0 p).x:=rfl;have xb:(ow rd T p).x=(nJ rd 0 (jw rd T p).p (jw rd T p).bad).x:=rfl;rw[xa,xb];generalize nJ rd 0 (jw rd T p).p (jw rd T p).bad=rb at *;generalize jw rd T p=ra at *;generalize ow rd T p=rb2 at *;generalize vQ rd T p=rc at *;generalize rd 0 p=r1 at *;rw[aO]at c1 c2 c3;simp only[bH,thenS,wP]at c1 m1 c2 m2 c3;generalize hE:aI _=E;refine bC.cC (wm.go ?_) rfl (aQ _ _ _);unfold dS;intro Q au aA aB;repeat' first|refine aq ?_|refine bw c1 ?_|refine bw m1 ?_|refine bw c2 ?_|refine bw m2 ?_|refine bw c3 ?_|refine ak ?_ ?_<;>intro hw<;>try omega|fail
 refine cu ?_ (bf.refl (aQ _ _ _));rw[<-hE];refine iR ?_;rw[aR,aR,aR,bu,aO,aO,aO];refine View.weak _ _ _ ?_;simp
@[go_sem ↓] def abB (l:Nat) (J:Env->ae->Prop) (Q:AQ) (e:Env) (σ : ae):qZ l J Q (.goto l) e σ = J e σ:=by simp[qZ]
def IY{e':Env}: ∀(l:List (Nat × AV)),At l e'->puts l e'=e'
 | [],_=>rfl
 | (d, v) :: l, h => by
   simp only[puts];rw[IY l (fun p hp=>h p (cE _ hp))];exact mj (h (d,v) (by simp))
def X2 {P : Program} {l : Nat} {c r : cI} {Q : AQ} {e : Env} {σ : ae} {α : Type} (cs : α -> List (Nat × AV)) (S : α -> ae) (A : α -> Prop) (μ : α -> Nat)
    (hb:iU P c (qZ l (fun e' σ'=> ∃ x,A x/\σ'=S x/\At (cs x) e') Q) e σ)
    (hr:∀ x r0,A x->iU P r (qZ l (fun e' σ'=> ∃ x',A x'/\ μ x' < μ x/\σ'=S x'/\At (cs x') e') Q) (puts (cs x) r0) (S x)):Md P (.mk:Tg (l,c,r,Q,e,σ)):=by
 refine⟨fun n e' σ'=> ∃ x,A x/\At (cs x) e'/\σ'=S x/\ μ x=n,y_ (fun ex e2 σ2 hq=>?_) _ _ hb,?_⟩
 ·cases ex<;>try exact hq
  obtain⟨h1,x,a,hs,ht⟩:=hq;exact⟨h1,_,x,a,ht,hs,rfl⟩
 ·rintro n e' σ' ⟨x1,a1,t1,rfl,rfl⟩;have h:=hr x1 e' a1;rw[IY _ t1]at h;refine y_ (fun ex e2 σ2 hq=>?_) _ _ h;cases ex<;>try exact hq
  obtain⟨h1,x',a',hm,hs,ht⟩:=hq;exact⟨h1,_,hm,x',a',ht,hs,rfl⟩
def oA(op:Int)(zs:List AV): List AV:=[I op,I 0,I 0,.str [],.str [],.aF true EX zs]
def wQ{σ : ae}{op:Int}{zs:List AV}{l:List Expr}(h:bf [] zs (l.map aI)): View σ (.agg (oA op zs)) (aI (.mk op v0 [] l)) :=
 View.mono (σ:=[]) (fun _ _ h=>by simp at h) (iR (View.Zq h))
def BU{a b:AV}{x y:Expr}(h:View [] a (aI x))(h2:View [] b (aI y)): bf [] [a,b] ([x,y].map aI):= .cons h (.cons h2 (.nil _))
def Rz{op:Int}{zs:List AV}(h:AV.bX zs=true): AV.bX (oA op zs)=true:=by simp[oA,AV.dh,AV.bX,h]
structure Lp where
 op:Int
 l:List Expr
 zs:List AV
 p:Nat
 f:Nat
def GB(T:List Tok)(lvl:Int)(p:Nat): bC aE 292 0 [I lvl] (bH T p true) (bH T p true) (aI x0):=by
 generalize hE:aI x0=E;refine bC.cC (eU.go ?_) rfl (aQ _ _ _);unfold dS;intro Q au aA aB;repeat' first|refine aq ?_|refine ak ?_ ?_<;>intro hw<;>try omega|fail
 exact cu (by rw[<-hE];exact iR (.ai _)) (bf.refl (aQ T p true))
def IZ (T : List Tok) (hT : T.length <= 2 ^ 60) (rd : Nat -> Nat -> RS) (f lvl p : Nat) (h1 : 1 <= lvl) (h5 : lvl <= 5) (hp : p <= T.length) (hf : 8 * (T.length - p) + (8 - lvl) <= f) (hrd : rd = fun l q => bN T f none l q)
    (ih:∀ j,j<=f-> ∀ l q,l<=7->q<=T.length->8*(T.length-q)+(8-l)<j->mP T 292 (fun l q=>bN T j none l q) l q) :
    bC aE 292 0 [I lvl] (bH T p false) (bH T (bN T (f+1) none lvl p).p (bN T (f+1) none lvl p).bad) (aI (bN T (f+1) none lvl p).x):=by
 have ga:=(mO T f none (lvl+1) p hp).1 rfl;have ca:=ih f (Nat.le_refl _) (lvl+1) p (by omega) hp (by omega);simp only[mP]at ca;obtain⟨ga1,ga2,ZY⟩:=ga
 have hR:bN T (f+1) none lvl p=if(bN T f none (lvl+1) p).bad then bN T f none (lvl+1) p else bN T f (some (bN T f none (lvl+1) p).x) lvl (bN T f none (lvl+1) p).p:=by
  rw[bN];rw[if_neg (by omega),if_neg (by omega),if_neg (by omega)]
 generalize bN T (f+1) none lvl p=R at *;generalize bN T f none (lvl+1) p=a at *;obtain⟨ax,ap,ab⟩:=a;dsimp only at *;have cb:=Ao T ap ab lvl (by omega);rw[aO]at ca;cases ab with
 | true =>
   simp only[if_true]at hR;subst hR;dsimp only
   have hn:pX T ap true lvl=none:=by
    cases ho:pX T ap true lvl with
    | none=>rfl
    | some o=>have:=(yn ho).2.1;cases this
   simp only[J1,hn,BR,Option.isSome_none,Bool.false_eq_true,if_false]at cb;generalize hE:aI ax=E;simp only[bH,Int.natCast_add,Int.cast_ofNat_Int]at ca cb;refine bC.cC (eU.go ?_) rfl (aQ _ _ _);unfold dS;intro Q au aA aB;repeat' first|simp (disch:=omega) only[go_sem,au,aA,aB,Int.natCast_add,Int.cast_ofNat_Int]|refine aq ?_|refine bw ca ?_|refine bw cb ?_|refine ak ?_ ?_<;>intro hw<;>try omega|fail
   exact cu (by rw[<-hE];exact View.eqv (aO _).symm (da _)) (bf.refl (aQ _ _ _))
 | false =>
   simp only[Bool.false_eq_true,if_false]at hR;have gp:=ZY rfl;obtain⟨f,rfl⟩:∃ f',f=f'+1:=⟨f-1,by omega⟩;rw[bN]at hR;have e0:∀ σ : ae,View σ (.agg [I ax.op,I ax.v.kind,I ax.v.n,.str ax.v.s,.str ax.s,.aF false EX (ax.l.map aI)]) (aI ax):=fun σ=>View.eqv (aO _).symm (da _);cases ho:pX T ap false lvl with
   | none =>
     rw[ho]at hR;dsimp only at hR;subst hR;dsimp only;simp only[J1,ho,BR,Option.isSome_none,Bool.false_eq_true,if_false]at cb;generalize hE:aI ax=E at *;simp only[bH,Int.natCast_add,Int.cast_ofNat_Int]at ca cb;refine bC.cC (eU.go ?_) rfl (aQ _ _ _);unfold dS;intro Q au aA aB;repeat' first|simp (disch:=omega) only[go_sem,au,aA,aB,Int.natCast_add,Int.cast_ofNat_Int]|refine aq ?_|refine bw ca ?_|refine bw cb ?_|refine ak ?_ ?_<;>intro hw<;>try omega|fail
     exact cu (e0 _) (bf.refl (aQ _ _ _))
   | some o =>
     rw[ho]at hR;dsimp only at hR;obtain⟨wR,_,wS,BV⟩:=yn ho
     have hop:o.op≠0:=by
      intro h;simp only[gj,List.mem_cons,List.not_mem_nil,or_false]at wS;rcases wS with rfl|rfl|rfl|rfl|rfl|rfl|rfl|rfl|rfl|rfl|rfl|rfl<;>simp at h
     have cc:=ih f (by omega) (lvl+1) (ap+1) (by omega) (by omega) (by omega);have gc:=(mO T f none (lvl+1) (ap+1) (by omega)).1 rfl;obtain⟨gc1,gc2,gc3⟩:=gc;simp only[mP]at cc;simp only[J1,ho,BR,Option.isSome_some,if_true]at cb;generalize bN T f none (lvl+1) (ap+1)=c at *;obtain⟨cx,cp,RA⟩:=c;dsimp only at *;by_cases hend:lvl=3\/RA=true
     ·rw[if_pos hend]at hR;subst hR;dsimp only;have e1:∀ σ : ae,View σ (.agg (oA o.op [.agg [I ax.op,I ax.v.kind,I ax.v.n,.str ax.v.s,.str ax.s,.aF false EX (ax.l.map aI)],aI cx])) (aI (.mk o.op v0 [] [ax,cx])):=fun σ=>wQ (BU (e0 _) (.refl _ (da _)));rw[aO cx]at e1 cc;generalize hE:aI (.mk o.op v0 [] [ax,cx])=E at *;simp only[bH,Int.natCast_add,Int.cast_ofNat_Int]at ca cb cc;have h3:¬ (¬ lvl=3/\RA=false):=by rcases hend with h|h<;>simp[h]
      refine bC.cC (eU.go ?_) rfl (aQ _ _ _);unfold dS;intro Q au aA aB;rcases hend with hend|hend
      ·subst hend;repeat' first|simp (disch:=omega) only[go_sem,au,aA,aB,Int.natCast_add,Int.cast_ofNat_Int]|refine aq ?_|refine bw ca ?_|refine bw cb ?_|refine bw cc ?_|refine ak ?_ ?_<;>intro hw<;>try omega|fail
       all_goals first|exact cu (e1 _) (bf.refl (aQ _ _ _))|(exfalso;omega)
      ·subst hend;repeat' first|simp (disch:=omega) only[go_sem,au,aA,aB,Int.natCast_add,Int.cast_ofNat_Int]|refine aq ?_|refine bw ca ?_|refine bw cb ?_|refine bw cc ?_|refine ak ?_ ?_<;>intro hw<;>try omega|fail
       all_goals first|exact cu (e1 _) (bf.refl (aQ _ _ _))|(exfalso;omega)
     ·rw[if_neg hend]at hR;have P3:lvl≠3:=fun h=>hend (.inl h)
      have hcb:RA=false:=by cases RA with
       | false=>rfl
       | true=>exact absurd (.inr rfl) hend
      subst hcb;have e2:=e0 [];rw[aO cx]at cc;simp only[bH,Int.natCast_add,Int.cast_ofNat_Int]at ca cb cc;have gq:=gc3 rfl;refine bC.cC (eU.go ?_) rfl (aQ _ _ _);unfold dS;intro Q au aA aB;repeat' first|refine gn_ ?_|refine ak ?_ ?_<;>intro hw<;>try omega|fail
      with_reducible refine X2 (fun x:Lp=>[(0,.ref 0 0),(1,I lvl),(4,.ref 1 0),(5,.ref 2 0)]) (fun x=>[.cells [.aF false ET (T.map jU),I x.p,.bool false],.cells [I 0,I 0,I 0,.str [],.str [],.ai],.cells [I x.op,I 0,I 0,.str [],.str [],.aF true EX x.zs]]) (fun x=>(bf [] x.zs (x.l.map aI)/\AV.bX x.zs=true)/\x.p<=T.length/\8*(T.length-x.p)+8<=x.f/\x.f<=f/\R=bN T x.f (some (.mk x.op v0 [] x.l)) lvl x.p) (fun x=>x.f) ?_ ?_
      ·repeat' first|simp (disch:=omega) only[go_sem,au,aA,aB,Int.natCast_add,Int.cast_ofNat_Int]|refine aq ?_|refine bw ca ?_|refine bw cb ?_|refine bw cc ?_|refine ak ?_ ?_<;>intro hw<;>try omega|fail
       refine⟨⟨o.op,[ax,cx],[.agg [I ax.op,I ax.v.kind,I ax.v.n,.str ax.v.s,.str ax.s,.aF false EX (ax.l.map aI)],aI cx],cp,f⟩,⟨⟨BU e2 (.refl _ (da _)),by simp⟩,gc2,by dsimp only;omega,Nat.le_refl _,hR⟩,?_,at_⟩;rw[aO cx]
      ·clear ca cb cc;rintro⟨yo,xl,xz,xp,xf⟩ r0 ⟨⟨a1,a2⟩,a3,a4,a5,a6⟩;dsimp only at a1 a2 a3 a4 a5 a6;obtain⟨j,rfl⟩:∃ j,xf=j+1:=⟨xf-1,by omega⟩;have cb:=Ao T xp false lvl (by omega);rw[bN]at a6;clear hR;cases hq:pX T xp false lvl with
       | none =>
         rw[hq]at a6;dsimp only at a6;subst a6;dsimp only at au aA aB;simp only[J1,hq,BR,Option.isSome_none,Bool.false_eq_true,if_false,bH,Int.natCast_add,Int.cast_ofNat_Int]at cb;have ev:∀ σ : ae,View σ (.agg (oA yo xz)) (aI (.mk yo v0 [] xl)):=fun σ=>wQ a1;generalize hE:aI (.mk yo v0 [] xl)=E at *;repeat' first|simp (disch:=omega) only[go_sem,au,aA,aB,Int.natCast_add,Int.cast_ofNat_Int]|refine aq ?_|refine bw cb ?_|refine ak ?_ ?_<;>intro hw<;>try omega|fail
         exact cu (ev _) (bf.refl (aQ _ _ _))
       | some o2 =>
         rw[hq]at a6;dsimp only at a6;obtain⟨qH,_,Dq,WR⟩:=yn hq
         have adI:o2.op≠0:=by
          intro h;simp only[gj,List.mem_cons,List.not_mem_nil,or_false]at Dq;rcases Dq with rfl|rfl|rfl|rfl|rfl|rfl|rfl|rfl|rfl|rfl|rfl|rfl<;>simp at h
         have cc:=ih j (by omega) (lvl+1) (xp+1) (by omega) (by omega) (by omega);obtain⟨gd1,ZZ,Z0⟩:=(mO T j none (lvl+1) (xp+1) (by omega)).1 rfl;simp only[mP]at cc;simp only[J1,hq,BR,Option.isSome_some,if_true,bH,Int.natCast_add,Int.cast_ofNat_Int]at cb;generalize bN T j none (lvl+1) (xp+1)=d at *;obtain⟨dx,dp,db⟩:=d;dsimp only at *;have e1:∀ σ : ae,View σ (.agg (oA o2.op [.agg (oA yo xz),aI dx])) (aI (.mk o2.op v0 [] [.mk yo v0 [] xl,dx])):=fun σ=>wQ (BU (wQ a1) (.refl _ (da _)));rw[aO dx]at cc e1;simp only[bH,Int.natCast_add,Int.cast_ofNat_Int]at cc;cases db with
         | true =>
           rw[if_pos (.inr rfl)]at a6;subst a6;dsimp only at au aA aB;generalize hE:aI (.mk o2.op v0 [] [.mk yo v0 [] xl,dx])=E at *;repeat' first|simp (disch:=omega) only[go_sem,au,aA,aB,Int.natCast_add,Int.cast_ofNat_Int]|refine aq ?_|refine bw cb ?_|refine bw cc ?_|refine ak ?_ ?_<;>intro hw<;>try omega|fail
           all_goals first|exact cu (e1 _) (bf.refl (aQ _ _ _))|(exfalso;omega)
         | false =>
           rw[if_neg (by simp[P3])]at a6;have gr:=Z0 rfl;repeat' first|simp (disch:=omega) only[go_sem,au,aA,aB,Int.natCast_add,Int.cast_ofNat_Int]|refine aq ?_|refine bw cb ?_|refine bw cc ?_|refine ak ?_ ?_<;>intro hw<;>try omega|fail
           refine⟨⟨o2.op,[.mk yo v0 [] xl,dx],[.agg (oA yo xz),aI dx],dp,j⟩,⟨⟨BU (wQ a1) (.refl _ (da _)),by simp[AV.dh,AV.bX,Rz a2,da]⟩,ZZ,by dsimp only;omega,by dsimp only;omega,a6⟩,by dsimp only;omega,?_,at_⟩;rw[aO dx];rfl
def OL(T:List Tok)(hT:T.length<=2 ^ 60)(hs:∀ q,(T.getD q default).s.length<=2 ^ 62): ∀ f,∀ lvl p,lvl<=7->p<=T.length->8*(T.length-p)+(8-lvl)<f->mP T 292 (fun l q=>bN T f none l q) lvl p:=by
 intro f
 induction f using Nat.strongRecOn with
 | ind f ih =>
 intro lvl p hl hp hf;obtain⟨f,rfl⟩:∃ f',f=f'+1:=⟨f-1,by omega⟩;have GC:=ih f (Nat.lt_succ_self _);have mZ:∀ l q,q<=T.length->je T.length q (bN T f none l q):=fun l q hq=>(mO T f none l q hq).1 rfl;simp only[mP];by_cases h5:1<=lvl/\lvl<=5
 ·exact IZ T hT _ f lvl p h5.1 h5.2 hp (by omega) rfl (fun j hj l q h1 h2 h3=>ih j (by omega) l q h1 h2 h3)
 by_cases h0:lvl=0
 ·subst h0
  have hR:bN T (f+1) none 0 p=if iC T p 1 [105,102]then ym (fun l q=>bN T f none l q) T (p+1)else bN T f none 1 p:=by
   rw[bN,if_pos rfl]
  by_cases hi:iC T p 1 [105,102]=true
  ·rw[if_pos hi]at hR;have qH:=jM hi;have co:=oz T p 1 [105,102] true (by decide) (by omega) hi;have cb:=Lh T (p+1) (fun l q=>bN T f none l q) qH hT mZ (fun q=>GB T 0 q) (fun q h1 h2=>GC 0 q (by omega) h2 (by omega));rw[hR];generalize ym (fun l q=>bN T f none l q) T (p+1)=R at *;simp only[if_true]at co;generalize hE:aI R.x=E at *;have hEc:∃ cs,E = .agg cs:=⟨_,by rw[<-hE,aO]⟩;have hEp:E.dh=true:=by rw[<-hE];exact da _
   rw[<-hE,aO]at cb;simp only[bH,Int.natCast_add,Int.cast_ofNat_Int]at co cb;refine bC.cC (eU.go ?_) rfl (aQ _ _ _);unfold dS;intro Q au aA aB;repeat' first|simp (disch:=omega) only[go_sem,au,aA,aB,Int.natCast_add,Int.cast_ofNat_Int]|refine aq ?_|refine bw co ?_|refine bw cb ?_|refine ak ?_ ?_<;>intro hw<;>try omega|fail
   exact cu (by rw[<-hE];exact View.eqv (aO _).symm (da _)) (bf.refl (aQ _ _ _))
  ·rw[if_neg hi]at hR;have hi':iC T p 1 [105,102]=false:=by simpa using hi
   have co:=oz T p 1 [105,102] false (by decide) (by omega) hi';have cr:=GC 1 p (by omega) hp (by omega);rw[hR];simp only[mP]at cr;generalize bN T f none 1 p=R at *;generalize hE:aI R.x=E at *;rw[<-hE,aO]at cr;simp only[Bool.false_eq_true,if_false]at co;simp only[bH,Int.natCast_add,Int.cast_ofNat_Int]at co cr;refine bC.cC (eU.go ?_) rfl (aQ _ _ _);unfold dS;intro Q au aA aB;repeat' first|simp (disch:=omega) only[go_sem,au,aA,aB,Int.natCast_add,Int.cast_ofNat_Int]|refine aq ?_|refine bw co ?_|refine bw cr ?_|refine ak ?_ ?_<;>intro hw<;>try omega|fail
   exact cu (by rw[<-hE];exact View.eqv (aO _).symm (da _)) (bf.refl (aQ _ _ _))
 by_cases h6:lvl=6/\iC T p 4 [45]=true
 ·obtain⟨rfl,hi⟩:=h6;have qH:=jM hi
  have hR:bN T (f+1) none 6 p=⟨.mk 3 v0 [] [(bN T f none 6 (p+1)).x],(bN T f none 6 (p+1)).p,(bN T f none 6 (p+1)).bad⟩:=by
   rw[bN,if_neg h0,if_pos ⟨rfl,hi⟩]
  have co:=oz T p 4 [45] true (by decide) (by omega) hi;have cr:=GC 6 (p+1) (by omega) qH (by omega);rw[hR];simp only[mP]at cr;generalize bN T f none 6 (p+1)=R at *;obtain⟨rx,rp,rb⟩:=R;dsimp only at *;have e1:∀ σ : ae,View σ (.agg (oA 3 [aI rx])) (aI (.mk 3 v0 [] [rx])):=fun σ=>wQ (.cons (.refl _ (da _)) (.nil _));rw[aO rx]at e1 cr;generalize hE:aI (.mk 3 v0 [] [rx])=E at *;simp only[if_true]at co;simp only[bH,Int.natCast_add,Int.cast_ofNat_Int]at co cr;refine bC.cC (eU.go ?_) rfl (aQ _ _ _);unfold dS;intro Q au aA aB;repeat' first|simp (disch:=omega) only[go_sem,au,aA,aB,Int.natCast_add,Int.cast_ofNat_Int]|refine aq ?_|refine bw co ?_|refine bw cr ?_|refine ak ?_ ?_<;>intro hw<;>try omega|fail
  exact cu (e1 _) (bf.refl (aQ _ _ _))
 have Z1:6<=lvl:=by omega
 have hR:bN T (f+1) none lvl p=iQ (fun l q=>bN T f none l q) T p:=by
  rw[bN,if_neg h0,if_neg h6,if_pos Z1]
 have ca:=OJ T p (fun l q=>bN T f none l q) hp hT hs (fun h=>⟨GC 0 (p+1) (by omega) (jM h) (by have:=jM h;omega),(mZ 0 (p+1) (jM h)).2.1⟩);rw[hR];have co:=fun h=>oz T p 4 [45] false (by decide) (by omega) h
 have hno:lvl=6->iC T p 4 [45]=false:=fun h=>by
  cases hq:iC T p 4 [45]with
  | false=>rfl
  | true=>exact absurd ⟨h,hq⟩ h6
 generalize iQ (fun l q=>bN T f none l q) T p=R at *;generalize hE:aI R.x=E at *;rw[<-hE,aO]at ca;simp only[Bool.false_eq_true,if_false]at co;simp only[bH,Int.natCast_add,Int.cast_ofNat_Int]at co ca;refine bC.cC (eU.go ?_) rfl (aQ _ _ _);unfold dS;intro Q au aA aB;by_cases TH:lvl=6
 ·have co:=co (hno TH);subst TH;repeat' first|simp (disch:=omega) only[go_sem,au,aA,aB,Int.natCast_add,Int.cast_ofNat_Int]|refine aq ?_|refine bw co ?_|refine bw ca ?_|refine ak ?_ ?_<;>intro hw<;>try omega|fail
  exact cu (by rw[<-hE];exact View.eqv (aO _).symm (da _)) (bf.refl (aQ _ _ _))
 ·obtain rfl:lvl=7:=by omega
  repeat' first|simp (disch:=omega) only[go_sem,au,aA,aB,Int.natCast_add,Int.cast_ofNat_Int]|refine aq ?_|refine bw ca ?_|refine ak ?_ ?_<;>intro hw<;>try omega|fail
  exact cu (by rw[<-hE];exact View.eqv (aO _).symm (da _)) (bf.refl (aQ _ _ _))
def yp(op:Int)(v:eu)(s:aG)(l:List Expr): ew (.mk op v s l)=lq l+1:=by simp only[ew]
def J2: Option Expr->Nat
 | none=>1
 | some x=>ew x
def I0{T:List Tok}{r:RS}{k:Int}{s:aG}: (gW T r k s).x=r.x/\r.p<=(gW T r k s).p:=by
 refine⟨rfl,?_⟩;simp only[gW,nI];split<;>omega
def TI{rd:Nat->Nat->RS}{l q:Nat}{b:Bool}(h:ew (rd l q).x+4*q<=1+4*(rd l q).p): ew (nJ rd l q b).x+4*q<=1+4*(nJ rd l q b).p:=by
 unfold nJ;split
 ·simp[x0,ew,lq]
 ·exact h
def abC(T:List Tok)(f:Nat): ∀(m:Option Expr) (lvl p:Nat),p<=T.length->ew (bN T f m lvl p).x+4*p<=J2 m+4*(bN T f m lvl p).p:=by
 induction f with
 | zero =>
   intro m lvl p hp
   have:1<=J2 m:=by
    cases m with
    | none=>exact Nat.le_refl _
    | some x=>cases x;simp[J2,ew]
   simp only[bN,x0,ew,lq];omega
 | succ f ih =>
   intro m lvl p hp;have hrd:∀ l q,q<=T.length->ew (bN T f none l q).x+4*q<=1+4*(bN T f none l q).p:=fun l q hq=>ih none l q hq;have mZ:∀ l q,q<=T.length->je T.length q (bN T f none l q):=fun l q hq=>(mO T f none l q hq).1 rfl;cases m with
   | none =>
     simp only[bN,J2];split
     ·split
      ·rename_i h;have h1:=jM h;have ga:=vR mZ (p:=p+1) h1;have gb:=vS mZ (p:=p+1) h1;have a:=hrd 0 (p+1) h1;have b:=TI (b:=(jw (bN T f none) T (p+1)).bad) (hrd 0 _ ga.2.1);have c:=TI (b:=(ow (bN T f none) T (p+1)).bad) (hrd 0 _ gb.2.1);have a2:=I0 (T:=T) (r:=bN T f none 0 (p+1)) (k:=1) (s:=thenS);have b2:=I0 (T:=T) (r:=nJ (bN T f none) 0 (jw (bN T f none) T (p+1)).p (jw (bN T f none) T (p+1)).bad) (k:=1) (s:=wP);have ea:(jw (bN T f none) T (p+1))=gW T (bN T f none 0 (p+1)) 1 thenS:=rfl;have eb:(ow (bN T f none) T (p+1))=gW T (nJ (bN T f none) 0 (jw (bN T f none) T (p+1)).p (jw (bN T f none) T (p+1)).bad) 1 wP:=rfl;have ec:(vQ (bN T f none) T (p+1))=nJ (bN T f none) 0 (ow (bN T f none) T (p+1)).p (ow (bN T f none) T (p+1)).bad:=rfl;show ew (.mk 16 v0 [] [(jw (bN T f none) T (p+1)).x,(ow (bN T f none) T (p+1)).x,(vQ (bN T f none) T (p+1)).x])+4*p<=1+4*(vQ (bN T f none) T (p+1)).p;rw[<-ea]at a2;rw[<-eb]at b2;rw[<-ec]at c;simp only[yp,lq];rw[a2.1,b2.1];omega
      ·exact hrd 1 p hp
     ·split
      ·rename_i h;have h1:=jM h.2;have c:=hrd 6 (p+1) h1;simp only[yp,lq];omega
      ·split
       ·have ok:∀ v s,ew (.mk 1 v s [])+4*p<=1+4*(p+1):=fun v s=>by simp only[yp,lq];omega
        unfold iQ;split
        ·rename_i h;have c:=hrd 0 (p+1) (jM h);have a2:=I0 (T:=T) (r:=bN T f none 0 (p+1)) (k:=4) (s:=[41]);show ew (gW T (bN T f none 0 (p+1)) 4 [41]).x+4*p<=1+4*(gW T (bN T f none 0 (p+1)) 4 [41]).p;rw[a2.1];omega
        ·repeat' split
         all_goals simp only[sS,x0,yp,lq]
         all_goals omega
       ·split
        ·exact hrd _ _ hp
        ·have a:=hrd (lvl+1) p hp;have b:=ih (some (bN T f none (lvl+1) p).x) lvl _ (mZ (lvl+1) p hp).2.1;simp only[J2]at b;omega
   | some x =>
     simp only[bN,J2];split
     ·exact Nat.le_refl _
     ·rename_i o ho;have h1:=(yn ho).1;have a:=hrd (lvl+1) (p+1) h1;have g:=mZ (lvl+1) (p+1) h1;split
      ·simp only[yp,lq];omega
      ·have b:=ih (some (.mk o.op v0 [] [x,(bN T f none (lvl+1) (p+1)).x])) lvl _ g.2.1;simp only[J2,yp,lq]at b;omega
def dQ(T:List Tok)(fr lvl:Int): Expr × Int × Int :=
 if fr<0\/(T.length:Int)<fr\/lvl<0\/7<lvl then(x0,0,2)
 else if(bN T (8*T.length+9) none lvl.toNat fr.toNat).bad then(x0,(bN T (8*T.length+9) none lvl.toNat fr.toNat).p,11)
 else((bN T (8*T.length+9) none lvl.toNat fr.toNat).x,(bN T (8*T.length+9) none lvl.toNat fr.toNat).p,0)
def tQ(r:Expr × Int × Int): AV:= .bJ [aI r.1,I r.2.1,I r.2.2]
def gX{σ : ae}{a E:AV}{n m:Int}(h:View σ a E): bf σ [a,I n,I m] [E,I n,I m]:= .cons h (.cons (.refl _ rfl) (.cons (.refl _ rfl) (.nil _)))
def Dz(T:List Tok)(fr lvl:Int)(hT:T.length<=2 ^ 50)(hs:∀ q,(T.getD q default).s.length<=2 ^ 62): aH aE 268 [nk T,I fr,I lvl] (tQ (dQ T fr lvl)):=by
 by_cases hg:fr<0\/(T.length:Int)<fr\/lvl<0\/7<lvl
 ·have e:dQ T fr lvl=(x0,0,2):=by unfold dQ;rw[if_pos hg]
  rw[e];have e1:∀ σ : ae,View σ (.agg [I 0,I 0,I 0,.str [],.str [],.ai]) (aI x0):=fun σ=>iR (.ai _);simp only[tQ];generalize aI x0=E at *;refine aJ sK ?_;intro Q au aA aB;repeat' first|refine aq ?_|refine ak ?_ ?_<;>intro hw<;>try omega|fail
  all_goals first|exact bG (gX (e1 _))|(exfalso;omega)
 ·obtain⟨p,rfl⟩:∃ p:Nat,fr=p:=⟨fr.toNat,by omega⟩;obtain⟨l,rfl⟩:∃ l:Nat,lvl=l:=⟨lvl.toNat,by omega⟩;have cr:=OL T (by omega) hs (8*T.length+9) l p (by omega) (by omega) (by omega)
  have e:dQ T p l=if(bN T (8*T.length+9) none l p).bad then(x0,((bN T (8*T.length+9) none l p).p:Int),11)else ((bN T (8*T.length+9) none l p).x,((bN T (8*T.length+9) none l p).p:Int),0):=by
   unfold dQ;rw[if_neg hg,Int.toNat_natCast,Int.toNat_natCast]
  rw[e];simp only[mP]at cr;generalize bN T (8*T.length+9) none l p=r at *;obtain⟨rx,rp,rb⟩:=r;dsimp only at *;have e1:∀ σ : ae,View σ (.agg [I 0,I 0,I 0,.str [],.str [],.ai]) (aI x0):=fun σ=>iR (.ai _);have e2:∀ σ : ae,View σ (.agg [I rx.op,I rx.v.kind,I rx.v.n,.str rx.v.s,.str rx.s,.aF false EX (rx.l.map aI)]) (aI rx):=fun σ=>View.eqv (aO _).symm (da _);rw[aO]at cr;simp only[bH]at cr;cases rb with
  | true =>
    simp only[if_true,tQ];generalize aI x0=E at *;refine aJ sK ?_;intro Q au aA aB;repeat' first|refine aq ?_|refine bw cr ?_|refine ak ?_ ?_<;>intro hw<;>try omega|fail
    all_goals first|exact bG (gX (e1 _))|(exfalso;omega)
  | false =>
    simp only[Bool.false_eq_true,if_false,tQ];generalize aI rx=E at *;refine aJ sK ?_;intro Q au aA aB;repeat' first|refine aq ?_|refine bw cr ?_|refine ak ?_ ?_<;>intro hw<;>try omega|fail
    all_goals first|exact bG (gX (e2 _))|(exfalso;omega)
def X3(r b:aG)(i:Nat): (jd r b i).s.length<=b.length+r.length:=by
 fun_induction jd r b i<;>simp_all[PR.err]<;>omega
def Z2(s:aG): (fY s).s.length<=s.length+2:=by
 unfold fY;simp only;split
 ·unfold uF;split<;>simp[PR.err];omega
 ·split
  ·unfold k7;simp only;split
   ·simp[PR.err]
   ·split<;>simp[PR.err]
  ·split
   ·have:=X3 (s.drop 1) [] 1;rw[List.length_drop]at this;simp only[List.length_nil]at this;omega
   ·unfold o_;split
    ·rename_i m hm;have h2:=fx hm;simp only[nG,List.mem_cons,List.not_mem_nil,or_false]at h2;rcases h2 with h|h|h|h|h|h|h|h|h|h|h|h|h|h|h|h<;>subst h<;>simp
    ·simp[PR.err]
def RB(f:Nat): ∀(s:aG) (pos:Nat) (acc:List Tok),(∀ t ∈ acc,t.s.length<=1000)->s.length<=900->(nU f s pos acc).1.length<=acc.length+s.length/\ ∀ t ∈ (nU f s pos acc).1,t.s.length<=1000:=by
 induction f with
 | zero=>intro s pos acc h _;exact⟨Nat.le_add_right _ _,h⟩
 | succ f ih =>
   intro s pos acc h hs;cases s with
   | nil=>exact⟨Nat.le_add_right _ _,h⟩
   | cons c r =>
     rw[ou];simp only[List.length_cons]at hs ⊢;split
     ·have:=ih r (pos+1) acc h (by omega);exact⟨by omega,this.2⟩
     ·split
      ·rename_i he;have h1:=EH (s:=c::r) (by simp) he;have h2:=Z2 (c::r);simp only[List.length_cons]at h1 h2
       have:=ih ((c::r).drop (fY (c::r)).len) (pos+(fY (c::r)).len) (acc++[⟨(fY (c::r)).kind,(fY (c::r)).s,(fY (c::r)).n,pos⟩]) (fun t ht=>by
        rcases List.mem_append.1 ht with ht|ht
        ·exact h t ht
        ·simp only[List.mem_cons,List.not_mem_nil,or_false]at ht;subst ht;dsimp only;omega) (by rw[List.length_drop,List.length_cons];omega)
       rw[List.length_drop,aC,List.length_cons]at this;simp only[List.length_cons,List.length_nil]at this;exact⟨by omega,this.2⟩
      ·exact⟨Nat.zero_le _,fun t ht=>by cases ht⟩
def kP(s:aG): (aX s).1.length<=200/\ ∀ q,((aX s).1.getD q default).s.length<=1000:=by
 have h:(aX s).1.length<=200/\ ∀ t ∈ (aX s).1,t.s.length<=1000:=by
  unfold aX;split
  ·exact⟨Nat.zero_le _,fun t ht=>by cases ht⟩
  ·have:=RB (s.length+1) s 0 [] (fun t ht=>by cases ht) (by omega);simp only[List.length_nil]at this;exact⟨by omega,this.2⟩
 refine⟨h.1,fun q=>?_⟩;by_cases hq:q<(aX s).1.length
 ·exact h.2 _ (aV hq)
 ·rw[my (by omega)];exact bD _
def zu(T:List Tok)(fr lvl:Int): ew (dQ T fr lvl).1<=1+4*T.length:=by
 have h0:ew x0=1:=by simp[x0,ew,lq]
 unfold dQ;split
 ·dsimp only;omega
 ·rename_i hg;split
  ·dsimp only;omega
  ·have:=abC T (8*T.length+9) none lvl.toNat fr.toNat (by omega);have g:=(mO T (8*T.length+9) none lvl.toNat fr.toNat (by omega)).2.2;simp only[J2]at this;dsimp only;omega
def di(s:aG): Expr × Int × Int :=
 if(aX s).2.2≠0 then(x0,(aX s).2.1,(aX s).2.2)
 else if(dQ (aX s).1 0 0).2.1<(aX s).1.length then(x0,((aX s).1.getD (dQ (aX s).1 0 0).2.1.toNat default).pos,11)
 else if(dQ (aX s).1 0 0).2.2≠0 then(x0,s.length,(dQ (aX s).1 0 0).2.2)
 else if 12<iP (dQ (aX s).1 0 0).1 then(x0,0,12)
 else((dQ (aX s).1 0 0).1,0,0)
def C0(T:List Tok)(fr lvl:Int): 0<=(dQ T fr lvl).2.1/\(dQ T fr lvl).2.1<=T.length:=by
 unfold dQ;split
 ·exact⟨Int.le_refl _,by dsimp only;omega⟩
 ·rename_i hg;have g:=(mO T (8*T.length+9) none lvl.toNat fr.toNat (by omega)).2.2;split<;>(dsimp only;omega)
def MJ(s:aG)(hs:s.length<=2 ^ 30): aH aE 233 [.str s] (tQ (di s)):=by
 have cl:=IU s hs;obtain⟨f1,f2⟩:=kP s;have cr:=Dz (aX s).1 0 0 (by omega) (fun q=>by have:=f2 q;omega);have hz:=zu (aX s).1 0 0;obtain⟨GD,qH⟩:=C0 (aX s).1 0 0
 have hP:di s=if(aX s).2.2≠0 then(x0,(aX s).2.1,(aX s).2.2)
  else if(dQ (aX s).1 0 0).2.1<(aX s).1.length then(x0,((aX s).1.getD (dQ (aX s).1 0 0).2.1.toNat default).pos,11)
  else if(dQ (aX s).1 0 0).2.2≠0 then(x0,(s.length:Int),(dQ (aX s).1 0 0).2.2)
  else if 12<iP (dQ (aX s).1 0 0).1 then(x0,0,12)
  else((dQ (aX s).1 0 0).1,0,0):=rfl
 rw[hP];clear hP f2;generalize dQ (aX s).1 0 0=r at *;generalize aX s=L at *;obtain⟨T,la,le⟩:=L;obtain⟨rx,rn,re⟩:=r;dsimp only at *;have cd:=xw rx (by omega);obtain⟨n,rfl⟩:∃ n:Nat,rn=n:=⟨rn.toNat,by omega⟩;have e1:∀ σ : ae,View σ (.agg [I 0,I 0,I 0,.str [],.str [],.ai]) (aI x0):=fun σ=>iR (.ai _);have e2:∀ σ : ae,View σ (.agg [I rx.op,I rx.v.kind,I rx.v.n,.str rx.v.s,.str rx.s,.aF false EX (rx.l.map aI)]) (aI rx):=fun σ=>View.eqv (aO _).symm (da _);simp only[tQ]at cr ⊢;rw[aO]at cr cd;simp only[BL,nk]at cl cr;by_cases h1:le≠0
 ·rw[if_pos h1];generalize aI x0=E at *;refine aJ lX ?_;intro Q au aA aB;repeat' first|refine aq ?_|refine ak ?_ ?_<;>intro hw<;>try omega|fail
  all_goals exact bG (gX (e1 _))
 rw[if_neg h1];by_cases h2:(n:Int)<T.length
 ·rw[if_pos h2,fR];generalize aI x0=E at *;have hn:n<T.length:=by omega
  refine aJ lX ?_;intro Q au aA aB;repeat' first|refine aq ?_|refine ak ?_ ?_<;>intro hw<;>try omega|fail
  all_goals exact bG (gX (e1 _))
 rw[if_neg h2];by_cases h3:re≠0
 ·rw[if_pos h3];generalize aI x0=E at *;refine aJ lX ?_;intro Q au aA aB;repeat' first|refine aq ?_|refine ak ?_ ?_<;>intro hw<;>try omega|fail
  all_goals exact bG (gX (e1 _))
 rw[if_neg h3];by_cases h4:12<iP rx
 ·rw[if_pos h4];generalize aI x0=E at *;refine aJ lX ?_;intro Q au aA aB;repeat' first|refine aq ?_|refine ak ?_ ?_<;>intro hw<;>try omega|fail
  all_goals exact bG (gX (e1 _))
 ·rw[if_neg h4];generalize aI rx=E at *;refine aJ lX ?_;intro Q au aA aB;repeat' first|refine aq ?_|refine ak ?_ ?_<;>intro hw<;>try omega|fail
  all_goals exact bG (gX (e2 _))
def EU(T:List Tok)(p:Nat)(b:Bool)(k:Int)(s:aG): bC aE 299 0 [I k,.str s] (bH T p b) (bH T p b) (.bool (iC T p k s)):=by
 unfold iC;refine bC.cC (BA.go ?_) rfl (aQ _ _ _);unfold dS;intro Q au aA aB;by_cases hp:p<T.length
 ·repeat' first|refine aq ?_|refine ak ?_ ?_<;>intro hw<;>try omega|fail
  all_goals refine cu (View.eqv ?_ (by rfl)) (bf.refl (aQ T p b))
  all_goals (clear au aA aB;refine congrArg AV.bool ?_;rw[aS];simp_all)
 ·repeat' first|refine aq ?_|refine ak ?_ ?_<;>intro hw<;>try omega|fail
  refine cu (View.eqv ?_ (by rfl)) (bf.refl (aQ T p b));rw[decide_eq_false hp];rfl
def pY(T:List Tok)(p:Nat)(b:Bool)(k:Int)(s:aG)(o:Bool)(h:iC T p k s=o): bC aE 299 0 [I k,.str s] (bH T p b) (bH T p b) (.bool o):=by
 have:=EU T p b k s;rwa[h]at this
def zw(T:List Tok)(p:Nat)(b:Bool)(k:Int)(s:aG)(hp:p<=2 ^ 61): bC aE 300 0 [I k,.str s] (bH T p b) (bH T (nI T p b k s) (b || !(dW T p b k s))) (.bJ []):=by
 unfold nI dW;cases b with
 | true =>
   refine bC.cC (rE.go ?_) rfl (aQ _ _ _);unfold dS;intro Q au aA aB;repeat' first|refine aq ?_|refine ak ?_ ?_<;>intro hw<;>try omega|fail
   refine ri rfl (bf.eqv ?_ (aQ _ _ _));simp[bH]
 | false =>
   have hn:=EU T p false k s;generalize iC T p k s=o at hn ⊢;simp only[bH]at hn;refine bC.cC (rE.go ?_) rfl (aQ _ _ _);unfold dS;intro Q au aA aB;cases o
   ·repeat' first|refine aq ?_|refine bw hn ?_|refine ak ?_ ?_<;>intro hw<;>try omega|fail
    refine ri rfl (bf.eqv ?_ (aQ _ _ _));simp[bH]
   ·repeat' first|refine aq ?_|refine bw hn ?_|refine ak ?_ ?_<;>intro hw<;>try omega|fail
    refine ri rfl (bf.eqv ?_ (aQ _ _ _));simp[bH]
def Z3: ∀ i:Nat,i<12->cJ ((i:Int)+4)=gj.getD i default/\cP ((i:Int)+4)=(gj.getD i default).level/\(gj.getD i default).op=(i:Int)+4/\j8 (gj.getD i default)=(if(i:Int)+4=14\/(i:Int)+4=15 then 1 else 4):=by decide
def VN(T:List Tok)(p:Nat)(lvl:Int): bC aE 301 0 [I lvl] (bH T p false) (bH T p false) (I (BR (pX T p false lvl))):=by
 refine bC.cC (BD.go ?_) rfl (aQ _ _ _);unfold dS;intro Q au aA aB;have hi:=fun k s=>EU T p false k s;simp only[bH]at hi;repeat' first|refine aq ?_|refine ak ?_ ?_<;>intro hw<;>try omega|fail
 with_reducible refine bn [4,5,6,7,8,9,10,11,12,13,14,15,16,17,18,19,20,21,22,23,24,25,26,27,28] (fun i:Nat=>[(5,I ((i:Int)+4))]) (fun _=>[.cells [.aF false ET (T.map jU),I p,.bool false]]) (fun i=>i<=12/\ ∀ k,k<i->((gj.getD k default).level==lvl && dW T p false (j8 (gj.getD k default)) (gj.getD k default).sign)=false) (fun i=>12-i) (0) ?_ ?_ ?_ ?_
 ·simp
 ·rfl
 ·exact at_
 rintro i r ⟨h1,h2⟩;by_cases Z4:i<12
 ·obtain⟨b1,b2,b3,b4⟩:=Z3 i Z4;obtain⟨x,hx⟩:∃ x,gj.getD i default=x:=⟨_,rfl⟩;rw[hx]at b1 b2 b3 b4
  have hyes:(x.level==lvl && iC T p (j8 x) x.sign)=true->pX T p false lvl=some x:=fun h=>by
   unfold pX;rw[qL (p:=fun y:yh=>y.level==lvl && dW T p false (j8 y) y.sign) (by exact Z4) h2 (by rw[hx];exact h),hx]
  have IX:(x.level==lvl && iC T p (j8 x) x.sign)=false-> ∀ k,k<i+1->((gj.getD k default).level==lvl && dW T p false (j8 (gj.getD k default)) (gj.getD k default).sign)=false:=fun h=>aY h2 (by rw[hx];exact h);clear h2;have hl:=Dw ((i:Int)+4);have hs:=zk ((i:Int)+4);rw[b2]at hl;rw[b1]at hs
  have i_:(((i:Int)+4=14\/(i:Int)+4=15)/\j8 x=1)\/(¬ ((i:Int)+4=14\/(i:Int)+4=15)/\j8 x=4):=by
   rw[b4];split<;>simp_all
  clear b1 b2 b4;rcases i_ with⟨hlv,TF⟩|⟨hlv,TF⟩;all_goals rw[TF]at hyes IX
  all_goals (
   repeat' first|refine aq ?_|refine bw (hi 1 _) ?_|refine bw (hi 4 _) ?_|refine ak ?_ ?_<;>intro hw<;>try omega|fail
   all_goals first
    | (have hy := hyes (by simp_all)
       refine cu (View.eqv ?_ rfl) (bf.refl (aQ T p false));rw[hy];simp only[BR,b3];done)
    | (refine ⟨i + 1, ?_, ?_, by first | rfl | (simp [go_sem]; done), bL, at_⟩ <;> (try dsimp only)
       ·exact⟨by omega,IX (by simp_all)⟩
       ·omega))
 ·have hno : pX T p false lvl = none := by
   unfold pX;rw[qy (p:=fun y:yh=>y.level==lvl && dW T p false (j8 y) y.sign) (fun k hk=>h2 k (by have:gj.length=12:=rfl;omega))]
  repeat' first|refine aq ?_|refine ak ?_ ?_<;>intro hw<;>try omega|fail
  refine cu (View.eqv ?_ rfl) (bf.refl (aQ T p false));rw[hno];rfl
