/- Part. -/
import Derived.Test.YtmbgnaoilncbnaaGreatDoorX18
set_option linter.all false
namespace Go.Proofs.YtmbgnaoilncbnaaGreatDoor
open Go.AM
set_option maxRecDepth 4000
def ie(T:List Tok)(r:RS)(k:Int)(s:aJ): RS:=⟨r.x,rA T r.p r.bad k s,r.bad || !(ew T r.p r.bad k s)⟩
def rB(rd:Nat->Nat->RS)(lvl p:Nat)(b:Bool): RS:=if b then⟨x0,p,true⟩else rd lvl p
def zl(v:eg)(p:Nat): RS:=⟨.mk 1 v [] [],p,false⟩
def ja(rd:Nat->Nat->RS)(T:List Tok)(p:Nat): RS :=
 if iM T p 4 [40]then ie T (rd 0 (p+1)) 4 [41]
 else if(T.getD p default).kind=2 then zl ⟨1,(T.getD p default).n,[]⟩ (p+1)
 else if(T.getD p default).kind=3 then zl ⟨2,0,(T.getD p default).s⟩ (p+1)
 else if(T.getD p default).kind=1 then
  (match uk (T.getD p default).s with
  | some v=>zl v (p+1)
  | none=>if gE (T.getD p default).s then⟨.mk 2 v0 (T.getD p default).s [],p+1,false⟩else ⟨x0,p,true⟩)
 else⟨x0,p,true⟩
def thenS: aJ:=[116,104,101,110]
def EZ: aJ:=[101,108,115,101]
def jO(rd:Nat->Nat->RS)(T:List Tok)(p:Nat): RS:=ie T (rd 0 p) 1 thenS
def tq(rd:Nat->Nat->RS)(T:List Tok)(p:Nat): RS:=ie T (rB rd 0 (jO rd T p).p (jO rd T p).bad) 1 EZ
def DK(rd:Nat->Nat->RS)(T:List Tok)(p:Nat): RS:=rB rd 0 (tq rd T p).p (tq rd T p).bad
def GM(rd:Nat->Nat->RS)(T:List Tok)(p:Nat): RS:=⟨.mk 16 v0 [] [(jO rd T p).x,(tq rd T p).x,(DK rd T p).x],(DK rd T p).p,(DK rd T p).bad⟩
def bI(T:List Tok): Nat->Option Expr->Nat->Nat->RS
 | 0,_,_,p=>⟨x0,p,true⟩
 | f + 1, none, lvl, p =>
   if lvl=0 then(if iM T p 1 [105,102]then GM (fun l q=>bI T f none l q) T (p+1)else bI T f none 1 p)
   else if lvl=6/\iM T p 4 [45]=true then⟨.mk 3 v0 [] [(bI T f none 6 (p+1)).x],(bI T f none 6 (p+1)).p,(bI T f none 6 (p+1)).bad⟩
   else if 6<=lvl then ja (fun l q=>bI T f none l q) T p
   else if(bI T f none (lvl+1) p).bad then bI T f none (lvl+1) p
   else bI T f (some (bI T f none (lvl+1) p).x) lvl (bI T f none (lvl+1) p).p
 | f + 1, some x, lvl, p =>
   match vu T p false lvl with
   | none=>⟨x,p,false⟩
   | some o =>
     if lvl=3\/(bI T f none (lvl+1) (p+1)).bad=true then⟨.mk o.op v0 [] [x,(bI T f none (lvl+1) (p+1)).x],(bI T f none (lvl+1) (p+1)).p,(bI T f none (lvl+1) (p+1)).bad⟩
     else bI T f (some (.mk o.op v0 [] [x,(bI T f none (lvl+1) (p+1)).x])) lvl (bI T f none (lvl+1) (p+1)).p
def kC{T:List Tok}{p:Nat}{k:Int}{s:aJ}(h:iM T p k s=true): p<T.length:=by
 simp only[iM,aF,decide_eq_true_eq]at h;exact h.1
def kD{T:List Tok}{p:Nat}{b:Bool}{k:Int}{s:aJ}(h:ew T p b k s=true): p<T.length/\b=false:=by
 simp only[ew,aF,bZ]at h;exact⟨kC h.2,h.1⟩
def GN{T:List Tok}{p:Nat}{b:Bool}{lvl:Int}{o:GJ}(h:vu T p b lvl=some o): p<T.length/\b=false/\o ∈ gO/\o.level=lvl:=by
 have h1:=eX h;simp only[aF,beq_iff_eq]at h1;exact⟨(kD h1.2).1,(kD h1.2).2,fK h,h1.1⟩
def jm(n p:Nat)(r:RS): Prop:=p<=r.p/\r.p<=n/\(r.bad=false->p<r.p)
def Af{T:List Tok}{p:Nat}{r:RS}(k:Int)(s:aJ)(h:jm T.length p r): jm T.length p (ie T r k s):=by
 obtain⟨h1,h2,h3⟩:=h;unfold ie jm rA;dsimp only;by_cases ho:ew T r.p r.bad k s=true
 ·have:=kD ho;have h4:=h3 this.2;rw[if_pos ho];refine⟨by omega,by omega,fun _=>by omega⟩
 ·rw[if_neg ho];refine⟨h1,h2,fun h=>?_⟩;simp only[dL]at ho;rw[ho]at h;simp at h
def HX{T:List Tok}{rd:Nat->Nat->RS}(hrd:∀ l q,q<=T.length->jm T.length q (rd l q)){l q:Nat}{b:Bool}(hq:q<=T.length): jm T.length q (rB rd l q b):=by
 unfold rB;split
 ·exact⟨Nat.le_refl _,hq,fun h=>by cases h⟩
 ·exact hrd l q hq
def jm.from{n p q:Nat}{r:RS}(h:jm n q r)(hpq:p<=q): jm n p r:=⟨cD hpq h.1,h.2.1,fun hb=>Nat.lt_of_le_of_lt hpq (h.2.2 hb)⟩
def DL{T:List Tok}{rd:Nat->Nat->RS}(hrd:∀ l q,q<=T.length->jm T.length q (rd l q)){p:Nat}(hp:p<=T.length): jm T.length p (jO rd T p):=Af _ _ (hrd 0 p hp)
def DM{T:List Tok}{rd:Nat->Nat->RS}(hrd:∀ l q,q<=T.length->jm T.length q (rd l q)){p:Nat}(hp:p<=T.length): jm T.length (jO rd T p).p (tq rd T p):=Af _ _ (HX hrd (DL hrd hp).2.1)
def adg{T:List Tok}{rd:Nat->Nat->RS}(hrd:∀ l q,q<=T.length->jm T.length q (rd l q)){p:Nat}(hp:p<=T.length): jm T.length (tq rd T p).p (DK rd T p):=HX hrd (DM hrd hp).2.1
def abH{T:List Tok}{rd:Nat->Nat->RS}(hrd:∀ l q,q<=T.length->jm T.length q (rd l q)){p:Nat}(hp:p<=T.length): jm T.length p (ja rd T p):=by
 have stay:∀ x,jm T.length p ⟨x,p,true⟩:=fun x=>⟨Nat.le_refl _,hp,fun h=>by cases h⟩;have k0:¬ p<T.length->(T.getD p default).kind=0:=fun h=>by rw[qI (by omega)];rfl
 have step:(T.getD p default).kind≠0-> ∀ x,jm T.length p ⟨x,p+1,false⟩:=fun hk x=>by
  have:p<T.length:=by
   by_cases h:p<T.length
   ·exact h
   ·exact absurd (k0 h) hk
  exact⟨Nat.le_succ _,this,fun _=>Nat.lt_succ_self _⟩
 unfold ja;split
 ·rename_i h;exact Af _ _ ((hrd 0 (p+1) (kC h)).from (Nat.le_succ _))
 ·split
  ·exact step (by omega) _
  ·split
   ·exact step (by omega) _
   ·split
    ·split
     ·exact step (by omega) _
     ·split
      ·exact step (by omega) _
      ·exact stay _
    ·exact stay _
def pS(T:List Tok)(f:Nat): ∀(m:Option Expr) (lvl p:Nat),p<=T.length->(m=none->jm T.length p (bI T f m lvl p))/\p<=(bI T f m lvl p).p/\(bI T f m lvl p).p<=T.length:=by
 induction f with
 | zero =>
   intro m lvl p hp;simp only[bI];exact⟨fun _=>⟨Nat.le_refl _,hp,fun h=>by cases h⟩,Nat.le_refl _,hp⟩
 | succ f ih =>
   intro m lvl p hp;have hrd:∀ l q,q<=T.length->jm T.length q (bI T f none l q):=fun l q hq=>(ih none l q hq).1 rfl;cases m with
   | none =>
     have:jm T.length p (bI T (f+1) none lvl p):=by
      simp only[bI];split
      ·split
       ·rename_i h;have h1:=kC h;have a:=DL hrd (p:=p+1) h1;have b:=DM hrd (p:=p+1) h1;have c:=adg hrd (p:=p+1) h1;exact(show jm T.length (tq (fun l q=>bI T f none l q) T (p+1)).p (GM (fun l q=>bI T f none l q) T (p+1)) from⟨c.1,c.2.1,c.2.2⟩).from (cD (Nat.le_succ _) (cD a.1 b.1))
       ·exact hrd 1 p hp
      ·split
       ·rename_i h;have h1:=kC h.2;have c:=hrd 6 (p+1) h1;exact(show jm T.length (p+1) ⟨_,_,_⟩ from⟨c.1,c.2.1,c.2.2⟩).from (Nat.le_succ _)
       ·split
        ·exact abH hrd hp
        ·split
         ·exact hrd _ _ hp
         ·rename_i hb;have a:=hrd (lvl+1) p hp;have b:=ih (some (bI T f none (lvl+1) p).x) lvl _ a.2.1;have:=a.2.2 (by simpa using hb);exact⟨by omega,b.2.2,fun _=>by omega⟩
     exact⟨fun _=>this,this.1,this.2.1⟩
   | some x =>
     refine⟨fun h=>(by cases h),?_⟩;simp only[bI];split
     ·exact⟨Nat.le_refl _,hp⟩
     ·rename_i o ho;have h1:=(GN ho).1;have a:=hrd (lvl+1) (p+1) h1;split
      ·exact⟨by have:=a.1;dsimp only;omega,a.2.1⟩
      ·have b:=ih (some (.mk o.op v0 [] [x,(bI T f none (lvl+1) (p+1)).x])) lvl _ a.2.1;exact⟨by have:=a.1;omega,b.2.2⟩
def jb{σ : aj}{op vk vn:Int}{vs s:aJ}{L:AV}{l:List Expr}(hL:View σ L (.aK false EX (l.map aL))): View σ (.agg [I op,I vk,I vn,.str vs,.str s,L]) (aL (.mk op ⟨vk,vn,vs⟩ s l)):=by
 rw[aR];refine View.nU (.cons (.refl _ rfl) (.cons (.refl _ rfl) (.cons (.refl _ rfl) (.cons (.refl _ rfl) (.cons (.refl _ rfl) (.cons ?_ (.nil _)))))));exact hL
def pT(T:List Tok)(n:FuncId)(rd:Nat->Nat->RS)(l q:Nat): Prop:=bj Tryz.prog n 0 [I l] (bD T q false) (bD T (rd l q).p (rd l q).bad) (aL (rd l q).x)
def tu(T:List Tok)(p:Nat)(k:Int)(s:aJ)(o:Bool)(hk:k≠0)(hp:p<=2 ^ 61)(h:iM T p k s=o): bj Tryz.prog iu 0 [I k,.str s] (bD T p false) (bD T (if o then p+1 else p) false) (.bool o):=by
 have:=Lo T p false k s hk hp;unfold rA at this;rw[show ew T p false k s=o from h]at this;cases o
 ·simpa using this
 ·simpa using this
def XR (T : List Tok) (p : Nat) (rd : Nat -> Nat -> RS) (hp : p <= T.length) (hT : T.length <= 2 ^ 60) (hs : ∀ q, (T.getD q default).s.length <= 2 ^ 62)
    (hrd:iM T p 4 [40]=true->pT T cu rd 0 (p+1)/\(rd 0 (p+1)).p<=T.length) :
    bj Tryz.prog qF 0 [] (bD T p false) (bD T (ja rd T p).p (ja rd T p).bad) (aL (ja rd T p).x):=by
 have qf:=fun o (ho:iM T p 4 [40]=o)=>tu T p 4 [40] o (by decide) (by omega) ho;have Qr:=Qq T p false;have hsp:=hs p;simp only[Lm,Bool.false_eq_true,if_false]at Qr;by_cases x9:iM T p 4 [40]=true
 ·have ha:ja rd T p=ie T (rd 0 (p+1)) 4 [41]:=by unfold ja;rw[if_pos x9]
  obtain⟨hr,hb⟩:=hrd x9;unfold pT at hr;rw[ha];have qf:=qf true x9;generalize rd 0 (p+1)=r at *;have hm:=FA T r.p r.bad 4 [41] (by decide) (by omega);rw[aR]at hr;simp only[bD,if_true]at qf hr hm;generalize hE:aL _=E;refine bj.bV (g_ (by simp) ?_) rfl (aS _ _ _);unfold gD aP;intro Q au aA aB;repeat' first|refine aq ?_|refine bh qf ?_|refine bh hr ?_|refine bh hm ?_|refine ak ?_ ?_<;>intro hw<;>try omega|fail
  exact bR (View.eqv (by rw[<-hE];exact(aR _).symm) (by rw[<-hE];exact dD _)) (aW.refl (aS _ _ _))
 have UY:iM T p 4 [40]=false:=by simpa using x9
 have qf:=qf false UY;simp only[bD,Bool.false_eq_true,if_false]at qf Qr;have ha:ja rd T p=(if(T.getD p default).kind=2 then zl ⟨1,(T.getD p default).n,[]⟩ (p+1)
 else if(T.getD p default).kind=3 then zl ⟨2,0,(T.getD p default).s⟩ (p+1)
 else if(T.getD p default).kind=1 then
  (match uk (T.getD p default).s with
  | some v=>zl v (p+1)
  | none=>if gE (T.getD p default).s then⟨.mk 2 v0 (T.getD p default).s [],p+1,false⟩else ⟨x0,p,true⟩)
 else⟨x0,p,true⟩:RS):=by unfold ja;rw[if_neg x9]<;>rfl
 rw[ha];clear ha hrd hs x9 UY;generalize T.getD p default=t at *;obtain⟨tk,ts,tn,tp⟩:=t;simp only[mF]at Qr hsp ⊢;have hname:=DG ts hsp;have hword:=V7 ts;by_cases h2:tk=2
 ·rw[if_pos h2];generalize hE:aL _=E;refine bj.bV (g_ (by simp) ?_) rfl (aS _ _ _);unfold gD aP;intro Q au aA aB;repeat' first|refine aq ?_|refine bh qf ?_|refine bh Qr ?_|refine ak ?_ ?_<;>intro hw<;>try omega|fail
  exact bR (by rw[<-hE];exact jb (.ae _)) (aW.eqv rfl (aS T (p+1) false))
 rw[if_neg h2];by_cases h3:tk=3
 ·rw[if_pos h3];generalize hE:aL _=E;refine bj.bV (g_ (by simp) ?_) rfl (aS _ _ _);unfold gD aP;intro Q au aA aB;repeat' first|refine aq ?_|refine bh qf ?_|refine bh Qr ?_|refine ak ?_ ?_<;>intro hw<;>try omega|fail
  exact bR (by rw[<-hE];exact jb (.ae _)) (aW.eqv rfl (aS T (p+1) false))
 rw[if_neg h3];by_cases h1:tk=1
 case neg =>
  rw[if_neg h1];generalize hE:aL _=E;refine bj.bV (g_ (by simp) ?_) rfl (aS _ _ _);unfold gD aP;intro Q au aA aB;repeat' first|refine aq ?_|refine bh qf ?_|refine bh Qr ?_|refine ak ?_ ?_<;>intro hw<;>try omega|fail
  exact bR (by rw[<-hE];exact jb (.ae _)) (aW.eqv rfl (aS T p true))
 rw[if_pos h1];cases hw:uk ts with
 | some v =>
   rw[hw]at hword;simp only[bT,Option.isSome_some,iJ]at hword;dsimp only;generalize hE:aL _=E;refine bj.bV (g_ (by simp) ?_) rfl (aS _ _ _);unfold gD aP;intro Q au aA aB;repeat' first|refine aq ?_|refine bh qf ?_|refine bh Qr ?_|refine aC hword ?_|refine aC hname ?_|refine ak ?_ ?_<;>intro hw<;>try omega|fail
   exact bR (by rw[<-hE];exact jb (.ae _)) (aW.eqv rfl (aS T (p+1) false))
 | none =>
   rw[hw]at hword;simp only[Option.getD_none,Option.isSome_none,iJ,v0]at hword;dsimp only;cases hn:gE ts with
   | true =>
     rw[hn]at hname;simp only[if_true];generalize hE:aL _=E;refine bj.bV (g_ (by simp) ?_) rfl (aS _ _ _);unfold gD aP;intro Q au aA aB;repeat' first|refine aq ?_|refine bh qf ?_|refine bh Qr ?_|refine aC hword ?_|refine aC hname ?_|refine ak ?_ ?_<;>intro hw<;>try omega|fail
     exact bR (by rw[<-hE];exact jb (.ae _)) (aW.eqv rfl (aS T (p+1) false))
   | false =>
     rw[hn]at hname;simp only[Bool.false_eq_true,if_false];generalize hE:aL _=E;refine bj.bV (g_ (by simp) ?_) rfl (aS _ _ _);unfold gD aP;intro Q au aA aB;repeat' first|refine aq ?_|refine bh qf ?_|refine bh Qr ?_|refine aC hword ?_|refine aC hname ?_|refine ak ?_ ?_<;>intro hw<;>try omega|fail
     exact bR (by rw[<-hE];exact jb (.ae _)) (aW.eqv rfl (aS T p true))
def HY {T : List Tok} {n : FuncId} {rd : Nat -> Nat -> RS} {l q : Nat} {b : Bool} (h : b = false -> pT T n rd l q) (aai : bj Tryz.prog n 0 [I l] (bD T q true) (bD T q true) (aL x0)) :
    bj Tryz.prog n 0 [I l] (bD T q b) (bD T (rB rd l q b).p (rB rd l q b).bad) (aL (rB rd l q b).x):=by
 cases b with
 | true=>exact aai
 | false=>exact h rfl
def UG (T : List Tok) (p : Nat) (rd : Nat -> Nat -> RS) (hp : p <= T.length) (hT : T.length <= 2 ^ 60) (hgo : ∀ l q, q <= T.length -> jm T.length q (rd l q))
    (aai:∀ q,bj Tryz.prog cu 0 [I 0] (bD T q true) (bD T q true) (aL x0)) (hrd:∀ q,p<=q->q<=T.length->pT T cu rd 0 q) :
    bj Tryz.prog oW 0 [] (bD T p false) (bD T (GM rd T p).p (GM rd T p).bad) (aL (GM rd T p).x):=by
 have ga:=DL hgo hp;have gb:=DM hgo hp;have g0:=hgo 0 p hp;have g1:=HX hgo (l:=0) (b:=(jO rd T p).bad) ga.2.1;have c1:=hrd p (Nat.le_refl _) hp;have m1:=FA T (rd 0 p).p (rd 0 p).bad 1 thenS (by decide) (by have:=g0.2.1;omega);have c2:=HY (l:=0) (q:=(jO rd T p).p) (b:=(jO rd T p).bad) (fun _=>hrd _ ga.1 ga.2.1) (aai _);have m2:=FA T (rB rd 0 (jO rd T p).p (jO rd T p).bad).p (rB rd 0 (jO rd T p).p (jO rd T p).bad).bad 1 EZ (by decide) (by have:=g1.2.1;omega);have c3:=HY (l:=0) (q:=(tq rd T p).p) (b:=(tq rd T p).bad) (fun _=>hrd _ (cD ga.1 gb.1) gb.2.1) (aai _)
 change bj _ _ _ _ _ (bD T (jO rd T p).p (jO rd T p).bad) _ at m1
 change bj _ _ _ _ _ (bD T (tq rd T p).p (tq rd T p).bad) _ at m2
 change bj _ _ _ _ _ (bD T (DK rd T p).p (DK rd T p).bad) (aL (DK rd T p).x)at c3
 unfold pT at c1;simp only[GM];have xa:(jO rd T p).x=(rd 0 p).x:=rfl;have xb:(tq rd T p).x=(rB rd 0 (jO rd T p).p (jO rd T p).bad).x:=rfl;rw[xa,xb];generalize rB rd 0 (jO rd T p).p (jO rd T p).bad=rb at *;generalize jO rd T p=ra at *;generalize tq rd T p=rb2 at *;generalize DK rd T p=rc at *;generalize rd 0 p=r1 at *;rw[aR]at c1 c2 c3;simp only[bD,thenS,EZ]at c1 m1 c2 m2 c3;generalize hE:aL _=E;refine bj.bV (Ea (by simp) ?_) rfl (aS _ _ _);unfold vi aP;intro Q au aA aB;repeat' first|refine aq ?_|refine bh c1 ?_|refine bh m1 ?_|refine bh c2 ?_|refine bh m2 ?_|refine bh c3 ?_|refine ak ?_ ?_<;>intro hw<;>try omega|fail
 refine bR ?_ (aW.refl (aS _ _ _));rw[<-hE];refine jb ?_;rw[bu,bu,bu,bt,aR,aR,aR];refine View.weak _ _ _ ?_;simp
@[go_sem ↓] def ahK (l:Nat) (J:Env->aj->Prop) (Q:AQ) (e:Env) (σ : aj):tU l J Q (.goto l) e σ = J e σ:=by simp[tU]
def Sk{e':Env}: ∀(l:List (Nat × AV)),At l e'->w_ l e'=e'
 | [],_=>rfl
 | (d, v) :: l, h => by
   simp only[w_];rw[Sk l (fun p hp=>h p (cZ _ hp))];exact yQ (h (d,v) (by simp))
def aeH {P : Program} {l : Nat} {c r : aI} {Q : AQ} {e : Env} {σ : aj} {α : Type} (cs : α -> List (Nat × AV)) (S : α -> aj) (A : α -> Prop) (μ : α -> Nat)
    (hb:iH P c (tU l (fun e' σ'=> ∃ x,A x/\σ'=S x/\At (cs x) e') Q) e σ)
    (hr:∀ x r0,A x->iH P r (tU l (fun e' σ'=> ∃ x',A x'/\ μ x' < μ x/\σ'=S x'/\At (cs x') e') Q) (w_ (cs x) r0) (S x)):VA P (.mk:Tg (l,c,r,Q,e,σ)):=by
 refine⟨fun n e' σ'=> ∃ x,A x/\At (cs x) e'/\σ'=S x/\ μ x=n,Hu (fun ex e2 σ2 hq=>?_) _ _ hb,?_⟩
 ·cases ex<;>try exact hq
  obtain⟨h1,x,a,hs,ht⟩:=hq;exact⟨h1,_,x,a,ht,hs,rfl⟩
 ·rintro n e' σ' ⟨x1,a1,t1,rfl,rfl⟩;have h:=hr x1 e' a1;rw[Sk _ t1]at h;refine Hu (fun ex e2 σ2 hq=>?_) _ _ h;cases ex<;>try exact hq
  obtain⟨h1,x',a',hm,hs,ht⟩:=hq;exact⟨h1,_,hm,x',a',ht,hs,rfl⟩
def tA(op:Int)(zs:List AV): List AV:=[I op,I 0,I 0,.str [],.str [],.aK true EX zs]
def E0{σ : aj}{op:Int}{zs:List AV}{l:List Expr}(h:aW [] zs (l.map aL)): View σ (.agg (tA op zs)) (aL (.mk op v0 [] l)) :=
 View.mono (σ:=[]) (fun _ _ h=>by simp at h) (jb (View.afD h))
def Lr{a b:AV}{x y:Expr}(h:View [] a (aL x))(h2:View [] b (aL y)): aW [] [a,b] ([x,y].map aL):= .cons h (.cons h2 (.nil _))
def aaj{op:Int}{zs:List AV}(h:AV.cy zs=true): AV.cy (tA op zs)=true:=by simp[tA,AV.dn,AV.cy,h]
structure Lp where
 op:Int
 l:List Expr
 zs:List AV
 p:Nat
 f:Nat
def Qs(T:List Tok)(lvl:Int)(p:Nat): bj Tryz.prog cu 0 [I lvl] (bD T p true) (bD T p true) (aL x0):=by
 generalize hE:aL x0=E;refine bj.bV (fm (by simp) ?_) rfl (aS _ _ _);unfold eW aP;intro Q au aA aB;repeat' first|refine aq ?_|refine ak ?_ ?_<;>intro hw<;>try omega|fail
 exact bR (by rw[<-hE];exact jb (.ae _)) (aW.refl (aS T p true))
def Sl (T : List Tok) (hT : T.length <= 2 ^ 60) (rd : Nat -> Nat -> RS) (f lvl p : Nat) (h1 : 1 <= lvl) (h5 : lvl <= 5) (hp : p <= T.length) (hf : 8 * (T.length - p) + (8 - lvl) <= f) (hrd : rd = fun l q => bI T f none l q)
    (ih:∀ j,j<=f-> ∀ l q,l<=7->q<=T.length->8*(T.length-q)+(8-l)<j->pT T cu (fun l q=>bI T j none l q) l q) :
    bj Tryz.prog cu 0 [I lvl] (bD T p false) (bD T (bI T (f+1) none lvl p).p (bI T (f+1) none lvl p).bad) (aL (bI T (f+1) none lvl p).x):=by
 have ga:=(pS T f none (lvl+1) p hp).1 rfl;have ca:=ih f (Nat.le_refl _) (lvl+1) p (by omega) hp (by omega);simp only[pT]at ca;obtain⟨ga1,ga2,ga3⟩:=ga
 have hR:bI T (f+1) none lvl p=if(bI T f none (lvl+1) p).bad then bI T f none (lvl+1) p else bI T f (some (bI T f none (lvl+1) p).x) lvl (bI T f none (lvl+1) p).p:=by
  rw[bI];rw[if_neg (by omega),if_neg (by omega),if_neg (by omega)]
 generalize bI T (f+1) none lvl p=R at *;generalize bI T f none (lvl+1) p=a at *;obtain⟨ax,ap,ab⟩:=a;dsimp only at *;have cb:=Jr T ap ab lvl (by omega);rw[aR]at ca;cases ab with
 | true =>
   simp only[if_true]at hR;subst hR;dsimp only
   have hn:vu T ap true lvl=none:=by
    cases ho:vu T ap true lvl with
    | none=>rfl
    | some o=>have:=(GN ho).2.1;cases this
   simp only[Tk,hn,Ln,Option.isSome_none,Bool.false_eq_true,if_false]at cb;generalize hE:aL ax=E;simp only[bD,Int.natCast_add,Int.cast_ofNat_Int]at ca cb;refine bj.bV (fm (by simp) ?_) rfl (aS _ _ _);unfold eW aP;intro Q au aA aB;repeat' first|simp (disch:=omega) only[go_sem,au,aA,aB,Int.natCast_add,Int.cast_ofNat_Int]|refine aq ?_|refine bh ca ?_|refine bh cb ?_|refine ak ?_ ?_<;>intro hw<;>try omega|fail
   exact bR (by rw[<-hE];exact View.eqv (aR _).symm (dD _)) (aW.refl (aS _ _ _))
 | false =>
   simp only[Bool.false_eq_true,if_false]at hR;have gp:=ga3 rfl;obtain⟨f,rfl⟩:∃ f',f=f'+1:=⟨f-1,by omega⟩;rw[bI]at hR;have e0:∀ σ : aj,View σ (.agg [I ax.op,I ax.v.kind,I ax.v.n,.str ax.v.s,.str ax.s,.aK false EX (ax.l.map aL)]) (aL ax):=fun σ=>View.eqv (aR _).symm (dD _);cases ho:vu T ap false lvl with
   | none =>
     rw[ho]at hR;dsimp only at hR;subst hR;dsimp only;simp only[Tk,ho,Ln,Option.isSome_none,Bool.false_eq_true,if_false]at cb;generalize hE:aL ax=E at *;simp only[bD,Int.natCast_add,Int.cast_ofNat_Int]at ca cb;refine bj.bV (fm (by simp) ?_) rfl (aS _ _ _);unfold eW aP;intro Q au aA aB;repeat' first|simp (disch:=omega) only[go_sem,au,aA,aB,Int.natCast_add,Int.cast_ofNat_Int]|refine aq ?_|refine bh ca ?_|refine bh cb ?_|refine ak ?_ ?_<;>intro hw<;>try omega|fail
     exact bR (e0 _) (aW.refl (aS _ _ _))
   | some o =>
     rw[ho]at hR;dsimp only at hR;obtain⟨Js,_,E5,Ls⟩:=GN ho
     have hop:o.op≠0:=by
      intro h;simp only[gO,List.mem_cons,List.not_mem_nil,or_false]at E5;rcases E5 with rfl|rfl|rfl|rfl|rfl|rfl|rfl|rfl|rfl|rfl|rfl|rfl<;>simp at h
     have cc:=ih f (by omega) (lvl+1) (ap+1) (by omega) (by omega) (by omega);have gc:=(pS T f none (lvl+1) (ap+1) (by omega)).1 rfl;obtain⟨gc1,gc2,gc3⟩:=gc;simp only[pT]at cc;simp only[Tk,ho,Ln,Option.isSome_some,if_true]at cb;generalize bI T f none (lvl+1) (ap+1)=c at *;obtain⟨cx,cp,aak⟩:=c;dsimp only at *;by_cases hend:lvl=3\/aak=true
     ·rw[if_pos hend]at hR;subst hR;dsimp only;have e1:∀ σ : aj,View σ (.agg (tA o.op [.agg [I ax.op,I ax.v.kind,I ax.v.n,.str ax.v.s,.str ax.s,.aK false EX (ax.l.map aL)],aL cx])) (aL (.mk o.op v0 [] [ax,cx])):=fun σ=>E0 (Lr (e0 _) (.refl _ (dD _)));rw[aR cx]at e1 cc;generalize hE:aL (.mk o.op v0 [] [ax,cx])=E at *;simp only[bD,Int.natCast_add,Int.cast_ofNat_Int]at ca cb cc;have h3:¬ (¬ lvl=3/\aak=false):=by rcases hend with h|h<;>simp[h]
      refine bj.bV (fm (by simp) ?_) rfl (aS _ _ _);unfold eW aP;intro Q au aA aB;rcases hend with hend|hend
      ·subst hend;repeat' first|simp (disch:=omega) only[go_sem,au,aA,aB,Int.natCast_add,Int.cast_ofNat_Int]|refine aq ?_|refine bh ca ?_|refine bh cb ?_|refine bh cc ?_|refine ak ?_ ?_<;>intro hw<;>try omega|fail
       all_goals first|exact bR (e1 _) (aW.refl (aS _ _ _))|(exfalso;omega)
      ·subst hend;repeat' first|simp (disch:=omega) only[go_sem,au,aA,aB,Int.natCast_add,Int.cast_ofNat_Int]|refine aq ?_|refine bh ca ?_|refine bh cb ?_|refine bh cc ?_|refine ak ?_ ?_<;>intro hw<;>try omega|fail
       all_goals first|exact bR (e1 _) (aW.refl (aS _ _ _))|(exfalso;omega)
     ·rw[if_neg hend]at hR;have Jt:lvl≠3:=fun h=>hend (.inl h)
      have hcb:aak=false:=by cases aak with
       | false=>rfl
       | true=>exact absurd (.inr rfl) hend
      subst hcb;have e2:=e0 [];rw[aR cx]at cc;simp only[bD,Int.natCast_add,Int.cast_ofNat_Int]at ca cb cc;have gq:=gc3 rfl;refine bj.bV (fm (by simp) ?_) rfl (aS _ _ _);unfold eW aP;intro Q au aA aB;repeat' first|refine gn_ ?_|refine ak ?_ ?_<;>intro hw<;>try omega|fail
      with_reducible refine aeH (fun x:Lp=>[(0,.ref 0 0),(1,I lvl),(4,.ref 1 0),(5,.ref 2 0)]) (fun x=>[.cells [.aK false ET (T.map mF),I x.p,.bool false],.cells [I 0,I 0,I 0,.str [],.str [],.ae],.cells [I x.op,I 0,I 0,.str [],.str [],.aK true EX x.zs]]) (fun x=>(aW [] x.zs (x.l.map aL)/\AV.cy x.zs=true)/\x.p<=T.length/\8*(T.length-x.p)+8<=x.f/\x.f<=f/\R=bI T x.f (some (.mk x.op v0 [] x.l)) lvl x.p) (fun x=>x.f) ?_ ?_
      ·repeat' first|simp (disch:=omega) only[go_sem,au,aA,aB,Int.natCast_add,Int.cast_ofNat_Int]|refine aq ?_|refine bh ca ?_|refine bh cb ?_|refine bh cc ?_|refine ak ?_ ?_<;>intro hw<;>try omega|fail
       refine⟨⟨o.op,[ax,cx],[.agg [I ax.op,I ax.v.kind,I ax.v.n,.str ax.v.s,.str ax.s,.aK false EX (ax.l.map aL)],aL cx],cp,f⟩,⟨⟨Lr e2 (.refl _ (dD _)),by simp⟩,gc2,by dsimp only;omega,Nat.le_refl _,hR⟩,?_,at_⟩;rw[aR cx]
      ·clear ca cb cc;rintro⟨GO,xl,xz,xp,xf⟩ r0 ⟨⟨a1,a2⟩,a3,a4,a5,a6⟩;dsimp only at a1 a2 a3 a4 a5 a6;obtain⟨j,rfl⟩:∃ j,xf=j+1:=⟨xf-1,by omega⟩;have cb:=Jr T xp false lvl (by omega);rw[bI]at a6;clear hR;cases hq:vu T xp false lvl with
       | none =>
         rw[hq]at a6;dsimp only at a6;subst a6;dsimp only at au aA aB;simp only[Tk,hq,Ln,Option.isSome_none,Bool.false_eq_true,if_false,bD,Int.natCast_add,Int.cast_ofNat_Int]at cb;have ev:∀ σ : aj,View σ (.agg (tA GO xz)) (aL (.mk GO v0 [] xl)):=fun σ=>E0 a1;generalize hE:aL (.mk GO v0 [] xl)=E at *;repeat' first|simp (disch:=omega) only[go_sem,au,aA,aB,Int.natCast_add,Int.cast_ofNat_Int]|refine aq ?_|refine bh cb ?_|refine ak ?_ ?_<;>intro hw<;>try omega|fail
         exact bR (ev _) (aW.refl (aS _ _ _))
       | some o2 =>
         rw[hq]at a6;dsimp only at a6;obtain⟨CH,_,Vq,hp3⟩:=GN hq
         have ajY:o2.op≠0:=by
          intro h;simp only[gO,List.mem_cons,List.not_mem_nil,or_false]at Vq;rcases Vq with rfl|rfl|rfl|rfl|rfl|rfl|rfl|rfl|rfl|rfl|rfl|rfl<;>simp at h
         have cc:=ih j (by omega) (lvl+1) (xp+1) (by omega) (by omega) (by omega);obtain⟨gd1,gd2,gd3⟩:=(pS T j none (lvl+1) (xp+1) (by omega)).1 rfl;simp only[pT]at cc;simp only[Tk,hq,Ln,Option.isSome_some,if_true,bD,Int.natCast_add,Int.cast_ofNat_Int]at cb;generalize bI T j none (lvl+1) (xp+1)=d at *;obtain⟨dx,dp,db⟩:=d;dsimp only at *;have e1:∀ σ : aj,View σ (.agg (tA o2.op [.agg (tA GO xz),aL dx])) (aL (.mk o2.op v0 [] [.mk GO v0 [] xl,dx])):=fun σ=>E0 (Lr (E0 a1) (.refl _ (dD _)));rw[aR dx]at cc e1;simp only[bD,Int.natCast_add,Int.cast_ofNat_Int]at cc;cases db with
         | true =>
           rw[if_pos (.inr rfl)]at a6;subst a6;dsimp only at au aA aB;generalize hE:aL (.mk o2.op v0 [] [.mk GO v0 [] xl,dx])=E at *;repeat' first|simp (disch:=omega) only[go_sem,au,aA,aB,Int.natCast_add,Int.cast_ofNat_Int]|refine aq ?_|refine bh cb ?_|refine bh cc ?_|refine ak ?_ ?_<;>intro hw<;>try omega|fail
           all_goals first|exact bR (e1 _) (aW.refl (aS _ _ _))|(exfalso;omega)
         | false =>
           rw[if_neg (by simp[Jt])]at a6;have gr:=gd3 rfl;repeat' first|simp (disch:=omega) only[go_sem,au,aA,aB,Int.natCast_add,Int.cast_ofNat_Int]|refine aq ?_|refine bh cb ?_|refine bh cc ?_|refine ak ?_ ?_<;>intro hw<;>try omega|fail
           refine⟨⟨o2.op,[.mk GO v0 [] xl,dx],[.agg (tA GO xz),aL dx],dp,j⟩,⟨⟨Lr (E0 a1) (.refl _ (dD _)),by simp[AV.dn,AV.cy,aaj a2,dD]⟩,gd2,by dsimp only;omega,by dsimp only;omega,a6⟩,by dsimp only;omega,?_,at_⟩;rw[aR dx];rfl
def XS(T:List Tok)(hT:T.length<=2 ^ 60)(hs:∀ q,(T.getD q default).s.length<=2 ^ 62): ∀ f,∀ lvl p,lvl<=7->p<=T.length->8*(T.length-p)+(8-lvl)<f->pT T cu (fun l q=>bI T f none l q) lvl p:=by
 intro f
 induction f using Nat.strongRecOn with
 | ind f ih =>
 intro lvl p hl hp hf;obtain⟨f,rfl⟩:∃ f',f=f'+1:=⟨f-1,by omega⟩;have Qt:=ih f (Nat.lt_succ_self _);have hgo:∀ l q,q<=T.length->jm T.length q (bI T f none l q):=fun l q hq=>(pS T f none l q hq).1 rfl;simp only[pT];by_cases h5:1<=lvl/\lvl<=5
 ·exact Sl T hT _ f lvl p h5.1 h5.2 hp (by omega) rfl (fun j hj l q h1 h2 h3=>ih j (by omega) l q h1 h2 h3)
 by_cases h0:lvl=0
 ·subst h0
  have hR:bI T (f+1) none 0 p=if iM T p 1 [105,102]then GM (fun l q=>bI T f none l q) T (p+1)else bI T f none 1 p:=by
   rw[bI,if_pos rfl]
  by_cases hi:iM T p 1 [105,102]=true
  ·rw[if_pos hi]at hR;have CH:=kC hi;have co:=tu T p 1 [105,102] true (by decide) (by omega) hi;have cb:=UG T (p+1) (fun l q=>bI T f none l q) CH hT hgo (fun q=>Qs T 0 q) (fun q h1 h2=>Qt 0 q (by omega) h2 (by omega));rw[hR];generalize GM (fun l q=>bI T f none l q) T (p+1)=R at *;simp only[if_true]at co;generalize hE:aL R.x=E at *;have hEc:∃ cs,E = .agg cs:=⟨_,by rw[<-hE,aR]⟩;have hEp:E.dn=true:=by rw[<-hE];exact dD _
   rw[<-hE,aR]at cb;simp only[bD,Int.natCast_add,Int.cast_ofNat_Int]at co cb;refine bj.bV (fm (by simp) ?_) rfl (aS _ _ _);unfold eW aP;intro Q au aA aB;repeat' first|simp (disch:=omega) only[go_sem,au,aA,aB,Int.natCast_add,Int.cast_ofNat_Int]|refine aq ?_|refine bh co ?_|refine bh cb ?_|refine ak ?_ ?_<;>intro hw<;>try omega|fail
   exact bR (by rw[<-hE];exact View.eqv (aR _).symm (dD _)) (aW.refl (aS _ _ _))
  ·rw[if_neg hi]at hR;have hi':iM T p 1 [105,102]=false:=by simpa using hi
   have co:=tu T p 1 [105,102] false (by decide) (by omega) hi';have cr:=Qt 1 p (by omega) hp (by omega);rw[hR];simp only[pT]at cr;generalize bI T f none 1 p=R at *;generalize hE:aL R.x=E at *;rw[<-hE,aR]at cr;simp only[Bool.false_eq_true,if_false]at co;simp only[bD,Int.natCast_add,Int.cast_ofNat_Int]at co cr;refine bj.bV (fm (by simp) ?_) rfl (aS _ _ _);unfold eW aP;intro Q au aA aB;repeat' first|simp (disch:=omega) only[go_sem,au,aA,aB,Int.natCast_add,Int.cast_ofNat_Int]|refine aq ?_|refine bh co ?_|refine bh cr ?_|refine ak ?_ ?_<;>intro hw<;>try omega|fail
   exact bR (by rw[<-hE];exact View.eqv (aR _).symm (dD _)) (aW.refl (aS _ _ _))
 by_cases h6:lvl=6/\iM T p 4 [45]=true
 ·obtain⟨rfl,hi⟩:=h6;have CH:=kC hi
  have hR:bI T (f+1) none 6 p=⟨.mk 3 v0 [] [(bI T f none 6 (p+1)).x],(bI T f none 6 (p+1)).p,(bI T f none 6 (p+1)).bad⟩:=by
   rw[bI,if_neg h0,if_pos ⟨rfl,hi⟩]
  have co:=tu T p 4 [45] true (by decide) (by omega) hi;have cr:=Qt 6 (p+1) (by omega) CH (by omega);rw[hR];simp only[pT]at cr;generalize bI T f none 6 (p+1)=R at *;obtain⟨rx,rp,rb⟩:=R;dsimp only at *;have e1:∀ σ : aj,View σ (.agg (tA 3 [aL rx])) (aL (.mk 3 v0 [] [rx])):=fun σ=>E0 (.cons (.refl _ (dD _)) (.nil _));rw[aR rx]at e1 cr;generalize hE:aL (.mk 3 v0 [] [rx])=E at *;simp only[if_true]at co;simp only[bD,Int.natCast_add,Int.cast_ofNat_Int]at co cr;refine bj.bV (fm (by simp) ?_) rfl (aS _ _ _);unfold eW aP;intro Q au aA aB;repeat' first|simp (disch:=omega) only[go_sem,au,aA,aB,Int.natCast_add,Int.cast_ofNat_Int]|refine aq ?_|refine bh co ?_|refine bh cr ?_|refine ak ?_ ?_<;>intro hw<;>try omega|fail
  exact bR (e1 _) (aW.refl (aS _ _ _))
 have h67:6<=lvl:=by omega
 have hR:bI T (f+1) none lvl p=ja (fun l q=>bI T f none l q) T p:=by
  rw[bI,if_neg h0,if_neg h6,if_pos h67]
 have ca:=XR T p (fun l q=>bI T f none l q) hp hT hs (fun h=>⟨Qt 0 (p+1) (by omega) (kC h) (by have:=kC h;omega),(hgo 0 (p+1) (kC h)).2.1⟩);rw[hR];have co:=fun h=>tu T p 4 [45] false (by decide) (by omega) h
 have hno:lvl=6->iM T p 4 [45]=false:=fun h=>by
  cases hq:iM T p 4 [45]with
  | false=>rfl
  | true=>exact absurd ⟨h,hq⟩ h6
 generalize ja (fun l q=>bI T f none l q) T p=R at *;generalize hE:aL R.x=E at *;rw[<-hE,aR]at ca;simp only[Bool.false_eq_true,if_false]at co;simp only[bD,Int.natCast_add,Int.cast_ofNat_Int]at co ca;refine bj.bV (fm (by simp) ?_) rfl (aS _ _ _);unfold eW aP;intro Q au aA aB;by_cases hl6:lvl=6
 ·have co:=co (hno hl6);subst hl6;repeat' first|simp (disch:=omega) only[go_sem,au,aA,aB,Int.natCast_add,Int.cast_ofNat_Int]|refine aq ?_|refine bh co ?_|refine bh ca ?_|refine ak ?_ ?_<;>intro hw<;>try omega|fail
  exact bR (by rw[<-hE];exact View.eqv (aR _).symm (dD _)) (aW.refl (aS _ _ _))
 ·obtain rfl:lvl=7:=by omega
  repeat' first|simp (disch:=omega) only[go_sem,au,aA,aB,Int.natCast_add,Int.cast_ofNat_Int]|refine aq ?_|refine bh ca ?_|refine ak ?_ ?_<;>intro hw<;>try omega|fail
  exact bR (by rw[<-hE];exact View.eqv (aR _).symm (dD _)) (aW.refl (aS _ _ _))
end Go.Proofs.YtmbgnaoilncbnaaGreatDoor
