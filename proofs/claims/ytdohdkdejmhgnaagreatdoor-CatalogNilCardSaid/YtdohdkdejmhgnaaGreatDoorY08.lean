/- Part. -/
import Derived.Test.YtdohdkdejmhgnaaGreatDoorY07
set_option linter.all false
set_option maxHeartbeats 2000000
namespace Go.Proofs.YtdohdkdejmhgnaaGreatDoor
open Go.AM
set_option maxRecDepth 4000
def qi{σ : ai}{op vk vn:Int}{vs s:bj}{L:AV}{l:List Expr}(hL:View σ L (.aH false EX (l.map br))): View σ (.agg [I op,I vk,I vn,.str vs,.str s,L]) (br (.mk op ⟨vk,vn,vs⟩ s l)):=by
 rw[bE];refine View.r_ (.cons (.refl _ rfl) (.cons (.refl _ rfl) (.cons (.refl _ rfl) (.cons (.refl _ rfl) (.cons (.refl _ rfl) (.cons ?_ (.nil _)))))));exact hL
def yR(T:List Tok)(n:FuncId)(rd:Nat->Nat->RS)(l q:Nat): Prop:=cY aM n 0 [I l] (dM T q false) (dM T (rd l q).p (rd l q).bad) (br (rd l q).x)
def pV(T:List Tok)(p:Nat)(k:Int)(s:bj)(o:Bool)(hk:k≠0)(hp:p<=2^61)(h:oJ T p k s=o): cY aM 461 0 [I k,.str s] (dM T p false) (dM T (if o then p+1 else p) false) (.bool o):=by
 have:=Ei T p false k s hk hp;unfold s0 at this;rw[show iH T p false k s=o from h]at this;cases o
 ·simpa using this
 simpa using this
def Ri (T : List Tok) (p : Nat) (rd : Nat -> Nat -> RS) (hp : p <= T.length) (hT : T.length <= 2^60) (hs : ∀ q, (T.getD q default).s.length <= 2^62)
    (hrd:oJ T p 4 [40]=true->yR T 437 rd 0 (p+1)/\(rd 0 (p+1)).p<=T.length) :
    cY aM 463 0 [] (dM T p false) (dM T (ow rd T p).p (ow rd T p).bad) (br (ow rd T p).x):=by
 have rI:=fun o (ho:oJ T p 4 [40]=o)=>pV T p 4 [40] o dV ae ho;have Jk:=Jj T p false;have hsp:=hs p;simp only[Eh,aN,if_false]at Jk;by_cases KJ:oJ T p 4 [40]=true
 ·have ha:ow rd T p=kX T (rd 0 (p+1)) 4 [41]:=by unfold ow;rw[if_pos KJ]
  obtain⟨hr,hb⟩:=hrd KJ;unfold yR at hr;rw[ha];have rI:=rI true KJ;generalize rd 0 (p+1)=r at *;have hm:=zH T r.p r.bad 4 [41] dV ae;rw[bE]at hr;simp only[dM,if_true]at rI hr hm;generalize hE:br _=E;refine cY.gx (iD.go ?_) rfl (bO _ _ _);unfold iC;intro Q aX aY aZ;repeat' first|refine aQ ?_|refine de rI ?_|refine de hr ?_|refine de hm ?_|refine aR ?_ ?_<;>intro hw<;>try omega|fail
  exact f_ (View.eqv (by rw[<-hE];exact(bE _).symm) (by rw[<-hE];exact gV _)) (bR.refl (bO _ _ _))
 have aa1:oJ T p 4 [40]=false:=by simpa using KJ
 have rI:=rI false aa1;simp only[dM,aN,if_false]at rI Jk;have ha:ow rd T p=(if(T.getD p default).kind=2 then zI ⟨1,(T.getD p default).n,[]⟩ (p+1)
 else if(T.getD p default).kind=3 then zI ⟨2,0,(T.getD p default).s⟩ (p+1)
 else if(T.getD p default).kind=1 then
  (match yQ (T.getD p default).s with
  | some v=>zI v (p+1)
  | none=>if jb (T.getD p default).s then⟨.mk 2 v0 (T.getD p default).s [],p+1,false⟩else ⟨x0,p,true⟩)
 else⟨x0,p,true⟩:RS):=by unfold ow;rw[if_neg KJ]<;>rfl
 rw[ha];clear ha hrd hs KJ aa1;generalize T.getD p default=t at *;obtain⟨tk,ts,tn,tp⟩:=t;simp only[rz]at Jk hsp |-;have hname:=rB ts hsp;have hword:=Ph ts;by_cases h2:tk=2
 ·rw[aB h2];generalize hE:br _=E;refine cY.gx (iD.go ?_) rfl (bO _ _ _);unfold iC;intro Q aX aY aZ;repeat' first|refine aQ ?_|refine de rI ?_|refine de Jk ?_|refine aR ?_ ?_<;>intro hw<;>try omega|fail
  exact f_ (by rw[<-hE];exact qi (.aP _)) (bR.eqv rfl (bO T (p+1) false))
 rw[aq h2];by_cases h3:tk=3
 ·rw[aB h3];generalize hE:br _=E;refine cY.gx (iD.go ?_) rfl (bO _ _ _);unfold iC;intro Q aX aY aZ;repeat' first|refine aQ ?_|refine de rI ?_|refine de Jk ?_|refine aR ?_ ?_<;>intro hw<;>try omega|fail
  exact f_ (by rw[<-hE];exact qi (.aP _)) (bR.eqv rfl (bO T (p+1) false))
 rw[aq h3];by_cases h1:tk=1
 case neg =>
  rw[aq h1];generalize hE:br _=E;refine cY.gx (iD.go ?_) rfl (bO _ _ _);unfold iC;intro Q aX aY aZ;repeat' first|refine aQ ?_|refine de rI ?_|refine de Jk ?_|refine aR ?_ ?_<;>intro hw<;>try omega|fail
  exact f_ (by rw[<-hE];exact qi (.aP _)) (bR.eqv rfl (bO T p true))
 rw[aB h1];cases hw:yQ ts with
 | some v =>
   rw[hw]at hword;simp only[bF,Option.isSome_some,nL]at hword;dsimp only;generalize hE:br _=E;refine cY.gx (iD.go ?_) rfl (bO _ _ _);unfold iC;intro Q aX aY aZ;repeat' first|refine aQ ?_|refine de rI ?_|refine de Jk ?_|refine aR ?_ ?_<;>intro hw<;>try omega|fail
   exact f_ (by rw[<-hE];exact qi (.aP _)) (bR.eqv rfl (bO T (p+1) false))
 | none =>
   rw[hw]at hword;simp only[Option.getD_none,Option.isSome_none,nL,v0]at hword;dsimp only;cases hn:jb ts with
   | true =>
     rw[hn]at hname;simp only[if_true];generalize hE:br _=E;refine cY.gx (iD.go ?_) rfl (bO _ _ _);unfold iC;intro Q aX aY aZ;repeat' first|refine aQ ?_|refine de rI ?_|refine de Jk ?_|refine aR ?_ ?_<;>intro hw<;>try omega|fail
     exact f_ (by rw[<-hE];exact qi (.aP _)) (bR.eqv rfl (bO T (p+1) false))
   | false =>
     rw[hn]at hname;simp only[aN,if_false];generalize hE:br _=E;refine cY.gx (iD.go ?_) rfl (bO _ _ _);unfold iC;intro Q aX aY aZ;repeat' first|refine aQ ?_|refine de rI ?_|refine de Jk ?_|refine aR ?_ ?_<;>intro hw<;>try omega|fail
     exact f_ (by rw[<-hE];exact qi (.aP _)) (bR.eqv rfl (bO T p true))
def Pj {T : List Tok} {n : FuncId} {rd : Nat -> Nat -> RS} {l q : Nat} {b : Bool} (h : b = false -> yR T n rd l q) (Ue : cY aM n 0 [I l] (dM T q true) (dM T q true) (br x0)) :
    cY aM n 0 [I l] (dM T q b) (dM T (qQ rd l q b).p (qQ rd l q b).bad) (br (qQ rd l q b).x):=by
 cases b with
 | true=>exact Ue
 | false=>exact h rfl
def Nz (T : List Tok) (p : Nat) (rd : Nat -> Nat -> RS) (hp : p <= T.length) (hT : T.length <= 2^60) (su : ∀ l q, q <= T.length -> jV T.length q (rd l q))
    (Ue:∀ q,cY aM 437 0 [I 0] (dM T q true) (dM T q true) (br x0)) (hrd:∀ q,p<=q->q<=T.length->yR T 437 rd 0 q) :
    cY aM 462 0 [] (dM T p false) (dM T (Mj rd T p).p (Mj rd T p).bad) (br (Mj rd T p).x):=by
 have ga:=BP su hp;have gb:=BQ su hp;have g0:=su 0 p hp;have g1:=HJ su (l:=0) (b:=(nP rd T p).bad) ga.2.1;have c1:=hrd p (aV _) hp;have m1:=zH T (rd 0 p).p (rd 0 p).bad 1 thenS dV (by have:=g0.2.1;omega);have c2:=Pj (l:=0) (q:=(nP rd T p).p) (b:=(nP rd T p).bad) (fun _=>hrd _ ga.1 ga.2.1) (Ue _);have m2:=zH T (qQ rd 0 (nP rd T p).p (nP rd T p).bad).p (qQ rd 0 (nP rd T p).p (nP rd T p).bad).bad 1 FM dV (by have:=g1.2.1;omega);have c3:=Pj (l:=0) (q:=(uR rd T p).p) (b:=(uR rd T p).bad) (fun _=>hrd _ (bS ga.1 gb.1) gb.2.1) (Ue _)
 change cY _ _ _ _ _ (dM T (nP rd T p).p (nP rd T p).bad) _ at m1
 change cY _ _ _ _ _ (dM T (uR rd T p).p (uR rd T p).bad) _ at m2
 change cY _ _ _ _ _ (dM T (Ej rd T p).p (Ej rd T p).bad) (br (Ej rd T p).x)at c3
 unfold yR at c1;simp only[Mj];have xa:(nP rd T p).x=(rd 0 p).x:=rfl;have xb:(uR rd T p).x=(qQ rd 0 (nP rd T p).p (nP rd T p).bad).x:=rfl;rw[xa,xb];generalize qQ rd 0 (nP rd T p).p (nP rd T p).bad=rb at *;generalize nP rd T p=ra at *;generalize uR rd T p=rb2 at *;generalize Ej rd T p=rc at *;generalize rd 0 p=r1 at *;rw[bE]at c1 c2 c3;simp only[dM,thenS,FM]at c1 m1 c2 m2 c3;generalize hE:br _=E;refine cY.gx (yf.go ?_) rfl (bO _ _ _);unfold iC;intro Q aX aY aZ;repeat' first|refine aQ ?_|refine de c1 ?_|refine de m1 ?_|refine de c2 ?_|refine de m2 ?_|refine de c3 ?_|refine aR ?_ ?_<;>intro hw<;>try omega|fail
 refine f_ ?_ (bR.refl (bO _ _ _));rw[<-hE];refine qi ?_;rw[bN,bN,bN,fH,bE,bE,bE];refine View.weak _ _ _ ?_;simp
@[go_sem ↓] def aiQ (l:Nat) (J:Env->ai->Prop) (Q:AQ) (e:Env) (σ : ai):qZ l J Q (.goto l) e σ = J e σ:=by simp[qZ]
def Sl{e':Env}: ∀(l:List (Nat × AV)),At l e'->puts l e'=e'
 | [],_=>rfl
 | (d, v) :: l, h => by
   simp only[puts];rw[Sl l (fun p hp=>h p (cP _ hp))];exact nk (h (d,v) aT)
def ab6 {P : Program} {l : Nat} {c r : cQ} {Q : AQ} {e : Env} {σ : ai} {α : Type} (cs : α -> List (Nat × AV)) (S : α -> ai) (A : α -> Prop) (μ : α -> Nat)
    (hb:fg P c (qZ l (fun e' σ'=> ∃ x,A x/\σ'=S x/\At (cs x) e') Q) e σ)
    (hr:∀ x r0,A x->fg P r (qZ l (fun e' σ'=> ∃ x',A x'/\ μ x' < μ x/\σ'=S x'/\At (cs x') e') Q) (puts (cs x) r0) (S x)):OF P (.mk:Tg (l,c,r,Q,e,σ)):=by
 refine⟨fun n e' σ'=> ∃ x,A x/\At (cs x) e'/\σ'=S x/\ μ x=n,gK (fun ex e2 σ2 hq=>?_) _ _ hb,?_⟩
 ·cases ex<;>try exact hq
  obtain⟨h1,x,a,hs,ht⟩:=hq;exact⟨h1,_,x,a,ht,hs,rfl⟩
 rintro n e' σ' ⟨x1,a1,t1,rfl,rfl⟩;have h:=hr x1 e' a1;rw[Sl _ t1]at h;refine gK (fun ex e2 σ2 hq=>?_) _ _ h;cases ex<;>try exact hq
 obtain⟨h1,x',a',hm,hs,ht⟩:=hq;exact⟨h1,_,hm,x',a',ht,hs,rfl⟩
def sv(op:Int)(zs:List AV): List AV:=[I op,I 0,I 0,.str [],.str [],.aH true EX zs]
def FN{σ : ai}{op:Int}{zs:List AV}{l:List Expr}(h:bR [] zs (l.map br)): View σ (.agg (sv op zs)) (br (.mk op v0 [] l)) :=
 View.mono (σ:=[]) (fun _ _ h=>by simp at h) (qi (View.Y1 h))
def Jl{a b:AV}{x y:Expr}(h:View [] a (br x))(h2:View [] b (br y)): bR [] [a,b] ([x,y].map br):= .cons h (.cons h2 (.nil _))
def Uf{op:Int}{zs:List AV}(h:AV.cK zs=true): AV.cK (sv op zs)=true:=by simp[sv,AV.dU,AV.cK,h]
structure Lp where
 op:Int
 l:List Expr
 zs:List AV
 p:Nat
 f:Nat
def Jm(T:List Tok)(lvl:Int)(p:Nat): cY aM 437 0 [I lvl] (dM T p true) (dM T p true) (br x0):=by
 generalize hE:br x0=E;refine cY.gx (fP.go ?_) rfl (bO _ _ _);unfold iC;intro Q aX aY aZ;repeat' first|refine aQ ?_|refine aR ?_ ?_<;>intro hw<;>try omega|fail
 exact f_ (by rw[<-hE];exact qi (.aP _)) (bR.refl (bO T p true))
def KL (T : List Tok) (hT : T.length <= 2^60) (rd : Nat -> Nat -> RS) (f lvl p : Nat) (h1 : 1 <= lvl) (h5 : lvl <= 5) (hp : p <= T.length) (hf : 8 * (T.length - p) + (8 - lvl) <= f) (hrd : rd = fun l q => cU T f none l q)
    (ih:∀ j,j<=f-> ∀ l q,l<=7->q<=T.length->8*(T.length-q)+(8-l)<j->yR T 437 (fun l q=>cU T j none l q) l q) :
    cY aM 437 0 [I lvl] (dM T p false) (dM T (cU T (f+1) none lvl p).p (cU T (f+1) none lvl p).bad) (br (cU T (f+1) none lvl p).x):=by
 have ga:=(rK T f none (lvl+1) p hp).1 rfl;have ca:=ih f (aV _) (lvl+1) p ae hp ae;simp only[yR]at ca;obtain⟨ga1,ga2,ga3⟩:=ga
 have hR:cU T (f+1) none lvl p=if(cU T f none (lvl+1) p).bad then cU T f none (lvl+1) p else cU T f (some (cU T f none (lvl+1) p).x) lvl (cU T f none (lvl+1) p).p:=by
  rw[cU];rw[aq ae,aq ae,aq ae]
 generalize cU T (f+1) none lvl p=R at *;generalize cU T f none (lvl+1) p=a at *;obtain⟨ax,ap,ab⟩:=a;dsimp only at *;have cb:=CM T ap ab lvl ae;rw[bE]at ca;cases ab with
 | true =>
   simp only[if_true]at hR;subst hR;dsimp only
   have hn:xy T ap true lvl=none:=by
    cases ho:xy T ap true lvl with
    | none=>rfl
    | some o=>have:=(Ek ho).2.1;cases this
   simp only[Mi,hn,Pg,Option.isSome_none,aN,if_false]at cb;generalize hE:br ax=E;simp only[dM,bA,bn]at ca cb;refine cY.gx (fP.go ?_) rfl (bO _ _ _);unfold iC;intro Q aX aY aZ;repeat' first|simp (disch:=omega) only[go_sem,aX,aY,aZ,bA,bn]|refine aQ ?_|refine de ca ?_|refine de cb ?_|refine aR ?_ ?_<;>intro hw<;>try omega|fail
   exact f_ (by rw[<-hE];exact View.eqv (bE _).symm (gV _)) (bR.refl (bO _ _ _))
 | false =>
   simp only[aN,if_false]at hR;have gp:=ga3 rfl;obtain⟨f,rfl⟩:∃ f',f=f'+1:=⟨f-1,ae⟩;rw[cU]at hR;have e0:∀ σ : ai,View σ (.agg [I ax.op,I ax.v.kind,I ax.v.n,.str ax.v.s,.str ax.s,.aH false EX (ax.l.map br)]) (br ax):=fun σ=>View.eqv (bE _).symm (gV _);cases ho:xy T ap false lvl with
   | none =>
     rw[ho]at hR;dsimp only at hR;subst hR;dsimp only;simp only[Mi,ho,Pg,Option.isSome_none,aN,if_false]at cb;generalize hE:br ax=E at *;simp only[dM,bA,bn]at ca cb;refine cY.gx (fP.go ?_) rfl (bO _ _ _);unfold iC;intro Q aX aY aZ;repeat' first|simp (disch:=omega) only[go_sem,aX,aY,aZ,bA,bn]|refine aQ ?_|refine de ca ?_|refine de cb ?_|refine aR ?_ ?_<;>intro hw<;>try omega|fail
     exact f_ (e0 _) (bR.refl (bO _ _ _))
   | some o =>
     rw[ho]at hR;dsimp only at hR;obtain⟨Sm,_,Mk,WN⟩:=Ek ho
     have hop:o.op≠0:=by
      intro h;simp only[kr,fj,eH,or_false]at Mk;rcases Mk with rfl|rfl|rfl|rfl|rfl|rfl|rfl|rfl|rfl|rfl|rfl|rfl<;>simp at h
     have cc:=ih f ae (lvl+1) (ap+1) ae ae ae;have gc:=(rK T f none (lvl+1) (ap+1) ae).1 rfl;obtain⟨gc1,gc2,gc3⟩:=gc;simp only[yR]at cc;simp only[Mi,ho,Pg,Option.isSome_some,if_true]at cb;generalize cU T f none (lvl+1) (ap+1)=c at *;obtain⟨cx,cp,Ug⟩:=c;dsimp only at *;by_cases hend:lvl=3\/Ug=true
     ·rw[aB hend]at hR;subst hR;dsimp only;have e1:∀ σ : ai,View σ (.agg (sv o.op [.agg [I ax.op,I ax.v.kind,I ax.v.n,.str ax.v.s,.str ax.s,.aH false EX (ax.l.map br)],br cx])) (br (.mk o.op v0 [] [ax,cx])):=fun σ=>FN (Jl (e0 _) (.refl _ (gV _)));rw[bE cx]at e1 cc;generalize hE:br (.mk o.op v0 [] [ax,cx])=E at *;simp only[dM,bA,bn]at ca cb cc;have h3:¬ (¬ lvl=3/\Ug=false):=by rcases hend with h|h<;>simp[h]
      refine cY.gx (fP.go ?_) rfl (bO _ _ _);unfold iC;intro Q aX aY aZ;rcases hend with hend|hend
      ·subst hend;repeat' first|simp (disch:=omega) only[go_sem,aX,aY,aZ,bA,bn]|refine aQ ?_|refine de ca ?_|refine de cb ?_|refine de cc ?_|refine aR ?_ ?_<;>intro hw<;>try omega|fail
       all_goals first|exact f_ (e1 _) (bR.refl (bO _ _ _))|(exfalso;omega)
      subst hend;repeat' first|simp (disch:=omega) only[go_sem,aX,aY,aZ,bA,bn]|refine aQ ?_|refine de ca ?_|refine de cb ?_|refine de cc ?_|refine aR ?_ ?_<;>intro hw<;>try omega|fail
      all_goals first|exact f_ (e1 _) (bR.refl (bO _ _ _))|(exfalso;omega)
     rw[aq hend]at hR;have hl3:lvl≠3:=fun h=>hend (.inl h)
     have hcb:Ug=false:=by cases Ug with
      | false=>rfl
      | true=>exact absurd (.inr rfl) hend
     subst hcb;have e2:=e0 [];rw[bE cx]at cc;simp only[dM,bA,bn]at ca cb cc;have gq:=gc3 rfl;refine cY.gx (fP.go ?_) rfl (bO _ _ _);unfold iC;intro Q aX aY aZ;repeat' first|refine gn_ ?_|refine aR ?_ ?_<;>intro hw<;>try omega|fail
     with_reducible refine ab6 (fun x:Lp=>[(0,.ref 0 0),(1,I lvl),(4,.ref 1 0),(5,.ref 2 0)]) (fun x=>[.cells [.aH false ET (T.map rz),I x.p,.bool false],.cells [I 0,I 0,I 0,.str [],.str [],.aP],.cells [I x.op,I 0,I 0,.str [],.str [],.aH true EX x.zs]]) (fun x=>(bR [] x.zs (x.l.map br)/\AV.cK x.zs=true)/\x.p<=T.length/\8*(T.length-x.p)+8<=x.f/\x.f<=f/\R=cU T x.f (some (.mk x.op v0 [] x.l)) lvl x.p) (fun x=>x.f) ?_ ?_
     ·repeat' first|simp (disch:=omega) only[go_sem,aX,aY,aZ,bA,bn]|refine aQ ?_|refine de ca ?_|refine de cb ?_|refine de cc ?_|refine aR ?_ ?_<;>intro hw<;>try omega|fail
      refine⟨⟨o.op,[ax,cx],[.agg [I ax.op,I ax.v.kind,I ax.v.n,.str ax.v.s,.str ax.s,.aH false EX (ax.l.map br)],br cx],cp,f⟩,⟨⟨Jl e2 (.refl _ (gV _)),aT⟩,gc2,by dsimp only;omega,Nat.le_refl _,hR⟩,?_,at_⟩;rw[bE cx]
     clear ca cb cc;rintro⟨Ml,xl,xz,xp,xf⟩ r0 ⟨⟨a1,a2⟩,a3,a4,a5,a6⟩;dsimp only at a1 a2 a3 a4 a5 a6;obtain⟨j,rfl⟩:∃ j,xf=j+1:=⟨xf-1,ae⟩;have cb:=CM T xp false lvl ae;rw[cU]at a6;clear hR;cases hq:xy T xp false lvl with
     | none =>
       rw[hq]at a6;dsimp only at a6;subst a6;dsimp only at aX aY aZ;simp only[Mi,hq,Pg,Option.isSome_none,aN,if_false,dM,bA,bn]at cb;have ev:∀ σ : ai,View σ (.agg (sv Ml xz)) (br (.mk Ml v0 [] xl)):=fun σ=>FN a1;generalize hE:br (.mk Ml v0 [] xl)=E at *;repeat' first|simp (disch:=omega) only[go_sem,aX,aY,aZ,bA,bn]|refine aQ ?_|refine de cb ?_|refine aR ?_ ?_<;>intro hw<;>try omega|fail
       exact f_ (ev _) (bR.refl (bO _ _ _))
     | some o2 =>
       rw[hq]at a6;dsimp only at a6;obtain⟨DM,_,Ow,hp3⟩:=Ek hq
       have aoe:o2.op≠0:=by
        intro h;simp only[kr,fj,eH,or_false]at Ow;rcases Ow with rfl|rfl|rfl|rfl|rfl|rfl|rfl|rfl|rfl|rfl|rfl|rfl<;>simp at h
       have cc:=ih j ae (lvl+1) (xp+1) ae ae ae;obtain⟨gd1,gd2,gd3⟩:=(rK T j none (lvl+1) (xp+1) ae).1 rfl;simp only[yR]at cc;simp only[Mi,hq,Pg,Option.isSome_some,if_true,dM,bA,bn]at cb;generalize cU T j none (lvl+1) (xp+1)=d at *;obtain⟨dx,dp,db⟩:=d;dsimp only at *;have e1:∀ σ : ai,View σ (.agg (sv o2.op [.agg (sv Ml xz),br dx])) (br (.mk o2.op v0 [] [.mk Ml v0 [] xl,dx])):=fun σ=>FN (Jl (FN a1) (.refl _ (gV _)));rw[bE dx]at cc e1;simp only[dM,bA,bn]at cc;cases db with
       | true =>
         rw[aB (.inr rfl)]at a6;subst a6;dsimp only at aX aY aZ;generalize hE:br (.mk o2.op v0 [] [.mk Ml v0 [] xl,dx])=E at *;repeat' first|simp (disch:=omega) only[go_sem,aX,aY,aZ,bA,bn]|refine aQ ?_|refine de cb ?_|refine de cc ?_|refine aR ?_ ?_<;>intro hw<;>try omega|fail
         all_goals first|exact f_ (e1 _) (bR.refl (bO _ _ _))|(exfalso;omega)
       | false =>
         rw[aq (by simp[hl3])]at a6;have gr:=gd3 rfl;repeat' first|simp (disch:=omega) only[go_sem,aX,aY,aZ,bA,bn]|refine aQ ?_|refine de cb ?_|refine de cc ?_|refine aR ?_ ?_<;>intro hw<;>try omega|fail
         refine⟨⟨o2.op,[.mk Ml v0 [] xl,dx],[.agg (sv Ml xz),br dx],dp,j⟩,⟨⟨Jl (FN a1) (.refl _ (gV _)),by simp[AV.dU,AV.cK,Uf a2,gV]⟩,gd2,by dsimp only;omega,by dsimp only;omega,a6⟩,by dsimp only;omega,?_,at_⟩;rw[bE dx];rfl
def Rj(T:List Tok)(hT:T.length<=2^60)(hs:∀ q,(T.getD q default).s.length<=2^62): ∀ f,∀ lvl p,lvl<=7->p<=T.length->8*(T.length-p)+(8-lvl)<f->yR T 437 (fun l q=>cU T f none l q) lvl p:=by
 intro f
 induction f using Nat.strongRecOn with
 | ind f ih =>
 intro lvl p hl hp hf;obtain⟨f,rfl⟩:∃ f',f=f'+1:=⟨f-1,ae⟩;have ihf:=ih f (Nat.lt_succ_self _);have su:∀ l q,q<=T.length->jV T.length q (cU T f none l q):=fun l q hq=>(rK T f none l q hq).1 rfl;simp only[yR];by_cases h5:1<=lvl/\lvl<=5
 ·exact KL T hT _ f lvl p h5.1 h5.2 hp ae rfl (fun j hj l q h1 h2 h3=>ih j ae l q h1 h2 h3)
 by_cases h0:lvl=0
 ·subst h0
  have hR:cU T (f+1) none 0 p=if oJ T p 1 [105,102]then Mj (fun l q=>cU T f none l q) T (p+1)else cU T f none 1 p:=by
   rw[cU,aB rfl]
  by_cases hi:oJ T p 1 [105,102]=true
  ·rw[aB hi]at hR;have DM:=oK hi;have co:=pV T p 1 [105,102] true dV ae hi;have cb:=Nz T (p+1) (fun l q=>cU T f none l q) DM hT su (fun q=>Jm T 0 q) (fun q h1 h2=>ihf 0 q ae h2 ae);rw[hR];generalize Mj (fun l q=>cU T f none l q) T (p+1)=R at *;simp only[if_true]at co;generalize hE:br R.x=E at *;have hEc:∃ cs,E = .agg cs:=⟨_,by rw[<-hE,bE]⟩;have hEp:E.dU=true:=by rw[<-hE];exact gV _
   rw[<-hE,bE]at cb;simp only[dM,bA,bn]at co cb;refine cY.gx (fP.go ?_) rfl (bO _ _ _);unfold iC;intro Q aX aY aZ;repeat' first|simp (disch:=omega) only[go_sem,aX,aY,aZ,bA,bn]|refine aQ ?_|refine de co ?_|refine de cb ?_|refine aR ?_ ?_<;>intro hw<;>try omega|fail
   exact f_ (by rw[<-hE];exact View.eqv (bE _).symm (gV _)) (bR.refl (bO _ _ _))
  rw[aq hi]at hR;have hi':oJ T p 1 [105,102]=false:=by simpa using hi
  have co:=pV T p 1 [105,102] false dV ae hi';have cr:=ihf 1 p ae hp ae;rw[hR];simp only[yR]at cr;generalize cU T f none 1 p=R at *;generalize hE:br R.x=E at *;rw[<-hE,bE]at cr;simp only[aN,if_false]at co;simp only[dM,bA,bn]at co cr;refine cY.gx (fP.go ?_) rfl (bO _ _ _);unfold iC;intro Q aX aY aZ;repeat' first|simp (disch:=omega) only[go_sem,aX,aY,aZ,bA,bn]|refine aQ ?_|refine de co ?_|refine de cr ?_|refine aR ?_ ?_<;>intro hw<;>try omega|fail
  exact f_ (by rw[<-hE];exact View.eqv (bE _).symm (gV _)) (bR.refl (bO _ _ _))
 by_cases h6:lvl=6/\oJ T p 4 [45]=true
 ·obtain⟨rfl,hi⟩:=h6;have DM:=oK hi
  have hR:cU T (f+1) none 6 p=⟨.mk 3 v0 [] [(cU T f none 6 (p+1)).x],(cU T f none 6 (p+1)).p,(cU T f none 6 (p+1)).bad⟩:=by
   rw[cU,aq h0,aB ⟨rfl,hi⟩]
  have co:=pV T p 4 [45] true dV ae hi;have cr:=ihf 6 (p+1) ae DM ae;rw[hR];simp only[yR]at cr;generalize cU T f none 6 (p+1)=R at *;obtain⟨rx,rp,rb⟩:=R;dsimp only at *;have e1:∀ σ : ai,View σ (.agg (sv 3 [br rx])) (br (.mk 3 v0 [] [rx])):=fun σ=>FN (.cons (.refl _ (gV _)) (.nil _));rw[bE rx]at e1 cr;generalize hE:br (.mk 3 v0 [] [rx])=E at *;simp only[if_true]at co;simp only[dM,bA,bn]at co cr;refine cY.gx (fP.go ?_) rfl (bO _ _ _);unfold iC;intro Q aX aY aZ;repeat' first|simp (disch:=omega) only[go_sem,aX,aY,aZ,bA,bn]|refine aQ ?_|refine de co ?_|refine de cr ?_|refine aR ?_ ?_<;>intro hw<;>try omega|fail
  exact f_ (e1 _) (bR.refl (bO _ _ _))
 have h67:6<=lvl:=ae
 have hR:cU T (f+1) none lvl p=ow (fun l q=>cU T f none l q) T p:=by
  rw[cU,aq h0,aq h6,aB h67]
 have ca:=Ri T p (fun l q=>cU T f none l q) hp hT hs (fun h=>⟨ihf 0 (p+1) ae (oK h) (by have:=oK h;omega),(su 0 (p+1) (oK h)).2.1⟩);rw[hR];have co:=fun h=>pV T p 4 [45] false dV ae h
 have hno:lvl=6->oJ T p 4 [45]=false:=fun h=>by
  cases hq:oJ T p 4 [45]with
  | false=>rfl
  | true=>exact absurd ⟨h,hq⟩ h6
 generalize ow (fun l q=>cU T f none l q) T p=R at *;generalize hE:br R.x=E at *;rw[<-hE,bE]at ca;simp only[aN,if_false]at co;simp only[dM,bA,bn]at co ca;refine cY.gx (fP.go ?_) rfl (bO _ _ _);unfold iC;intro Q aX aY aZ;by_cases hl6:lvl=6
 ·have co:=co (hno hl6);subst hl6;repeat' first|simp (disch:=omega) only[go_sem,aX,aY,aZ,bA,bn]|refine aQ ?_|refine de co ?_|refine de ca ?_|refine aR ?_ ?_<;>intro hw<;>try omega|fail
  exact f_ (by rw[<-hE];exact View.eqv (bE _).symm (gV _)) (bR.refl (bO _ _ _))
 obtain rfl:lvl=7:=ae;repeat' first|simp (disch:=omega) only[go_sem,aX,aY,aZ,bA,bn]|refine aQ ?_|refine de ca ?_|refine aR ?_ ?_<;>intro hw<;>try omega|fail
 exact f_ (by rw[<-hE];exact View.eqv (bE _).symm (gV _)) (bR.refl (bO _ _ _))
def Az(op:Int)(v:jC)(s:bj)(l:List Expr): gW (.mk op v s l)=mo l+1:=by simp only[gW]
def Mm: Option Expr->Nat
 | none=>1
 | some x=>gW x
def KM{T:List Tok}{r:RS}{k:Int}{s:bj}: (kX T r k s).x=r.x/\r.p<=(kX T r k s).p:=by
 refine⟨rfl,?_⟩;simp only[kX,s0];split<;>omega
def WO{rd:Nat->Nat->RS}{l q:Nat}{b:Bool}(h:gW (rd l q).x+4*q<=1+4*(rd l q).p): gW (qQ rd l q b).x+4*q<=1+4*(qQ rd l q b).p:=by
 unfold qQ;split
 ·simp[x0,gW,mo]
 exact h
def aiR(T:List Tok)(f:Nat): ∀(m:Option Expr) (lvl p:Nat),p<=T.length->gW (cU T f m lvl p).x+4*p<=Mm m+4*(cU T f m lvl p).p:=by
 induction f with
 | zero =>
   intro m lvl p hp
   have:1<=Mm m:=by
    cases m with
    | none=>exact aV _
    | some x=>cases x;simp[Mm,gW]
   simp only[cU,x0,gW,mo];omega
 | succ f ih =>
   intro m lvl p hp;have hrd:∀ l q,q<=T.length->gW (cU T f none l q).x+4*q<=1+4*(cU T f none l q).p:=fun l q hq=>ih none l q hq;have su:∀ l q,q<=T.length->jV T.length q (cU T f none l q):=fun l q hq=>(rK T f none l q hq).1 rfl;cases m with
   | none =>
     simp only[cU,Mm];split
     ·split
      ·rename_i h;have h1:=oK h;have ga:=BP su (p:=p+1) h1;have gb:=BQ su (p:=p+1) h1;have a:=hrd 0 (p+1) h1;have b:=WO (b:=(nP (cU T f none) T (p+1)).bad) (hrd 0 _ ga.2.1);have c:=WO (b:=(uR (cU T f none) T (p+1)).bad) (hrd 0 _ gb.2.1);have a2:=KM (T:=T) (r:=cU T f none 0 (p+1)) (k:=1) (s:=thenS);have b2:=KM (T:=T) (r:=qQ (cU T f none) 0 (nP (cU T f none) T (p+1)).p (nP (cU T f none) T (p+1)).bad) (k:=1) (s:=FM);have ea:(nP (cU T f none) T (p+1))=kX T (cU T f none 0 (p+1)) 1 thenS:=rfl;have eb:(uR (cU T f none) T (p+1))=kX T (qQ (cU T f none) 0 (nP (cU T f none) T (p+1)).p (nP (cU T f none) T (p+1)).bad) 1 FM:=rfl;have ec:(Ej (cU T f none) T (p+1))=qQ (cU T f none) 0 (uR (cU T f none) T (p+1)).p (uR (cU T f none) T (p+1)).bad:=rfl;show gW (.mk 16 v0 [] [(nP (cU T f none) T (p+1)).x,(uR (cU T f none) T (p+1)).x,(Ej (cU T f none) T (p+1)).x])+4*p<=1+4*(Ej (cU T f none) T (p+1)).p;rw[<-ea]at a2;rw[<-eb]at b2;rw[<-ec]at c;simp only[Az,mo];rw[a2.1,b2.1];omega
      exact hrd 1 p hp
     split
     ·rename_i h;have h1:=oK h.2;have c:=hrd 6 (p+1) h1;simp only[Az,mo];omega
     split
     ·have ok:∀ v s,gW (.mk 1 v s [])+4*p<=1+4*(p+1):=fun v s=>by simp only[Az,mo];omega
      unfold ow;split
      ·rename_i h;have c:=hrd 0 (p+1) (oK h);have a2:=KM (T:=T) (r:=cU T f none 0 (p+1)) (k:=4) (s:=[41]);show gW (kX T (cU T f none 0 (p+1)) 4 [41]).x+4*p<=1+4*(kX T (cU T f none 0 (p+1)) 4 [41]).p;rw[a2.1];omega
      repeat' split
      all_goals simp only[zI,x0,Az,mo]
      all_goals omega
     split
     ·exact hrd _ _ hp
     have a:=hrd (lvl+1) p hp;have b:=ih (some (cU T f none (lvl+1) p).x) lvl _ (su (lvl+1) p hp).2.1;simp only[Mm]at b;omega
   | some x =>
     simp only[cU,Mm];split
     ·exact aV _
     rename_i o ho;have h1:=(Ek ho).1;have a:=hrd (lvl+1) (p+1) h1;have g:=su (lvl+1) (p+1) h1;split
     ·simp only[Az,mo];omega
     have b:=ih (some (.mk o.op v0 [] [x,(cU T f none (lvl+1) (p+1)).x])) lvl _ g.2.1;simp only[Mm,Az,mo]at b;omega
def iI(T:List Tok)(fr lvl:Int): Expr × Int × Int :=
 if fr<0\/(T.length:Int)<fr\/lvl<0\/7<lvl then(x0,0,2)
 else if(cU T (8*T.length+9) none lvl.toNat fr.toNat).bad then(x0,(cU T (8*T.length+9) none lvl.toNat fr.toNat).p,11)
 else((cU T (8*T.length+9) none lvl.toNat fr.toNat).x,(cU T (8*T.length+9) none lvl.toNat fr.toNat).p,0)
def Mn(r:Expr × Int × Int): AV:= .bg [br r.1,I r.2.1,I r.2.2]
def nB{σ : ai}{a E:AV}{n m:Int}(h:View σ a E): bR σ [a,I n,I m] [E,I n,I m]:= .cons h (.cons (.refl _ rfl) (.cons (.refl _ rfl) (.nil _)))
def GL(T:List Tok)(fr lvl:Int)(hT:T.length<=2^50)(hs:∀ q,(T.getD q default).s.length<=2^62): aA aM 398 [uk T,I fr,I lvl] (Mn (iI T fr lvl)):=by
 by_cases hg:fr<0\/(T.length:Int)<fr\/lvl<0\/7<lvl
 ·have e:iI T fr lvl=(x0,0,2):=by unfold iI;rw[if_pos hg]
  rw[e];have e1:∀ σ : ai,View σ (.agg [I 0,I 0,I 0,.str [],.str [],.aP]) (br x0):=fun σ=>qi (.aP _);simp only[Mn];generalize br x0=E at *;refine bB tG ?_;intro Q aX aY aZ;repeat' first|refine aQ ?_|refine aR ?_ ?_<;>intro hw<;>try omega|fail
  all_goals first|exact g_ (nB (e1 _))|(exfalso;omega)
 obtain⟨p,rfl⟩:∃ p:Nat,fr=p:=⟨fr.toNat,ae⟩;obtain⟨l,rfl⟩:∃ l:Nat,lvl=l:=⟨lvl.toNat,ae⟩;have cr:=Rj T ae hs (8*T.length+9) l p ae ae ae
 have e:iI T p l=if(cU T (8*T.length+9) none l p).bad then(x0,((cU T (8*T.length+9) none l p).p:Int),11)else ((cU T (8*T.length+9) none l p).x,((cU T (8*T.length+9) none l p).p:Int),0):=by
  unfold iI;rw[if_neg hg,Int.toNat_natCast,Int.toNat_natCast]
 rw[e];simp only[yR]at cr;generalize cU T (8*T.length+9) none l p=r at *;obtain⟨rx,rp,rb⟩:=r;dsimp only at *;have e1:∀ σ : ai,View σ (.agg [I 0,I 0,I 0,.str [],.str [],.aP]) (br x0):=fun σ=>qi (.aP _);have e2:∀ σ : ai,View σ (.agg [I rx.op,I rx.v.kind,I rx.v.n,.str rx.v.s,.str rx.s,.aH false EX (rx.l.map br)]) (br rx):=fun σ=>View.eqv (bE _).symm (gV _);rw[bE]at cr;simp only[dM]at cr;cases rb with
 | true =>
   simp only[if_true,Mn];generalize br x0=E at *;refine bB tG ?_;intro Q aX aY aZ;repeat' first|refine aQ ?_|refine de cr ?_|refine aR ?_ ?_<;>intro hw<;>try omega|fail
   all_goals first|exact g_ (nB (e1 _))|(exfalso;omega)
 | false =>
   simp only[aN,if_false,Mn];generalize br rx=E at *;refine bB tG ?_;intro Q aX aY aZ;repeat' first|refine aQ ?_|refine de cr ?_|refine aR ?_ ?_<;>intro hw<;>try omega|fail
   all_goals first|exact g_ (nB (e2 _))|(exfalso;omega)
def ab7(r b:bj)(i:Nat): (lC r b i).s.length<=b.length+r.length:=by
 fun_induction lC r b i<;>simp_all[PR.err]<;>omega
def aeo(s:bj): (jU s).s.length<=s.length+2:=by
 unfold jU;simp only;split
 ·unfold FJ;split<;>simp[PR.err];omega
 split
 ·unfold oT;simp only;split
  ·simp[PR.err]
  split<;>simp[PR.err]
 split
 ·have:=ab7 (s.drop 1) [] 1;rw[e8]at this;simp only[a_]at this;omega
 unfold wC;split
 ·rename_i m hm;have h2:=gC hm;simp only[xu,fj,eH,or_false]at h2;rcases h2 with h|h|h|h|h|h|h|h|h|h|h|h|h|h|h|h<;>subst h<;>simp
 simp[PR.err]
def Uh(f:Nat): ∀(s:bj) (pos:Nat) (acc:List Tok),(∀ t ∈ acc,t.s.length<=1000)->s.length<=900->(rA f s pos acc).1.length<=acc.length+s.length/\ ∀ t ∈ (rA f s pos acc).1,t.s.length<=1000:=by
 induction f with
 | zero=>intro s pos acc h _;exact⟨Nat.le_add_right _ _,h⟩
 | succ f ih =>
   intro s pos acc h hs;cases s with
   | nil=>exact⟨Nat.le_add_right _ _,h⟩
   | cons c r =>
     rw[uP];simp only[aE]at hs |-;split
     ·have:=ih r (pos+1) acc h ae;exact⟨ae,this.2⟩
     split
     ·rename_i he;have h1:=OZ (s:=c::r) aT he;have h2:=aeo (c::r);simp only[aE]at h1 h2
      have:=ih ((c::r).drop (jU (c::r)).len) (pos+(jU (c::r)).len) (acc++[⟨(jU (c::r)).kind,(jU (c::r)).s,(jU (c::r)).n,pos⟩]) (fun t ht=>by
       rcases List.mem_append.1 ht with ht|ht
       ·exact h t ht
       ·simp only[List.mem_cons,List.not_mem_nil,or_false]at ht;subst ht;dsimp only;omega) (by rw[List.length_drop,List.length_cons];omega)
      rw[e8,aG,aE]at this;simp only[aE,a_]at this;exact⟨ae,this.2⟩
     exact⟨Nat.zero_le _,fun t ht=>by cases ht⟩
def qj(s:bj): (c7 s).1.length<=200/\ ∀ q,((c7 s).1.getD q default).s.length<=1000:=by
 have h:(c7 s).1.length<=200/\ ∀ t ∈ (c7 s).1,t.s.length<=1000:=by
  unfold c7;split
  ·exact⟨Nat.zero_le _,fun t ht=>by cases ht⟩
  have:=Uh (s.length+1) s 0 [] (fun t ht=>by cases ht) ae;simp only[a_]at this;exact⟨ae,this.2⟩
 refine⟨h.1,fun q=>?_⟩;by_cases hq:q<(c7 s).1.length
 ·exact h.2 _ (dh hq)
 rw[pU ae];exact cD _
def HK(T:List Tok)(fr lvl:Int): gW (iI T fr lvl).1<=1+4*T.length:=by
 have h0:gW x0=1:=by simp[x0,gW,mo]
 unfold iI;split
 ·dsimp only;omega
 rename_i hg;split
 ·dsimp only;omega
 have:=aiR T (8*T.length+9) none lvl.toNat fr.toNat ae;have g:=(rK T (8*T.length+9) none lvl.toNat fr.toNat ae).2.2;simp only[Mm]at this;dsimp only;omega
def jI(s:bj): Expr × Int × Int :=
 if(c7 s).2.2≠0 then(x0,(c7 s).2.1,(c7 s).2.2)
 else if(iI (c7 s).1 0 0).2.1<(c7 s).1.length then(x0,((c7 s).1.getD (iI (c7 s).1 0 0).2.1.toNat default).pos,11)
 else if(iI (c7 s).1 0 0).2.2≠0 then(x0,s.length,(iI (c7 s).1 0 0).2.2)
 else if 12<lD (iI (c7 s).1 0 0).1 then(x0,0,12)
 else((iI (c7 s).1 0 0).1,0,0)
def Sn(T:List Tok)(fr lvl:Int): 0<=(iI T fr lvl).2.1/\(iI T fr lvl).2.1<=T.length:=by
 unfold iI;split
 ·exact⟨Int.le_refl _,by dsimp only;omega⟩
 rename_i hg;have g:=(rK T (8*T.length+9) none lvl.toNat fr.toNat ae).2.2;split<;>(dsimp only;omega)
def Pk(s:bj)(hs:s.length<=2^30): aA aM 347 [.str s] (Mn (jI s)):=by
 have cl:=Si s hs;obtain⟨f1,f2⟩:=qj s;have cr:=GL (c7 s).1 0 0 ae (fun q=>by have:=f2 q;omega);have hz:=HK (c7 s).1 0 0;obtain⟨hp0,DM⟩:=Sn (c7 s).1 0 0
 have hP:jI s=if(c7 s).2.2≠0 then(x0,(c7 s).2.1,(c7 s).2.2)
  else if(iI (c7 s).1 0 0).2.1<(c7 s).1.length then(x0,((c7 s).1.getD (iI (c7 s).1 0 0).2.1.toNat default).pos,11)
  else if(iI (c7 s).1 0 0).2.2≠0 then(x0,(s.length:Int),(iI (c7 s).1 0 0).2.2)
  else if 12<lD (iI (c7 s).1 0 0).1 then(x0,0,12)
  else((iI (c7 s).1 0 0).1,0,0):=rfl
 rw[hP];clear hP f2;generalize iI (c7 s).1 0 0=r at *;generalize c7 s=L at *;obtain⟨T,la,le⟩:=L;obtain⟨rx,rn,re⟩:=r;dsimp only at *;have cd:=zG rx ae;obtain⟨n,rfl⟩:∃ n:Nat,rn=n:=⟨rn.toNat,ae⟩;have e1:∀ σ : ai,View σ (.agg [I 0,I 0,I 0,.str [],.str [],.aP]) (br x0):=fun σ=>qi (.aP _);have e2:∀ σ : ai,View σ (.agg [I rx.op,I rx.v.kind,I rx.v.n,.str rx.v.s,.str rx.s,.aH false EX (rx.l.map br)]) (br rx):=fun σ=>View.eqv (bE _).symm (gV _);simp only[Mn]at cr |-;rw[bE]at cr cd;simp only[T8,uk]at cl cr;by_cases h1:le≠0
 ·rw[aB h1];generalize br x0=E at *;refine bB mN ?_;intro Q aX aY aZ;repeat' first|refine aQ ?_|refine aR ?_ ?_<;>intro hw<;>try omega|fail
  all_goals exact g_ (nB (e1 _))
 rw[aq h1];by_cases h2:(n:Int)<T.length
 ·rw[aB h2,fB];generalize br x0=E at *;have hn:n<T.length:=ae;refine bB mN ?_;intro Q aX aY aZ;repeat' first|refine aQ ?_|refine aR ?_ ?_<;>intro hw<;>try omega|fail
  all_goals exact g_ (nB (e1 _))
 rw[aq h2];by_cases h3:re≠0
 ·rw[aB h3];generalize br x0=E at *;refine bB mN ?_;intro Q aX aY aZ;repeat' first|refine aQ ?_|refine aR ?_ ?_<;>intro hw<;>try omega|fail
  all_goals exact g_ (nB (e1 _))
 rw[aq h3];by_cases h4:12<lD rx
 ·rw[aB h4];generalize br x0=E at *;refine bB mN ?_;intro Q aX aY aZ;repeat' first|refine aQ ?_|refine aR ?_ ?_<;>intro hw<;>try omega|fail
  all_goals exact g_ (nB (e1 _))
 rw[aq h4];generalize br rx=E at *;refine bB mN ?_;intro Q aX aY aZ;repeat' first|refine aQ ?_|refine aR ?_ ?_<;>intro hw<;>try omega|fail
 all_goals exact g_ (nB (e2 _))
def Jn: bj:=[110,117,108,108]
def yS: bj:=[116,114,117,101]
def uT: bj:=[102,97,108,115,101]
structure Lq where
 op:Int
 vk:Int
 vn:Int
 vs:bj
 s:bj
 fl:Bool
 zs:List AV
 x:Expr
 p:Nat
 b:Bool
 f:Nat
def Lq.cs(q:Lq): List AV:=[I q.op,I q.vk,I q.vn,.str q.vs,.str q.s,.aH q.fl EX q.zs]
def eI(n:Int): AV:=I n
attribute [go_sem] eI
def aep(n:Int): (eI n).dU=true:=rfl
def Jo(l:List Int): AV.cK (l.map eI)=true:=je _ _ aep
def lE(a b:Int): Bool:=decide (a=b) || decide (a=0) || decide (b=0)
def orK(a b:Int): Int:=if a=0 then b else a
def oU(a b:Int): aA aM 349 [I a,I b] (.bool (lE a b)):=by
 refine bB Kx ?_;intro Q aX aY aZ;repeat' first|refine aQ ?_|refine aR ?_ ?_<;>intro hw<;>try omega|fail
 all_goals refine bu ?_ rfl
 all_goals (refine bC AV.bool ?_;rw[cq];simp only[lE,aD,dD,au,beq_iff_eq,dR,decide_eq_false_iff_not,beq_eq_false_iff_ne,ne_eq,true_iff,false_iff,iff_true,iff_false,aN,Bool.true_eq_false,not_and,not_or]at *;omega)
def CN(a b:Int): aA aM 466 [I a,I b] (I (orK a b)):=by
 refine bB Ap ?_;intro Q aX aY aZ;repeat' first|refine aQ ?_|refine aR ?_ ?_<;>intro hw<;>try omega|fail
 all_goals refine bu ?_ rfl
 all_goals (unfold orK;first|rw[if_neg (by assumption)]|rw[if_pos (by assumption)]|(subst a;rfl))
def So{α : Type}{p : α->Bool}(l:List α): l.all p = !(l.any fun x=> !(p x)):=by
 induction l with
 | nil=>rfl
 | cons x r ih=>simp[ih]
def Jp(w:Int)(l:List Int)(hl:l.length<=2^60): aA aM 465 [I w,.aH false E1 (l.map eI)] (.bool (l.all fun k=>lE k w)):=by
 refine bB Nw ?_ (by simp[AV.dU,AV.cK,Jo]);intro Q aX aY aZ;repeat' first|refine aQ ?_|refine aR ?_ ?_<;>intro hw<;>try omega|fail
 with_reducible refine dA [4,1,6,1,9,9] (fun i:Nat=>[(9,I i)]) (fun _=>[]) (fun i=>i<=l.length/\ ∀ k,k<i->(!(lE (l.getD k default) w))=false) (fun i=>l.length-i) (0) ?_ ?_ ?_ ?_
 ·simp
 ·rfl
 ·exact at_
 rintro i r ⟨h1,h2⟩;by_cases hi:i<l.length
 ·repeat' first|refine aQ ?_|refine jS (oU _ _) ?_|refine aR ?_ ?_<;>intro hw<;>try omega|fail
  ·refine bu ?_ rfl;rw[So,WJ (p:=fun x=> !(lE x w)) hi (by simpa using hw)];rfl
  refine⟨i+1,?_,?_,by first|rfl|(simp[go_sem];done),fU,at_⟩<;>(try dsimp only)
  ·exact⟨ae,cS h2 (by simpa using hw)⟩
  omega
 repeat' first|refine aQ ?_|refine aR ?_ ?_<;>intro hw<;>try omega|fail
 refine bu ?_ rfl;rw[So,Sj (p:=fun x=> !(lE x w)) (fun k hk=>h2 k ae)];rfl
def Gg(l:List Int)(v:Int)(hl:l.length<=2^60): aA aM 484 [.aH false E1 (l.map eI),I v] (I (lN (fun x=>x==v) l)):=by
 refine bB BJ ?_ (by simp[AV.dU,AV.cK,Jo]);intro Q aX aY aZ;repeat' first|refine aQ ?_|refine aR ?_ ?_<;>intro hw<;>try omega|fail
 with_reducible refine dA [4,2,8,11] (fun i:Nat=>[(8,I i)]) (fun _=>[]) (fun i=>i<=l.length/\ ∀ k,k<i->(l.getD k default==v)=false) (fun i=>l.length-i) (0) ?_ ?_ ?_ ?_
 ·simp
 ·rfl
 ·exact at_
 rintro i r ⟨h1,h2⟩;by_cases hi:i<l.length
 ·repeat' first|refine aQ ?_|refine aR ?_ ?_<;>intro hw<;>try omega|fail
  ·refine bu ?_ rfl;rw[tL (p:=fun x=>x==v) hi h2 (by simp_all)]
  refine⟨i+1,?_,?_,by first|rfl|(simp[go_sem];done),fU,at_⟩<;>(try dsimp only)
  ·exact⟨ae,cS h2 (by rw[beq_eq_false_iff_ne];intro h;exact hw h.symm)⟩
  omega
 repeat' first|refine aQ ?_|refine aR ?_ ?_<;>intro hw<;>try omega|fail
 refine bu ?_ rfl;rw[pT (p:=fun x=>x==v) (fun k hk=>h2 k ae)]
def BR(l:List Int)(v:Int)(hl:l.length<=2^60): aA aM 467 [.aH false E1 (l.map eI),I v] (.bool (decide (0<=lN (fun x=>x==v) l))):=by
 refine bB yh ?_ (by simp[AV.dU,AV.cK,Jo]);intro Q aX aY aZ;repeat' first|refine aQ ?_|refine jS (Gg l v hl) ?_|refine aR ?_ ?_<;>intro hw<;>try omega|fail
 all_goals exact bu rfl rfl
def sw(op:Int)(ks:List Int): Int × Bool :=
 if op=3\/op=5\/op=6\/op=7 then(1,ks.all fun k=>lE k 1)
 else if op=4 then(if orK (ks.getD 0 0) (ks.getD 1 0)=2 then(2,ks.all fun k=>lE k 2)else (1,ks.all fun k=>lE k 1))
 else if op=8\/op=9 then(3,lE (ks.getD 0 0) (ks.getD 1 0))
 else if op=10\/op=11\/op=12\/op=13 then(3,lE (ks.getD 0 0) (ks.getD 1 0) && !(decide (0<=lN (fun x=>x==3) ks)))
 else if op=14\/op=15 then(3,ks.all fun k=>lE k 3)
 else(orK (ks.getD 1 0) (ks.getD 2 0),lE (ks.getD 0 0) 3 && lE (ks.getD 1 0) (ks.getD 2 0))
def Pm(a:Int): aA aM 438 [I 3,.aH false E1 ([a].map eI)] (.bg [I (sw 3 [a]).1,.bool (sw 3 [a]).2]):=by
 have h:=fun w=>Jp w [a] aT;simp only[List.map,eI]at h |-;refine bB tI ?_;intro Q aX aY aZ;repeat' first|simp (disch:=omega) only[go_sem,aX,aY,aZ,Int.reduceToNat]|refine aQ ?_|refine jS (h _) ?_|refine aR ?_ ?_<;>intro hw<;>try omega|fail
 all_goals exact c6 rfl rfl
def Pn(op a b:Int)(h4:4<=op)(h15:op<=15): aA aM 438 [I op,.aH false E1 ([a,b].map eI)] (.bg [I (sw op [a,b]).1,.bool (sw op [a,b]).2]):=by
 have h:=fun w=>Jp w [a,b] aT;have hc:=BR [a,b] 3 aT;simp only[List.map,eI]at h hc |-;generalize hR:sw op [a,b]=R;refine bB tI ?_;intro Q aX aY aZ;repeat' first|simp (disch:=omega) only[go_sem,aX,aY,aZ,Int.reduceToNat]|refine aQ ?_|refine jS (h _) ?_|refine jS (CN a b) ?_|refine jS (oU a b) ?_|refine aR ?_ ?_<;>intro hw<;>try omega|fail
 all_goals (refine c6 ?_ rfl;clear aX aY aZ h hc;subst hR)
 all_goals (simp_all[sw];done)
def Po(a b c:Int): aA aM 438 [I 16,.aH false E1 ([a,b,c].map eI)] (.bg [I (sw 16 [a,b,c]).1,.bool (sw 16 [a,b,c]).2]):=by
 simp only[List.map,eI];refine bB tI ?_;intro Q aX aY aZ;repeat' first|simp (disch:=omega) only[go_sem,aX,aY,aZ,Int.reduceToNat]|refine aQ ?_|refine jS (CN b c) ?_|refine jS (oU a 3) ?_|refine jS (oU b c) ?_|refine aR ?_ ?_<;>intro hw<;>try omega|fail
 all_goals (refine c6 ?_ rfl;simp_all[sw])
def Zp(op:Int)(ks:List Int): Int × Int:=if(sw op ks).2 then((sw op ks).1,0)else (0,14)
def qC (fn : FuncId) (cap : List AV) (hcap : AV.cK cap = true) (p : fh -> Bool) (l : List fh) (h : ∀ k, k < l.length -> aA aM fn (dS (l.getD k default) :: cap) (.bool (p (l.getD k default)))) (hl : l.length <= 2^62) :
    aA aM 391 [ei l,.fn (.func fn) [] cap] (I (lN p l)):=by
 refine bB vv ?_ (by simp[AV.dU,AV.cK,hcap,j9]);intro Q aX aY aZ;repeat' first|refine aQ ?_|refine aR ?_ ?_<;>intro hw<;>try omega|fail
 with_reducible refine dA [4,2,8,11] (fun i:Nat=>[(8,I i)]) (fun _=>[]) (fun i=>i<=l.length/\ ∀ k,k<i->p (l.getD k default)=false) (fun i=>l.length-i) (0) ?_ ?_ ?_ ?_
 ·simp
 ·rfl
 ·exact at_
 rintro i r ⟨hi,hp⟩;by_cases hin:i<l.length
 ·have hx:=h i hin;simp only[dS,j_]at hx;repeat' first|refine aQ ?_|refine aR ?_ ?_<;>intro hw<;>try omega|fail
  ·refine bu ?_ rfl;refine bC I ?_;exact(tL hin hp hw).symm
  refine⟨i+1,?_,?_,by first|rfl|(simp[go_sem];done),fU,at_⟩<;>(try dsimp only)
  ·exact⟨ae,cS hp hw⟩
  omega
 repeat' first|refine aQ ?_|refine aR ?_ ?_<;>intro hw<;>try omega|fail
 refine bu ?_ rfl;refine bC I ?_;exact(pT fun k hk=>hp k ae).symm
def GM(l:List fh)(s:bj): Int:=lN (fun c=>c.name==s) l
def Rk(c:fh)(s:bj): aA aM 431 [dS c,.cN E1 (.str s) 0] (.bool (c.name==s)):=by
 refine bB KB ?_ (by simp[AV.dU,AV.cK,BL]);intro Q aX aY aZ;repeat' first|refine aQ ?_|refine aR ?_ ?_<;>intro hw<;>try omega|fail
 all_goals exact bu rfl rfl
def Mp(l:List fh)(s:bj)(hl:l.length<=2^60): aA aM 390 [ei l,.str s] (I (GM l s)):=by
 have hc:=qC 431 [.cN E1 (.str s) 0] rfl (fun c=>c.name==s) l (fun k _=>Rk _ s) ae;simp only[ei]at hc;refine bB OQ ?_ (by simp[AV.dU,AV.cK,j9]);intro Q aX aY aZ;repeat' first|refine aQ ?_|refine cv_ hc ?_|refine aR ?_ ?_<;>intro hw<;>try omega|fail
 all_goals exact bu rfl rfl
def Em{op:Int}{n:Nat}(h:(n:Int)=lp op)(h1:op≠1)(h2:op≠2): (op=3/\n=1)\/(4<=op/\op<=15/\n=2)\/(op=16/\n=3):=by
 unfold lp at h;rw[aq ae]at h;by_cases h3:op=3
 ·rw[aB h3]at h;omega
 rw[aq h3]at h;by_cases h16:op=16
 ·rw[aB h16]at h;omega
 rw[aq h16]at h;by_cases hr:4<=op/\op<=15
 ·rw[aB (Ua op hr.1 hr.2).2]at h;omega
 rw[T_ op ae]at h;rw[aq dV]at h;omega
def KN(op:Int)(ks:List Int)(h:(ks.length:Int)=lp op)(h1:op≠1)(h2:op≠2): aA aM 438 [I op,.aH false E1 (ks.map eI)] (.bg [I (sw op ks).1,.bool (sw op ks).2]):=by
 rcases Em h h1 h2 with⟨rfl,hn⟩|⟨h4,h15,hn⟩|⟨rfl,hn⟩
 ·match ks,hn with
  | [a],_=>exact Pm a
 ·match ks,hn with
  | [a,b],_=>exact Pn op a b h4 h15
 match ks,hn with
 | [a,b,c],_=>exact Po a b c
mutual
def lF(cs:List fh): Expr->Int × Int
 | .mk op v s l =>
   if op=1 then(v.kind,0)
   else if op=2 then(if GM cs s<0 then(0,13)else ((cs.getD (GM cs s).toNat default).kind,0))
   else if(nC cs l).2=0 then Zp op (nC cs l).1 else(0,(nC cs l).2)
def nC(cs:List fh): List Expr->List Int × Int
 | []=>([],0)
 | x :: r =>
   if(lF cs x).2≠0 then([],(lF cs x).2)
   else if(nC cs r).2≠0 then([],(nC cs r).2)
   else((lF cs x).1::(nC cs r).1,0)
end
def Pp{cs:List fh}: ∀ {l:List Expr} {ks:List Int},ks.length=l.length->(∀ k,k<l.length->lF cs (l.getD k default)=(ks.getD k 0,0))->nC cs l=(ks,0)
 | [],[],_,_=>by simp only[nC]
 | x :: r, k :: ks, hl, h => by
   have h0:=h 0 aT;simp only[cC]at h0;have hr:=Pp (l:=r) (ks:=ks) (by simpa using hl) (fun i hi=>by simpa using h (i+1) (by simpa using hi));simp[nC,h0,hr]
def Mq{cs:List fh}: ∀ {l:List Expr} {i:Nat} {e:Int},i<l.length->(∀ k,k<i->(lF cs (l.getD k default)).2=0)->(lF cs (l.getD i default)).2=e->e≠0->nC cs l=([],e)
 | x :: r, 0, e, _, _, he, hne => by
   simp only[cC]at he;simp[nC,he,hne]
 | x :: r, i + 1, e, hi, h, he, hne => by
   have h0:=h 0 ae;simp only[cC]at h0;have hr:=Mq (l:=r) (i:=i) (e:=e) (by simpa using hi) (fun k hk=>by simpa using h (k+1) ae) (by simpa using he) hne;simp[nC,h0,hr,hne]
def ab8{α : Type}[Inhabited α](p : α->Bool)(l:List α): lN p l<l.length:=by
 rcases tM p l with⟨h1,h2⟩|⟨i,h1,h2,h3⟩
 ·rw[h1];omega
 rw[h2];omega
def Rl(cs:List fh)(hcs:cs.length<=2^60)(x:Expr): eV x=true->gW x<=2^60->aA aM 400 [br x,ei cs] (.bg [I (lF cs x).1,I (lF cs x).2]):=by
 induction x using Expr.ind with
 | h op v s l ih =>
   intro hr hz;simp only[gW]at hz;have hl:=FK l
   have aeq:(l.length:Int)=lp op:=by
    simp only[eV,aD,au]at hr;exact hr.1
   obtain⟨vk,vn,vs⟩:=v;have hA:=Mp cs s hcs;have hAl:=ab8 (fun c:fh=>c.name==s) cs
   change GM cs s<cs.length at hAl
   simp only[ei]at hA |-;by_cases h1:op=1
   ·have e:lF cs (.mk op ⟨vk,vn,vs⟩ s l)=(vk,0):=by simp only[lF,aB h1]
    rw[e];refine bB qg ?_;intro Q aX aY aZ;repeat' first|refine aQ ?_|refine aR ?_ ?_<;>intro hw<;>try omega|fail
    exact c6 rfl rfl
   by_cases h2:op=2
   ·have e:lF cs (.mk op ⟨vk,vn,vs⟩ s l)=if GM cs s<0 then(0,13)else ((cs.getD (GM cs s).toNat default).kind,0):=by simp only[lF,aq h1,aB h2]
    rw[e];generalize GM cs s=i at *;by_cases hi:i<0
    ·rw[aB hi];refine bB qg ?_;intro Q aX aY aZ;repeat' first|refine aQ ?_|refine aR ?_ ?_<;>intro hw<;>try omega|fail
     exact c6 rfl rfl
    rw[aq hi];obtain⟨n,rfl⟩:∃ n:Nat,i=n:=⟨i.toNat,ae⟩;have hn:n<cs.length:=ae;refine bB qg ?_;intro Q aX aY aZ;repeat' first|refine aQ ?_|refine aR ?_ ?_<;>intro hw<;>try omega|fail
    exact c6 rfl rfl
   have En:uQ l=true:=by
    simp only[eV,aq h1,aq h2,aD]at hr;exact hr.2.2
   have On:∀ k,k<l.length->eV (l.getD k default)=true:=fun k hk=>by
    rw[Ji]at En;simp only[dR,List.any_eq_false,dR,Bool.not_eq_false']at En;simpa using En _ (dh hk)
   have hk:∀ k,k<l.length->_:=fun k h=>ih _ (dh h) (On k h) (by have:=FL (dh h);omega);have e:lF cs (.mk op ⟨vk,vn,vs⟩ s l)=if(nC cs l).2=0 then Zp op (nC cs l).1 else(0,(nC cs l).2):=by simp only[lF,aq h1,aq h2]
   rw[e];have hl3:l.length<=3:=by rcases Em aeq h1 h2 with h|h|h<;>omega
   have aiS:=fun ks h=>KN op ks h h1 h2;clear hA hAl e hr En;simp only[ei]at hk;refine bB qg ?_;intro Q aX aY aZ;repeat' first|refine aQ ?_|refine aR ?_ ?_<;>intro hw<;>try omega|fail
   with_reducible refine dA [4,2,7,1,9,3,37,18] (fun q:Nat × List Int × List bG=>[(37,I q.1),(7,.own E1 1 q.1 0 q.1)]) (fun q=> .cells [I op,I vk,I vn,.str vs,.str s,.aH false EX (l.map br)]:: .vec E1 (q.2.1.map eI)::q.2.2) (fun q=>q.1<=l.length/\q.2.1.length=q.1/\ ∀ k,k<q.1->lF cs (l.getD k default)=(q.2.1.getD k 0,0)) (fun q=>l.length-q.1) (0,[],[]) ?_ ?_ ?_ ?_
   ·simp
   ·rfl
   ·exact at_
   rintro⟨i,ks,H⟩ r ⟨a1,a2,a3⟩;dsimp only at a1 a2 a3;by_cases hi:i<l.length
   ·have hx:=hk i hi;generalize hK:lF cs (l.getD i default)=K at *;obtain⟨kk,ke⟩:=K;rw[bE]at hx;repeat' first|refine fy a2 ?_|refine aQ ?_|refine aR ?_ ?_<;>intro hw<;>try omega|fail
    ·have:nC cs l=([],ke):=Mq hi (fun k h=>by rw[a3 k h]) (by rw[hK]) (by assumption);rw[this];refine c6 ?_ rfl;dsimp only;rw[aq (by assumption)]
    refine⟨(i+1,ks++[kk],H++[.cells [I (l.getD i default).op,I (l.getD i default).v.kind,I (l.getD i default).v.n,.str (l.getD i default).v.s,.str (l.getD i default).s,.aH false EX ((l.getD i default).l.map br)]]),?_,?_,?_,fU,at_⟩
    ·refine⟨by dsimp only;omega,by simp[a2],cS (fun k lZ=>?_) ?_⟩
     ·rw[a3 k lZ];simp[aj,aO (show k<ks.length by omega)]
     rw[hK];have:ke=0:=by assumption
     rw[this,<-a2];simp[aj]
    ·dsimp only;omega
    simp[eI]
   have WQ:i=l.length:=ae;subst WQ;have Dt:=Pp a2 a3;rw[Dt]at aX aY;have hc:=aiS ks (by rw[a2];exact aeq);have hpk:AV.cK (ks.map eI)=true:=Jo ks;have hlk:(ks.map eI).length=l.length:=by simp[a2]
   simp only[if_true]at aX aY;unfold Zp at aX aY;clear Dt a3;generalize sw op ks=R at *;obtain⟨rk,rb⟩:=R;repeat' first|refine fy a2 ?_|refine aQ ?_|(with_reducible refine wN hc (.cons (View.refl _ rfl) (.cons (View.vec rfl hlk.symm hlk.symm hpk) (.nil _))) rfl ?_)|refine aR ?_ ?_<;>intro hw<;>try omega|fail
   all_goals (refine c6 ?_ rfl;simp_all)
def Rm(cs:List fh)(hcs:cs.length<=2^60)(x:Expr)(hx:jN x)(hz:gW x<=2^60): aA aM 348 [br x,ei cs] (.bg [I (if eV x then(lF cs x).1 else 0),I (if eV x then(lF cs x).2 else 2)]):=by
 have h1:=Eg x hx hz;have h2:=Rl cs hcs x;cases hr:eV x with
 | true =>
   have h2:=h2 hr hz;rw[hr]at h1;simp only[nO,if_true]at h1 |-;generalize lF cs x=K at *;rw[bE]at h1 h2 |-;simp only[ei]at h2 |-;refine bB Am ?_;intro Q aX aY aZ;repeat' first|refine aQ ?_|refine aR ?_ ?_<;>intro hw<;>try omega|fail
   all_goals exact c6 rfl rfl
 | false =>
   rw[hr]at h1;simp only[nO,aN,if_false]at h1 |-;rw[bE]at h1 |-;simp only[ei];refine bB Am ?_;intro Q aX aY aZ;repeat' first|refine aQ ?_|refine aR ?_ ?_<;>intro hw<;>try omega|fail
   all_goals exact c6 rfl rfl
def tO(l:List fh)(i:Nat): Int :=
 if jb (l.getD i default).name=false\/GM l (l.getD i default).name≠i then 13
 else if(l.getD i default).kind<1\/3<(l.getD i default).kind then 14 else 0
def kY(l:List fh): Int:=if 6<l.length then 24 else match(List.range l.length).find? (fun i=>tO l i != 0)with
 | some i=>tO l i
 | none=>0
def mO{n k:Nat}(h:k<n): (List.range n).getD k default=k:=by simp[aj,h]
def Zq{l:List fh}{i:Nat}{e:Int}(h6:¬ 6<l.length)(hi:i<l.length)(h:∀ k,k<i->tO l k=0)(he:tO l i=e)(hne:e≠0): kY l=e:=by
 have:=Au (p:=fun i=>tO l i != 0) (l:=List.range l.length) (i:=i) (by simpa using hi) (fun k hk=>by rw[mO ae];simp[h k hk]) (by rw[mO hi];simp[he,hne]);unfold kY;rw[aq h6,this,mO hi];exact he
def WR{l:List fh}(h6:¬ 6<l.length)(h:∀ k,k<l.length->tO l k=0): kY l=0:=by
 have:=xw (p:=fun i=>tO l i != 0) (l:=List.range l.length) (fun k hk=>by rw[List.length_range]at hk;rw[mO hk];simp[h k hk]);unfold kY;rw[aq h6,this]
def KO(l:List fh)(hn:∀ k,k<l.length->(l.getD k default).name.length<=2^62): aA aM 341 [ei l] (I (kY l)):=by
 by_cases h6:6<l.length
 ·have e:kY l=24:=by unfold kY;rw[if_pos h6]
  rw[e];refine bB vM ?_ (by simp[AV.dU,AV.cK,j9]);intro Q aX aY aZ;repeat' first|refine aQ ?_|refine aR ?_ ?_<;>intro hw<;>try omega|fail
  exact bu rfl rfl
 refine bB vM ?_ (by simp[AV.dU,AV.cK,j9]);intro Q aX aY aZ;repeat' first|refine aQ ?_|refine aR ?_ ?_<;>intro hw<;>try omega|fail
 with_reducible refine dA [2,3,10,31] (fun q:Nat × List bG=>[(10,I q.1)]) (fun q=>q.2) (fun q=>q.1<=l.length/\ ∀ k,k<q.1->tO l k=0) (fun q=>l.length-q.1) (0,[]) ?_ ?_ ?_ ?_
 ·simp
 ·rfl
 ·exact at_
 rintro⟨i,H⟩ r ⟨h1,h2⟩;dsimp only at h1 h2;by_cases hi:i<l.length
 ·have c1:=rB _ (hn i hi);have c2:=Mp l (l.getD i default).name ae;have hE:tO l i=if jb (l.getD i default).name=false\/GM l (l.getD i default).name≠i then 13 else if(l.getD i default).kind<1\/3<(l.getD i default).kind then 14 else 0:=rfl
  obtain⟨c,hc⟩:=gi (l.getD i default);rw[hc]at c1 c2 hE;generalize jb c.name=nb at *;generalize GM l c.name=an at *;simp only[ei]at c2;repeat' first|refine fy hc ?_|refine aQ ?_|refine aR ?_ ?_<;>intro hw<;>try omega|fail
  all_goals first
   | (refine bu ?_ rfl
      refine bC I ?_
      symm
      refine Zq h6 hi h2 ?_ dV;rw[hE]
      first
       |(rw[aB (by simp_all)];done)
       |(rw[aq (by simp_all),aB ae];done))
   | (refine ⟨(i + 1, H ++ [.cells [.str c.name, I c.kind, .aH false EV (c.order.map nL)]]), ?_, ?_, by first | rfl | (simp [go_sem]; done), fU, at_⟩
      ·exact⟨by dsimp only;omega,cS h2 (by rw[hE,if_neg (by simp_all),if_neg ae])⟩
      ·dsimp only;omega)
 repeat' first|refine aQ ?_|refine aR ?_ ?_<;>intro hw<;>try omega|fail
 refine bu ?_ rfl;rw[WR h6 (fun k hk=>h2 k ae)]
def oz(x:Expr): Bool:=eV x && decide (lD x<=12)
def Mr(x:Expr)(hx:jN x)(hz:gW x<=2^60): aA aM 351 [br x] (.bool (oz x)):=by
 have h1:=Eg x hx hz;have h2:=zG x hz;unfold oz;generalize eV x=b at *;rw[bE]at h1 h2 |-;refine bB OP ?_;intro Q aX aY aZ;cases b<;>simp only[nO,if_true,Bool.false_eq_true,if_false]at h1
 ·repeat' first|refine aQ ?_|refine aR ?_ ?_<;>intro hw<;>try omega|fail
  all_goals exact bu rfl rfl
 repeat' first|refine aQ ?_|refine aR ?_ ?_<;>intro hw<;>try omega|fail
 all_goals (refine bu ?_ rfl;simp;omega)
def AA (fn : FuncId) (cap : List AV) (hcap : AV.cK cap = true) (p : Test -> Bool) (l : List Test) (h : ∀ k, k < l.length -> aA aM fn (dJ (l.getD k default) :: cap) (.bool (p (l.getD k default)))) (hl : l.length <= 2^62) :
    aA aM 350 [jT l,.fn (.func fn) [] cap] (I (lN p l)):=by
 refine bB xm ?_ (by simp[AV.dU,AV.cK,hcap,wA]);intro Q aX aY aZ;repeat' first|refine aQ ?_|refine aR ?_ ?_<;>intro hw<;>try omega|fail
 with_reducible refine dA [4,2,8,11] (fun i:Nat=>[(8,I i)]) (fun _=>[]) (fun i=>i<=l.length/\ ∀ k,k<i->p (l.getD k default)=false) (fun i=>l.length-i) (0) ?_ ?_ ?_ ?_
 ·simp
 ·rfl
 ·exact at_
 rintro i r ⟨hi,hp⟩;by_cases hin:i<l.length
 ·have hx:=h i hin;simp only[dJ,dS,gG,ov,dK,dG,jT,j_,ji,qP]at hx;repeat' first|refine aQ ?_|refine aR ?_ ?_<;>intro hw<;>try omega|fail
  ·refine bu ?_ rfl;refine bC I ?_;exact(tL hin hp hw).symm
  refine⟨i+1,?_,?_,by first|rfl|(simp[go_sem];done),fU,at_⟩<;>(try dsimp only)
  ·exact⟨ae,cS hp hw⟩
  omega
 repeat' first|refine aQ ?_|refine aR ?_ ?_<;>intro hw<;>try omega|fail
 refine bu ?_ rfl;refine bC I ?_;exact(pT fun k hk=>hp k ae).symm
def xA (fn : FuncId) (cap : List AV) (hcap : AV.cK cap = true) (p : Test -> Bool) (l : List Test) (h : ∀ k, k < l.length -> aA aM fn (dJ (l.getD k default) :: cap) (.bool (p (l.getD k default)))) (hl : l.length <= 2^62) :
    aA aM 268 [jT l,.fn (.func fn) [] cap] (.bool (l.any p)):=by
 refine bB uN ?_ (by simp[AV.dU,AV.cK,hcap,wA]);intro Q aX aY aZ;have hc:=AA fn cap hcap p l h hl;simp only[jT]at hc;repeat' first|refine aQ ?_|refine aR ?_ ?_<;>intro hw<;>try omega|fail
 all_goals refine bu ?_ rfl
 all_goals rw[<-HI]
def oL(t:Test): Bool :=
 if t.kind=6 then oz t.a && oz t.b
 else decide (1<=t.kind/\t.kind<=5) && oz t.a && yP t.b x0 && !t.lo && !t.hi
def Jq(t:Test): Prop:=(jN t.a/\gW t.a<=2^60)/\jN t.b/\gW t.b<=2^60
def Ms(c:Cell): Prop:=c.tests.length<=2^60/\ ∀ t ∈ c.tests,Jq t
def nR(c:Cell): Bool :=
 if c.any then !c.neg && decide (c.tests.length=0)
 else decide (1<=c.tests.length/\c.tests.length<=12) && !(c.tests.any fun t=> !(oL t))
def WS: gW x0<=2^60:=by simp[x0,gW,mo]
def Zr: br x0 = .agg [I 0,I 0,I 0,.str [],.str [],.aH false EX []]:=by simp[x0,v0,br]
def cell_of(t:Test): aA aM 353 [dJ t] (.agg [.bool t.lo,.bool t.hi]):=by
 refine bB T4 ?_;intro Q aX aY aZ;simp only[dJ,dG];repeat' first|refine aQ ?_|refine aR ?_ ?_<;>intro hw<;>try omega|fail
 all_goals exact bu rfl rfl
def Ui(t:Test)(h:Jq t): aA aM 270 [dJ t] (.bool (oL t)):=by
 obtain⟨⟨a1,a2⟩,b1,b2⟩:=h;have ha:=Mr t.a a1 a2;have hb:=Mr t.b b1 b2;have hs:=Rh t.b x0 (WL _ b2) (WL _ WS);have ho:=cell_of t;rw[Zr]at hs;rw[bE]at ha hb hs;simp only[dJ,dG]at ho |-;have hS:oL t=if t.kind=6 then oz t.a && oz t.b else decide (1<=t.kind/\t.kind<=5) && oz t.a && yP t.b x0 && !t.lo && !t.hi:=rfl
 rw[hS];clear hS;generalize oz t.a=pa at *;generalize oz t.b=pb at *;generalize yP t.b x0=sb at *;refine bB Nu ?_;intro Q aX aY aZ;repeat' first|refine aQ ?_|refine cw_ hs ?_|refine aR ?_ ?_<;>intro hw<;>try omega|fail
 all_goals (refine bu ?_ rfl;refine bC AV.bool ?_;rw[cq];simp_all)
 all_goals (try omega)
def Pq(t:Test)(h:Jq t): aA aM 269 [dJ t] (.bool (!(oL t))):=by
 have h1:=Ui t h;simp only[dJ,dG]at h1 |-;generalize oL t=b at *;refine bB I9 ?_;intro Q aX aY aZ;repeat' first|refine aQ ?_|refine aR ?_ ?_<;>intro hw<;>try omega|fail
 all_goals exact bu rfl rfl
def BS(c:Cell)(h:Ms c): aA aM 182 [dK c] (I (nO (nR c))):=by
 have hc:=xA 269 [] rfl (fun t=> !(oL t)) c.tests (fun k hk=>Pq _ (h.2 _ (dh hk))) (by have:=h.1;omega);have hl:=h.1;simp only[jT,dK]at hc |-;have hS:nR c=if c.any then !c.neg && decide (c.tests.length=0)else decide (1<=c.tests.length/\c.tests.length<=12) && !(c.tests.any fun t=> !(oL t)):=rfl
 rw[hS];clear hS;generalize c.tests.any (fun t=> !(oL t))=an at *;refine bB Ns ?_;intro Q aX aY aZ;repeat' first|refine aQ ?_|refine aR ?_ ?_<;>intro hw<;>try omega|fail
 all_goals (refine bu ?_ rfl;refine bC I ?_;simp_all[nO,<-List.length_eq_zero_iff])
 all_goals (try omega)
 all_goals (intro h0;exfalso;omega)
def lG(k:Int): bj:=if k=2 then [60]else if k=3 then [60,61]else if k=4 then [62]else if k=5 then [62,61]else []
def Mt(k:Int): aA aM 272 [I k] (.str (lG k)):=by
 refine bB OO ?_;intro Q aX aY aZ;repeat' first|refine aQ ?_|refine aR ?_ ?_<;>intro hw<;>try omega|fail
 all_goals (refine bu ?_ rfl;simp_all[lG])
def uq(T:List Tok)(p:Nat): bj:=if(T.getD p default).kind=4 then(T.getD p default).s else []
def BU(T:List Tok)(p:Nat)(b:Bool)(s:bj)(hs:s≠[]): iH T p b 4 s=(!b && decide (uq T p=s)):=by
 unfold iH oJ uq;by_cases hp:p<T.length
 ·generalize T.getD p default=t;by_cases h4:t.kind=4
  ·simp[hp,h4]
  simp[hp,h4,Ne.symm hs]
 rw[pU ae];simp[hp,Ud,Ne.symm hs]
def Eo(T:List Tok)(p:Nat)(b:Bool): cY aM 394 0 [] (dM T p b) (dM T p b) (.str (uq T p)):=by
 by_cases hp:p<T.length
 ·refine cY.gx (sY.go ?_) rfl (bO _ _ _);unfold iC;intro Q aX aY aZ;repeat' first|refine aQ ?_|refine aR ?_ ?_<;>intro hw<;>try omega|fail
  all_goals (refine f_ (View.eqv ?_ rfl) (bR.refl (bO T p b));simp_all[uq])
 have:uq T p=[]:=by unfold uq;rw[pU ae];simp[Ud]
 rw[this];refine cY.gx (sY.go ?_) rfl (bO _ _ _);unfold iC;intro Q aX aY aZ;repeat' first|refine aQ ?_|refine aR ?_ ?_<;>intro hw<;>try omega|fail
 all_goals exact f_ (View.eqv rfl rfl) (bR.refl (bO T p b))
def Sp(T:List Tok)(p:Nat)(b:Bool)(s:bj)(hs:s≠[])(hp:p<=2^61): cY aM 435 0 [.str s] (dM T p b) (dM T (s0 T p b 4 s) b) (.bool (iH T p b 4 s)):=by
 have hn:=Eo T p b;unfold s0;rw[BU T p b s hs];generalize uq T p=t at hn |-;simp only[dM]at hn;refine cY.gx (Gf.go ?_) rfl (bO _ _ _);unfold iC;intro Q aX aY aZ;repeat' first|refine aQ ?_|refine de hn ?_|refine aR ?_ ?_<;>intro hw<;>try omega|fail
 all_goals first
  |(refine f_ (View.eqv ?_ rfl) (bR.eqv ?_ (bO _ _ _))<;>simp_all[dM];done)
def Ep(T:List Tok)(p:Nat)(b:Bool)(s:bj)(hs:s≠[])(hp:p<=2^61): cY aM 436 0 [.str s] (dM T p b) (dM T (s0 T p b 4 s) (b || !(iH T p b 4 s))) (.bg []):=by
 have hn:=Sp T p b s hs hp;generalize iH T p b 4 s=o at hn |-;simp only[dM]at hn;refine cY.gx (C5.go ?_) rfl (bO _ _ _);unfold iC;intro Q aX aY aZ;cases o
 ·repeat' first|refine aQ ?_|refine de hn ?_|refine aR ?_ ?_<;>intro hw<;>try omega|fail
  refine I5 rfl (bR.eqv ?_ (bO _ _ _));simp[dM]
 repeat' first|refine aQ ?_|refine de hn ?_|refine aR ?_ ?_<;>intro hw<;>try omega|fail
 refine I5 rfl (bR.eqv ?_ (bO _ _ _));simp[dM]
def WT(T:List Tok)(l q:Nat): RS:=⟨(iI T q l).1,(iI T q l).2.1.toNat,decide ((iI T q l).2.2≠0)⟩
def jo(T:List Tok)(p:Nat)(b:Bool): RS:=qQ (WT T) 4 p b
def Uj(T:List Tok)(p:Nat): jo T p true=⟨x0,p,true⟩:=rfl
def Rn(T:List Tok)(p:Nat): jo T p false=WT T 4 p:=rfl
def Zs(T:List Tok){q:Nat}(hq:q<=T.length): jV T.length q (WT T 4 q):=by
 have hg:¬ ((q:Int)<0\/(T.length:Int)<q\/((4:Nat):Int)<0\/7<((4:Nat):Int)):=ae;have g:=(rK T (8*T.length+9) none 4 q hq).1 rfl;unfold WT iI;rw[aq hg,fB,fB];split
 ·exact⟨by simpa using g.1,by simpa using g.2.1,fun h=>by simp at h⟩
 rename_i h;exact⟨by simpa using g.1,by simpa using g.2.1,fun _=>by have:=g.2.2 (by simpa using h);simpa using this⟩
def yT(T:List Tok){q:Nat}{b:Bool}(hq:q<=T.length): jV T.length q (jo T q b):=by
 cases b with
 | true=>exact⟨Nat.le_refl _,hq,fun h=>by cases h⟩
 | false=>exact Zs T hq
def yU(T:List Tok)(p:Nat)(b:Bool)(hT:T.length<=2^50)(hs:∀ q,(T.getD q default).s.length<=2^62): cY aM 460 0 [] (dM T p b) (dM T (jo T p b).p (jo T p b).bad) (br (jo T p b).x):=by
 cases b with
 | true =>
   rw[Uj];generalize hE:br _=E;refine cY.gx (sZ.go ?_) rfl (bO _ _ _);unfold iC;intro Q aX aY aZ;repeat' first|refine aQ ?_|refine aR ?_ ?_<;>intro hw<;>try omega|fail
   exact f_ (by rw[<-hE];exact qi (.aP _)) (bR.refl (bO T p true))
 | false =>
   rw[Rn];have cr:=GL T p 4 hT hs;have hp0:=(Sn T p 4).1;simp only[WT];have e4:((4:Nat):Int)=4:=rfl;rw[e4];generalize iI T p 4=r at *;obtain⟨rx,rn,re⟩:=r;dsimp only at *;obtain⟨n,rfl⟩:∃ n:Nat,rn=n:=⟨rn.toNat,ae⟩;have e2:∀ σ : ai,View σ (.agg [I rx.op,I rx.v.kind,I rx.v.n,.str rx.v.s,.str rx.s,.aH false EX (rx.l.map br)]) (br rx):=fun σ=>View.eqv (bE _).symm (gV _);simp only[Mn,uk]at cr;rw[bE]at cr;generalize br rx=E at *;rw[fB];refine cY.gx (sZ.go ?_) rfl (bO _ _ _);unfold iC;intro Q aX aY aZ;repeat' first|refine aQ ?_|refine aR ?_ ?_<;>intro hw<;>try omega|fail
   all_goals (refine f_ (e2 _) (bR.eqv ?_ (bO _ _ _));simp[dM];rw[cq];simp)
structure TS where
 t:Test
 p:Nat
 bad:Bool
deriving Inhabited
def lT(k:Int)(r:RS): TS:=⟨⟨k,r.x,x0,false,false⟩,r.p,r.bad⟩
def vy(T:List Tok)(p:Nat): RS:=jo T (p+1) false
def vz(T:List Tok)(p:Nat): RS:=kX T (vy T p) 4 [46,46]
def lU(T:List Tok)(p:Nat): RS:=jo T (vz T p).p (vz T p).bad
def inH(T:List Tok)(p:Nat): Bool:=iH T (lU T p).p (lU T p).bad 4 [91]
def zJ(T:List Tok)(p:Nat): RS:=if inH T p then⟨x0,(lU T p).p+1,(lU T p).bad⟩else kX T (lU T p) 4 [93]
def Mu(T:List Tok)(p:Nat)(lo:Bool): TS:=⟨⟨6,(vy T p).x,(lU T p).x,lo,inH T p⟩,(zJ T p).p,(zJ T p).bad⟩
def gH(T:List Tok)(p:Nat)(b:Bool): TS :=
 if iH T p b 4 [60]then lT 2 (jo T (p+1) b)
 else if iH T p b 4 [60,61]then lT 3 (jo T (p+1) b)
 else if iH T p b 4 [62]then lT 4 (jo T (p+1) b)
 else if iH T p b 4 [62,61]then lT 5 (jo T (p+1) b)
 else if iH T p b 4 [91]then Mu T p false
 else if iH T p b 4 [93]then Mu T p true
 else lT 1 (jo T p b)
def Zt{k:Int}(h:2<=k)(h':k<=5): lG k≠[]:=by
 rcases(by omega:k=2\/k=3\/k=4\/k=5)with rfl|rfl|rfl|rfl<;>decide
def Uk{T:List Tok}{p:Nat}{b:Bool}{k:Int}(h:2<=k)(h':k<=5)(hb:∀ j:Int,2<=j->j<k->iH T p b 4 (lG j)=false)(ho:iH T p b 4 (lG k)=true): gH T p b=lT k (jo T (p+1) b):=by
 have e2:lG 2=[60]:=rfl;have e3:lG 3=[60,61]:=rfl;have e4:lG 4=[62]:=rfl;have e5:lG 5=[62,61]:=rfl;unfold gH;rcases(by omega:k=2\/k=3\/k=4\/k=5)with rfl|rfl|rfl|rfl
 ·rw[e2]at ho;rw[aB ho]
 ·have h2:=hb 2 ae ae;rw[e2]at h2;rw[e3]at ho;rw[aq (by simp[h2]),aB ho]
 ·have h2:=hb 2 ae ae;have h3:=hb 3 ae ae;rw[e2]at h2;rw[e3]at h3;rw[e4]at ho;rw[aq (by simp[h2]),aq (by simp[h3]),aB ho]
 have h2:=hb 2 ae ae;have h3:=hb 3 ae ae;have h4:=hb 4 ae ae;rw[e2]at h2;rw[e3]at h3;rw[e4]at h4;rw[e5]at ho;rw[aq (by simp[h2]),aq (by simp[h3]),aq (by simp[h4]),aB ho]
def Ul{T:List Tok}{p:Nat}{b:Bool}(hb:∀ j:Int,2<=j->j<6->iH T p b 4 (lG j)=false): gH T p b=if iH T p b 4 [91]then Mu T p false else if iH T p b 4 [93]then Mu T p true else lT 1 (jo T p b):=by
 have h2:iH T p b 4 [60]=false:=hb 2 ae ae;have h3:iH T p b 4 [60,61]=false:=hb 3 ae ae;have h4:iH T p b 4 [62]=false:=hb 4 ae ae;have h5:iH T p b 4 [62,61]=false:=hb 5 ae ae;unfold gH;rw[aq (by simp[h2]),aq (by simp[h3]),aq (by simp[h4]),aq (by simp[h5])]
def WU{T:List Tok}{p:Nat}{r:RS}(k:Int)(h:jV T.length p r): p<=(lT k r).p/\(lT k r).p<=T.length:=⟨h.1,h.2.1⟩
def KP{T:List Tok}{p:Nat}(hp:p<T.length): (vy T p).p<=T.length/\(vz T p).p<=T.length/\(lU T p).p<=T.length/\(zJ T p).p<=T.length/\p<=(zJ T p).p:=by
 have g1:jV T.length (p+1) (vy T p):=yT T hp;have g2:jV T.length (p+1) (vz T p):=uS _ _ g1;have g3:jV T.length (vz T p).p (lU T p):=yT T g2.2.1
 have g4:(zJ T p).p<=T.length/\(lU T p).p<=(zJ T p).p:=by
  unfold zJ;split
  ·rename_i h;exact⟨(nQ h).1,Nat.le_succ _⟩
  have:=uS 4 [93] g3;refine⟨this.2.1,?_⟩;simp only[kX,s0];split<;>omega
 have:=g1.1;have:=g2.1;have:=g3.1;have m2:(vy T p).p<=(vz T p).p:=by simp only[vz,kX,s0];split<;>omega
 exact⟨g1.2.1,g2.2.1,g3.2.1,g4.1,ae⟩
def Mv{T:List Tok}{p:Nat}{b:Bool}(hp:p<=T.length): p<=(gH T p b).p/\(gH T p b).p<=T.length:=by
 have st:∀ k s,iH T p b 4 s=true->p<=(lT k (jo T (p+1) b)).p/\(lT k (jo T (p+1) b)).p<=T.length:=fun k s h=>by
  have:=yT T (q:=p+1) (b:=b) (nQ h).1;exact⟨Nat.le_of_succ_le this.1,this.2.1⟩
 unfold gH;split
 ·rename_i h;exact st _ _ h
 split
 ·rename_i h;exact st _ _ h
 split
 ·rename_i h;exact st _ _ h
 split
 ·rename_i h;exact st _ _ h
 split
 ·rename_i h;have:=KP (nQ h).1;exact⟨this.2.2.2.2,this.2.2.2.1⟩
 split
 ·rename_i h;have:=KP (nQ h).1;exact⟨this.2.2.2.2,this.2.2.2.1⟩
 exact WU 1 (yT T hp)
def sx(T:List Tok)(p:Nat)(b:Bool)(s:bj)(o:Bool)(hs:s≠[])(hp:p<=2^61)(h:iH T p b 4 s=o): cY aM 435 0 [.str s] (dM T p b) (dM T (if o then p+1 else p) b) (.bool o):=by
 have:=Sp T p b s hs hp;unfold s0 at this;rw[h]at this;exact this
def WV{σ : ai}{k:Int}{r:Expr}: View σ (.agg [I k,I r.op,I r.v.kind,I r.v.n,.str r.v.s,.str r.s,.aH false EX (r.l.map br),I 0,I 0,I 0,.str [],.str [],.aP,.bool false,.bool false]) (dJ ⟨k,r,x0,false,false⟩):=by
 simp only[dJ,dG];refine View.r_ (.cons (.refl _ rfl) (.cons (.refl _ rfl) (.cons (.refl _ rfl) (.cons (.refl _ rfl) (.cons (.refl _ rfl) (.cons (.refl _ rfl) (.cons (.refl _ ?_) (.cons (.refl _ rfl) (.cons (.refl _ rfl) (.cons (.refl _ rfl) (.cons (.refl _ rfl) (.cons (.refl _ rfl) (.cons (.aP _) (.cons (.refl _ rfl) (.cons (.refl _ rfl) (.nil _))))))))))))))));simp
def WW (T : List Tok) (p : Nat) (b : Bool) (hp : p <= T.length) (hT : T.length <= 2^50) (hs : ∀ q, (T.getD q default).s.length <= 2^62) :
    cY aM 434 0 [] (dM T p b) (dM T (gH T p b).p (gH T p b).bad) (dJ (gH T p b).t):=by
 generalize hR:gH T p b=R;generalize hE:dJ R.t=E;refine cY.gx (C4.go ?_) rfl (bO _ _ _);unfold iC;intro Q aX aY aZ;repeat' first|refine aQ ?_|refine aR ?_ ?_<;>intro hw<;>try omega|fail
 with_reducible refine dA [3,1,5,12] (fun k:Int=>[(3,I k)]) (fun _=>[.cells [.aH false ET (T.map rz),I p,.bool b],.cells [I 0,I 0,I 0,I 0,.str [],.str [],.aP,I 0,I 0,I 0,.str [],.str [],.aP,.bool false,.bool false]]) (fun k=>2<=k/\k<=6/\ ∀ j:Int,2<=j->j<k->iH T p b 4 (lG j)=false) (fun k=>(6-k).toNat) (2) ?_ ?_ ?_ ?_
 ·exact⟨ae,ae,fun j h1 h2=>by omega⟩
 ·rfl
 ·exact at_
 rintro k r ⟨h1,h2,h3⟩;by_cases hk:k<=5
 ·have su:=Mt k;obtain⟨o,ho⟩:=gi (iH T p b 4 (lG k));have rI:=sx T p b (lG k) o (Zt h1 hk) ae ho;cases o with
  | false =>
    simp only[dM,aN,if_false]at rI;repeat' first|refine aQ ?_|refine de rI ?_|refine aR ?_ ?_<;>intro hw<;>try omega|fail
    refine⟨k+1,?_,?_,by first|rfl|(simp[go_sem];done),fU,at_⟩<;>(try dsimp only)
    ·refine⟨ae,ae,fun j LJ vF=>?_⟩;by_cases DO:j=k
     ·subst DO;exact ho
     exact h3 j LJ ae
    omega
  | true =>
    have LW:=nQ ho;have hce:=yU T (p+1) b hT hs;rw[Uk h1 hk h3 ho]at hR;subst hR;simp only[lT]at hE aX aY aZ;generalize jo T (p+1) b=x at *;rw[bE]at hce;simp only[dM,if_true,bA,bn]at rI hce;repeat' first|simp (disch:=omega) only[go_sem,aX,aY,aZ,bA,bn]|refine aQ ?_|refine de rI ?_|refine de hce ?_|refine aR ?_ ?_<;>intro hw<;>try omega|fail
    exact f_ (by rw[<-hE];exact WV) (bR.refl (bO _ _ _))
 obtain rfl:k=6:=ae;rw[Ul (fun j LJ vF=>h3 j LJ vF)]at hR;have hmk:=Eo T p b;obtain⟨o1,Sm⟩:∃ o,iH T p b 4 [91]=o:=⟨_,rfl⟩;obtain⟨o2,Mk⟩:∃ o,iH T p b 4 [93]=o:=⟨_,rfl⟩;have Er:=sx T p b [91] o1 dV ae Sm;have Pr:=sx T p b [93] o2 dV ae Mk;have hmo:=BU T p b [93] dV;rw[Sm,Mk]at hR;rw[Mk]at hmo;have Ox:=BU T p b [91] dV;rw[Sm]at Ox;generalize hmt:uq T p=mt at *;by_cases hin:o1=true\/o2=true
 ·have LW : p < T.length /\ b = false := by
   rcases hin with h|h
   ·exact nQ (Sm.trans h)
   exact nQ (Mk.trans h)
  obtain⟨LW,rfl⟩:=LW
  have hR2:R=Mu T p (decide (mt=[93])):=by
   rw[<-hR];simp only[gY,iN]at hmo Ox;cases o1 with
   | true =>
     have:mt=[91]:=by simpa using Ox.symm
     rw[aB rfl,this];rfl
   | false =>
     rcases hin with h|h
     ·cases h
     subst h;have:mt=[93]:=by simpa using hmo.symm
     rw[aq aT,aB rfl,this];rfl
  clear hR;subst hR2;obtain⟨g1,g2,g3,g4,_⟩:=KP (T:=T) LW;have c1:=yU T (p+1) false hT hs;have c2:=Ep T (vy T p).p (vy T p).bad [46,46] dV ae;have c3:=yU T (vz T p).p (vz T p).bad hT hs;obtain⟨o3,WN⟩:∃ o,inH T p=o:=⟨_,rfl⟩;have c4:=sx T (lU T p).p (lU T p).bad [91] o3 dV ae WN;have c5:=Ep T (lU T p).p (lU T p).bad [93] dV ae
  change cY _ _ _ _ _ (dM T (vy T p).p (vy T p).bad) (br (vy T p).x)at c1
  change cY _ _ _ _ _ (dM T (vz T p).p (vz T p).bad) _ at c2
  change cY _ _ _ _ _ (dM T (lU T p).p (lU T p).bad) (br (lU T p).x)at c3
  change cY _ _ _ _ _ (dM T (kX T (lU T p) 4 [93]).p (kX T (lU T p) 4 [93]).bad) _ at c5
  have hr4:zJ T p=if o3 then⟨x0,(lU T p).p+1,(lU T p).bad⟩else kX T (lU T p) 4 [93]:=by rw[<-WN];rfl
  have aer:Mu T p (decide (mt=[93]))=⟨⟨6,(vy T p).x,(lU T p).x,decide (mt=[93]),o3⟩,(zJ T p).p,(zJ T p).bad⟩:=by rw[<-WN];rfl
  rw[aer]at hE aX aY aZ;rw[hr4]at aX aY aZ;clear hr4 aer WN Sm Mk g1 g2 g4;generalize kX T (lU T p) 4 [93]=r5 at *;generalize vy T p=r1 at *;generalize vz T p=r2 at *;generalize lU T p=r3 at *;rw[bE]at c1 c3;simp only[dJ,dG]at hE;simp only[dM]at hmk
  have fin:∀ σ : ai,View σ (.agg [I 6,I r1.x.op,I r1.x.v.kind,I r1.x.v.n,.str r1.x.v.s,.str r1.x.s,.aH false EX (r1.x.l.map br),I r3.x.op,I r3.x.v.kind,I r3.x.v.n,.str r3.x.v.s,.str r3.x.s,.aH false EX (r3.x.l.map br),.bool (mt==[93]),.bool o3]) E:=fun σ=>by
   rw[<-hE,show decide (mt=[93])=(mt==[93]) from by rw[cq];simp];exact View.eqv rfl aT
  clear hE;have hne:mt==[93]↔mt=[93]:=aT;cases o1 with
  | true =>
    simp only[dM,if_true,bA,bn]at Er c1 c2 c3 c4 c5;cases o3 with
    | true =>
      simp only[if_true]at c4 fin aX aY aZ;repeat' first|simp (disch:=omega) only[go_sem,aX,aY,aZ,bA,bn]|refine aQ ?_|refine de hmk ?_|refine de Er ?_|refine de c1 ?_|refine de c2 ?_|refine de c3 ?_|refine de c4 ?_|refine aR ?_ ?_<;>intro hw<;>try omega|fail
      exact f_ (fin _) (bR.eqv (by simp[dM]) (bO _ _ _))
    | false =>
      simp only[aN,if_false]at c4 fin aX aY aZ;repeat' first|simp (disch:=omega) only[go_sem,aX,aY,aZ,bA,bn]|refine aQ ?_|refine de hmk ?_|refine de Er ?_|refine de c1 ?_|refine de c2 ?_|refine de c3 ?_|refine de c4 ?_|refine de c5 ?_|refine aR ?_ ?_<;>intro hw<;>try omega|fail
      exact f_ (fin _) (bR.eqv (by simp[dM]) (bO _ _ _))
  | false =>
    have alj:o2=true:=by rcases hin with h|h<;>first|(cases h;done)|exact h
    subst alj;simp only[dM,if_true,aN,if_false,bA,bn]at Er Pr c1 c2 c3 c4 c5;cases o3 with
    | true =>
      simp only[if_true]at c4 fin aX aY aZ;repeat' first|simp (disch:=omega) only[go_sem,aX,aY,aZ,bA,bn]|refine aQ ?_|refine de hmk ?_|refine de Er ?_|refine de Pr ?_|refine de c1 ?_|refine de c2 ?_|refine de c3 ?_|refine de c4 ?_|refine aR ?_ ?_<;>intro hw<;>try omega|fail
      exact f_ (fin _) (bR.eqv (by simp[dM]) (bO _ _ _))
    | false =>
      simp only[aN,if_false]at c4 fin aX aY aZ;repeat' first|simp (disch:=omega) only[go_sem,aX,aY,aZ,bA,bn]|refine aQ ?_|refine de hmk ?_|refine de Er ?_|refine de Pr ?_|refine de c1 ?_|refine de c2 ?_|refine de c3 ?_|refine de c4 ?_|refine de c5 ?_|refine aR ?_ ?_<;>intro hw<;>try omega|fail
      exact f_ (fin _) (bR.eqv (by simp[dM]) (bO _ _ _))
 obtain⟨rfl,rfl⟩:o1=false/\o2=false:=⟨by cases o1 with|false=>rfl|true=>exact absurd (.inl rfl) hin,by cases o2 with|false=>rfl|true=>exact absurd (.inr rfl) hin⟩;simp only[aN,if_false]at hR;subst hR;have c1:=yU T p b hT hs;simp only[lT]at hE aX aY aZ;generalize jo T p b=x at *;rw[bE]at c1;simp only[dM,aN,if_false]at Er Pr c1 hmk;repeat' first|refine aQ ?_|refine de hmk ?_|refine de Er ?_|refine de Pr ?_|refine de c1 ?_|refine aR ?_ ?_<;>intro hw<;>try omega|fail
 exact f_ (by rw[<-hE];exact WV) (bR.refl (bO _ _ _))
def aes: bj:=[110,111,116]
def qH(T:List Tok): Bool:=decide (1<T.length) && (oJ T 0 1 aes && oJ T 1 4 [40])
def Zu(T:List Tok): aA aM 433 [uk T] (.bool (qH T)):=by
 refine bB Q9 ?_;intro Q aX aY aZ;repeat' first|refine aQ ?_|refine aR ?_ ?_<;>intro hw<;>try omega|fail
 all_goals (refine bu ?_ rfl;refine bC AV.bool ?_;rw[cq];simp_all[qH,oJ,aes])
 all_goals (try omega)
 all_goals (exact⟨fun h=>⟨ae,ae,ae,h⟩,fun h=>h.2.2.2⟩)
structure CS where
 ts:List Test
 p:Nat
 bad:Bool
deriving Inhabited
def qR(T:List Tok): Nat->List Test->Nat->Bool->CS
 | 0,acc,p,b=>⟨acc,p,b⟩
 | f+1,acc,p,b=>if iH T (gH T p b).p (gH T p b).bad 4 [44]then qR T f (acc++[(gH T p b).t]) ((gH T p b).p+1) (gH T p b).bad else⟨acc++[(gH T p b).t],(gH T p b).p,(gH T p b).bad⟩
def ur(T:List Tok)(f:Nat)(acc:List Test)(p:Nat)(b:Bool): qR T (f+1) acc p b=if iH T (gH T p b).p (gH T p b).bad 4 [44]then qR T f (acc++[(gH T p b).t]) ((gH T p b).p+1) (gH T p b).bad else⟨acc++[(gH T p b).t],(gH T p b).p,(gH T p b).bad⟩:=rfl
def Um{T:List Tok}(f:Nat): ∀(acc:List Test) (p:Nat) (b:Bool),p<=T.length->(qR T f acc p b).p<=T.length:=by
 induction f with
 | zero=>intro acc p b hp;exact hp
 | succ f ih =>
   intro acc p b hp;rw[ur];split
   ·rename_i h;exact ih _ _ _ (nQ h).1
   exact(Mv hp).2
def HL(T:List Tok)(n:Bool)(c:CS): CS:=if n then⟨c.ts,s0 T c.p c.bad 4 [41],c.bad || !(iH T c.p c.bad 4 [41])⟩else c
def Sq(T:List Tok): Nat:=if qH T then 2 else 0
def kf(T:List Tok): CS:=HL T (qH T) (qR T (T.length+1) [] (Sq T) false)
def WX(T:List Tok): Sq T<=T.length:=by
 unfold Sq;split
 ·rename_i h;simp only[qH,aD,au]at h;omega
 exact cD _
def WY(T:List Tok)(n:Bool)(p:Nat)(b:Bool): List Test->ai
 | []=>[.cells (dM T p b),.cells [.bool false,.bool false,.aP],.cells [.bool false,.bool n,.aP]]
 | t::acc=>[.cells (dM T p b),.cells [.bool false,.bool false,.aP],.cells [.bool false,.bool n,.own ES 3 (acc.length+1) 0 (acc.length+1)],.vec ES (dJ t::acc.map dJ)]
structure Lc where
 acc:List Test
 p:Nat
 b:Bool
 f:Nat
def Sr(T:List Tok)(n:Bool)(p:Nat)(b:Bool): WY T n p b []=[.cells [.aH false ET (T.map rz),I p,.bool b],.cells [.bool false,.bool false,.aP],.cells [.bool false,.bool n,.aP]]:=rfl
def Ps(T:List Tok)(n:Bool)(p:Nat)(b:Bool)(t:Test)(acc:List Test): WY T n p b (t::acc)=[.cells [.aH false ET (T.map rz),I p,.bool b],.cells [.bool false,.bool false,.aP],.cells [.bool false,.bool n,.own ES 3 (acc.length+1) 0 (acc.length+1)],.vec ES (dJ t::acc.map dJ)]:=rfl
def Zv(T:List Tok)(n:Bool)(p:Nat)(b:Bool)(acc:List Test)(t:Test): WY T n p b (acc++[t])=[.cells (dM T p b),.cells [.bool false,.bool false,.aP],.cells [.bool false,.bool n,.own ES 3 (acc.length+1) 0 (acc.length+1)],.vec ES (acc.map dJ++[dJ t])]:=by
 cases acc with
 | nil=>rfl
 | cons x acc=>simp[WY]
def WZ{σ : ai}{n:Bool}{ts:List Test}{k:Nat}(hk:k=ts.length)(h : σ[3]? = some (.vec ES (ts.map dJ))): View σ (.agg [.bool false,.bool n,.own ES 3 k 0 k]) (dK ⟨false,n,ts⟩):=by
 subst hk;exact View.r_ (.cons (.refl _ rfl) (.cons (.refl _ rfl) (.cons (View.vec h aT aT (Me _)) (.nil _))))
def W0 (T : List Tok) (hT : T.length <= 2^30) (hs : ∀ q, (T.getD q default).s.length <= 2^62) :
    cY aM 395 0 [] (dM T 0 false) (dM T (kf T).p (kf T).bad) (dK ⟨false,qH T,(kf T).ts⟩):=by
 have hn:=Zu T;have hp0:=WX T;have e0:Sq T=if qH T then 2 else 0:=rfl
 generalize hR:kf T=R;unfold kf at hR;generalize qH T=n at *;generalize hE:dK _=E;simp only[uk]at hn
 have fin:∀ (σ : ai) (k:Nat) (ts:List Test),R.ts=ts->k=ts.length->σ[3]? = some (.vec ES (ts.map dJ))->View σ (.agg [.bool false,.bool n,.own ES 3 k 0 k]) E:=fun σ k ts h1 h2 h3=>by
  rw[<-hE,h1];exact WZ h2 h3
 clear hE;refine cY.gx (C2.go ?_) rfl (bO _ _ _);unfold iC;intro Q aX aY aZ;cases n
 all_goals
  simp only[aN,if_false,if_true]at e0;rw[e0]at hR hp0;repeat' first|refine aQ ?_|refine aR ?_ ?_<;>intro hw<;>try omega|fail
  with_reducible refine dA [17,10] (fun x:Lc=>([]:List (Nat × AV))) (fun x=>WY T _ x.p x.b x.acc) (fun x=>x.p<=T.length/\x.acc.length+x.f=T.length+1/\T.length+1<=x.f+x.p/\HL T _ (qR T x.f x.acc x.p x.b)=R) (fun x=>x.f) ⟨[],_,false,T.length+1⟩ ⟨?_,?_,?_,hR⟩ rfl ?_ ?_
  ·dsimp only;omega
  ·dsimp only;simp
  ·dsimp only;omega
  ·exact at_
  rintro⟨acc,p,b,f⟩ r ⟨h1,h2,h3,h4⟩;dsimp only at h1 h2 h3 h4;obtain⟨f,rfl⟩:∃ g,f=g+1:=⟨f-1,ae⟩;rw[ur]at h4;have ct:=WW T p b h1 ae hs;have gt:=Mv (T:=T) (b:=b) h1;generalize gH T p b=x at *;obtain⟨xt,xp,xb⟩:=x;dsimp only at ct gt h4;obtain⟨o,ho⟩:=gi (iH T xp xb 4 [44]);have Ss:=sx T xp xb [44] o dV ae ho;have qD:=fun n' p' b'=>Zv T n' p' b' acc xt;simp only[dJ,dG]at ct;rw[ho]at h4;cases o with
  | true =>
    have hlt:=(nQ ho).1;rw[aB rfl]at h4;simp only[dM,if_true,bA,bn]at ct Ss;cases acc with
    | nil =>
      simp only[a_]at h2;rw[Sr T _ p b];repeat' first|simp (disch:=omega) only[go_sem,aX,aY,aZ,bA,bn]|refine aQ ?_|refine de ct ?_|refine de Ss ?_|refine aR ?_ ?_<;>intro hw<;>try omega|fail
      refine⟨⟨[xt],xp+1,xb,f⟩,?_,?_,?_,fU,at_⟩<;>(try dsimp only)
      ·exact⟨ae,by simp only[aE,a_];omega,ae,h4⟩
      ·omega
      rfl
    | cons t0 acc =>
      simp only[aE]at h2;rw[Ps T _ p b];repeat' first|simp (disch:=omega) only[go_sem,aX,aY,aZ,bA,bn]|refine aQ ?_|refine de ct ?_|refine de Ss ?_|refine aR ?_ ?_<;>intro hw<;>try omega|fail
      refine⟨⟨t0::acc++[xt],xp+1,xb,f⟩,?_,?_,?_,fU,at_⟩<;>(try dsimp only)
      ·exact⟨ae,by simp only[aE,aG,a_];omega,ae,h4⟩
      ·omega
      rw[qD];simp[dM,dJ,dG]
  | false =>
    rw[aq aT]at h4;simp only[dM,aN,if_false]at ct Ss;have cm:=Ep T xp xb [41] dV ae;simp only[HL,aN,if_false,if_true]at h4;subst h4;dsimp only at fin aX aY aZ cm;generalize s0 T xp xb 4 [41]=p9 at *;generalize (xb || !(iH T xp xb 4 [41]))=b9 at *;simp only[dM]at cm;cases acc with
    | nil =>
      simp only[a_]at h2;rw[Sr T _ p b];repeat' first|refine aQ ?_|refine de ct ?_|refine de Ss ?_|refine de cm ?_|refine aR ?_ ?_<;>intro hw<;>try omega|fail
      exact f_ (fin _ _ _ rfl rfl rfl) (bR.eqv rfl (bO _ _ _))
    | cons t0 acc =>
      simp only[aE]at h2;rw[Ps T _ p b];repeat' first|refine aQ ?_|refine de ct ?_|refine de Ss ?_|refine de cm ?_|refine aR ?_ ?_<;>intro hw<;>try omega|fail
      exact f_ (fin _ _ _ rfl aT (by simp[dJ,dG])) (bR.eqv rfl (bO _ _ _))
def zK(T:List Tok): Prop:= ∀ q,(T.getD q default).s.length<=2^62/\ -9223372036854775808<=(T.getD q default).n/\(T.getD q default).n<=9223372036854775807
def qS: jN x0:=by simp[x0,jN,GK,v0]
def Jr{op:Int}{l:List Expr}(h:GK l): jN (.mk op v0 [] l):=by simp[jN,v0,h]
def W2{rd:Nat->Nat->RS}{l q:Nat}{b:Bool}(h:∀ l q,jN (rd l q).x): jN (qQ rd l q b).x:=by
 unfold qQ;split
 ·exact qS
 exact h _ _
def Zw{s:bj}{v:jC}(h:yQ s=some v): v.s=[]/\0<=v.n/\v.n<=1:=by
 unfold yQ at h;split at h
 ·cases h;exact⟨rfl,dV,dV⟩
 split at h
 ·cases h;exact⟨rfl,dV,dV⟩
 split at h
 ·cases h;exact⟨rfl,dV,dV⟩
 ·cases h
def ab9{T:List Tok}(hT:zK T){rd:Nat->Nat->RS}(h:∀ l q,jN (rd l q).x)(p:Nat): jN (ow rd T p).x:=by
 have hp:=hT p;unfold ow;split
 ·exact h 0 (p+1)
 split
 ·simp[zI,jN,GK];exact hp.2
 split
 ·simp[zI,jN,GK];exact hp.1
 split
 ·split
  ·rename_i v hv;have:=Zw hv;simp[zI,jN,GK,this.1];omega
  split
  ·simp[jN,GK,v0];exact hp.1
  exact qS
 exact qS
def aiT{T:List Tok}(hT:zK T)(f:Nat): ∀(m:Option Expr) (lvl p:Nat),(∀ x,m=some x->jN x)->jN (cU T f m lvl p).x:=by
 induction f with
 | zero=>intro m lvl p _;exact qS
 | succ f ih =>
   intro m lvl p hm;have h:∀ l q,jN (cU T f none l q).x:=fun l q=>ih none l q (fun x hx=>by cases hx);cases m with
   | none =>
     simp only[cU];split
     ·split
      ·exact Jr ⟨h _ _,W2 (rd:=fun l q=>cU T f none l q) h,W2 (rd:=fun l q=>cU T f none l q) h,trivial⟩
      exact h _ _
     split
     ·exact Jr ⟨h _ _,trivial⟩
     split
     ·exact ab9 hT h p
     split
     ·exact h _ _
     exact ih _ _ _ (fun x hx=>by cases hx;exact h _ _)
   | some x =>
     simp only[cU];split
     ·exact hm x rfl
     split
     ·exact Jr ⟨hm x rfl,h _ _,trivial⟩
     exact ih _ _ _ (fun y hy=>by cases hy;exact Jr ⟨hm x rfl,h _ _,trivial⟩)
def Pt{T:List Tok}(hT:zK T)(fr lvl:Int): jN (iI T fr lvl).1:=by
 unfold iI;split
 ·exact qS
 split
 ·exact qS
 exact aiT hT _ _ _ _ (fun x hx=>by cases hx)
def Un(s:bj): (∀ c ∈ s,fW c=true)-> ∀ v:Int,0<=v->v<=9223372036854775807-> ∀ n,tJ s v=some n->0<=n/\n<=9223372036854775807:=by
 induction s with
 | nil=>intro _ v h1 h2 n h;simp only[tJ]at h;cases h;exact⟨h1,h2⟩
 | cons c r ih =>
   intro hd v h1 h2 n h;have hc:=hd c aT;simp only[fW,aD,au]at hc;simp only[tJ]at h;split at h
   ·cases h
   exact ih (fun c hc=>hd c (cP _ hc)) _ ae ae n h
def NA{p:UInt8->Bool}(s:bj): ∀ c ∈ s.takeWhile p,p c=true:=by
 induction s with
 | nil=>intro c h;cases h
 | cons x r ih =>
   intro c h;rw[gw]at h;split at h
   ·rename_i hx;rcases List.mem_cons.1 h with rfl|h
    ·exact hx
    exact ih c h
   ·cases h
def aeu(s:bj): 0<=(jU s).n/\(jU s).n<=9223372036854775807:=by
 have e:∀ k,0<=(PR.err k).n/\(PR.err k).n<=9223372036854775807:=fun k=>by simp[PR.err]
 unfold jU;simp only;split
 ·unfold FJ;split
  ·exact e _
  exact⟨aT,aT⟩
 split
 ·unfold oT;simp only;split
  ·exact e _
  split
  ·exact e _
  rename_i v hv;exact Un _ (NA s) 0 ae ae v hv
 split
 ·have : ∀ (r b : bj) (i : Nat), 0 <= (lC r b i).n /\ (lC r b i).n <= 9223372036854775807 := fun r b i => by
   fun_induction lC r b i<;>first|exact e _|assumption|exact⟨aT,aT⟩
  exact this _ _ _
 unfold wC;split
 ·exact⟨aT,aT⟩
 exact e _
def aev(f:Nat): ∀(s:bj) (pos:Nat) (acc:List Tok),(∀ t ∈ acc,0<=t.n/\t.n<=9223372036854775807)-> ∀ t ∈ (rA f s pos acc).1,0<=t.n/\t.n<=9223372036854775807:=by
 induction f with
 | zero=>intro s pos acc h;exact h
 | succ f ih =>
   intro s pos acc h;cases s with
   | nil=>exact h
   | cons c r =>
     rw[uP];split
     ·exact ih r (pos+1) acc h
     split
     ·refine ih _ _ _ (fun t ht=>?_);rcases List.mem_append.1 ht with ht|ht
      ·exact h t ht
      simp only[fj,eH,or_false]at ht;subst ht;exact aeu _
     intro t ht;cases ht
def FO(s:bj): zK (c7 s).1:=by
 intro q;have h1:=(qj s).2 q
 have h2:∀ t ∈ (c7 s).1,0<=t.n/\t.n<=9223372036854775807:=by
  unfold c7;split
  ·intro t ht;cases ht
  exact aev _ _ _ _ (fun t ht=>by cases ht)
 refine⟨ae,?_⟩;by_cases hq:q<(c7 s).1.length
 ·have:=h2 _ (dh hq);omega
 rw[pU ae];decide
def BV{T:List Tok}(hT:zK T)(p:Nat)(b:Bool): jN (jo T p b).x/\gW (jo T p b).x<=1+4*T.length:=by
 unfold jo qQ;split
 ·exact⟨qS,by simp[x0,gW,mo]⟩
 exact⟨Pt hT _ _,HK T _ _⟩
def Zx{T:List Tok}(hT:zK T)(hl:T.length<=2^50)(p:Nat)(b:Bool): Jq (gH T p b).t:=by
 have hx:∀ p b,jN (jo T p b).x/\gW (jo T p b).x<=2^60:=fun p b=>⟨(BV hT p b).1,by have:=(BV hT p b).2;omega⟩;have h0:jN x0/\gW x0<=2^60:=⟨qS,WS⟩;have h1:∀ k p b,Jq (lT k (jo T p b)).t:=fun k p b=>⟨hx p b,h0⟩;have h2:∀ lo,Jq (Mu T p lo).t:=fun lo=>⟨hx _ _,hx _ _⟩;unfold gH;split
 ·exact h1 _ _ _
 split
 ·exact h1 _ _ _
 split
 ·exact h1 _ _ _
 split
 ·exact h1 _ _ _
 split
 ·exact h2 _
 split
 ·exact h2 _
 exact h1 _ _ _
def Zy{T:List Tok}(hT:zK T)(hl:T.length<=2^50)(f:Nat): ∀(acc:List Test) (p:Nat) (b:Bool),(∀ t ∈ acc,Jq t)->(∀ t ∈ (qR T f acc p b).ts,Jq t)/\(qR T f acc p b).ts.length<=acc.length+f:=by
 induction f with
 | zero=>intro acc p b h;exact⟨h,aV _⟩
 | succ f ih =>
   intro acc p b h
   have h2:∀ t ∈ acc++[(gH T p b).t],Jq t:=fun t ht=>by
    rcases List.mem_append.1 ht with ht|ht
    ·exact h t ht
    simp only[fj,eH,or_false]at ht;subst ht;exact Zx hT hl p b
   rw[ur];split
   ·have:=ih _ ((gH T p b).p+1) (gH T p b).bad h2;rw[aG,aE,a_]at this;exact⟨this.1,ae⟩
   exact⟨h2,by rw[aG,aE,a_];omega⟩
def Sv(T:List Tok)(n:Bool)(c:CS): (HL T n c).ts=c.ts:=by unfold HL;split<;>rfl
def Pu{T:List Tok}(hT:zK T)(hl:T.length<=2^50): Ms ⟨false,qH T,(kf T).ts⟩:=by
 have:=Zy hT hl (T.length+1) [] (Sq T) false (fun t ht=>by cases ht);unfold kf Ms;rw[Sv];exact⟨by have:=this.2;simp only[List.length_nil]at this;dsimp only;omega,this.1⟩
def aew{T:List Tok}{n:Bool}{c:CS}(h:c.p<=T.length): (HL T n c).p<=T.length:=by
 unfold HL;split
 ·dsimp only[s0];split
  ·rename_i h;exact(nQ h).1
  exact h
 exact h
def acd(T:List Tok): (kf T).p<=T.length:=aew (Um _ _ _ _ (WX T))
def c0: Cell:=⟨false,false,[]⟩
def HM: Cell:=⟨true,false,[]⟩
def lq(s:bj): Cell × Int × Int :=
 if(c7 s).2.2≠0 then(c0,(c7 s).2.1,(c7 s).2.2)
 else if(c7 s).1.length=1/\iH (c7 s).1 0 false 4 [45]=true then(HM,0,0)
 else if(kf (c7 s).1).p<(c7 s).1.length then(c0,((c7 s).1.getD (kf (c7 s).1).p default).pos,11)
 else if(kf (c7 s).1).bad=true then(c0,s.length,11)
 else if 12<(kf (c7 s).1).ts.length then(c0,0,24)
 else if nR ⟨false,qH (c7 s).1,(kf (c7 s).1).ts⟩=false then(c0,0,12)
 else(⟨false,qH (c7 s).1,(kf (c7 s).1).ts⟩,0,0)
def eC3(r:Cell × Int × Int): AV:= .bg [dK r.1,I r.2.1,I r.2.2]
def W3(s:bj): Ms (lq s).1:=by
 have h:=Pu (FO s) (by have:=(qj s).1;omega);have h0:Ms c0:=⟨Nat.zero_le _,fun t ht=>by cases ht⟩;have h1:Ms HM:=⟨Nat.zero_le _,fun t ht=>by cases ht⟩;unfold lq;repeat' split
 all_goals first|exact h0|exact h1|exact h
def ace{σ : ai}: View σ (.agg [.bool false,.bool false,.aP]) (dK c0):=View.r_ (.cons (.refl _ rfl) (.cons (.refl _ rfl) (.cons (.aP _) (.nil _))))
def W4{σ : ai}: View σ (.agg [.bool true,.bool false,.aP]) (dK HM):=View.r_ (.cons (.refl _ rfl) (.cons (.refl _ rfl) (.cons (.aP _) (.nil _))))
def aex(T:List Tok)(p:Nat): iH T p false 4 [45]=(uq T p==[45]):=by
 rw[BU T p false [45] dV,cq];simp
def Uo(s:bj)(hs:s.length<=2^30): aA aM 345 [.str s] (eC3 (lq s)):=by
 have cl:=Si s hs;obtain⟨f1,f2⟩:=qj s;have cm:=Eo (c7 s).1 0 false;have cr:=W0 (c7 s).1 ae (fun q=>by have:=f2 q;omega);have hok:=Pu (FO s) ae;have cc:=BS _ hok;have DM:=acd (c7 s).1;have hd:=aex (c7 s).1 0
 have hP:lq s=if(c7 s).2.2≠0 then(c0,(c7 s).2.1,(c7 s).2.2)
  else if(c7 s).1.length=1/\iH (c7 s).1 0 false 4 [45]=true then(HM,0,0)
  else if(kf (c7 s).1).p<(c7 s).1.length then(c0,((c7 s).1.getD (kf (c7 s).1).p default).pos,11)
  else if(kf (c7 s).1).bad=true then(c0,(s.length:Int),11)
  else if 12<(kf (c7 s).1).ts.length then(c0,0,24)
  else if nR ⟨false,qH (c7 s).1,(kf (c7 s).1).ts⟩=false then(c0,0,12)
  else(⟨false,qH (c7 s).1,(kf (c7 s).1).ts⟩,0,0):=rfl
 rw[hP,hd];clear hP f2 hd hok;generalize nR ⟨false,qH (c7 s).1,(kf (c7 s).1).ts⟩=rb at *;generalize kf (c7 s).1=r at *;generalize uq (c7 s).1 0=mt at *;generalize qH (c7 s).1=n at *;generalize c7 s=L at *;obtain⟨T,la,le⟩:=L;obtain⟨rts,rp,aey⟩:=r;dsimp only at *;simp only[eC3]at |-;simp only[T8,uk]at cl;simp only[dM,bn]at cm cr;simp only[dK,jT]at cr cc;have e1:∀ σ : ai,View σ (.agg [.bool false,.bool false,.aP]) (dK c0):=fun σ=>ace;have e2:∀ σ : ai,View σ (.agg [.bool true,.bool false,.aP]) (dK HM):=fun σ=>W4;have e3:∀ σ : ai,View σ (.agg [.bool false,.bool n,.aH false ES (rts.map dJ)]) (dK ⟨false,n,rts⟩):=fun σ=>View.eqv rfl (yN _);by_cases h1:le≠0
 ·rw[aB h1];generalize dK c0=E at *;refine bB lM ?_;intro Q aX aY aZ;repeat' first|refine aQ ?_|refine aR ?_ ?_<;>intro hw<;>try omega|fail
  all_goals exact g_ (nB (e1 _))
 rw[aq h1];by_cases h2:T.length=1/\(mt==[45])=true
 ·rw[aB h2];generalize dK HM=E2 at *;obtain⟨h2,h3⟩:=h2;refine bB lM ?_;intro Q aX aY aZ;repeat' first|refine fy (zA h2 h3) ?_|refine aQ ?_|refine de cm ?_|refine aR ?_ ?_<;>intro hw<;>try omega|fail
  all_goals first|exact g_ (nB (e2 _))|exact eu
 rw[aq h2];by_cases h4:rp<T.length
 ·rw[aB h4];generalize dK c0=E at *;refine bB lM ?_;intro Q aX aY aZ;repeat' first|refine aQ ?_|refine de cm ?_|refine de cr ?_|refine aR ?_ ?_<;>intro hw<;>try omega|fail
  all_goals first|exact g_ (nB (e1 _))|exact eu
 rw[aq h4];by_cases h5:aey=true
 ·rw[aB h5];subst h5;generalize dK c0=E at *;refine bB lM ?_;intro Q aX aY aZ;repeat' first|refine aQ ?_|refine de cm ?_|refine de cr ?_|refine aR ?_ ?_<;>intro hw<;>try omega|fail
  all_goals first|exact g_ (nB (e1 _))|exact eu
 rw[aq h5];obtain rfl:aey=false:=by simpa using h5
 by_cases h6:12<rts.length
 ·rw[aB h6];generalize dK c0=E at *;refine bB lM ?_;intro Q aX aY aZ;repeat' first|refine aQ ?_|refine de cm ?_|refine de cr ?_|refine aR ?_ ?_<;>intro hw<;>try omega|fail
  all_goals first|exact g_ (nB (e1 _))|exact eu
 rw[aq h6];cases rb with
 | false =>
   rw[aB rfl];generalize dK c0=E at *;simp only[nO,aN,if_false]at cc;refine bB lM ?_;intro Q aX aY aZ;repeat' first|refine aQ ?_|refine de cm ?_|refine de cr ?_|refine aR ?_ ?_<;>intro hw<;>try omega|fail
   all_goals first|exact g_ (nB (e1 _))|exact eu
 | true =>
   rw[aq aT];generalize dK ⟨false,n,rts⟩=E3 at *;simp only[nO,if_true]at cc;refine bB lM ?_;intro Q aX aY aZ;repeat' first|refine aQ ?_|refine de cm ?_|refine de cr ?_|refine aR ?_ ?_<;>intro hw<;>try omega|fail
   all_goals first|exact g_ (nB (e3 _))|exact eu
structure Lp2 where
 t:Test
 acc:List Test
 p:Nat
 b:Bool
 f:Nat
def BW(t:Test)(a b:Int): Bool:=lE a b && (decide (t.kind=1) ||(decide (a≠3) && decide (b≠3)))
def Mw(t:Test)(a b:Int): aA aM 397 [dJ t,I a,I b] (.bool (BW t a b)):=by
 have hf:=oU a b;have hS:BW t a b=(lE a b && (decide (t.kind=1) ||(decide (a≠3) && decide (b≠3)))):=rfl;rw[hS];generalize lE a b=f at *;simp only[dJ,dG];refine bB OR ?_;intro Q aX aY aZ;repeat' first|refine aQ ?_|refine aR ?_ ?_<;>intro hw<;>try omega|fail
 all_goals (refine bu ?_ rfl;refine bC AV.bool ?_;rw[cq];simp_all)
def Js(t:Test): List Expr:=if t.kind=6 then [t.a,t.b]else [t.a]
def Up(t:Test): aA aM 396 [dJ t] (dG (Js t)):=by
 have h1:∀ σ : ai,View σ (.aH true EX [.agg [I t.a.op,I t.a.v.kind,I t.a.v.n,.str t.a.v.s,.str t.a.s,.aH false EX (t.a.l.map br)]]) (dG [t.a]):=fun σ=>by
  rw[dG,bN,fH,bE];exact View.weak _ _ _ aT
 have h2:∀ σ : ai,View σ (.aH true EX [.agg [I t.a.op,I t.a.v.kind,I t.a.v.n,.str t.a.v.s,.str t.a.s,.aH false EX (t.a.l.map br)],.agg [I t.b.op,I t.b.v.kind,I t.b.v.n,.str t.b.v.s,.str t.b.s,.aH false EX (t.b.l.map br)]]) (dG [t.a,t.b]):=fun σ=>by
  rw[dG,bN,bN,fH,bE,bE];exact View.weak _ _ _ aT
 unfold Js;by_cases h6:t.kind=6
 ·rw[aB h6];generalize dG [t.a,t.b]=E at *;simp only[dJ,dG];refine bB CK ?_;intro Q aX aY aZ;repeat' first|refine fy h6 ?_|refine aQ ?_|refine aR ?_ ?_<;>intro hw<;>try omega|fail
  all_goals exact NN (h2 _)
 rw[aq h6];generalize dG [t.a]=E at *;simp only[dJ,dG];refine bB CK ?_;intro Q aX aY aZ;repeat' first|refine aQ ?_|refine aR ?_ ?_<;>intro hw<;>try omega|fail
 all_goals exact NN (h1 _)
def jZ(cs:List fh)(x:Expr): Int × Int:=if eV x then lF cs x else(0,2)
def xB(cs:List fh)(hcs:cs.length<=2^60)(x:Expr)(hx:jN x)(hz:gW x<=2^60): aA aM 348 [br x,ei cs] (.bg [I (jZ cs x).1,I (jZ cs x).2]):=by
 have:=Rm cs hcs x hx hz;unfold jZ;cases hr:eV x<;>simpa[hr]using this
def BX(cs:List fh)(kind:Int)(t:Test): Int :=
 if(jZ cs t.a).2≠0 then(jZ cs t.a).2
 else if t.kind=6 then(if(jZ cs t.b).2≠0 then(jZ cs t.b).2 else if BW t kind (jZ cs t.a).1 && BW t kind (jZ cs t.b).1 then 0 else 14)
 else if BW t kind (jZ cs t.a).1 then 0 else 14
def zL(cs:List fh)(kind:Int)(c:Cell): Int:=if nR c then(match c.tests.find? (fun t=>BX cs kind t != 0)with
 | some t=>BX cs kind t
 | none=>0)else 2
def acf{cs:List fh}{kind:Int}{c:Cell}{i:Nat}{e:Int}(hr:nR c=true)(hi:i<c.tests.length)(h:∀ k,k<i->(BX cs kind (c.tests.getD k default) != 0)=false)(he:BX cs kind (c.tests.getD i default)=e)(hne:e≠0): zL cs kind c=e:=by
 unfold zL;rw[aB hr,Au (p:=fun t=>BX cs kind t != 0) hi h (by rw[he];simpa using hne)];exact he
def Zz{cs:List fh}{kind:Int}{c:Cell}(hr:nR c=true)(h:∀ k,k<c.tests.length->(BX cs kind (c.tests.getD k default) != 0)=false): zL cs kind c=0:=by
 unfold zL;rw[aB hr,xw (p:=fun t=>BX cs kind t != 0) h]
