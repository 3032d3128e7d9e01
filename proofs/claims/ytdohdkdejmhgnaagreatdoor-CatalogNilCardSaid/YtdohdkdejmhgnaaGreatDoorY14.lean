/- Part. -/
import Derived.Test.YtdohdkdejmhgnaaGreatDoorY13
import Derived.Shelf.Spec.SlicesInsertGrow
set_option linter.all false
set_option maxHeartbeats 4000000
namespace Go.AM.B
variable [LV]
def qV(x:nx)(t:Tr AV)(s:St): AQ:=fun x' e σ=>x'=x/\e=t.get .undef/\σ = s.abs
def Lj{t:Tr AV}{d:Option Nat}{v:AV}{K:Tr AV->Bool}(h:E9 t d v K=true): ∃ t',t'.get .undef=cZ (t.get .undef) d v/\K t'=true:=by
 cases d with
 | none=>exact⟨t,rfl,h⟩
 | some d =>
   obtain⟨t',h1,h2⟩:=Tr.fx _ _ _ _ _ _ (show Tr.di .undef 60 t d v K=true from h);exact⟨t',funext fun m=>h2 m,h1⟩
def afw{v:AV}{b:Bool}{K:Bool->Bool}(h:gdP v b K=true): (∃ x,v = .bool x/\K (x==b)=true)\/(v = .bg []/\K false=true):=by
 cases v<;>first|exact no h rfl|skip
 case bool x=>replace h:K (vC x b)=true:=h;rw[tY]at h;exact .inl ⟨x,rfl,h⟩
 case bg vs=>obtain⟨h1,h2⟩:=aL.1 (show bK (fA vs) (K false)=true from h);rw[kC]at h1;subst h1;exact .inr ⟨rfl,h2⟩
section
variable {c:Ctx} {H:Prop}
def wV(hc:jm H c): ∀(ops:List bV) (Q:QK) (t:Tr AV) (s:St),sP ops c Q t s=true-> ∃ x t' s',Q x t' s'=true/\(H->dL c.P (qV x t' s') ops (t.get .undef) s.abs)
 | [],Q,t,s,h=>⟨.normal,t,s,h,fun _=>⟨rfl,rfl,rfl⟩⟩
 | ⟨o, d, gd⟩ :: r, Q, t, s, h => by
   have go:U9 o d (sP r c) c Q t s=true-> ∃ x t' s',Q x t' s'=true/\(H->o.run c.P (t.get .undef) s.abs (fun v σ'=>dL c.P (qV x t' s') r (cZ (t.get .undef) d v) σ') (fun v σ'=>qV x t' s' (.panic v) (t.get .undef) σ')):=fun h=>by
    obtain⟨out,s1,h1,h2⟩:=afv hc (show bf.K o c t s (fun v s'=>E9 t d v fun t'=>sP r c Q t' s') (fun v s'=>Q (.panic v) t s')=true from h);cases out with
    | ret v =>
      obtain⟨t1,e1,h3⟩:=Lj (show(E9 t d v fun t'=>sP r c Q t' s1)=true from h1);obtain⟨x,t',s',h4,h5⟩:=wV hc r Q t1 s1 h3;refine⟨x,t',s',h4,fun hH=>m_ ?_ ?_ (h2 hH)⟩
      ·rintro v' σ' ⟨e2,rfl⟩;cases e2;rw[<-e1];exact h5 hH
      rintro v' σ' ⟨e2,_⟩;cases e2
    | panic v =>
      refine⟨.panic v,t,s1,h1,fun hH=>m_ ?_ ?_ (h2 hH)⟩
      ·rintro v' σ' ⟨e2,_⟩;cases e2
      rintro v' σ' ⟨e2,rfl⟩;cases e2;exact⟨rfl,rfl,rfl⟩
   have sk:aaj d (sP r c) Q t s=true-> ∃ x t' s',Q x t' s'=true/\(H->dL c.P (qV x t' s') r (cZ (t.get .undef) d (.bg [])) s.abs):=fun h=>by
    obtain⟨t1,e1,h3⟩:=Lj (show(E9 t d (.bg []) fun t'=>sP r c Q t' s)=true from h);obtain⟨x,t',s',h4,h5⟩:=wV hc r Q t1 s h3;exact⟨x,t',s',h4,fun hH=>by rw[<-e1];exact h5 hH⟩
   cases gd with
   | none=>exact go h
   | some p =>
     obtain⟨k,b⟩:=p
     replace h:(Tr.dI .undef t k fun v=>gdP v b fun y=>iK y (U9 o d (sP r c) c Q t s) (aaj d (sP r c) Q t s))=true:=h
     rw[Tr.oX]at h;simp only[dL];rcases afw h with⟨y,hy,h1⟩|⟨hy,h1⟩
     ·rw[fD]at h1;rw[hy];dsimp only;by_cases hyb:y=b
      ·subst hyb;rw[aB aT]at h1;obtain⟨x,t',s',h2,h3⟩:=go h1
       have hu:cZ (t.get .undef) (some k) (.bool y)=t.get .undef:=by
        funext m;simp only[cZ];split
        ·rename_i e;rw[e,hy]
        rfl
       exact⟨x,t',s',h2,fun hH=>⟨fun _=>by rw[hu];exact h3 hH,fun hn=>(by cases y<;>cases hn)⟩⟩
      rw[aq (by simpa using hyb)]at h1;obtain⟨x,t',s',h2,h3⟩:=sk h1;have hyb:y = !b:=by cases y<;>cases b<;>simp_all
      subst hyb
      have hu:cZ (t.get .undef) (some k) (.bool !b)=t.get .undef:=by
       funext m;simp only[cZ];split
       ·rename_i e;rw[e,hy]
       rfl
      exact⟨x,t',s',h2,fun hH=>⟨fun hn=>(by cases b<;>cases hn),fun _=>by rw[hu];exact h3 hH⟩⟩
     obtain⟨x,t',s',h2,h3⟩:=sk h1;rw[hy];exact⟨x,t',s',h2,h3⟩
def S3(x:AV): aak x=x.obj:=by
 cases x<;>first|rfl|skip
 case lX el p n=>cases p<;>rfl
def X3{x y:AV}(h:JT x y=true): pJ x y:=by
 intro l h1 h2;unfold JT at h;rw[S3,S3,h1,h2]at h
 replace h:eE (Nat.beq l l)=true:=h
 rw[Nat.beq_refl]at h;cases h
def MZ: ∀(fO:List (AX × AX)) (t:Tr AV),JU fO t=true->oh fO (t.get .undef)
 | [],_,_=>trivial
 | (x, y) :: r, t, h => by
   replace h:(cA x t fun a=>cA y t fun b=>bK (JT a b) (JU r t))=true:=h
   rw[cy,cy,aL]at h;exact⟨X3 h.1,MZ r t h.2⟩
def aav{body:AQ->Env->ai->Prop}(hm:∀ {Q Q':AQ},(∀ ex e σ,Q ex e σ->Q' ex e σ)-> ∀ e σ,body Q e σ->body Q' e σ){Q:AQ}{e:Env}{σ : ai}{t1:Tr AV}{s1:St}(h1:body (qV .normal t1 s1) e σ)(h2:FE body Q (t1.get .undef) s1.abs): FE body Q e σ:=by
 obtain⟨I,⟨n0,hI⟩,hr⟩:=h2;refine⟨fun m e' σ'=>I m e' σ'\/(m=n0+1/\e'=e/\σ' = σ),⟨n0+1,.inr ⟨rfl,rfl,rfl⟩⟩,?_⟩;rintro n e' σ' (h|⟨rfl,rfl,rfl⟩)
 ·refine hm ?_ _ _ (hr n e' σ' h);intro ex e2 σ2 hq;cases ex with
  | normal=>obtain⟨m,h3,h4⟩:=hq;exact⟨m,h3,.inl h4⟩
  | _=>exact hq
 refine hm ?_ _ _ h1;rintro ex e2 σ2 ⟨rfl,rfl,rfl⟩;exact⟨n0,Nat.lt_succ_self _,.inl hI⟩
def J1(l:Nat)(rest:AQ->Env->ai->Prop)(Q:AQ)(e:Env)(σ : ai): Prop:= ∃(J:Nat->Env->ai->Prop),(∃ n,J n e σ)/\ ∀ n e σ,J n e σ->rest (qZ l (fun e' σ'=> ∃ m,m<n/\J m e' σ') Q) e σ
def X4{l:Nat}{rest:AQ->Env->ai->Prop}(hm:∀ {Q Q':AQ},(∀ ex e σ,Q ex e σ->Q' ex e σ)-> ∀ e σ,rest Q e σ->rest Q' e σ){Q:AQ}{e:Env}{σ : ai}{t1:Tr AV}{s1:St}(h1:rest (qV (.goto l) t1 s1) e σ)(h2:J1 l rest Q (t1.get .undef) s1.abs): J1 l rest Q e σ:=by
 obtain⟨I,⟨n0,hI⟩,hr⟩:=h2;refine⟨fun m e' σ'=>I m e' σ'\/(m=n0+1/\e'=e/\σ' = σ),⟨n0+1,.inr ⟨rfl,rfl,rfl⟩⟩,?_⟩;rintro n e' σ' (h|⟨rfl,rfl,rfl⟩)
 ·refine hm ?_ _ _ (hr n e' σ' h);intro ex e2 σ2 hq;cases ex with
  | goto l'=>obtain⟨h0,m,h3,h4⟩:=hq;exact⟨h0,m,h3,.inl h4⟩
  | _=>exact hq
 refine hm ?_ _ _ h1;rintro ex e2 σ2 ⟨rfl,rfl,rfl⟩;exact⟨rfl,n0,Nat.lt_succ_self _,.inl hI⟩
def X5: ∀(co:cQ) (V:LV) (hc:jm H c) (Q:QK) (t:Tr AV) (s:St),jr co c Q t s=true-> ∃ x t' s',Q x t' s'=true/\(H->fg c.P co (qV x t' s') (t.get .undef) s.abs):=by
 intro co
 induction co with
 | skip=>intro V hc Q t s h;exact⟨.normal,t,s,h,fun _=>⟨rfl,rfl,rfl⟩⟩
 | region ops=>intro V hc Q t s h;exact wV hc ops Q t s h
 | draw ops fO =>
   intro V hc Q t s h;obtain⟨x,t',s',h1,h2⟩:=wV hc ops (abg fO Q) t s h;have key:∀ {Q0:Prop},(∀ ex e σ,qV x t' s' ex e σ->i_ fO (qV x t' s') ex e σ)->Q x t' s'=true-> ∃ x t' s',Q x t' s'=true/\(H->fg c.P (.draw ops fO) (qV x t' s') (t.get .undef) s.abs):=fun hm h=>⟨x,t',s',h,fun hH=>(gK (c:= .region ops) hm _ _ (h2 hH):fg c.P (.region ops) _ _ _)⟩;cases x with
   | normal =>
     replace h1:bK (JU fO t') (Q .normal t' s')=true:=h1
     rw[aL]at h1;exact key (Q0:=True) (by rintro ex e σ ⟨rfl,rfl,rfl⟩;exact⟨MZ _ _ h1.1,rfl,rfl,rfl⟩) h1.2
   | exit i=>exact key (Q0:=True) (by rintro ex e σ ⟨rfl,rfl,rfl⟩;exact⟨rfl,rfl,rfl⟩) h1
   | goto i=>exact key (Q0:=True) (by rintro ex e σ ⟨rfl,rfl,rfl⟩;exact⟨rfl,rfl,rfl⟩) h1
   | ret=>exact key (Q0:=True) (by rintro ex e σ ⟨rfl,rfl,rfl⟩;exact⟨rfl,rfl,rfl⟩) h1
   | panic v =>
     replace h1:bK (eE (qc fO)) (Q (.panic v) t' s')=true:=h1
     rw[aL]at h1
     have hf:qc fO=false:=by
      cases hh:qc fO with
      | false=>rfl
      | true=>rw[hh]at h1;exact Bool.noConfusion (show false=true from h1.1)
     exact key (Q0:=True) (by rintro ex e σ ⟨rfl,rfl,rfl⟩;show(if qc fO then _ else _);rw[aq (by rw[hf];decide)];exact⟨rfl,rfl,rfl⟩) h1.2
 | seq a b pN qN =>
   intro V hc Q t s h;obtain⟨x,t1,s1,h1,h2⟩:=pN V hc (y8 (jr b c Q) Q) t s h
   have out:x≠ .normal->Q x t1 s1=true-> ∃ x t' s',Q x t' s'=true/\(H->fg c.P (.seq a b) (qV x t' s') (t.get .undef) s.abs):=fun hx h=>by
    refine⟨x,t1,s1,h,fun hH=>?_⟩;simp only[fg];exact gK (by rintro ex e σ ⟨rfl,rfl,rfl⟩;cases ex<;>first|exact absurd rfl hx|exact⟨rfl,rfl,rfl⟩) _ _ (h2 hH)
   cases x with
   | normal =>
     obtain⟨x,t',s',h3,h4⟩:=qN V hc Q t1 s1 h1;refine⟨x,t',s',h3,fun hH=>?_⟩;simp only[fg];exact gK (by rintro ex e σ ⟨rfl,rfl,rfl⟩;exact h4 hH) _ _ (h2 hH)
   | exit i=>exact out aT h1
   | goto i=>exact out aT h1
   | ret=>exact out aT h1
   | panic v=>exact out aT h1
 | cond x a b pN qN =>
   intro V hc Q t s h
   replace h:(cA x t fun v=>nV v fun y=>iK y (jr a c Q t s) (jr b c Q t s))=true:=h
   rw[cy]at h;obtain⟨y,hx,h1⟩:=rP h;rw[fD]at h1;simp only[fg,hx];cases y with
   | true=>obtain⟨x,t',s',h2,h3⟩:=pN V hc Q t s h1;exact⟨x,t',s',h2,fun hH=>⟨fun _=>h3 hH,fun h=>(by cases h)⟩⟩
   | false=>obtain⟨x,t',s',h2,h3⟩:=qN V hc Q t s h1;exact⟨x,t',s',h2,fun hH=>⟨fun h=>(by cases h),fun _=>h3 hH⟩⟩
 | block id a ih =>
   intro V hc Q t s h;obtain⟨x,t1,s1,h1,h2⟩:=ih V hc (XT id Q) t s h
   have key:∀ y,Q y t1 s1=true->(∀ e σ,qV y t1 s1 y e σ->oI id (qV y t1 s1) x e σ)-> ∃ x t' s',Q x t' s'=true/\(H->fg c.P (.block id a) (qV x t' s') (t.get .undef) s.abs):=fun y h hm=>by
    refine⟨y,t1,s1,h,fun hH=>?_⟩;simp only[fg];exact gK (by rintro ex e σ ⟨rfl,h5,h6⟩;exact hm e σ ⟨rfl,h5,h6⟩) _ _ (h2 hH)
   cases x with
   | exit i =>
     replace h1:iK (Nat.beq i id) (Q .normal t1 s1) (Q (.exit i) t1 s1)=true:=h1
     rw[fD,pE]at h1;by_cases e:i=id
     ·rw[aB (fT e)]at h1;exact key .normal h1 (fun e' σ h=>by simp only[oI,aB e];exact h)
     rw[aq (fun h=>e (of_decide_eq_true h))]at h1;exact key (.exit i) h1 (fun e' σ h=>by simp only[oI,aq e];exact h)
   | normal=>exact key .normal h1 (fun _ _ h=>h)
   | goto i=>exact key (.goto i) h1 (fun _ _ h=>h)
   | ret=>exact key .ret h1 (fun _ _ h=>h)
   | panic v=>exact key (.panic v) h1 (fun _ _ h=>h)
 | loop a ih =>
   intro V hc Q t s h
   have key:∀ (n:Nat) (t:Tr AV) (s:St),U_ n (jr a c) Q t s=true-> ∃ x t' s',Q x t' s'=true/\(H->FE (fg c.P a) (qV x t' s') (t.get .undef) s.abs):=by
    intro n
    induction n with
    | zero=>intro t s h;exact no h rfl
    | succ n OE =>
      intro t s h;obtain⟨x,t1,s1,h1,h2⟩:=ih V hc (y8 (U_ n (jr a c) Q) Q) t s h
      have out:x≠ .normal->Q x t1 s1=true-> ∃ x t' s',Q x t' s'=true/\(H->FE (fg c.P a) (qV x t' s') (t.get .undef) s.abs):=fun hx h =>
       ⟨x, t1, s1, h, fun hH => ⟨fun m e σ => m = 0 /\ e = t.get .undef /\ σ = s.abs, ⟨0, rfl, rfl, rfl⟩, by
         rintro m e σ ⟨rfl,rfl,rfl⟩;exact gK (by rintro ex e σ ⟨rfl,rfl,rfl⟩;cases ex<;>first|exact absurd rfl hx|exact⟨rfl,rfl,rfl⟩) _ _ (h2 hH)⟩⟩
      cases x with
      | normal =>
        obtain⟨x,t',s',h3,h4⟩:=OE t1 s1 h1;exact⟨x,t',s',h3,fun hH=>aav (fun hm e σ h=>gK hm e σ h) (h2 hH) (h4 hH)⟩
      | exit i=>exact out aT h1
      | goto i=>exact out aT h1
      | ret=>exact out aT h1
      | panic v=>exact out aT h1
   exact key 1000000 t s h
 | exit id=>intro V hc Q t s h;exact⟨.exit id,t,s,h,fun _=>⟨rfl,rfl,rfl⟩⟩
 | ret=>intro V hc Q t s h;exact⟨.ret,t,s,h,fun _=>⟨rfl,rfl,rfl⟩⟩
 | scope l a r pN Wv =>
   intro V hc Q t s h
   have key:∀ (n:Nat) (t:Tr AV) (s:St),AW l n (jr r c) Q t s=true-> ∃ x t' s',Q x t' s'=true/\(H->J1 l (fg c.P r) (qV x t' s') (t.get .undef) s.abs):=by
    intro n
    induction n with
    | zero=>intro t s h;exact no h rfl
    | succ n OE =>
      intro t s h;obtain⟨x,t1,s1,h1,h2⟩:=Wv V hc (NU l (AW l n (jr r c) Q) Q) t s h
      have out:(∀ i,x≠ .goto i)->Q x t1 s1=true-> ∃ x t' s',Q x t' s'=true/\(H->J1 l (fg c.P r) (qV x t' s') (t.get .undef) s.abs):=fun hx h =>
       ⟨x, t1, s1, h, fun hH => ⟨fun m e σ => m = 0 /\ e = t.get .undef /\ σ = s.abs, ⟨0, rfl, rfl, rfl⟩, by
         rintro m e σ ⟨rfl,rfl,rfl⟩;exact gK (by rintro ex e σ ⟨rfl,rfl,rfl⟩;cases ex<;>first|exact absurd rfl (hx _)|exact⟨rfl,rfl,rfl⟩) _ _ (h2 hH)⟩⟩
      cases x with
      | goto i =>
        replace h1:bK (Nat.beq i l) (AW l n (jr r c) Q t1 s1)=true:=h1
        rw[aL,gg]at h1;obtain⟨rfl,h1⟩:=h1;obtain⟨x,t',s',h3,h4⟩:=OE t1 s1 h1;exact⟨x,t',s',h3,fun hH=>X4 (fun hm e σ h=>gK hm e σ h) (h2 hH) (h4 hH)⟩
      | normal=>exact out aT h1
      | exit i=>exact out aT h1
      | ret=>exact out aT h1
      | panic v=>exact out aT h1
   obtain⟨x,t1,s1,h1,h2⟩:=pN V hc (NU l (AW l 1000000 (jr r c) Q) Q) t s h
   have out:(∀ i,x≠ .goto i)->Q x t1 s1=true-> ∃ x t' s',Q x t' s'=true/\(H->fg c.P (.scope l a r) (qV x t' s') (t.get .undef) s.abs):=fun hx h =>
    ⟨x,t1,s1,h,fun hH=>⟨fun _ _ _=>False,gK (by rintro ex e σ ⟨rfl,rfl,rfl⟩;cases ex<;>first|exact absurd rfl (hx _)|exact⟨rfl,rfl,rfl⟩) _ _ (h2 hH),fun _ _ _ h=>h.elim⟩⟩
   cases x with
   | goto i =>
     replace h1:bK (Nat.beq i l) (AW l 1000000 (jr r c) Q t1 s1)=true:=h1
     rw[aL,gg]at h1;obtain⟨rfl,h1⟩:=h1;obtain⟨x,t',s',h3,h4⟩:=key _ t1 s1 h1;refine⟨x,t',s',h3,fun hH=>?_⟩;obtain⟨J,⟨n0,hJ⟩,hr⟩:=h4 hH;exact⟨J,gK (by rintro ex e σ ⟨rfl,rfl,rfl⟩;exact⟨rfl,n0,hJ⟩) _ _ (h2 hH),hr⟩
   | normal=>exact out aT h1
   | exit i=>exact out aT h1
   | ret=>exact out aT h1
   | panic v=>exact out aT h1
 | label l=>intro V hc Q t s h;exact⟨.normal,t,s,h,fun _=>⟨rfl,rfl,rfl⟩⟩
 | goto l=>intro V hc Q t s h;exact⟨.goto l,t,s,h,fun _=>⟨rfl,rfl,rfl⟩⟩
 | rE f nt ps ca cb a b pN qN =>
   intro V hc Q t s h
   replace h:(cA f t fun g=>xO g fun fn a' b'=>nY fn fun n=>s.jG (.loop .MN) fun l s1=>bK (JV l c.s9) (iM a' (.lW l::b') fun az=>c.GZ ((l,Qg l ps (jr a c) (jr b c) t)::c.s9) n az s1 (abh l Q t)))=true:=h
   rw[cy]at h;obtain⟨fn,a',b',hx,h1⟩:=AZ h;obtain⟨n,rfl,h2⟩:=rQ h1;obtain⟨s1,e1,h3⟩:=St.MP h2;rw[aL,kx]at h3;obtain⟨hfr,h3⟩:=h3
   replace hfr:=MR hfr
   obtain⟨L,hL⟩:=gi s.n;rw[hL]at h3 hfr;obtain⟨d,hd⟩:∃ d:LD,d=⟨nt,t.get .undef,ps.toArray,ca,cb⟩:=⟨_,rfl⟩;obtain⟨V',hV⟩:∃ V':LV,V'.v L=d/\ ∀ i,i≠L->V'.v i=V.v i:=⟨⟨fun i=>if i=L then d else V.v i⟩,aT,fun i hi=>by simp[hi]⟩
   let Y:Prop:= ∀(σ':ai) (args:List AV) (R:Out->ai->Prop),σ'[L]? = some (d.obj .ready none)->args.length=ps.length ->
    fg c.P a (YO L (d.obj .ready none) (d.obj .busy none) (fg c.P b (TJ L d.obj R))) (nJ ps args (t.get .undef)) σ'->oF c.P L args σ' R
   have hΓ : @NV V' c.P (H/\Y) ((L,Qg L ps (jr a c) (jr b c) t)::c.s9):=by
    intro V2 hV2 p hp az s K hk;have hag:∀ q ∈ c.s9,V2.v q.1=V.v q.1:=fun q hq=>(hV2 q (cP _ hq)).trans (hV.2 _ (hfr q hq));have Jx:V2.v L=d:=(hV2 (L,_) (List.mem_cons_self ..)).trans hV.1;rcases List.mem_cons.1 hp with rfl|hp
    ·replace hk:bK (dY az 0 fun n=>dY ps 0 (Nat.beq n)) (s.dI L fun ob=>sJ ob fun m=>JO m (Cd ps az t fun t1=>jr a c (afq L (jr b c) K) t1 s))=true:=hk
     have hc2:=hc.at V2 hag;have objs:∀ (m:LM),(OB.loop m).abs L=d.obj m.st m.pe:=fun m=>by simp only[OB.abs,Jx]
     rw[aL,j0,j0,gg]at hk;obtain⟨k1,k2⟩:=hk;obtain⟨ob,k3,k4⟩:=St.gD k2;obtain⟨m,rfl,k5⟩:=y9 k4;obtain⟨rfl,k6⟩:=Ql k5;obtain⟨t1,e2,k7⟩:=G1 ps az t k6;obtain⟨x,t2,s2,k8,k9⟩:=pN V2 hc2 _ _ _ k7;cases x with
     | exit i=>exact no k8 rfl
     | goto i=>exact no k8 rfl
     | ret=>exact no k8 rfl
     | panic v=>exact no k8 rfl
     | normal =>
     obtain⟨Cz,j1,j2⟩:=St.gD (show(s2.dI L fun ob=>sJ ob fun m=>JO m (s2.di L (.loop .XG) fun s'=>jr b c (afp L K) t2 s'))=true from k8);obtain⟨m2,rfl,j3⟩:=y9 j2;obtain⟨rfl,j4⟩:=Ql j3;obtain⟨s3,j5,j6⟩:=St.fx j4;obtain⟨x,t4,s4,j7,j8⟩:=qN V2 hc2 _ _ _ j6
     obtain⟨ob3,i1,i2⟩:=St.gD (show(s4.dI L fun ob=>sJ ob fun m=>UR m (@nx.rec (fun _=>Bool)
      (s4.di L (.loop .MN) fun s'=>K (.ret (.bool true)) s')
      (fun i=>s4.di L (.loop (.ex i)) fun s'=>K (.ret (.bool false)) s')
      (fun i=>s4.di L (.loop (.gt i)) fun s'=>K (.ret (.bool false)) s')
      (s4.di L (.loop .ret) fun s'=>K (.ret (.bool false)) s')
      (fun _=>false) x))=true from j7)
     obtain⟨m4,rfl,i3⟩:=y9 i2;obtain⟨rfl,i4⟩:=aao i3;rw[objs]at k3 j1 j5 i1
     obtain⟨out,s5,f1,f2⟩:∃ out s5,K out s5=true/\TJ L d.obj (fun o2 σ2=>o2=out/\σ2=s5.abs) x (t4.get .undef) s4.abs:=by
      have put:∀ (m:LM) (r:Bool),(s4.di L (.loop m) fun s'=>K (.ret (.bool r)) s')=true-> ∃ s5,K (.ret (.bool r)) s5=true/\s5.abs=s4.abs.set L (d.obj m.st m.pe):=fun m r h=>by
       obtain⟨s5,g1,g2⟩:=St.fx h;rw[objs]at g1;exact⟨s5,g2,g1⟩
      cases x with
      | normal=>obtain⟨s5,g1,g2⟩:=put .MN true i4;exact⟨_,s5,g1,i1,rfl,g2.symm⟩
      | exit i=>obtain⟨s5,g1,g2⟩:=put (.ex i) false i4;exact⟨_,s5,g1,i1,rfl,g2.symm⟩
      | goto i=>obtain⟨s5,g1,g2⟩:=put (.gt i) false i4;exact⟨_,s5,g1,i1,rfl,g2.symm⟩
      | ret=>obtain⟨s5,g1,g2⟩:=put .ret false i4;exact⟨_,s5,g1,i1,rfl,g2.symm⟩
      | panic v=>exact no i4 rfl
     refine⟨out,s5,f1,fun⟨hH,hY⟩=>hY _ _ _ k3 k1 ?_⟩;have k9:=k9 hH;rw[e2]at k9;refine gK ?_ _ _ k9;rintro ex e σ ⟨rfl,rfl,rfl⟩;refine⟨j1,?_⟩;have j8:=j8 hH;rw[j5]at j8;exact gK (by rintro ex e σ ⟨rfl,rfl,rfl⟩;exact f2) _ _ j8
    obtain⟨o',s',k1,k2⟩:=@jm.s9 V H c hc V2 hag p hp az s K hk;exact⟨o',s',k1,fun hH=>k2 hH.1⟩
   obtain⟨out,s2,f1,f2⟩:=@jm.GZ V H c hc V' _ _ hΓ _ _ _ _ h3;cases out with
   | panic v=>exact no f1 rfl
   | ret r =>
   replace f1:(s2.dI L fun ob=>sJ ob fun m=>s2.di L .non fun s'=>@LM.rec (fun _=>Bool) (Q .normal t s') false (Q .ret t s') (fun i=>Q (.exit i) t s') (fun i=>Q (.goto i) t s') m)=true:=f1
   obtain⟨ob,g1,g2⟩:=@St.gD V' _ _ _ f1;obtain⟨m,rfl,g3⟩:=y9 g2;obtain⟨s3,g4,g5⟩:=St.Qj g3;have e3:@St.abs V' s3=(@St.abs V' s2).set L .dead:=@St.SO V' _ _ _ _ g4
   have e4:@St.abs V' s3 = @St.abs V s3:=St.XU fun i hi=>by
    by_cases e:i=L
    ·subst e;exact .inr (by rw[g4.2.2];simp)
    exact .inl (hV.2 i e)
   have e5:@St.abs V' s1 = @St.abs V s++[d.obj .ready none]:=by
    have h6:@St.abs V' s = @St.abs V s:=St.XU fun i hi=> .inl (hV.2 i ae);rw[@St.Qk V' _ _ _ e1,h6]
    congr 2
    rw[@St.Lf V,hL];simp only[OB.abs,hV.1];rfl
   have g1':(@St.abs V' s2)[L]? = some (d.obj m.st m.pe):=by
    rw[g1];simp only[OB.abs,hV.1]
   obtain⟨x,hq,hend⟩:∃ x,Q x t s3=true/\ ∀ K':AQ,K' x (t.get .undef) (@St.abs V s3)->ads L d.obj K' (t.get .undef) (.ret r) (@St.abs V' s2):=by
    rw[<-e4,e3];cases m with
    | MN=>exact⟨.normal,g5,fun K' hk=>⟨_,_,g1',by simp[LM.st],hk⟩⟩
    | XG=>exact no g5 rfl
    | ret=>exact⟨.ret,g5,fun K' hk=>⟨_,_,g1',by simp[LM.st],hk⟩⟩
    | ex i=>exact⟨.exit i,g5,fun K' hk=>⟨_,_,g1',by simp[LM.st],hk⟩⟩
    | gt i=>exact⟨.goto i,g5,fun K' hk=>⟨_,_,g1',by simp[LM.st],hk⟩⟩
   refine⟨x,t,s3,hq,fun hH=>?_⟩;simp only[fg,hx];intro o ho hy;have hod:o=d.obj:=by funext st pe;rw[ho,hd];rfl
   subst hod;rw[@St.Lf V,hL]at hy |-;have f2:=f2 ⟨hH,hy⟩;rw[e5]at f2;rw[fY];refine f2.mono ?_;rintro o' σ' ⟨rfl,rfl⟩;exact hend _ ⟨rfl,rfl,rfl⟩
 | stop=>intro V hc Q t s h;exact no h rfl
def Cl(hc:jm H c)(co:cQ)(Q:QK)(t:Tr AV)(s:St): jr co c Q t s=true-> ∃ x t' s',Q x t' s'=true/\(H->fg c.P co (qV x t' s') (t.get .undef) s.abs):=X5 co _ hc Q t s
def F5: ∀(rs:List kp) (t:Tr AV) (s:St) (K:List AV->Bool),xS rs t s K=true-> ∃ vs,K vs=true/\ ∀ K':List AV->Prop,K' vs->mj (t.get .undef) s.abs rs K'
 | [],t,s,K,h=>⟨[],h,fun _ h=>h⟩
 | .tmp n :: r, t, s, K, h => by
   replace h:(Tr.dI .undef t n fun v=>xS r t s fun vs=>K (v::vs))=true:=h
   rw[Tr.oX]at h;obtain⟨vs,h1,h2⟩:=F5 r t s _ h;exact⟨_,h1,fun K' h=>h2 _ h⟩
 | .cell n ag m :: r, t, s, K, h => by
   replace h:(Tr.dI .undef t n fun p=>pC p s ag m fun v=>xS r t s fun vs=>K (v::vs))=true:=h
   rw[Tr.oX]at h;obtain⟨v,h0,h1⟩:=oe (xW (K':=fun v=>(xS r t s fun vs=>K (v::vs))=true) h fun _ h=>h);obtain⟨vs,h2,h3⟩:=F5 r t s _ h1;refine⟨v::vs,h2,fun K' h=>?_⟩;have h0:=h0 [];rw[cI]at h0;exact kU (fun v' e=>by subst e;exact h3 _ h) h0
def S4(vs:List AV)(K:AV->Bool): lT vs K=K (oneOf vs):=by
 match vs with
 | []=>rfl
 | [_]=>rfl
 | _::_::_=>rfl
def Vf{args:List AV}{nt:Nat}{K:Nat->Tr AV->Bool}(h:jD .undef args 0 .nil K=true): ∃ n t,K n t=true/\t.get .undef=fC args:=by
 obtain⟨t,h1,h2⟩:=Fa _ _ _ _ _ h;refine⟨_,t,h1,funext fun m=>?_⟩;rw[h2];simp only[fC,cD,true_and,bp,Nat.sub_zero];by_cases e:m<args.length
 ·rw[aB e]
 rw[aq e,aj,eo ae];rfl
def Ll{rs:List kp}{K:Out->St->Bool}{x:nx}{t:Tr AV}{s:St}(h:xU rs K x t s=true): ∃ o,K o s=true/\xg rs (fun o' σ'=>o'=o/\σ'=s.abs) x (t.get .undef) s.abs:=by
 have r:(xS rs t s fun vs=>lT vs fun v=>K (.ret v) s)=true-> ∃ o,K o s=true/\mj (t.get .undef) s.abs rs fun vs=>(Out.ret (oneOf vs))=o/\s.abs=s.abs:=fun h=>by
  obtain⟨vs,h1,h2⟩:=F5 _ _ _ _ h;rw[S4]at h1;exact⟨_,h1,h2 _ ⟨rfl,rfl⟩⟩
 cases x with
 | normal=>exact r h
 | ret=>exact r h
 | panic v=>exact⟨.panic v,h,rfl,rfl⟩
 | exit i=>exact no h rfl
 | goto i=>exact no h rfl
def S5{K:Tr AV->Bool}: ∀(l:List (AX × Option Nat)) (t:Tr AV),Vb l t K=true-> ∃ t',K t'=true/\ ∀ K':Env->Prop,K' (t'.get .undef)->K6 l K' (t.get .undef)
 | [],t,h=>⟨t,h,fun _ h=>h⟩
 | (x, d) :: r, t, h => by
   replace h:(cA x t fun v=>E9 t d v fun t'=>Vb r t' K)=true:=h
   rw[cy]at h;obtain⟨t1,e1,h1⟩:=Lj h;obtain⟨t',h2,h3⟩:=S5 r t1 h1;exact⟨t',h2,fun K' h=>by have:=h3 K' h;rw[e1]at this;exact this⟩
def aaw(hc:jm H c){n:FuncId}{args:List AV}{pv:Option AV}{s:St}{K:St->Bool}(h:Vd c n args (pv.getD .eG) s K=true): ∃ s',K s'=true/\(H->tV c.P n args pv s.abs fun σ'=>σ'=s'.abs):=by
 unfold Vd at h;generalize hr:Va c.P c.hs n=ro at h;cases ro with
 | none=>exact no h rfl
 | some rf =>
   cases rf with|mk nt k k2 gs =>
   replace h:bK (dY args 0 fun m=>Nat.ble m nt) (jD .undef args 0 .nil fun _ t=>Tr.di .undef 60 t k (pv.getD .eG) fun t=>sP gs c (Vc K) t s)=true:=h
   rw[aL,j0,d_,au]at h;obtain⟨_,t,h1,e1⟩:=Vf (nt:=nt) h.2;obtain⟨t1,h2,h3⟩:=Tr.fx _ _ _ _ _ _ h1;obtain⟨x,t3,s',h6,h7⟩:=wV hc _ _ _ _ h2
   have e2:t1.get .undef=cZ (fC args) (some k) (pv.getD .eG):=by
    funext m;rw[h3,e1];rfl
   have hx:(x = .normal\/x = .ret)/\K s'=true:=by
    cases x with
    | normal=>exact⟨.inl rfl,h6⟩
    | ret=>exact⟨.inr rfl,h6⟩
    | _=>exact no h6 rfl
   refine⟨s',hx.2,fun hH=>?_⟩;unfold Va at hr;split at hr
   ·rename_i fn hfn;split at hr
    ·cases hr
    rename_i hnm;refine tV.aeS hfn hnm hr h.1 ?_;show dL c.P (vB fun σ'=>σ'=s'.abs) gs (cZ (fC args) (some k) (pv.getD .eG)) s.abs;rw[<-e2];refine(gK (c:= .region gs) ?_ _ _ (h7 hH):fg c.P (.region gs) _ _ _);rintro ex e σ ⟨rfl,rfl,rfl⟩;rcases hx.1 with rfl|rfl<;>exact rfl
   ·cases hr
def acV(hc:jm H c){n:FuncId}{args:List AV}{pv:Option AV}{s:St}{K:St->Bool}(h:La c n args (pv.getD .eG) s K=true): ∃ s',K s'=true/\(H->tV c.P n args pv s.abs fun σ'=>σ'=s'.abs):=by
 unfold La at h;generalize hr:aan c.P c.hs n=ro at h;cases ro with
 | none=>exact aaw hc h
 | some rf =>
   cases rf with|mk nt k SL rest =>
   replace h:bK (dY args 0 fun m=>Nat.ble m nt) (jD .undef args 0 .nil fun _ t=>Tr.di .undef 60 t k (pv.getD .eG) fun t=>Vb SL t fun t=>jr rest c (Vc K) t s)=true:=h
   rw[aL,j0,d_,au]at h;obtain⟨_,t,h1,e1⟩:=Vf (nt:=nt) h.2;obtain⟨t1,h2,h3⟩:=Tr.fx _ _ _ _ _ _ h1;obtain⟨t2,h4,h5⟩:=S5 _ _ h2;obtain⟨x,t3,s',h6,h7⟩:=Cl hc _ _ _ _ h4
   have e2:t1.get .undef=cZ (fC args) (some k) (pv.getD .eG):=by
    funext m;rw[h3,e1];rfl
   have hx:(x = .normal\/x = .ret)/\K s'=true:=by
    cases x with
    | normal=>exact⟨.inl rfl,h6⟩
    | ret=>exact⟨.inr rfl,h6⟩
    | _=>exact no h6 rfl
   refine⟨s',hx.2,fun hH=>?_⟩;unfold aan at hr;split at hr
   ·rename_i fn hfn;split at hr
    ·cases hr
    rename_i hnm;refine tV.of_wp hfn hnm hr h.1 ?_;show K6 SL (fun e=>fg c.P rest (vB fun σ'=>σ'=s'.abs) e s.abs) (cZ (fC args) (some k) (pv.getD .eG));rw[<-e2];refine h5 _ (gK ?_ _ _ (h7 hH));rintro ex e σ ⟨rfl,rfl,rfl⟩;rcases hx.1 with rfl|rfl<;>exact rfl
   ·cases hr
def acW(hc:jm H c){rs:List kp}{K:Out->St->Bool}{n:FuncId}{args:List AV}{x:nx}{t:Tr AV}{s:St}(h:HU c rs K n args x t s=true): ∃ o s',K o s'=true/\(H->EO c.P rs (fun o' σ'=>o'=o/\σ'=s'.abs) n args x (t.get .undef) s.abs):=by
 have r:∀ pv:Option AV,(La c n args (pv.getD .eG) s fun s'=>xS rs t s' fun vs=>lT vs fun v=>K (.ret v) s')=true-> ∃ o s',K o s'=true/\(H->tV c.P n args pv s.abs fun σ'=>mj (t.get .undef) σ' rs fun vs=>(Out.ret (oneOf vs))=o/\σ'=s'.abs):=fun pv h=>by
  obtain⟨s',h1,h2⟩:=acV hc h;obtain⟨vs,h3,h4⟩:=F5 _ _ _ _ h1;rw[S4]at h3;refine⟨_,s',h3,fun hH=>⟨(h2 hH).1,fun g w us u a1 a2 a3 a4=>((h2 hH).2 g w us u a1 a2 a3 a4).mono ?_⟩⟩;rintro e u' w' ⟨g',σ',v,b1,b2,b3,b4,rfl⟩;exact⟨g',_,v,b1,b2,b3,b4,h4 _ ⟨rfl,rfl⟩⟩
 cases x with
 | normal=>exact r none h
 | ret=>exact r none h
 | panic v=>exact r (some v) h
 | exit i=>exact no h rfl
 | goto i=>exact no h rfl
def X6(hc:jm H c){rs:List kp}{K:Out->St->Bool}: ∀(d:sG) (t:Tr AV) (s:St),JW d c (xU rs K) (HU c rs K) t s=true-> ∃ o s',K o s'=true/\(H->d.wp c.P (xg rs fun o' σ'=>o'=o/\σ'=s'.abs) (EO c.P rs fun o' σ'=>o'=o/\σ'=s'.abs) (t.get .undef) s.abs):=by
 intro d
 induction d with
 | seq a d ih =>
   intro t s h;obtain⟨x,t1,s1,h1,h2⟩:=Cl hc a _ t s (show jr a c (y8 (JW d c (xU rs K) (HU c rs K)) (xU rs K)) t s=true from h)
   have out:x≠ .normal->xU rs K x t1 s1=true-> ∃ o s',K o s'=true/\(H->(sG.seq a d).wp c.P (xg rs fun o' σ'=>o'=o/\σ'=s'.abs) (EO c.P rs fun o' σ'=>o'=o/\σ'=s'.abs) (t.get .undef) s.abs):=fun hx h=>by
    obtain⟨o,h3,h4⟩:=Ll h;refine⟨o,s1,h3,fun hH=>gK ?_ _ _ (h2 hH)⟩;rintro ex e σ ⟨rfl,rfl,rfl⟩;cases ex<;>first|exact absurd rfl hx|exact h4
   cases x with
   | normal =>
     obtain⟨o,s',h3,h4⟩:=ih t1 s1 h1;exact⟨o,s',h3,fun hH=>gK (by rintro ex e σ ⟨rfl,rfl,rfl⟩;exact h4 hH) _ _ (h2 hH)⟩
   | exit i=>exact out aT h1
   | goto i=>exact out aT h1
   | ret=>exact out aT h1
   | panic v=>exact out aT h1
 | dfr ops y rest =>
   intro t s h;obtain⟨x,t1,s1,h1,h2⟩:=wV hc ops _ t s (show sP ops c (y8 (fun t s=>cA y t fun v=>xO v fun f a b=>nY f fun n=>iM a b fun az=>jr rest c (HU c rs K n az) t s) (xU rs K)) t s=true from h);have mono:H-> ∀ {Q':AQ},(∀ ex e σ,qV x t1 s1 ex e σ->Q' ex e σ)->dL c.P Q' ops (t.get .undef) s.abs:=fun hH _ hm=>(gK (c:= .region ops) hm _ _ (h2 hH):fg c.P (.region ops) _ _ _)
   have out:x≠ .normal->xU rs K x t1 s1=true-> ∃ o s',K o s'=true/\(H->(sG.dfr ops y rest).wp c.P (xg rs fun o' σ'=>o'=o/\σ'=s'.abs) (EO c.P rs fun o' σ'=>o'=o/\σ'=s'.abs) (t.get .undef) s.abs):=fun hx h=>by
    obtain⟨o,h3,h4⟩:=Ll h;refine⟨o,s1,h3,fun hH=>mono hH ?_⟩;rintro ex e σ ⟨rfl,rfl,rfl⟩;cases ex<;>first|exact absurd rfl hx|exact h4
   cases x with
   | normal =>
     replace h1:(cA y t1 fun v=>xO v fun f a b=>nY f fun n=>iM a b fun az=>jr rest c (HU c rs K n az) t1 s1)=true:=h1
     rw[cy]at h1;obtain⟨f,a,b,hv,h3⟩:=AZ h1;obtain⟨n,rfl,h4⟩:=rQ h3;rw[kx]at h4;obtain⟨x2,t2,s2,h5,h6⟩:=Cl hc rest _ t1 s1 h4;obtain⟨o,s',h7,h8⟩:=acW hc h5;refine⟨o,s',h7,fun hH=>mono hH ?_⟩;rintro ex e σ ⟨rfl,rfl,rfl⟩;show(match y.ev (t1.get .undef)with | .fn (.func n) first cap=>fg c.P rest (EO c.P rs _ n (first++cap)) (t1.get .undef) s1.abs|_=>False);rw[hv];exact gK (by rintro ex e σ ⟨rfl,rfl,rfl⟩;exact h8 hH) _ _ (h6 hH)
   | exit i=>exact out aT h1
   | goto i=>exact out aT h1
   | ret=>exact out aT h1
   | panic v=>exact out aT h1
end
def NW(P:Program)(ex:FuncId->Option pY): Prop:= ∀ n f,ex n=some f-> ∀(V:LV) args s K y,f args s K y=true->y=true\/ ∃ r s1,K r s1=true/\cV P n args s.abs fun o σ1=>o = .ret r/\σ1=s1.abs
def Qs{P:Program}{ne:FuncId->Bool}(hne:Ve P ne)(hs:FuncId->Hints)(df:FuncId->Bool){ex:FuncId->Option pY}(hx:NW P ex): ∀(f:Nat) (V:LV) (H:Prop) (Γ : CQ),NV P H Γ-> ∀(n:FuncId) (args:List AV) (s:St) (K:Out->St->Bool),pD P ne hs df ex f Γ n args s K=true-> ∃ o s',K o s'=true/\(H->cV P n args s.abs fun o' σ'=>o'=o/\σ'=s'.abs):=by
 intro f
 induction f with
 | zero=>intro V H Γ hΓ n args s K h;exact no h rfl
 | succ f ih =>
   intro V H Γ hΓ n args s K h;have hc:jm H ⟨P,ne,hs,pD P ne hs df ex f,Γ⟩:=⟨hne,ih,hΓ⟩
   replace h:@Option.rec pY (fun _=>Bool) (Ci P ne hs df (pD P ne hs df ex f) Γ n args s K) (fun f'=>f' args s (fun r s1=>K (.ret r) s1) (Ci P ne hs df (pD P ne hs df ex f) Γ n args s K)) (ex n)=true:=h
   have h:Ci P ne hs df (pD P ne hs df ex f) Γ n args s K=true\/ ∃ r s1,K (.ret r) s1=true/\cV P n args s.abs fun o σ1=>o = .ret r/\σ1=s1.abs:=by
    cases hxn:ex n with
    | some xf =>
      rw[hxn]at h;exact hx n xf hxn _ _ _ _ _ (show xf args s (fun r s1=>K (.ret r) s1) (Ci P ne hs df (pD P ne hs df ex f) Γ n args s K)=true from h)
    | none=>rw[hxn]at h;exact .inl h
   rcases h with h|⟨r,s1,h1,h2⟩
   case inr=>exact⟨.ret r,s1,h1,fun _=>h2⟩
   unfold Ci at h;rw[fD]at h;split at h
   ·generalize hr:aam P hs n=ro at h;cases ro with
    | none=>exact no h rfl
    | some af =>
      cases af with|mk nt rs body =>
      replace h:bK (dY args 0 fun k=>Nat.ble k nt) (jD .undef args 0 .nil fun _ t=>JW body ⟨P,ne,hs,pD P ne hs df ex f,Γ⟩ (xU rs K) (HU ⟨P,ne,hs,pD P ne hs df ex f,Γ⟩ rs K) t s)=true:=h
      rw[aL,j0,d_,au]at h;obtain⟨_,t,h1,e1⟩:=Vf (nt:=nt) h.2;obtain⟨o,s',h2,h3⟩:=X6 hc body t s h1;refine⟨o,s',h2,fun hH=>?_⟩;unfold aam at hr;split at hr
      ·rename_i fn hfn;split at hr
       ·cases hr
       rename_i hnm;refine cV.aeW hfn hnm hr h.1 ?_;rw[<-e1];exact h3 hH
      ·cases hr
   generalize hr:aal P hs n=ro at h;cases ro with
   | none=>exact no h rfl
   | some af =>
     cases af with|mk nt rs body =>
     replace h:bK (dY args 0 fun k=>Nat.ble k nt) (jD .undef args 0 .nil fun _ t=>jr body ⟨P,ne,hs,pD P ne hs df ex f,Γ⟩ (xU rs K) t s)=true:=h
     rw[aL,j0,d_,au]at h;obtain⟨_,t,h1,e1⟩:=Vf (nt:=nt) h.2;obtain⟨x,t1,s1,h2,h3⟩:=Cl hc body _ t s h1;obtain⟨o,h4,h5⟩:=Ll h2;refine⟨o,s1,h4,fun hH=>?_⟩;unfold aal at hr;split at hr
     ·rename_i fn hfn;split at hr
      ·cases hr
      rename_i hnm;refine cV.of_wp hfn hnm hr h.1 ?_;rw[<-e1];exact gK (by rintro ex e σ ⟨rfl,rfl,rfl⟩;exact h5) _ _ (h3 hH)
     ·cases hr
def BA{P:Program}{ne:FuncId->Bool}(hne:Ve P ne)(hs:FuncId->Hints)(df:FuncId->Bool){ex:FuncId->Option pY}(hx:NW P ex){f:Nat}{n:FuncId}{args:List AV}{K:Out->St->Bool}(h:pD P ne hs df ex f [] n args ⟨0,.nil⟩ K=true): ∃ o s',K o s'=true/\cV P n args [] fun o' σ'=>o'=o/\σ'=s'.abs:=by
 obtain⟨o,s',h1,h2⟩:=Qs hne hs df hx f _ True [] (fun _ _ _ hp=>by cases hp) n args ⟨0,.nil⟩ K h;exact⟨o,s',h1,h2 trivial⟩
instance:LV:=⟨fun _=>default⟩
end Go.AM.B
namespace Go.AM
variable {P:Program}
section
variable (e:Env) (σ : ai) (K Kp:AV->ai->Prop) (x y z:AX)
def xT(P:Program)(o:ef)(vs:List AV)(σ : ai){K Kp:AV->ai->Prop}(_:Tg (K,Kp)): Prop:=o.run P vs σ K Kp
@[go_sem ↓] def anN (el:El):bf.run P (.ex (.copy el) [x,y]) e σ K Kp=xT P (.copy el) [x.ev e,y.ev e] σ (.mk:Tg (K,Kp)):=_root_.id rfl
variable (k k':IntKind) (a b:Int) (el:El) (xs ys cs:List AV) (l m lo n o i:Nat) (f f':Bool)
def lkF(v:AV)(σ : ai)(r:Option (Option (Nat × AV))){K:AV->ai->Prop}(_:Tg K): Prop:=match r with
 | some (some (_,u))=>K u σ
 | some none=>K v σ
 | none=>False
def lkO(v q:AV)(σ : ai)(o:Option bG){K:AV->ai->Prop}(t:Tg K): Prop:=match o with
 | some (.map es)=>lkF v σ (fM q es 0) t
 | _=>False
@[go_sem] def XQ (kd : Option IntKind) (v q : AV) : xT P (.Bb kd false v) [.mp l, q] σ (.mk : Tg (K, Kp)) = req (q.nG kd = true) (.mk : Tg (lkO v q σ (σ[l]?) (.mk : Tg K))) := by
  rw[<-eD]
  show(q.nG kd=true/\match σ[l]? with
   | some (.map es) => match fM q es 0 with
     | some (some (_,v))=>K v σ
     | some none=>K v σ
     | none=>False
   | _=>False)=_
  unfold lkO;cases σ[l]? with
  | none=>rfl
  | some ob =>
    cases ob<;>rfl
def msF(l:Nat)(σ : ai)(r:Option (List (AV × AV))){K:AV->ai->Prop}(_:Tg K): Prop:=match r with
 | some es'=>K (.bg []) (σ.set l (.map es'))
 | none=>False
def msO(l:Nat)(q v:AV)(σ : ai)(o:Option bG){K:AV->ai->Prop}(t:Tg K): Prop:=match o with
 | some (.map es)=>msF l σ (uE q v es) t
 | _=>False
@[go_sem] def Qf (kd : Option IntKind) (q v : AV) : xT P (.zZ kd) [.mp l, q, v] σ (.mk : Tg (K, Kp)) = req (q.nG kd = true) (.mk : Tg (msO l q v σ (σ[l]?) (.mk : Tg K))) := by
  rw[<-eD]
  show(q.nG kd=true/\match σ[l]? with
   | some (.map es) => match uE q v es with
     | some es'=>K (.bg []) (σ.set l (.map es'))
     | none=>False
   | _=>False)=_
  unfold msO;cases σ[l]? with
  | none=>rfl
  | some ob =>
    cases ob<;>rfl
def aag(σ : ai)(el:El)(l m lo n:Nat)(ys:List AV)(ob:Option bG){K:AV->ai->Prop}(_:Tg K): Prop:=match ob with
 | some (.bW _ bq xs)=>bq=el/\m=xs.length/\lo+1+n=m/\fE (n+ys.length) el/\K (.own el σ.length (n+ys.length) 0 (n+ys.length)) (σ.set l .dead++[.vec el (xs.drop (lo+1)++ys)])
 | _=>False
end
end Go.AM
namespace Go.Proofs.YtdohdkdejmhgnaaGreatDoor
open Go.AM
set_option maxRecDepth 4000
abbrev UW(n:Int): AV:= .int .u32 n
def o_: List Nat:=[0,274646895,549293790,820201905,1098587580,1361435347,1640403810,1905808397,2197175160,2460548119,2722870694,2987750089,3280807620,3553878443,3811616794,4084100981]
noncomputable def Qt:List AV:=o_.map fun n:Nat=>UW (n:Int)
def H8(c b:Nat): Nat:=Nat.xor (Nat.div (Nat.xor (Nat.div (Nat.xor c b) 16) (o_.getD (Nat.mod (Nat.xor c b) 16) 0)) 16) (o_.getD (Nat.mod (Nat.xor (Nat.div (Nat.xor c b) 16) (o_.getD (Nat.mod (Nat.xor c b) 16) 0)) 16) 0)
def zR: List UInt8->Nat->Nat
 | [],c=>c
 | b::s,c=>zR s (H8 c b.toNat)
def wW{a b:Nat}(ha:a<4294967296)(hb:b<4294967296): ou .xor .u32 (a:Int) (b:Int)=((Nat.xor a b:Nat):Int)/\Nat.xor a b<4294967296:=by
 have h:Nat.xor a b<2^32:=Nat.xor_lt_two_pow (n:=32) ha hb;refine⟨?_,h⟩;rw[kO];unfold jE
 have e:(BitVec.ofInt (IntKind.bits .u32) (a:Int) ^^^ BitVec.ofInt (IntKind.bits .u32) (b:Int)).toNat=Nat.xor a b:=by
  rw[BitVec.toNat_xor];have ea:(BitVec.ofInt 32 (a:Int)).toNat=a:=by rw[BitVec.toNat_ofInt];omega
  have eb:(BitVec.ofInt 32 (b:Int)).toNat=b:=by rw[BitVec.toNat_ofInt];omega
  show(BitVec.ofInt 32 (a:Int)).toNat ^^^ (BitVec.ofInt 32 (b:Int)).toNat=_;rw[ea,eb];rfl
 show IntKind.wrap .u32 ((BitVec.ofInt (IntKind.bits .u32) (a:Int) ^^^ BitVec.ofInt (IntKind.bits .u32) (b:Int)).toNat:Int)=_;rw[e];show((Nat.xor a b:Nat):Int) % 4294967296=_;omega
def M0{a:Nat}(ha:a<4294967296): ou .and .u32 (a:Int) 15=((Nat.mod a 16:Nat):Int):=by
 rw[kO];unfold jE
 have e:(BitVec.ofInt (IntKind.bits .u32) (a:Int) &&& BitVec.ofInt (IntKind.bits .u32) 15).toNat=Nat.mod a 16:=by
  rw[BitVec.toNat_and];have ea:(BitVec.ofInt 32 (a:Int)).toNat=a:=by rw[BitVec.toNat_ofInt];omega
  have eb:(BitVec.ofInt 32 15).toNat=15:=dV;show(BitVec.ofInt 32 (a:Int)).toNat &&& (BitVec.ofInt 32 15).toNat=_;rw[ea,eb];exact Nat.and_two_pow_sub_one_eq_mod a 4
 show IntKind.wrap .u32 ((BitVec.ofInt (IntKind.bits .u32) (a:Int) &&& BitVec.ofInt (IntKind.bits .u32) 15).toNat:Int)=_;rw[e];show((Nat.mod a 16:Nat):Int) % 4294967296=_;have:Nat.mod a 16=a % 16:=rfl;omega
def F6(i:Nat): o_.getD i 0<4294967296:=by
 by_cases h:i<16
 ·have:∀ i:Fin 16,o_.getD i.val 0<4294967296:=dV;exact this ⟨i,h⟩
 rw[aj,eo (by show 16<=i;omega)];decide
def Qu(i:Nat)(h:i<16): Qt.getD i .undef=UW (o_.getD i 0):=by
 unfold Qt;rw[aj,ia,aJ (show i<o_.length from h),aj,aJ (show i<o_.length from h)];rfl
def X7(s:List UInt8)(c:Nat): ∀ q,q<s.length->zR (s.take (q+1)) c=H8 (zR (s.take q) c) (s.getD q 0).toNat:=by
 induction s generalizing c with
 | nil=>intro q h;simp at h
 | cons a s ih =>
   intro q h;cases q with
   | zero=>rfl
   | succ q =>
     show zR (s.take (q+1)) (H8 c a.toNat)=H8 (zR (s.take q) (H8 c a.toNat)) _;rw[ih _ q (by simpa using h)];rfl
def acX{c b:Nat}(hc:c<4294967296)(hb:b<4294967296): H8 c b<4294967296:=by
 have h1:=(wW hc hb).2;have h2:=(wW (a:=Nat.div (Nat.xor c b) 16) (b:=o_.getD (Nat.mod (Nat.xor c b) 16) 0) (by show Nat.xor c b / 16<_;omega) (F6 _)).2;exact(wW (by show Nat.xor _ _ / 16<_;omega) (F6 _)).2
def acY(s:List UInt8): ∀ c,c<4294967296->zR s c<4294967296:=by
 induction s with
 | nil=>intro c h;exact h
 | cons a s ih=>intro c h;exact ih _ (acX h (by have:=a.toNat_lt;omega))
def acZ{c b c1 c2:Nat}(h1:c1=Nat.xor c b)(h2:c2=Nat.xor (Nat.div c1 16) (o_.getD (Nat.mod c1 16) 0)): Nat.xor (Nat.div c2 16) (o_.getD (Nat.mod c2 16) 0)=H8 c b:=by subst h1 h2;rfl
def afx {S : ai} {l : Nat} (hS : S[l]? = some (.cells Qt)) (s : List UInt8) (c : Nat) (hc : c < 4294967296) (hs : s.length <= 1000000) :
    cV aM 455 [.ref l 0,UW c,.str s] S (fun o S'=>o = .ret (UW (zR s c))/\S'=S):=by
 have hcl:Qt.length=16:=rfl;refine WB.go ?_;unfold iC;intro Q aX aY aZ;repeat' first|refine aQ ?_|refine aR ?_ ?_<;>intro hw<;>try omega|fail
 with_reducible refine dA [1,1,7,1,10,28] (fun q:Nat=>[(1,UW (zR (s.take q) c)),(10,I q)]) (fun _=>S) (fun q=>q<=s.length) (fun q=>s.length-q) (0) ?_ ?_ ?_ ?_
 ·simp
 ·rfl
 ·exact at_
 rintro q r hq;try dsimp only at hq
 by_cases h:q<s.length
 ·have hlt:=acY (s.take q) c hc;have hst:=X7 s c q h;obtain⟨x,hx⟩:=gi (zR (s.take q) c);obtain⟨b,hb⟩:=gi ((s.getD q 0).toNat);rw[hx]at hlt hst |-;rw[hb]at hst;have Pf:b<256:=by rw[<-hb];exact(s.getD q 0).toNat_lt
  obtain⟨e1,l1⟩:=wW (a:=x) (b:=b) hlt ae;obtain⟨c1,hc1⟩:∃ c1,c1=Nat.xor x b:=⟨_,rfl⟩;rw[<-hc1]at e1 l1;have m1:Nat.mod c1 16<16:=by show c1 % 16<16;omega
  have d1:Nat.div c1 16<4294967296:=by show c1 / 16<_;omega
  obtain⟨e2,l2⟩:=wW (a:=Nat.div c1 16) (b:=o_.getD (Nat.mod c1 16) 0) d1 (F6 _);obtain⟨c2,hc2⟩:∃ c2,c2=Nat.xor (Nat.div c1 16) (o_.getD (Nat.mod c1 16) 0):=⟨_,rfl⟩;rw[<-hc2]at e2 l2;have m2:Nat.mod c2 16<16:=by show c2 % 16<16;omega
  have d2:Nat.div c2 16<4294967296:=by show c2 / 16<_;omega
  obtain⟨e3,l3⟩:=wW (a:=Nat.div c2 16) (b:=o_.getD (Nat.mod c2 16) 0) d2 (F6 _);have a1:=M0 l1;have a2:=M0 l2;have g1:=Qu _ m1;have g2:=Qu _ m2
  have f1:(c1:Int).fdiv (2 ^ (Int.toNat 4).min 32)=((Nat.div c1 16:Nat):Int):=by
   rw[show (2:Int) ^ (Int.toNat 4).min 32=16 from rfl,eW _ dV];show(c1:Int) / 16=((c1 / 16:Nat):Int);omega
  have f2:(c2:Int).fdiv (2 ^ (Int.toNat 4).min 32)=((Nat.div c2 16:Nat):Int):=by
   rw[show (2:Int) ^ (Int.toNat 4).min 32=16 from rfl,eW _ dV];show(c2:Int) / 16=((c2 / 16:Nat):Int);omega
  have w1:dQ .u32 (b:Int)=b:=by show(b:Int) % 4294967296=b;omega
  have hE:=acZ hc1 hc2;rw[<-hst]at hE;rw[hE]at e3;generalize Nat.mod c1 16=n1 at *;generalize Nat.mod c2 16=n2 at *;generalize Nat.div c1 16=q1 at *;generalize Nat.div c2 16=q2 at *;clear hE hst hx;repeat' first|simp (disch:=omega) only[go_sem,aX,aY,aZ,hS,hb,w1,e1,e2,e3,a1,a2,g1,g2,f1,f2,hcl,fB,Nat.mul_one,bp]|refine aQ ?_|refine aR ?_ ?_<;>intro hw<;>try omega|fail
  refine⟨q+1,?_,?_,?_,fU,?_⟩
  ·dsimp only;omega
  ·dsimp only;omega
  ·rfl
  exact at_
 obtain rfl:q=s.length:=ae;repeat' first|refine aQ ?_|refine aR ?_ ?_<;>intro hw<;>try omega|fail
 refine⟨?_,trivial⟩;rw[cM (aV _)];rfl
def zS: List UInt8->Bool
 | []=>true
 | b::s=>Nat.beq b.toNat 0 && zS s
def J2: ∀(s:List UInt8) (q:Nat),q<s.length->(s.getD q 0).toNat≠0->zS s=false
 | b :: s, 0, _, h => by
   have:Nat.beq b.toNat 0=false:=by rw[Bool.eq_false_iff];intro e;exact h (Nat.eq_of_beq_eq_true e)
   show(Nat.beq b.toNat 0 && zS s)=false;rw[this];rfl
 | b :: s, q + 1, hq, h => by
   show(Nat.beq b.toNat 0 && zS s)=false;rw[J2 s q (by simpa using hq) h,Bool.and_false]
def M1: ∀(s:List UInt8),(∀ q,q<s.length->(s.getD q 0).toNat=0)->zS s=true
 | [],_=>rfl
 | b :: s, h => by
   have h0:b.toNat=0:=h 0 aT;show(Nat.beq b.toNat 0 && zS s)=true;rw[h0,M1 s (fun q hq=>h (q+1) (by simpa using hq))];rfl
def Vg(s:List UInt8)(hs:s.length<=1000000): aA aM 410 [.str s] (.bool (zS s)):=by
 have zf:=J2 s;have zt:=M1 s;generalize zS s=E at *;refine bB Ny ?_;intro Q aX aY aZ;repeat' first|refine aQ ?_|refine aR ?_ ?_<;>intro hw<;>try omega|fail
 with_reducible refine dA [2,2,6,8] (fun q:Nat=>[(6,I q)]) (fun _=>[]) (fun q=>q<=s.length/\ ∀ k,k<q->(s.getD k 0).toNat=0) (fun q=>s.length-q) (0) ?_ ?_ ?_ ?_
 ·simp
 ·rfl
 ·exact at_
 rintro q r ⟨hq,hz⟩;by_cases h:q<s.length
 ·have hf:=zf q h;obtain⟨b,hb⟩:=gi ((s.getD q 0).toNat);rw[hb]at hf;repeat' first|refine fy hb ?_|refine aQ ?_|refine aR ?_ ?_<;>intro hw<;>try omega|fail
  all_goals first
   | exact eu
   |(exact bu (by rw[hf (by simp_all)]) rfl)
   | (refine ⟨q + 1, ⟨ae, fun k hk => ?_⟩, ?_, ?_, fU, ?_⟩
      ·rcases Nat.lt_or_ge k q with e|e
       ·exact hz k e
       obtain rfl:k=q:=ae;rw[hb];simp_all
      ·dsimp only;omega
      ·rfl
      ·exact at_)
 obtain rfl:q=s.length:=ae;obtain rfl:=zt hz;repeat' first|refine aQ ?_|refine aR ?_ ?_<;>intro hw<;>try omega|fail
 all_goals first|exact eu|exact bu rfl rfl
def afy{a b:Nat}(ha:a<4294967296)(hb:b<4294967296): ou .or .u32 (a:Int) (b:Int)=((Nat.lor a b:Nat):Int):=by
 have h:Nat.lor a b<2^32:=Nat.or_lt_two_pow (n:=32) ha hb;rw[kO];unfold jE
 have e:(BitVec.ofInt (IntKind.bits .u32) (a:Int) ||| BitVec.ofInt (IntKind.bits .u32) (b:Int)).toNat=Nat.lor a b:=by
  rw[BitVec.toNat_or];have ea:(BitVec.ofInt 32 (a:Int)).toNat=a:=by rw[BitVec.toNat_ofInt];omega
  have eb:(BitVec.ofInt 32 (b:Int)).toNat=b:=by rw[BitVec.toNat_ofInt];omega
  show(BitVec.ofInt 32 (a:Int)).toNat |||(BitVec.ofInt 32 (b:Int)).toNat=_;rw[ea,eb];rfl
 show IntKind.wrap .u32 ((BitVec.ofInt (IntKind.bits .u32) (a:Int) ||| BitVec.ofInt (IntKind.bits .u32) (b:Int)).toNat:Int)=_;rw[e];show((Nat.lor a b:Nat):Int) % 4294967296=_;omega
def X8{a:Nat}(ha:a<18446744073709551616): ou .and .u64 (a:Int) 31=((Nat.mod a 32:Nat):Int):=by
 rw[kO];unfold jE
 have e:(BitVec.ofInt (IntKind.bits .u64) (a:Int) &&& BitVec.ofInt (IntKind.bits .u64) 31).toNat=Nat.mod a 32:=by
  rw[BitVec.toNat_and];have ea:(BitVec.ofInt 64 (a:Int)).toNat=a:=by rw[BitVec.toNat_ofInt];omega
  have eb:(BitVec.ofInt 64 31).toNat=31:=dV;show(BitVec.ofInt 64 (a:Int)).toNat &&& (BitVec.ofInt 64 31).toNat=_;rw[ea,eb];exact Nat.and_two_pow_sub_one_eq_mod a 5
 show IntKind.wrap .u64 ((BitVec.ofInt (IntKind.bits .u64) (a:Int) &&& BitVec.ofInt (IntKind.bits .u64) 31).toNat:Int)=_;rw[e];show((Nat.mod a 32:Nat):Int) % 18446744073709551616=_;have:Nat.mod a 32=a % 32:=rfl;omega
def Qv(x n:Nat): Nat:=Nat.lor (Nat.mod (Nat.mul x (Nat.pow 2 (Nat.sub 32 n))) 4294967296) (Nat.div x (Nat.pow 2 n))
def Gi(x n:Nat)(hx:x<4294967296)(h1:1<=n)(h2:n<=31): aA aM 420 [UW x,I (-(n:Int))] (UW (Qv x n)):=by
 have e1:dQ .u64 (-(n:Int))=((18446744073709551616-n:Nat):Int):=by show(-(n:Int)) % 18446744073709551616=_;omega
 have e2:=X8 (a:=18446744073709551616-n) ae;rw[show Nat.mod (18446744073709551616-n) 32=32-n by show(18446744073709551616-n) % 32=_;omega]at e2;have e3:dQ .u64 (32-((32-n:Nat):Int))=(n:Int):=by show(32-((32-n:Nat):Int)) % 18446744073709551616=_;omega
 have e4:dQ .u32 ((x:Int)*2 ^ ((32-n).min 32))=((Nat.mod (Nat.mul x (Nat.pow 2 (32-n))) 4294967296:Nat):Int):=by
  rw[show Nat.min (32-n) 32=32-n from Nat.min_eq_left ae];show((x:Int)*2 ^ (32-n)) % 4294967296=((x*2 ^ (32-n) % 4294967296:Nat):Int);rw[Int.natCast_emod,Int.natCast_mul,Int.natCast_pow];rfl
 have e5:(x:Int).fdiv (2 ^ (n.min 32))=((Nat.div x (Nat.pow 2 n):Nat):Int):=by
  rw[show Nat.min n 32=n from Nat.min_eq_left ae,eW _ (by exact Int.le_of_lt (Int.pow_pos dV))];show(x:Int) / 2 ^ n=((x / 2 ^ n:Nat):Int);rw[Int.natCast_ediv,Int.natCast_pow];rfl
 have e6:=afy (a:=Nat.mod (Nat.mul x (Nat.pow 2 (32-n))) 4294967296) (b:=Nat.div x (Nat.pow 2 n)) (Nat.mod_lt _ dV) (Nat.lt_of_le_of_lt (Nat.div_le_self _ _) hx);have hE:Qv x n=Nat.lor (Nat.mod (Nat.mul x (Nat.pow 2 (32-n))) 4294967296) (Nat.div x (Nat.pow 2 n)):=rfl;rw[<-hE]at e6;generalize Qv x n=E at *;generalize Nat.mod (Nat.mul x (Nat.pow 2 (32-n))) 4294967296=q1 at *;generalize Nat.div x (Nat.pow 2 n)=q2 at *;refine bB wz ?_;intro Q aX aY aZ;repeat' first|refine fy (zC e1 e2 e3 (zB e4 e5 e6)) ?_|refine aQ ?_|refine aR ?_ ?_<;>intro hw<;>try omega|fail
 all_goals first|exact bu rfl rfl|skip
def aax(x n:Nat)(hx:x<4294967296)(h1:1<=n)(h2:n<=31): aA aM 381 [UW x,I n] (UW (Qv x n)):=by
 have h1:=Gi x n hx h1 h2;have e:dQ .i64 (0-(n:Int)) = -(n:Int):=by show IntKind.wrap .i64 (0-(n:Int))=_;rw[IntKind.wrap_i64];omega
 have e':dQ .i64 (-(n:Int)) = -(n:Int):=by show IntKind.wrap .i64 (-(n:Int))=_;rw[IntKind.wrap_i64];omega
 refine bB Rb ?_;intro Q aX aY aZ;repeat' first|refine fy (zA e e') ?_|refine aQ ?_|refine aR ?_ ?_<;>intro hw<;>try omega|fail
 all_goals first|exact bu rfl rfl|skip
end Go.Proofs.YtdohdkdejmhgnaaGreatDoor
namespace Go.Proofs
open Go.Shelf Go.RowKit Go.Lib
def pF {P : Program} (w : World) (dT sT ty elem : TypeId) (k n b o dLen dCap : Nat) (a : Addr) (sLen sCap : Nat) (cs : List Value)
    (hu:P.underlying dT=some (.slice elem)) (hs:(P.info? elem).map (·.size)=some k) (hn:n=Nat.min sLen dLen) (hlen:cs.length=n*k)
    (hsrc:∀ j v,cs[j]? = some v->w.cell? (a.add j)=some v) (hc:∀ j,j<cs.length->(w.cell? ⟨b,o+j,none⟩).isSome=true) (hf:∀ j,j<cs.length->w.frozen? ⟨b,o+j,none⟩=false) (h1:∀ v ∈ cs,v.oneCell'=true) :
    (Builtin.copy_ #[dT,sT] ty #[.slice (some ⟨b,o,none⟩) dLen dCap,.slice (some a) sLen sCap]).run P w = .ok (goInt n) (w.setCells b o cs):=by
 have hl:=run_loadCells_list (P:=P) w a cs hsrc;have hst:=run_storeCells_cells (P:=P) b o cs 0 w (by simpa using hc) (by simpa using hf) h1;cases hq:P.info? elem with
 | none=>simp[hq]at hs
 | some i =>
   have hi:i.size=k:=by simpa[hq]using hs
   simp[Builtin.copy_,run_underlying hu,Builtin.lenOf,Builtin.firstCells,sizeOf,typeInfo,hq,hi,<-hn,<-hlen,hl,hst]
def Fh {P : Program} (w : World) (tS tR e : TypeId) (ht : P.underlying tS = some (.slice e)) (size : Nat) (hz : ∀ w, (Go.sizeOf e).run P w = .ok size w)
    (a b:Addr) (la ca lb cb:Nat) (hne:a.block≠b.block) (tA tB:TypeId) (kA kB:Nat)
    (hsa:w.shape? a.block=some (tA,kA)) (hsb:w.shape? b.block=some (tB,kB)) (X9:kA≠0)
    (hfb:w.frozen? b=false) (hfe:w.frozen? { block:=b.block,off:=kB }=false) :
    (Extern.SlicesOverlaps.overlaps #[tS,tS] #[tR] #[.slice (some a) la ca,.slice (some b) lb cb]).run P w = .ok (.bool false) w:=by
 have hnb:(a.block != b.block)=true:=by simpa using hne
 have alN:(a.block==b.block)=false:=by simpa using hne
 change Sem.run P (α:=Value) (do
  let some t := (#[tS, tS] : Array TypeId)[0]? | stuck "slices.overlaps: no parameter types"
  let .slice elem ← underlying t | stuck "slices.overlaps: slice type expected"
  let size ← sizeOf elem
  match(some a:Option Addr),(some b:Option Addr)with
  | some a, some b =>
    if la=0\/lb=0\/size=0 then pure (Value.bool false)
    else if a.block != b.block && (← frozen a) && (← frozen b)then unsupported .addressObserved
    else do
     if a.block != b.block then do
      noView a;noView b
      if ← mayBeOne a b then return Value.bool ((← choose (.extern "sameAddr.stringBytes" 2)) == 1)
     pure (Value.bool (a.block==b.block && a.off<b.off+lb*size && b.off<a.off+la*size))
  | _,_=>pure (Value.bool false)) w=_
 by_cases h0:la=0\/lb=0\/size=0
 ·simp[run_underlying ht,hz,h0]
 ·cases kA with
  | zero=>exact absurd rfl X9
  | succ kA =>
    cases hfa:w.frozen? a<;>cases alO:w.frozen? { block:=a.block,off:=kA+1 } <;>
     simp[run_underlying ht,hz,h0,hnb,alN,frozen,noView,viewAt,mayBeOne,stringish,shape,Sem.run,hsa,hsb,hfb,hfe,hfa,alO]
variable {P:Program} {ρ : Ren}
structure xZ (P:Program) (ρ : Ren) (nm:String) (fo:Func) (zv:Value) (B:Nat):Prop where
 mixed:P.follows .mixedOrders=true
 f22:P.funcs[ρ.f 22]? = some { Body2.n22 ρ with name:=nm }
 f29:P.funcs[ρ.f 29]? = some fo
 n29 : (fo.name == "runtime.NumGoroutine") = false
 b29:fo.body.isNone=true
 o29:Extern.findNext fo=none
 e29:Extern.find fo=some (Extern.SlicesOverlaps.overlaps #[(ρ.t 24),(ρ.t 24)] #[(ρ.t 4)])
 t0:P.underlying (ρ.t 0)=some (TypeDesc.tuple #[])
 a0:∀ w,(isAgg (ρ.t 0)).run P w = .ok false w
 z0:∀ w,(Go.sizeOf (ρ.t 0)).run P w = .ok 1 w
 v0:∀ w,(zeroValue (ρ.t 0)).run P w = .ok (Value.tuple #[]) w
 t3:P.underlying (ρ.t 3)=some (TypeDesc.int IntKind.i64)
 a3:∀ w,(isAgg (ρ.t 3)).run P w = .ok false w
 z3:∀ w,(Go.sizeOf (ρ.t 3)).run P w = .ok 1 w
 v3:∀ w,(zeroValue (ρ.t 3)).run P w = .ok (Value.int IntKind.i64 0) w
 t4:P.underlying (ρ.t 4)=some (TypeDesc.bool)
 a4:∀ w,(isAgg (ρ.t 4)).run P w = .ok false w
 z4:∀ w,(Go.sizeOf (ρ.t 4)).run P w = .ok 1 w
 v4:∀ w,(zeroValue (ρ.t 4)).run P w = .ok (Value.bool false) w
 z9:∀ w,(Go.sizeOf (ρ.t 9)).run P w = .ok 2 w
 t24:P.underlying (ρ.t 24)=some (TypeDesc.slice (ρ.t 9))
 a24:∀ w,(isAgg (ρ.t 24)).run P w = .ok false w
 z24:∀ w,(Go.sizeOf (ρ.t 24)).run P w = .ok 1 w
 v24:∀ w,(zeroValue (ρ.t 24)).run P w = .ok (Value.slice none 0 0) w
 i9:(P.info? (ρ.t 9)).map (fun i=>(i.zero,i.size,i.bytes))=some (some zv,2,B)
 zc:zv.cells.size=2
def uC{e:TypeId}{z:Value}{s b:Nat}(h:(P.info? e).map (fun i=>(i.zero,i.size,i.bytes))=some (some z,s,b)): ∃ i,P.info? e=some i/\i.zero=some z/\i.size=s/\i.bytes=b:=by
 obtain⟨i,hi,hzz⟩:=aW.1 h;simp only[Prod.mk.injEq]at hzz;exact⟨i,hi,hzz.1,hzz.2.1,hzz.2.2⟩
set_option maxRecDepth 100000 in
def X_ {nm : String} {fo : Func} {zv : Value} {B : Nat} (L : xZ P ρ nm fo zv B) (b off n c i vb voff vc : Nat) (cs vs : List Value) (w : World) (hi : i < n) (hroom : n + 1 <= c) (hbig : n + 1 <= 1000000000) (hvb : vb ≠ b)
    (hcl:cs.length=n*2) (hvl:vs.length=2)
    (hcs:∀ j v,cs[j]? = some v->w.cell? ⟨b,off+j,none⟩=some v) (hsp:∀ j,j<(n+1)*2->(w.cell? ⟨b,off+j,none⟩).isSome=true) (hfz:∀ j,w.frozen? ⟨b,j,none⟩=false)
    (hvs:∀ j v,vs[j]? = some v->w.cell? ⟨vb,voff+j,none⟩=some v) (h1c:∀ v ∈ cs,v.oneCell'=true) (h1v:∀ v ∈ vs,v.oneCell'=true)
    (tA tB:TypeId) (kA kB:Nat) (hsa:w.shape? vb=some (tA,kA)) (hsb:w.shape? b=some (tB,kB)) (X9:kA≠0) :
    Calls P (ρ.f 22) #[.slice (some ⟨b,off,none⟩) n c,.int .i64 i,.slice (some ⟨vb,voff,none⟩) 1 vc] w fun e w' =>
     e = .returned (.slice (some ⟨b,off,none⟩) (n+1) c)/\w'=(w.drew.setCells b (off+(i+1)*2) (cs.drop (i*2))).setCells b (off+i*2) vs:=by
 have t0:=L.t0;have a0:=L.a0;have z0:=L.z0;have v0:=L.v0;have t3:=L.t3;have a3:=L.a3;have z3:=L.z3;have v3:=L.v3;have t4:=L.t4;have a4:=L.a4;have z4:=L.z4;have v4:=L.v4;have z9:=L.z9;have t24:=L.t24;have a24:=L.a24;have z24:=L.z24;have v24:=L.v24;have u0:=run_underlying L.t0;have u3:=run_underlying L.t3;have u4:=run_underlying L.t4;have u24:=run_underlying L.t24;have Gv:¬ ((i:Int)=(n:Int)):=ae
 have hsz:(P.info? (ρ.t 9)).map (·.size)=some 2:=by
  obtain⟨i0,xG,h0,h1,h2⟩:=uC L.i9;rw[xG];simp[h1]
 have hov:∀ lb cb,(callFunc (ρ.f 29) #[.slice (some ⟨vb,voff,none⟩) 1 vc,.slice (some ⟨b,off+(i+1)*2,none⟩) lb cb]).run P w = .ok (.value (.bool false)) w:=fun lb cb=>by
  rw[run_callFunc_extern L.f29 L.n29 L.b29 L.o29 L.e29,
   Fh w (ρ.t 24) (ρ.t 4) (ρ.t 9) L.t24 2 L.z9 ⟨vb,voff,none⟩ ⟨b,off+(i+1)*2,none⟩ 1 vc lb cb hvb tA tB kA kB hsa hsb X9 (hfz _) (hfz _)]
  rfl
 have yE:(cs.drop (i*2)).length=(n-i)*2:=by rw[e8,hcl];omega
 have mixed:=L.mixed;have hw1:IntKind.i64.wrap ((i:Int)+1)=(i:Int)+1:=by rw[IntKind.wrap_i64];omega
 have hw2:IntKind.i64.wrap ((n:Int)+1)=(n:Int)+1:=by rw[IntKind.wrap_i64];omega
 have vJ:(0:Int)<=(i:Int)+1:=ae;have hin:i<=n:=ae;have htn:((i:Int)+1).toNat=i+1:=ae;have jw:¬ (c=i+1):=ae;have xF:(i:Int)<=(n:Int)+1:=ae;have Sz:¬ (c=i):=ae
 have afz:∀ ty dc sc,(Builtin.copy_ #[(ρ.t 24),(ρ.t 24)] ty #[.slice (some ⟨b,off+(i+1)*2,none⟩) (n-i) dc,.slice (some ⟨b,off+i*2,none⟩) (n+1-i) sc]).run P w.drew = .ok (goInt (n-i:Nat)) (w.drew.setCells b (off+(i+1)*2) (cs.drop (i*2))):=fun ty dc sc =>
  pF w.drew _ _ ty (ρ.t 9) 2 (n-i) b (off+(i+1)*2) (n-i) dc ⟨b,off+i*2,none⟩ (n+1-i) sc (cs.drop (i*2)) L.t24 hsz (by simp only[Nat.min_def];split<;>omega) yE
   (fun j v hj=>by rw[Addr.add_lit,bP];exact hcs (i*2+j) v (by rwa[fK]at hj))
   (fun j hj=>by rw[bP];exact hsp _ ae) (fun j hj=>hfz _) (fun v hv=>h1c v (List.mem_of_mem_drop hv))
 obtain⟨W1,CV⟩:∃ W1,W1=w.drew.setCells b (off+(i+1)*2) (cs.drop (i*2)):=⟨_,rfl⟩
 have alP:∀ k,k<(n+1)*2->(W1.cell? ⟨b,off+k,none⟩).isSome=true:=fun k hk=>by
  rw[CV];exact isSome_setCells b _ _ _ (fun j hj=>by rw[bP];exact hsp _ ae) _ (hsp k hk)
 have alQ:∀ (W:World),(∀ x,W.cell? x=W1.cell? x)->(∀ x,W.frozen? x=W1.frozen? x)-> ∀ ty dc,(Builtin.copy_ #[(ρ.t 24),(ρ.t 24)] ty #[.slice (some ⟨b,off+i*2,none⟩) (n+1-i) dc,.slice (some ⟨vb,voff,none⟩) 1 vc]).run P W = .ok (goInt (1:Nat)) (W.setCells b (off+i*2) vs):=fun W M3 Ya ty dc =>
  pF W _ _ ty (ρ.t 9) 2 1 b (off+i*2) (n+1-i) dc ⟨vb,voff,none⟩ 1 vc vs L.t24 hsz (by simp only[Nat.min_def];split<;>omega) hvl
   (fun j v hj => by
     rw[Addr.add_lit,M3,CV,World.cell?_setCells_out b _ _ _ _ (fun h _=>absurd h hvb)];exact hvs j v hj)
   (fun j hj=>by rw[M3,bP];exact alP _ ae) (fun j hj=>by rw[Ya,CV,World.frozen?_setCells];exact hfz _) h1v
 rw[<-CV]at afz
 go_enter L.f22,Body2.n22_ntmps ρ
 go_wp2_with (simp only[hov])
 go_region_law_o (refine step_copy_runI rfl _ _ (ρ.t 24) (ρ.t 24) rfl _ _ (by simp[Act.eval,Act.put]) (by simp[Act.eval,Act.put]) (afz _ _ _) ?_)
 go_wp2_with (at_builtin;refine wpList_copy_runI _ rfl _ _ (ρ.t 24) (ρ.t 24) rfl _ _ rfl rfl (alQ _ (fun _=>rfl) (fun _=>rfl) _ _) ?_)
 go_ret
 first|exact⟨rfl,rfl⟩|exact⟨rfl,by rw[CV]⟩
set_option maxRecDepth 100000 in
def Qw {nm : String} {fo : Func} {zv : Value} {B : Nat} (L : xZ P ρ nm fo zv B) (b off n c vb voff vc : Nat) (vs : List Value) (w : World) (hroom : n + 1 <= c) (hbig : n + 1 <= 1000000000)
    (hvl:vs.length=2) (hsp:∀ j,j<2->(w.cell? ⟨b,off+n*2+j,none⟩).isSome=true) (hfz:∀ j,w.frozen? ⟨b,j,none⟩=false)
    (hvs:∀ j v,vs[j]? = some v->w.cell? ⟨vb,voff+j,none⟩=some v) (h1v:∀ v ∈ vs,v.oneCell'=true) :
    Calls P (ρ.f 22) #[.slice (some ⟨b,off,none⟩) n c,.int .i64 n,.slice (some ⟨vb,voff,none⟩) 1 vc] w fun e w' =>
     e = .returned (.slice (some ⟨b,off,none⟩) (n+1) c)/\w'=w.setCells b (off+n*2) vs:=by
 have t0:=L.t0;have a0:=L.a0;have z0:=L.z0;have v0:=L.v0;have t3:=L.t3;have a3:=L.a3;have z3:=L.z3;have v3:=L.v3;have t4:=L.t4;have a4:=L.a4;have z4:=L.z4;have v4:=L.v4;have z9:=L.z9;have t24:=L.t24;have a24:=L.a24;have z24:=L.z24;have v24:=L.v24;have u0:=run_underlying L.t0;have u3:=run_underlying L.t3;have u4:=run_underlying L.t4;have u24:=run_underlying L.t24;have mixed:=L.mixed;obtain⟨i0,xG,VP,hzs,Yb⟩:=uC L.i9
 have hsrc:Src P i0.size (ρ.t 24) (.slice (some ⟨vb,voff,none⟩) 1 vc) 1 vs w:=by
  rw[hzs];exact Src.ofSlice w L.t24 ⟨vb,voff,none⟩ 1 vc vs ae (fun j u hj=>by rw[Addr.add_lit];exact hvs j u hj) h1v
 have hrun:∀ ty,(Builtin.append_ #[(ρ.t 24),(ρ.t 24)] ty #[.slice (some ⟨b,off,none⟩) n c,.slice (some ⟨vb,voff,none⟩) 1 vc]).run P w = .ok (.slice (some ⟨b,off,none⟩) (n+1) c) (w.setCells b (off+n*2) vs):=fun ty=>by
  have h:=run_append_room_src w (ρ.t 24) (ρ.t 24) ty (ρ.t 9) i0 L.t24 xG b off n c _ 1 vs hsrc hroom (by rw[hzs,hvl];exact hsp) (fun j _=>hfz _);rw[hzs]at h;exact h
 go_enter L.f22,Body2.n22_ntmps ρ
 go_wp2_with (at_builtin;refine Lib.wpList_append_run _ rfl _ _ _ _ rfl _ _ rfl rfl _ _ (hrun _) ?_)
 go_ret
 exact⟨rfl,rfl⟩
set_option maxRecDepth 100000 in
def Fi {nm : String} {fo : Func} {zv : Value} {B : Nat} (L : xZ P ρ nm fo zv B) {Z : Array Value} (hZ : zv.cells = Z) (hB : B <= 72) (base : Option Addr) (n c vb voff vc : Nat) (cs vs : List Value) (w : World) (hnc : n <= c) (hroom : c < n + 1) (hbig : n + 1 <= 1000000000)
    (hcl:cs.length=n*2) (hvl:vs.length=2) (hnil:base=none->n=0)
    (hcs:∀ a,base=some a-> ∀ j v,cs[j]? = some v->w.cell? (a.add j)=some v)
    (hvs:∀ j v,vs[j]? = some v->w.cell? ⟨vb,voff+j,none⟩=some v) (h1v:∀ v ∈ vs,v.oneCell'=true) :
    Calls P (ρ.f 22) #[.slice base n c,.int .i64 n,.slice (some ⟨vb,voff,none⟩) 1 vc] w fun e w' =>
     e = .returned (.slice (some ⟨w.heap.size,0,none⟩) (n+1) (grownCap w (n+1) c (ρ.t 9))) /\
     w'=w.drew.alloc (.cells ((cs++vs).toArray++Builtin.zeroCells Z (grownCap w (n+1) c (ρ.t 9)-(n+1))) (ρ.t 9)):=by
 have t0:=L.t0;have a0:=L.a0;have z0:=L.z0;have v0:=L.v0;have t3:=L.t3;have a3:=L.a3;have z3:=L.z3;have v3:=L.v3;have t4:=L.t4;have a4:=L.a4;have z4:=L.z4;have v4:=L.v4;have z9:=L.z9;have t24:=L.t24;have a24:=L.a24;have z24:=L.z24;have v24:=L.v24;have u0:=run_underlying L.t0;have u3:=run_underlying L.t3;have u4:=run_underlying L.t4;have u24:=run_underlying L.t24;have mixed:=L.mixed;obtain⟨i0,xG,VP,hzs,Yb⟩:=uC L.i9
 have hsrc:Src P i0.size (ρ.t 24) (.slice (some ⟨vb,voff,none⟩) 1 vc) 1 vs w:=by
  rw[hzs];exact Src.ofSlice w L.t24 ⟨vb,voff,none⟩ 1 vc vs ae (fun j u hj=>by rw[Addr.add_lit];exact hvs j u hj) h1v
 have hold:(Builtin.firstCells i0.size n (.slice base n c)).run P w.drew = .ok cs.toArray w.drew:=by
  rw[hzs];cases base with
  | none =>
    have h0:=hnil rfl;subst h0;rw[eP.1 (show cs.length=0 by omega)];exact run_firstCells_none w.drew 2 0 0 c
  | some a=>exact run_firstCells_some w.drew 2 n a n c cs ae (fun j v hj=>hcs a rfl j v hj)
 have hrun:∀ ty,(Builtin.append_ #[(ρ.t 24),(ρ.t 24)] ty #[.slice base n c,.slice (some ⟨vb,voff,none⟩) 1 vc]).run P w = .ok (.slice (some ⟨w.heap.size,0,none⟩) (n+1) (grownCap w (n+1) c (ρ.t 9))) (w.drew.alloc (.cells ((cs++vs).toArray++Builtin.zeroCells Z (grownCap w (n+1) c (ρ.t 9)-(n+1))) (ρ.t 9))):=fun ty=>by
  rw[<-hZ];exact run_append_grow_src w (ρ.t 24) (ρ.t 24) ty (ρ.t 9) i0 _ L.t24 xG VP base n c cs hold _ 1 vs hsrc hroom ae (by rw[Yb];exact growslice_fits hroom (bS (Nat.mul_le_mul hbig hB) ae))
 go_enter L.f22,Body2.n22_ntmps ρ
 cases base with
 | none =>
   have h0:=hnil rfl;subst h0
   go_wp2_with (at_builtin;refine Lib.wpList_append_run _ rfl _ _ _ _ rfl _ _ rfl rfl _ _ (hrun _) ?_)
   go_ret
   exact⟨rfl,rfl⟩
 | some a =>
   obtain⟨ab,ao,asp⟩:=a
   go_wp2_with (at_builtin;refine Lib.wpList_append_run _ rfl _ _ _ _ rfl _ _ rfl rfl _ _ (hrun _) ?_)
   all_goals (go_ret;exact⟨rfl,rfl⟩)
set_option maxRecDepth 100000 in
def aay {nm : String} {fo : Func} {zv : Value} {B : Nat} (L : xZ P ρ nm fo zv B) {Z : Array Value} (hZ : zv.cells = Z) (hB : B <= 72) (b off n c i vb voff vc : Nat) (cs vs : List Value) (w : World) (hi : i < n) (hnc : n <= c) (hroom : c < n + 1) (hbig : n + 1 <= 1000000000)
    (hcl:cs.length=n*2) (hvl:vs.length=2)
    (hcs:∀ j v,cs[j]? = some v->w.cell? ⟨b,off+j,none⟩=some v)
    (hvs:∀ j v,vs[j]? = some v->w.cell? ⟨vb,voff+j,none⟩=some v) (h1c:∀ v ∈ cs,v.oneCell'=true) (h1v:∀ v ∈ vs,v.oneCell'=true) :
    Calls P (ρ.f 22) #[.slice (some ⟨b,off,none⟩) n c,.int .i64 i,.slice (some ⟨vb,voff,none⟩) 1 vc] w fun e w' =>
     e = .returned (.slice (some ⟨w.heap.size,0,none⟩) (n+1) (grownCap w (n+1) c (ρ.t 9))) /\
     w'=(((w.alloc (.cells ((cs.take (i*2)).toArray++Builtin.zeroCells Z (n+1-i)++Builtin.zeroCells Z (grownCap w (n+1) c (ρ.t 9)-(n+1))) (ρ.t 9))).drew.setCells w.heap.size (i*2) vs).drew).setCells w.heap.size ((i+1)*2) (cs.drop (i*2)):=by
 have t0:=L.t0;have a0:=L.a0;have z0:=L.z0;have v0:=L.v0;have t3:=L.t3;have a3:=L.a3;have z3:=L.z3;have v3:=L.v3;have t4:=L.t4;have a4:=L.a4;have z4:=L.z4;have v4:=L.v4;have z9:=L.z9;have t24:=L.t24;have a24:=L.a24;have z24:=L.z24;have v24:=L.v24;have u0:=run_underlying L.t0;have u3:=run_underlying L.t3;have u4:=run_underlying L.t4;have u24:=run_underlying L.t24;have mixed:=L.mixed;obtain⟨i0,xG,VP,hzs,Yb⟩:=uC L.i9;have Oe:Z.size=2:=hZ ▸ L.zc;have Gv:¬ ((i:Int)=(n:Int)):=ae;have hz3:(c:Int)<(n:Int)+1:=ae;have hsz:(P.info? (ρ.t 9)).map (·.size)=some 2:=by rw[xG];simp[hzs]
 have hbw:b<w.heap.size:=block_lt_of_cell (hcs 0 _ (aJ ae));have SA:vb<w.heap.size:=block_lt_of_cell (hvs 0 _ (aJ ae));have hkk:(n:Int)+1-(i:Int)=((n+1-i:Nat):Int):=ae;have hik:i+(n+1-i)=n+1:=ae
 have hold:(Builtin.firstCells i0.size i (.slice (some ⟨b,off,none⟩) i c)).run P w.drew = .ok (cs.take (i*2)).toArray w.drew:=by
  rw[hzs]
  exact run_firstCells_some w.drew 2 i ⟨b,off,none⟩ i c (cs.take (i*2)) (by rw[dH];omega) (fun j v hj=>by
   rw[Addr.add_lit];rw[dX]at hj;split at hj
   ·exact hcs j v hj
   ·cases hj)
 have hrz:∀ ty,(Builtin.append_ #[(ρ.t 24),(ρ.t 3)] ty #[.slice (some ⟨b,off,none⟩) i c,.int .i64 ((n:Int)+1-(i:Int))]).run P w =
  .ok (.slice (some ⟨w.heap.size,0,none⟩) (n+1) (grownCap w (n+1) c (ρ.t 9))) (w.drew.alloc (.cells ((cs.take (i*2)).toArray++Builtin.zeroCells Z (n+1-i)++Builtin.zeroCells Z (grownCap w (n+1) c (ρ.t 9)-(n+1))) (ρ.t 9))):=fun ty=>by
  have h:=Lib.run_append_grow_zeros w (ρ.t 24) (ρ.t 3) ty (ρ.t 9) i0 _ .i64 .i64 L.t24 L.t3 xG VP (some ⟨b,off,none⟩) i c (cs.take (i*2)) hold (n+1-i) ae ae ae ae (by rw[Yb];exact bS (Nat.mul_le_mul (show n+1-i<=1000000000 by omega) hB) ae) (by rw[Yb,hik];exact growslice_fits hroom (bS (Nat.mul_le_mul hbig hB) ae));rw[hik,hZ]at h;rw[hkk];exact h
 obtain⟨G,hG⟩:∃ G,G=grownCap w (n+1) c (ρ.t 9):=⟨_,rfl⟩;obtain⟨oP,H9⟩:∃ oP:Array Value,oP=(cs.take (i*2)).toArray++Builtin.zeroCells Z (n+1-i)++Builtin.zeroCells Z (G-(n+1)):=⟨_,rfl⟩;rw[<-hG]at hrz |-;rw[<-H9]at hrz |-;have Gx:∀ k,(Builtin.zeroCells Z k).size=k*2:=fun k=>by simp[Builtin.zeroCells,Oe]
 have hRl:(n+1)*2<=oP.size:=by
  rw[H9];simp only[iO,Gx,eM,dH];omega
 obtain⟨W1,CV⟩:∃ W1,W1=w.drew.alloc (.cells oP (ρ.t 9)):=⟨_,rfl⟩;rw[<-CV]at hrz
 have hN:∀ j,j<(n+1)*2->(W1.cell? ⟨w.heap.size,j,none⟩).isSome=true:=fun j hj=>by
  rw[CV,World.cell?_alloc_at (w:=w.drew) oP _ w.heap.size j rfl,Array.getElem?_eq_getElem ae];rfl
 have hNf:∀ j,W1.frozen? ⟨w.heap.size,j,none⟩=false:=fun j=>by rw[CV];exact World.frozen?_alloc_at (w:=w.drew) oP _ w.heap.size j rfl
 have hOb:∀ j v,w.cell? ⟨b,j,none⟩=some v->W1.cell? ⟨b,j,none⟩=some v:=fun j v h=>by rw[CV,World.cell?_alloc_past (w:=w.drew) _ b j hbw];exact h
 have hOv:∀ j v,w.cell? ⟨vb,j,none⟩=some v->W1.cell? ⟨vb,j,none⟩=some v:=fun j v h=>by rw[CV,World.cell?_alloc_past (w:=w.drew) _ vb j SA];exact h
 have alR:∀ (W:World),(∀ x,W.cell? x=W1.cell? x)->(∀ x,W.frozen? x=W1.frozen? x)-> ∀ ty dc,(Builtin.copy_ #[(ρ.t 24),(ρ.t 24)] ty #[.slice (some ⟨w.heap.size,i*2,none⟩) (n+1-i) dc,.slice (some ⟨vb,voff,none⟩) 1 vc]).run P W = .ok (goInt (1:Nat)) (W.setCells w.heap.size (i*2) vs):=fun W M3 Ya ty dc =>
  pF W _ _ ty (ρ.t 9) 2 1 w.heap.size (i*2) (n+1-i) dc ⟨vb,voff,none⟩ 1 vc vs L.t24 hsz (by simp only[Nat.min_def];split<;>omega) hvl
   (fun j v hj=>by rw[Addr.add_lit,M3];exact hOv _ v (hvs j v hj))
   (fun j hj=>by rw[M3];exact hN _ ae) (fun j hj=>by rw[Ya];exact hNf _) h1v
 have hGn:n+1<=G:=by rw[hG];exact grownCap_ge w _ _ _
 have aog:G<=9223372036854775807:=by
  have:=grownCap_le_maxLen w (n+1) c (ρ.t 9) (by unfold maxLen;omega);rw[<-hG]at this;unfold maxLen at this;omega
 have hGi:¬ (G=i):=ae;have aoh:¬ (G=i+1):=ae;have hci:¬ (c=i):=ae;have hbN:b≠w.heap.size:=ae;have yE:(cs.drop (i*2)).length=(n-i)*2:=by rw[e8,hcl];omega
 have afA:∀ (W:World),(∀ x,W.cell? x=(W1.setCells w.heap.size (i*2) vs).cell? x)->(∀ x,W.frozen? x=(W1.setCells w.heap.size (i*2) vs).frozen? x)-> ∀ ty dc sc,(Builtin.copy_ #[(ρ.t 24),(ρ.t 24)] ty #[.slice (some ⟨w.heap.size,(i+1)*2,none⟩) (n-i) dc,.slice (some ⟨b,off+i*2,none⟩) (n-i) sc]).run P W = .ok (goInt (n-i:Nat)) (W.setCells w.heap.size ((i+1)*2) (cs.drop (i*2))):=fun W M3 Ya ty dc sc =>
  pF W _ _ ty (ρ.t 9) 2 (n-i) w.heap.size ((i+1)*2) (n-i) dc ⟨b,off+i*2,none⟩ (n-i) sc (cs.drop (i*2)) L.t24 hsz (by simp only[Nat.min_def];split<;>omega) yE
   (fun j v hj => by
     rw[Addr.add_lit,M3,World.cell?_setCells_out _ _ _ _ _ (fun h _=>absurd h hbN),bP];exact hOb _ v (hcs (i*2+j) v (by rwa[fK]at hj)))
   (fun j hj=>by rw[M3];exact isSome_setCells _ _ _ _ (fun t ht=>hN _ ae) _ (hN _ ae))
   (fun j hj=>by rw[Ya,World.frozen?_setCells];exact hNf _) (fun v hv=>h1c v (List.mem_of_mem_drop hv))
 subst CV;have uL:∀ x,((w.alloc (.cells oP (ρ.t 9))).drew).cell? x=(w.drew.alloc (.cells oP (ρ.t 9))).cell? x:=fun x=>rfl;have hE2:∀ x,((w.alloc (.cells oP (ρ.t 9))).drew).frozen? x=(w.drew.alloc (.cells oP (ρ.t 9))).frozen? x:=fun x=>rfl;have hF1:∀ x,(((w.alloc (.cells oP (ρ.t 9))).drew.setCells w.heap.size (i*2) vs).drew).cell? x=((w.drew.alloc (.cells oP (ρ.t 9))).setCells w.heap.size (i*2) vs).cell? x:=fun x=>rfl;have hF2:∀ x,(((w.alloc (.cells oP (ρ.t 9))).drew.setCells w.heap.size (i*2) vs).drew).frozen? x=((w.drew.alloc (.cells oP (ρ.t 9))).setCells w.heap.size (i*2) vs).frozen? x:=fun x=>rfl;have hw1:IntKind.i64.wrap ((i:Int)+1)=(i:Int)+1:=by rw[IntKind.wrap_i64];omega
 have hw2:IntKind.i64.wrap ((n:Int)+1)=(n:Int)+1:=by rw[IntKind.wrap_i64];omega
 have vJ:(0:Int)<=(i:Int)+1:=ae;have hin:i<=n:=ae;have htn:((i:Int)+1).toNat=i+1:=ae;have xF:(i:Int)<=(n:Int):=ae;clear hkk hik hold H9 hG hRl Gx hZ
 go_enter L.f22,Body2.n22_ntmps ρ
 go_wp2_with (first
  |(at_builtin;refine Lib.wpList_append_run _ rfl _ _ _ _ rfl _ _ rfl rfl _ _ (hrz _) ?_)
  |(at_builtin;refine wpList_copy_runI _ rfl _ _ (ρ.t 24) (ρ.t 24) rfl _ _ rfl rfl (alR _ uL hE2 _ _) ?_)
  |(at_builtin;refine wpList_copy_runI _ rfl _ _ (ρ.t 24) (ρ.t 24) rfl _ _ rfl rfl (afA _ (fun _=>rfl) (fun _=>rfl) _ _ _) ?_))
 go_region_law_o (refine step_copy_runI rfl _ _ (ρ.t 24) (ρ.t 24) rfl (.slice (some ⟨w.heap.size,(i+1)*2,none⟩) (n-i) (G-(i+1))) (.slice (some ⟨b,off+i*2,none⟩) (n-i) (c-i)) (by simp[Act.eval,Act.put]) (by simp[Act.eval,Act.put]) (afA _ hF1 hF2 (ρ.t 3) (G-(i+1)) (c-i)) ?_)
 go_wp2
 go_ret
 exact⟨rfl,rfl⟩
end Go.Proofs
namespace Go.AM
open Go.Proofs Go.Shelf Go.RowKit Go.Lib
abbrev nu: El:=⟨true,2⟩
def mY(w:World)(b:Nat)(us:List Value): ∀ o,w.setCells b o us=setRow w b o us:=by
 induction us generalizing w with
 | nil=>intro o;rfl
 | cons u us ih=>intro o;rw[World.setCells,setRow,ih]
def y_ {g : aC} {w : World} {xs : List AV} {x : AV} {i n : Nat} {cF uF aF : Nat -> Value} (hn : xs.length = n) (hi : i <= n)
    (h:∀ k c,k<n->c<2->VR g w ((xs.getD k .undef).cell c) (cF (k*2+c))) (hu:∀ c,c<2->VR g w (x.cell c) (uF c))
    (ha:∀ j,j<(n+1)*2->aF j=if j<i*2 then cF j else if j<i*2+2 then uF (j-i*2)else cF (j-2)) :
    ∀ k c,k<n+1->c<2->VR g w (((xs.take i++x::xs.drop i).getD k .undef).cell c) (aF (k*2+c)):=by
 intro k c hk hc;rw[ha _ ae];have hl:(xs.take i).length=i:=by simp;omega
 rcases Nat.lt_trichotomy k i with h1|h1|h1
 ·rw [aB ae, show (xs.take i ++ x :: xs.drop i).getD k .undef = xs.getD k .undef by
   rw[aj,aO ae,dX,aB h1,aj]]
  exact h k c ae hc
 ·subst h1
  rw[aq ae,aB ae,show(xs.take k++x::xs.drop k).getD k .undef=x by
   rw[aj,bx ae,hl];simp,show k*2+c-k*2=c by omega]
  exact hu c hc
 obtain⟨j,rfl⟩:∃ j,k=j+1:=⟨k-1,ae⟩
 rw[aq ae,aq ae,show(xs.take i++x::xs.drop i).getD (j+1) .undef=xs.getD j .undef by
  rw[aj,bx ae,hl,show j+1-i=(j-i)+1 by omega,cR,fK,show i+(j-i)=j by omega,aj],
  show(j+1)*2+c-2=j*2+c by omega]
 exact h j c ae hc
def aaz {xs : List AV} {x : AV} {i n : Nat} {el : El} (hn : xs.length = n) (hi : i <= n) (h : ∀ k, k < n -> (xs.getD k .undef).fits el = true) (hx : x.fits el = true) :
    ∀ k,k<(xs.take i++x::xs.drop i).length->((xs.take i++x::xs.drop i).getD k .undef).fits el=true:=by
 intro k hk;rw[aG,aE,dH,e8]at hk;have hl:(xs.take i).length=i:=by simp;omega
 rcases Nat.lt_trichotomy k i with h1|h1|h1
 ·rw [show (xs.take i ++ x :: xs.drop i).getD k .undef = xs.getD k .undef by
   rw[aj,aO ae,dX,aB h1,aj]]
  exact h k ae
 ·subst h1
  rw[show (xs.take k++x::xs.drop k).getD k .undef=x by
   rw[aj,bx ae,hl];simp]
  exact hx
 obtain⟨j,rfl⟩:∃ j,k=j+1:=⟨k-1,ae⟩
 rw[show (xs.take i++x::xs.drop i).getD (j+1) .undef=xs.getD j .undef by
  rw[aj,bx ae,hl,show j+1-i=(j-i)+1 by omega,cR,fK,show i+(j-i)=j by omega,aj]]
 exact h j ae
def ajz{vs:Array Value}(h:3=vs.size): vs = #[vs.getD 0 Go.undef,vs.getD 1 Go.undef,vs.getD 2 Go.undef]:=by
 apply Array.ext
 ·simp[<-h]
 intro i h1 h2;simp at h2;obtain rfl|rfl|rfl:i=0\/i=1\/i=2:=ae;all_goals simp[<-h]
def A4 {g : aC} {w w' : World} {σ : ai} {l n i : Nat} {xs : List AV} {x : AV} (hR : Rel g w σ) (hl : σ[l]? = some (.vec nu xs)) (hn : xs.length = n) (hi : i <= n) (hv : g.ver l = n)
    (hfx:∀ k,k<n->(xs.getD k .undef).fits nu=true) (hx:x.fits nu=true)
    {nb off cap:Nat} {arr:Array Value} (hsz:w.heap.size<=w'.heap.size) (hos:w'.os=w.os) (rV:w'.tape=w.tape) (hout:w'.output=w.output)
    (mu:∀ b,b<w.heap.size->g.base l≠some b->w'.heap[b]? = w.heap[b]?) (hnb:g.base l=some nb\/w.heap.size<=nb) (hrow:qF nu w' nb arr) (ha:arr.size=off+cap*2) (hc:n+1<=cap)
    (hh:∀ g',jQ g w g' w'-> ∀ k c,k<n+1->c<2->VR g' w' (((xs.take i++x::xs.drop i).getD k .undef).cell c) (arr.getD (off+(k*2+c)) Go.undef)) :
    ∃ g', Rel g' w' (σ.set l (.vec nu (xs.take i ++ x :: xs.drop i))) /\ ep σ g w (σ.set l (.vec nu (xs.take i ++ x :: xs.drop i))) g' w' /\
      VR g' w' (.own nu l (n+1) 0 (n+1)) (.slice (some ⟨nb,off,none⟩) (n+1) cap):=by
 have hlen:(xs.take i++x::xs.drop i).length=n+1:=by simp;omega
 have Xl:l<g.n:=by rw[<-hR.len];exact(aK.1 hl).1
 obtain⟨r1,r2⟩:=hR.change (o':= .vec nu (xs.take i++x::xs.drop i)) (w':=w') hl rfl (n+1) (some nb) cap off ae (fun e=>by omega) hsz hos rV hout mu
  (fun b hb=>by cases hb;exact hnb)
  (fun hm => ⟨by simp [aC.reset, hlen], aaz hn hi hfx hx, .inr ⟨nb, arr, by simp [aC.reset], hrow, by simp [aC.reset, ha], by simp only [aC.reset, if_true]; omega, fun k c hk lg => by
    simp only[aC.reset,if_true];have:=hh _ hm k c ae lg;rw[show off+k*2+c=off+(k*2+c) by omega];exact this,trivial⟩⟩)
 exact⟨_,r1,r2,.own _ _ _ _ _ _ ⟨Xl,by simp[aC.reset],_,_,rfl,fun _=>⟨ae,by simp[aC.reset],fun _=>by simp[aC.reset]⟩⟩⟩
def Yc{w:World}{b:Nat}{vs:Array Value}(h:Row w b vs): ∃ T,w.shape? b=some (T,vs.size):=by
 obtain⟨T,fz,h1,_⟩:=h;exact⟨T,by simp only[World.shape?,h1]⟩
def Vh{w:World}{b o:Nat}(h:(w.cell? ⟨b,o,none⟩).isSome=true): ∃ T k,w.shape? b=some (T,k)/\k≠0:=by
 simp only[World.cell?]at h;simp only[World.shape?];cases hq:w.heap[b]? with
 | none=>rw[hq]at h;cases h
 | some o' =>
   rw[hq]at h;cases o' with
   | cells vs T fz =>
     refine⟨T,vs.size,rfl,fun e=>?_⟩;simp at h;omega
   | _=>cases h
variable {P:Program} {ρ : Ren}
def aaA {nm : String} {fo : Func} {zv : Value} {B : Nat} {Z : Array Value} (L : xZ P ρ nm fo zv B) (hZ : zv.cells = Z) (hB : B <= 72) (hH : Has P (ρ.f 22)) {σ : ai} {l i : Nat} {xs : List AV} {x : AV} {f : Bool}
    (hl : σ[l]? = some (.vec nu xs)) (hi:i<=xs.length) (hbig:xs.length+1<=1000000) :
    cV P (ρ.f 22) [.own nu l xs.length 0 xs.length,.int .i64 i,.aH f nu [x]] σ fun o σ'=>o = .ret (.own nu l (xs.length+1) 0 (xs.length+1))/\σ' = σ.set l (.vec nu (xs.take i++x::xs.drop i)):=by
 refine⟨hH,fun g w vs hR hlen hv=>?_⟩;have v0:=hv 0 aT;have v1:=hv 1 aT;have v2:=hv 2 aT;rw[ajz hlen];generalize vs.getD 0 Go.undef=a at v0;generalize vs.getD 1 Go.undef=b1 at v1;generalize vs.getD 2 Go.undef=c1 at v2;simp only[cC,gu]at v0 v1 v2;cases v1
 obtain⟨vb,voff,H_,rfl,sV,ft,hcv,R9⟩:∃ vb voff H_,c1 = .slice (some ⟨vb,voff,none⟩) 1 H_/\g.eS vb/\x.fits nu=true /\
  (∀ c,c<2->(w.cell? ⟨vb,voff+c,none⟩).isSome=true)/\(∀ c,c<2->VR g w (x.cell c) (dn w ⟨vb,voff+c,none⟩)):=by
  generalize hy:AV.aH f nu [x]=y at v2;cases v2<;>cases hy;rename_i b off cap hi hf hx ft hc h;exact⟨b,off,cap,rfl,hi,by simpa using ft 0 aT,fun c h2=>by simpa using hc 0 c aT h2,fun c h2=>by simpa using h 0 c aT h2⟩
 obtain⟨us,vG⟩:∃ us:List Value,us=[dn w ⟨vb,voff+0,none⟩,dn w ⟨vb,voff+1,none⟩]:=⟨_,rfl⟩;have G2:us.length=2:=by rw[vG];rfl
 have hug:∀ c,c<2->us.getD c Go.undef=dn w ⟨vb,voff+c,none⟩:=fun c hc=>by
  rw[vG];obtain rfl|rfl:c=0\/c=1:=ae;all_goals rfl
 have Yd:∀ j v,us[j]? = some v->w.cell? ⟨vb,voff+j,none⟩=some v:=fun j v hj=>by
  have vF:j<2:=by have:=(aK.1 hj).1;omega
  have e1:=hug j vF;rw[aj,hj]at e1;have e1:v=dn w ⟨vb,voff+j,none⟩:=e1;rw[e1];unfold dn;obtain⟨u,hu⟩:=eJ.1 (hcv j vF);rw[hu];rfl
 have S6:∀ c,c<2->VR g w (x.cell c) (us.getD c Go.undef):=fun c hc=>by rw[hug c hc];exact R9 c hc
 have Aa:∀ v ∈ us,v.oneCell'=true:=fun v hv=>by
  have:=lJ (g:=g) (w:=w) (el:=nu) (xs:=[x]) (us:=us.toArray) (fun k c hk hc=>by
   have DR:k=0:=by simp at hk;omega
   subst DR;have:=S6 c hc;simpa using this) (by simp[G2]) (fun k hk=>by
   have DR:k=0:=by simp at hk;omega
   subst DR;simpa using ft) v (by simpa using hv)
  exact this
 cases v0;rename_i h0;obtain⟨q1,q2,A,cap,rfl,q3⟩:=h0;obtain⟨o1,o2,o3⟩:=hR.ok l _ hl;obtain⟨q4,q5,q6⟩:=q3 o1.symm;obtain⟨n,hn⟩:∃ n,n=xs.length:=⟨_,rfl⟩;rw[<-hn]at hi hbig o1 o2 o3 q4 |-;have q5':cap=g.cap l:=ae;rcases Nat.eq_zero_or_pos cap with hc0|hc0
 ·
  have Gy:n=0:=by
   rcases o3 with⟨e,_⟩|⟨_,_,_,_,_,h5,_⟩
   ·rw[e]at hn;exact hn
   omega
  have xG:i=0:=ae;subst Gy xG hc0;have hx0:xs=[]:=eA hn.symm;subst hx0;refine(Fi L hZ hB A 0 0 vb voff H_ [] us w (aV _) ae ae rfl G2 (fun _=>rfl) (fun _ _ j v hj=>by simp at hj) Yd Aa).mono ?_;rintro e w' ⟨rfl,rfl⟩;have hG:=grownCap_ge w (0+1) 0 (ρ.t 9);generalize grownCap w (0+1) 0 (ρ.t 9)=G at hG |-;have Oe:Z.size=2:=hZ ▸ L.zc
  obtain⟨g',r1,r2,r3⟩:=A4 (i:=0) (x:=x) (n:=0) (xs:=[]) (w':=w.drew.alloc (.cells (([]++us).toArray++Builtin.zeroCells Z (G-(0+1))) (ρ.t 9))) (nb:=w.heap.size) (off:=0) (cap:=G) (arr:=([]++us).toArray++Builtin.zeroCells Z (G-(0+1))) hR hl rfl (aV _) o1 o2 ft aT rfl rfl rfl
   (fun b hb _=>heap_alloc_old w.drew _ hb) (.inr (aV _)) (mF _ w.drew _ _) (by simp[Builtin.zeroCells,Oe,G2];omega) ae
   (fun g' hm k c hk hc => by
     have DR:k=0:=ae;subst DR;have:=(S6 c hc).mono hm
     have e:(([]++us).toArray++Builtin.zeroCells Z (G-(0+1))).getD (0+(0*2+c)) Go.undef=us.getD c Go.undef:=by
      rw[bQ,bT (by simp;omega)];simp
     rw[e];exact this)
  exact⟨.ret _,g',_,r1,r2,r3,rfl,rfl⟩
 rcases o3 with⟨_,_,h4,_⟩|⟨b,arr,b1,b2,b3,b4,b5,_⟩
 ·omega
 have q7:=q6 ae;rw[b1]at q7;simp only[cB]at q7;subst q7;have hsz:arr.size=g.off l+cap*2:=by rw[b3,q5']
 have hb0:vb≠b:=fun e=>hR.qy l b ⟨_,hl,rfl⟩ b1 (e ▸ sV);obtain⟨cs,hcs⟩:∃ cs,cs=(arr.toList.drop (g.off l)).take (n*2):=⟨_,rfl⟩;have an7:n*2<=cap*2:=ae;have hcl:cs.length=n*2:=by rw[hcs];simp;omega
 have Ac:∀ j,j<n*2->cs[j]? = some (arr.getD (g.off l+j) Go.undef):=fun j hj=>by
  have h1:g.off l+j<arr.size:=ae;rw[hcs,dX,aB hj,fK,eN,bQ,Array.getElem?_eq_getElem h1];rfl
 have gQ:∀ j v,cs[j]? = some v->w.cell? ⟨b,g.off l+j,none⟩=some v:=fun j v hj=>by
  have vF:j<n*2:=by have:=(aK.1 hj).1;omega
  rw[Ac j vF]at hj;cases hj;exact b2.cell ae
 have Qx:∀ k c,k<n->c<2->VR g w ((xs.getD k .undef).cell c) (arr.getD (g.off l+(k*2+c)) Go.undef):=fun k c hk hc=>by
  have:=b5 k c hk hc;rw[show g.off l+k*2+c=g.off l+(k*2+c) by omega]at this;exact this
 have hc1:∀ v ∈ cs,v.oneCell'=true:=fun v hv=>by
  refine lJ (g:=g) (w:=w) (el:=nu) (xs:=xs) (us:=cs.toArray) (fun k c hk hc=>?_) (by simp[hcl,hn]) (fun k hk=>o2 k ae) v (by simpa using hv)
  rw[show cs.toArray.getD (k*2+c) Go.undef=arr.getD (g.off l+(k*2+c)) Go.undef by
   rw[bQ,dO,Ac _ (by have:c<2:=hc;omega)];rfl]
  exact Qx k c ae hc
 have hfz:=fun j=>b2.2 rfl j;simp only[Nat.zero_mul,dP];by_cases hroom:n+1<=cap
 ·have hsp:∀ j,j<(n+1)*2->(w.cell? ⟨b,g.off l+j,none⟩).isSome=true:=fun j hj=>by rw[b2.cell ae];rfl
  rcases Nat.lt_or_ge i n with hin|hin
  ·obtain⟨tA,kA,hsa,X9⟩:=Vh (hcv 0 ae);obtain⟨tB,hsb⟩:=Yc b2.1;refine(X_ L b (g.off l) n cap i vb voff H_ cs us w hin hroom ae hb0 hcl G2 gQ hsp hfz Yd hc1 Aa tA tB kA arr.size hsa hsb X9).mono ?_;rintro e w' ⟨rfl,rfl⟩;rw[mY,mY];obtain⟨f1,f2,f3,f4,f5⟩:=jt w.drew b (g.off l+(i+1)*2) (cs.drop (i*2));obtain⟨k1,k2,k3,k4,k5⟩:=jt (setRow w.drew b (g.off l+(i+1)*2) (cs.drop (i*2))) b (g.off l+i*2) us;have hrow:qF nu w.drew b arr:=b2.of_heap rfl;have yE:(cs.drop (i*2)).length=(n-i)*2:=by rw[e8,hcl];omega
   obtain⟨g',r1,r2,r3⟩:=A4 (i:=i) (x:=x) (nb:=b) (off:=g.off l) (cap:=cap) hR hl hn.symm hi o1 o2 ft (Nat.le_of_eq (f1.symm.trans k1.symm)) (k2.trans f2) (k3.trans f3) (k4.trans f4)
    (fun c hc hne=>(k5 c (fun e=>hne (e ▸ b1))).trans (f5 c (fun e=>hne (e ▸ b1)))) (.inl b1) ((hrow.setRow _ _).setRow _ _) (by rw[size_putRow,size_putRow];exact hsz) hroom
    (fun g' hm k c hk hc => by
      refine y_ (uF:=fun c=>us.getD c Go.undef) (cF:=fun j=>arr.getD (g.off l+j) Go.undef) (aF:=fun j=>(putRow (putRow arr (g.off l+(i+1)*2) (cs.drop (i*2))) (g.off l+i*2) us).getD (g.off l+j) Go.undef) hn.symm hi (fun k c hk hc=>(Qx k c hk hc).mono hm) (fun c hc=>(S6 c hc).mono hm) (fun j hj=>?_) k c hk hc;show(putRow (putRow arr (g.off l+(i+1)*2) (cs.drop (i*2))) (g.off l+i*2) us).getD (g.off l+j) Go.undef=_;rw[jd _ _ _ (by rw[size_putRow];omega),jd _ _ _ ae];by_cases h1:j<i*2
      ·rw[aq ae,aq ae,aB h1]
      ·by_cases h2:j<i*2+2
       ·rw[aB ae,aq h1,aB h2,show g.off l+j-(g.off l+i*2)=j-i*2 by omega]
       ·rw[aq ae,aB ae,aq h1,aq h2,aj,fK,Ac _ ae,show g.off l+(i*2+(g.off l+j-(g.off l+(i+1)*2)))=g.off l+(j-2) by omega];rfl)
   exact⟨.ret _,g',_,r1,r2,r3,rfl,rfl⟩
  have WQ:i=n:=ae;subst WQ;refine(Qw L b (g.off l) i cap vb voff H_ us w hroom ae G2 (fun j hj=>by rw[bP];exact hsp _ ae) hfz Yd Aa).mono ?_;rintro e w' ⟨rfl,rfl⟩;rw[mY];obtain⟨f1,f2,f3,f4,f5⟩:=jt w b (g.off l+i*2) us
  obtain⟨g',r1,r2,r3⟩:=A4 (i:=i) (x:=x) (nb:=b) (off:=g.off l) (cap:=cap) hR hl hn.symm hi o1 o2 ft (Nat.le_of_eq f1.symm) f2 f3 f4
   (fun c hc hne=>f5 c (fun e=>hne (e ▸ b1))) (.inl b1) (b2.setRow _ _) (by rw[size_putRow];exact hsz) hroom
   (fun g' hm k c hk hc => by
     refine y_ (uF:=fun c=>us.getD c Go.undef) (cF:=fun j=>arr.getD (g.off l+j) Go.undef) (aF:=fun j=>(putRow arr (g.off l+i*2) us).getD (g.off l+j) Go.undef) hn.symm hi (fun k c hk hc=>(Qx k c hk hc).mono hm) (fun c hc=>(S6 c hc).mono hm) (fun j hj=>?_) k c hk hc;show(putRow arr (g.off l+i*2) us).getD (g.off l+j) Go.undef=_;rw[jd _ _ _ ae];by_cases h1:j<i*2
     ·rw[aq ae,aB h1]
     ·rw[aB ae,aq h1,aB ae,show g.off l+j-(g.off l+i*2)=j-i*2 by omega])
  exact⟨.ret _,g',_,r1,r2,r3,rfl,rfl⟩
 have hbw:b<w.heap.size:=b2.lt;have Oe:Z.size=2:=hZ ▸ L.zc;have Gx:∀ k,(Builtin.zeroCells Z k).size=k*2:=fun k=>by simp[Builtin.zeroCells,Oe]
 rcases Nat.lt_or_ge i n with hin|hin
 ·refine(aay L hZ hB b (g.off l) n cap i vb voff H_ cs us w hin ae ae ae hcl G2 gQ Yd hc1 Aa).mono ?_;rintro e w' ⟨rfl,rfl⟩;rw[mY,mY];have hG:=grownCap_ge w (n+1) cap (ρ.t 9);generalize grownCap w (n+1) cap (ρ.t 9)=G at hG |-;obtain⟨oP,H9⟩:∃ oP:Array Value,oP=(cs.take (i*2)).toArray++Builtin.zeroCells Z (n+1-i)++Builtin.zeroCells Z (G-(n+1)):=⟨_,rfl⟩;rw[<-H9]
  have hRs:oP.size=G*2:=by
   rw[H9];simp only[iO,Gx,eM,dH];omega
  have hRg:∀ j,j<i*2->oP.getD j Go.undef=arr.getD (g.off l+j) Go.undef:=fun j hj=>by
   rw[H9,bQ,bT (by simp only[iO,Gx,eM,dH];omega),bT (by simp;omega),dO,dX,aB hj,Ac j ae];rfl
  obtain⟨W,hW⟩:∃ W,W=(w.alloc (.cells oP (ρ.t 9))).drew:=⟨_,rfl⟩;rw[<-hW];have hWs:w.heap.size<=W.heap.size:=by rw[hW];show w.heap.size<=(w.alloc _).heap.size;simp
  have hWo:∀ c,c<w.heap.size->W.heap[c]? = w.heap[c]?:=fun c hc=>by rw[hW];exact heap_alloc_old w _ hc
  have hWr:qF nu W w.heap.size oP:=by rw[hW];exact(mF _ w oP _).of_heap rfl
  have hW2:W.os=w.os/\W.tape=w.tape/\W.output=w.output:=by rw[hW];exact⟨rfl,rfl,rfl⟩
  clear hW;obtain⟨f1,f2,f3,f4,f5⟩:=jt W w.heap.size (i*2) us;obtain⟨k1,k2,k3,k4,k5⟩:=jt (setRow W w.heap.size (i*2) us).drew w.heap.size ((i+1)*2) (cs.drop (i*2));have yE:(cs.drop (i*2)).length=(n-i)*2:=by rw[e8,hcl];omega
  have ajA:qF nu (setRow W w.heap.size (i*2) us).drew w.heap.size (putRow oP (i*2) us):=(hWr.setRow _ _).of_heap rfl
  obtain⟨g',r1,r2,r3⟩:=A4 (i:=i) (x:=x) (nb:=w.heap.size) (off:=0) (cap:=G) hR hl hn.symm hi o1 o2 ft (bS hWs (Nat.le_of_eq (f1.symm.trans k1.symm))) (k2.trans (f2.trans hW2.1)) (k3.trans (f3.trans hW2.2.1)) (k4.trans (f4.trans hW2.2.2))
   (fun c hc hne=>(k5 c ae).trans ((f5 c ae).trans (hWo c hc))) (.inr (aV _)) (ajA.setRow _ _) (by rw[size_putRow,size_putRow];omega) hG
   (fun g' hm k c hk hc => by
     refine y_ (uF:=fun c=>us.getD c Go.undef) (cF:=fun j=>arr.getD (g.off l+j) Go.undef) (aF:=fun j=>(putRow (putRow oP (i*2) us) ((i+1)*2) (cs.drop (i*2))).getD (0+j) Go.undef) hn.symm hi (fun k c hk hc=>(Qx k c hk hc).mono hm) (fun c hc=>(S6 c hc).mono hm) (fun j hj=>?_) k c hk hc;show(putRow (putRow oP (i*2) us) ((i+1)*2) (cs.drop (i*2))).getD (0+j) Go.undef=_;rw[bp,jd _ _ _ (by rw[size_putRow];omega),jd _ _ _ ae];by_cases h1:j<i*2
     ·rw[aq ae,aq ae,aB h1];exact hRg j h1
     ·by_cases h2:j<i*2+2
      ·rw[aq ae,aB ae,aq h1,aB h2]
      ·rw[aB ae,aq h1,aq h2,aj,fK,Ac _ ae,show g.off l+(i*2+(j-(i+1)*2))=g.off l+(j-2) by omega];rfl)
  exact⟨.ret _,g',_,r1,r2,r3,rfl,rfl⟩
 have WQ:i=n:=ae;subst WQ;refine(Fi L hZ hB (some ⟨b,g.off l,none⟩) i cap vb voff H_ cs us w ae ae ae hcl G2 (fun e=>by cases e) (fun a ha j v hj=>by cases ha;rw[Addr.add_lit];exact gQ j v hj) Yd Aa).mono ?_;rintro e w' ⟨rfl,rfl⟩;have hG:=grownCap_ge w (i+1) cap (ρ.t 9);generalize grownCap w (i+1) cap (ρ.t 9)=G at hG |-
 obtain⟨g',r1,r2,r3⟩:=A4 (i:=i) (x:=x) (w':=w.drew.alloc (.cells ((cs++us).toArray++Builtin.zeroCells Z (G-(i+1))) (ρ.t 9))) (nb:=w.heap.size) (off:=0) (cap:=G) (arr:=(cs++us).toArray++Builtin.zeroCells Z (G-(i+1))) hR hl hn.symm hi o1 o2 ft aT rfl rfl rfl
  (fun b hb _=>heap_alloc_old w.drew _ hb) (.inr (aV _)) (mF _ w.drew _ _) (by simp only[iO,Gx,eM,aG];omega) hG
  (fun g' hm k c hk hc => by
    refine y_ (uF:=fun c=>us.getD c Go.undef) (cF:=fun j=>arr.getD (g.off l+j) Go.undef) (aF:=fun j=>((cs++us).toArray++Builtin.zeroCells Z (G-(i+1))).getD (0+j) Go.undef) hn.symm hi (fun k c hk hc=>(Qx k c hk hc).mono hm) (fun c hc=>(S6 c hc).mono hm) (fun j hj=>?_) k c hk hc;show((cs++us).toArray++Builtin.zeroCells Z (G-(i+1))).getD (0+j) Go.undef=_;rw[bp,bQ,bT (by simp only[eM,aG];omega),dO];by_cases h1:j<i*2
    ·rw[aB h1,aO ae,Ac j h1];rfl
    ·rw[aq h1,aB ae,bx ae,hcl,aj])
 exact⟨.ret _,g',_,r1,r2,r3,rfl,rfl⟩
end Go.AM
namespace Go.AM
open Go.Proofs Go.Shelf
namespace B
noncomputable def abi:AV->(El->Nat->Nat->Nat->Nat->Bool)->Bool :=
 @AV.rec (fun _=>(El->Nat->Nat->Nat->Nat->Bool)->Bool) (fun _=>PUnit)
  (fun _=>false)
  (fun _ _=>false)
  (fun _ _ _=>false)
  (fun _ _=>false)
  (fun _ _ _=>false)
  (fun _ _ _=>false)
  (fun _=>false)
  (fun _ _ _ _ _=>false)
  (fun el l m lo n K=>K el l m lo n)
  (fun _ _ _=>false)
  (fun _ _ _ _ _=>false)
  (fun _ _ _ _ _ _=>false)
  (fun _=>false)
  (fun _=>false)
  (fun _=>false)
  (fun _ _ _ _ _ _=>false)
  (fun _ _ _ _=>false)
  (fun _=>false)
  (fun _ _=>false)
  (fun _ _=>false)
  (fun _ _ _ _ _=>false)
  (fun _=>false)
  ⟨⟩ (fun _ _ _ _=>⟨⟩)
noncomputable def abj:AV->(El->List AV->Bool)->Bool :=
 @AV.rec (fun _=>(El->List AV->Bool)->Bool) (fun _=>PUnit)
  (fun _=>false)
  (fun _ _=>false)
  (fun _ _ _=>false)
  (fun _ _=>false)
  (fun _ _ _=>false)
  (fun _ _ _=>false)
  (fun _=>false)
  (fun _ el xs _ K=>K el xs)
  (fun _ _ _ _ _ _=>false)
  (fun _ _ _=>false)
  (fun _ _ _ _ _=>false)
  (fun _ _ _ _ _ _=>false)
  (fun _=>false)
  (fun _=>false)
  (fun _=>false)
  (fun _ _ _ _ _ _=>false)
  (fun _ _ _ _=>false)
  (fun _=>false)
  (fun _ _=>false)
  (fun _ _=>false)
  (fun _ _ _ _ _=>false)
  (fun _=>false)
  ⟨⟩ (fun _ _ _ _=>⟨⟩)
noncomputable def abk (l:List AV) (K:AV->Bool):Bool:=@List.rec AV (fun _=>(AV->Bool)->Bool) (fun _=>false) (fun a r _ K=>bK (fA r) (K a)) l K
def aaB{x:AV}{K:El->Nat->Nat->Nat->Nat->Bool}(h:abi x K=true): ∃ el l m lo n,x = .own el l m lo n/\K el l m lo n=true:=by cases x<;>first|exact absurd (show false=true from h) Bool.false_ne_true|exact⟨_,_,_,_,_,rfl,h⟩
def aaC{x:AV}{K:El->List AV->Bool}(h:abj x K=true): ∃ f el xs,x = .aH f el xs/\K el xs=true:=by cases x<;>first|exact absurd (show false=true from h) Bool.false_ne_true|exact⟨_,_,_,rfl,h⟩
def aaD{l:List AV}{K:AV->Bool}(h:abk l K=true): ∃ a,l=[a]/\K a=true:=by
 match l,h with
 | [],h=>exact absurd (show false=true from h) gP
 | [a],h=>exact⟨a,rfl,h⟩
 | a::b::r,h=>exact absurd (show false=true from h) gP
noncomputable def Ia:pY:=fun args s K _=>xR args fun a b c=>abi a fun el l m lo n=>bK (eF el nu) (bK (Nat.beq lo 0) (bK (Nat.beq n m) (ek b fun k z=>bK (jl .i64 k) (jW z fun i=>fN i fun i=>bK (Nat.ble i m) (bK (Nat.ble (Nat.succ m) 1000000)
 (abj c fun aS ys=>bK (eF aS nu) (abk ys fun x=>kR nu l m s fun T t=>bK (uA T) (fN (Nat.sub m i) fun d=>lO .undef d i t fun tl=>jD .undef (x::tl) i t fun _ t'=>fN (Nat.succ m) fun k'=>s.di l (.vec none nu k' t') fun s'=>K (.own nu l k' 0 k') s'))))))))
def zU {P : Program} {ρ : Ren} {nm : String} {fo : Func} {zv : Value} {Bz : Nat} (L : xZ P ρ nm fo zv Bz) (hB : Bz <= 72) (hH : Has P (ρ.f 22)) [LV] (args : List AV) (s : St) (K : AV -> St -> Bool) (y : Bool) (h : Ia args s K y = true) :
    ∃ r s1,K r s1=true/\cV P (ρ.f 22) args s.abs fun o σ1=>o = .ret r/\σ1=s1.abs:=by
 obtain⟨a,b,c,rfl,h1⟩:=u7 h;obtain⟨el,l,m,lo,n,rfl,h2⟩:=aaB h1;rw[aL,dZ,aL,aL,gg,gg]at h2;obtain⟨rfl,rfl,rfl,h3⟩:=h2;obtain⟨k,z,rfl,h4⟩:=eY h3;rw[aL,ik]at h4;obtain⟨rfl,h5⟩:=h4;obtain⟨hz,h6⟩:=jP h5;rw[ig,aL,aL,d_,d_,au,au]at h6;obtain⟨hi,hm,h7⟩:=h6;obtain⟨f,aS,ys,rfl,h8⟩:=aaC h7;rw[aL,dZ]at h8;obtain⟨rfl,h9⟩:=h8;obtain⟨x,rfl,h10⟩:=aaD h9;obtain⟨T,t,ho,h11⟩:=kT h10;rw[aL,rS,ig,lH]at h11;obtain⟨rfl,h12⟩:=h11;obtain⟨i,hiz⟩:∃ i,i=z.toNat:=⟨_,rfl⟩;rw[<-hiz]at hi h12;obtain rfl:z=(i:Int):=ae;obtain⟨t',MY,h14⟩:=Fa _ _ _ _ _ h12;have MY:(fN (Nat.succ n) fun k'=>s.di l (.vec none nu k' t') fun s'=>K (.own nu l k' 0 k') s')=true:=MY;rw[ig]at MY;obtain⟨s',h15,h16⟩:=St.fx MY;refine⟨_,s',h16,?_⟩;obtain⟨xs,hxs⟩:∃ xs,xs=aH AV.undef 0 n t:=⟨_,rfl⟩;have hxl:xs.length=n:=by rw[hxs];exact bZ ..
 have hxg:∀ j,j<n->xs.getD j .undef=t.get .undef j:=fun j hj=>by rw[hxs,rO _ hj,bp]
 rw[<-hxs]at ho;have hc:=aaA L rfl hB hH (f:=f) (x:=x) ho (by omega:i<=xs.length) ae;rw[hxl]at hc;refine hc.mono ?_;rintro o σ' ⟨rfl,rfl⟩;refine⟨rfl,?_⟩;rw[h15];show _=s.abs.set l (.bW none nu (aH .undef 0 (Nat.succ n) t'));have hgl:(aH AV.undef i (n-i) t).length=n-i:=bZ ..
 rw[AY (l:=xs.take i++x::xs.drop i) AV.undef (by simp;omega) fun j hj=>by
  rw[h14];have hl2:(xs.take i).length=i:=by simp;omega
  rcases Nat.lt_trichotomy j i with e|e|e
  ·rw[aq ae,aj,aO ae,dX,aB e,<-aj,hxg j ae]
  ·subst e;rw[aB ⟨aV _,aT⟩,aj,aj,bx ae,hl2];simp
  ·obtain⟨q,rfl⟩:∃ q,j=q+1:=⟨j-1,ae⟩
   rw[aB ⟨ae,by rw[aE];have:(aH AV.undef i (Nat.sub n i) t).length=n-i:=bZ ..;omega⟩,aj,aj,bx ae,hl2,show q+1-i=(q-i)+1 by omega,cR,cR,fK,show i+(q-i)=q by omega,
    ← aj,← aj,hxg q ae,rO AV.undef (show q-i<Nat.sub n i by show q-i<n-i;omega),show i+(q-i)=q by omega]]
noncomputable def Vi (L:List (List AV × AV)) (args:List AV) (K:AV->Bool) (y:Bool):Bool:=@List.rec (List AV × AV) (fun _=>Bool) y (fun p _ ih=>@Prod.rec (List AV) AV (fun _=>Bool) (fun a r=>iK (jy (rN 40) args a) (K r) ih) p) L
def aaE{L:List (List AV × AV)}{args:List AV}{K:AV->Bool}{y:Bool}(h:Vi L args K y=true): y=true\/ ∃ p ∈ L,args=p.1/\K p.2=true:=by
 induction L with
 | nil=>exact .inl h
 | cons p L ih =>
   obtain⟨a,r⟩:=p;have h:iK (jy (rN 40) args a) (K r) (Vi L args K y)=true:=h;rw[fD]at h;split at h
   ·rename_i he;exact .inr ⟨_,List.mem_cons_self ..,xY (u9 40) _ _ he,h⟩
   rcases ih h with h|⟨p,h1,h2⟩
   ·exact .inl h
   exact .inr ⟨p,cP _ h1,h2⟩
noncomputable def er (L:List (List AV × AV)):pY:=fun args s K y=>Vi L args (fun r=>K r s) y
def cH {P : Program} {n : FuncId} {L : List (List AV × AV)} (hL : ∀ p ∈ L, aA P n p.1 p.2) [LV] (args : List AV) (s : St) (K : AV -> St -> Bool) (y : Bool) (h : er L args s K y = true) :
    y=true\/ ∃ r s1,K r s1=true/\cV P n args s.abs fun o σ1=>o = .ret r/\σ1=s1.abs:=by
 rcases aaE h with h|⟨p,h1,rfl,h2⟩
 ·exact .inl h
 exact .inr ⟨_,s,h2,hL p h1 _⟩
end B
end Go.AM
namespace Go.Proofs.YtdohdkdejmhgnaaGreatDoor
open Go.AM
def ajB: List (Nat × Hints):=[(6,⟨[],[],[(8900060,⟨false,1⟩)],[],[],[]⟩),(8,⟨[],[],[],[],[100060],[]⟩),(10,⟨[],[],[(10,⟨true,6⟩)],[],[],[]⟩),(18,⟨[],[],[(6,⟨true,2⟩)],[],[],[]⟩),(25,⟨[],[],[(3000026,⟨false,1⟩),(3000032,⟨false,1⟩),(5000102,⟨true,0⟩),(9000077,⟨false,1⟩)],[],[100029],[(10,0)]⟩),(48,⟨[],[],[],[],[56,61],[]⟩),(57,⟨[],[],[],[],[],[(11,0),(13,1)]⟩),(69,⟨[],[],[(9,⟨false,1⟩)],[],[],[]⟩),(75,⟨[],[],[],[9],[],[]⟩),(89,⟨[],[],[(5,⟨false,1⟩)],[],[],[]⟩),(90,⟨[],[],[(5,⟨false,1⟩)],[],[],[]⟩),(99,⟨[],[],[],[6],[],[]⟩),(102,⟨[],[],[(5,⟨true,3⟩)],[],[],[]⟩),(105,⟨[],[],[(5,⟨false,1⟩)],[],[],[]⟩),(113,⟨[],[],[(5,⟨false,1⟩)],[],[],[]⟩),(114,⟨[],[],[],[14],[],[]⟩),(128,⟨[],[],[(11,⟨false,1⟩)],[],[],[]⟩),(129,⟨[],[],[(3,⟨false,1⟩)],[],[],[]⟩),(131,⟨[],[],[(6,⟨false,1⟩)],[],[],[]⟩),(150,⟨[],[],[],[14],[],[]⟩),(161,⟨[],[28],[],[],[],[]⟩),(163,⟨[],[],[(10,⟨true,3⟩)],[],[],[]⟩),(184,⟨[],[],[],[8],[],[]⟩),(187,⟨[],[52,61,82],[],[],[],[]⟩),(207,⟨[],[],[(5,⟨false,1⟩)],[],[],[]⟩),(209,⟨[],[],[(5,⟨false,1⟩)],[],[],[]⟩),(210,⟨[],[],[(3,⟨true,2⟩)],[],[],[]⟩),(226,⟨[],[27],[],[],[],[]⟩),(246,⟨[],[12],[],[],[71,87],[]⟩),(248,⟨[],[13],[],[],[],[]⟩),(278,⟨[],[],[],[14],[],[]⟩),(305,⟨[],[48],[],[],[],[]⟩),(324,⟨[],[],[(5,⟨true,4⟩)],[],[],[]⟩),(330,⟨[],[],[(7,⟨false,1⟩)],[],[],[]⟩),(345,⟨[],[12],[],[],[],[]⟩),(347,⟨[],[12],[],[],[],[]⟩),(357,⟨[],[],[],[3],[],[]⟩),(387,⟨[],[],[],[],[106],[]⟩),(393,⟨[],[],[(5,⟨true,4⟩)],[],[],[]⟩),(395,⟨[],[],[],[],[20],[]⟩),(400,⟨[],[],[(7,⟨false,1⟩)],[],[],[]⟩),(437,⟨[],[],[],[],[58],[]⟩),(440,⟨[],[],[],[12],[],[]⟩),(458,⟨[],[],[(4,⟨false,1⟩)],[],[],[]⟩),(462,⟨[],[],[],[],[16],[]⟩)]
def za(n:FuncId): Hints:=match ajB.lookup n with|some h=>h|none=>⟨[],[],[],[],[],[]⟩
def zb(n:FuncId): Bool:=Nat.beq n 106 || Nat.beq n 124 || Nat.beq n 25 || Nat.beq n 27
def Ye(n:FuncId): Bool:=Nat.beq n 313
def J3: B.Ve Tryz.prog Ye:=by
 intro f h;obtain rfl:f=313:=Nat.eq_of_beq_eq_true h;exact⟨_,Tryz.func313,b_,b_,b_,b_⟩
def aaF{P:Program}{f:FuncId}{args:List AV}{σ U:ai}{R R':Out->ai->Prop}(h:cV P f args σ R)(e : σ = U)(hr:∀ o σ',R o σ'->R' o σ'): cV P f args U R':=e ▸ h.mono hr
def strings_Repeat(s:List UInt8)(m:Nat)(h1:m<=1000000)(h2:s.length*m<=1000000): aA aM 75 [.str s,.int .i64 m] (.str (Lib.repeatL s m)):=by
 refine l8 ⟨_,Tryz.func75,b_,b_⟩ fun g w σ vs hR hl hv=>?_;have h3:=hv 0 aT;have h4:=hv 1 aT;rw[Ju hl];generalize vs.getD 0 Go.undef=v at h3;generalize vs.getD 1 Go.undef=u at h4;simp only[cC,gu]at h3 h4;cases h3;cases h4;refine⟨.string ⟨(Lib.repeatL s m).toArray⟩,fun g' w'=>VR.str _,(Tryz.strings_Repeat ⟨s.toArray⟩ m w ae (by show s.toArray.size*m<=_;rw[eM];omega)).mono ?_⟩;rintro e w' ⟨rfl,h⟩;refine⟨?_,h.os,h.tape,h.output,h.size,h.block⟩;simp
abbrev Lm:=List AV->B.St->(AV->Bool)->Bool
noncomputable def Yf (f:Lm):B.pY:=fun args s K _=>f args s fun r=>K r s
noncomputable def Qy:Lm:=fun args _ K=>B.rM args fun a b=>B.jc a fun t=>B.ek b fun k z=>B.bK (B.jl .i64 k) (B.jW z fun m=>B.dY t 0 fun n=>B.bK (Nat.ble m 1000000) (B.bK (Nat.ble (Nat.mul n m) 1000000) (K (.str (Lib.repeatL t m)))))
def RG[B.LV](args:List AV)(s:B.St)(K:AV->Bool)(h:Qy args s K=true): ∃ r,K r=true/\mD aM 75 args s.abs r:=by
 obtain⟨a,b,rfl,h1⟩:=B.p7 h;obtain⟨t,rfl,h2⟩:=B.jB h1;obtain⟨k,z,rfl,h3⟩:=B.eY h2;rw[B.aL,B.ik]at h3;obtain⟨rfl,h4⟩:=h3;obtain⟨h5,h6⟩:=B.jP h4;rw[B.j0,B.aL,B.aL,B.d_,B.d_,au,au]at h6;refine⟨_,h6.2.2,?_⟩;have:=strings_Repeat t z.toNat h6.1 h6.2.1;rw[show ((z.toNat:Nat):Int)=z by omega]at this;exact this _
def strings_Compare(a b:List UInt8): aA aM 145 [.str a,.str b] (.int .i64 (Lib.compareBytes a b)):=by
 refine l8 ⟨_,Tryz.func145,b_,b_⟩ fun g w σ vs hR hl hv=>?_;have h3:=hv 0 aT;have h4:=hv 1 aT;rw[Ju hl];generalize vs.getD 0 Go.undef=v at h3;generalize vs.getD 1 Go.undef=u at h4;simp only[cC,gu]at h3 h4;cases h3;cases h4;refine⟨.int .i64 (Lib.compareBytes a b),fun g' w'=> .int _ _,(Tryz.strings_Compare ⟨a.toArray⟩ ⟨b.toArray⟩ w).mono ?_⟩;rintro e w' ⟨rfl,rfl⟩;exact⟨rfl,rfl,rfl,rfl,aV _,fun _ _=>rfl⟩
noncomputable def M5:Lm:=fun args _ K=>B.rM args fun a b=>B.jc a fun s=>B.jc b fun t=>B.fI (Lib.compareBytes s t) fun z=>K (.int .i64 z)
def Qz[B.LV](args:List AV)(s:B.St)(K:AV->Bool)(h:M5 args s K=true): ∃ r,K r=true/\mD aM 145 args s.abs r:=by
 obtain⟨a,b,rfl,h1⟩:=B.p7 h;obtain⟨x,rfl,h2⟩:=B.jB h1;obtain⟨y,rfl,h3⟩:=B.jB h2;rw[B.wI]at h3;exact⟨_,h3,strings_Compare x y _⟩
def alS: Go.Shelf.Ren:=⟨fun|22=>211|29=>295|30=>296|n=>n,fun|0=>0|3=>3|4=>4|9=>114|24=>110|n=>n,fun n=>n⟩
def alT : ∃ fo, xZ Tryz.prog alS "slices.Insert[[]decretal/api.Pair,decretal/api.Pair]" fo (.agg #[.string ⟨#[]⟩, .string ⟨#[]⟩]) 32 := ⟨_, {
 mixed:=b_
 f22:=Tryz.func211.trans (bC some b_)
 f29:=Tryz.func295
 n29:=b_
 b29:=b_
 o29:=b_
 e29:=b_
 t0:=Tryz.underlying0
 a0:=Tryz.isAgg0
 z0:=Tryz.sizeOf0
 v0:=Tryz.zeroValue0
 t3:=Tryz.underlying3
 a3:=Tryz.isAgg3
 z3:=Tryz.sizeOf3
 v3:=Tryz.zeroValue3
 t4:=Tryz.underlying4
 a4:=Tryz.isAgg4
 z4:=Tryz.sizeOf4
 v4:=Tryz.zeroValue4
 z9:=Tryz.sizeOf114
 t24:=Tryz.underlying110
 a24:=Tryz.isAgg110
 z24:=Tryz.sizeOf110
 v24:=Tryz.zeroValue110
 i9:=b_
 zc:=by kernel_rfl }⟩
def zU[B.LV](args:List AV)(s:B.St)(K:AV->B.St->Bool)(y:Bool)(h:B.Ia args s K y=true): ∃ r s1,K r s1=true/\cV aM 211 args s.abs fun o σ1=>o = .ret r/\σ1=s1.abs:=by
 obtain⟨fo,L⟩:=alT;exact B.zU L dV ⟨_,Tryz.func211,b_,b_⟩ args s K y h
def afB: Nat:=12749536319551302420830055290731983042906869231766370170184255228463894984119587222357463453493748006886229547019502462691509165827871124329361635492757504
def Ib(i:Nat): Nat:=Nat.mod (Nat.div afB (Nat.pow 4294967296 i)) 4294967296
def ac0(i:Nat)(h:i<16): Ib i=o_.getD i 0:=by
 have:∀ i:Fin 16,Ib i.val=o_.getD i.val 0:=dV;exact this ⟨i,h⟩
def Yg(n:Nat): Ib (Nat.mod n 16)=o_.getD (Nat.mod n 16) 0:=ac0 _ (Nat.mod_lt _ dV)
noncomputable def aaG:List UInt8->Nat->(Nat->Bool)->Bool :=
 @List.rec UInt8 (fun _=>Nat->(Nat->Bool)->Bool) (fun c K=>K c) (fun b _ ih c K=>B.fN (Nat.xor c b.toNat) fun c1=>B.fN (Nat.xor (Nat.div c1 16) (Ib (Nat.mod c1 16))) fun c2=>B.fN (Nat.xor (Nat.div c2 16) (Ib (Nat.mod c2 16))) fun c3=>ih c3 K)
def ac1(s:List UInt8): ∀ c K,aaG s c K=K (zR s c):=by
 induction s with
 | nil=>intro c K;rfl
 | cons b s ih =>
   intro c K;show(B.fN (Nat.xor c b.toNat) fun c1=>B.fN (Nat.xor (Nat.div c1 16) (Ib (Nat.mod c1 16))) fun c2=>B.fN (Nat.xor (Nat.div c2 16) (Ib (Nat.mod c2 16))) fun c3=>aaG s c3 K)=_;rw[B.ig,B.ig,B.ig,ih,Yg,Yg];rfl
noncomputable def aaH:List UInt8->Bool:=@List.rec UInt8 (fun _=>Bool) true (fun b _ ih=>B.bK (Nat.beq b.toNat 0) ih)
def ac2(s:List UInt8): aaH s=zS s:=by
 induction s with
 | nil=>rfl
 | cons b s ih =>
   show B.bK (Nat.beq b.toNat 0) (aaH s)=(Nat.beq b.toNat 0 && zS s);rw[ih];cases Nat.beq b.toNat 0<;>rfl
def J4: List AV:=[.int .u32 (Int.ofNat 0),.int .u32 (Int.ofNat 274646895),.int .u32 (Int.ofNat 549293790),.int .u32 (Int.ofNat 820201905),.int .u32 (Int.ofNat 1098587580),.int .u32 (Int.ofNat 1361435347),.int .u32 (Int.ofNat 1640403810),.int .u32 (Int.ofNat 1905808397),.int .u32 (Int.ofNat 2197175160),.int .u32 (Int.ofNat 2460548119),.int .u32 (Int.ofNat 2722870694),.int .u32 (Int.ofNat 2987750089),.int .u32 (Int.ofNat 3280807620),.int .u32 (Int.ofNat 3553878443),.int .u32 (Int.ofNat 3811616794),.int .u32 (Int.ofNat 4084100981)]
def Yh: J4=Qt:=rfl
def aA.ac3 {n : FuncId} {args : List AV} {r : AV} (f : Nat) (hp : AV.cK args = true) (hr : r.dU = true)
    (h:B.pD Tryz.prog Ye za zb (fun _=>none) f [] n args ⟨0,.nil⟩ (fun o _=>B.uB o fun v=>B.rN 9 v r)=true):aA aM n args r:=by
 obtain⟨o,s',h1,h2⟩:=B.BA J3 za zb (ex:=fun _=>none) (fun _ _ h=>by cases h) h;refine aA.wq (h2.mono ?_) hp;rintro o' σ' ⟨rfl,rfl⟩;cases o' with
 | panic v=>exact absurd (show false=true from h1) gP
 | ret v=>obtain rfl:=B.u9 9 v r h1;exact⟨_,rfl,View.refl _ hr⟩
def Vj: aA aM 454 [] (.agg J4):=aA.ac3 9 rfl rfl b_
noncomputable def QA:Lm:=fun args _ K=>B.bK (B.fA args) (K (.agg J4))
def RH[B.LV](args:List AV)(s:B.St)(K:AV->Bool)(h:QA args s K=true): ∃ r,K r=true/\mD aM 454 args s.abs r:=by
 cases args with
 | nil=>exact⟨_,h,Vj _⟩
 | cons a l=>exact absurd (show false=true from h) gP
noncomputable def S7:Lm:=fun args _ K=>B.vR args fun a=>B.jc a fun t=>B.dY t 0 fun n=>B.bK (Nat.ble n 1000000) (B.tB (aaH t) K)
def Vk[B.LV](args:List AV)(s:B.St)(K:AV->Bool)(h:S7 args s K=true): ∃ r,K r=true/\mD aM 410 args s.abs r:=by
 obtain⟨a,rfl,h1⟩:=B.uZ h;obtain⟨t,rfl,h2⟩:=B.jB h1;rw[B.j0,B.aL,B.d_,au,B.sQ,ac2]at h2;exact⟨_,h2.2,Vg t h2.1 _⟩
noncomputable def Yi:Lm:=fun args _ K=>B.rM args fun a b=>B.ek a fun k x=>B.bK (B.jl .u32 k) (B.jW x fun x=>B.ek b fun k n=>B.bK (B.jl .i64 k) (B.jW n fun n=>B.bK (Nat.ble (Nat.succ x) 4294967296) (B.bK (Nat.ble 1 n) (B.bK (Nat.ble n 31) (B.fN (Qv x n) fun r=>K (.int .u32 (Int.ofNat r)))))))
def Yj[B.LV](args:List AV)(s:B.St)(K:AV->Bool)(h:Yi args s K=true): ∃ r,K r=true/\mD aM 381 args s.abs r:=by
 obtain⟨a,b,rfl,h1⟩:=B.p7 h;obtain⟨k,x,rfl,h2⟩:=B.eY h1;rw[B.aL,B.ik]at h2;obtain⟨rfl,h3⟩:=h2;obtain⟨hx,h4⟩:=B.jP h3;obtain⟨k,n,rfl,h5⟩:=B.eY h4;rw[B.aL,B.ik]at h5;obtain⟨rfl,h6⟩:=h5;obtain⟨hn,h7⟩:=B.jP h6;rw[B.aL,B.aL,B.aL,B.d_,B.d_,B.d_,au,au,au,B.ig]at h7;obtain⟨g1,g2,g3,h8⟩:=h7;have:=aax x.toNat n.toNat ae g2 g3;rw[show ((x.toNat:Nat):Int)=x by omega,show((n.toNat:Nat):Int)=n by omega]at this;exact⟨_,h8,this _⟩
noncomputable def afC:B.pY:=fun args s K _=>B.xR args fun a b c=>B.nF a fun l off=>B.bK (Nat.beq off 0) (B.ek b fun k x=>B.bK (B.jl .u32 k) (B.jW x fun x=>B.bK (Nat.ble (Nat.succ x) 4294967296) (B.jc c fun t=>B.dY t 0 fun n=>B.bK (Nat.ble n 1000000)
 (s.dI l fun o=>B.onCells o fun T k tr=>B.bK (B.uA T) (B.lO .undef k 0 tr fun ds=>B.bK (B.jy (B.rN 9) ds J4) (aaG t x fun r=>K (.int .u32 (Int.ofNat r)) s))))))
def ac4[B.LV](args:List AV)(s:B.St)(K:AV->B.St->Bool)(y:Bool)(h:afC args s K y=true): ∃ r s1,K r s1=true/\cV aM 455 args s.abs fun o σ1=>o = .ret r/\σ1=s1.abs:=by
 obtain⟨a,b,c,rfl,h1⟩:=B.u7 h;obtain⟨l,off,rfl,h2⟩:=B.oD h1;rw[B.aL,B.gg]at h2;obtain⟨rfl,h3⟩:=h2;obtain⟨k,x,rfl,h4⟩:=B.eY h3;rw[B.aL,B.ik]at h4;obtain⟨rfl,h5⟩:=h4;obtain⟨hx,h6⟩:=B.jP h5;rw[B.aL,B.d_,au]at h6;obtain⟨qM,h7⟩:=h6;obtain⟨t,rfl,h8⟩:=B.jB h7;rw[B.j0,B.aL,B.d_,au]at h8;obtain⟨ht,h9⟩:=h8;obtain⟨o,ho,h10⟩:=B.St.gD h9;obtain⟨T,k,tr,rfl,h11⟩:=B.k_ h10;rw[B.aL,B.rS,B.lH,B.aL,ac1]at h11;obtain⟨rfl,h12,MY⟩:=h11;have e:=B.xY (B.u9 9) _ _ h12;have ho:s.abs[l]? = some (.cells (B.aH .undef 0 k tr)):=ho;rw[e,Yh]at ho;have:=afx ho t x.toNat ae ht;rw[show ((x.toNat:Nat):Int)=x by omega]at this;exact⟨_,s,MY,this⟩
noncomputable def iZ (n m:Nat) (x y:Option B.pY):Option B.pY:=@Bool.rec (fun _=>Option B.pY) y x (Nat.beq n m)
noncomputable def Vl (n:FuncId):Option B.pY:=iZ n 381 (some (Yf Yi))<| iZ n 455 (some afC)<| iZ n 410 (some (Yf S7))<| iZ n 454 (some (Yf QA))<| iZ n 211 (some B.Ia)<| iZ n 75 (some (Yf Qy)) (iZ n 145 (some (Yf M5)) none)
def bX{n m:Nat}{x y:Option B.pY}{f:B.pY}(h:iZ n m x y=some f): n=m/\x=some f\/y=some f:=by
 unfold iZ at h;cases e:Nat.beq n m with
 | true=>rw[e]at h;exact .inl ⟨Nat.eq_of_beq_eq_true e,h⟩
 | false=>rw[e]at h;exact .inr h
def Ln: B.NW Tryz.prog Vl:=by
 intro n f h V args s K y hk;rcases bX h with⟨rfl,h⟩|h
 ·cases h;obtain⟨r,h1,h2⟩:=Yj args s _ hk;exact .inr ⟨r,s,h1,h2⟩
 rcases bX h with⟨rfl,h⟩|h
 ·cases h;exact .inr (ac4 args s K y hk)
 rcases bX h with⟨rfl,h⟩|h
 ·cases h;obtain⟨r,h1,h2⟩:=Vk args s _ hk;exact .inr ⟨r,s,h1,h2⟩
 rcases bX h with⟨rfl,h⟩|h
 ·cases h;obtain⟨r,h1,h2⟩:=RH args s _ hk;exact .inr ⟨r,s,h1,h2⟩
 rcases bX h with⟨rfl,h⟩|h
 ·cases h;exact .inr (zU args s K y hk)
 rcases bX h with⟨rfl,h⟩|h
 ·cases h;obtain⟨r,h1,h2⟩:=RG args s _ hk;exact .inr ⟨r,s,h1,h2⟩
 rcases bX h with⟨rfl,h⟩|h
 ·cases h;obtain⟨r,h1,h2⟩:=Qz args s _ hk;exact .inr ⟨r,s,h1,h2⟩
 cases h
def aA.bM {n : FuncId} {args : List AV} {r : AV} (f : Nat) (hp : AV.cK args = true) (hr : r.dU = true)
    (h:B.pD Tryz.prog Ye za zb Vl f [] n args ⟨0,.nil⟩ (fun o _=>B.uB o fun v=>B.rN 9 v r)=true):aA aM n args r:=by
 obtain⟨o,s',h1,h2⟩:=B.BA J3 za zb Ln h;refine aA.wq (h2.mono ?_) hp;rintro o' σ' ⟨rfl,rfl⟩;cases o' with
 | panic v=>exact absurd (show false=true from h1) gP
 | ret v=>obtain rfl:=B.u9 9 v r h1;exact⟨_,rfl,View.refl _ hr⟩
def cY.bM {n : FuncId} {args cs : List AV} {r : AV} (f : Nat) (hp : AV.cK args = true) (hc : AV.cK cs = true) (hr : r.dU = true)
    (h : (B.jD .undef cs 0 .nil fun k tr => B.St.jG ⟨0, .nil⟩ (.cells none k tr) fun _ s1 => B.pD Tryz.prog Ye za zb Vl f [] n (.ref 0 0 :: args) s1 fun o s' => B.uB o fun v => B.bK (B.rN 9 v r)
      (s'.dI 0 fun o'=>B.onCells o' fun T k' AS=>B.bK (B.uA T) (B.lO .undef k' 0 AS fun ds=>B.jy (B.rN 9) ds cs)))=true):cY aM n 0 args cs cs r:=by
 obtain⟨tr,h1,e1⟩:=B.l9 _ h;obtain⟨s1,e2,h2⟩:=B.St.kz h1;obtain⟨o,s',h3,h4⟩:=B.Qs J3 za zb Ln f _ True [] (fun _ _ _ hp=>by cases hp) _ _ _ _ h2
 replace h4:=h4 trivial
 cases o with
 | panic v=>exact absurd (show false=true from h3) gP
 | ret v =>
   replace h3:B.bK (B.rN 9 v r) (s'.dI 0 fun o'=>B.onCells o' fun T k' AS=>B.bK (B.uA T) (B.lO .undef k' 0 AS fun ds=>B.jy (B.rN 9) ds cs))=true:=h3
   rw[B.aL]at h3;obtain⟨h5,h6⟩:=h3;obtain rfl:=B.u9 _ _ _ h5;obtain⟨o',ho,h7⟩:=B.St.gD h6;obtain⟨T,k',AS,rfl,h8⟩:=B.k_ h7;rw[B.aL,B.rS,B.lH]at h8;obtain⟨rfl,h8⟩:=h8;have e3:=B.xY (B.u9 9) _ _ h8;have e2:s1.abs=[.cells cs]:=by rw[e2];show([]:ai)++[bG.bH none (B.aH .undef 0 cs.length tr)]=_;rw[e1];rfl
   refine cY.gx (aaF h4 e2 ?_) hp hc;rintro o' σ' ⟨rfl,rfl⟩
   obtain⟨U,hτ⟩:∃ U,s'.abs = .cells cs::U:=by
    match hs:s'.abs,ho with
    | a :: U, ho =>
      have ho:some a=some (bG.bH none (B.aH .undef 0 k' AS)):=ho;cases ho;rw[e3];exact⟨U,rfl⟩
   exact⟨_,_,U,rfl,hτ,View.refl _ hr,bR.refl hc⟩
