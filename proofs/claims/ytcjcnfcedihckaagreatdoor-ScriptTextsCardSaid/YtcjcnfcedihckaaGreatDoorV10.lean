/- Part. -/
import Derived.Test.YtcjcnfcedihckaaGreatDoorV09
import Derived.Scope
import Derived.IntWalk
set_option linter.all false
namespace Go.AM
def y2: cI->Option Nat
 | .seq a b => match y2 a with
   | some l=>some l
   | none=>y2 b
 | .label l=>some l
 | _=>none
def ju: cI->Nat->Option cI
 | .seq a b, l => match ju a l with
   | some r=>some (.seq r b)
   | none=>ju b l
 | .label l',l=>if l'==l then some .skip else none
 | _,_=>none
section
variable (P:Program)
def holds(nt:Nat)(gs:List b_): List b_ :=
 (List.range (gs.foldl (fun m g => match g.op with
   | .kW k _ _=>Nat.max m (k+1-nt)
   | .oS k _ _ _ _=>Nat.max m (k+1-nt)
   | .oU k _ _ _ _=>Nat.max m (k+1-nt)
   | _=>m) 0)).map fun i=>⟨.hold,some (nt+i),none⟩
def Dr {X : List Deferred} {P : Program} {Q : AQ} {nt : Nat} {B : Nat -> Prop} {w : World} {tmps : Array Value} {ds : List Deferred} {gs : List b_} : ∀ (l : List Nat) (g : aM) (σ : ae) (e : Env), eD P Q ((l.map fun i => (⟨.hold, some (nt + i), none⟩ : b_)) ++ gs) e σ -> Rel g w σ -> ic nt g w e tmps -> lU X B σ g w ds ->
    ∃ g' σ' e',eD P Q gs e' σ'/\Rel g' w σ'/\ic nt g' w e' tmps/\lU X B σ' g' w ds/\ik σ g w σ' g' w
 | [],g,σ,e,h,hR,hE,hd=>⟨g,σ,e,h,hR,hE,hd,.refl _ _ _⟩
 | i :: l, g, σ, e, h, hR, hE, hd => by
   rw[aR,cF]at h;have h:eD P Q ((l.map fun i=>(⟨.hold,some (nt+i),none⟩:b_))++gs) (eC e (some (nt+i)) (.ref σ.length 0)) (σ++[.resv]):=h;obtain⟨r1,r2⟩:=hR.hold
   have PO:ic nt (g.push 0 none 0) w (eC e (some (nt+i)) (.ref σ.length 0)) tmps:=by
    refine⟨hE.size,fun t ht=>?_⟩;have hne:t≠nt+i:=by omega
    simp only[eC,if_neg hne];exact(hE.mono r2.mono).rel t ht
   obtain⟨g',σ',e',h1,h2,h3,h4,h5⟩:=Dr l _ _ _ h r1 PO (hd.step r2);exact⟨g',σ',e',h1,h2,h3,h4,r2.trans h5⟩
def rcs: Code->List (Code × Code)
 | .rangeFunc _ _ a b=>[(a,b)]
 | .seq a b=>rcs a++rcs b
 | .cond _ a b=>rcs a++rcs b
 | .block _ a=>rcs a
 | .loop a=>rcs a
 | .scope a=>rcs a
 | _=>[]
def ae2(P:Program)(n k:Nat): Code × Code:=match(P.funcs[n]?).bind (·.body)with
 | some c=>(rcs c).getD k (.skip,.skip)
 | none=>(.skip,.skip)
def cQ(nt:Nat)(h:Hints)(rd:Bool): Code->Option cI
 | .skip=>some .skip
 | .region _ ops false => match kL P nt h false ops ops.toList with
   | some gs=>some (.region gs)
   | none=>some .stop
 | .region _ ops true => match kL P nt h true ops ops.toList with
   | some gs => let p := XB h ops
     if(Vm ops.size (ku ops) && L_ ops.size p && CW ops.size (Bf (ku ops) p) (q8 gs p)) && P.follows .mixedOrders then some (.draw (holds nt (q8 gs p)++q8 gs p) (sD ops.size (Bf (ku ops) p) (q8 gs p)))else some .stop
   | none=>some .stop
 | .seq a b => match cQ nt h rd a, cQ nt h rd b with
   | some x,some y=>some (.seq x y)
   | _,_=>none
 | .cond c a b => match cX nt c, cQ nt h rd a, cQ nt h rd b with
   | some z,some x,some y=>some (.cond z x y)
   | _,_,_=>none
 | .block id c=>(cQ nt h rd c).map (.block id)
 | .loop c=>(cQ nt h rd c).map .loop
 | .exit id=>some (.exit id)
 | .ret=>some .ret
 | .scope c => match cQ nt h rd c with
   | some x => match y2 x with
     | some l => match ju x l with
       | some r=>some (.scope l x r)
       | none=>none
     | none=>none
   | none=>none
 | .label l=>some (.label l)
 | .goto l=>some (.goto l)
 | .rangeFunc _ _ _ _=>none
 | .refuse _=>some .stop
end
def Bg(ro:Option Nat)(P:Program)(m:Machine): m.fenced P (WF ro):=fenced_wide P m
section
variable {P:Program}
def QR.step{X:List Deferred}{nt:Nat}{B:Nat->Prop}{g g':aM}{w w':World}{σ σ':ae}{Q:AQ}(hev:ik σ g w σ' g' w'){ex:Exit}{a:Act}{w2:World}(h:QR X nt B g' w' σ' Q ex a w2): QR X nt B g w σ Q ex a w2:=by
 obtain⟨g2,e2,σ2,h1,h2,h3,h4,h5⟩:=h;exact⟨g2,e2,σ2,h1,h2,h3,hev.trans h4,h5⟩
def Sound(P:Program)(nt:Nat)(h:Hints)(c:Code): Prop :=
 ∀ (X : List Deferred) (ro : Option Nat) (wn : Nat) (B : Nat -> Prop) (ac : cI) (Q : AQ) (g : aM) (w : World) (σ : ae) (e : Env) (a : Act),
   cQ P nt h ro.isSome c=some ac->iU P ac Q e σ->Rel g w σ->ic nt g w e a.tmps->lU X B σ g w a.defers->z_ ac B w->c.wpIn (WF ro) wn P (QR X nt B g w σ Q) a w
def Mb{nt:Nat}{h:Hints}{rd:Bool}{l:Nat}: ∀(c:Code) (ac ar:cI),cQ P nt h rd c=some ac->ju ac l=some ar-> ∃ rest,findLabel c l=some rest/\cQ P nt h rd rest=some ar:=by
 intro c
 induction c with
 | seq x y xU wH =>
   intro ac ar hc hf;simp only[cQ]at hc;split at hc
   ·rename_i ax ay h1 h2;cases hc;simp only[ju]at hf;split at hf
    ·rename_i r hr;cases hf;obtain⟨rest,r1,r2⟩:=xU ax r h1 hr;exact⟨.seq rest y,by simp[findLabel,r1],by simp[cQ,r2,h2]⟩
    ·rename_i hr;obtain⟨rest,r1,r2⟩:=wH ay ar h2 hf;refine⟨rest,?_,r2⟩
     have:findLabel x l=none:=by
      have key:∀ (c:Code) (ac:cI),cQ P nt h rd c=some ac->ju ac l=none->findLabel c l=none:=by
       intro c
       induction c with
       | seq x y xU wH =>
         intro ac hc hf;simp only[cQ]at hc;split at hc
         ·rename_i ax ay h1 h2;cases hc;simp only[ju]at hf;split at hf
          ·cases hf
          ·rename_i hr;simp[findLabel,xU ax h1 hr,wH ay h2 hf]
         ·cases hc
       | label l' =>
         intro ac hc hf;cases hc;simp only[ju]at hf;simp only[findLabel];split at hf
         ·cases hf
         ·rename_i hh;rw[if_neg hh]
       | _=>intros;rfl
      exact key x ax h1 hr
     simp[findLabel,this,r1]
   ·cases hc
 | label l' =>
   intro ac ar hc hf;cases hc;simp only[ju]at hf;split at hf
   ·rename_i hh;cases hf;exact⟨.skip,by simp only[findLabel];rw[if_pos hh],rfl⟩
   ·cases hf
 | region id ops d =>
   intro ac ar hc hf;cases d<;>simp only[cQ]at hc
   ·split at hc<;>(cases hc;cases hf)
   ·split at hc
    ·split at hc<;>(cases hc;cases hf)
    ·cases hc;cases hf
 | cond z x y =>
   intro ac ar hc hf;simp only[cQ]at hc;split at hc
   ·cases hc;cases hf
   ·cases hc
 | block id x=>intro ac ar hc hf;simp only[cQ]at hc;obtain⟨gs,_,rfl⟩:=Option.map_eq_some_iff.1 hc;cases hf
 | loop x=>intro ac ar hc hf;simp only[cQ]at hc;obtain⟨gs,_,rfl⟩:=Option.map_eq_some_iff.1 hc;cases hf
 | scope x =>
   intro ac ar hc hf;simp only[cQ]at hc;split at hc
   ·split at hc
    ·split at hc
     ·cases hc;cases hf
     ·cases hc
    ·cases hc
   ·cases hc
 | _=>intro ac ar hc hf;cases hc<;>cases hf
def Ta: ∀(c:cI) (l:Nat) (r:cI),ju c l=some r->r.lK=true->c.lK=true:=by
 intro c
 induction c with
 | seq a b Tb Tc =>
   intro l r h hr;simp only[ju]at h;split at h
   ·rename_i r' h';cases h;simp only[cI.lK,cz]at hr ⊢;exact hr.imp (Tb l r' h') id
   ·simp only[cI.lK,cz];exact .inr (Tc l r h hr)
 | label l'=>intro l r h hr;simp only[ju]at h;split at h<;>cases h;cases hr
 | _=>intro l r h hr;cases h
def F2{nt:Nat}{h:Hints}: Sound P nt h .skip:=fun X ro wn B ac Q g w σ e a hc hw hR hE hd hB=>by
 cases hc;exact wpIn_skip ⟨g,e,σ,hd,hR,hE,.refl _ _ _,hw⟩
def JQ {nt : Nat} {h : Hints} {x y : Code} (xU : Sound P nt h x) (wH : Sound P nt h y) : Sound P nt h (.seq x y) := by
    intro X ro wn B ac Q g w σ e a hc hw hR hE hd hB;simp only[cQ]at hc;split at hc
    ·rename_i ax ay h1 h2;cases hc;refine wpIn_seq (wpIn_mono (xU X ro wn B ax _ g w σ e a h1 hw hR hE hd (hB.sub (by simp[cI.lK];exact fun h=> .inl h))) ?_);rintro ex a' w' ⟨g',e',σ',r1,r2,r3,r4,r5⟩;cases ex with
     | normal =>
       refine wpIn_mono (wH X ro wn B ay Q g' w' σ' e' a' h2 r5 r2 r3 r1 ((hB.sub (by simp[cI.lK];exact fun h=> .inr h)).size r4.size)) fun ex a2 w2 hq=>hq.step r4
     | exit id=>exact⟨g',e',σ',r1,r2,r3,r4,r5⟩
     | goto l=>exact⟨g',e',σ',r1,r2,r3,r4,r5⟩
     | ret=>exact⟨g',e',σ',r1,r2,r3,r4,r5⟩
     | panic ch=>exact⟨g',e',σ',r1,r2,r3,r4,r5⟩
     | outgrown=>exact r5.elim
    ·cases hc
def nN{b:Frame}{a:Act}{k:List Item}{cs:List Frame}{w:World}{c:Code}: Go.step P (lone (b.atR a (.code (.scope c)::k)) cs w) = .next (lone (b.atR a (.code c:: .inScope c::k)) cs w) :=
 step_lone_go (by simp[stepG,stepG.exec,Frame.atR])
def Aa{b:Frame}{a:Act}{k:List Item}{cs:List Frame}{w:World}{c:Code}: Go.step P (lone (b.atR a (.inScope c::k)) cs w) = .next (lone (b.atR a k) cs w) :=
 step_lone_go (by simp[stepG,stepG.exec,Frame.atR])
def Oi{nt:Nat}{h:Hints}: ∀(c:Code),Sound P nt h c/\ ∀ l rest,findLabel c l=some rest->Sound P nt h rest:=by
 intro c
 induction c with
 | skip=>exact⟨F2,fun _ _ h=>by cases h⟩
 | region id ops draw =>
   refine⟨?_,fun _ _ h=>by cases h⟩;intro X ro wn B ac Q g w σ e a hc hw hR hE hd hB;cases draw with
   | true =>
     simp only[cQ]at hc;split at hc
     ·rename_i gs h1;split at hc
      ·rename_i hok;simp only[aD]at hok;cases hc;obtain⟨g1,σ1,e1,k1,k2,k3,k4,k5⟩:=Dr _ g σ e hw hR hE hd;exact wpIn_mono (Ra h1 hok.1.1.1 hok.1.1.2 hok.1.2 hok.2 k1 k2 k3 k4) fun _ _ _ hq=>QR.step k5 hq
      ·cases hc;exact hw.elim
     ·cases hc;exact hw.elim
   | false =>
     simp only[cQ]at hc;split at hc
     ·rename_i gs h1;cases hc;refine wpIn_region ?_;have:=SZ (ro:=ro) (wn:=wn) (B:=B) (ops:=ops) (Q:=Q) (g0:=g) (w0:=w) (qC:=σ) ops.toList 0 gs g w σ e a h1 (fun j _=>by simp) hw hR hE hd (.refl _ _ _);rw[List.range_eq_range'];simpa using this
     ·cases hc;exact hw.elim
 | seq x y xU wH =>
   refine⟨JQ xU.1 wH.1,fun l rest hf=>?_⟩;simp only[findLabel]at hf;split at hf
   ·rename_i r hr;cases hf;exact JQ (xU.2 l r hr) wH.1
   ·exact wH.2 l rest hf
 | cond z x y xU wH =>
   refine⟨?_,fun _ _ h=>by cases h⟩
   replace xU:=xU.1
   replace wH:=wH.1
   intro X ro wn B ac Q g w σ e a hc hw hR hE hd hB;simp only[cQ]at hc;split at hc
   ·rename_i az ax ay h1 h2 h3;cases hc;have v1:=cG h1 hE;simp only[iU]at hw;generalize AX.ev e az=zv at v1 hw;generalize hev:a.eval z=cv at v1;cases v1<;>simp only at hw;rename_i t;refine wpIn_cond_split hev (fun ht=>?_) (fun ht=>?_)
    ·exact xU X ro wn B ax Q g w σ e a h2 (hw.1 ht) hR hE hd (hB.sub (by simp[cI.lK];exact fun h=> .inl h))
    ·exact wH X ro wn B ay Q g w σ e a h3 (hw.2 ht) hR hE hd (hB.sub (by simp[cI.lK];exact fun h=> .inr h))
   ·cases hc
 | block id x ih =>
   refine⟨?_,fun _ _ h=>by cases h⟩
   replace ih:=ih.1
   intro X ro wn B ac Q g w σ e a hc hw hR hE hd hB;simp only[cQ,aW]at hc;obtain⟨ax,h1,rfl⟩:=hc;refine wpIn_block (wpIn_mono (ih X ro wn B ax _ g w σ e a h1 hw hR hE hd (hB.sub (by simp[cI.lK]))) ?_);rintro ex a' w' ⟨g',e',σ',r1,r2,r3,r4,r5⟩;cases ex with
   | exit i =>
     simp only[qY]at r5;simp only[Exit.inBlock];split
     ·rename_i e1;rw[if_pos e1]at r5;exact⟨g',e',σ',r1,r2,r3,r4,r5⟩
     ·rename_i e1;rw[if_neg e1]at r5;exact⟨g',e',σ',r1,r2,r3,r4,r5⟩
   | normal=>exact⟨g',e',σ',r1,r2,r3,r4,r5⟩
   | goto l=>exact⟨g',e',σ',r1,r2,r3,r4,r5⟩
   | ret=>exact⟨g',e',σ',r1,r2,r3,r4,r5⟩
   | panic ch=>exact⟨g',e',σ',r1,r2,r3,r4,r5⟩
   | outgrown=>exact r5.elim
 | loop x ih =>
   refine⟨?_,fun _ _ h=>by cases h⟩
   replace ih:=ih.1
   intro X ro wn B ac Q g w σ e a hc hw hR hE hd hB;simp only[cQ,aW]at hc;obtain⟨ax,h1,rfl⟩:=hc;obtain⟨I,⟨n0,hI⟩,Y5⟩:=hw
   have key:∀ (n:Nat) (g1:aM) (w1:World) (σ1:ae) (e1:Env) (a1:Act),I n e1 σ1->Rel g1 w1 σ1->ic nt g1 w1 e1 a1.tmps->lU X B σ1 g1 w1 a1.defers->z_ (.loop ax) B w1 ->
    ∀(b:Frame) (k:List Item) (cs:List Frame),b.roundOf=ro-> ∃ ex a' w',QR X nt B g1 w1 σ1 Q ex a' w'/\ArrivesIn (Machine.fenced P (WF ro)) P (lone (b.atR a1 (.code x:: .inLoop x::k)) cs w1) b k cs ex a' w':=by
    intro n
    induction n using Nat.strongRecOn with
    | _ n Y6 =>
      intro g1 w1 σ1 e1 a1 hI1 Y7 vy xP Td b k cs hro;obtain⟨ex,a',w',hq,mq⟩:=ih X ro wn B ax _ g1 w1 σ1 e1 a1 h1 (Y5 n e1 σ1 hI1) Y7 vy xP (Td.sub (by simp[cI.lK])) b (.inLoop x::k) cs hro trivial (H6 _ _);obtain⟨g',e',σ',r1,r2,r3,r4,r5⟩:=hq;cases ex with
      | normal =>
        obtain⟨m,hlt,hI2⟩:=r5;obtain⟨Te,a2,w2,Ds,F3⟩:=Y6 m hlt g' w' σ' e' a' hI2 r2 r3 r1 (Td.size r4.size) b k cs hro;exact⟨Te,a2,w2,Ds.step r4,.of_steps (StepsIn.trans mq (.one (Bg ro P _) stepR_inLoop)) F3⟩
      | exit id=>exact⟨_,a',w',⟨g',e',σ',r1,r2,r3,r4,r5⟩,.pass (x:= .inLoop x) rfl (fun _ _=> .inl (by simp)) mq⟩
      | goto l=>exact⟨_,a',w',⟨g',e',σ',r1,r2,r3,r4,r5⟩,.pass (x:= .inLoop x) rfl (fun _ _=> .inl (by simp)) mq⟩
      | ret=>exact⟨_,a',w',⟨g',e',σ',r1,r2,r3,r4,r5⟩,.pass (x:= .inLoop x) rfl (fun _ _=> .inl (by simp)) mq⟩
      | panic ch=>exact⟨_,a',w',⟨g',e',σ',r1,r2,r3,r4,r5⟩,.pass (x:= .inLoop x) rfl (fun _ _=> .inl (by simp)) mq⟩
      | outgrown=>exact r5.elim
   intro b k cs hro hF hr;obtain⟨ex,a',w',hq,mq⟩:=key _ g w σ e a hI hR hE hd hB b k cs hro;exact⟨ex,a',w',hq,.of_steps (.one (Bg ro P _) stepR_loop) mq⟩
 | exit id=>exact⟨fun X ro wn B ac Q g w σ e a hc hw hR hE hd hB=>by cases hc;exact wpIn_exit ⟨g,e,σ,hd,hR,hE,.refl _ _ _,hw⟩,fun _ _ h=>by cases h⟩
 | ret=>exact⟨fun X ro wn B ac Q g w σ e a hc hw hR hE hd hB=>by cases hc;exact wpIn_ret ⟨g,e,σ,hd,hR,hE,.refl _ _ _,hw⟩,fun _ _ h=>by cases h⟩
 | rangeFunc f ps x y xU wH=>exact⟨fun _ _ _ _ _ _ _ _ _ _ _ hc=>(by cases hc),fun _ _ h=>by cases h⟩
 | refuse s=>exact⟨fun X ro wn B ac Q g w σ e a hc hw=>(by cases hc;exact hw.elim),fun _ _ h=>by cases h⟩
 | goto l=>exact⟨fun X ro wn B ac Q g w σ e a hc hw hR hE hd hB=>by cases hc;exact wpIn_goto ⟨g,e,σ,hd,hR,hE,.refl _ _ _,hw⟩,fun _ _ h=>by cases h⟩
 | label l =>
   refine⟨fun X ro wn B ac Q g w σ e a hc hw hR hE hd hB=>by cases hc;exact wpIn_label ⟨g,e,σ,hd,hR,hE,.refl _ _ _,hw⟩,fun l' rest hf=>?_⟩;simp only[findLabel]at hf;split at hf
   ·cases hf;exact F2
   ·cases hf
 | scope x ih =>
   refine⟨?_,fun _ _ h=>by cases h⟩;intro X ro wn B ac Q g w σ e a hc hw hR hE hd hB;simp only[cQ]at hc;split at hc
   ·rename_i ax h1;split at hc
    ·rename_i l _;split at hc
     ·rename_i ar h2;cases hc;obtain⟨rest,hf,Mc⟩:=Mb x ax ar h1 h2;have hs:=ih.2 l rest hf;obtain⟨J,Y8,aa9⟩:=hw;intro b k cs hro hF hr;have Ab:∀ m:Machine,m.fenced P (WF ro):=Bg ro P;have hg:gotoIn l (.inScope x::k)=some (.code rest:: .inScope x::k):=by simp[gotoIn,hf]
      have key:∀ (n:Nat) (g1:aM) (w1:World) (σ1:ae) (e1:Env) (a1:Act),J n e1 σ1->Rel g1 w1 σ1->ic nt g1 w1 e1 a1.tmps->lU X B σ1 g1 w1 a1.defers->z_ ax B w1 ->
       ∃ ex a' w',QR X nt B g1 w1 σ1 Q ex a' w'/\ArrivesIn (Machine.fenced P (WF ro)) P (lone (b.atR a1 (.code rest:: .inScope x::k)) cs w1) b k cs ex a' w':=by
       intro n
       induction n using Nat.strongRecOn with
       | _ n Y6 =>
         intro g1 w1 σ1 e1 a1 hJ1 Y7 vy xP Td;obtain⟨ex,a',w',hq,mq⟩:=hs X ro wn B ar _ g1 w1 σ1 e1 a1 Mc (aa9 n e1 σ1 hJ1) Y7 vy xP (Td.sub (Ta ax l ar h2)) b (.inScope x::k) cs hro trivial (H6 _ _);obtain⟨g',e',σ',r1,r2,r3,r4,r5⟩:=hq;cases ex with
         | normal=>exact⟨.normal,a',w',⟨g',e',σ',r1,r2,r3,r4,r5⟩,StepsIn.trans mq (.one (Ab _) Aa)⟩
         | exit id=>exact⟨.exit id,a',w',⟨g',e',σ',r1,r2,r3,r4,r5⟩,fun k' hk=>mq.1 k' (by simp[exitTo,hk]),fun Tf hk=>mq.2 Tf (by simp[exitTo,hk])⟩
         | goto l' =>
           obtain⟨rfl,m,hlt,Y9⟩:=r5;obtain⟨Te,a2,w2,Ds,F3⟩:=Y6 m hlt g' w' σ' e' a' Y9 r2 r3 r1 (Td.size r4.size);exact⟨Te,a2,w2,Ds.step r4,.of_steps (mq.1 _ hg) F3⟩
         | ret=>exact⟨.ret,a',w',⟨g',e',σ',r1,r2,r3,r4,r5⟩,mq⟩
         | panic ch=>exact⟨.panic ch,a',w',⟨g',e',σ',r1,r2,r3,r4,r5⟩,mq⟩
         | outgrown=>exact r5.elim
      obtain⟨ex,a',w',hq,mq⟩:=ih.1 X ro wn B ax _ g w σ e a h1 Y8 hR hE hd (hB.sub (by simp[cI.lK])) b (.inScope x::k) cs hro trivial (H6 _ _);obtain⟨g',e',σ',r1,r2,r3,r4,r5⟩:=hq;cases ex with
      | normal=>exact⟨.normal,a',w',⟨g',e',σ',r1,r2,r3,r4,r5⟩,.head (Ab _) nN (StepsIn.trans mq (.one (Ab _) Aa))⟩
      | exit id=>exact⟨.exit id,a',w',⟨g',e',σ',r1,r2,r3,r4,r5⟩,fun k' hk=> .head (Ab _) nN (mq.1 k' (by simp[exitTo,hk])),fun Tf hk=>let ⟨k1,p1,p2⟩:=mq.2 Tf (by simp[exitTo,hk]);⟨k1,p1,.head (Ab _) nN p2⟩⟩
      | goto l' =>
        obtain⟨rfl,n0,Y9⟩:=r5;obtain⟨Te,a2,w2,Ds,F3⟩:=key _ g' w' σ' e' a' Y9 r2 r3 r1 ((hB.sub (by simp[cI.lK])).size r4.size);exact⟨Te,a2,w2,Ds.step r4,.of_steps (.head (Ab _) nN (mq.1 _ hg)) F3⟩
      | ret=>exact⟨.ret,a',w',⟨g',e',σ',r1,r2,r3,r4,r5⟩,.of_steps (.one (Ab _) nN) mq⟩
      | panic ch=>exact⟨.panic ch,a',w',⟨g',e',σ',r1,r2,r3,r4,r5⟩,.of_steps (.one (Ab _) nN) mq⟩
      | outgrown=>exact r5.elim
     ·cases hc
    ·cases hc
   ·cases hc
def Rb{nt:Nat}{h:Hints}(c:Code): Sound P nt h c:=(Oi c).1
inductive q9 where
 | tmp (t:Nat)
 | cell (t:Nat) (ag:Bool) (n:Nat)
structure WS where
 nt:Nat
 results:List q9
 body:cI
def nj(P:Program)(nt:Nat): List ResultVar->Option (List q9)
 | []=>some []
 | .tmp t::r=>if t<nt then(nj P nt r).map (.tmp t:: ·)else none
 | .cell a t :: r => match kD P t, P.info? t with
   | some ag,some i=>if a<nt && (ag || i.size==1)then (nj P nt r).map (.cell a ag i.size:: ·)else none
   | _,_=>none
def y3(P:Program)(h:Hints)(fn:Func): Option WS :=
 match fn.body with
 | some c => match cQ P fn.ntmps h false c, nj P fn.ntmps fn.results.toList with
   | some b,some rs=>some ⟨fn.ntmps,rs,b⟩
   | _,_=>none
 | none=>none
def pI(e:Env)(σ : ae): List q9->(List AV->Prop)->Prop
 | [],K=>K []
 | .tmp t::r,K=>pI e σ r fun vs=>K (e t::vs)
 | .cell t ag n::r,K=>ia σ ag n (e t) fun v=>pI e σ r fun vs=>K (v::vs)
def oneOf: List AV->AV
 | [v]=>v
 | vs=> .bJ vs
def Vn(rs:List q9)(R:Out->ae->Prop): AQ
 | .normal,e,σ=>pI e σ rs fun vs=>R (.ret (oneOf vs)) σ
 | .ret,e,σ=>pI e σ rs fun vs=>R (.ret (oneOf vs)) σ
 | .panic v,_,σ=>R (.panic v) σ
 | _,_,_=>False
def q_(args:List AV): Env:=fun n=>args.getD n .undef
def Ti {nt : Nat} {g : aM} {w : World} {σ : ae} {e : Env} {tmps : Array Value} (hR : Rel g w σ) (hE : ic nt g w e tmps) : ∀ (rv : List ResultVar) (rs : List q9) (K : List AV -> Prop), nj P nt rv = some rs -> pI e σ rs K ->
    ∃ (uj : List AV) (us : List Value), (rv.mapM fun (r : ResultVar) => (match r with
      | ResultVar.tmp t=>pure (tmps.getD t Go.undef)
      | ResultVar.cell a t=>do loadVar t (← asAddr (tmps.getD a Go.undef)):Sem Value)).run P w=Result.ok us w/\uj.length=us.length/\(∀ i,i<uj.length->VR g w (uj.getD i .undef) (us.getD i Go.undef))/\K uj:=by
 intro rv
 induction rv with
 | nil=>intro rs K h hK;cases h;exact⟨[],[],rfl,rfl,fun i hi=>absurd hi (Nat.not_lt_zero _),hK⟩
 | cons r rv ih =>
   intro rs K h hK;cases r with
   | tmp t =>
     simp only[nj]at h;split at h
     ·rename_i ht;simp only[aW]at h;obtain⟨Y_,h1,rfl⟩:=h;obtain⟨uj,us,r1,r2,r3,r4⟩:=ih Y_ _ h1 hK;refine⟨e t::uj,tmps.getD t Go.undef::us,?_,by simp[r2],fun i hi=>?_,r4⟩
      ·rw[List.mapM_cons,Sem.run_bind];simp only[Sem.run_pure,Result.andThen_ok,Sem.run_bind,r1]
      ·cases i with
       | zero=>simpa using hE.rel t ht
       | succ i=>simpa using r3 i (by simpa using hi)
     ·cases h
   | cell a t =>
     simp only[nj]at h;split at h
     ·rename_i ag ti hA hi;split at h
      ·rename_i hh;simp only[aD,decide_eq_true_eq,cz,beq_iff_eq]at hh;simp only[aW]at h;obtain⟨Y_,h1,rfl⟩:=h
       have hone:ag=false->ti.size=1:=fun e1=>by
        rcases hh.2 with h|h
        ·rw[e1]at h;cases h
        ·exact h
       have hv:=hE.rel a hh.1;obtain⟨u,av,l1,l2,l3⟩:=JB (P:=P) hR hA hi hone hv hK
       obtain⟨A,uh⟩:∃ A,tmps.getD a Go.undef = .pointer (some A):=by
        simp only[pI]at hK;generalize e a=p at hv hK;generalize tmps.getD a Go.undef=pv at hv;cases hv<;>simp only[ia]at hK
        ·rename_i h;obtain⟨_,A,h,_⟩:=h;exact⟨A,h⟩
        ·exact⟨_,rfl⟩
        ·rename_i h;obtain⟨_,_,A,h,_⟩:=h;exact⟨A,h⟩
       obtain⟨uj,us,r1,r2,r3,r4⟩:=ih Y_ _ h1 l3;refine⟨av::uj,u::us,?_,by simp[r2],fun i hi=>?_,r4⟩
       ·rw[uh]at l1;simp only[Instr.loadAt,Instr.sureAddr,Sem.run_bind,Sem.run_pure,Result.andThen_ok]at l1;have ha:(asAddr (tmps.getD a Go.undef)).run P w = .ok A w:=by rw[uh];rfl
        rw[List.mapM_cons,Sem.run_bind];simp only[Sem.run_bind,ha,Result.andThen_ok,l1,r1,Sem.run_pure]
       ·cases i with
        | zero=>simpa using l2
        | succ i=>simpa using r3 i (by simpa using hi)
      ·cases h
     ·cases h
def Oj{fn:Func}{tmps:Array Value}{us:List Value}{w:World} (h:(fn.results.toList.mapM fun(r:ResultVar)=>(match r with
 | ResultVar.tmp t=>pure (tmps.getD t Go.undef)
 | ResultVar.cell a t => do loadVar t (← asAddr (tmps.getD a Go.undef)) : Sem Value)).run P w = Result.ok us w) :
    (results fn tmps).run P w = .ok (if h:us.toArray.size=1 then us.toArray[0]else .tuple us.toArray) w:=by
 unfold results;rw[Array.mapM_eq_mapM_toList];simp only[Sem.run_bind,Sem.run_map];exact(congrArg (fun r:Result (List Value)=>(r.andThen fun a w'=>Result.ok a.toArray w').andThen fun a w'=>Sem.run P (pure (if h:a.size=1 then a[0]else Value.tuple a):Sem Value) w') h).trans rfl
def vz {nt : Nat} {fn : Func} {tmps : Array Value} {R : Ending -> World -> Prop} {g0 : aM} {w0 : World} {qC : ae} {g : aM} {σ : ae} {e : Env} {u : FrameMode} {X : List Deferred} (hu : u ≠ .run) : ∀ (ds : List Deferred) (w : World),
    Bc (fun D=>w0.heap.size<=D) σ g w ds->Rel g w σ->ic nt g w e tmps->ik qC g0 w0 σ g w->(∀ w2,Rel g w2 σ->ic nt g w2 e tmps->ik qC g0 w0 σ g w2->kH g w g w2->LeavesInM (WF none) 0 P fn tmps R X u w2)->LeavesInM (WF none) 0 P fn tmps R (ds++X) u w
 | [],w,_,hR,hE,hv,Vo=>Vo w hR hE hv (.refl _ _)
 | d :: ds, w, hd, hR, hE, hv, Vo => by
   obtain⟨D,h1,h2,h3,h4,h5⟩:=hd.mark d (by simp);obtain⟨r1,r2,r3⟩:=hR.YB (w':=w.putObj D (.deferred none)) hv h2 h4 h5 (by simp) rfl rfl rfl (fun c hc=>World.putObj_heap_other hc);refine⟨hu,.inl ⟨D,_,by rw[h1],run_takeDeferred h3,vz hu ds _ ⟨(List.nodup_cons.1 hd.nodup).2,fun d' hd'=>?_⟩ r1 (hE.mono r3) r2 (fun w2 a1 a2 a3 a4=>Vo w2 a1 a2 a3 (r3.trans a4))⟩⟩;obtain⟨D',k1,k2,k3,k4,k5⟩:=hd.mark d' (by simp[hd']);refine⟨D',k1,k2,(World.putObj_heap_other (fun e=>?_)).trans k3,k4,k5⟩;subst e;exact(List.nodup_cons.1 hd.nodup).1 (by rw[h1,<-k1];exact hd')
def XC{g:aM}{w:World}{uj:List AV}{us:List Value}(r2:uj.length=us.length)(r3:∀ i,i<uj.length->VR g w (uj.getD i .undef) (us.getD i Go.undef)): VR g w (oneOf uj) (if h:us.toArray.size=1 then us.toArray[0]else .tuple us.toArray):=by
 match uj,us,r2,r3 with
 | [av],[u],_,r3=>simpa[oneOf]using r3 0 (by simp)
 | [],[],_,r3=>exact .bJ [] #[] rfl (fun i hi=>absurd hi (dL _))
 | a1 :: a2 :: az, u1 :: u2 :: us, r2, r3 =>
   have:¬ (u1::u2::us).toArray.size=1:=by simp
   rw[dif_neg this];exact .bJ _ _ (by simpa using r2) (fun i hi=>by simpa using r3 i hi)
def Ol {nt : Nat} {fn : Func} {rs : List q9} {g : aM} {w : World} {σ : ae} {R : Out -> ae -> Prop} {ex : Exit} {a : Act} {w' : World} (hrs : nj P nt fn.results.toList = some rs)
    (h:QR [] nt (fun D=>w.heap.size<=D) g w σ (Vn rs R) ex a w'):bodyPostM (WF none) 0 P fn (fun e w'=> ∃ out g' σ',Rel g' w' σ'/\ik σ g w σ' g' w'/\QC g' w' out e/\R out σ') ex a w':=by
 obtain⟨g',e',σ',⟨ms,hms,h1⟩,h2,h3,h4,h5⟩:=h
 have done:pI e' σ' rs (fun vs=>R (.ret (oneOf vs)) σ')->LeavesInM (WF none) 0 P fn a.tmps (fun e w'=> ∃ out g' σ',Rel g' w' σ'/\ik σ g w σ' g' w'/\QC g' w' out e/\R out σ') a.defers .returning w':=fun hres=>by
  rw[hms];refine vz (by simp) ms w' h1 h2 h3 h4 (fun w2 h2 h3 h4 _=>?_);obtain⟨uj,us,r1,r2,r3,r4⟩:=Ti (P:=P) h2 h3 fn.results.toList rs _ hrs hres;exact⟨_,Oj r1,.ret (oneOf uj),g',σ',h2,h4,XC r2 r3,r4⟩
 cases ex with
 | normal=>exact done h5
 | ret=>exact done h5
 | panic chain =>
   obtain⟨v,av,rfl,hv,hq⟩:=h5;show LeavesInM (WF none) 0 P fn a.tmps _ a.defers _ w';rw[hms];exact vz (by simp) ms w' h1 h2 h3 h4 (fun w2 h2 h3 h4 hm=>⟨.panic av,g',σ',h2,h4,⟨v,rfl,hv.mono hm⟩,hq⟩)
 | exit id=>exact h5.elim
 | goto l=>exact h5.elim
 | outgrown=>exact h5.elim
def dK.of_wp {f : FuncId} {fn : Func} {h : Hints} {af : WS} {args : List AV} {σ : ae} {R : Out → ae → Prop} (hf : P.funcs[f]? = some fn) (hn : (fn.name == "runtime.NumGoroutine") = false) (hc : y3 P h fn = some af)
    (hl:args.length<=af.nt) (hw:iU P af.body (Vn af.results R) (q_ args) σ):dK P f args σ R:=by
 unfold y3 at hc;split at hc
 ·rename_i c hb;split at hc
  ·rename_i b rs h1 h2;cases hc;refine⟨⟨fn,hf,by simp[hb],hn⟩,fun g w vs hR hlen hv=>?_⟩;refine PC.1 (callsIn_of_wp_marks (F:=WF none) (n:=0) hf hb trivial (wpIn_mono (Rb c [] none 0 (fun D=>w.heap.size<=D) b _ g w σ (q_ args) _ h1 hw hR ⟨?_,fun t ht=>?_⟩ (lU.nil _ _ _ _ _) (z_.at _ _)) fun ex a w' hq=>Ol h2 hq))
   ·simp only at hl;simp;omega
   ·by_cases h:t<args.length
    ·have h3:t<vs.size:=by omega
     have:=hv t h;simp only[q_];rw[fT,fj h3];simpa using this
    ·have:q_ args t = .undef:=by simp[q_,List.getElem?_eq_none (Nat.le_of_not_lt h)]
     rw[this];exact .undef _
  ·cases hc
 ·cases hc
end
end Go.AM
namespace Go.AM
variable {P:Program}
universe u
inductive Tg {α : Sort u} (K : α):Type where
 | mk
def kM(v:AV){K:AV->Prop}(_:Tg K): Prop:=K v
def y4(σ : ae){K:ae->Prop}(_:Tg K): Prop:=K σ
@[go_sem] def acN (v:AV) (K:AV->Prop):kM v (.mk:Tg K)=K v:=_root_.id rfl
@[go_sem] def acO (v:ae) (K:ae->Prop):y4 v (.mk:Tg K)=K v:=_root_.id rfl
def req(p:Prop){K:Prop}(_:Tg K): Prop:=p/\(p->K)
@[go_sem] def acP (K:Prop):req True (.mk:Tg K)=K:=by simp[req]
def dz(p K:Prop): (p/\K)=req p (.mk:Tg K):=by simp only[req];exact propext ⟨fun h=>⟨h.1,fun _=>h.2⟩,fun h=>⟨h.1,h.2 h.1⟩⟩
@[go_sem ↓] def ae3 (e:Env) (n:Nat):AX.ev e (.t n)=e n:=_root_.id rfl
@[go_sem ↓] def ae4 (e:Env) (a:AV):AX.ev e (.c a)=a:=_root_.id rfl
def F4(c:Bool){a b:AV}(_:Tg (a,b)): AV:=if c then a else b
@[go_sem] def adZ (a b:AV):F4 true (.mk:Tg (a,b))=a:=_root_.id rfl
@[go_sem] def ad0 (a b:AV):F4 false (.mk:Tg (a,b))=b:=_root_.id rfl
@[go_sem ↓] def ad1 (e : Env) (d : Nat) (v : AV) (n : Nat) : eC e (some d) v n = F4 (n == d) (.mk : Tg (v, e n)) := by
  simp only[eC,F4,beq_iff_eq]
@[go_sem ↓] def acQ (e:Env) (v:AV):eC e none v=e:=_root_.id rfl
@[go_sem] def aa_ (a:AV) (az:List AV):q_ (a::az) 0=a:=_root_.id rfl
@[go_sem] def abb (a:AV) (az:List AV) (n:Nat):q_ (a::az) (n+1)=q_ az n:=_root_.id rfl
def y5(v:AV){T E:Prop}(_:Tg (T,E)): Prop :=
 match v with
 | .bool t=>(t=true->T)/\(t=false->E)
 | _=>False
@[go_sem] def abd (T E:Prop):y5 (.bool true) (.mk:Tg (T,E))=T:=by simp[y5]
@[go_sem] def aaE (T E:Prop):y5 (.bool false) (.mk:Tg (T,E))=E:=by simp[y5]
def XD{t:Bool}{T E:Prop}(h:t=true->T)(h':t=false->E): y5 (.bool t) (.mk:Tg (T,E)):=⟨h,h'⟩
@[go_sem ↓] def acR (Q:AQ) (e:Env) (σ : ae):iU P .skip Q e σ = Q .normal e σ:=_root_.id rfl
@[go_sem ↓] def abe (ops:List b_) (Q:AQ) (e:Env) (σ : ae):iU P (.region ops) Q e σ = eD P Q ops e σ:=_root_.id rfl
@[go_sem ↓] def acS (ops:List b_) (jo:List (AX × AX)) (Q:AQ) (e:Env) (σ : ae):iU P (.draw ops jo) Q e σ = eD P (jC jo Q) ops e σ:=_root_.id rfl
@[go_sem ↓] def ad2 (a b:cI) (Q:AQ) (e:Env) (σ : ae):iU P (.seq a b) Q e σ = iU P a (qX (iU P b Q) Q) e σ:=_root_.id rfl
@[go_sem ↓] def acT (c:AX) (a b:cI) (Q:AQ) (e:Env) (σ : ae):iU P (.cond c a b) Q e σ = y5 (c.ev e) (.mk:Tg (iU P a Q e σ,iU P b Q e σ)):=_root_.id rfl
@[go_sem ↓] def abR (id:Nat) (c:cI) (Q:AQ) (e:Env) (σ : ae):iU P (.block id c) Q e σ = iU P c (qY id Q) e σ:=_root_.id rfl
@[go_sem ↓] def acU (id:Nat) (Q:AQ) (e:Env) (σ : ae):iU P (.exit id) Q e σ = Q (.exit id) e σ:=_root_.id rfl
@[go_sem ↓] def ad3 (Q:AQ) (e:Env) (σ : ae):iU P .ret Q e σ = Q .ret e σ:=_root_.id rfl
@[go_sem ↓] def abS (l:Nat) (Q:AQ) (e:Env) (σ : ae):iU P (.label l) Q e σ = Q .normal e σ:=_root_.id rfl
@[go_sem ↓] def acV (l:Nat) (Q:AQ) (e:Env) (σ : ae):iU P (.goto l) Q e σ = Q (.goto l) e σ:=_root_.id rfl
def WT{c:cI}{Q:AQ}{e:Env}{σ : ae}(P:Program)(_:Tg (c,Q,e,σ)): Prop:=WL (iU P c) Q e σ
@[go_sem ↓] def acW (c:cI) (Q:AQ) (e:Env) (σ : ae):iU P (.loop c) Q e σ = WT P (.mk:Tg (c,Q,e,σ)):=_root_.id rfl
def Md{l:Nat}{c r:cI}{Q:AQ}{e:Env}{σ : ae}(P:Program)(_:Tg (l,c,r,Q,e,σ)): Prop:=SY l (iU P c) (iU P r) Q e σ
@[go_sem ↓] def abT (l:Nat) (c r:cI) (Q:AQ) (e:Env) (σ : ae):iU P (.scope l c r) Q e σ = Md P (.mk:Tg (l,c,r,Q,e,σ)):=_root_.id rfl
@[go_sem ↓] def Za (K:Env->ae->Prop) (Q:AQ) (e:Env) (σ : ae):qX K Q .normal e σ = K e σ:=_root_.id rfl
@[go_sem ↓] def abf (K:Env->ae->Prop) (Q:AQ) (i:Nat) (e:Env) (σ : ae):qX K Q (.exit i) e σ = Q (.exit i) e σ:=_root_.id rfl
@[go_sem ↓] def abU (K:Env->ae->Prop) (Q:AQ) (e:Env) (σ : ae):qX K Q .ret e σ = Q .ret e σ:=_root_.id rfl
@[go_sem ↓] def abg (K:Env->ae->Prop) (Q:AQ) (l:Nat) (e:Env) (σ : ae):qX K Q (.goto l) e σ = Q (.goto l) e σ:=_root_.id rfl
@[go_sem ↓] def aaF (K:Env->ae->Prop) (Q:AQ) (v:AV) (e:Env) (σ : ae):qX K Q (.panic v) e σ = Q (.panic v) e σ:=_root_.id rfl
@[go_sem ↓] def Yw (id:Nat) (Q:AQ) (e:Env) (σ : ae):qY id Q .normal e σ = Q .normal e σ:=_root_.id rfl
@[go_sem ↓] def abh (id:Nat) (Q:AQ) (e:Env) (σ : ae):qY id Q .ret e σ = Q .ret e σ:=_root_.id rfl
@[go_sem ↓] def Zb (id:Nat) (Q:AQ) (v:AV) (e:Env) (σ : ae):qY id Q (.panic v) e σ = Q (.panic v) e σ:=_root_.id rfl
def CX(c:Bool){T E:Prop}(_:Tg (T,E)): Prop:=if c then T else E
@[go_sem] def ad4 (T E:Prop):CX true (.mk:Tg (T,E))=T:=by simp[CX]
@[go_sem] def ad5 (T E:Prop):CX false (.mk:Tg (T,E))=E:=by simp[CX]
@[go_sem ↓] def aaG (id i : Nat) (Q : AQ) (e : Env) (σ : ae) : qY id Q (.exit i) e σ = CX (i == id) (.mk : Tg (Q .normal e σ, Q (.exit i) e σ)) := by
  simp only[qY,CX,beq_iff_eq]
@[go_sem ↓] def Zc (jo:List (AX × AX)) (Q:AQ) (e:Env) (σ : ae):jC jo Q .normal e σ = req (og jo e) (.mk:Tg (Q .normal e σ)):=dz _ _
@[go_sem ↓] def aaH (Q:AQ) (v:AV) (e:Env) (σ : ae):jC [] Q (.panic v) e σ = Q (.panic v) e σ:=_root_.id rfl
@[go_sem ↓] def abi (Q:AQ) (e:Env) (σ : ae):eD P Q [] e σ = Q .normal e σ:=_root_.id rfl
@[go_sem ↓] def aaI (Q:AQ) (o:br) (d:Option Nat) (r:List b_) (e:Env) (σ : ae) :
 eD P Q (⟨o,d,none⟩::r) e σ = o.run P e σ (fun v σ'=>kM v (.mk:Tg fun v=>y4 σ' (.mk:Tg fun σ'=>eD P Q r (eC e d v) σ'))) (fun v σ'=>Q (.panic v) e σ'):=rfl
def lV(v:AV)(b:Bool){T E U:Prop}(_:Tg (T,E,U)): Prop :=
 match v with
 | .bool t=>(t=b->T)/\(t = !b->E)
 | .bJ []=>U
 | _=>False
@[go_sem] def abV (T E U:Prop):lV (.bool true) true (.mk:Tg (T,E,U))=T:=by simp[lV]
@[go_sem] def abW (T E U:Prop):lV (.bool false) false (.mk:Tg (T,E,U))=T:=by simp[lV]
@[go_sem] def abX (T E U:Prop):lV (.bool true) false (.mk:Tg (T,E,U))=E:=by simp[lV]
@[go_sem] def abY (T E U:Prop):lV (.bool false) true (.mk:Tg (T,E,U))=E:=by simp[lV]
@[go_sem] def acX (b:Bool) (T E U:Prop):lV (.bJ []) b (.mk:Tg (T,E,U))=U:=by simp[lV]
def Vp{t b:Bool}{T E U:Prop}(h:t=b->T)(h':t = !b->E): lV (.bool t) b (.mk:Tg (T,E,U)):=⟨h,h'⟩
@[go_sem ↓] def Zd (Q:AQ) (o:br) (d:Option Nat) (k:Nat) (b:Bool) (r:List b_) (e:Env) (σ : ae) :
 eD P Q (⟨o,d,some (k,b)⟩::r) e σ = lV (e k) b (.mk:Tg (o.run P (eC e (some k) (.bool b)) σ (fun v σ'=>kM v (.mk:Tg fun v=>y4 σ' (.mk:Tg fun σ'=>eD P Q r (eC (eC e (some k) (.bool b)) d v) σ'))) (fun v σ'=>Q (.panic v) (eC e (some k) (.bool b)) σ'),
  eD P Q r (eC (eC e (some k) (.bool (!b))) d (.bJ [])) σ,eD P Q r (eC e d (.bJ [])) σ)):=by
  simp only[eD,lV,kM,y4];cases e k<;>rfl
section
variable (e:Env) (σ : ae) (K Kp:AV->ae->Prop)
@[go_sem ↓] def aeE (x:AX):br.run P (.mv x) e σ K Kp=K (x.ev e) σ:=_root_.id rfl
@[go_sem ↓] def abZ (cs:List AV):br.run P (.alloc none cs) e σ K Kp=K (.ref σ.length 0) (σ++[.cells cs]):=_root_.id rfl
@[go_sem ↓] def abj (T:TypeId) (cs:List AV):br.run P (.alloc (some T) cs) e σ K Kp=K (.ref σ.length 0) (σ++[.bM (some T) cs]):=_root_.id rfl
@[go_sem ↓] def ab0 (el:El):br.run P (.jI el) e σ K Kp=K (.own el σ.length 0 0 0) (σ++[.vec el []]):=_root_.id rfl
def WU(T:TypeId)(v:AV)(σ : ae){K:AV->ae->Prop}(_:Tg K): Prop:=v.cells.all AV.scalar=true/\K (.ref σ.length 0) (σ++[.bM (some T) v.cells])
@[go_sem ↓] def acY (T:TypeId) (x:AX):br.run P (.vt T x) e σ K Kp=WU T (x.ev e) σ (.mk:Tg K):=_root_.id rfl
@[go_sem] def acZ (T:TypeId) (v:AV) (K:AV->ae->Prop):WU T v σ (.mk:Tg K)=req (v.cells.all AV.scalar=true) (.mk:Tg (K (.ref σ.length 0) (σ++[.bM (some T) v.cells]))):=dz _ _
@[go_sem ↓] def ac0 (f:Fn) (a b:List AX):br.run P (.vp f a b) e σ K Kp=K (.fn f (a.map (AX.ev e)) (b.map (AX.ev e))) σ:=_root_.id rfl
def vt(v:AV)(σ : ae){K:AV->ae->Prop}(_:Tg K): Prop:=v.cells.all AV.scalar=true/\K (.ref σ.length 0) (σ++[.cells v.cells])
@[go_sem ↓] def ad6 (x:AX):br.run P (.box x) e σ K Kp=vt (x.ev e) σ (.mk:Tg K):=_root_.id rfl
def Rc(c a b:AV){K:AV->Prop}(_:Tg K): Prop:=match c with | .bool t=>K (if t then a else b)|_=>False
@[go_sem ↓] def ac1 (c a b : AX) : br.run P (.pick c a b) e σ K Kp = Rc (c.ev e) (a.ev e) (b.ev e) (.mk : Tg fun v => K v σ) := by
  simp only[br.run,Rc];rfl
def loadT(σ : ae)(ag:Bool)(n:Nat)(p:AV){K:AV->Prop}(_:Tg K): Prop:=ia σ ag n p K
def storeT(σ : ae)(n:Nat)(p v:AV){K:ae->Prop}(_:Tg K): Prop:=mL σ n p v K
def gK(op:BinOp)(x y:AV){K:AV->Prop}(_:Tg K): Prop:=jn op x y K
def Ze(op:UnOp)(x:AV){K:AV->Prop}(_:Tg K): Prop:=AP op x K
@[go_sem ↓] def run_load (ag:Bool) (n:Nat) (x:AX):br.run P (.load ag n x) e σ K Kp=loadT σ ag n (x.ev e) (.mk:Tg fun v=>K v σ):=_root_.id rfl
@[go_sem ↓] def run_store (n:Nat) (x v:AX):br.run P (.store n x v) e σ K Kp=storeT σ n (x.ev e) (v.ev e) (.mk:Tg fun σ'=>K (.bJ []) σ'):=_root_.id rfl
@[go_sem ↓] def ad7 (op:BinOp) (x y:AX):br.run P (.bin op x y) e σ K Kp=gK op (x.ev e) (y.ev e) (.mk:Tg fun v=>K v σ):=_root_.id rfl
@[go_sem ↓] def aeF (op:UnOp) (x:AX):br.run P (.un op x) e σ K Kp=Ze op (x.ev e) (.mk:Tg fun v=>K v σ):=_root_.id rfl
def H9 (s : Bool) (x : AV) {K : AV -> Prop} (_ : Tg K) : Prop := match s, x with
    | true,.str s=>K (.int .i64 s.length)
    | false,.ai=>K (.int .i64 0)
    | false,.aF _ _ xs=>K (.int .i64 xs.length)
    | false,.own _ _ _ _ n=>K (.int .i64 n)
    | _,_=>False
@[go_sem ↓] def ad8 (s : Bool) (x : AX) : br.run P (.len s x) e σ K Kp = H9 s (x.ev e) (.mk : Tg fun v => K v σ) := by
  simp only[br.run,H9];rfl
def Vq(x:AV)(i:Nat){K:AV->Prop}(_:Tg K): Prop:=match x with | .bJ vs=>i<vs.length/\K (vs.getD i .undef)|_=>False
@[go_sem ↓] def ad9 (x : AX) (i : Nat) : br.run P (.ext x i) e σ K Kp = Vq (x.ev e) i (.mk : Tg fun v => K v σ) := by
  simp only[br.run,Vq];rfl
def y6(op:Bool)(x:AV)(xs:List AV){K:AV->Prop}(_:Tg K): Prop:=qf op x xs K
@[go_sem ↓] def ad_ (x:AX) (xs:List AX):br.run P (.min x xs) e σ K Kp=y6 true (x.ev e) (xs.map (AX.ev e)) (.mk:Tg fun v=>K v σ):=_root_.id rfl
@[go_sem ↓] def aea (x:AX) (xs:List AX):br.run P (.max x xs) e σ K Kp=y6 false (x.ev e) (xs.map (AX.ev e)) (.mk:Tg fun v=>K v σ):=_root_.id rfl
def Me(K Kp:AV->ae->Prop): Out->ae->Prop
 | .ret r,σ=>K r σ
 | .panic r,σ=>Kp r σ
def CY (P : Program) (q : Bool) (f : AV) (args : List AV) (σ : ae) {K Kp : AV -> ae -> Prop} (_ : Tg (K, Kp)) : Prop := match f with
    | .fn (.func n) first cap =>
      if q then ∃ r,(∀ τ,wB P n (first++args++cap) (σ++ τ) r)/\K r σ
      else dK P n (first++args++cap) σ (Me K Kp)
    | .si l=>if q then False else tE P l args σ (Me K Kp)
    | _=>False
@[go_sem ↓] def ac2 (q : Bool) (f : AX) (args : List AX) : br.run P (.call q f args) e σ K Kp = CY P q (f.ev e) (args.map (AX.ev e)) σ (.mk : Tg (K, Kp)) := by
  simp only[br.run,CY];rfl
def Bh{n:Int}(h : -9223372036854775808<=n)(h':n<=9223372036854775807): eS .i64 n=n:=IntWalk.i64_in n ⟨h,h'⟩
@[go_sem] def aeG (a b:AV) (K:AV->Prop):Rc (.bool true) a b (.mk:Tg K)=kM a (.mk:Tg K):=_root_.id rfl
@[go_sem] def aeH (a b:AV) (K:AV->Prop):Rc (.bool false) a b (.mk:Tg K)=kM b (.mk:Tg K):=_root_.id rfl
@[go_sem] def aeb (v:AV) (K:AV->ae->Prop):vt v σ (.mk:Tg K)=req (v.cells.all AV.scalar=true) (.mk:Tg (K (.ref σ.length 0) (σ++[.cells v.cells]))):=dz _ _
variable (k:IntKind) (a b:Int) (s t:List UInt8) (p q:Bool) (K:AV->Prop)
@[go_sem] def ac3:gK .add (.int k a) (.int k b) (.mk:Tg K)=K (.int k (eS k (a+b))):=by simp[gK,jn]
@[go_sem] def ac4:gK .sub (.int k a) (.int k b) (.mk:Tg K)=K (.int k (eS k (a-b))):=by simp[gK,jn]
@[go_sem] def ac5:gK .mul (.int k a) (.int k b) (.mk:Tg K)=K (.int k (eS k (a*b))):=by simp[gK,jn]
@[go_sem] def ac6:gK .quo (.int k a) (.int k b) (.mk:Tg K)=req (b≠0) (.mk:Tg (K (.int k (eS k (a.tdiv b))))):=by rw[<-dz];simp[gK,jn]
@[go_sem] def ac7:gK .rem (.int k a) (.int k b) (.mk:Tg K)=req (b≠0) (.mk:Tg (K (.int k (a.tmod b)))):=by rw[<-dz];simp[gK,jn]
@[go_sem] def ac8:gK .eql (.int k a) (.int k b) (.mk:Tg K)=K (.bool (a==b)):=by simp[gK,jn]
@[go_sem] def ac9:gK .neq (.int k a) (.int k b) (.mk:Tg K)=K (.bool (!(a==b))):=by simp[gK,jn]
@[go_sem] def ac_:gK .lss (.int k a) (.int k b) (.mk:Tg K)=K (.bool (decide (a<b))):=by simp[gK,jn]
@[go_sem] def ada:gK .leq (.int k a) (.int k b) (.mk:Tg K)=K (.bool (decide (a<=b))):=by simp[gK,jn]
@[go_sem] def adb:gK .gtr (.int k a) (.int k b) (.mk:Tg K)=K (.bool (decide (b<a))):=by simp[gK,jn]
@[go_sem] def ade:gK .geq (.int k a) (.int k b) (.mk:Tg K)=K (.bool (decide (b<=a))):=by simp[gK,jn]
@[go_sem] def ab1:gK .add (.str s) (.str t) (.mk:Tg K)=req (((s.length+t.length:Nat):Int)<=IntKind.i64.max) (.mk:Tg (K (.str (s++t)))):=by rw[<-dz];simp[gK,jn]
@[go_sem] def ab2:gK .eql (.str s) (.str t) (.mk:Tg K)=K (.bool (s==t)):=by simp[gK,jn]
@[go_sem] def ab3:gK .neq (.str s) (.str t) (.mk:Tg K)=K (.bool (!(s==t))):=by simp[gK,jn]
@[go_sem] def aec:Ze .not (.bool p) (.mk:Tg K)=K (.bool (!p)):=_root_.id rfl
@[go_sem] def aeI:H9 true (.str s) (.mk:Tg K)=K (.int .i64 s.length):=_root_.id rfl
@[go_sem] def ab4:H9 false .ai (.mk:Tg K)=K (.int .i64 0):=_root_.id rfl
@[go_sem] def adf (f:Bool) (el:El) (xs:List AV):H9 false (.aF f el xs) (.mk:Tg K)=K (.int .i64 xs.length):=_root_.id rfl
@[go_sem] def adg (el:El) (l m lo n:Nat):H9 false (.own el l m lo n) (.mk:Tg K)=K (.int .i64 n):=_root_.id rfl
@[go_sem] def adh (vs:List AV) (i:Nat):Vq (.bJ vs) i (.mk:Tg K)=req (i<vs.length) (.mk:Tg (K (vs.getD i .undef))):=dz _ _
@[go_sem] def ab5 (op:Bool) (x:AV):y6 op x [] (.mk:Tg K)=K x:=_root_.id rfl
@[go_sem] def aed (ys:List AV):y6 true (.int k a) (.int k b::ys) (.mk:Tg K)=y6 true (.int k (if b<a then b else a)) ys (.mk:Tg K):=_root_.id rfl
@[go_sem] def aee (ys:List AV):y6 false (.int k a) (.int k b::ys) (.mk:Tg K)=y6 false (.int k (if a<b then b else a)) ys (.mk:Tg K):=_root_.id rfl
@[go_sem ↓] def adi (K:List AV->Prop):pI e σ [] K=K []:=_root_.id rfl
@[go_sem ↓] def adj (t:Nat) (r:List q9) (K:List AV->Prop):pI e σ (.tmp t::r) K=pI e σ r fun vs=>K (e t::vs):=_root_.id rfl
end
