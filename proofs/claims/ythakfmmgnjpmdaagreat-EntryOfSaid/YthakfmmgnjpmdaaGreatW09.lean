/- Part. -/
import Derived.Test.YthakfmmgnjpmdaaGreatW08
import Derived.Scope
import Derived.IntWalk
set_option linter.all false
namespace Go.AM
def Bb: cY->Option Nat
 | .seq a b => match Bb a with
   | some l=>some l
   | none=>Bb b
 | .label l=>some l
 | _=>none
def jW: cY->Nat->Option cY
 | .seq a b, l => match jW a l with
   | some r=>some (.seq r b)
   | none=>jW b l
 | .label l',l=>if l'==l then some .skip else none
 | _,_=>none
section
variable (P:Program)
def holds(nt:Nat)(gs:List cz): List cz :=
 (List.range (gs.foldl (fun m g => match g.op with
   | .mC k _ _=>Nat.max m (k+1-nt)
   | .qF k _ _ _ _=>Nat.max m (k+1-nt)
   | .qG k _ _ _ _=>Nat.max m (k+1-nt)
   | _=>m) 0)).map fun i=>⟨.hold,some (nt+i),none⟩
def FU {X : List Deferred} {P : Program} {Q : AQ} {nt : Nat} {B : Nat -> Prop} {w : World} {tmps : Array Value} {ds : List Deferred} {gs : List cz} : ∀ (l : List Nat) (g : aM) (σ : ae) (e : Env), ef P Q ((l.map fun i => (⟨.hold, some (nt + i), none⟩ : cz)) ++ gs) e σ -> Rel g w σ -> f_ nt g w e tmps -> ku X B σ g w ds ->
    ∃ g' σ' e',ef P Q gs e' σ'/\Rel g' w σ'/\f_ nt g' w e' tmps/\ku X B σ' g' w ds/\fN σ g w σ' g' w
 | [],g,σ,e,h,hR,hE,hd=>⟨g,σ,e,h,hR,hE,hd,.refl _ _ _⟩
 | i :: l, g, σ, e, h, hR, hE, hd => by
   rw[bf,cV]at h;have h:ef P Q ((l.map fun i=>(⟨.hold,some (nt+i),none⟩:cz))++gs) (upd e (some (nt+i)) (.ref σ.length 0)) (σ++[.resv]):=h;obtain⟨r1,r2⟩:=hR.hold
   have Mc:f_ nt (g.push 0 none 0) w (upd e (some (nt+i)) (.ref σ.length 0)) tmps:=by
    refine⟨hE.size,fun t ht=>?_⟩;have hne:t≠nt+i:=by omega
    simp only[upd,if_neg hne];exact(hE.mono r2.mono).rel t ht
   obtain⟨g',σ',e',h1,h2,h3,h4,h5⟩:=FU l _ _ _ h r1 Mc (hd.step r2);exact⟨g',σ',e',h1,h2,h3,h4,r2.trans h5⟩
def rcs: Code->List (Code × Code)
 | .rangeFunc _ _ a b=>[(a,b)]
 | .seq a b=>rcs a++rcs b
 | .cond _ a b=>rcs a++rcs b
 | .block _ a=>rcs a
 | .loop a=>rcs a
 | .scope a=>rcs a
 | _=>[]
def ahE(P:Program)(n k:Nat): Code × Code:=match(P.funcs[n]?).bind (·.body)with
 | some c=>(rcs c).getD k (.skip,.skip)
 | none=>(.skip,.skip)
def dh(nt:Nat)(h:Hints)(rd:Bool): Code->Option cY
 | .skip=>some .skip
 | .region _ ops false => match lg P nt h false ops ops.toList with
   | some gs=>some (.region gs)
   | none=>some .stop
 | .region _ ops true => match lg P nt h true ops ops.toList with
   | some gs => let p := aaY h ops
     if(YO ops.size (lI ops) && O5 ops.size p && Fg ops.size (Dt (lI ops) p) (s9 gs p)) && P.follows .mixedOrders then some (.draw (holds nt (s9 gs p)++s9 gs p) (uv ops.size (Dt (lI ops) p) (s9 gs p)))else some .stop
   | none=>some .stop
 | .seq a b => match dh nt h rd a, dh nt h rd b with
   | some x,some y=>some (.seq x y)
   | _,_=>none
 | .cond c a b => match cX nt c, dh nt h rd a, dh nt h rd b with
   | some z,some x,some y=>some (.cond z x y)
   | _,_,_=>none
 | .block id c=>(dh nt h rd c).map (.block id)
 | .loop c=>(dh nt h rd c).map .loop
 | .exit id=>some (.exit id)
 | .ret=>some .ret
 | .scope c => match dh nt h rd c with
   | some x => match Bb x with
     | some l => match jW x l with
       | some r=>some (.scope l x r)
       | none=>none
     | none=>none
   | none=>none
 | .label l=>some (.label l)
 | .goto l=>some (.goto l)
 | .rangeFunc _ _ _ _=>none
 | .refuse _=>some .stop
end
def Dv(ro:Option Nat)(P:Program)(m:Machine): m.fenced P (WF ro):=fenced_wide P m
section
variable {P:Program}
def QR.step{X:List Deferred}{nt:Nat}{B:Nat->Prop}{g g':aM}{w w':World}{σ σ':ae}{Q:AQ}(dI:fN σ g w σ' g' w'){ex:Exit}{a:Act}{w2:World}(h:QR X nt B g' w' σ' Q ex a w2): QR X nt B g w σ Q ex a w2:=by
 obtain⟨g2,e2,σ2,h1,h2,h3,h4,h5⟩:=h;exact⟨g2,e2,σ2,h1,h2,h3,dI.trans h4,h5⟩
def Sound(P:Program)(nt:Nat)(h:Hints)(c:Code): Prop :=
 ∀ (X : List Deferred) (ro : Option Nat) (wn : Nat) (B : Nat -> Prop) (ac : cY) (Q : AQ) (g : aM) (w : World) (σ : ae) (e : Env) (a : Act),
   dh P nt h ro.isSome c=some ac->iu P ac Q e σ->Rel g w σ->f_ nt g w e a.tmps->ku X B σ g w a.defers->Low ac B w->c.wpIn (WF ro) wn P (QR X nt B g w σ Q) a w
def O7{nt:Nat}{h:Hints}{rd:Bool}{l:Nat}: ∀(c:Code) (ac ar:cY),dh P nt h rd c=some ac->jW ac l=some ar-> ∃ rest,findLabel c l=some rest/\dh P nt h rd rest=some ar:=by
 intro c
 induction c with
 | seq x y yB v8 =>
   intro ac ar hc hf;simp only[dh]at hc;split at hc
   ·rename_i ax ay h1 h2;cases hc;simp only[jW]at hf;split at hf
    ·rename_i r hr;cases hf;obtain⟨rest,r1,r2⟩:=yB ax r h1 hr;exact⟨.seq rest y,by simp[findLabel,r1],by simp[dh,r2,h2]⟩
    ·rename_i hr;obtain⟨rest,r1,r2⟩:=v8 ay ar h2 hf;refine⟨rest,?_,r2⟩
     have:findLabel x l=none:=by
      have key:∀ (c:Code) (ac:cY),dh P nt h rd c=some ac->jW ac l=none->findLabel c l=none:=by
       intro c
       induction c with
       | seq x y yB v8 =>
         intro ac hc hf;simp only[dh]at hc;split at hc
         ·rename_i ax ay h1 h2;cases hc;simp only[jW]at hf;split at hf
          ·cases hf
          ·rename_i hr;simp[findLabel,yB ax h1 hr,v8 ay h2 hf]
         ·cases hc
       | label l' =>
         intro ac hc hf;cases hc;simp only[jW]at hf;simp only[findLabel];split at hf
         ·cases hf
         ·rename_i hh;rw[if_neg hh]
       | _=>intros;rfl
      exact key x ax h1 hr
     simp[findLabel,this,r1]
   ·cases hc
 | label l' =>
   intro ac ar hc hf;cases hc;simp only[jW]at hf;split at hf
   ·rename_i hh;cases hf;exact⟨.skip,by simp only[findLabel];rw[if_pos hh],rfl⟩
   ·cases hf
 | region id ops d =>
   intro ac ar hc hf;cases d<;>simp only[dh]at hc
   ·split at hc<;>(cases hc;cases hf)
   ·split at hc
    ·split at hc<;>(cases hc;cases hf)
    ·cases hc;cases hf
 | cond z x y =>
   intro ac ar hc hf;simp only[dh]at hc;split at hc
   ·cases hc;cases hf
   ·cases hc
 | block id x=>intro ac ar hc hf;simp only[dh]at hc;obtain⟨gs,_,rfl⟩:=Option.map_eq_some_iff.1 hc;cases hf
 | loop x=>intro ac ar hc hf;simp only[dh]at hc;obtain⟨gs,_,rfl⟩:=Option.map_eq_some_iff.1 hc;cases hf
 | scope x =>
   intro ac ar hc hf;simp only[dh]at hc;split at hc
   ·split at hc
    ·split at hc
     ·cases hc;cases hf
     ·cases hc
    ·cases hc
   ·cases hc
 | _=>intro ac ar hc hf;cases hc<;>cases hf
def WE: ∀(c:cY) (l:Nat) (r:cY),jW c l=some r->r.mK=true->c.mK=true:=by
 intro c
 induction c with
 | seq a b WG WH =>
   intro l r h hr;simp only[jW]at h;split at h
   ·rename_i r' h';cases h;simp only[cY.mK,bO]at hr ⊢;exact hr.imp (WG l r' h') id
   ·simp only[cY.mK,bO];exact .inr (WH l r h hr)
 | label l'=>intro l r h hr;simp only[jW]at h;split at h<;>cases h;cases hr
 | _=>intro l r h hr;cases h
def IB{nt:Nat}{h:Hints}: Sound P nt h .skip:=fun X ro wn B ac Q g w σ e a hc hw hR hE hd hB=>by
 cases hc;exact wpIn_skip ⟨g,e,σ,hd,hR,hE,.refl _ _ _,hw⟩
def Mf {nt : Nat} {h : Hints} {x y : Code} (yB : Sound P nt h x) (v8 : Sound P nt h y) : Sound P nt h (.seq x y) := by
    intro X ro wn B ac Q g w σ e a hc hw hR hE hd hB;simp only[dh]at hc;split at hc
    ·rename_i ax ay h1 h2;cases hc;refine wpIn_seq (wpIn_mono (yB X ro wn B ax _ g w σ e a h1 hw hR hE hd (hB.sub (by simp[cY.mK];exact fun h=> .inl h))) ?_);rintro ex a' w' ⟨g',e',σ',r1,r2,r3,r4,r5⟩;cases ex with
     | normal =>
       refine wpIn_mono (v8 X ro wn B ay Q g' w' σ' e' a' h2 r5 r2 r3 r1 ((hB.sub (by simp[cY.mK];exact fun h=> .inr h)).size r4.size)) fun ex a2 w2 hq=>hq.step r4
     | exit id=>exact⟨g',e',σ',r1,r2,r3,r4,r5⟩
     | goto l=>exact⟨g',e',σ',r1,r2,r3,r4,r5⟩
     | ret=>exact⟨g',e',σ',r1,r2,r3,r4,r5⟩
     | panic ch=>exact⟨g',e',σ',r1,r2,r3,r4,r5⟩
     | outgrown=>exact r5.elim
    ·cases hc
def pz{b:Frame}{a:Act}{k:List Item}{cs:List Frame}{w:World}{c:Code}: Go.step P (lone (b.atR a (.code (.scope c)::k)) cs w) = .next (lone (b.atR a (.code c:: .inScope c::k)) cs w) :=
 step_lone_go (by simp[stepG,stepG.exec,Frame.atR])
def Cl{b:Frame}{a:Act}{k:List Item}{cs:List Frame}{w:World}{c:Code}: Go.step P (lone (b.atR a (.inScope c::k)) cs w) = .next (lone (b.atR a k) cs w) :=
 step_lone_go (by simp[stepG,stepG.exec,Frame.atR])
def Rq{nt:Nat}{h:Hints}: ∀(c:Code),Sound P nt h c/\ ∀ l rest,findLabel c l=some rest->Sound P nt h rest:=by
 intro c
 induction c with
 | skip=>exact⟨IB,fun _ _ h=>by cases h⟩
 | region id ops draw =>
   refine⟨?_,fun _ _ h=>by cases h⟩;intro X ro wn B ac Q g w σ e a hc hw hR hE hd hB;cases draw with
   | true =>
     simp only[dh]at hc;split at hc
     ·rename_i gs h1;split at hc
      ·rename_i hok;simp only[aC]at hok;cases hc;obtain⟨g1,σ1,e1,k1,k2,k3,k4,k5⟩:=FU _ g σ e hw hR hE hd;exact wpIn_mono (Ut h1 hok.1.1.1 hok.1.1.2 hok.1.2 hok.2 k1 k2 k3 k4) fun _ _ _ hq=>QR.step k5 hq
      ·cases hc;exact hw.elim
     ·cases hc;exact hw.elim
   | false =>
     simp only[dh]at hc;split at hc
     ·rename_i gs h1;cases hc;refine wpIn_region ?_;have:=L_ (ro:=ro) (wn:=wn) (B:=B) (ops:=ops) (Q:=Q) (g0:=g) (w0:=w) (mY:=σ) ops.toList 0 gs g w σ e a h1 (fun j _=>by simp) hw hR hE hd (.refl _ _ _);rw[iN];simpa using this
     ·cases hc;exact hw.elim
 | seq x y yB v8 =>
   refine⟨Mf yB.1 v8.1,fun l rest hf=>?_⟩;simp only[findLabel]at hf;split at hf
   ·rename_i r hr;cases hf;exact Mf (yB.2 l r hr) v8.1
   ·exact v8.2 l rest hf
 | cond z x y yB v8 =>
   refine⟨?_,fun _ _ h=>by cases h⟩
   replace yB:=yB.1
   replace v8:=v8.1
   intro X ro wn B ac Q g w σ e a hc hw hR hE hd hB;simp only[dh]at hc;split at hc
   ·rename_i az ax ay h1 h2 h3;cases hc;have v1:=dB h1 hE;simp only[iu]at hw;generalize AX.ev e az=zv at v1 hw;generalize dI:a.eval z=cv at v1;cases v1<;>simp only at hw;rename_i t;refine wpIn_cond_split dI (fun ht=>?_) (fun ht=>?_)
    ·exact yB X ro wn B ax Q g w σ e a h2 (hw.1 ht) hR hE hd (hB.sub (by simp[cY.mK];exact fun h=> .inl h))
    ·exact v8 X ro wn B ay Q g w σ e a h3 (hw.2 ht) hR hE hd (hB.sub (by simp[cY.mK];exact fun h=> .inr h))
   ·cases hc
 | block id x ih =>
   refine⟨?_,fun _ _ h=>by cases h⟩
   replace ih:=ih.1
   intro X ro wn B ac Q g w σ e a hc hw hR hE hd hB;simp only[dh,aZ]at hc;obtain⟨ax,h1,rfl⟩:=hc;refine wpIn_block (wpIn_mono (ih X ro wn B ax _ g w σ e a h1 hw hR hE hd (hB.sub (by simp[cY.mK]))) ?_);rintro ex a' w' ⟨g',e',σ',r1,r2,r3,r4,r5⟩;cases ex with
   | exit i =>
     simp only[s7]at r5;simp only[Exit.inBlock];split
     ·rename_i e1;rw[if_pos e1]at r5;exact⟨g',e',σ',r1,r2,r3,r4,r5⟩
     ·rename_i e1;rw[if_neg e1]at r5;exact⟨g',e',σ',r1,r2,r3,r4,r5⟩
   | normal=>exact⟨g',e',σ',r1,r2,r3,r4,r5⟩
   | goto l=>exact⟨g',e',σ',r1,r2,r3,r4,r5⟩
   | ret=>exact⟨g',e',σ',r1,r2,r3,r4,r5⟩
   | panic ch=>exact⟨g',e',σ',r1,r2,r3,r4,r5⟩
   | outgrown=>exact r5.elim
 | loop x ih =>
   refine⟨?_,fun _ _ h=>by cases h⟩
   replace ih:=ih.1
   intro X ro wn B ac Q g w σ e a hc hw hR hE hd hB;simp only[dh,aZ]at hc;obtain⟨ax,h1,rfl⟩:=hc;obtain⟨I,⟨n0,hI⟩,acq⟩:=hw
   have key:∀ (n:Nat) (g1:aM) (w1:World) (σ1:ae) (e1:Env) (a1:Act),I n e1 σ1->Rel g1 w1 σ1->f_ nt g1 w1 e1 a1.tmps->ku X B σ1 g1 w1 a1.defers->Low (.loop ax) B w1 ->
    ∀(b:Frame) (k:List Item) (cs:List Frame),b.roundOf=ro-> ∃ ex a' w',QR X nt B g1 w1 σ1 Q ex a' w'/\ArrivesIn (Machine.fenced P (WF ro)) P (lone (b.atR a1 (.code x:: .inLoop x::k)) cs w1) b k cs ex a' w':=by
    intro n
    induction n using Nat.strongRecOn with
    | _ n ihn =>
      intro g1 w1 σ1 e1 a1 hI1 hR1 xj Ix WI b k cs hro;obtain⟨ex,a',w',hq,lQ⟩:=ih X ro wn B ax _ g1 w1 σ1 e1 a1 h1 (acq n e1 σ1 hI1) hR1 xj Ix (WI.sub (by simp[cY.mK])) b (.inLoop x::k) cs hro trivial (Kr _ _);obtain⟨g',e',σ',r1,r2,r3,r4,r5⟩:=hq;cases ex with
      | normal =>
        obtain⟨m,hlt,hI2⟩:=r5;obtain⟨WJ,a2,w2,WK,IC⟩:=ihn m hlt g' w' σ' e' a' hI2 r2 r3 r1 (WI.size r4.size) b k cs hro;exact⟨WJ,a2,w2,WK.step r4,.of_steps (StepsIn.trans lQ (.one (Dv ro P _) stepR_inLoop)) IC⟩
      | exit id=>exact⟨_,a',w',⟨g',e',σ',r1,r2,r3,r4,r5⟩,.pass (x:= .inLoop x) rfl (fun _ _=> .inl (by simp)) lQ⟩
      | goto l=>exact⟨_,a',w',⟨g',e',σ',r1,r2,r3,r4,r5⟩,.pass (x:= .inLoop x) rfl (fun _ _=> .inl (by simp)) lQ⟩
      | ret=>exact⟨_,a',w',⟨g',e',σ',r1,r2,r3,r4,r5⟩,.pass (x:= .inLoop x) rfl (fun _ _=> .inl (by simp)) lQ⟩
      | panic ch=>exact⟨_,a',w',⟨g',e',σ',r1,r2,r3,r4,r5⟩,.pass (x:= .inLoop x) rfl (fun _ _=> .inl (by simp)) lQ⟩
      | outgrown=>exact r5.elim
   intro b k cs hro hF hr;obtain⟨ex,a',w',hq,lQ⟩:=key _ g w σ e a hI hR hE hd hB b k cs hro;exact⟨ex,a',w',hq,.of_steps (.one (Dv ro P _) stepR_loop) lQ⟩
 | exit id=>exact⟨fun X ro wn B ac Q g w σ e a hc hw hR hE hd hB=>by cases hc;exact wpIn_exit ⟨g,e,σ,hd,hR,hE,.refl _ _ _,hw⟩,fun _ _ h=>by cases h⟩
 | ret=>exact⟨fun X ro wn B ac Q g w σ e a hc hw hR hE hd hB=>by cases hc;exact wpIn_ret ⟨g,e,σ,hd,hR,hE,.refl _ _ _,hw⟩,fun _ _ h=>by cases h⟩
 | rangeFunc f ps x y yB v8=>exact⟨fun _ _ _ _ _ _ _ _ _ _ _ hc=>(by cases hc),fun _ _ h=>by cases h⟩
 | refuse s=>exact⟨fun X ro wn B ac Q g w σ e a hc hw=>(by cases hc;exact hw.elim),fun _ _ h=>by cases h⟩
 | goto l=>exact⟨fun X ro wn B ac Q g w σ e a hc hw hR hE hd hB=>by cases hc;exact wpIn_goto ⟨g,e,σ,hd,hR,hE,.refl _ _ _,hw⟩,fun _ _ h=>by cases h⟩
 | label l =>
   refine⟨fun X ro wn B ac Q g w σ e a hc hw hR hE hd hB=>by cases hc;exact wpIn_label ⟨g,e,σ,hd,hR,hE,.refl _ _ _,hw⟩,fun l' rest hf=>?_⟩;simp only[findLabel]at hf;split at hf
   ·cases hf;exact IB
   ·cases hf
 | scope x ih =>
   refine⟨?_,fun _ _ h=>by cases h⟩;intro X ro wn B ac Q g w σ e a hc hw hR hE hd hB;simp only[dh]at hc;split at hc
   ·rename_i ax h1;split at hc
    ·rename_i l _;split at hc
     ·rename_i ar h2;cases hc;obtain⟨rest,hf,hcr⟩:=O7 x ax ar h1 h2;have hs:=ih.2 l rest hf;obtain⟨J,acr,IE⟩:=hw;intro b k cs hro hF hr;have Cm:∀ m:Machine,m.fenced P (WF ro):=Dv ro P;have hg:gotoIn l (.inScope x::k)=some (.code rest:: .inScope x::k):=by simp[gotoIn,hf]
      have key:∀ (n:Nat) (g1:aM) (w1:World) (σ1:ae) (e1:Env) (a1:Act),J n e1 σ1->Rel g1 w1 σ1->f_ nt g1 w1 e1 a1.tmps->ku X B σ1 g1 w1 a1.defers->Low ax B w1 ->
       ∃ ex a' w',QR X nt B g1 w1 σ1 Q ex a' w'/\ArrivesIn (Machine.fenced P (WF ro)) P (lone (b.atR a1 (.code rest:: .inScope x::k)) cs w1) b k cs ex a' w':=by
       intro n
       induction n using Nat.strongRecOn with
       | _ n ihn =>
         intro g1 w1 σ1 e1 a1 hJ1 hR1 xj Ix WI;obtain⟨ex,a',w',hq,lQ⟩:=hs X ro wn B ar _ g1 w1 σ1 e1 a1 hcr (IE n e1 σ1 hJ1) hR1 xj Ix (WI.sub (WE ax l ar h2)) b (.inScope x::k) cs hro trivial (Kr _ _);obtain⟨g',e',σ',r1,r2,r3,r4,r5⟩:=hq;cases ex with
         | normal=>exact⟨.normal,a',w',⟨g',e',σ',r1,r2,r3,r4,r5⟩,StepsIn.trans lQ (.one (Cm _) Cl)⟩
         | exit id=>exact⟨.exit id,a',w',⟨g',e',σ',r1,r2,r3,r4,r5⟩,fun k' hk=>lQ.1 k' (by simp[exitTo,hk]),fun rD hk=>lQ.2 rD (by simp[exitTo,hk])⟩
         | goto l' =>
           obtain⟨rfl,m,hlt,hJ2⟩:=r5;obtain⟨WJ,a2,w2,WK,IC⟩:=ihn m hlt g' w' σ' e' a' hJ2 r2 r3 r1 (WI.size r4.size);exact⟨WJ,a2,w2,WK.step r4,.of_steps (lQ.1 _ hg) IC⟩
         | ret=>exact⟨.ret,a',w',⟨g',e',σ',r1,r2,r3,r4,r5⟩,lQ⟩
         | panic ch=>exact⟨.panic ch,a',w',⟨g',e',σ',r1,r2,r3,r4,r5⟩,lQ⟩
         | outgrown=>exact r5.elim
      obtain⟨ex,a',w',hq,lQ⟩:=ih.1 X ro wn B ax _ g w σ e a h1 acr hR hE hd (hB.sub (by simp[cY.mK])) b (.inScope x::k) cs hro trivial (Kr _ _);obtain⟨g',e',σ',r1,r2,r3,r4,r5⟩:=hq;cases ex with
      | normal=>exact⟨.normal,a',w',⟨g',e',σ',r1,r2,r3,r4,r5⟩,.head (Cm _) pz (StepsIn.trans lQ (.one (Cm _) Cl))⟩
      | exit id=>exact⟨.exit id,a',w',⟨g',e',σ',r1,r2,r3,r4,r5⟩,fun k' hk=> .head (Cm _) pz (lQ.1 k' (by simp[exitTo,hk])),fun rD hk=>let ⟨k1,p1,p2⟩:=lQ.2 rD (by simp[exitTo,hk]);⟨k1,p1,.head (Cm _) pz p2⟩⟩
      | goto l' =>
        obtain⟨rfl,n0,hJ2⟩:=r5;obtain⟨WJ,a2,w2,WK,IC⟩:=key _ g' w' σ' e' a' hJ2 r2 r3 r1 ((hB.sub (by simp[cY.mK])).size r4.size);exact⟨WJ,a2,w2,WK.step r4,.of_steps (.head (Cm _) pz (lQ.1 _ hg)) IC⟩
      | ret=>exact⟨.ret,a',w',⟨g',e',σ',r1,r2,r3,r4,r5⟩,.of_steps (.one (Cm _) pz) lQ⟩
      | panic ch=>exact⟨.panic ch,a',w',⟨g',e',σ',r1,r2,r3,r4,r5⟩,.of_steps (.one (Cm _) pz) lQ⟩
      | outgrown=>exact r5.elim
     ·cases hc
    ·cases hc
   ·cases hc
def wu{nt:Nat}{h:Hints}(c:Code): Sound P nt h c:=(Rq c).1
inductive pF where
 | tmp (t:Nat)
 | cell (t:Nat) (ag:Bool) (n:Nat)
structure aaz where
 nt:Nat
 results:List pF
 body:cY
def lj(P:Program)(nt:Nat): List ResultVar->Option (List pF)
 | []=>some []
 | .tmp t::r=>if t<nt then(lj P nt r).map (.tmp t:: ·)else none
 | .cell a t :: r => match lP P t, P.info? t with
   | some ag,some i=>if a<nt && (ag || i.size==1)then (lj P nt r).map (.cell a ag i.size:: ·)else none
   | _,_=>none
def Bc(P:Program)(h:Hints)(fn:Func): Option aaz :=
 match fn.body with
 | some c => match dh P fn.ntmps h false c, lj P fn.ntmps fn.results.toList with
   | some b,some rs=>some ⟨fn.ntmps,rs,b⟩
   | _,_=>none
 | none=>none
def lz(e:Env)(σ : ae): List pF->(List AV->Prop)->Prop
 | [],K=>K []
 | .tmp t::r,K=>lz e σ r fun vs=>K (e t::vs)
 | .cell t ag n::r,K=>iR σ ag n (e t) fun v=>lz e σ r fun vs=>K (v::vs)
def oneOf: List AV->AV
 | [v]=>v
 | vs=> .bJ vs
def GY(rs:List pF)(R:Out->ae->Prop): AQ
 | .normal,e,σ=>lz e σ rs fun vs=>R (.ret (oneOf vs)) σ
 | .ret,e,σ=>lz e σ rs fun vs=>R (.ret (oneOf vs)) σ
 | .panic v,_,σ=>R (.panic v) σ
 | _,_,_=>False
def kg(args:List AV): Env:=fun n=>args.getD n .undef
def Mg {nt : Nat} {g : aM} {w : World} {σ : ae} {e : Env} {tmps : Array Value} (hR : Rel g w σ) (hE : f_ nt g w e tmps) : ∀ (rv : List ResultVar) (rs : List pF) (K : List AV -> Prop), lj P nt rv = some rs -> lz e σ rs K ->
    ∃ (t_ : List AV) (us : List Value), (rv.mapM fun (r : ResultVar) => (match r with
      | ResultVar.tmp t=>pure (tmps.getD t Go.undef)
      | ResultVar.cell a t=>do loadVar t (← asAddr (tmps.getD a Go.undef)):Sem Value)).run P w=Result.ok us w/\t_.length=us.length/\(∀ i,i<t_.length->VR g w (t_.getD i .undef) (us.getD i Go.undef))/\K t_:=by
 intro rv
 induction rv with
 | nil=>intro rs K h hK;cases h;exact⟨[],[],rfl,rfl,fun i hi=>absurd hi (Nat.not_lt_zero _),hK⟩
 | cons r rv ih =>
   intro rs K h hK;cases r with
   | tmp t =>
     simp only[lj]at h;split at h
     ·rename_i ht;simp only[aZ]at h;obtain⟨rs',h1,rfl⟩:=h;obtain⟨t_,us,r1,r2,r3,r4⟩:=ih rs' _ h1 hK;refine⟨e t::t_,tmps.getD t Go.undef::us,?_,by simp[r2],fun i hi=>?_,r4⟩
      ·rw[List.mapM_cons,Sem.run_bind];simp only[Sem.run_pure,Result.andThen_ok,Sem.run_bind,r1]
      ·cases i with
       | zero=>simpa using hE.rel t ht
       | succ i=>simpa using r3 i (by simpa using hi)
     ·cases h
   | cell a t =>
     simp only[lj]at h;split at h
     ·rename_i ag ti hA hi;split at h
      ·rename_i hh;simp only[aC,decide_eq_true_eq,bO,beq_iff_eq]at hh;simp only[aZ]at h;obtain⟨rs',h1,rfl⟩:=h
       have hone:ag=false->ti.size=1:=fun e1=>by
        rcases hh.2 with h|h
        ·rw[e1]at h;cases h
        ·exact h
       have hv:=hE.rel a hh.1;obtain⟨u,av,l1,l2,l3⟩:=L1 (P:=P) hR hA hi hone hv hK
       obtain⟨A,yw⟩:∃ A,tmps.getD a Go.undef = .pointer (some A):=by
        simp only[lz]at hK;generalize e a=p at hv hK;generalize tmps.getD a Go.undef=pv at hv;cases hv<;>simp only[iR]at hK
        ·rename_i h;obtain⟨_,A,h,_⟩:=h;exact⟨A,h⟩
        ·exact⟨_,rfl⟩
        ·rename_i h;obtain⟨_,_,A,h,_⟩:=h;exact⟨A,h⟩
       obtain⟨t_,us,r1,r2,r3,r4⟩:=ih rs' _ h1 l3;refine⟨av::t_,u::us,?_,by simp[r2],fun i hi=>?_,r4⟩
       ·rw[yw]at l1;simp only[Instr.loadAt,Instr.sureAddr,Sem.run_bind,Sem.run_pure,Result.andThen_ok]at l1;have ha:(asAddr (tmps.getD a Go.undef)).run P w = .ok A w:=by rw[yw];rfl
        rw[List.mapM_cons,Sem.run_bind];simp only[Sem.run_bind,ha,Result.andThen_ok,l1,r1,Sem.run_pure]
       ·cases i with
        | zero=>simpa using l2
        | succ i=>simpa using r3 i (by simpa using hi)
      ·cases h
     ·cases h
def za{fn:Func}{tmps:Array Value}{us:List Value}{w:World} (h:(fn.results.toList.mapM fun(r:ResultVar)=>(match r with
 | ResultVar.tmp t=>pure (tmps.getD t Go.undef)
 | ResultVar.cell a t => do loadVar t (← asAddr (tmps.getD a Go.undef)) : Sem Value)).run P w = Result.ok us w) :
    (results fn tmps).run P w = .ok (if h:us.toArray.size=1 then us.toArray[0]else .tuple us.toArray) w:=by
 unfold results;rw[Array.mapM_eq_mapM_toList];simp only[Sem.run_bind,Sem.run_map];exact(congrArg (fun r:Result (List Value)=>(r.andThen fun a w'=>Result.ok a.toArray w').andThen fun a w'=>Sem.run P (pure (if h:a.size=1 then a[0]else Value.tuple a):Sem Value) w') h).trans rfl
def qc {nt : Nat} {fn : Func} {tmps : Array Value} {R : Ending -> World -> Prop} {g0 : aM} {w0 : World} {mY : ae} {g : aM} {σ : ae} {e : Env} {u : FrameMode} {X : List Deferred} (hu : u ≠ .run) : ∀ (ds : List Deferred) (w : World),
    xh (fun D=>w0.heap.size<=D) σ g w ds->Rel g w σ->f_ nt g w e tmps->fN mY g0 w0 σ g w->(∀ w2,Rel g w2 σ->f_ nt g w2 e tmps->fN mY g0 w0 σ g w2->lu g w g w2->LeavesInM (WF none) 0 P fn tmps R X u w2)->LeavesInM (WF none) 0 P fn tmps R (ds++X) u w
 | [],w,_,hR,hE,hv,xk=>xk w hR hE hv (.refl _ _)
 | d :: ds, w, hd, hR, hE, hv, xk => by
   obtain⟨D,h1,h2,h3,h4,h5⟩:=hd.mark d (by simp);obtain⟨r1,r2,r3⟩:=hR.ab4 (w':=w.putObj D (.deferred none)) hv h2 h4 h5 (by simp) rfl rfl rfl (fun c hc=>World.putObj_heap_other hc);refine⟨hu,.inl ⟨D,_,by rw[h1],run_takeDeferred h3,qc hu ds _ ⟨(List.nodup_cons.1 hd.nodup).2,fun d' hd'=>?_⟩ r1 (hE.mono r3) r2 (fun w2 a1 a2 a3 a4=>xk w2 a1 a2 a3 (r3.trans a4))⟩⟩;obtain⟨D',k1,k2,k3,k4,k5⟩:=hd.mark d' (by simp[hd']);refine⟨D',k1,k2,(World.putObj_heap_other (fun e=>?_)).trans k3,k4,k5⟩;subst e;exact(List.nodup_cons.1 hd.nodup).1 (by rw[h1,<-k1];exact hd')
def S3{g:aM}{w:World}{t_:List AV}{us:List Value}(r2:t_.length=us.length)(r3:∀ i,i<t_.length->VR g w (t_.getD i .undef) (us.getD i Go.undef)): VR g w (oneOf t_) (if h:us.toArray.size=1 then us.toArray[0]else .tuple us.toArray):=by
 match t_,us,r2,r3 with
 | [av],[u],_,r3=>simpa[oneOf]using r3 0 (by simp)
 | [],[],_,r3=>exact .bJ [] #[] rfl (fun i hi=>absurd hi (dY _))
 | a1 :: a2 :: az, u1 :: u2 :: us, r2, r3 =>
   have:¬ (u1::u2::us).toArray.size=1:=by simp
   rw[dif_neg this];exact .bJ _ _ (by simpa using r2) (fun i hi=>by simpa using r3 i hi)
def FV {nt : Nat} {fn : Func} {rs : List pF} {g : aM} {w : World} {σ : ae} {R : Out -> ae -> Prop} {ex : Exit} {a : Act} {w' : World} (Mh : lj P nt fn.results.toList = some rs)
    (h:QR [] nt (fun D=>w.heap.size<=D) g w σ (GY rs R) ex a w'):bodyPostM (WF none) 0 P fn (fun e w'=> ∃ out g' σ',Rel g' w' σ'/\fN σ g w σ' g' w'/\C4 g' w' out e/\R out σ') ex a w':=by
 obtain⟨g',e',σ',⟨ms,Mi,h1⟩,h2,h3,h4,h5⟩:=h
 have done:lz e' σ' rs (fun vs=>R (.ret (oneOf vs)) σ')->LeavesInM (WF none) 0 P fn a.tmps (fun e w'=> ∃ out g' σ',Rel g' w' σ'/\fN σ g w σ' g' w'/\C4 g' w' out e/\R out σ') a.defers .returning w':=fun hres=>by
  rw[Mi];refine qc (by simp) ms w' h1 h2 h3 h4 (fun w2 h2 h3 h4 _=>?_);obtain⟨t_,us,r1,r2,r3,r4⟩:=Mg (P:=P) h2 h3 fn.results.toList rs _ Mh hres;exact⟨_,za r1,.ret (oneOf t_),g',σ',h2,h4,S3 r2 r3,r4⟩
 cases ex with
 | normal=>exact done h5
 | ret=>exact done h5
 | panic chain =>
   obtain⟨v,av,rfl,hv,hq⟩:=h5;show LeavesInM (WF none) 0 P fn a.tmps _ a.defers _ w';rw[Mi];exact qc (by simp) ms w' h1 h2 h3 h4 (fun w2 h2 h3 h4 hm=>⟨.panic av,g',σ',h2,h4,⟨v,rfl,hv.mono hm⟩,hq⟩)
 | exit id=>exact h5.elim
 | goto l=>exact h5.elim
 | outgrown=>exact h5.elim
def eU.of_wp {f : FuncId} {fn : Func} {h : Hints} {af : aaz} {args : List AV} {σ : ae} {R : Out → ae → Prop} (hf : P.funcs[f]? = some fn) (hn : (fn.name == "runtime.NumGoroutine") = false) (hc : Bc P h fn = some af)
    (hl:args.length<=af.nt) (hw:iu P af.body (GY af.results R) (kg args) σ):eU P f args σ R:=by
 unfold Bc at hc;split at hc
 ·rename_i c hb;split at hc
  ·rename_i b rs h1 h2;cases hc;refine⟨⟨fn,hf,by simp[hb],hn⟩,fun g w vs hR hlen hv=>?_⟩;refine Ks.1 (callsIn_of_wp_marks (F:=WF none) (n:=0) hf hb trivial (wpIn_mono (wu c [] none 0 (fun D=>w.heap.size<=D) b _ g w σ (kg args) _ h1 hw hR ⟨?_,fun t ht=>?_⟩ (ku.nil _ _ _ _ _) (Low.at _ _)) fun ex a w' hq=>FV h2 hq))
   ·simp only at hl;simp;omega
   ·by_cases h:t<args.length
    ·have h3:t<vs.size:=by omega
     have:=hv t h;simp only[kg];rw[eD,eK h3];simpa using this
    ·have:kg args t = .undef:=by simp[kg,fQ (h_ h)]
     rw[this];exact .undef _
  ·cases hc
 ·cases hc
end
end Go.AM
namespace Go.AM
variable {P:Program}
universe u
inductive Tg {α : Sort u} (K : α):Type where
 | mk
def jX(v:AV){K:AV->Prop}(_:Tg K): Prop:=K v
def uR(σ : ae){K:ae->Prop}(_:Tg K): Prop:=K σ
@[go_sem] def afr (v:AV) (K:AV->Prop):jX v (.mk:Tg K)=K v:=_root_.id rfl
@[go_sem] def afs (v:ae) (K:ae->Prop):uR v (.mk:Tg K)=K v:=_root_.id rfl
def req(p:Prop){K:Prop}(_:Tg K): Prop:=p/\(p->K)
@[go_sem] def afu (K:Prop):req True (.mk:Tg K)=K:=by simp[req]
def ey(p K:Prop): (p/\K)=req p (.mk:Tg K):=by simp only[req];exact propext ⟨fun h=>⟨h.1,fun _=>h.2⟩,fun h=>⟨h.1,h.2 h.1⟩⟩
@[go_sem ↓] def ahF (e:Env) (n:Nat):AX.ev e (.t n)=e n:=_root_.id rfl
@[go_sem ↓] def ahG (e:Env) (a:AV):AX.ev e (.c a)=a:=_root_.id rfl
def IG(c:Bool){a b:AV}(_:Tg (a,b)): AV:=if c then a else b
@[go_sem] def agC (a b:AV):IG true (.mk:Tg (a,b))=a:=_root_.id rfl
@[go_sem] def agD (a b:AV):IG false (.mk:Tg (a,b))=b:=_root_.id rfl
@[go_sem ↓] def agE (e : Env) (d : Nat) (v : AV) (n : Nat) : upd e (some d) v n = IG (n == d) (.mk : Tg (v, e n)) := by
  simp only[upd,IG,beq_iff_eq]
@[go_sem ↓] def afv (e:Env) (v:AV):upd e none v=e:=_root_.id rfl
@[go_sem] def ad7 (a:AV) (az:List AV):kg (a::az) 0=a:=_root_.id rfl
@[go_sem] def ad8 (a:AV) (az:List AV) (n:Nat):kg (a::az) (n+1)=kg az n:=_root_.id rfl
def Bd(v:AV){T E:Prop}(_:Tg (T,E)): Prop :=
 match v with
 | .bool t=>(t=true->T)/\(t=false->E)
 | _=>False
@[go_sem] def ad9 (T E:Prop):Bd (.bool true) (.mk:Tg (T,E))=T:=by simp[Bd]
@[go_sem] def adG (T E:Prop):Bd (.bool false) (.mk:Tg (T,E))=E:=by simp[Bd]
def aaZ{t:Bool}{T E:Prop}(h:t=true->T)(h':t=false->E): Bd (.bool t) (.mk:Tg (T,E)):=⟨h,h'⟩
@[go_sem ↓] def afw (Q:AQ) (e:Env) (σ : ae):iu P .skip Q e σ = Q .normal e σ:=_root_.id rfl
@[go_sem ↓] def ad_ (ops:List cz) (Q:AQ) (e:Env) (σ : ae):iu P (.region ops) Q e σ = ef P Q ops e σ:=_root_.id rfl
@[go_sem ↓] def afx (ops:List cz) (jS:List (AX × AX)) (Q:AQ) (e:Env) (σ : ae):iu P (.draw ops jS) Q e σ = ef P (kf jS Q) ops e σ:=_root_.id rfl
@[go_sem ↓] def agF (a b:cY) (Q:AQ) (e:Env) (σ : ae):iu P (.seq a b) Q e σ = iu P a (mg (iu P b Q) Q) e σ:=_root_.id rfl
@[go_sem ↓] def afy (c:AX) (a b:cY) (Q:AQ) (e:Env) (σ : ae):iu P (.cond c a b) Q e σ = Bd (c.ev e) (.mk:Tg (iu P a Q e σ,iu P b Q e σ)):=_root_.id rfl
@[go_sem ↓] def aeD (id:Nat) (c:cY) (Q:AQ) (e:Env) (σ : ae):iu P (.block id c) Q e σ = iu P c (s7 id Q) e σ:=_root_.id rfl
@[go_sem ↓] def afz (id:Nat) (Q:AQ) (e:Env) (σ : ae):iu P (.exit id) Q e σ = Q (.exit id) e σ:=_root_.id rfl
@[go_sem ↓] def agG (Q:AQ) (e:Env) (σ : ae):iu P .ret Q e σ = Q .ret e σ:=_root_.id rfl
@[go_sem ↓] def aeE (l:Nat) (Q:AQ) (e:Env) (σ : ae):iu P (.label l) Q e σ = Q .normal e σ:=_root_.id rfl
@[go_sem ↓] def afA (l:Nat) (Q:AQ) (e:Env) (σ : ae):iu P (.goto l) Q e σ = Q (.goto l) e σ:=_root_.id rfl
def aaA{c:cY}{Q:AQ}{e:Env}{σ : ae}(P:Program)(_:Tg (c,Q,e,σ)): Prop:=aay (iu P c) Q e σ
@[go_sem ↓] def afB (c:cY) (Q:AQ) (e:Env) (σ : ae):iu P (.loop c) Q e σ = aaA P (.mk:Tg (c,Q,e,σ)):=_root_.id rfl
def O8{l:Nat}{c r:cY}{Q:AQ}{e:Env}{σ : ae}(P:Program)(_:Tg (l,c,r,Q,e,σ)): Prop:=Wu l (iu P c) (iu P r) Q e σ
@[go_sem ↓] def aeF (l:Nat) (c r:cY) (Q:AQ) (e:Env) (σ : ae):iu P (.scope l c r) Q e σ = O8 P (.mk:Tg (l,c,r,Q,e,σ)):=_root_.id rfl
@[go_sem ↓] def acs (K:Env->ae->Prop) (Q:AQ) (e:Env) (σ : ae):mg K Q .normal e σ = K e σ:=_root_.id rfl
@[go_sem ↓] def aea (K:Env->ae->Prop) (Q:AQ) (i:Nat) (e:Env) (σ : ae):mg K Q (.exit i) e σ = Q (.exit i) e σ:=_root_.id rfl
@[go_sem ↓] def aeG (K:Env->ae->Prop) (Q:AQ) (e:Env) (σ : ae):mg K Q .ret e σ = Q .ret e σ:=_root_.id rfl
@[go_sem ↓] def aeb (K:Env->ae->Prop) (Q:AQ) (l:Nat) (e:Env) (σ : ae):mg K Q (.goto l) e σ = Q (.goto l) e σ:=_root_.id rfl
@[go_sem ↓] def adH (K:Env->ae->Prop) (Q:AQ) (v:AV) (e:Env) (σ : ae):mg K Q (.panic v) e σ = Q (.panic v) e σ:=_root_.id rfl
@[go_sem ↓] def abW (id:Nat) (Q:AQ) (e:Env) (σ : ae):s7 id Q .normal e σ = Q .normal e σ:=_root_.id rfl
@[go_sem ↓] def aec (id:Nat) (Q:AQ) (e:Env) (σ : ae):s7 id Q .ret e σ = Q .ret e σ:=_root_.id rfl
@[go_sem ↓] def acu (id:Nat) (Q:AQ) (v:AV) (e:Env) (σ : ae):s7 id Q (.panic v) e σ = Q (.panic v) e σ:=_root_.id rfl
def Fh(c:Bool){T E:Prop}(_:Tg (T,E)): Prop:=if c then T else E
@[go_sem] def agH (T E:Prop):Fh true (.mk:Tg (T,E))=T:=by simp[Fh]
@[go_sem] def agI (T E:Prop):Fh false (.mk:Tg (T,E))=E:=by simp[Fh]
@[go_sem ↓] def adI (id i : Nat) (Q : AQ) (e : Env) (σ : ae) : s7 id Q (.exit i) e σ = Fh (i == id) (.mk : Tg (Q .normal e σ, Q (.exit i) e σ)) := by
  simp only[s7,Fh,beq_iff_eq]
@[go_sem ↓] def acv (jS:List (AX × AX)) (Q:AQ) (e:Env) (σ : ae):kf jS Q .normal e σ = req (qb jS e) (.mk:Tg (Q .normal e σ)):=ey _ _
@[go_sem ↓] def acw (Q:AQ) (v:AV) (e:Env) (σ : ae):kf [(.c .j4,.c .j4)] Q (.panic v) e σ = ∀ e',Q (.panic v) e' σ:=_root_.id rfl
@[go_sem ↓] def aed (Q:AQ) (e:Env) (σ : ae):ef P Q [] e σ = Q .normal e σ:=_root_.id rfl
@[go_sem ↓] def adJ (Q:AQ) (o:bA) (d:Option Nat) (r:List cz) (e:Env) (σ : ae) :
 ef P Q (⟨o,d,none⟩::r) e σ = o.run P e σ (fun v σ'=>jX v (.mk:Tg fun v=>uR σ' (.mk:Tg fun σ'=>ef P Q r (upd e d v) σ'))) (fun v σ'=>Q (.panic v) e σ'):=rfl
def nD(v:AV)(b:Bool){T E U:Prop}(_:Tg (T,E,U)): Prop :=
 match v with
 | .bool t=>(t=b->T)/\(t = !b->E)
 | .bJ []=>U
 | _=>False
@[go_sem] def aeH (T E U:Prop):nD (.bool true) true (.mk:Tg (T,E,U))=T:=by simp[nD]
@[go_sem] def aeI (T E U:Prop):nD (.bool false) false (.mk:Tg (T,E,U))=T:=by simp[nD]
@[go_sem] def aeJ (T E U:Prop):nD (.bool true) false (.mk:Tg (T,E,U))=E:=by simp[nD]
@[go_sem] def aeK (T E U:Prop):nD (.bool false) true (.mk:Tg (T,E,U))=E:=by simp[nD]
@[go_sem] def afC (b:Bool) (T E U:Prop):nD (.bJ []) b (.mk:Tg (T,E,U))=U:=by simp[nD]
def YP{t b:Bool}{T E U:Prop}(h:t=b->T)(h':t = !b->E): nD (.bool t) b (.mk:Tg (T,E,U)):=⟨h,h'⟩
@[go_sem ↓] def acy (Q:AQ) (o:bA) (d:Option Nat) (k:Nat) (b:Bool) (r:List cz) (e:Env) (σ : ae) :
 ef P Q (⟨o,d,some (k,b)⟩::r) e σ = nD (e k) b (.mk:Tg (o.run P (upd e (some k) (.bool b)) σ (fun v σ'=>jX v (.mk:Tg fun v=>uR σ' (.mk:Tg fun σ'=>ef P Q r (upd (upd e (some k) (.bool b)) d v) σ'))) (fun v σ'=>Q (.panic v) (upd e (some k) (.bool b)) σ'),
  ef P Q r (upd (upd e (some k) (.bool (!b))) d (.bJ [])) σ,ef P Q r (upd e d (.bJ [])) σ)):=by
  simp only[ef,nD,jX,uR];cases e k<;>rfl
section
variable (e:Env) (σ : ae) (K Kp:AV->ae->Prop)
@[go_sem ↓] def ahg (x:AX):bA.run P (.mv x) e σ K Kp=K (x.ev e) σ:=_root_.id rfl
@[go_sem ↓] def aeL (cs:List AV):bA.run P (.alloc none cs) e σ K Kp=K (.ref σ.length 0) (σ++[.cells cs]):=_root_.id rfl
@[go_sem ↓] def aeM (el:El):bA.run P (.ji el) e σ K Kp=K (.own el σ.length 0 0 0) (σ++[.vec el []]):=_root_.id rfl
@[go_sem ↓] def aeN (t:TypeId) (x:AX):bA.run P (.uN t x) e σ K Kp=K (.k8 t (x.ev e)) σ:=_root_.id rfl
@[go_sem ↓] def afD (f:Fn) (a b:List AX):bA.run P (.q_ f a b) e σ K Kp=K (.fn f (a.map (AX.ev e)) (b.map (AX.ev e))) σ:=_root_.id rfl
def C6(v:AV)(σ : ae){K:AV->ae->Prop}(_:Tg K): Prop:=v.cells.all AV.scalar=true/\K (.ref σ.length 0) (σ++[.cells v.cells])
@[go_sem ↓] def agJ (x:AX):bA.run P (.box x) e σ K Kp=C6 (x.ev e) σ (.mk:Tg K):=_root_.id rfl
def Uu(c a b:AV){K:AV->Prop}(_:Tg K): Prop:=match c with | .bool t=>K (if t then a else b)|_=>False
@[go_sem ↓] def afE (c a b : AX) : bA.run P (.pick c a b) e σ K Kp = Uu (c.ev e) (a.ev e) (b.ev e) (.mk : Tg fun v => K v σ) := by
  simp only[bA.run,Uu];rfl
def loadT(σ : ae)(ag:Bool)(n:Nat)(p:AV){K:AV->Prop}(_:Tg K): Prop:=iR σ ag n p K
def storeT(σ : ae)(n:Nat)(p v:AV){K:ae->Prop}(_:Tg K): Prop:=n8 σ n p v K
def gM(op:BinOp)(x y:AV){K:AV->Prop}(_:Tg K): Prop:=jO op x y K
def unT(op:UnOp)(x:AV){K:AV->Prop}(_:Tg K): Prop:=C7 op x K
@[go_sem ↓] def run_load (ag:Bool) (n:Nat) (x:AX):bA.run P (.load ag n x) e σ K Kp=loadT σ ag n (x.ev e) (.mk:Tg fun v=>K v σ):=_root_.id rfl
@[go_sem ↓] def run_store (n:Nat) (x v:AX):bA.run P (.store n x v) e σ K Kp=storeT σ n (x.ev e) (v.ev e) (.mk:Tg fun σ'=>K (.bJ []) σ'):=_root_.id rfl
@[go_sem ↓] def agK (op:BinOp) (x y:AX):bA.run P (.bin op x y) e σ K Kp=gM op (x.ev e) (y.ev e) (.mk:Tg fun v=>K v σ):=_root_.id rfl
@[go_sem ↓] def ahh (op:UnOp) (x:AX):bA.run P (.un op x) e σ K Kp=unT op (x.ev e) (.mk:Tg fun v=>K v σ):=_root_.id rfl
def Kw (s : Bool) (x : AV) {K : AV -> Prop} (_ : Tg K) : Prop := match s, x with
    | true,.str s=>K (.int .i64 s.length)
    | false,.ai=>K (.int .i64 0)
    | false,.aG _ _ xs=>K (.int .i64 xs.length)
    | false,.own _ _ _ _ n=>K (.int .i64 n)
    | _,_=>False
@[go_sem ↓] def agL (s : Bool) (x : AX) : bA.run P (.len s x) e σ K Kp = Kw s (x.ev e) (.mk : Tg fun v => K v σ) := by
  simp only[bA.run,Kw];rfl
def YQ(x:AV)(i:Nat){K:AV->Prop}(_:Tg K): Prop:=match x with | .bJ vs=>i<vs.length/\K (vs.getD i .undef)|_=>False
@[go_sem ↓] def agM (x : AX) (i : Nat) : bA.run P (.ext x i) e σ K Kp = YQ (x.ev e) i (.mk : Tg fun v => K v σ) := by
  simp only[bA.run,YQ];rfl
def Be(op:Bool)(x:AV)(xs:List AV){K:AV->Prop}(_:Tg K): Prop:=rV op x xs K
@[go_sem ↓] def agN (x:AX) (xs:List AX):bA.run P (.min x xs) e σ K Kp=Be true (x.ev e) (xs.map (AX.ev e)) (.mk:Tg fun v=>K v σ):=_root_.id rfl
@[go_sem ↓] def agO (x:AX) (xs:List AX):bA.run P (.max x xs) e σ K Kp=Be false (x.ev e) (xs.map (AX.ev e)) (.mk:Tg fun v=>K v σ):=_root_.id rfl
def O9(K Kp:AV->ae->Prop): Out->ae->Prop
 | .ret r,σ=>K r σ
 | .panic r,σ=>Kp r σ
def Fi (P : Program) (q : Bool) (f : AV) (args : List AV) (σ : ae) {K Kp : AV -> ae -> Prop} (_ : Tg (K, Kp)) : Prop := match f with
    | .fn (.func n) first cap =>
      if q then ∃ r,(∀ τ,yp P n (first++args++cap) (σ++ τ) r)/\K r σ
      else eU P n (first++args++cap) σ (O9 K Kp)
    | .tZ l=>if q then False else u7 P l args σ (O9 K Kp)
    | _=>False
@[go_sem ↓] def afF (q : Bool) (f : AX) (args : List AX) : bA.run P (.call q f args) e σ K Kp = Fi P q (f.ev e) (args.map (AX.ev e)) σ (.mk : Tg (K, Kp)) := by
  simp only[bA.run,Fi];rfl
def Om(P:Program)(n:FuncId)(args:List AV)(σ : ae){K Kp:AV->ae->Prop}(_:Tg (K,Kp)): Prop :=
 ∃ o,(∀ s,eU P n args s fun o' s'=>o'=o/\s'=s)/\pcK (fun r=>K r σ) (fun v=> ∀ s,Kp v s) o
@[go_sem ↓] def ahi (n:FuncId) (args:List AX):bA.run P (.ex (.pc n) args) e σ K Kp=Om P n (args.map (AX.ev e)) σ (.mk:Tg (K,Kp)):=_root_.id rfl
def sK{n:Int}(h : -9223372036854775808<=n)(h':n<=9223372036854775807): de .i64 n=n:=IntWalk.i64_in n ⟨h,h'⟩
@[go_sem] def ahj (a b:AV) (K:AV->Prop):Uu (.bool true) a b (.mk:Tg K)=jX a (.mk:Tg K):=_root_.id rfl
@[go_sem] def ahk (a b:AV) (K:AV->Prop):Uu (.bool false) a b (.mk:Tg K)=jX b (.mk:Tg K):=_root_.id rfl
@[go_sem] def agP (v:AV) (K:AV->ae->Prop):C6 v σ (.mk:Tg K)=req (v.cells.all AV.scalar=true) (.mk:Tg (K (.ref σ.length 0) (σ++[.cells v.cells]))):=ey _ _
variable (k:IntKind) (a b:Int) (s t:List UInt8) (p q:Bool) (K:AV->Prop)
@[go_sem] def afG:gM .add (.int k a) (.int k b) (.mk:Tg K)=K (.int k (de k (a+b))):=by simp[gM,jO]
@[go_sem] def afH:gM .sub (.int k a) (.int k b) (.mk:Tg K)=K (.int k (de k (a-b))):=by simp[gM,jO]
@[go_sem] def afI:gM .mul (.int k a) (.int k b) (.mk:Tg K)=K (.int k (de k (a*b))):=by simp[gM,jO]
@[go_sem] def afJ:gM .quo (.int k a) (.int k b) (.mk:Tg K)=req (b≠0) (.mk:Tg (K (.int k (de k (a.tdiv b))))):=by rw[<-ey];simp[gM,jO]
@[go_sem] def afK:gM .rem (.int k a) (.int k b) (.mk:Tg K)=req (b≠0) (.mk:Tg (K (.int k (a.tmod b)))):=by rw[<-ey];simp[gM,jO]
@[go_sem] def afL:gM .eql (.int k a) (.int k b) (.mk:Tg K)=K (.bool (a==b)):=by simp[gM,jO]
@[go_sem] def afM:gM .neq (.int k a) (.int k b) (.mk:Tg K)=K (.bool (!(a==b))):=by simp[gM,jO]
@[go_sem] def afN:gM .lss (.int k a) (.int k b) (.mk:Tg K)=K (.bool (decide (a<b))):=by simp[gM,jO]
@[go_sem] def afO:gM .leq (.int k a) (.int k b) (.mk:Tg K)=K (.bool (decide (a<=b))):=by simp[gM,jO]
@[go_sem] def afP:gM .gtr (.int k a) (.int k b) (.mk:Tg K)=K (.bool (decide (b<a))):=by simp[gM,jO]
@[go_sem] def afQ:gM .geq (.int k a) (.int k b) (.mk:Tg K)=K (.bool (decide (b<=a))):=by simp[gM,jO]
@[go_sem] def aeO:gM .add (.str s) (.str t) (.mk:Tg K)=req (((s.length+t.length:Nat):Int)<=IntKind.i64.max) (.mk:Tg (K (.str (s++t)))):=by rw[<-ey];simp[gM,jO]
@[go_sem] def aeP:gM .eql (.str s) (.str t) (.mk:Tg K)=K (.bool (s==t)):=by simp[gM,jO]
@[go_sem] def aeQ:gM .neq (.str s) (.str t) (.mk:Tg K)=K (.bool (!(s==t))):=by simp[gM,jO]
@[go_sem] def agQ:unT .not (.bool p) (.mk:Tg K)=K (.bool (!p)):=_root_.id rfl
@[go_sem] def ahl:Kw true (.str s) (.mk:Tg K)=K (.int .i64 s.length):=_root_.id rfl
@[go_sem] def aeR:Kw false .ai (.mk:Tg K)=K (.int .i64 0):=_root_.id rfl
@[go_sem] def afR (f:Bool) (el:El) (xs:List AV):Kw false (.aG f el xs) (.mk:Tg K)=K (.int .i64 xs.length):=_root_.id rfl
@[go_sem] def afS (el:El) (l m lo n:Nat):Kw false (.own el l m lo n) (.mk:Tg K)=K (.int .i64 n):=_root_.id rfl
@[go_sem] def afT (vs:List AV) (i:Nat):YQ (.bJ vs) i (.mk:Tg K)=req (i<vs.length) (.mk:Tg (K (vs.getD i .undef))):=ey _ _
@[go_sem] def aeS (op:Bool) (x:AV):Be op x [] (.mk:Tg K)=K x:=_root_.id rfl
@[go_sem] def agR (ys:List AV):Be true (.int k a) (.int k b::ys) (.mk:Tg K)=Be true (.int k (if b<a then b else a)) ys (.mk:Tg K):=_root_.id rfl
@[go_sem] def agS (ys:List AV):Be false (.int k a) (.int k b::ys) (.mk:Tg K)=Be false (.int k (if a<b then b else a)) ys (.mk:Tg K):=_root_.id rfl
@[go_sem ↓] def afU (K:List AV->Prop):lz e σ [] K=K []:=_root_.id rfl
@[go_sem ↓] def afV (t:Nat) (r:List pF) (K:List AV->Prop):lz e σ (.tmp t::r) K=lz e σ r fun vs=>K (e t::vs):=_root_.id rfl
end
