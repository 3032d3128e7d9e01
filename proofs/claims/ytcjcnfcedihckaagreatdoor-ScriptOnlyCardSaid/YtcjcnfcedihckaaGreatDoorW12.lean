/- Part. -/
import Derived.Test.YtcjcnfcedihckaaGreatDoorW11
import Derived.Scope
set_option linter.all false
namespace Go.AM
def Ad: dy->Option Nat
 | .seq a b => match Ad a with
   | some l=>some l
   | none=>Ad b
 | .label l=>some l
 | _=>none
def jS: dy->Nat->Option dy
 | .seq a b, l => match jS a l with
   | some r=>some (.seq r b)
   | none=>jS b l
 | .label l',l=>if l'==l then some .skip else none
 | _,_=>none
section
variable (P:Program)
def holds(nt:Nat)(gs:List cL): List cL :=
 (List.range (gs.foldl (fun m g => match g.op with
   | .lu k _ _=>Nat.max m (k+1-nt)
   | .pq k _ _ _ _=>Nat.max m (k+1-nt)
   | .pz k _ _ _ _=>Nat.max m (k+1-nt)
   | _=>m) 0)).map fun i=>⟨.hold,some (nt+i),none⟩
def Ez {X : List Deferred} {P : Program} {Q : AQ} {nt : Nat} {B : Nat -> Prop} {w : World} {tmps : Array Value} {ds : List Deferred} {gs : List cL} : ∀ (l : List Nat) (g : aJ) (σ : ae) (e : Env), ff P Q ((l.map fun i => (⟨.hold, some (nt + i), none⟩ : cL)) ++ gs) e σ -> Rel g w σ -> fY nt g w e tmps -> kC X B σ g w ds ->
    ∃ g' σ' e',ff P Q gs e' σ'/\Rel g' w σ'/\fY nt g' w e' tmps/\kC X B σ' g' w ds/\fC σ g w σ' g' w
 | [],g,σ,e,h,hR,hE,hd=>⟨g,σ,e,h,hR,hE,hd,.refl _ _ _⟩
 | i :: l, g, σ, e, h, hR, hE, hd => by
   rw[aU,bD]at h;have h:ff P Q ((l.map fun i=>(⟨.hold,some (nt+i),none⟩:cL))++gs) (fm e (some (nt+i)) (.ref σ.length 0)) (σ++[.resv]):=h;obtain⟨r1,r2⟩:=hR.hold
   have hE':fY nt (g.push 0 none 0) w (fm e (some (nt+i)) (.ref σ.length 0)) tmps:=by
    refine⟨hE.size,fun t ht=>?_⟩;have hne:t≠nt+i:=by omega
    simp only[fm,if_neg hne];exact(hE.mono r2.mono).rel t ht
   obtain⟨g',σ',e',h1,h2,h3,h4,h5⟩:=Ez l _ _ _ h r1 hE' (hd.step r2);exact⟨g',σ',e',h1,h2,h3,h4,r2.trans h5⟩
def rcs: Code->List (Code × Code)
 | .rangeFunc _ _ a b=>[(a,b)]
 | .seq a b=>rcs a++rcs b
 | .cond _ a b=>rcs a++rcs b
 | .block _ a=>rcs a
 | .loop a=>rcs a
 | .scope a=>rcs a
 | _=>[]
def ahL(P:Program)(n k:Nat): Code × Code:=match(P.funcs[n]?).bind (·.body)with
 | some c=>(rcs c).getD k (.skip,.skip)
 | none=>(.skip,.skip)
def cJ(nt:Nat)(h:Hints)(rd:Bool): Code->Option dy
 | .skip=>some .skip
 | .region _ ops false => match lQ P nt h false ops ops.toList with
   | some gs=>some (.region gs)
   | none=>some .stop
 | .region _ ops true => match lQ P nt h true ops ops.toList with
   | some gs => let p := aaq h ops
     if(XM ops.size (lA ops) && Nf ops.size p && DU ops.size (Cf (lA ops) p) (sY gs p)) && P.follows .mixedOrders then some (.draw (holds nt (sY gs p)++sY gs p) (uk ops.size (Cf (lA ops) p) (sY gs p)))else some .stop
   | none=>some .stop
 | .seq a b => match cJ nt h rd a, cJ nt h rd b with
   | some x,some y=>some (.seq x y)
   | _,_=>none
 | .cond c a b => match cX nt c, cJ nt h rd a, cJ nt h rd b with
   | some z,some x,some y=>some (.cond z x y)
   | _,_,_=>none
 | .block id c=>(cJ nt h rd c).map (.block id)
 | .loop c=>(cJ nt h rd c).map .loop
 | .exit id=>some (.exit id)
 | .ret=>some .ret
 | .scope c => match cJ nt h rd c with
   | some x => match Ad x with
     | some l => match jS x l with
       | some r=>some (.scope l x r)
       | none=>none
     | none=>none
   | none=>none
 | .label l=>some (.label l)
 | .goto l=>some (.goto l)
 | .rangeFunc f ps ca cb => if rd then none else match cX nt f, cJ nt h true ca, cJ nt h true cb with
   | some z,some x,some y=>some (.iu z nt ps.toList ca cb x y)
   | _,_,_=>none
 | .refuse _=>some .stop
end
def Cg(ro:Option Nat)(P:Program)(m:Machine): m.fenced P (WF ro):=fenced_wide P m
section
variable {P:Program}
def QR.step{X:List Deferred}{nt:Nat}{B:Nat->Prop}{g g':aJ}{w w':World}{σ σ':ae}{Q:AQ}(hev:fC σ g w σ' g' w'){ex:Exit}{a:Act}{w2:World}(h:QR X nt B g' w' σ' Q ex a w2): QR X nt B g w σ Q ex a w2:=by
 obtain⟨g2,e2,σ2,h1,h2,h3,h4,h5⟩:=h;exact⟨g2,e2,σ2,h1,h2,h3,hev.trans h4,h5⟩
def Sound(P:Program)(nt:Nat)(h:Hints)(c:Code): Prop :=
 ∀ (X : List Deferred) (ro : Option Nat) (wn : Nat) (B : Nat -> Prop) (ac : dy) (Q : AQ) (g : aJ) (w : World) (σ : ae) (e : Env) (a : Act),
   cJ P nt h ro.isSome c=some ac->jm P ac Q e σ->Rel g w σ->fY nt g w e a.tmps->kC X B σ g w a.defers->Bk ac B w->c.wpIn (WF ro) wn P (QR X nt B g w σ Q) a w
def Nh{nt:Nat}{h:Hints}{rd:Bool}{l:Nat}: ∀(c:Code) (ac ar:dy),cJ P nt h rd c=some ac->jS ac l=some ar-> ∃ rest,findLabel c l=some rest/\cJ P nt h rd rest=some ar:=by
 intro c
 induction c with
 | seq x y x5 w5 =>
   intro ac ar hc hf;simp only[cJ]at hc;split at hc
   ·rename_i ax ay h1 h2;cases hc;simp only[jS]at hf;split at hf
    ·rename_i r hr;cases hf;obtain⟨rest,r1,r2⟩:=x5 ax r h1 hr;exact⟨.seq rest y,by simp[findLabel,r1],by simp[cJ,r2,h2]⟩
    ·rename_i hr;obtain⟨rest,r1,r2⟩:=w5 ay ar h2 hf;refine⟨rest,?_,r2⟩
     have:findLabel x l=none:=by
      have key:∀ (c:Code) (ac:dy),cJ P nt h rd c=some ac->jS ac l=none->findLabel c l=none:=by
       intro c
       induction c with
       | seq x y x5 w5 =>
         intro ac hc hf;simp only[cJ]at hc;split at hc
         ·rename_i ax ay h1 h2;cases hc;simp only[jS]at hf;split at hf
          ·cases hf
          ·rename_i hr;simp[findLabel,x5 ax h1 hr,w5 ay h2 hf]
         ·cases hc
       | label l' =>
         intro ac hc hf;cases hc;simp only[jS]at hf;simp only[findLabel];split at hf
         ·cases hf
         ·rename_i hh;rw[if_neg hh]
       | _=>intros;rfl
      exact key x ax h1 hr
     simp[findLabel,this,r1]
   ·cases hc
 | label l' =>
   intro ac ar hc hf;cases hc;simp only[jS]at hf;split at hf
   ·rename_i hh;cases hf;exact⟨.skip,by simp only[findLabel];rw[if_pos hh],rfl⟩
   ·cases hf
 | region id ops d =>
   intro ac ar hc hf;cases d<;>simp only[cJ]at hc
   ·split at hc<;>(cases hc;cases hf)
   ·split at hc
    ·split at hc<;>(cases hc;cases hf)
    ·cases hc;cases hf
 | cond z x y =>
   intro ac ar hc hf;simp only[cJ]at hc;split at hc
   ·cases hc;cases hf
   ·cases hc
 | block id x=>intro ac ar hc hf;simp only[cJ]at hc;obtain⟨gs,_,rfl⟩:=Option.map_eq_some_iff.1 hc;cases hf
 | loop x=>intro ac ar hc hf;simp only[cJ]at hc;obtain⟨gs,_,rfl⟩:=Option.map_eq_some_iff.1 hc;cases hf
 | scope x =>
   intro ac ar hc hf;simp only[cJ]at hc;split at hc
   ·split at hc
    ·split at hc
     ·cases hc;cases hf
     ·cases hc
    ·cases hc
   ·cases hc
 | rangeFunc f ps x y =>
   intro ac ar hc hf;simp only[cJ]at hc;split at hc
   ·cases hc
   ·split at hc
    ·cases hc;cases hf
    ·cases hc
 | _=>intro ac ar hc hf;cases hc<;>cases hf
def U9: ∀(c:dy) (l:Nat) (r:dy),jS c l=some r->r.mH=true->c.mH=true:=by
 intro c
 induction c with
 | seq a b GS GU =>
   intro l r h hr;simp only[jS]at h;split at h
   ·rename_i r' h';cases h;simp only[dy.mH,dm]at hr ⊢;exact hr.imp (GS l r' h') id
   ·simp only[dy.mH,dm];exact .inr (GU l r h hr)
 | label l'=>intro l r h hr;simp only[jS]at h;split at h<;>cases h;cases hr
 | _=>intro l r h hr;cases h
def GV{nt:Nat}{h:Hints}: Sound P nt h .skip:=fun X ro wn B ac Q g w σ e a hc hw hR hE hd hB=>by
 cases hc;exact wpIn_skip ⟨g,e,σ,hd,hR,hE,.refl _ _ _,hw⟩
def KJ {nt : Nat} {h : Hints} {x y : Code} (x5 : Sound P nt h x) (w5 : Sound P nt h y) : Sound P nt h (.seq x y) := by
    intro X ro wn B ac Q g w σ e a hc hw hR hE hd hB;simp only[cJ]at hc;split at hc
    ·rename_i ax ay h1 h2;cases hc;refine wpIn_seq (wpIn_mono (x5 X ro wn B ax _ g w σ e a h1 hw hR hE hd (hB.sub (by simp[dy.mH];exact fun h=> .inl h))) ?_);rintro ex a' w' ⟨g',e',σ',r1,r2,r3,r4,r5⟩;cases ex with
     | normal =>
       refine wpIn_mono (w5 X ro wn B ay Q g' w' σ' e' a' h2 r5 r2 r3 r1 ((hB.sub (by simp[dy.mH];exact fun h=> .inr h)).size r4.size)) fun ex a2 w2 hq=>hq.step r4
     | exit id=>exact⟨g',e',σ',r1,r2,r3,r4,r5⟩
     | goto l=>exact⟨g',e',σ',r1,r2,r3,r4,r5⟩
     | ret=>exact⟨g',e',σ',r1,r2,r3,r4,r5⟩
     | panic ch=>exact⟨g',e',σ',r1,r2,r3,r4,r5⟩
     | outgrown=>exact r5.elim
    ·cases hc
def oU{b:Frame}{a:Act}{k:List Item}{cs:List Frame}{w:World}{c:Code}: Go.step P (lone (b.atR a (.code (.scope c)::k)) cs w) = .next (lone (b.atR a (.code c:: .inScope c::k)) cs w) :=
 step_lone_go (by simp[stepG,stepG.exec,Frame.atR])
def Bl{b:Frame}{a:Act}{k:List Item}{cs:List Frame}{w:World}{c:Code}: Go.step P (lone (b.atR a (.inScope c::k)) cs w) = .next (lone (b.atR a k) cs w) :=
 step_lone_go (by simp[stepG,stepG.exec,Frame.atR])
def EA {nt : Nat} {g : aJ} {w : World} : ∀ (ps : List Nat) (args : List AV) (vs : List Value) (e : Env) (tmps : Array Value), fY nt g w e tmps -> args.length = vs.length -> (∀ i, i < args.length -> VR g w (args.getD i .undef) (vs.getD i Go.undef)) ->
    fY nt g w (uj ps args e) ((ps.zip vs).foldl (fun t (p,v)=>t.setIfInBounds p v) tmps)
 | [],args,vs,e,tmps,hE,_,_=>by cases args<;>exact hE
 | p :: ps, [], vs, e, tmps, hE, hl, _ => by
   cases vs with
   | nil=>exact hE
   | cons=>cases hl
 | p :: ps, a :: args, vs, e, tmps, hE, hl, hv => by
   cases vs with
   | nil=>cases hl
   | cons v vs =>
     simp only[uj,List.zip_cons_cons,List.foldl_cons];refine EA ps args vs _ _ ?_ (by simpa using hl) (fun i hi=>by simpa using hv (i+1) (by simpa using hi));have h0:=hv 0 (by simp);have:=fY.put (a:= { tmps:=tmps,defers:=[] }) hE (some p) (v:=v) (x:=a) (by simpa using h0);simpa[Act.put]using this
def w6 {nt : Nat} {e : Env} {ps : Array Tmp} {ca cb : Code} {g : aJ} {w : World} {σ : ae} {l : Nat} {st : LoopState} {pe : Option Code} (hR : Rel g w σ) (ho : σ[l]? = some (.loop nt e ps ca cb st pe)) :
    g.ver l=0/\ ∃ b rec,g.base l=some b/\w.heap[b]? = some (.loop rec)/\rec.params=ps/\rec.assign=ca/\rec.body=cb/\rec.state=st/\rec.pending=pe /\
     fY nt g w e rec.tmps:=by
 obtain⟨h1,b,rec,h2,h3,h4,h5,h6,h7,h8,h9,h10⟩:=hR.ok l _ ho;exact⟨h1,b,rec,h2,h3,h4,h5,h6,h7,h8,⟨h9,h10⟩⟩
def Ni {nt : Nat} {e : Env} {ps : Array Tmp} {ca cb : Code} {g : aJ} {w : World} {σ : ae} {l : Nat} {st : LoopState} {pe : Option Code} (hR : Rel g w σ) (ho : σ[l]? = some (.loop nt e ps ca cb st pe))
    {b:Nat} {rec:Loop} (hb:g.base l=some b) (hw:w.heap[b]? = some (.loop rec)) (st':LoopState) (ZE:Option Code) :
    Rel g (w.putObj b (.loop { rec with state:=st',pending:=ZE })) (σ.set l (.loop nt e ps ca cb st' ZE)) /\
    fC σ g w (σ.set l (.loop nt e ps ca cb st' ZE)) g (w.putObj b (.loop { rec with state:=st',pending:=ZE })):=by
 obtain⟨h1,b',rec',h2,h3,h4,h5,h6,h7,h8,h9⟩:=w6 hR ho;rw[hb]at h2;cases h2;rw[hw]at h3;cases h3;exact hR.update ho rfl hb (by simp) rfl rfl rfl (fun c hc=>World.putObj_heap_other hc) (fun hm=>⟨h1,b,_,hb,World.putObj_heap_same (dz.1 hw).1,h4,h5,h6,rfl,rfl,h9.size,fun t ht=>(h9.rel t ht).mono hm⟩)
def U_ {nt : Nat} {e : Env} {ps : Array Tmp} {ca cb : Code} {g : aJ} {w : World} {σ : ae} {l : Nat} {st : LoopState} {pe : Option Code} (hR : Rel g w σ) (ho : σ[l]? = some (.loop nt e ps ca cb st pe))
    {b:Nat} (o:Obj) (hb:g.base l=some b) :
    Rel g (w.putObj b o) (σ.set l .dead)/\fC σ g w (σ.set l .dead) g (w.putObj b o) :=
 hR.update ho rfl hb (by simp) rfl rfl rfl (fun c hc=>World.putObj_heap_other hc) (fun _=>trivial)
def Pw {nt : Nat} {h : Hints} {ca cb : Code} (GS : Sound P nt h ca) (GU : Sound P nt h cb) {aa ab : dy} (ha : cJ P nt h true ca = some aa) (hb : cJ P nt h true cb = some ab) {ps : List Nat} {e : Env} {l : Nat}
    {σ : ae} {args:List AV} {R:Out->ae->Prop} (ho : σ[l]? = some (.loop nt e ps.toArray ca cb .ready none)) (hl:args.length=ps.length)
    (hw:jm P aa (abQ l (.loop nt e ps.toArray ca cb .ready none) (.loop nt e ps.toArray ca cb .busy none) (jm P ab (abR l (.loop nt e ps.toArray ca cb) R))) (uj ps args e) σ):sM P l args σ R:=by
 refine⟨⟨_,_,_,_,_,_,_,ho⟩,fun g w vs b hR hbase hlen hv=>?_⟩;obtain⟨h1,b',rec,h2,h3,h4,h5,h6,h7,h8,h9⟩:=w6 hR ho;rw[hbase]at h2;cases h2;have hy:=run_yield (P:=P) (args:=vs) h3 (by rw[h4];simp;omega);rw[h4,h5,h6]at hy;refine⟨_,_,_,_,hy,?_⟩
 have hE:fY nt g w (uj ps args e) ((ps.toArray.zip vs).foldl (fun t (p,v)=>t.setIfInBounds p v) rec.tmps):=by
  have:=EA ps args vs.toList e rec.tmps h9 (by simpa using hlen) (fun i hi=>by have:=hv i hi;simpa using this);rw[<-Array.foldl_toList];simpa using this
 have key:RoundIn (WF none) 0 P b rec.fn ((ps.toArray.zip vs).foldl (fun t (p,v)=>t.setIfInBounds p v) rec.tmps) ca cb w fun en w'=> ∃ out g' σ',Rel g' w' σ'/\fC σ g w σ' g' w'/\IN g' w' out en/\R out σ':=by
  refine roundIn_of_wpIn trivial ?_;refine wpIn_mono (GS [] (some b) 0 (fun D=>0<=D) aa _ g w σ (uj ps args e) { tmps:=_,defers:=[] } ha hw hR hE (kC.nil _ _ _ _ _) (fun _ D _=>bJ D)) ?_;rintro ex a1 w1 ⟨g1,e1,σ1,d1,R1,E1,V1,q1⟩;cases ex with
  | normal =>
    obtain⟨q1,q2⟩:=q1;obtain⟨k1,b1,w7,k2,k3,k4,k5,k6,k7,k8,k9⟩:=w6 R1 q1
    have nW:b1=b:=by
     have hlt:l<g.n:=by rw[<-hR.len];exact(aP.1 ho).1
     have:=((V1.mono.ver l hlt).2 (k1.trans h1.symm)).1;rw[this,hbase]at k2;cases k2;rfl
    subst nW;have hbr:=run_beginRound (P:=P) k3 k7;obtain⟨p1,p2⟩:=Ni R1 q1 k2 k3 .busy none;have hpe:({ w7 with state:= .busy,pending:=none }:Loop) = { w7 with state:= .busy }:=by cases w7;simp only at k8;subst k8;rfl
    rw[hpe]at p1 p2;refine⟨_,hbr,?_⟩
    have q1':(σ1.set l (.loop nt e ps.toArray ca cb .busy none))[l]? = some (.loop nt e ps.toArray ca cb .busy none):=by
     have:=(aP.1 q1).1;simp[this]
    refine wpIn_mono (GU [] (some b1) 0 (fun D=>0<=D) ab _ g1 _ _ e1 a1 hb q2 p1 (E1.mono p2.mono) ((d1.step p2)) (fun _ D _=>bJ D)) ?_;rintro ex a2 w2 ⟨g2,e2,σ2,d2,R2,E2,V2,q2⟩
    have fin:∀ jump,σ2[l]? = some (.loop nt e ps.toArray ca cb .busy none)->R (.ret (.bool jump.isNone)) (σ2.set l (.loop nt e ps.toArray ca cb (if jump.isNone then .ready else .done) jump)) ->
     ∃ v w3,(Instr.endRound b1 jump).run P w2 = .ok v w3/\ ∃ out g' σ',Rel g' w3 σ'/\fC σ g w σ' g' w3/\IN g' w3 out (.returned v)/\R out σ':=fun jump q2 hr=>by
     obtain⟨m1,b2,ahM,m2,m3,m4,m5,m6,m7,m8,m9⟩:=w6 R2 q2
     have nW:b2=b1:=by
      have hlt:l<g1.n:=by rw[<-R1.len];exact(aP.1 q1).1
      have:=((V2.mono.ver l hlt).2 (m1.trans k1.symm)).1;rw[this,k2]at m2;cases m2;rfl
     subst nW;obtain⟨s1,s2⟩:=Ni R2 q2 m2 m3 (if jump.isNone then .ready else .done) jump;exact⟨_,_,run_endRound jump m3,.ret (.bool jump.isNone),g2,_,s1,((V1.trans p2).trans V2).trans s2,.bool _,hr⟩
    cases ex with
    | normal=>exact fin none q2.1 q2.2
    | ret=>exact fin (some .ret) q2.1 q2.2
    | exit i=>exact fin (some (.exit i)) q2.1 q2.2
    | goto i=>exact fin (some (.goto i)) q2.1 q2.2
    | panic ch=>obtain⟨_,_,_,_,hf⟩:=q2;exact hf.elim
    | outgrown=>exact q2.elim
  | exit i=>exact q1.elim
  | goto i=>exact q1.elim
  | ret=>exact q1.elim
  | panic ch=>obtain⟨_,_,_,_,hf⟩:=q1;exact hf.elim
  | outgrown=>exact q1.elim
 exact key
def Va{nt:Nat}{h:Hints}{f:Operand}{ps:Array Tmp}{ca cb:Code}(GS:Sound P nt h ca)(GU:Sound P nt h cb): Sound P nt h (.rangeFunc f ps ca cb):=by
 intro X ro wn B ac Q g w σ e a hc hw hR hE hd hB;cases ro with
 | some l=>simp[cJ]at hc
 | none =>
   simp only[cJ,Option.isSome_none,aB,if_false]at hc;split at hc
   ·rename_i af aa ab h1 h2 h3;cases hc;have v1:=bT h1 hE;simp only[jm]at hw;generalize AX.ev e af=z at v1 hw;generalize hev:a.eval f=fv at v1;unfold M6 at hw;split at hw
    ·rename_i n first cap
     cases v1;rename_i first' cap' hl hh hl' GI;have hw:=hw (.loop nt e ps.toList.toArray ca cb) (fun st pe=>rfl) (fun σ' args R ho hl ha=>Pw GS GU h2 h3 ho hl ha);simp only[dR]at hw;refine wpIn_rangeFunc fun fn _=>?_;obtain⟨R1,V1⟩:=hR.Xm (.deferred (some []));have E1:=hE.mono V1.mono
     let w7:Loop:= { state:= .ready,pending:=none,fn,tmps:=a.tmps,params:=ps,assign:=ca,body:=cb,defers:=w.heap.size }
     obtain⟨R2,V2⟩:=R1.pF (.loop w7) (.loop nt e ps ca cb .ready none) 0 0
      ⟨by simp[aJ.push],_,w7,by simp[aJ.push],World.alloc_heap_new _ _,rfl,rfl,rfl,rfl,rfl,E1.size,fun t ht=>(E1.rel t ht).mono (kj g (w.alloc (.deferred (some []))) (.loop w7) 0 _ 0 R1.lt)⟩
     have V12:=V1.trans V2;have hnew:(g.push 0 (some (w.alloc (.deferred (some []))).heap.size) 0).base σ.length=some (w.heap.size+1):=by simp[aJ.push,hR.len]
     have hyv:VR (g.push 0 (some (w.alloc (.deferred (some []))).heap.size) 0) ((w.alloc (.deferred (some []))).alloc (.loop w7)) (.qS σ.length) (.func (.yield (w.heap.size+1)) #[] #[]) :=
      .qS _ _ ⟨by simp[aJ.push,hR.len],_,rfl,fun _=>hnew⟩
     obtain⟨c1,c2⟩:=sU hl (fun i hi=>(hh i hi).mono V12.mono) (bs:=[.qS σ.length]) (vs:= #[.func (.yield (w.heap.size+1)) #[] #[]]) rfl (fun i hi=>by
      have:i=0:=by simpa using hi
      subst this;exact hyv)
     obtain⟨c3,c4⟩:=sU c1 c2 hl' (fun i hi=>(GI i hi).mono V12.mono)
     refine⟨w.heap.size+1,[{ target:= .collected w.heap.size,args:= #[] }],((w.alloc (.deferred (some []))).alloc (.loop w7)),{ target:= .fn (.func n) cap',args:=first'++ #[.func (.yield (w.heap.size+1)) #[] #[]] },((w.alloc (.deferred (some []))).alloc (.loop w7)),n,
      first'++ #[.func (.yield (w.heap.size+1)) #[] #[]]++cap',((w.alloc (.deferred (some []))).alloc (.loop w7)),run_enterLoop_outer fn a.tmps ps ca cb,?_,fun _ _=>trivial,?_,fun hx=>by simp[WF,Fence.wide]at hx,?_⟩
     ·simp only[resolve,rangeCall,Sem.run_bind,hev,Deferred.ofValue,Sem.run_pure,Result.andThen_ok];simp[Act.eval]
     ·simp only[invoke];exact wX hw.1 _ _
     ·refine IZ.2 ((hw.2 _ _ _ R2 c3 c4).mono ?_);rintro en w3 ⟨out,g3,σ3,R3,V3,o3,q3⟩;have V:=V12.trans V3;have E3:fY nt g3 w3 e a.tmps:=hE.mono V.mono
      have hD:∀ {σ4:ae} {g4:aJ} {w4:World},fC σ3 g3 w3 σ4 g4 w4->kC X B σ4 g4 w4 ({ target:= .collected w.heap.size,args:= #[] }::a.defers):=fun {σ4 g4 w4} V4=>by
       refine kC.step ?_ V4;have hk0:(w.alloc (.deferred (some []))).heap[w.heap.size]? = some (.deferred (some [])):=World.alloc_heap_new _ _;have hlt:w.heap.size<(w.alloc (.deferred (some []))).heap.size:=by simp
       have hnt:¬ mh σ g w.heap.size:=fun ht=>absurd (hR.zR ht) (gN _);have hni:¬ g.fL w.heap.size:=fun hi=>absurd (hR.lt _ hi) (gN _)
       have d0:kC X B σ g (w.alloc (.deferred (some []))) ({ target:= .collected w.heap.size,args:= #[] }::a.defers):=by
        obtain⟨ms,ZG,hd⟩:=hd;refine⟨{ target:= .collected w.heap.size,args:= #[] }::ms,by rw[ZG];rfl,List.nodup_cons.2 ⟨fun hm=>?_,hd.nodup⟩,fun d hm=>?_⟩
        ·obtain⟨D,e1,_,e3,_⟩:=hd.mark _ hm;have:=(dz.1 e3).1;cases e1;exact absurd this (Nat.lt_irrefl _)
        ·rcases List.mem_cons.1 hm with rfl|hm
         ·exact⟨_,rfl,hB rfl _ (Nat.le_refl _),hk0,hnt,hni⟩
         ·exact(hd.step V1).mark d hm
       exact(d0.step V2).step V3
      cases out with
      | ret r =>
        cases en with
        | returned v =>
          obtain⟨st,pe,ho,hst,q⟩:=q3;obtain⟨k1,b1,abX,k2,k3,k4,k5,k6,k7,k8,k9⟩:=w6 R3 ho
          have nW:b1=w.heap.size+1:=by
           have:=((V3.mono.ver σ.length (by simp[aJ.push,hR.len])).2 (k1.trans (by simp[aJ.push,hR.len]))).1;rw[this,hnew]at k2;cases k2;rfl
          subst nW;obtain⟨s1,s2⟩:=U_ R3 ho (.loop { abX with state:= .exhausted }) k2;have hend:=run_endLoop (P:=P) k3 (by rw[k7];exact hst);obtain⟨w4,hw4⟩:∃ w4,w3.putObj (w.heap.size+1) (.loop { abX with state:= .exhausted })=w4:=⟨_,rfl⟩;rw[hw4]at s1 s2 hend;rw[k8]at hend;have E4:=E3.mono s2.mono;refine⟨_,_,hend,?_⟩
          have fin:∀ ex:Zx,Q ex e (σ3.set σ.length .dead)-> ∃ g' e' σ',kC X B σ' g' w4 ({ target:= .collected w.heap.size,args:= #[] }::a.defers)/\Rel g' w4 σ' /\
           fY nt g' w4 e' a.tmps/\fC σ g w σ' g' w4/\Q ex e' σ':=fun ex hq =>
           ⟨g3,e,_,hD s2,s1,E4,V.trans s2,hq⟩
          split at q
          ·obtain⟨g',e',σ',f1,f2,f3,f4,f5⟩:=fin _ q;exact⟨g',e',σ',f1,f2,f3,f4,f5⟩
          ·obtain⟨g',e',σ',f1,f2,f3,f4,f5⟩:=fin _ q;exact wpIn_ret ⟨g',e',σ',f1,f2,f3,f4,f5⟩
          ·obtain⟨g',e',σ',f1,f2,f3,f4,f5⟩:=fin _ q;exact wpIn_exit ⟨g',e',σ',f1,f2,f3,f4,f5⟩
          ·obtain⟨g',e',σ',f1,f2,f3,f4,f5⟩:=fin _ q;exact wpIn_goto ⟨g',e',σ',f1,f2,f3,f4,f5⟩
          ·exact q.elim
        | panicked c=>exact o3.elim
        | outgrown=>exact o3.elim
      | panic r =>
        cases en with
        | returned v=>exact o3.elim
        | panicked c=>obtain⟨v,rfl,o3⟩:=o3;exact⟨g3,e,σ3,hD (.refl _ _ _),R3,E3,V,v,r,rfl,o3,q3⟩
        | outgrown=>exact o3.elim
    ·exact hw.elim
   ·cases hc
def Px{nt:Nat}{h:Hints}: ∀(c:Code),Sound P nt h c/\ ∀ l rest,findLabel c l=some rest->Sound P nt h rest:=by
 intro c
 induction c with
 | skip=>exact⟨GV,fun _ _ h=>by cases h⟩
 | region id ops draw =>
   refine⟨?_,fun _ _ h=>by cases h⟩;intro X ro wn B ac Q g w σ e a hc hw hR hE hd hB;cases draw with
   | true =>
     simp only[cJ]at hc;split at hc
     ·rename_i gs h1;split at hc
      ·rename_i hok;simp only[aq]at hok;cases hc;obtain⟨g1,σ1,e1,k1,k2,k3,k4,k5⟩:=Ez _ g σ e hw hR hE hd;exact wpIn_mono (SC h1 hok.1.1.1 hok.1.1.2 hok.1.2 hok.2 k1 k2 k3 k4) fun _ _ _ hq=>QR.step k5 hq
      ·cases hc;exact hw.elim
     ·cases hc;exact hw.elim
   | false =>
     simp only[cJ]at hc;split at hc
     ·rename_i gs h1;cases hc;refine wpIn_region ?_;have:=U0 (ro:=ro) (wn:=wn) (B:=B) (ops:=ops) (Q:=Q) (g0:=g) (w0:=w) (r9:=σ) ops.toList 0 gs g w σ e a h1 (fun j _=>by simp) hw hR hE hd (.refl _ _ _);rw[List.range_eq_range'];simpa using this
     ·cases hc;exact hw.elim
 | seq x y x5 w5 =>
   refine⟨KJ x5.1 w5.1,fun l rest hf=>?_⟩;simp only[findLabel]at hf;split at hf
   ·rename_i r hr;cases hf;exact KJ (x5.2 l r hr) w5.1
   ·exact w5.2 l rest hf
 | cond z x y x5 w5 =>
   refine⟨?_,fun _ _ h=>by cases h⟩
   replace x5:=x5.1
   replace w5:=w5.1
   intro X ro wn B ac Q g w σ e a hc hw hR hE hd hB;simp only[cJ]at hc;split at hc
   ·rename_i az ax ay h1 h2 h3;cases hc;have v1:=bT h1 hE;simp only[jm]at hw;generalize AX.ev e az=zv at v1 hw;generalize hev:a.eval z=cv at v1;cases v1<;>simp only at hw;rename_i t;refine wpIn_cond_split hev (fun ht=>?_) (fun ht=>?_)
    ·exact x5 X ro wn B ax Q g w σ e a h2 (hw.1 ht) hR hE hd (hB.sub (by simp[dy.mH];exact fun h=> .inl h))
    ·exact w5 X ro wn B ay Q g w σ e a h3 (hw.2 ht) hR hE hd (hB.sub (by simp[dy.mH];exact fun h=> .inr h))
   ·cases hc
 | block id x ih =>
   refine⟨?_,fun _ _ h=>by cases h⟩
   replace ih:=ih.1
   intro X ro wn B ac Q g w σ e a hc hw hR hE hd hB;simp only[cJ,aW]at hc;obtain⟨ax,h1,rfl⟩:=hc;refine wpIn_block (wpIn_mono (ih X ro wn B ax _ g w σ e a h1 hw hR hE hd (hB.sub (by simp[dy.mH]))) ?_);rintro ex a' w' ⟨g',e',σ',r1,r2,r3,r4,r5⟩;cases ex with
   | exit i =>
     simp only[sW]at r5;simp only[Exit.inBlock];split
     ·rename_i e1;rw[if_pos e1]at r5;exact⟨g',e',σ',r1,r2,r3,r4,r5⟩
     ·rename_i e1;rw[if_neg e1]at r5;exact⟨g',e',σ',r1,r2,r3,r4,r5⟩
   | normal=>exact⟨g',e',σ',r1,r2,r3,r4,r5⟩
   | goto l=>exact⟨g',e',σ',r1,r2,r3,r4,r5⟩
   | ret=>exact⟨g',e',σ',r1,r2,r3,r4,r5⟩
   | panic ch=>exact⟨g',e',σ',r1,r2,r3,r4,r5⟩
   | outgrown=>exact r5.elim
 | loop x ih =>
   refine⟨?_,fun _ _ h=>by cases h⟩
   replace ih:=ih.1
   intro X ro wn B ac Q g w σ e a hc hw hR hE hd hB;simp only[cJ,aW]at hc;obtain⟨ax,h1,rfl⟩:=hc;obtain⟨I,⟨n0,hI⟩,abY⟩:=hw
   have key:∀ (n:Nat) (g1:aJ) (w1:World) (σ1:ae) (e1:Env) (a1:Act),I n e1 σ1->Rel g1 w1 σ1->fY nt g1 w1 e1 a1.tmps->kC X B σ1 g1 w1 a1.defers->Bk (.loop ax) B w1 ->
    ∀(b:Frame) (k:List Item) (cs:List Frame),b.roundOf=ro-> ∃ ex a' w',QR X nt B g1 w1 σ1 Q ex a' w'/\ArrivesIn (Machine.fenced P (WF ro)) P (lone (b.atR a1 (.code x:: .inLoop x::k)) cs w1) b k cs ex a' w':=by
    intro n
    induction n using Nat.strongRecOn with
    | _ n ihn =>
      intro g1 w1 σ1 e1 a1 hI1 hR1 wZ wY Vb b k cs hro;obtain⟨ex,a',w',hq,nD⟩:=ih X ro wn B ax _ g1 w1 σ1 e1 a1 h1 (abY n e1 σ1 hI1) hR1 wZ wY (Vb.sub (by simp[dy.mH])) b (.inLoop x::k) cs hro trivial (IY _ _);obtain⟨g',e',σ',r1,r2,r3,r4,r5⟩:=hq;cases ex with
      | normal =>
        obtain⟨m,hlt,hI2⟩:=r5;obtain⟨Vc,a2,w2,x6,GW⟩:=ihn m hlt g' w' σ' e' a' hI2 r2 r3 r1 (Vb.size r4.size) b k cs hro;exact⟨Vc,a2,w2,x6.step r4,.of_steps (StepsIn.trans nD (.one (Cg ro P _) stepR_inLoop)) GW⟩
      | exit id=>exact⟨_,a',w',⟨g',e',σ',r1,r2,r3,r4,r5⟩,.pass (x:= .inLoop x) rfl (fun _ _=> .inl (by simp)) nD⟩
      | goto l=>exact⟨_,a',w',⟨g',e',σ',r1,r2,r3,r4,r5⟩,.pass (x:= .inLoop x) rfl (fun _ _=> .inl (by simp)) nD⟩
      | ret=>exact⟨_,a',w',⟨g',e',σ',r1,r2,r3,r4,r5⟩,.pass (x:= .inLoop x) rfl (fun _ _=> .inl (by simp)) nD⟩
      | panic ch=>exact⟨_,a',w',⟨g',e',σ',r1,r2,r3,r4,r5⟩,.pass (x:= .inLoop x) rfl (fun _ _=> .inl (by simp)) nD⟩
      | outgrown=>exact r5.elim
   intro b k cs hro hF hr;obtain⟨ex,a',w',hq,nD⟩:=key _ g w σ e a hI hR hE hd hB b k cs hro;exact⟨ex,a',w',hq,.of_steps (.one (Cg ro P _) stepR_loop) nD⟩
 | exit id=>exact⟨fun X ro wn B ac Q g w σ e a hc hw hR hE hd hB=>by cases hc;exact wpIn_exit ⟨g,e,σ,hd,hR,hE,.refl _ _ _,hw⟩,fun _ _ h=>by cases h⟩
 | ret=>exact⟨fun X ro wn B ac Q g w σ e a hc hw hR hE hd hB=>by cases hc;exact wpIn_ret ⟨g,e,σ,hd,hR,hE,.refl _ _ _,hw⟩,fun _ _ h=>by cases h⟩
 | rangeFunc f ps x y x5 w5=>exact⟨Va x5.1 w5.1,fun _ _ h=>by cases h⟩
 | refuse s=>exact⟨fun X ro wn B ac Q g w σ e a hc hw=>(by cases hc;exact hw.elim),fun _ _ h=>by cases h⟩
 | goto l=>exact⟨fun X ro wn B ac Q g w σ e a hc hw hR hE hd hB=>by cases hc;exact wpIn_goto ⟨g,e,σ,hd,hR,hE,.refl _ _ _,hw⟩,fun _ _ h=>by cases h⟩
 | label l =>
   refine⟨fun X ro wn B ac Q g w σ e a hc hw hR hE hd hB=>by cases hc;exact wpIn_label ⟨g,e,σ,hd,hR,hE,.refl _ _ _,hw⟩,fun l' rest hf=>?_⟩;simp only[findLabel]at hf;split at hf
   ·cases hf;exact GV
   ·cases hf
 | scope x ih =>
   refine⟨?_,fun _ _ h=>by cases h⟩;intro X ro wn B ac Q g w σ e a hc hw hR hE hd hB;simp only[cJ]at hc;split at hc
   ·rename_i ax h1;split at hc
    ·rename_i l _;split at hc
     ·rename_i ar h2;cases hc;obtain⟨rest,hf,Nj⟩:=Nh x ax ar h1 h2;have hs:=ih.2 l rest hf;obtain⟨J,abZ,ad2⟩:=hw;intro b k cs hro hF hr;have EB:∀ m:Machine,m.fenced P (WF ro):=Cg ro P;have hg:gotoIn l (.inScope x::k)=some (.code rest:: .inScope x::k):=by simp[gotoIn,hf]
      have key:∀ (n:Nat) (g1:aJ) (w1:World) (σ1:ae) (e1:Env) (a1:Act),J n e1 σ1->Rel g1 w1 σ1->fY nt g1 w1 e1 a1.tmps->kC X B σ1 g1 w1 a1.defers->Bk ax B w1 ->
       ∃ ex a' w',QR X nt B g1 w1 σ1 Q ex a' w'/\ArrivesIn (Machine.fenced P (WF ro)) P (lone (b.atR a1 (.code rest:: .inScope x::k)) cs w1) b k cs ex a' w':=by
       intro n
       induction n using Nat.strongRecOn with
       | _ n ihn =>
         intro g1 w1 σ1 e1 a1 hJ1 hR1 wZ wY Vb;obtain⟨ex,a',w',hq,nD⟩:=hs X ro wn B ar _ g1 w1 σ1 e1 a1 Nj (ad2 n e1 σ1 hJ1) hR1 wZ wY (Vb.sub (U9 ax l ar h2)) b (.inScope x::k) cs hro trivial (IY _ _);obtain⟨g',e',σ',r1,r2,r3,r4,r5⟩:=hq;cases ex with
         | normal=>exact⟨.normal,a',w',⟨g',e',σ',r1,r2,r3,r4,r5⟩,StepsIn.trans nD (.one (EB _) Bl)⟩
         | exit id=>exact⟨.exit id,a',w',⟨g',e',σ',r1,r2,r3,r4,r5⟩,fun k' hk=>nD.1 k' (by simp[exitTo,hk]),fun Vd hk=>nD.2 Vd (by simp[exitTo,hk])⟩
         | goto l' =>
           obtain⟨rfl,m,hlt,hJ2⟩:=r5;obtain⟨Vc,a2,w2,x6,GW⟩:=ihn m hlt g' w' σ' e' a' hJ2 r2 r3 r1 (Vb.size r4.size);exact⟨Vc,a2,w2,x6.step r4,.of_steps (nD.1 _ hg) GW⟩
         | ret=>exact⟨.ret,a',w',⟨g',e',σ',r1,r2,r3,r4,r5⟩,nD⟩
         | panic ch=>exact⟨.panic ch,a',w',⟨g',e',σ',r1,r2,r3,r4,r5⟩,nD⟩
         | outgrown=>exact r5.elim
      obtain⟨ex,a',w',hq,nD⟩:=ih.1 X ro wn B ax _ g w σ e a h1 abZ hR hE hd (hB.sub (by simp[dy.mH])) b (.inScope x::k) cs hro trivial (IY _ _);obtain⟨g',e',σ',r1,r2,r3,r4,r5⟩:=hq;cases ex with
      | normal=>exact⟨.normal,a',w',⟨g',e',σ',r1,r2,r3,r4,r5⟩,.head (EB _) oU (StepsIn.trans nD (.one (EB _) Bl))⟩
      | exit id=>exact⟨.exit id,a',w',⟨g',e',σ',r1,r2,r3,r4,r5⟩,fun k' hk=> .head (EB _) oU (nD.1 k' (by simp[exitTo,hk])),fun Vd hk=>let ⟨k1,p1,p2⟩:=nD.2 Vd (by simp[exitTo,hk]);⟨k1,p1,.head (EB _) oU p2⟩⟩
      | goto l' =>
        obtain⟨rfl,n0,hJ2⟩:=r5;obtain⟨Vc,a2,w2,x6,GW⟩:=key _ g' w' σ' e' a' hJ2 r2 r3 r1 ((hB.sub (by simp[dy.mH])).size r4.size);exact⟨Vc,a2,w2,x6.step r4,.of_steps (.head (EB _) oU (nD.1 _ hg)) GW⟩
      | ret=>exact⟨.ret,a',w',⟨g',e',σ',r1,r2,r3,r4,r5⟩,.of_steps (.one (EB _) oU) nD⟩
      | panic ch=>exact⟨.panic ch,a',w',⟨g',e',σ',r1,r2,r3,r4,r5⟩,.of_steps (.one (EB _) oU) nD⟩
      | outgrown=>exact r5.elim
     ·cases hc
    ·cases hc
   ·cases hc
def SD{nt:Nat}{h:Hints}(c:Code): Sound P nt h c:=(Px c).1
inductive sZ where
 | tmp (t:Nat)
 | cell (t:Nat) (ag:Bool) (n:Nat)
structure ZH where
 nt:Nat
 results:List sZ
 body:dy
def ou(P:Program)(nt:Nat): List ResultVar->Option (List sZ)
 | []=>some []
 | .tmp t::r=>if t<nt then(ou P nt r).map (.tmp t:: ·)else none
 | .cell a t :: r => match lH P t, P.info? t with
   | some ag,some i=>if a<nt && (ag || i.size==1)then (ou P nt r).map (.cell a ag i.size:: ·)else none
   | _,_=>none
def Ae(P:Program)(h:Hints)(fn:Func): Option ZH :=
 match fn.body with
 | some c => match cJ P fn.ntmps h false c, ou P fn.ntmps fn.results.toList with
   | some b,some rs=>some ⟨fn.ntmps,rs,b⟩
   | _,_=>none
 | none=>none
def qI(e:Env)(σ : ae): List sZ->(List AV->Prop)->Prop
 | [],K=>K []
 | .tmp t::r,K=>qI e σ r fun vs=>K (e t::vs)
 | .cell t ag n::r,K=>iI σ ag n (e t) fun v=>qI e σ r fun vs=>K (v::vs)
def oneOf: List AV->AV
 | [v]=>v
 | vs=> .bU vs
def XO(rs:List sZ)(R:Out->ae->Prop): AQ
 | .normal,e,σ=>qI e σ rs fun vs=>R (.ret (oneOf vs)) σ
 | .ret,e,σ=>qI e σ rs fun vs=>R (.ret (oneOf vs)) σ
 | .panic v,_,σ=>R (.panic v) σ
 | _,_,_=>False
def s4(args:List AV): Env:=fun n=>args.getD n .undef
def Ve {nt : Nat} {g : aJ} {w : World} {σ : ae} {e : Env} {tmps : Array Value} (hR : Rel g w σ) (hE : fY nt g w e tmps) : ∀ (rv : List ResultVar) (rs : List sZ) (K : List AV -> Prop), ou P nt rv = some rs -> qI e σ rs K ->
    ∃ (vT : List AV) (us : List Value), (rv.mapM fun (r : ResultVar) => (match r with
      | ResultVar.tmp t=>pure (tmps.getD t Go.undef)
      | ResultVar.cell a t=>do loadVar t (← asAddr (tmps.getD a Go.undef)):Sem Value)).run P w=Result.ok us w/\vT.length=us.length/\(∀ i,i<vT.length->VR g w (vT.getD i .undef) (us.getD i Go.undef))/\K vT:=by
 intro rv
 induction rv with
 | nil=>intro rs K h hK;cases h;exact⟨[],[],rfl,rfl,fun i hi=>absurd hi (Nat.not_lt_zero _),hK⟩
 | cons r rv ih =>
   intro rs K h hK;cases r with
   | tmp t =>
     simp only[ou]at h;split at h
     ·rename_i ht;simp only[aW]at h;obtain⟨rs',h1,rfl⟩:=h;obtain⟨vT,us,r1,r2,r3,r4⟩:=ih rs' _ h1 hK;refine⟨e t::vT,tmps.getD t Go.undef::us,?_,by simp[r2],fun i hi=>?_,r4⟩
      ·rw[List.mapM_cons,Sem.run_bind];simp only[Sem.run_pure,Result.andThen_ok,Sem.run_bind,r1]
      ·cases i with
       | zero=>simpa using hE.rel t ht
       | succ i=>simpa using r3 i (by simpa using hi)
     ·cases h
   | cell a t =>
     simp only[ou]at h;split at h
     ·rename_i ag ti hA hi;split at h
      ·rename_i hh;simp only[aq,decide_eq_true_eq,dm,beq_iff_eq]at hh;simp only[aW]at h;obtain⟨rs',h1,rfl⟩:=h
       have hone:ag=false->ti.size=1:=fun e1=>by
        rcases hh.2 with h|h
        ·rw[e1]at h;cases h
        ·exact h
       have hv:=hE.rel a hh.1;obtain⟨u,av,l1,l2,l3⟩:=Kk (P:=P) hR hA hi hone hv hK
       obtain⟨A,vP⟩:∃ A,tmps.getD a Go.undef = .pointer (some A):=by
        simp only[qI]at hK;generalize e a=p at hv hK;generalize tmps.getD a Go.undef=pv at hv;cases hv<;>simp only[iI]at hK
        ·rename_i h;obtain⟨_,A,h,_⟩:=h;exact⟨A,h⟩
        ·exact⟨_,rfl⟩
        ·rename_i h;obtain⟨_,_,A,h,_⟩:=h;exact⟨A,h⟩
       obtain⟨vT,us,r1,r2,r3,r4⟩:=ih rs' _ h1 l3;refine⟨av::vT,u::us,?_,by simp[r2],fun i hi=>?_,r4⟩
       ·rw[vP]at l1;simp only[Instr.loadAt,Instr.sureAddr,Sem.run_bind,Sem.run_pure,Result.andThen_ok]at l1;have ha:(asAddr (tmps.getD a Go.undef)).run P w = .ok A w:=by rw[vP];rfl
        rw[List.mapM_cons,Sem.run_bind];simp only[Sem.run_bind,ha,Result.andThen_ok,l1,r1,Sem.run_pure]
       ·cases i with
        | zero=>simpa using l2
        | succ i=>simpa using r3 i (by simpa using hi)
      ·cases h
     ·cases h
def Py{fn:Func}{tmps:Array Value}{us:List Value}{w:World} (h:(fn.results.toList.mapM fun(r:ResultVar)=>(match r with
 | ResultVar.tmp t=>pure (tmps.getD t Go.undef)
 | ResultVar.cell a t => do loadVar t (← asAddr (tmps.getD a Go.undef)) : Sem Value)).run P w = Result.ok us w) :
    (results fn tmps).run P w = .ok (if h:us.toArray.size=1 then us.toArray[0]else .tuple us.toArray) w:=by
 unfold results;rw[Array.mapM_eq_mapM_toList];simp only[Sem.run_bind,Sem.run_map];exact(congrArg (fun r:Result (List Value)=>(r.andThen fun a w'=>Result.ok a.toArray w').andThen fun a w'=>Sem.run P (pure (if h:a.size=1 then a[0]else Value.tuple a):Sem Value) w') h).trans rfl
def w8 {nt : Nat} {fn : Func} {tmps : Array Value} {R : Ending -> World -> Prop} {g0 : aJ} {w0 : World} {r9 : ae} {g : aJ} {σ : ae} {e : Env} {u : FrameMode} {X : List Deferred} (hu : u ≠ .run) : ∀ (ds : List Deferred) (w : World),
    Cb (fun D=>w0.heap.size<=D) σ g w ds->Rel g w σ->fY nt g w e tmps->fC r9 g0 w0 σ g w->(∀ w2,Rel g w2 σ->fY nt g w2 e tmps->fC r9 g0 w0 σ g w2->kK g w g w2->LeavesInM (WF none) 0 P fn tmps R X u w2)->LeavesInM (WF none) 0 P fn tmps R (ds++X) u w
 | [],w,_,hR,hE,hv,XP=>XP w hR hE hv (.refl _ _)
 | d :: ds, w, hd, hR, hE, hv, XP => by
   obtain⟨D,h1,h2,h3,h4,h5⟩:=hd.mark d (by simp);obtain⟨r1,r2,r3⟩:=hR.abD (w':=w.putObj D (.deferred none)) hv h2 h4 h5 (by simp) rfl rfl rfl (fun c hc=>World.putObj_heap_other hc);refine⟨hu,.inl ⟨D,_,by rw[h1],run_takeDeferred h3,w8 hu ds _ ⟨(List.nodup_cons.1 hd.nodup).2,fun d' hd'=>?_⟩ r1 (hE.mono r3) r2 (fun w2 a1 a2 a3 a4=>XP w2 a1 a2 a3 (r3.trans a4))⟩⟩;obtain⟨D',k1,k2,k3,k4,k5⟩:=hd.mark d' (by simp[hd']);refine⟨D',k1,k2,(World.putObj_heap_other (fun e=>?_)).trans k3,k4,k5⟩;subst e;exact(List.nodup_cons.1 hd.nodup).1 (by rw[h1,<-k1];exact hd')
def aar{g:aJ}{w:World}{vT:List AV}{us:List Value}(r2:vT.length=us.length)(r3:∀ i,i<vT.length->VR g w (vT.getD i .undef) (us.getD i Go.undef)): VR g w (oneOf vT) (if h:us.toArray.size=1 then us.toArray[0]else .tuple us.toArray):=by
 match vT,us,r2,r3 with
 | [av],[u],_,r3=>simpa[oneOf]using r3 0 (by simp)
 | [],[],_,r3=>exact .bU [] #[] rfl (fun i hi=>absurd hi (cG _))
 | a1 :: a2 :: az, u1 :: u2 :: us, r2, r3 =>
   have:¬ (u1::u2::us).toArray.size=1:=by simp
   rw[dif_neg this];exact .bU _ _ (by simpa using r2) (fun i hi=>by simpa using r3 i hi)
def Pz {nt : Nat} {fn : Func} {rs : List sZ} {g : aJ} {w : World} {σ : ae} {R : Out -> ae -> Prop} {ex : Exit} {a : Act} {w' : World} (hrs : ou P nt fn.results.toList = some rs)
    (h:QR [] nt (fun D=>w.heap.size<=D) g w σ (XO rs R) ex a w'):bodyPostM (WF none) 0 P fn (fun e w'=> ∃ out g' σ',Rel g' w' σ'/\fC σ g w σ' g' w'/\IN g' w' out e/\R out σ') ex a w':=by
 obtain⟨g',e',σ',⟨ms,ZG,h1⟩,h2,h3,h4,h5⟩:=h
 have done:qI e' σ' rs (fun vs=>R (.ret (oneOf vs)) σ')->LeavesInM (WF none) 0 P fn a.tmps (fun e w'=> ∃ out g' σ',Rel g' w' σ'/\fC σ g w σ' g' w'/\IN g' w' out e/\R out σ') a.defers .returning w':=fun hres=>by
  rw[ZG];refine w8 (by simp) ms w' h1 h2 h3 h4 (fun w2 h2 h3 h4 _=>?_);obtain⟨vT,us,r1,r2,r3,r4⟩:=Ve (P:=P) h2 h3 fn.results.toList rs _ hrs hres;exact⟨_,Py r1,.ret (oneOf vT),g',σ',h2,h4,aar r2 r3,r4⟩
 cases ex with
 | normal=>exact done h5
 | ret=>exact done h5
 | panic chain =>
   obtain⟨v,av,rfl,hv,hq⟩:=h5;show LeavesInM (WF none) 0 P fn a.tmps _ a.defers _ w';rw[ZG];exact w8 (by simp) ms w' h1 h2 h3 h4 (fun w2 h2 h3 h4 hm=>⟨.panic av,g',σ',h2,h4,⟨v,rfl,hv.mono hm⟩,hq⟩)
 | exit id=>exact h5.elim
 | goto l=>exact h5.elim
 | outgrown=>exact h5.elim
def cR.of_wp {f : FuncId} {fn : Func} {h : Hints} {af : ZH} {args : List AV} {σ : ae} {R : Out → ae → Prop} (hf : P.funcs[f]? = some fn) (hn : (fn.name == "runtime.NumGoroutine") = false) (hc : Ae P h fn = some af)
    (hl:args.length<=af.nt) (hw:jm P af.body (XO af.results R) (s4 args) σ):cR P f args σ R:=by
 unfold Ae at hc;split at hc
 ·rename_i c hb;split at hc
  ·rename_i b rs h1 h2;cases hc;refine⟨⟨fn,hf,by simp[hb],hn⟩,fun g w vs hR hlen hv=>?_⟩;refine IZ.1 (callsIn_of_wp_marks (F:=WF none) (n:=0) hf hb trivial (wpIn_mono (SD c [] none 0 (fun D=>w.heap.size<=D) b _ g w σ (s4 args) _ h1 hw hR ⟨?_,fun t ht=>?_⟩ (kC.nil _ _ _ _ _) (Bk.at _ _)) fun ex a w' hq=>Pz h2 hq))
   ·simp only at hl;simp;omega
   ·by_cases h:t<args.length
    ·have h3:t<vs.size:=by omega
     have:=hv t h;simp only[s4];rw[eH,eo h3];simpa using this
    ·have:s4 args t = .undef:=by simp[s4,List.getElem?_eq_none (Nat.le_of_not_lt h)]
     rw[this];exact .undef _
  ·cases hc
 ·cases hc
end
