/- Part. -/
import Derived.Test.YtdohdkdejmhgnaaGreatDoorY04
import Derived.Scope
import Derived.IntWalk
set_option linter.all false
namespace Go.AM
def Bv: cQ->Option Nat
 | .seq a b => match Bv a with
   | some l=>some l
   | none=>Bv b
 | .label l=>some l
 | _=>none
def jY: cQ->Nat->Option cQ
 | .seq a b, l => match jY a l with
   | some r=>some (.seq r b)
   | none=>jY b l
 | .label l',l=>if l'==l then some .skip else none
 | _,_=>none
section
variable (P:Program)
def holds(nt:Nat)(gs:List bV): List bV :=
 (List.range (gs.foldl (fun m g => match g.op with
   | .jO k _ _=>Nat.max m (k+1-nt)
   | .n_ k _ _ _ _=>Nat.max m (k+1-nt)
   | .oa k _ _ _ _=>Nat.max m (k+1-nt)
   | _=>m) 0)).map fun i=>⟨.hold,some (nt+i),none⟩
def GC {X : List Deferred} {P : Program} {Q : AQ} {nt : Nat} {B : Nat -> Prop} {w : World} {tmps : Array Value} {ds : List Deferred} {gs : List bV} : ∀ (l : List Nat) (g : aC) (σ : ai) (e : Env), dL P Q ((l.map fun i => (⟨.hold, some (nt + i), none⟩ : bV)) ++ gs) e σ -> Rel g w σ -> fm nt g w e tmps -> ja X B σ g w ds ->
    ∃ g' σ' e',dL P Q gs e' σ'/\Rel g' w σ'/\fm nt g' w e' tmps/\ja X B σ' g' w ds/\ep σ g w σ' g' w
 | [],g,σ,e,h,hR,hE,hd=>⟨g,σ,e,h,hR,hE,hd,.refl _ _ _⟩
 | i :: l, g, σ, e, h, hR, hE, hd => by
   rw[bN,gO]at h;have h:dL P Q ((l.map fun i=>(⟨.hold,some (nt+i),none⟩:bV))++gs) (cZ e (some (nt+i)) (.ref σ.length 0)) (σ++[.resv]):=h;obtain⟨r1,r2⟩:=hR.hold
   have Wk:fm nt (g.push 0 none 0) w (cZ e (some (nt+i)) (.ref σ.length 0)) tmps:=by
    refine⟨hE.size,fun t ht=>?_⟩;have hne:t≠nt+i:=ae;simp only[cZ,aq hne];exact(hE.mono r2.mono).rel t ht
   obtain⟨g',σ',e',h1,h2,h3,h4,h5⟩:=GC l _ _ _ h r1 Wk (hd.step r2);exact⟨g',σ',e',h1,h2,h3,h4,r2.trans h5⟩
def rcs: Code->List (Code × Code)
 | .rangeFunc _ _ a b=>[(a,b)]
 | .seq a b=>rcs a++rcs b
 | .cond _ a b=>rcs a++rcs b
 | .block _ a=>rcs a
 | .loop a=>rcs a
 | .scope a=>rcs a
 | _=>[]
def an_(P:Program)(n k:Nat): Code × Code:=match(P.funcs[n]?).bind (·.body)with
 | some c=>(rcs c).getD k (.skip,.skip)
 | none=>(.skip,.skip)
def cj(nt:Nat)(h:Hints)(rd:Bool): Code->Option cQ
 | .skip=>some .skip
 | .region _ ops false => match jF P nt h false ops ops.toList with
   | some gs=>some (.region gs)
   | none=>some .stop
 | .region _ ops true => match jF P nt h true ops ops.toList with
   | some gs => let p := abH h ops
     let gd:=ot (gs.map (q8 h)) p
     if(YV ops.size (lB ops) && Oz ops.size p && gs.all (fun g=>DL g.op) && FF ops.size (DP (lB ops) p) gd) && P.follows .mixedOrders then some (.draw (holds nt gd++gd) (pM ops.size (DP (lB ops) p) gd))else some .stop
   | none=>some .stop
 | .seq a b => match cj nt h rd a, cj nt h rd b with
   | some x,some y=>some (.seq x y)
   | _,_=>none
 | .cond c a b => match cX nt c, cj nt h rd a, cj nt h rd b with
   | some z,some x,some y=>some (.cond z x y)
   | _,_,_=>none
 | .block id c=>(cj nt h rd c).map (.block id)
 | .loop c=>(cj nt h rd c).map .loop
 | .exit id=>some (.exit id)
 | .ret=>some .ret
 | .scope c => match cj nt h rd c with
   | some x => match Bv x with
     | some l => match jY x l with
       | some r=>some (.scope l x r)
       | none=>none
     | none=>none
   | none=>none
 | .label l=>some (.label l)
 | .goto l=>some (.goto l)
 | .rangeFunc f ps ca cb => if rd then none else match cX nt f, cj nt h true ca, cj nt h true cb with
   | some z,some x,some y=>some (.rE z nt ps.toList ca cb x y)
   | _,_,_=>none
 | .refuse _=>some .stop
end
def DQ(ro:Option Nat)(P:Program)(m:Machine): m.fenced P (WF ro):=fenced_wide P m
section
variable {P:Program}
def QR.step{X:List Deferred}{nt:Nat}{B:Nat->Prop}{g g':aC}{w w':World}{σ σ':ai}{Q:AQ}(fX:ep σ g w σ' g' w'){ex:Exit}{a:Act}{w2:World}(h:QR X nt B g' w' σ' Q ex a w2): QR X nt B g w σ Q ex a w2:=by
 obtain⟨g2,e2,σ2,h1,h2,h3,h4,h5⟩:=h;exact⟨g2,e2,σ2,h1,h2,h3,fX.trans h4,h5⟩
def Sound(P:Program)(nt:Nat)(h:Hints)(c:Code): Prop :=
 ∀ (X : List Deferred) (ro : Option Nat) (wn : Nat) (B : Nat -> Prop) (ac : cQ) (Q : AQ) (g : aC) (w : World) (σ : ai) (e : Env) (a : Act),
   cj P nt h ro.isSome c=some ac->fg P ac Q e σ->Rel g w σ->fm nt g w e a.tmps->ja X B σ g w a.defers->Ab ac B w->c.wpIn (WF ro) wn P (QR X nt B g w σ Q) a w
def OC{nt:Nat}{h:Hints}{rd:Bool}{l:Nat}: ∀(c:Code) (ac ar:cQ),cj P nt h rd c=some ac->jY ac l=some ar-> ∃ rest,findLabel c l=some rest/\cj P nt h rd rest=some ar:=by
 intro c
 induction c with
 | seq x y w_ uM =>
   intro ac ar hc hf;simp only[cj]at hc;split at hc
   ·rename_i ax ay h1 h2;cases hc;simp only[jY]at hf;split at hf
    ·rename_i r hr;cases hf;obtain⟨rest,r1,r2⟩:=w_ ax r h1 hr;exact⟨.seq rest y,by simp[findLabel,r1],by simp[cj,r2,h2]⟩
    rename_i hr;obtain⟨rest,r1,r2⟩:=uM ay ar h2 hf;refine⟨rest,?_,r2⟩
    have:findLabel x l=none:=by
     have key:∀ (c:Code) (ac:cQ),cj P nt h rd c=some ac->jY ac l=none->findLabel c l=none:=by
      intro c
      induction c with
      | seq x y w_ uM =>
        intro ac hc hf;simp only[cj]at hc;split at hc
        ·rename_i ax ay h1 h2;cases hc;simp only[jY]at hf;split at hf
         ·cases hf
         rename_i hr;simp[findLabel,w_ ax h1 hr,uM ay h2 hf]
        ·cases hc
      | label l' =>
        intro ac hc hf;cases hc;simp only[jY]at hf;simp only[findLabel];split at hf
        ·cases hf
        rename_i hh;rw[aq hh]
      | _=>intros;rfl
     exact key x ax h1 hr
    simp[findLabel,this,r1]
   ·cases hc
 | label l' =>
   intro ac ar hc hf;cases hc;simp only[jY]at hf;split at hf
   ·rename_i hh;cases hf;exact⟨.skip,by simp only[findLabel];rw[aB hh],rfl⟩
   ·cases hf
 | region id ops d =>
   intro ac ar hc hf;cases d<;>simp only[cj]at hc
   ·split at hc<;>(cases hc;cases hf)
   split at hc
   ·split at hc<;>(cases hc;cases hf)
   ·cases hc;cases hf
 | cond z x y =>
   intro ac ar hc hf;simp only[cj]at hc;split at hc
   ·cases hc;cases hf
   ·cases hc
 | block id x=>intro ac ar hc hf;simp only[cj]at hc;obtain⟨gs,_,rfl⟩:=Option.map_eq_some_iff.1 hc;cases hf
 | loop x=>intro ac ar hc hf;simp only[cj]at hc;obtain⟨gs,_,rfl⟩:=Option.map_eq_some_iff.1 hc;cases hf
 | scope x =>
   intro ac ar hc hf;simp only[cj]at hc;split at hc
   ·split at hc
    ·split at hc
     ·cases hc;cases hf
     ·cases hc
    ·cases hc
   ·cases hc
 | rangeFunc f ps x y =>
   intro ac ar hc hf;simp only[cj]at hc;split at hc
   ·cases hc
   split at hc
   ·cases hc;cases hf
   ·cases hc
 | _=>intro ac ar hc hf;cases hc<;>cases hf
def Wm: ∀(c:cQ) (l:Nat) (r:cQ),jY c l=some r->r.mh=true->c.mh=true:=by
 intro c
 induction c with
 | seq a b pN qN =>
   intro l r h hr;simp only[jY]at h;split at h
   ·rename_i r' h';cases h;simp only[cQ.mh,dD]at hr |-;exact hr.imp (pN l r' h') id
   simp only[cQ.mh,dD];exact .inr (qN l r h hr)
 | label l'=>intro l r h hr;simp only[jY]at h;split at h<;>cases h;cases hr
 | _=>intro l r h hr;cases h
def IU{nt:Nat}{h:Hints}: Sound P nt h .skip:=fun X ro wn B ac Q g w σ e a hc hw hR hE hd hB=>by
 cases hc;exact wpIn_skip ⟨g,e,σ,hd,hR,hE,.refl _ _ _,hw⟩
def L4 {nt : Nat} {h : Hints} {x y : Code} (w_ : Sound P nt h x) (uM : Sound P nt h y) : Sound P nt h (.seq x y) := by
    intro X ro wn B ac Q g w σ e a hc hw hR hE hd hB;simp only[cj]at hc;split at hc
    ·rename_i ax ay h1 h2;cases hc;refine wpIn_seq (wpIn_mono (w_ X ro wn B ax _ g w σ e a h1 hw hR hE hd (hB.sub (by simp[cQ.mh];exact fun h=> .inl h))) ?_);rintro ex a' w' ⟨g',e',σ',r1,r2,r3,r4,r5⟩;cases ex with
     | normal =>
       refine wpIn_mono (uM X ro wn B ay Q g' w' σ' e' a' h2 r5 r2 r3 r1 ((hB.sub (by simp[cQ.mh];exact fun h=> .inr h)).size r4.size)) fun ex a2 w2 hq=>hq.step r4
     | exit id=>exact⟨g',e',σ',r1,r2,r3,r4,r5⟩
     | goto l=>exact⟨g',e',σ',r1,r2,r3,r4,r5⟩
     | ret=>exact⟨g',e',σ',r1,r2,r3,r4,r5⟩
     | panic ch=>exact⟨g',e',σ',r1,r2,r3,r4,r5⟩
     | outgrown=>exact r5.elim
    ·cases hc
def oR{b:Frame}{a:Act}{k:List Item}{cs:List Frame}{w:World}{c:Code}: Go.step P (lone (b.atR a (.code (.scope c)::k)) cs w) = .next (lone (b.atR a (.code c:: .inScope c::k)) cs w) :=
 step_lone_go (by simp[stepG,stepG.exec,Frame.atR])
def CD{b:Frame}{a:Act}{k:List Item}{cs:List Frame}{w:World}{c:Code}: Go.step P (lone (b.atR a (.inScope c::k)) cs w) = .next (lone (b.atR a k) cs w) :=
 step_lone_go (by simp[stepG,stepG.exec,Frame.atR])
def GD {nt : Nat} {g : aC} {w : World} : ∀ (ps : List Nat) (args : List AV) (vs : List Value) (e : Env) (tmps : Array Value), fm nt g w e tmps -> args.length = vs.length -> (∀ i, i < args.length -> VR g w (args.getD i .undef) (vs.getD i Go.undef)) ->
    fm nt g w (nJ ps args e) ((ps.zip vs).foldl (fun t (p,v)=>t.setIfInBounds p v) tmps)
 | [],args,vs,e,tmps,hE,_,_=>by cases args<;>exact hE
 | p :: ps, [], vs, e, tmps, hE, hl, _ => by
   cases vs with
   | nil=>exact hE
   | cons=>cases hl
 | p :: ps, a :: args, vs, e, tmps, hE, hl, hv => by
   cases vs with
   | nil=>cases hl
   | cons v vs =>
     simp only[nJ,List.zip_cons_cons,List.foldl_cons];refine GD ps args vs _ _ ?_ (by simpa using hl) (fun i hi=>by simpa using hv (i+1) (by simpa using hi));have h0:=hv 0 aT;have:=fm.put (a:= { tmps:=tmps,defers:=[] }) hE (some p) (v:=v) (x:=a) (by simpa using h0);simpa[Act.put]using this
def xd {nt : Nat} {e : Env} {ps : Array Tmp} {ca cb : Code} {g : aC} {w : World} {σ : ai} {l : Nat} {st : LoopState} {pe : Option Code} (hR : Rel g w σ) (ho : σ[l]? = some (.loop nt e ps ca cb st pe)) :
    g.ver l=0/\ ∃ b rec,g.base l=some b/\w.heap[b]? = some (.loop rec)/\rec.params=ps/\rec.assign=ca/\rec.body=cb/\rec.state=st/\rec.pending=pe /\
     fm nt g w e rec.tmps:=by
 obtain⟨h1,b,rec,h2,h3,h4,h5,h6,h7,h8,h9,h10⟩:=hR.ok l _ ho;exact⟨h1,b,rec,h2,h3,h4,h5,h6,h7,h8,⟨h9,h10⟩⟩
def OD {nt : Nat} {e : Env} {ps : Array Tmp} {ca cb : Code} {g : aC} {w : World} {σ : ai} {l : Nat} {st : LoopState} {pe : Option Code} (hR : Rel g w σ) (ho : σ[l]? = some (.loop nt e ps ca cb st pe))
    {b:Nat} {rec:Loop} (hb:g.base l=some b) (hw:w.heap[b]? = some (.loop rec)) (st':LoopState) (pe':Option Code) :
    Rel g (w.putObj b (.loop { rec with state:=st',pending:=pe' })) (σ.set l (.loop nt e ps ca cb st' pe')) /\
    ep σ g w (σ.set l (.loop nt e ps ca cb st' pe')) g (w.putObj b (.loop { rec with state:=st',pending:=pe' })):=by
 obtain⟨h1,b',rec',h2,h3,h4,h5,h6,h7,h8,h9⟩:=xd hR ho;rw[hb]at h2;cases h2;rw[hw]at h3;cases h3;exact hR.update ho rfl hb aT rfl rfl rfl (fun c hc=>World.putObj_heap_other hc) (fun hm=>⟨h1,b,_,hb,World.putObj_heap_same (dN.1 hw).1,h4,h5,h6,rfl,rfl,h9.size,fun t ht=>(h9.rel t ht).mono hm⟩)
def Wn {nt : Nat} {e : Env} {ps : Array Tmp} {ca cb : Code} {g : aC} {w : World} {σ : ai} {l : Nat} {st : LoopState} {pe : Option Code} (hR : Rel g w σ) (ho : σ[l]? = some (.loop nt e ps ca cb st pe))
    {b:Nat} (o:Obj) (hb:g.base l=some b) :
    Rel g (w.putObj b o) (σ.set l .dead)/\ep σ g w (σ.set l .dead) g (w.putObj b o) :=
 hR.update ho rfl hb aT rfl rfl rfl (fun c hc=>World.putObj_heap_other hc) (fun _=>trivial)
def QW {nt : Nat} {h : Hints} {ca cb : Code} (pN : Sound P nt h ca) (qN : Sound P nt h cb) {aa ab : cQ} (ha : cj P nt h true ca = some aa) (hb : cj P nt h true cb = some ab) {ps : List Nat} {e : Env} {l : Nat}
    {σ : ai} {args:List AV} {R:Out->ai->Prop} (ho : σ[l]? = some (.loop nt e ps.toArray ca cb .ready none)) (hl:args.length=ps.length)
    (hw:fg P aa (YO l (.loop nt e ps.toArray ca cb .ready none) (.loop nt e ps.toArray ca cb .busy none) (fg P ab (TJ l (.loop nt e ps.toArray ca cb) R))) (nJ ps args e) σ):oF P l args σ R:=by
 refine⟨⟨_,_,_,_,_,_,_,ho⟩,fun g w vs b hR hbase hlen hv=>?_⟩;obtain⟨h1,b',rec,h2,h3,h4,h5,h6,h7,h8,h9⟩:=xd hR ho;rw[hbase]at h2;cases h2;have hy:=run_yield (P:=P) (args:=vs) h3 (by rw[h4];simp;omega);rw[h4,h5,h6]at hy;refine⟨_,_,_,_,hy,?_⟩
 have hE:fm nt g w (nJ ps args e) ((ps.toArray.zip vs).foldl (fun t (p,v)=>t.setIfInBounds p v) rec.tmps):=by
  have:=GD ps args vs.toList e rec.tmps h9 (by simpa using hlen) (fun i hi=>by have:=hv i hi;simpa using this);rw[<-Array.foldl_toList];simpa using this
 have key:RoundIn (WF none) 0 P b rec.fn ((ps.toArray.zip vs).foldl (fun t (p,v)=>t.setIfInBounds p v) rec.tmps) ca cb w fun en w'=> ∃ out g' σ',Rel g' w' σ'/\ep σ g w σ' g' w'/\vf g' w' out en/\R out σ':=by
  refine roundIn_of_wpIn trivial ?_;refine wpIn_mono (pN [] (some b) 0 (fun D=>0<=D) aa _ g w σ (nJ ps args e) { tmps:=_,defers:=[] } ha hw hR hE (ja.nil _ _ _ _ _) (fun _ D _=>cD D)) ?_;rintro ex a1 w1 ⟨g1,e1,σ1,d1,R1,E1,V1,q1⟩;cases ex with
  | normal =>
    obtain⟨q1,q2⟩:=q1;obtain⟨k1,b1,xe,k2,k3,k4,k5,k6,k7,k8,k9⟩:=xd R1 q1
    have oH:b1=b:=by
     have hlt:l<g.n:=by rw[<-hR.len];exact(aK.1 ho).1
     have:=((V1.mono.ver l hlt).2 (k1.trans h1.symm)).1;rw[this,hbase]at k2;cases k2;rfl
    subst oH;have hbr:=run_beginRound (P:=P) k3 k7;obtain⟨p1,p2⟩:=OD R1 q1 k2 k3 .busy none;have hpe:({ xe with state:= .busy,pending:=none }:Loop) = { xe with state:= .busy }:=by cases xe;simp only at k8;subst k8;rfl
    rw[hpe]at p1 p2;refine⟨_,hbr,?_⟩
    have q1':(σ1.set l (.loop nt e ps.toArray ca cb .busy none))[l]? = some (.loop nt e ps.toArray ca cb .busy none):=by
     have:=(aK.1 q1).1;simp[this]
    refine wpIn_mono (qN [] (some b1) 0 (fun D=>0<=D) ab _ g1 _ _ e1 a1 hb q2 p1 (E1.mono p2.mono) ((d1.step p2)) (fun _ D _=>cD D)) ?_;rintro ex a2 w2 ⟨g2,e2,σ2,d2,R2,E2,V2,q2⟩
    have fin:∀ jump,σ2[l]? = some (.loop nt e ps.toArray ca cb .busy none)->R (.ret (.bool jump.isNone)) (σ2.set l (.loop nt e ps.toArray ca cb (if jump.isNone then .ready else .done) jump)) ->
     ∃ v w3,(Instr.endRound b1 jump).run P w2 = .ok v w3/\ ∃ out g' σ',Rel g' w3 σ'/\ep σ g w σ' g' w3/\vf g' w3 out (.returned v)/\R out σ':=fun jump q2 hr=>by
     obtain⟨m1,b2,aoa,m2,m3,m4,m5,m6,m7,m8,m9⟩:=xd R2 q2
     have oH:b2=b1:=by
      have hlt:l<g1.n:=by rw[<-R1.len];exact(aK.1 q1).1
      have:=((V2.mono.ver l hlt).2 (m1.trans k1.symm)).1;rw[this,k2]at m2;cases m2;rfl
     subst oH;obtain⟨s1,s2⟩:=OD R2 q2 m2 m3 (if jump.isNone then .ready else .done) jump;exact⟨_,_,run_endRound jump m3,.ret (.bool jump.isNone),g2,_,s1,((V1.trans p2).trans V2).trans s2,.bool _,hr⟩
    cases ex with
    | normal=>exact fin none q2.1 q2.2
    | ret=>exact fin (some .ret) q2.1 q2.2
    | exit i=>exact fin (some (.exit i)) q2.1 q2.2
    | goto i=>exact fin (some (.goto i)) q2.1 q2.2
    | panic ch=>obtain⟨_,_,_,_,hf⟩:=q2;exact hf.elim
    | outgrown=>exact q2.elim
  | exit i=>exact q1.elim
  | goto i=>exact q1.elim
  | ret=>exact q1.elim
  | panic ch=>obtain⟨_,_,_,_,hf⟩:=q1;exact hf.elim
  | outgrown=>exact q1.elim
 exact key
def Wo{nt:Nat}{h:Hints}{f:Operand}{ps:Array Tmp}{ca cb:Code}(pN:Sound P nt h ca)(qN:Sound P nt h cb): Sound P nt h (.rangeFunc f ps ca cb):=by
 intro X ro wn B ac Q g w σ e a hc hw hR hE hd hB;cases ro with
 | some l=>simp[cj]at hc
 | none =>
   simp only[cj,Option.isSome_none,aN,if_false]at hc;split at hc
   ·rename_i af aa ab h1 h2 h3;cases hc;have v1:=bL h1 hE;simp only[fg]at hw;generalize AX.ev e af=z at v1 hw;generalize fX:a.eval f=fv at v1;unfold Oh at hw;split at hw
    ·rename_i n first cap
     cases v1;rename_i first' cap' hl hh hl' Dy;have hw:=hw (.loop nt e ps.toList.toArray ca cb) (fun st pe=>rfl) (fun σ' args R ho hl ha=>QW pN qN h2 h3 ho hl ha);simp only[dW]at hw;refine wpIn_rangeFunc fun fn _=>?_;obtain⟨R1,V1⟩:=hR.Yr (.deferred (some []));have E1:=hE.mono V1.mono
     let xe:Loop:= { state:= .ready,pending:=none,fn,tmps:=a.tmps,params:=ps,assign:=ca,body:=cb,defers:=w.heap.size }
     obtain⟨R2,V2⟩:=R1.pG (.loop xe) (.loop nt e ps ca cb .ready none) 0 0
      ⟨by simp[aC.push],_,xe,by simp[aC.push],World.alloc_heap_new _ _,rfl,rfl,rfl,rfl,rfl,E1.size,fun t ht=>(E1.rel t ht).mono (kj g (w.alloc (.deferred (some []))) (.loop xe) 0 _ 0 R1.lt)⟩
     have V12:=V1.trans V2;have hnew:(g.push 0 (some (w.alloc (.deferred (some []))).heap.size) 0).base σ.length=some (w.heap.size+1):=by simp[aC.push,hR.len]
     have hyv:VR (g.push 0 (some (w.alloc (.deferred (some []))).heap.size) 0) ((w.alloc (.deferred (some []))).alloc (.loop xe)) (.lW σ.length) (.func (.yield (w.heap.size+1)) #[] #[]) :=
      .lW _ _ ⟨by simp[aC.push,hR.len],_,rfl,fun _=>hnew⟩
     obtain⟨c1,c2⟩:=qb hl (fun i hi=>(hh i hi).mono V12.mono) (bs:=[.lW σ.length]) (vs:= #[.func (.yield (w.heap.size+1)) #[] #[]]) rfl (fun i hi=>by
      have:i=0:=by simpa using hi
      subst this;exact hyv)
     obtain⟨c3,c4⟩:=qb c1 c2 hl' (fun i hi=>(Dy i hi).mono V12.mono)
     refine⟨w.heap.size+1,[{ target:= .collected w.heap.size,args:= #[] }],((w.alloc (.deferred (some []))).alloc (.loop xe)),{ target:= .fn (.func n) cap',args:=first'++ #[.func (.yield (w.heap.size+1)) #[] #[]] },((w.alloc (.deferred (some []))).alloc (.loop xe)),n,
      first'++ #[.func (.yield (w.heap.size+1)) #[] #[]]++cap',((w.alloc (.deferred (some []))).alloc (.loop xe)),run_enterLoop_outer fn a.tmps ps ca cb,?_,fun _ _=>trivial,?_,fun hx=>by simp[WF,Fence.wide]at hx,?_⟩
     ·simp only[resolve,rangeCall,Sem.run_bind,fX,Deferred.ofValue,Sem.run_pure,Result.andThen_ok];simp[Act.eval]
     ·simp only[invoke];exact r9 hw.1 _ _
     refine FC.2 ((hw.2 _ _ _ R2 c3 c4).mono ?_);rintro en w3 ⟨out,g3,σ3,R3,V3,o3,q3⟩;have V:=V12.trans V3;have E3:fm nt g3 w3 e a.tmps:=hE.mono V.mono
     have hD:∀ {σ4:ai} {g4:aC} {w4:World},ep σ3 g3 w3 σ4 g4 w4->ja X B σ4 g4 w4 ({ target:= .collected w.heap.size,args:= #[] }::a.defers):=fun {σ4 g4 w4} V4=>by
      refine ja.step ?_ V4;have DR:(w.alloc (.deferred (some []))).heap[w.heap.size]? = some (.deferred (some [])):=World.alloc_heap_new _ _;have hlt:w.heap.size<(w.alloc (.deferred (some []))).heap.size:=aT;have hnt:¬ kD σ g w.heap.size:=fun ht=>absurd (hR.rU ht) (ij _);have hni:¬ g.eS w.heap.size:=fun hi=>absurd (hR.lt _ hi) (ij _)
      have d0:ja X B σ g (w.alloc (.deferred (some []))) ({ target:= .collected w.heap.size,args:= #[] }::a.defers):=by
       obtain⟨ms,GF,hd⟩:=hd;refine⟨{ target:= .collected w.heap.size,args:= #[] }::ms,by rw[GF];rfl,List.nodup_cons.2 ⟨fun hm=>?_,hd.nodup⟩,fun d hm=>?_⟩
       ·obtain⟨D,e1,_,e3,_⟩:=hd.mark _ hm;have:=(dN.1 e3).1;cases e1;exact absurd this (Nat.lt_irrefl _)
       rcases List.mem_cons.1 hm with rfl|hm
       ·exact⟨_,rfl,hB rfl _ (aV _),DR,hnt,hni⟩
       exact(hd.step V1).mark d hm
      exact(d0.step V2).step V3
     cases out with
     | ret r =>
       cases en with
       | returned v =>
         obtain⟨st,pe,ho,hst,q⟩:=q3;obtain⟨k1,b1,adE,k2,k3,k4,k5,k6,k7,k8,k9⟩:=xd R3 ho
         have oH:b1=w.heap.size+1:=by
          have:=((V3.mono.ver σ.length (by simp[aC.push,hR.len])).2 (k1.trans (by simp[aC.push,hR.len]))).1;rw[this,hnew]at k2;cases k2;rfl
         subst oH;obtain⟨s1,s2⟩:=Wn R3 ho (.loop { adE with state:= .exhausted }) k2;have hend:=run_endLoop (P:=P) k3 (by rw[k7];exact hst);obtain⟨w4,hw4⟩:=gi (w3.putObj (w.heap.size+1) (.loop { adE with state:= .exhausted }));rw[hw4]at s1 s2 hend;rw[k8]at hend;have E4:=E3.mono s2.mono;refine⟨_,_,hend,?_⟩
         have fin:∀ ex:nx,Q ex e (σ3.set σ.length .dead)-> ∃ g' e' σ',ja X B σ' g' w4 ({ target:= .collected w.heap.size,args:= #[] }::a.defers)/\Rel g' w4 σ' /\
          fm nt g' w4 e' a.tmps/\ep σ g w σ' g' w4/\Q ex e' σ':=fun ex hq =>
          ⟨g3,e,_,hD s2,s1,E4,V.trans s2,hq⟩
         split at q
         ·obtain⟨g',e',σ',f1,f2,f3,f4,f5⟩:=fin _ q;exact⟨g',e',σ',f1,f2,f3,f4,f5⟩
         ·obtain⟨g',e',σ',f1,f2,f3,f4,f5⟩:=fin _ q;exact wpIn_ret ⟨g',e',σ',f1,f2,f3,f4,f5⟩
         ·obtain⟨g',e',σ',f1,f2,f3,f4,f5⟩:=fin _ q;exact wpIn_exit ⟨g',e',σ',f1,f2,f3,f4,f5⟩
         ·obtain⟨g',e',σ',f1,f2,f3,f4,f5⟩:=fin _ q;exact wpIn_goto ⟨g',e',σ',f1,f2,f3,f4,f5⟩
         exact q.elim
       | panicked c=>exact o3.elim
       | outgrown=>exact o3.elim
     | panic r =>
       cases en with
       | returned v=>exact o3.elim
       | panicked c=>obtain⟨v,rfl,o3⟩:=o3;exact⟨g3,e,σ3,hD (.refl _ _ _),R3,E3,V,v,r,rfl,o3,q3⟩
       | outgrown=>exact o3.elim
    exact hw.elim
   ·cases hc
def QX{nt:Nat}{h:Hints}: ∀(c:Code),Sound P nt h c/\ ∀ l rest,findLabel c l=some rest->Sound P nt h rest:=by
 intro c
 induction c with
 | skip=>exact⟨IU,fun _ _ h=>by cases h⟩
 | region id ops draw =>
   refine⟨?_,fun _ _ h=>by cases h⟩;intro X ro wn B ac Q g w σ e a hc hw hR hE hd hB;cases draw with
   | true =>
     simp only[cj]at hc;split at hc
     ·rename_i gs h1;split at hc
      ·rename_i hok;simp only[aD]at hok;cases hc;obtain⟨g1,σ1,e1,k1,k2,k3,k4,k5⟩:=GC _ g σ e hw hR hE hd;exact wpIn_mono (TQ h1 hok.1.1.1.1 hok.1.1.1.2 hok.1.1.2 hok.1.2 hok.2 k1 k2 k3 k4) fun _ _ _ hq=>QR.step k5 hq
      ·cases hc;exact hw.elim
     ·cases hc;exact hw.elim
   | false =>
     simp only[cj]at hc;split at hc
     ·rename_i gs h1;cases hc;refine wpIn_region ?_;have:=yG (ro:=ro) (wn:=wn) (B:=B) (ops:=ops) (Q:=Q) (g0:=g) (w0:=w) (lY:=σ) ops.toList 0 gs g w σ e a h1 (fun j _=>by simp) hw hR hE hd (.refl _ _ _);rw[iL];simpa using this
     ·cases hc;exact hw.elim
 | seq x y w_ uM =>
   refine⟨L4 w_.1 uM.1,fun l rest hf=>?_⟩;simp only[findLabel]at hf;split at hf
   ·rename_i r hr;cases hf;exact L4 (w_.2 l r hr) uM.1
   exact uM.2 l rest hf
 | cond z x y w_ uM =>
   refine⟨?_,fun _ _ h=>by cases h⟩
   replace w_:=w_.1
   replace uM:=uM.1
   intro X ro wn B ac Q g w σ e a hc hw hR hE hd hB;simp only[cj]at hc;split at hc
   ·rename_i az ax ay h1 h2 h3;cases hc;have v1:=bL h1 hE;simp only[fg]at hw;generalize AX.ev e az=zv at v1 hw;generalize fX:a.eval z=cv at v1;cases v1<;>simp only at hw;rename_i t;refine wpIn_cond_split fX (fun ht=>?_) (fun ht=>?_)
    ·exact w_ X ro wn B ax Q g w σ e a h2 (hw.1 ht) hR hE hd (hB.sub (by simp[cQ.mh];exact fun h=> .inl h))
    exact uM X ro wn B ay Q g w σ e a h3 (hw.2 ht) hR hE hd (hB.sub (by simp[cQ.mh];exact fun h=> .inr h))
   ·cases hc
 | block id x ih =>
   refine⟨?_,fun _ _ h=>by cases h⟩
   replace ih:=ih.1
   intro X ro wn B ac Q g w σ e a hc hw hR hE hd hB;simp only[cj,aW]at hc;obtain⟨ax,h1,rfl⟩:=hc;refine wpIn_block (wpIn_mono (ih X ro wn B ax _ g w σ e a h1 hw hR hE hd (hB.sub (by simp[cQ.mh]))) ?_);rintro ex a' w' ⟨g',e',σ',r1,r2,r3,r4,r5⟩;cases ex with
   | exit i =>
     simp only[oI]at r5;simp only[Exit.inBlock];split
     ·rename_i e1;rw[aB e1]at r5;exact⟨g',e',σ',r1,r2,r3,r4,r5⟩
     rename_i e1;rw[aq e1]at r5;exact⟨g',e',σ',r1,r2,r3,r4,r5⟩
   | normal=>exact⟨g',e',σ',r1,r2,r3,r4,r5⟩
   | goto l=>exact⟨g',e',σ',r1,r2,r3,r4,r5⟩
   | ret=>exact⟨g',e',σ',r1,r2,r3,r4,r5⟩
   | panic ch=>exact⟨g',e',σ',r1,r2,r3,r4,r5⟩
   | outgrown=>exact r5.elim
 | loop x ih =>
   refine⟨?_,fun _ _ h=>by cases h⟩
   replace ih:=ih.1
   intro X ro wn B ac Q g w σ e a hc hw hR hE hd hB;simp only[cj,aW]at hc;obtain⟨ax,h1,rfl⟩:=hc;obtain⟨I,⟨n0,hI⟩,adF⟩:=hw
   have key:∀ (n:Nat) (g1:aC) (w1:World) (σ1:ai) (e1:Env) (a1:Act),I n e1 σ1->Rel g1 w1 σ1->fm nt g1 w1 e1 a1.tmps->ja X B σ1 g1 w1 a1.defers->Ab (.loop ax) B w1 ->
    ∀(b:Frame) (k:List Item) (cs:List Frame),b.roundOf=ro-> ∃ ex a' w',QR X nt B g1 w1 σ1 Q ex a' w'/\ArrivesIn (Machine.fenced P (WF ro)) P (lone (b.atR a1 (.code x:: .inLoop x::k)) cs w1) b k cs ex a' w':=by
    intro n
    induction n using Nat.strongRecOn with
    | _ n OE =>
      intro g1 w1 σ1 e1 a1 hI1 L5 uL w7 Wp b k cs hro;obtain⟨ex,a',w',hq,lK⟩:=ih X ro wn B ax _ g1 w1 σ1 e1 a1 h1 (adF n e1 σ1 hI1) L5 uL w7 (Wp.sub (by simp[cQ.mh])) b (.inLoop x::k) cs hro trivial (Ke _ _);obtain⟨g',e',σ',r1,r2,r3,r4,r5⟩:=hq;cases ex with
      | normal =>
        obtain⟨m,hlt,hI2⟩:=r5;obtain⟨Wq,a2,w2,L6,IV⟩:=OE m hlt g' w' σ' e' a' hI2 r2 r3 r1 (Wp.size r4.size) b k cs hro;exact⟨Wq,a2,w2,L6.step r4,.of_steps (StepsIn.trans lK (.one (DQ ro P _) stepR_inLoop)) IV⟩
      | exit id=>exact⟨_,a',w',⟨g',e',σ',r1,r2,r3,r4,r5⟩,.pass (x:= .inLoop x) rfl (fun _ _=> .inl aT) lK⟩
      | goto l=>exact⟨_,a',w',⟨g',e',σ',r1,r2,r3,r4,r5⟩,.pass (x:= .inLoop x) rfl (fun _ _=> .inl aT) lK⟩
      | ret=>exact⟨_,a',w',⟨g',e',σ',r1,r2,r3,r4,r5⟩,.pass (x:= .inLoop x) rfl (fun _ _=> .inl aT) lK⟩
      | panic ch=>exact⟨_,a',w',⟨g',e',σ',r1,r2,r3,r4,r5⟩,.pass (x:= .inLoop x) rfl (fun _ _=> .inl aT) lK⟩
      | outgrown=>exact r5.elim
   intro b k cs hro hF hr;obtain⟨ex,a',w',hq,lK⟩:=key _ g w σ e a hI hR hE hd hB b k cs hro;exact⟨ex,a',w',hq,.of_steps (.one (DQ ro P _) stepR_loop) lK⟩
 | exit id=>exact⟨fun X ro wn B ac Q g w σ e a hc hw hR hE hd hB=>by cases hc;exact wpIn_exit ⟨g,e,σ,hd,hR,hE,.refl _ _ _,hw⟩,fun _ _ h=>by cases h⟩
 | ret=>exact⟨fun X ro wn B ac Q g w σ e a hc hw hR hE hd hB=>by cases hc;exact wpIn_ret ⟨g,e,σ,hd,hR,hE,.refl _ _ _,hw⟩,fun _ _ h=>by cases h⟩
 | rangeFunc f ps x y w_ uM=>exact⟨Wo w_.1 uM.1,fun _ _ h=>by cases h⟩
 | refuse s=>exact⟨fun X ro wn B ac Q g w σ e a hc hw=>(by cases hc;exact hw.elim),fun _ _ h=>by cases h⟩
 | goto l=>exact⟨fun X ro wn B ac Q g w σ e a hc hw hR hE hd hB=>by cases hc;exact wpIn_goto ⟨g,e,σ,hd,hR,hE,.refl _ _ _,hw⟩,fun _ _ h=>by cases h⟩
 | label l =>
   refine⟨fun X ro wn B ac Q g w σ e a hc hw hR hE hd hB=>by cases hc;exact wpIn_label ⟨g,e,σ,hd,hR,hE,.refl _ _ _,hw⟩,fun l' rest hf=>?_⟩;simp only[findLabel]at hf;split at hf
   ·cases hf;exact IU
   ·cases hf
 | scope x ih =>
   refine⟨?_,fun _ _ h=>by cases h⟩;intro X ro wn B ac Q g w σ e a hc hw hR hE hd hB;simp only[cj]at hc;split at hc
   ·rename_i ax h1;split at hc
    ·rename_i l _;split at hc
     ·rename_i ar h2;cases hc;obtain⟨rest,hf,R9⟩:=OC x ax ar h1 h2;have hs:=ih.2 l rest hf;obtain⟨J,adG,air⟩:=hw;intro b k cs hro hF hr;have hfe:∀ m:Machine,m.fenced P (WF ro):=DQ ro P;have hg:gotoIn l (.inScope x::k)=some (.code rest:: .inScope x::k):=by simp[gotoIn,hf]
      have key:∀ (n:Nat) (g1:aC) (w1:World) (σ1:ai) (e1:Env) (a1:Act),J n e1 σ1->Rel g1 w1 σ1->fm nt g1 w1 e1 a1.tmps->ja X B σ1 g1 w1 a1.defers->Ab ax B w1 ->
       ∃ ex a' w',QR X nt B g1 w1 σ1 Q ex a' w'/\ArrivesIn (Machine.fenced P (WF ro)) P (lone (b.atR a1 (.code rest:: .inScope x::k)) cs w1) b k cs ex a' w':=by
       intro n
       induction n using Nat.strongRecOn with
       | _ n OE =>
         intro g1 w1 σ1 e1 a1 hJ1 L5 uL w7 Wp;obtain⟨ex,a',w',hq,lK⟩:=hs X ro wn B ar _ g1 w1 σ1 e1 a1 R9 (air n e1 σ1 hJ1) L5 uL w7 (Wp.sub (Wm ax l ar h2)) b (.inScope x::k) cs hro trivial (Ke _ _);obtain⟨g',e',σ',r1,r2,r3,r4,r5⟩:=hq;cases ex with
         | normal=>exact⟨.normal,a',w',⟨g',e',σ',r1,r2,r3,r4,r5⟩,StepsIn.trans lK (.one (hfe _) CD)⟩
         | exit id=>exact⟨.exit id,a',w',⟨g',e',σ',r1,r2,r3,r4,r5⟩,fun k' hk=>lK.1 k' (by simp[exitTo,hk]),fun Wr hk=>lK.2 Wr (by simp[exitTo,hk])⟩
         | goto l' =>
           obtain⟨rfl,m,hlt,hJ2⟩:=r5;obtain⟨Wq,a2,w2,L6,IV⟩:=OE m hlt g' w' σ' e' a' hJ2 r2 r3 r1 (Wp.size r4.size);exact⟨Wq,a2,w2,L6.step r4,.of_steps (lK.1 _ hg) IV⟩
         | ret=>exact⟨.ret,a',w',⟨g',e',σ',r1,r2,r3,r4,r5⟩,lK⟩
         | panic ch=>exact⟨.panic ch,a',w',⟨g',e',σ',r1,r2,r3,r4,r5⟩,lK⟩
         | outgrown=>exact r5.elim
      obtain⟨ex,a',w',hq,lK⟩:=ih.1 X ro wn B ax _ g w σ e a h1 adG hR hE hd (hB.sub (by simp[cQ.mh])) b (.inScope x::k) cs hro trivial (Ke _ _);obtain⟨g',e',σ',r1,r2,r3,r4,r5⟩:=hq;cases ex with
      | normal=>exact⟨.normal,a',w',⟨g',e',σ',r1,r2,r3,r4,r5⟩,.head (hfe _) oR (StepsIn.trans lK (.one (hfe _) CD))⟩
      | exit id=>exact⟨.exit id,a',w',⟨g',e',σ',r1,r2,r3,r4,r5⟩,fun k' hk=> .head (hfe _) oR (lK.1 k' (by simp[exitTo,hk])),fun Wr hk=>let ⟨k1,p1,p2⟩:=lK.2 Wr (by simp[exitTo,hk]);⟨k1,p1,.head (hfe _) oR p2⟩⟩
      | goto l' =>
        obtain⟨rfl,n0,hJ2⟩:=r5;obtain⟨Wq,a2,w2,L6,IV⟩:=key _ g' w' σ' e' a' hJ2 r2 r3 r1 ((hB.sub (by simp[cQ.mh])).size r4.size);exact⟨Wq,a2,w2,L6.step r4,.of_steps (.head (hfe _) oR (lK.1 _ hg)) IV⟩
      | ret=>exact⟨.ret,a',w',⟨g',e',σ',r1,r2,r3,r4,r5⟩,.of_steps (.one (hfe _) oR) lK⟩
      | panic ch=>exact⟨.panic ch,a',w',⟨g',e',σ',r1,r2,r3,r4,r5⟩,.of_steps (.one (hfe _) oR) lK⟩
      | outgrown=>exact r5.elim
     ·cases hc
    ·cases hc
   ·cases hc
def wm{nt:Nat}{h:Hints}(c:Code): Sound P nt h c:=(QX c).1
inductive kp where
 | tmp (t:Nat)
 | cell (t:Nat) (ag:Bool) (n:Nat)
structure FG where
 nt:Nat
 results:List kp
 body:cQ
def kW(P:Program)(nt:Nat): List ResultVar->Option (List kp)
 | []=>some []
 | .tmp t::r=>if t<nt then(kW P nt r).map (.tmp t:: ·)else none
 | .cell a t :: r => match lI P t, P.info? t with
   | some ag,some i=>if a<nt && (ag || i.size==1)then (kW P nt r).map (.cell a ag i.size:: ·)else none
   | _,_=>none
def tu(P:Program)(h:Hints)(fn:Func): Option FG :=
 match fn.body with
 | some c => match cj P fn.ntmps h false c, kW P fn.ntmps fn.results.toList with
   | some b,some rs=>some ⟨fn.ntmps,rs,b⟩
   | _,_=>none
 | none=>none
def mj(e:Env)(σ : ai): List kp->(List AV->Prop)->Prop
 | [],K=>K []
 | .tmp t::r,K=>mj e σ r fun vs=>K (e t::vs)
 | .cell t ag n::r,K=>gE σ ag n (e t) fun v=>mj e σ r fun vs=>K (v::vs)
def oneOf: List AV->AV
 | [v]=>v
 | vs=> .bg vs
def xg(rs:List kp)(R:Out->ai->Prop): AQ
 | .normal,e,σ=>mj e σ rs fun vs=>R (.ret (oneOf vs)) σ
 | .ret,e,σ=>mj e σ rs fun vs=>R (.ret (oneOf vs)) σ
 | .panic v,_,σ=>R (.panic v) σ
 | _,_,_=>False
def fC(args:List AV): Env:=fun n=>args.getD n .undef
def L7 {nt : Nat} {g : aC} {w : World} {σ : ai} {e : Env} {tmps : Array Value} (hR : Rel g w σ) (hE : fm nt g w e tmps) : ∀ (rv : List ResultVar) (rs : List kp) (K : List AV -> Prop), kW P nt rv = some rs -> mj e σ rs K ->
    ∃ (sW : List AV) (us : List Value), (rv.mapM fun (r : ResultVar) => (match r with
      | ResultVar.tmp t=>pure (tmps.getD t Go.undef)
      | ResultVar.cell a t=>do loadVar t (← asAddr (tmps.getD a Go.undef)):Sem Value)).run P w=Result.ok us w/\sW.length=us.length/\(∀ i,i<sW.length->VR g w (sW.getD i .undef) (us.getD i Go.undef))/\K sW:=by
 intro rv
 induction rv with
 | nil=>intro rs K h hK;cases h;exact⟨[],[],rfl,rfl,fun i hi=>absurd hi (Nat.not_lt_zero _),hK⟩
 | cons r rv ih =>
   intro rs K h hK;cases r with
   | tmp t =>
     simp only[kW]at h;split at h
     ·rename_i ht;simp only[aW]at h;obtain⟨rs',h1,rfl⟩:=h;obtain⟨sW,us,r1,r2,r3,r4⟩:=ih rs' _ h1 hK;refine⟨e t::sW,tmps.getD t Go.undef::us,?_,by simp[r2],fun i hi=>?_,r4⟩
      ·rw[List.mapM_cons,Sem.run_bind];simp only[Sem.run_pure,Result.andThen_ok,Sem.run_bind,r1]
      ·cases i with
       | zero=>simpa using hE.rel t ht
       | succ i=>simpa using r3 i (by simpa using hi)
     ·cases h
   | cell a t =>
     simp only[kW]at h;split at h
     ·rename_i ag ti hA hi;split at h
      ·rename_i hh;simp only[aD,au,dD,beq_iff_eq]at hh;simp only[aW]at h;obtain⟨rs',h1,rfl⟩:=h
       have hone:ag=false->ti.size=1:=fun e1=>by
        rcases hh.2 with h|h
        ·rw[e1]at h;cases h
        exact h
       have hv:=hE.rel a hh.1;obtain⟨u,av,l1,l2,l3⟩:=Dw (P:=P) hR hA hi hone hv hK
       obtain⟨A,vE⟩:∃ A,tmps.getD a Go.undef = .pointer (some A):=by
        simp only[mj]at hK;generalize e a=p at hv hK;generalize tmps.getD a Go.undef=pv at hv;cases hv<;>simp only[gE]at hK
        ·rename_i h;obtain⟨_,A,h,_⟩:=h;exact⟨A,h⟩
        ·exact⟨_,rfl⟩
        rename_i h;obtain⟨_,_,A,h,_⟩:=h;exact⟨A,h⟩
       obtain⟨sW,us,r1,r2,r3,r4⟩:=ih rs' _ h1 l3;refine⟨av::sW,u::us,?_,by simp[r2],fun i hi=>?_,r4⟩
       ·rw[vE]at l1;simp only[Instr.loadAt,Instr.sureAddr,Sem.run_bind,Sem.run_pure,Result.andThen_ok]at l1;have ha:(asAddr (tmps.getD a Go.undef)).run P w = .ok A w:=by rw[vE];rfl
        rw[List.mapM_cons,Sem.run_bind];simp only[Sem.run_bind,ha,Result.andThen_ok,l1,r1,Sem.run_pure]
       ·cases i with
        | zero=>simpa using l2
        | succ i=>simpa using r3 i (by simpa using hi)
      ·cases h
     ·cases h
def uj{fn:Func}{tmps:Array Value}{us:List Value}{w:World} (h:(fn.results.toList.mapM fun(r:ResultVar)=>(match r with
 | ResultVar.tmp t=>pure (tmps.getD t Go.undef)
 | ResultVar.cell a t => do loadVar t (← asAddr (tmps.getD a Go.undef)) : Sem Value)).run P w = Result.ok us w) :
    (results fn tmps).run P w = .ok (if h:us.toArray.size=1 then us.toArray[0]else .tuple us.toArray) w:=by
 unfold results;rw[Array.mapM_eq_mapM_toList];simp only[Sem.run_bind,Sem.run_map];exact(bC (fun r:Result (List Value)=>(r.andThen fun a w'=>Result.ok a.toArray w').andThen fun a w'=>Sem.run P (pure (if h:a.size=1 then a[0]else Value.tuple a):Sem Value) w') h).trans rfl
def pO {nt : Nat} {fn : Func} {tmps : Array Value} {R : Ending -> World -> Prop} {g0 : aC} {w0 : World} {lY : ai} {g : aC} {σ : ai} {e : Env} {u : FrameMode} {X : List Deferred} (hu : u ≠ .run) : ∀ (ds : List Deferred) (w : World),
    w8 (fun D=>w0.heap.size<=D) σ g w ds->Rel g w σ->fm nt g w e tmps->ep lY g0 w0 σ g w->(∀ w2,Rel g w2 σ->fm nt g w2 e tmps->ep lY g0 w0 σ g w2->jQ g w g w2->LeavesInM (WF none) 0 P fn tmps R X u w2)->LeavesInM (WF none) 0 P fn tmps R (ds++X) u w
 | [],w,_,hR,hE,hv,Hy=>Hy w hR hE hv (.refl _ _)
 | d :: ds, w, hd, hR, hE, hv, Hy => by
   obtain⟨D,h1,h2,h3,h4,h5⟩:=hd.mark d aT;obtain⟨r1,r2,r3⟩:=hR.adb (w':=w.putObj D (.deferred none)) hv h2 h4 h5 aT rfl rfl rfl (fun c hc=>World.putObj_heap_other hc);refine⟨hu,.inl ⟨D,_,by rw[h1],run_takeDeferred h3,pO hu ds _ ⟨(List.nodup_cons.1 hd.nodup).2,fun d' hd'=>?_⟩ r1 (hE.mono r3) r2 (fun w2 a1 a2 a3 a4=>Hy w2 a1 a2 a3 (r3.trans a4))⟩⟩;obtain⟨D',k1,k2,k3,k4,k5⟩:=hd.mark d' (by simp[hd']);refine⟨D',k1,k2,(World.putObj_heap_other (fun e=>?_)).trans k3,k4,k5⟩;subst e;exact(List.nodup_cons.1 hd.nodup).1 (by rw[h1,<-k1];exact hd')
def R_{g:aC}{w:World}{sW:List AV}{us:List Value}(r2:sW.length=us.length)(r3:∀ i,i<sW.length->VR g w (sW.getD i .undef) (us.getD i Go.undef)): VR g w (oneOf sW) (if h:us.toArray.size=1 then us.toArray[0]else .tuple us.toArray):=by
 match sW,us,r2,r3 with
 | [av],[u],_,r3=>simpa[oneOf]using r3 0 aT
 | [],[],_,r3=>exact .bg [] #[] rfl (fun i hi=>absurd hi (cJ _))
 | a1 :: a2 :: az, u1 :: u2 :: us, r2, r3 =>
   have:¬ (u1::u2::us).toArray.size=1:=aT;rw[dif_neg this];exact .bg _ _ (by simpa using r2) (fun i hi=>by simpa using r3 i hi)
def GG {nt : Nat} {fn : Func} {rs : List kp} {g : aC} {w : World} {σ : ai} {R : Out -> ai -> Prop} {ex : Exit} {a : Act} {w' : World} (L8 : kW P nt fn.results.toList = some rs)
    (h:QR [] nt (fun D=>w.heap.size<=D) g w σ (xg rs R) ex a w'):bodyPostM (WF none) 0 P fn (fun e w'=> ∃ out g' σ',Rel g' w' σ'/\ep σ g w σ' g' w'/\vf g' w' out e/\R out σ') ex a w':=by
 obtain⟨g',e',σ',⟨ms,GF,h1⟩,h2,h3,h4,h5⟩:=h
 have done:mj e' σ' rs (fun vs=>R (.ret (oneOf vs)) σ')->LeavesInM (WF none) 0 P fn a.tmps (fun e w'=> ∃ out g' σ',Rel g' w' σ'/\ep σ g w σ' g' w'/\vf g' w' out e/\R out σ') a.defers .returning w':=fun hres=>by
  rw[GF];refine pO aT ms w' h1 h2 h3 h4 (fun w2 h2 h3 h4 _=>?_);obtain⟨sW,us,r1,r2,r3,r4⟩:=L7 (P:=P) h2 h3 fn.results.toList rs _ L8 hres;exact⟨_,uj r1,.ret (oneOf sW),g',σ',h2,h4,R_ r2 r3,r4⟩
 cases ex with
 | normal=>exact done h5
 | ret=>exact done h5
 | panic chain =>
   obtain⟨v,av,rfl,hv,hq⟩:=h5;show LeavesInM (WF none) 0 P fn a.tmps _ a.defers _ w';rw[GF];exact pO aT ms w' h1 h2 h3 h4 (fun w2 h2 h3 h4 hm=>⟨.panic av,g',σ',h2,h4,⟨v,rfl,hv.mono hm⟩,hq⟩)
 | exit id=>exact h5.elim
 | goto l=>exact h5.elim
 | outgrown=>exact h5.elim
def cV.of_wp {f : FuncId} {fn : Func} {h : Hints} {af : FG} {args : List AV} {σ : ai} {R : Out → ai → Prop} (hf : P.funcs[f]? = some fn) (hn : (fn.name == "runtime.NumGoroutine") = false) (hc : tu P h fn = some af)
    (hl:args.length<=af.nt) (hw:fg P af.body (xg af.results R) (fC args) σ):cV P f args σ R:=by
 unfold tu at hc;split at hc
 ·rename_i c hb;split at hc
  ·rename_i b rs h1 h2;cases hc;refine⟨⟨fn,hf,by simp[hb],hn⟩,fun g w vs hR hlen hv=>?_⟩;refine FC.1 (callsIn_of_wp_marks (F:=WF none) (n:=0) hf hb trivial (wpIn_mono (wm c [] none 0 (fun D=>w.heap.size<=D) b _ g w σ (fC args) _ h1 hw hR ⟨?_,fun t ht=>?_⟩ (ja.nil _ _ _ _ _) (Ab.at _ _)) fun ex a w' hq=>GG h2 hq))
   ·simp only at hl;simp;omega
   by_cases h:t<args.length
   ·have h3:t<vs.size:=ae;have:=hv t h;simp only[fC];rw[bQ,bT h3];simpa using this
   have:fC args t = .undef:=by simp[fC,eo (iw h)]
   rw[this];exact .undef _
  ·cases hc
 ·cases hc
end
variable {P:Program}
universe u
inductive Tg {α : Sort u} (K : α):Type where
 | mk
def lQ(v:AV){K:AV->Prop}(_:Tg K): Prop:=K v
def Bw(σ : ai){K:ai->Prop}(_:Tg K): Prop:=K σ
@[go_sem] def akt (v:AV) (K:AV->Prop):lQ v (.mk:Tg K)=K v:=_root_.id rfl
@[go_sem] def aku (v:ai) (K:ai->Prop):Bw v (.mk:Tg K)=K v:=_root_.id rfl
def req(p:Prop){K:Prop}(_:Tg K): Prop:=p/\(p->K)
@[go_sem] def akv (K:Prop):req True (.mk:Tg K)=K:=by simp[req]
def eD(p K:Prop): (p/\K)=req p (.mk:Tg K):=by simp only[req];exact propext ⟨fun h=>⟨h.1,fun _=>h.2⟩,fun h=>⟨h.1,h.2 h.1⟩⟩
@[go_sem ↓] def aob (e:Env) (n:Nat):AX.ev e (.t n)=e n:=_root_.id rfl
@[go_sem ↓] def aoc (e:Env) (a:AV):AX.ev e (.c a)=a:=_root_.id rfl
def IW(c:Bool){a b:AV}(_:Tg (a,b)): AV:=if c then a else b
@[go_sem] def am6 (a b:AV):IW true (.mk:Tg (a,b))=a:=_root_.id rfl
@[go_sem] def am7 (a b:AV):IW false (.mk:Tg (a,b))=b:=_root_.id rfl
@[go_sem ↓] def am8 (e : Env) (d : Nat) (v : AV) (n : Nat) : cZ e (some d) v n = IW (n == d) (.mk : Tg (v, e n)) := by
  simp only[cZ,IW,beq_iff_eq]
@[go_sem ↓] def akw (e:Env) (v:AV):cZ e none v=e:=_root_.id rfl
@[go_sem] def ais (a:AV) (az:List AV):fC (a::az) 0=a:=_root_.id rfl
@[go_sem] def ait (a:AV) (az:List AV) (n:Nat):fC (a::az) (n+1)=fC az n:=_root_.id rfl
def Bx(v:AV){T E:Prop}(_:Tg (T,E)): Prop :=
 match v with
 | .bool t=>(t=true->T)/\(t=false->E)
 | _=>False
@[go_sem] def aiu (T E:Prop):Bx (.bool true) (.mk:Tg (T,E))=T:=by simp[Bx]
@[go_sem] def ahY (T E:Prop):Bx (.bool false) (.mk:Tg (T,E))=E:=by simp[Bx]
def abI{t:Bool}{T E:Prop}(h:t=true->T)(h':t=false->E): Bx (.bool t) (.mk:Tg (T,E)):=⟨h,h'⟩
@[go_sem ↓] def akx (Q:AQ) (e:Env) (σ : ai):fg P .skip Q e σ = Q .normal e σ:=_root_.id rfl
@[go_sem ↓] def aiv (ops:List bV) (Q:AQ) (e:Env) (σ : ai):fg P (.region ops) Q e σ = dL P Q ops e σ:=_root_.id rfl
@[go_sem ↓] def aky (ops:List bV) (fO:List (AX × AX)) (Q:AQ) (e:Env) (σ : ai):fg P (.draw ops fO) Q e σ = dL P (i_ fO Q) ops e σ:=_root_.id rfl
@[go_sem ↓] def am9 (a b:cQ) (Q:AQ) (e:Env) (σ : ai):fg P (.seq a b) Q e σ = fg P a (ny (fg P b Q) Q) e σ:=_root_.id rfl
@[go_sem ↓] def akz (c:AX) (a b:cQ) (Q:AQ) (e:Env) (σ : ai):fg P (.cond c a b) Q e σ = Bx (c.ev e) (.mk:Tg (fg P a Q e σ,fg P b Q e σ)):=_root_.id rfl
@[go_sem ↓] def ajC (id:Nat) (c:cQ) (Q:AQ) (e:Env) (σ : ai):fg P (.block id c) Q e σ = fg P c (oI id Q) e σ:=_root_.id rfl
@[go_sem ↓] def akA (id:Nat) (Q:AQ) (e:Env) (σ : ai):fg P (.exit id) Q e σ = Q (.exit id) e σ:=_root_.id rfl
@[go_sem ↓] def am_ (Q:AQ) (e:Env) (σ : ai):fg P .ret Q e σ = Q .ret e σ:=_root_.id rfl
@[go_sem ↓] def ajD (l:Nat) (Q:AQ) (e:Env) (σ : ai):fg P (.label l) Q e σ = Q .normal e σ:=_root_.id rfl
@[go_sem ↓] def akB (l:Nat) (Q:AQ) (e:Env) (σ : ai):fg P (.goto l) Q e σ = Q (.goto l) e σ:=_root_.id rfl
def TR{c:cQ}{Q:AQ}{e:Env}{σ : ai}(P:Program)(_:Tg (c,Q,e,σ)): Prop:=FE (fg P c) Q e σ
@[go_sem ↓] def akC (c:cQ) (Q:AQ) (e:Env) (σ : ai):fg P (.loop c) Q e σ = TR P (.mk:Tg (c,Q,e,σ)):=_root_.id rfl
def OF{l:Nat}{c r:cQ}{Q:AQ}{e:Env}{σ : ai}(P:Program)(_:Tg (l,c,r,Q,e,σ)): Prop:=V7 l (fg P c) (fg P r) Q e σ
@[go_sem ↓] def ajE (l:Nat) (c r:cQ) (Q:AQ) (e:Env) (σ : ai):fg P (.scope l c r) Q e σ = OF P (.mk:Tg (l,c,r,Q,e,σ)):=_root_.id rfl
@[go_sem ↓] def adH (K:Env->ai->Prop) (Q:AQ) (e:Env) (σ : ai):ny K Q .normal e σ = K e σ:=_root_.id rfl
@[go_sem ↓] def aiw (K:Env->ai->Prop) (Q:AQ) (i:Nat) (e:Env) (σ : ai):ny K Q (.exit i) e σ = Q (.exit i) e σ:=_root_.id rfl
@[go_sem ↓] def ajF (K:Env->ai->Prop) (Q:AQ) (e:Env) (σ : ai):ny K Q .ret e σ = Q .ret e σ:=_root_.id rfl
@[go_sem ↓] def aix (K:Env->ai->Prop) (Q:AQ) (l:Nat) (e:Env) (σ : ai):ny K Q (.goto l) e σ = Q (.goto l) e σ:=_root_.id rfl
@[go_sem ↓] def ahZ (K:Env->ai->Prop) (Q:AQ) (v:AV) (e:Env) (σ : ai):ny K Q (.panic v) e σ = Q (.panic v) e σ:=_root_.id rfl
@[go_sem ↓] def ac7 (id:Nat) (Q:AQ) (e:Env) (σ : ai):oI id Q .normal e σ = Q .normal e σ:=_root_.id rfl
@[go_sem ↓] def aiy (id:Nat) (Q:AQ) (e:Env) (σ : ai):oI id Q .ret e σ = Q .ret e σ:=_root_.id rfl
@[go_sem ↓] def adI (id:Nat) (Q:AQ) (v:AV) (e:Env) (σ : ai):oI id Q (.panic v) e σ = Q (.panic v) e σ:=_root_.id rfl
def FH(c:Bool){T E:Prop}(_:Tg (T,E)): Prop:=if c then T else E
@[go_sem] def ana (T E:Prop):FH true (.mk:Tg (T,E))=T:=by simp[FH]
@[go_sem] def anb (T E:Prop):FH false (.mk:Tg (T,E))=E:=by simp[FH]
@[go_sem ↓] def ah0 (id i : Nat) (Q : AQ) (e : Env) (σ : ai) : oI id Q (.exit i) e σ = FH (i == id) (.mk : Tg (Q .normal e σ, Q (.exit i) e σ)) := by
  simp only[oI,FH,beq_iff_eq]
@[go_sem ↓] def adJ (fO:List (AX × AX)) (Q:AQ) (e:Env) (σ : ai):i_ fO Q .normal e σ = req (oh fO e) (.mk:Tg (Q .normal e σ)):=eD _ _
@[go_sem ↓] def ah1 (Q:AQ) (v:AV) (e:Env) (σ : ai):i_ [] Q (.panic v) e σ = Q (.panic v) e σ:=_root_.id rfl
@[go_sem ↓] def aiz (Q:AQ) (e:Env) (σ : ai):dL P Q [] e σ = Q .normal e σ:=_root_.id rfl
@[go_sem ↓] def ah2 (Q:AQ) (o:bf) (d:Option Nat) (r:List bV) (e:Env) (σ : ai) :
 dL P Q (⟨o,d,none⟩::r) e σ = o.run P e σ (fun v σ'=>lQ v (.mk:Tg fun v=>Bw σ' (.mk:Tg fun σ'=>dL P Q r (cZ e d v) σ'))) (fun v σ'=>Q (.panic v) e σ'):=rfl
def mL(v:AV)(b:Bool){T E U:Prop}(_:Tg (T,E,U)): Prop :=
 match v with
 | .bool t=>(t=b->T)/\(t = !b->E)
 | .bg []=>U
 | _=>False
@[go_sem] def ajG (T E U:Prop):mL (.bool true) true (.mk:Tg (T,E,U))=T:=by simp[mL]
@[go_sem] def ajH (T E U:Prop):mL (.bool false) false (.mk:Tg (T,E,U))=T:=by simp[mL]
@[go_sem] def ajI (T E U:Prop):mL (.bool true) false (.mk:Tg (T,E,U))=E:=by simp[mL]
@[go_sem] def ajJ (T E U:Prop):mL (.bool false) true (.mk:Tg (T,E,U))=E:=by simp[mL]
@[go_sem] def akD (b:Bool) (T E U:Prop):mL (.bg []) b (.mk:Tg (T,E,U))=U:=by simp[mL]
def YW{t b:Bool}{T E U:Prop}(h:t=b->T)(h':t = !b->E): mL (.bool t) b (.mk:Tg (T,E,U)):=⟨h,h'⟩
@[go_sem ↓] def adK (Q:AQ) (o:bf) (d:Option Nat) (k:Nat) (b:Bool) (r:List bV) (e:Env) (σ : ai) :
 dL P Q (⟨o,d,some (k,b)⟩::r) e σ = mL (e k) b (.mk:Tg (o.run P (cZ e (some k) (.bool b)) σ (fun v σ'=>lQ v (.mk:Tg fun v=>Bw σ' (.mk:Tg fun σ'=>dL P Q r (cZ (cZ e (some k) (.bool b)) d v) σ'))) (fun v σ'=>Q (.panic v) (cZ e (some k) (.bool b)) σ'),
  dL P Q r (cZ (cZ e (some k) (.bool (!b))) d (.bg [])) σ,dL P Q r (cZ e d (.bg [])) σ)):=by
  simp only[dL,mL,lQ,Bw];cases e k<;>rfl
section
variable (e:Env) (σ : ai) (K Kp:AV->ai->Prop)
@[go_sem ↓] def anO (x:AX):bf.run P (.mv x) e σ K Kp=K (x.ev e) σ:=_root_.id rfl
@[go_sem ↓] def ajK (cs:List AV):bf.run P (.alloc none cs) e σ K Kp=K (.ref σ.length 0) (σ++[.cells cs]):=_root_.id rfl
@[go_sem ↓] def aiA (T:TypeId) (cs:List AV):bf.run P (.alloc (some T) cs) e σ K Kp=K (.ref σ.length 0) (σ++[.bH (some T) cs]):=_root_.id rfl
@[go_sem ↓] def ajL (el:El):bf.run P (.nw el) e σ K Kp=K (.own el σ.length 0 0 0) (σ++[.vec el []]):=_root_.id rfl
def aaW(T:TypeId)(v:AV)(σ : ai){K:AV->ai->Prop}(_:Tg K): Prop:=v.cells.all AV.scalar=true/\K (.ref σ.length 0) (σ++[.bH (some T) v.cells])
@[go_sem ↓] def akE (T:TypeId) (x:AX):bf.run P (.vo T x) e σ K Kp=aaW T (x.ev e) σ (.mk:Tg K):=_root_.id rfl
@[go_sem] def akF (T:TypeId) (v:AV) (K:AV->ai->Prop):aaW T v σ (.mk:Tg K)=req (v.cells.all AV.scalar=true) (.mk:Tg (K (.ref σ.length 0) (σ++[.bH (some T) v.cells]))):=eD _ _
@[go_sem ↓] def akG (f:Fn) (a b:List AX):bf.run P (.vg f a b) e σ K Kp=K (.fn f (a.map (AX.ev e)) (b.map (AX.ev e))) σ:=_root_.id rfl
def vo(v:AV)(σ : ai){K:AV->ai->Prop}(_:Tg K): Prop:=v.cells.all AV.scalar=true/\K (.ref σ.length 0) (σ++[.cells v.cells])
@[go_sem ↓] def anc (x:AX):bf.run P (.box x) e σ K Kp=vo (x.ev e) σ (.mk:Tg K):=_root_.id rfl
def TT(c a b:AV){K:AV->Prop}(_:Tg K): Prop:=match c with | .bool t=>K (if t then a else b)|_=>False
@[go_sem ↓] def akH (c a b : AX) : bf.run P (.pick c a b) e σ K Kp = TT (c.ev e) (a.ev e) (b.ev e) (.mk : Tg fun v => K v σ) := by
  simp only[bf.run,TT];rfl
def loadT(σ : ai)(ag:Bool)(n:Nat)(p:AV){K:AV->Prop}(_:Tg K): Prop:=gE σ ag n p K
def storeT(σ : ai)(n:Nat)(p v:AV){K:ai->Prop}(_:Tg K): Prop:=mE σ n p v K
def iP(op:BinOp)(x y:AV){K:AV->Prop}(_:Tg K): Prop:=jR op x y K
def unT(op:UnOp)(x:AV){K:AV->Prop}(_:Tg K): Prop:=Cu op x K
@[go_sem ↓] def run_load (ag:Bool) (n:Nat) (x:AX):bf.run P (.load ag n x) e σ K Kp=loadT σ ag n (x.ev e) (.mk:Tg fun v=>K v σ):=_root_.id rfl
@[go_sem ↓] def run_store (n:Nat) (x v:AX):bf.run P (.store n x v) e σ K Kp=storeT σ n (x.ev e) (v.ev e) (.mk:Tg fun σ'=>K (.bg []) σ'):=_root_.id rfl
@[go_sem ↓] def ane (op:BinOp) (x y:AX):bf.run P (.bin op x y) e σ K Kp=iP op (x.ev e) (y.ev e) (.mk:Tg fun v=>K v σ):=_root_.id rfl
@[go_sem ↓] def anP (op:UnOp) (x:AX):bf.run P (.un op x) e σ K Kp=unT op (x.ev e) (.mk:Tg fun v=>K v σ):=_root_.id rfl
def Kj (s : Bool) (x : AV) {K : AV -> Prop} (_ : Tg K) : Prop := match s, x with
    | true,.str s=>K (.int .i64 s.length)
    | false,.aP=>K (.int .i64 0)
    | false,.aH _ _ xs=>K (.int .i64 xs.length)
    | false,.own _ _ _ _ n=>K (.int .i64 n)
    | _,_=>False
@[go_sem ↓] def anf (s : Bool) (x : AX) : bf.run P (.len s x) e σ K Kp = Kj s (x.ev e) (.mk : Tg fun v => K v σ) := by
  simp only[bf.run,Kj];rfl
def YX(x:AV)(i:Nat){K:AV->Prop}(_:Tg K): Prop:=match x with | .bg vs=>i<vs.length/\K (vs.getD i .undef)|_=>False
@[go_sem ↓] def ang (x : AX) (i : Nat) : bf.run P (.ext x i) e σ K Kp = YX (x.ev e) i (.mk : Tg fun v => K v σ) := by
  simp only[bf.run,YX];rfl
def By(op:Bool)(x:AV)(xs:List AV){K:AV->Prop}(_:Tg K): Prop:=po op x xs K
@[go_sem ↓] def anh (x:AX) (xs:List AX):bf.run P (.min x xs) e σ K Kp=By true (x.ev e) (xs.map (AX.ev e)) (.mk:Tg fun v=>K v σ):=_root_.id rfl
@[go_sem ↓] def ani (x:AX) (xs:List AX):bf.run P (.max x xs) e σ K Kp=By false (x.ev e) (xs.map (AX.ev e)) (.mk:Tg fun v=>K v σ):=_root_.id rfl
def oZ(K Kp:AV->ai->Prop): Out->ai->Prop
 | .ret r,σ=>K r σ
 | .panic r,σ=>Kp r σ
def FI (P : Program) (q : Bool) (f : AV) (args : List AV) (σ : ai) {K Kp : AV -> ai -> Prop} (_ : Tg (K, Kp)) : Prop := match f with
    | .fn (.func n) first cap =>
      if q then ∃ r,(∀ H,mD P n (first++args++cap) (σ++H) r)/\K r σ
      else cV P n (first++args++cap) σ (oZ K Kp)
    | .lW l=>if q then False else oF P l args σ (oZ K Kp)
    | _=>False
@[go_sem ↓] def BA (q : Bool) (f : AX) (args : List AX) : bf.run P (.call q f args) e σ K Kp = FI P q (f.ev e) (args.map (AX.ev e)) σ (.mk : Tg (K, Kp)) := by
  simp only[bf.run,FI];rfl
def L9{n:Int}(h : -9223372036854775808<=n)(h':n<=9223372036854775807): dQ .i64 n=n:=IntWalk.i64_in n ⟨h,h'⟩
@[go_sem] def anQ (a b:AV) (K:AV->Prop):TT (.bool true) a b (.mk:Tg K)=lQ a (.mk:Tg K):=_root_.id rfl
@[go_sem] def anR (a b:AV) (K:AV->Prop):TT (.bool false) a b (.mk:Tg K)=lQ b (.mk:Tg K):=_root_.id rfl
@[go_sem] def anj (v:AV) (K:AV->ai->Prop):vo v σ (.mk:Tg K)=req (v.cells.all AV.scalar=true) (.mk:Tg (K (.ref σ.length 0) (σ++[.cells v.cells]))):=eD _ _
variable (k:IntKind) (a b:Int) (s t:List UInt8) (p q:Bool) (K:AV->Prop)
@[go_sem] def akI:iP .add (.int k a) (.int k b) (.mk:Tg K)=K (.int k (dQ k (a+b))):=by simp[iP,jR]
@[go_sem] def akJ:iP .sub (.int k a) (.int k b) (.mk:Tg K)=K (.int k (dQ k (a-b))):=by simp[iP,jR]
@[go_sem] def akK:iP .mul (.int k a) (.int k b) (.mk:Tg K)=K (.int k (dQ k (a*b))):=by simp[iP,jR]
@[go_sem] def akL:iP .quo (.int k a) (.int k b) (.mk:Tg K)=req (b≠0) (.mk:Tg (K (.int k (dQ k (a.tdiv b))))):=by rw[<-eD];simp[iP,jR]
@[go_sem] def akM:iP .eql (.int k a) (.int k b) (.mk:Tg K)=K (.bool (a==b)):=by simp[iP,jR]
@[go_sem] def akN:iP .neq (.int k a) (.int k b) (.mk:Tg K)=K (.bool (!(a==b))):=by simp[iP,jR]
@[go_sem] def akO:iP .lss (.int k a) (.int k b) (.mk:Tg K)=K (.bool (decide (a<b))):=by simp[iP,jR]
@[go_sem] def akP:iP .leq (.int k a) (.int k b) (.mk:Tg K)=K (.bool (decide (a<=b))):=by simp[iP,jR]
@[go_sem] def akQ:iP .gtr (.int k a) (.int k b) (.mk:Tg K)=K (.bool (decide (b<a))):=by simp[iP,jR]
@[go_sem] def akR:iP .geq (.int k a) (.int k b) (.mk:Tg K)=K (.bool (decide (b<=a))):=by simp[iP,jR]
@[go_sem] def ajM:iP .add (.str s) (.str t) (.mk:Tg K)=req (((s.length+t.length:Nat):Int)<=IntKind.i64.max) (.mk:Tg (K (.str (s++t)))):=by rw[<-eD];simp[iP,jR]
@[go_sem] def ajN:iP .eql (.str s) (.str t) (.mk:Tg K)=K (.bool (s==t)):=by simp[iP,jR]
@[go_sem] def ajO:iP .neq (.str s) (.str t) (.mk:Tg K)=K (.bool (!(s==t))):=by simp[iP,jR]
@[go_sem] def ank:unT .not (.bool p) (.mk:Tg K)=K (.bool (!p)):=_root_.id rfl
@[go_sem] def anS:Kj true (.str s) (.mk:Tg K)=K (.int .i64 s.length):=_root_.id rfl
@[go_sem] def ajP:Kj false .aP (.mk:Tg K)=K (.int .i64 0):=_root_.id rfl
@[go_sem] def akS (f:Bool) (el:El) (xs:List AV):Kj false (.aH f el xs) (.mk:Tg K)=K (.int .i64 xs.length):=_root_.id rfl
@[go_sem] def akT (el:El) (l m lo n:Nat):Kj false (.own el l m lo n) (.mk:Tg K)=K (.int .i64 n):=_root_.id rfl
@[go_sem] def akU (vs:List AV) (i:Nat):YX (.bg vs) i (.mk:Tg K)=req (i<vs.length) (.mk:Tg (K (vs.getD i .undef))):=eD _ _
@[go_sem] def ajQ (op:Bool) (x:AV):By op x [] (.mk:Tg K)=K x:=_root_.id rfl
@[go_sem] def anl (ys:List AV):By true (.int k a) (.int k b::ys) (.mk:Tg K)=By true (.int k (if b<a then b else a)) ys (.mk:Tg K):=_root_.id rfl
@[go_sem] def anm (ys:List AV):By false (.int k a) (.int k b::ys) (.mk:Tg K)=By false (.int k (if a<b then b else a)) ys (.mk:Tg K):=_root_.id rfl
@[go_sem ↓] def akV (K:List AV->Prop):mj e σ [] K=K []:=_root_.id rfl
@[go_sem ↓] def akW (t:Nat) (r:List kp) (K:List AV->Prop):mj e σ (.tmp t::r) K=mj e σ r fun vs=>K (e t::vs):=_root_.id rfl
end
end Go.AM
namespace Go.AM
variable {P:Program}
section
variable (e:Env) (σ : ai) (K Kp:AV->ai->Prop)
def BD(o:Option bG)(off:Nat)(ag:Bool)(n:Nat){K:AV->Prop}(_:Tg K): Prop:=match o with
 | some (.bH _ cs)=>off+n<=cs.length/\(ag=false->n=1)/\K (if ag then .agg ((cs.drop off).take n)else cs.getD off .undef)
 | _=>False
@[go_sem] def ajR (ag:Bool) (n l off:Nat) (K:AV->Prop):loadT σ ag n (.ref l off) (.mk:Tg K)=BD (σ[l]?) off ag n (.mk:Tg K):=_root_.id rfl
@[go_sem] def ano (cs : List AV) (off n : Nat) (K : AV -> Prop) : BD (some (.cells cs)) off false n (.mk : Tg K) = req (off + n <= cs.length /\ n = 1) (.mk : Tg (K (cs.getD off .undef))) := by
  rw[<-eD];simp[BD,and_assoc]
@[go_sem] def anp (cs : List AV) (off n : Nat) (K : AV -> Prop) : BD (some (.cells cs)) off true n (.mk : Tg K) = req (off + n <= cs.length) (.mk : Tg (K (.agg ((cs.drop off).take n)))) := by
  rw[<-eD];simp[BD]
@[go_sem] def akX (T : TypeId) (cs : List AV) (off n : Nat) (K : AV -> Prop) : BD (some (.bH (some T) cs)) off false n (.mk : Tg K) = req (off + n <= cs.length /\ n = 1) (.mk : Tg (K (cs.getD off .undef))) := by
  rw[<-eD];simp[BD,and_assoc]
def DS(σ : ai)(l:Nat)(o:Option bG)(off n:Nat)(v:AV){K:ai->Prop}(_:Tg K): Prop:=v.cells.length=n/\v.cells.all AV.scalar=true/\match o with
 | some (.bH T cs)=>off+n<=cs.length/\K (σ.set l (.bH T (dm cs off v.cells)))
 | _=>False
@[go_sem] def aiB (n l off:Nat) (v:AV) (K:ai->Prop):storeT σ n (.ref l off) v (.mk:Tg K)=DS σ l (σ[l]?) off n v (.mk:Tg K):=_root_.id rfl
@[go_sem] def akY (l : Nat) (cs : List AV) (off n : Nat) (v : AV) (K : ai -> Prop) : DS σ l (some (.cells cs)) off n v (.mk : Tg K) = req (v.cells.length = n /\ v.cells.all AV.scalar = true /\ off + n <= cs.length) (.mk : Tg (K (σ.set l (.cells (dm cs off v.cells))))) := by
  rw[<-eD];simp[DS,and_assoc]
@[go_sem] def ajS (l : Nat) (T : TypeId) (cs : List AV) (off n : Nat) (v : AV) (K : ai -> Prop) : DS σ l (some (.bH (some T) cs)) off n v (.mk : Tg K) = req (v.cells.length = n /\ v.cells.all AV.scalar = true /\ off + n <= cs.length) (.mk : Tg (K (σ.set l (.bH (some T) (dm cs off v.cells))))) := by
  rw[<-eD];simp[DS,and_assoc]
def eT(P:Program)(o:bf)(σ : ai){K Kp:AV->ai->Prop}(_:Tg (K,Kp)): Prop:=o.run P (fun _=> .undef) σ K Kp
@[go_sem ↓] def ajT (off:Nat) (x:AX):bf.run P (.pn off x) e σ K Kp=eT P (.pn off (.c (x.ev e))) σ (.mk:Tg (K,Kp)):=_root_.id rfl
@[go_sem ↓] def ajU (x:AX):bf.run P (.p8 x) e σ K Kp=eT P (.p8 (.c (x.ev e))) σ (.mk:Tg (K,Kp)):=_root_.id rfl
@[go_sem ↓] def ajV (ag:Bool) (off n:Nat) (x:AX):bf.run P (.field ag off n x) e σ K Kp=eT P (.field ag off n (.c (x.ev e))) σ (.mk:Tg (K,Kp)):=_root_.id rfl
@[go_sem ↓] def ajW (el:El) (arr:Option Nat) (x i:AX):bf.run P (.jh el arr x i) e σ K Kp=eT P (.jh el arr (.c (x.ev e)) (.c (i.ev e))) σ (.mk:Tg (K,Kp)):=_root_.id rfl
@[go_sem ↓] def akZ (x i:AX):bf.run P (.mb x i) e σ K Kp=eT P (.mb (.c (x.ev e)) (.c (i.ev e))) σ (.mk:Tg (K,Kp)):=_root_.id rfl
@[go_sem ↓] def ak0 (el:El) (n:Nat) (x i:AX):bf.run P (.wX el n x i) e σ K Kp=eT P (.wX el n (.c (x.ev e)) (.c (i.ev e))) σ (.mk:Tg (K,Kp)):=_root_.id rfl
@[go_sem ↓] def ak1 (k:IntKind) (x:AX):bf.run P (.n9 k x) e σ K Kp=eT P (.n9 k (.c (x.ev e))) σ (.mk:Tg (K,Kp)):=_root_.id rfl
@[go_sem ↓] def anq (x:AX):bf.run P (.yu x) e σ K Kp=eT P (.yu (.c (x.ev e))) σ (.mk:Tg (K,Kp)):=_root_.id rfl
@[go_sem ↓] def ah3 (el:El) (z:AV) (x i:AX):bf.run P (.l7 el z x i) e σ K Kp=eT P (.l7 el z (.c (x.ev e)) (.c (i.ev e))) σ (.mk:Tg (K,Kp)):=_root_.id rfl
@[go_sem ↓] def anr (T:Option TypeId) (el:El) (x i:AX):bf.run P (.app T el x i) e σ K Kp=eT P (.app T el (.c (x.ev e)) (.c (i.ev e))) σ (.mk:Tg (K,Kp)):=_root_.id rfl
@[go_sem ↓] def ans (ng ag:Bool) (ks:List Kd) (x i:AX):bf.run P (.rW ng ag ks x i) e σ K Kp=eT P (.rW ng ag ks (.c (x.ev e)) (.c (i.ev e))) σ (.mk:Tg (K,Kp)):=_root_.id rfl
@[go_sem ↓] def ajX (ng:Bool) (k:NK) (x i:AX):bf.run P (.p_ ng k x i) e σ K Kp=eT P (.p_ ng k (.c (x.ev e)) (.c (i.ev e))) σ (.mk:Tg (K,Kp)):=_root_.id rfl
@[go_sem ↓] def ant (el:El) (x:AX):bf.run P (.z6 el x) e σ K Kp=eT P (.z6 el (.c (x.ev e))) σ (.mk:Tg (K,Kp)):=_root_.id rfl
@[go_sem ↓] def ak2 (T:TypeId) (x i:AX):bf.run P (.vi T x i) e σ K Kp=eT P (.vi T (.c (x.ev e)) (.c (i.ev e))) σ (.mk:Tg (K,Kp)):=_root_.id rfl
@[go_sem ↓] def anu (x:AX):bf.run P (.Gp x) e σ K Kp=eT P (.Gp (.c (x.ev e))) σ (.mk:Tg (K,Kp)):=_root_.id rfl
@[go_sem ↓] def anv (u:TypeId) (x:AX):bf.run P (.Gq u x) e σ K Kp=eT P (.Gq u (.c (x.ev e))) σ (.mk:Tg (K,Kp)):=_root_.id rfl
@[go_sem ↓] def anw (ng:Bool) (x i:AX):bf.run P (.Dl ng x i) e σ K Kp=eT P (.Dl ng (.c (x.ev e)) (.c (i.ev e))) σ (.mk:Tg (K,Kp)):=_root_.id rfl
def cO(e:Env): Option AX->Option AX
 | none=>none
 | some x=>some (.c (x.ev e))
@[go_sem] def anx:cO e none=none:=_root_.id rfl
@[go_sem] def anz (x:AX):cO e (some x)=some (.c (x.ev e)):=_root_.id rfl
@[go_sem ↓] def anA (x : AX) (lo hi : Option AX) : bf.run P (.vD x lo hi) e σ K Kp = eT P (.vD (.c (x.ev e)) (cO e lo) (cO e hi)) σ (.mk : Tg (K, Kp)) := by
  cases lo<;>cases hi<;>rfl
variable (k k':IntKind) (a b:Int) (s t:List UInt8) (el:El) (xs cs:List AV) (l m lo n off i:Nat) (f:Bool)
@[go_sem] def adL:eT P (.pn off (.c (.ref l i))) σ (.mk:Tg (K,Kp))=K (.ref l (i+off)) σ:=_root_.id rfl
@[go_sem] def ac8 (x:AV):eT P (.pn off (.c (.cN el x i))) σ (.mk:Tg (K,Kp))=K (.cN el x (i+off)) σ:=_root_.id rfl
@[go_sem] def adM:eT P (.p8 (.c (.ref l i))) σ (.mk:Tg (K,Kp))=K (.ref l i) σ:=_root_.id rfl
@[go_sem] def aiC : eT P (.field false off n (.c (.agg cs))) σ (.mk : Tg (K, Kp)) = req (off + n <= cs.length /\ n = 1) (.mk : Tg (K (cs.getD off .undef) σ)) := by
  rw[<-eD];simp[eT,bf.run,AX.ev,and_assoc]
@[go_sem] def adN : eT P (.jh el none (.c (.aH f el xs)) (.c (.int k a))) σ (.mk : Tg (K, Kp)) = req (0 <= a /\ a < xs.length) (.mk : Tg (K (.cN el (xs.getD a.toNat .undef) 0) σ)) := by
  rw[<-eD];simp[eT,bf.run,AX.ev,and_assoc]
@[go_sem] def anB : eT P (.mb (.c (.str s)) (.c (.int k a))) σ (.mk : Tg (K, Kp)) = req (0 <= a /\ a < s.length) (.mk : Tg (K (.int .u8 (s.getD a.toNat 0).toNat) σ)) := by
  rw[<-eD];simp[eT,bf.run,AX.ev,and_assoc]
@[go_sem] def anC:eT P (.n9 k (.c (.int k' a))) σ (.mk:Tg (K,Kp))=K (.int k (dQ k a)) σ:=_root_.id rfl
def toNat_le{a:Int}{n:Nat}(h:0<=a): (a<=((n:Nat):Int))=(a.toNat<=n):=by simp only[eq_iff_iff];omega
@[go_sem] def ajY : eT P (.vD (.c (.str s)) none (some (.c (.int k' b)))) σ (.mk : Tg (K, Kp)) = req (0 <= b /\ b <= s.length) (.mk : Tg (K (.str (s.take b.toNat)) σ)) := by
  rw[<-eD];simp only[eT,bf.run,AX.ev,bound,Option.map,and_assoc,List.drop_zero,Nat.sub_zero]
@[go_sem] def ajZ : eT P (.vD (.c (.str s)) (some (.c (.int k a))) none) σ (.mk : Tg (K, Kp)) = req (0 <= a /\ a <= s.length) (.mk : Tg (K (.str (s.drop a.toNat)) σ)) := by
  rw[<-eD];simp only[eT,bf.run,AX.ev,bound,Option.map,and_assoc];have:(s.drop a.toNat).take (s.length-a.toNat)=s.drop a.toNat:=cM aT;rw[this]
def wo(P:Program)(n:FuncId)(args:List AV)(σ : ai){K Kp:AV->ai->Prop}(_:Tg (K,Kp)): Prop:=cV P n args σ (oZ K Kp)
def q9(P:Program)(n:FuncId)(args:List AV)(σ : ai){K Kp:AV->ai->Prop}(_:Tg (K,Kp)): Prop:= ∃ r,(∀ H,mD P n args (σ++H) r)/\K r σ
@[go_sem] def anD (n : FuncId) (first args cap : List AV) : FI P false (.fn (.func n) first cap) args σ (.mk : Tg (K, Kp)) = wo P n (first ++ args ++ cap) σ (.mk : Tg (K, Kp)) := by
  simp[FI,wo]
@[go_sem] def anE (n : FuncId) (first args cap : List AV) : FI P true (.fn (.func n) first cap) args σ (.mk : Tg (K, Kp)) = q9 P n (first ++ args ++ cap) σ (.mk : Tg (K, Kp)) := by
  simp[FI,q9]
def Sb{n:FuncId}{args:List AV}{σ : ai}{K Kp:AV->ai->Prop}{r:AV}(h:∀ σ,mD P n args σ r)(hk:lQ r (.mk:Tg fun r=>K r σ)): wo P n args σ (.mk:Tg (K,Kp)) :=
 (h σ).mono fun o s ⟨h1,h2⟩=>by subst h1;subst h2;exact hk
def Sc{n:FuncId}{args:List AV}{σ : ai}{K Kp:AV->ai->Prop}{r:AV}(h:∀ σ,mD P n args σ r)(hk:lQ r (.mk:Tg fun r=>K r σ)): q9 P n args σ (.mk:Tg (K,Kp)):=⟨r,fun H=>h _,hk⟩
def cW{n:FuncId}{args:List AV}{σ : ai}{K Kp:AV->ai->Prop}{R:Out->ai->Prop}(h:cV P n args σ R)(hk:∀ o s,R o s->oZ K Kp o s): wo P n args σ (.mk:Tg (K,Kp)):=h.mono hk
def DU: List AV->List (Nat × Nat × AV)->(List AV->Prop)->Prop
 | z,[],K=>K z
 | z,(off,n,v)::r,K=>v.cells.length=n/\v.cells.all AV.scalar=true/\off+n<=z.length/\DU (dm z off v.cells) r K
def DV(z:List AV)(ps:List (Nat × Nat × AV)){K:List AV->Prop}(_:Tg K): Prop:=DU z ps K
def L_(e:Env)(K:List AV->Prop): ∀(ps:List (Nat × Nat × AX)) (z:List AV),lP z e ps K=DU z (ps.map fun p=>(p.1,p.2.1,p.2.2.ev e)) K
 | [],z=>rfl
 |(off,n,x)::r,z=>by simp only[lP,DU,bN,L_ e K r]
@[go_sem ↓] def run_build (z:List AV) (ps:List (Nat × Nat × AX)):bf.run P (.build z ps) e σ K Kp=DV z (ps.map fun p=>(p.1,p.2.1,p.2.2.ev e)) (.mk:Tg fun cs=>K (.agg cs) σ):=L_ e _ ps z
@[go_sem] def aiD (z:List AV) (K:List AV->Prop):DV z [] (.mk:Tg K)=K z:=_root_.id rfl
@[go_sem] def ah4 (z : List AV) (off n : Nat) (v : AV) (r : List (Nat × Nat × AV)) (K : List AV -> Prop) : DV z ((off, n, v) :: r) (.mk : Tg K) = req (v.cells.length = n /\ v.cells.all AV.scalar = true /\ off + n <= z.length) (.mk : Tg (DV (dm z off v.cells) r (.mk : Tg K))) := by
  rw[<-eD];simp only[DV,DU,and_assoc]
def Ad(el:El): List AV->List (Nat × AV)->(List AV->Prop)->Prop
 | z,[],K=>K z
 | z,(i,v)::r,K=>v.fits el=true/\i<z.length/\Ad el (z.set i v) r K
def Ae(el:El)(z:List AV)(ps:List (Nat × AV)){K:List AV->Prop}(_:Tg K): Prop:=Ad el z ps K
def IX(el:El)(e:Env)(K:List AV->Prop): ∀(ps:List (Nat × AX)) (z:List AV),kM el z e ps K=Ad el z (ps.map fun p=>(p.1,p.2.ev e)) K
 | [],z=>rfl
 |(i,x)::r,z=>by simp only[kM,Ad,bN,IX el e K r]
@[go_sem ↓] def adO (el:El) (z:AV) (n:Nat) (ps:List (Nat × AX)):bf.run P (.kG false el z n ps) e σ K Kp=Ae el (List.replicate n z) (ps.map fun p=>(p.1,p.2.ev e)) (.mk:Tg fun xs=>K (.aH true el xs) σ):=IX el e _ ps _
@[go_sem] def ah5 (z:List AV) (K:List AV->Prop):Ae el z [] (.mk:Tg K)=K z:=_root_.id rfl
@[go_sem] def adP (z : List AV) (i : Nat) (v : AV) (r : List (Nat × AV)) (K : List AV -> Prop) : Ae el z ((i, v) :: r) (.mk : Tg K) = req (v.fits el = true /\ i < z.length) (.mk : Tg (Ae el (z.set i v) r (.mk : Tg K))) := by
  rw[<-eD];simp only[Ae,Ad,and_assoc]
def BE(c:Bool)(el:El)(x:AV)(off:Nat)(ag:Bool)(n:Nat){K:AV->Prop}(_:Tg K): Prop:=c=(off==0 && n==el.sz && ag==el.ag)/\partOf el x off ag n K
@[go_sem] def aiE (ag : Bool) (n : Nat) (el : El) (x : AV) (off : Nat) (K : AV -> Prop) : loadT σ ag n (.cN el x off) (.mk : Tg K) = BE (off == 0 && n == el.sz && ag == el.ag) el x off ag n (.mk : Tg K) := by
  simp only[BE,true_and];rfl
@[go_sem] def anF (ag : Bool) (n : Nat) (x : AV) (K : AV -> Prop) : BE true ⟨ag, n⟩ x 0 ag n (.mk : Tg K) = K x := by
  simp[BE,partOf]
@[go_sem] def abJ (el : El) (off n : Nat) (cs : List AV) (K : AV -> Prop) (h : (off == 0 && n == el.sz && false == el.ag) = false) : BE false el (.agg cs) off false n (.mk : Tg K) = req (off + n <= el.sz /\ n = 1) (.mk : Tg (K (cs.getD off .undef))) := by
  have hn:¬ (off=0/\n=el.sz/\false=el.ag):=by rintro⟨h1,h2,h3⟩;subst h1;subst h2;rw[<-h3]at h;simp at h
  rw[<-eD];simp only[BE,partOf,aq hn,h,true_and];simp only[aN,if_false,forall_const,eq_iff_iff];exact⟨fun⟨h1,h2,h3⟩=>⟨⟨h1,h3⟩,h2⟩,fun⟨⟨h1,h3⟩,h2⟩=>⟨h1,h2,h3⟩⟩
def DW(σ : ai)(T:Option TypeId)(el:El)(o:Option bG)(l m lo n:Nat)(ys:List AV){K:AV->ai->Prop}(_:Tg K): Prop:=match o with
 | some (.bW T' bq xs) => (T' = none \/ T' = T) /\ bq = el /\ m = xs.length /\ lo = 0 /\ n = xs.length /\ fE (xs.length + ys.length) el /\
    K (.own el l (xs.length+ys.length) 0 (xs.length+ys.length)) (σ.set l (.bW T' el (xs++ys)))
 | _=>False
@[go_sem] def aiF (T : Option TypeId) (ys : List AV) : eT P (.app T el (.c (.own el l m lo n)) (.c (.aH f el ys))) σ (.mk : Tg (K, Kp)) = req (ys.all (fun a => a.fits el) = true) (.mk : Tg (DW σ T el (σ[l]?) l m lo n ys (.mk : Tg K))) := by
  rw[<-eD];simp only[eT,bf.run,AX.ev,oc,fL,DW,true_and];rfl
@[go_sem] def anG (T : Option TypeId) (xs ys : List AV) : DW σ T el (some (.vec el xs)) l m lo n ys (.mk : Tg K) = req (m = xs.length /\ lo = 0 /\ n = xs.length /\ fE (xs.length + ys.length) el) (.mk : Tg (K (.own el l (xs.length + ys.length) 0 (xs.length + ys.length)) (σ.set l (.vec el (xs ++ ys))))) := by
  rw[<-eD];simp only[DW,true_and,true_or,and_assoc]
@[go_sem] def ak3 (t : TypeId) (xs ys : List AV) : DW σ (some t) el (some (.bW (some t) el xs)) l m lo n ys (.mk : Tg K) = req (m = xs.length /\ lo = 0 /\ n = xs.length /\ fE (xs.length + ys.length) el) (.mk : Tg (K (.own el l (xs.length + ys.length) 0 (xs.length + ys.length)) (σ.set l (.bW (some t) el (xs ++ ys))))) := by
  rw[<-eD];simp only[DW,true_and,or_true,and_assoc]
@[go_sem] def ah6 (y : AV) (ys : List AV) : eT P (.app none el (.c .aP) (.c (.aH f el (y :: ys)))) σ (.mk : Tg (K, Kp)) = req ((y :: ys).all (fun a => a.fits el) = true /\ fE (y :: ys).length el) (.mk : Tg (K (.own el σ.length (y :: ys).length 0 (y :: ys).length) (σ ++ [.vec el (y :: ys)]))) := by
  rw[<-eD];simp only[eT,bf.run,AX.ev,oc,fL,true_and,aE,Nat.add_eq_zero_iff,Nat.one_ne_zero,and_false,if_false,and_assoc]
@[go_sem] def adQ (t : TypeId) (y : AV) (ys : List AV) : eT P (.app (some t) el (.c .aP) (.c (.aH f el (y :: ys)))) σ (.mk : Tg (K, Kp)) = req ((y :: ys).all (fun a => a.fits el) = true /\ fE (y :: ys).length el) (.mk : Tg (K (.own el σ.length (y :: ys).length 0 (y :: ys).length) (σ ++ [.bW (some t) el (y :: ys)]))) := by
  rw[<-eD];simp only[eT,bf.run,AX.ev,oc,fL,true_and,aE,Nat.add_eq_zero_iff,Nat.one_ne_zero,and_false,if_false,and_assoc]
def TV{T:Option TypeId}{xs:List AV}(h : σ[l]? = some (.bW T el xs))(hm:m=xs.length)(hn:0<n)(hk:K (.dw el l m lo 0) σ): eT P (.z6 el (.c (.own el l m lo n))) σ (.mk:Tg (K,Kp)):=by
 simp only[eT,bf.run,AX.ev,h];exact⟨trivial,trivial,hm,hn,hk⟩
def QY(T:TypeId): eT P (.vi T (.c .ew) (.c (.int .i64 0))) σ (.mk:Tg (K,Kp))=K (.str []) σ:=by
 simp[eT,bf.run,AX.ev]
def QZ {T : TypeId} {xs : List AV} (s : List UInt8) (h : σ[l]? = some (.bW (some T) ⟨false, 1⟩ xs)) (hm : m = xs.length) (hx : xs = s.map fun b => .int .u8 b.toNat) (h0 : s ≠ []) (h2 : s.length <= 2^62) (ha : a = (s.length : Int)) (hk : K (.str s) (σ.set l .dead)) :
    eT P (.vi T (.c (.dw ⟨false,1⟩ l m 0 0)) (.c (.int .i64 a))) σ (.mk:Tg (K,Kp)):=by
 subst hx;subst ha;have h1:0<s.length:=List.length_pos_iff.2 h0;simp only[eT,bf.run,AX.ev,h];refine⟨trivial,trivial,trivial,trivial,hm,ae,aT,by simpa using h2,s,?_,hk⟩;rw[cM aT]
def adR{T:Option TypeId}(h : σ[l]? = some (.bH T cs))(hlt:off<cs.length)(hk:K (.ref l off) σ): eT P (.Gp (.c (.ref l off))) σ (.mk:Tg (K,Kp)):=by
 simp only[eT,bf.run,AX.ev,h];exact⟨hlt,hk⟩
def adS{T u:TypeId}(h : σ[l]? = some (.bH (some T) cs))(hlt:liesAt P P.depth T (cs.length / P.cellsOf T) off u 1=true)(hk:K (.ref l off) σ): eT P (.Gq u (.c (.ref l off))) σ (.mk:Tg (K,Kp)):=by
 simp only[eT,bf.run,AX.ev,h];exact⟨hlt,hk⟩
def adT{T:Option TypeId}(ng:Bool)(h : σ[l]? = some (.bH T cs))(hk:K (.bool ng.not) σ): eT P (.Dl ng (.c (.ref l off)) (.c (.ref l off))) σ (.mk:Tg (K,Kp)):=by
 simp only[eT,bf.run,AX.ev,h];exact⟨trivial,trivial,hk⟩
def Ws (P : Program) (g : FuncId) (v : AV) (σ : ai) {K : AV → ai → Prop} (_ : Tg K) : Prop := (∃ fn, P.funcs[g]? = some fn ∧ (fn.name == "runtime.NumGoroutine") = false ∧ fn.body.isNone = true ∧ Extern.findNext fn = none ∧ Extern.find fn = some Extern.AbiNoEscape.same) ∧ K v σ
@[go_sem ↓] def aj0 (g:FuncId) (x:AX):bf.run P (.Bd g x) e σ K Kp=Ws P g (x.ev e) σ (.mk:Tg K):=_root_.id rfl
def YY(ng:Bool)(k:NK)(x y:AV): eT P (.p_ ng k (.c x) (.c y)) σ (.mk:Tg (K,Kp))=(match n8 k x y with|some b=>K (.bool (if ng then !b else b)) σ | none=>False):=rfl
def YZ(ng:Bool)(ks:List Kd)(xs ys:List AV): eT P (.rW ng true ks (.c (.agg xs)) (.c (.agg ys))) σ (.mk:Tg (K,Kp))=(match ic ks xs ys with|some b=>K (.bool (if ng then !b else b)) σ | none=>False):=rfl
@[go_sem] def aiG (z : AV) : eT P (.l7 el z (.c (.int .i64 a)) (.c (.int .i64 b))) σ (.mk : Tg (K, Kp)) = req (z.fits el = true /\ 0 <= a /\ a <= b /\ b * (el.sz + 1) <= 2^40) (.mk : Tg (K (.own el σ.length a.toNat 0 a.toNat) (σ ++ [.vec el (List.replicate a.toNat z)]))) := by
  rw[<-eD];simp only[eT,bf.run,AX.ev,and_assoc]
end
end Go.AM
namespace Go.AM
variable {P:Program}
def IY(ms:List Nat)(r e:Env): Env:=fun t=>if ms.contains t then r t else e t
def puts: List (Nat × AV)->Env->Env
 | [],e=>e
 |(d,v)::l,e=>cZ (puts l e) (some d) v
@[go_sem ↓] def Y0 (e:Env):puts [] e=e:=_root_.id rfl
@[go_sem ↓] def Wt (d:Nat) (v:AV) (l:List (Nat × AV)) (e:Env):puts ((d,v)::l) e=cZ (puts l e) (some d) v:=_root_.id rfl
@[go_sem ↓] def anH (ms:List Nat) (r e:Env) (t:Nat):IY ms r e t=IW (ms.contains t) (.mk:Tg (r t,e t)):=_root_.id rfl
def DX(ms:List Nat)(e e':Env): Prop:= ∀ t,ms.contains t=false->e' t=e t
def abK(ms:List Nat)(r e:Env): DX ms e (IY ms r e):=fun t h=>by simp only[IY,h];rfl
def abL{ms:List Nat}{e e':Env}{d:Nat}{v:AV}(hd:ms.contains d=true)(h:DX ms e e'): DX ms e (cZ e' (some d) v):=fun t ht=>by
 simp only[cZ];split
 ·rename_i e1;subst e1;rw[hd]at ht;cases ht
 exact h t ht
def At(l:List (Nat × AV))(e:Env): Prop:= ∀ p ∈ l,e p.1=p.2
@[go_sem] def adU (e:Env):At [] e=True:=by simp[At]
@[go_sem] def abM (d:Nat) (v:AV) (l:List (Nat × AV)) (e:Env):At ((d,v)::l) e=(e d=v/\At l e):=by simp[At]
def Sd{ms:List Nat}{e e':Env}(ho:DX ms e e'): ∀(l:List (Nat × AV)),At l e'->puts l (IY ms e' e)=e'
 | [], _ => by
   funext t
   simp only[puts,IY];split
   ·rfl
   rename_i h;exact(ho t (by simpa using h)).symm
 | (d, v) :: l, h => by
   simp only[puts];rw[Sd ho l (fun p hp=>h p (cP _ hp))];exact nk (h (d,v) aT)
def oS{Q Q':AQ}(h:∀ ex e σ,Q ex e σ->Q' ex e σ): ∀(l:List bV) (e:Env) (σ : ai),dL P Q l e σ->dL P Q' l e σ
 | [],e,σ,hh=>h _ _ _ hh
 |⟨o,d,none⟩::r,e,σ,hh=>m_ (fun v s=>oS h r _ _) (fun v s=>h _ _ _) hh
 | ⟨o, d, some (k, b)⟩ :: r, e, σ, hh => by
   simp only[dL]at hh |-;split at hh
   ·exact⟨fun ht=>m_ (fun v s=>oS h r _ _) (fun v s=>h _ _ _) (hh.1 ht),fun ht=>oS h r _ _ (hh.2 ht)⟩
   ·exact oS h r _ _ hh
   exact hh
def IZ{K K':Env->ai->Prop}{Q Q':AQ}(hk:∀ e σ,K e σ->K' e σ)(h:∀ ex e σ,Q ex e σ->Q' ex e σ): ∀ ex e σ,ny K Q ex e σ->ny K' Q' ex e σ
 | .normal,_,_=>hk _ _
 | .exit _,_,_=>h _ _ _
 | .goto _,_,_=>h _ _ _
 | .ret,_,_=>h _ _ _
 | .panic _,_,_=>h _ _ _
def Wu{nt:Nat}{ps:List Nat}{ca cb:Code}{f:AV}{a b:AQ->Env->ai->Prop}{Q Q':AQ}(h:∀ ex e σ,Q ex e σ->Q' ex e σ)(e:Env)(σ : ai): Oh P nt ps ca cb f a b Q e σ->Oh P nt ps ca cb f a b Q' e σ:=by
 unfold Oh;split
 ·refine fun hh o ho hy=>(hh o ho hy).mono fun out s hq=>?_;cases out with
  | ret r =>
    obtain⟨st,pe,h1,h2,h3⟩:=hq;refine⟨st,pe,h1,h2,?_⟩;split at h3<;>first|exact h _ _ _ h3|exact h3
  | panic v=>exact h _ _ _ hq
 exact id
def TX{fO:List (AX × AX)}{Q Q':AQ}(h:∀ ex e σ,Q ex e σ->Q' ex e σ): ∀ ex e σ,i_ fO Q ex e σ->i_ fO Q' ex e σ:=fun ex e σ hq=>by
 cases ex with
 | normal=>exact⟨hq.1,h _ _ _ hq.2⟩
 | panic v =>
   simp only[i_]at hq |-;split at hq
   ·rename_i hf;rw[aB hf];exact fun e'=>h _ _ _ (hq e')
   rename_i hf;rw[aq hf];exact h _ _ _ hq
 | _=>exact h _ _ _ hq
def gK{c:cQ}: ∀ {Q Q':AQ},(∀ ex e σ,Q ex e σ->Q' ex e σ)-> ∀(e:Env) (σ : ai),fg P c Q e σ->fg P c Q' e σ:=by
 induction c with
 | skip=>exact fun h e σ=>h _ _ _
 | region ops=>exact fun h e σ=>oS h ops e σ
 | draw ops fO=>exact fun h e σ=>oS (TX h) ops e σ
 | seq a b pN qN=>exact fun h e σ=>pN (IZ (fun e σ=>qN h e σ) h) e σ
 | cond c a b pN qN =>
   intro Q Q' h e σ hh;simp only[fg]at hh |-;split at hh
   ·exact⟨fun ht=>pN h _ _ (hh.1 ht),fun ht=>qN h _ _ (hh.2 ht)⟩
   exact hh
 | block id c ih =>
   intro Q Q' h e σ;refine ih (fun ex e σ hq=>?_) e σ;cases ex<;>try exact h _ _ _ hq
   simp only[oI]at hq |-;split at hq
   ·rename_i e1;rw[aB e1];exact h _ _ _ hq
   rename_i e1;rw[aq e1];exact h _ _ _ hq
 | loop c ih =>
   rintro Q Q' h e σ ⟨I,hI,hr⟩;exact⟨I,hI,fun n e σ hi=>ih (IZ (fun _ _ h=>h) h) _ _ (hr n e σ hi)⟩
 | exit id=>exact fun h e σ=>h _ _ _
 | ret=>exact fun h e σ=>h _ _ _
 | scope l c r GH Wv =>
   rintro Q Q' h e σ ⟨J,h1,h2⟩
   have hj:∀ (J:Env->ai->Prop) ex e σ,qZ l J Q ex e σ->qZ l J Q' ex e σ:=fun J ex e σ hq=>by
    cases ex<;>first|exact h _ _ _ hq|exact hq
   exact⟨J,GH (hj _) _ _ h1,fun n e σ hi=>Wv (hj _) _ _ (h2 n e σ hi)⟩
 | stop=>exact fun h e σ hh=>hh
 | rE f nt ps ca cb a b _ _=>exact fun h e σ=>Wu h e σ
 | label l=>exact fun h e σ=>h _ _ _
 | goto l=>exact fun h e σ=>h _ _ _
def Ww{α : Type}(ms:List Nat)(cs : α->List (Nat × AV))(S : α->ai)(A : α->Prop)(μ : α->Nat)(e:Env)(x : α)(e':Env)(σ':ai): Prop :=
 ∃ x',A x'/\ μ x' < μ x/\σ'=S x'/\DX ms e e'/\At (cs x') e'
def adV {c : cQ} {Q : AQ} {e : Env} {σ : ai} {α : Type} (ms : List Nat) (cs : α -> List (Nat × AV)) (S : α -> ai) (A : α -> Prop) (μ : α -> Nat) (x0 : α) (h0 : A x0) (xh : σ = S x0) (qB : At (cs x0) e)
    (hr:∀ x r,A x->fg P c (ny (Ww ms cs S A μ e x) Q) (puts (cs x) (IY ms r e)) (S x)):TR P (.mk:Tg (c,Q,e,σ)):=by
 refine⟨fun n e' σ'=> ∃ x,A x/\DX ms e e'/\At (cs x) e'/\σ'=S x/\ μ x=n,⟨_,x0,h0,fun _ _=>rfl,qB,xh,rfl⟩,?_⟩;rintro n e' σ' ⟨x1,a1,o1,t1,rfl,rfl⟩;have h:=hr x1 e' a1;rw[Sd o1 _ t1]at h;refine gK (fun ex e2 σ2 hq=>?_) _ _ h;cases ex<;>try exact hq
 obtain⟨x',a',hm,hs,ho,ht⟩:=hq;exact⟨_,hm,x',a',ho,ht,hs,rfl⟩
def zT: Nat->Nat->List Nat->List Nat
 | 0,_,l=>l
 | n+1,a,l=>a::zT n (a+1) l
def zX: List Nat->List Nat
 | a::n::l=>zT n a (zX l)
 | _=>[]
def dA {c : cQ} {Q : AQ} {e : Env} {σ : ai} {α : Type} (ps : List Nat) {ms : List Nat} (cs : α -> List (Nat × AV)) (S : α -> ai) (A : α -> Prop) (μ : α -> Nat) (x0 : α) (h0 : A x0) (xh : σ = S x0) (qB : At (cs x0) e)
    (hr:∀ x r,A x->fg P c (ny (Ww ms cs S A μ e x) Q) (puts (cs x) (IY ms r e)) (S x)) (hm:zX ps=ms:=by simp only[zX,zT,Nat.reduceAdd];rfl):TR P (.mk:Tg (c,Q,e,σ)):=adV ms cs S A μ x0 h0 xh qB hr
end Go.AM
namespace Go.AM
variable {P:Program}
mutual
def AV.dU: AV->Bool
 | .own .. | .ref .. | .dw .. | .mp _ | .lW _ | .lX ..=>false
 | .agg cs=>AV.cK cs
 | .bg cs=>AV.cK cs
 | .aH _ _ xs=>AV.cK xs
 | .cN _ x _=>AV.dU x
 | .fn _ a b=>AV.cK a && AV.cK b
 | .iS _ v=>AV.dU v
 | .undef | .bool _ | .int .. | .str _ | .aP | .ew | .ld | .eG | .iU | .lf=>true
def AV.cK: List AV->Bool
 | []=>true
 | a::az=>AV.dU a && AV.cK az
end
def pP{l:List AV}: AV.cK l=true↔ ∀ a ∈ l,a.dU=true:=by
 induction l with
 | nil=>simp[AV.cK]
 | cons a l ih=>simp[AV.cK,ih]
def jM{l:List AV}(h:AV.cK l=true)(i:Nat): (l.getD i .undef).dU=true:=by
 rw[aj];by_cases hi:i<l.length
 ·rw[aJ hi];exact pP.1 h _ (c9 hi)
 rw[eo (iw hi)];rfl
def je{α : Type}(f : α->AV)(l:List α)(h:∀ a,(f a).dU=true): AV.cK (l.map f)=true:=by
 rw[pP];intro a ha;obtain⟨x,_,rfl⟩:=eL.1 ha;exact h x
def Hz{a:AV}(h:a.dU=true)(c:Nat): (a.cell c).dU=true:=by
 cases a<;>first|exact h|exact jM h c
def VR.dU{g g':aC}{w w':World}(hi:∀ b,g.eS b->g'.eS b/\w'.heap[b]? = w.heap[b]?){a:AV}{v:Value}(h:VR g w a v): a.dU=true->VR g' w' a v:=by
 induction h with
 | undef v=>exact fun _=> .undef v
 | bool b=>exact fun _=> .bool b
 | int k n=>exact fun _=> .int k n
 | str s=>exact fun _=> .str s
 | agg cs vs hl hs _ ih=>exact fun hp=> .agg cs vs hl hs (fun i h=>ih i h (jM hp i))
 | bg cs vs hl _ ih=>exact fun hp=> .bg cs vs hl (fun i h=>ih i h (jM hp i))
 | aP=>exact fun _=> .aP
 | iz f el b cap hf=>exact fun _=> .iz f el b cap hf
 | aH f el xs b off cap hb hf hx ft hc _ ih =>
   intro hp;obtain⟨hi',he⟩:=hi b hb;refine .aH f el xs b off cap hi' hf hx ft (fun i c h1 h2=>?_) (fun i c h1 h2=>?_)
   ·rw[mC he];exact hc i c h1 h2
   rw[qX he];exact ih i c h1 h2 (Hz (jM hp i) c)
 | own el l m lo n v h=>exact fun hp=>by cases hp
 | ref l off v h=>exact fun hp=>by cases hp
 | cN el x off b o hb ft hc _ ih =>
   intro hp;obtain⟨hi',he⟩:=hi b hb;refine .cN el x off b o hi' ft (fun c h2=>?_) (fun c h2=>?_)
   ·rw[mC he];exact hc c h2
   rw[qX he];exact ih c h2 (Hz (a:=x) hp c)
 | dw el l m i off v h=>exact fun hp=>by cases hp
 | ew=>exact fun _=> .ew
 | ld=>exact fun _=> .ld
 | eG=>exact fun _=> .eG
 | fn f first cap first' cap' hl hl' _ _ ih Dh =>
   intro hp;simp only[AV.dU,aD]at hp;exact .fn f first cap first' cap' hl hl' (fun i h=>ih i h (jM hp.1 i)) (fun i h=>Dh i h (jM hp.2 i))
 | iS t a v _ ih=>exact fun hp=> .iS t a v (ih hp)
 | iU=>exact fun _=> .iU
 | lf v h=>exact fun _=> .lf v h
 | mp l v h=>exact fun hp=>by cases hp
 | lW l v h=>exact fun hp=>by cases hp
 | lX el l off n v h=>exact fun hp=>by cases hp
mutual
def AV.flat: AV->Bool
 | .agg cs=>AV.q_ cs
 | .bg cs=>AV.q_ cs
 | .undef | .bool _ | .int .. | .str _ | .aP | .ew | .ld | .eG | .iU | .lf=>true
 | .aH _ _ []=>true
 | .iS _ a=>AV.flat a
 | _=>false
def AV.q_: List AV->Bool
 | []=>true
 | a::az=>AV.flat a && AV.q_ az
end
def I0{l:List AV}(h:AV.q_ l=true)(i:Nat): (l.getD i .undef).flat=true:=by
 induction l generalizing i with
 | nil=>simp[AV.flat]
 | cons a l ih =>
   simp only[AV.q_,aD]at h;cases i with
   | zero=>simpa using h.1
   | succ i=>simpa using ih h.2 i
def VR.flat{g g':aC}{w w':World}{a:AV}{v:Value}(h:VR g w a v): a.flat=true->VR g' w' a v:=by
 induction h with
 | undef v=>exact fun _=> .undef v
 | bool b=>exact fun _=> .bool b
 | int k n=>exact fun _=> .int k n
 | str s=>exact fun _=> .str s
 | agg cs vs hl hs _ ih=>exact fun hp=> .agg cs vs hl hs (fun i h=>ih i h (I0 hp i))
 | bg cs vs hl _ ih=>exact fun hp=> .bg cs vs hl (fun i h=>ih i h (I0 hp i))
 | aP=>exact fun _=> .aP
 | iz f el b cap hf=>exact fun _=> .iz f el b cap hf
 | aH f el xs b off cap hb hf hx ft hc _ ih =>
   intro hp;cases xs with
   | nil=>exact .iz f el _ cap hf
   | cons x xs=>simp[AV.flat]at hp
 | ew=>exact fun _=> .ew
 | ld=>exact fun _=> .ld
 | eG=>exact fun _=> .eG
 | iU=>exact fun _=> .iU
 | lf v h=>exact fun _=> .lf v h
 | iS t a v _ ih=>exact fun hp=> .iS t a v (ih hp)
 | own|ref|cN|dw|fn|mp|lW|lX=>exact fun hp=>by simp[AV.flat]at hp
inductive View (σ : ai):AV->AV->Prop where
 | refl (a:AV) (h:a.dU=true):View σ a a
 | aP (el:El):View σ .aP (.aH false el [])
 | weak (f:Bool) (el:El) (xs:List AV) (h:AV.cK xs=true):View σ (.aH f el xs) (.aH false el xs)
 | aH (f:Bool) (el:El) (xs ys:List AV) (hl:xs.length=ys.length) (h:∀ i,i<xs.length->View σ (xs.getD i .undef) (ys.getD i .undef)):View σ (.aH f el xs) (.aH false el ys)
 | own (T : Option TypeId) (el : El) (l lo n : Nat) (xs ys : List AV) (hl : σ[l]? = some (.bW T el xs)) (hy : ys.length = n) (hn : lo + n <= xs.length)
    (h:∀ i,i<n->View σ (xs.getD (lo+i) .undef) (ys.getD i .undef)):View σ (.own el l xs.length lo n) (.aH false el ys)
 | agg (cs ds:List AV) (hl:cs.length=ds.length) (h:∀ i,i<cs.length->View σ (cs.getD i .undef) (ds.getD i .undef)):View σ (.agg cs) (.agg ds)
 | bg (cs ds:List AV) (hl:cs.length=ds.length) (h:∀ i,i<cs.length->View σ (cs.getD i .undef) (ds.getD i .undef)):View σ (.bg cs) (.bg ds)
 | cell (l:Nat) (v:AV) (hl : σ[l]? = some (.cells [v])) (hs:v.fits ⟨false,1⟩=true) (hp:v.dU=true):View σ (.ref l 0) (.cN ⟨false,1⟩ v 0)
 | cells (l n:Nat) (cs:List AV) (hl : σ[l]? = some (.cells cs)) (hn:cs.length=n) (hp:AV.cK cs=true):View σ (.ref l 0) (.cN ⟨true,n⟩ (.agg cs) 0)
 | lf (a:AV) (l:Nat) (o:bG) (hl : σ[l]? = some o) (ho:o.live=true) (h:a.scalar=true):View σ a .lf
 | Af (l n:Nat) (cs ds:List AV) (hl : σ[l]? = some (.cells cs)) (hn:cs.length=n) (hd:cs.length=ds.length) (h:∀ i,i<cs.length->View σ (cs.getD i .undef) (ds.getD i .undef)):View σ (.ref l 0) (.cN ⟨true,n⟩ (.agg ds) 0)
 | fn (f : Fn) (az bs cs ds : List AV) (hl : az.length = bs.length) (h : ∀ i, i < az.length -> View σ (az.getD i .undef) (bs.getD i .undef))
    (hl':cs.length=ds.length) (h':∀ i,i<cs.length->View σ (cs.getD i .undef) (ds.getD i .undef)):View σ (.fn f az cs) (.fn f bs ds)
def bR(σ : ai)(cs ds:List AV): Prop:=cs.length=ds.length/\ ∀ i,i<cs.length->View σ (cs.getD i .undef) (ds.getD i .undef)
def bR.nil(σ : ai): bR σ [] []:=⟨rfl,fun _ h=>absurd h (cJ _)⟩
def bR.cons{σ : ai}{a b:AV}{cs ds:List AV}(h:View σ a b)(hs:bR σ cs ds): bR σ (a::cs) (b::ds) :=
 ⟨by simp [hs.1], fun i hi => by
   cases i with
   | zero=>simpa using h
   | succ i=>simpa using hs.2 i (by simpa using hi)⟩
def bR.refl{σ : ai}{cs:List AV}(h:AV.cK cs=true): bR σ cs cs:=⟨rfl,fun i _=> .refl _ (jM h i)⟩
def View.r_{σ : ai}{cs ds:List AV}(h:bR σ cs ds): View σ (.agg cs) (.agg ds):= .agg cs ds h.1 h.2
def View.adW{σ : ai}{cs ds:List AV}(h:bR σ cs ds): View σ (.bg cs) (.bg ds):= .bg cs ds h.1 h.2
def View.Y1{σ : ai}{f:Bool}{el:El}{xs ys:List AV}(h:bR σ xs ys): View σ (.aH f el xs) (.aH false el ys):= .aH f el xs ys h.1 h.2
def View.fnL{σ : ai}{f:Fn}{az bs cs ds:List AV}(h:bR σ az bs)(h':bR σ cs ds): View σ (.fn f az cs) (.fn f bs ds):= .fn f az bs cs ds h.1 h.2 h'.1 h'.2
def View.vec{σ : ai}{T:Option TypeId}{el:El}{l m n:Nat}{xs:List AV}(hl : σ[l]? = some (.bW T el xs))(hm:m=xs.length)(hn:n=xs.length)(h:AV.cK xs=true): View σ (.own el l m 0 n) (.aH false el xs):=by
 subst hm;subst hn;exact .own T el l 0 xs.length xs xs hl rfl ae (fun i _=>by rw[bp];exact .refl _ (jM h i))
def View.ak4{σ : ai}{T:Option TypeId}{el:El}{l m n:Nat}{xs ys:List AV}(hl : σ[l]? = some (.bW T el xs))(hm:m=xs.length)(hn:n=xs.length)(h:bR σ xs ys): View σ (.own el l m 0 n) (.aH false el ys):=by
 subst hm;subst hn;exact .own T el l 0 xs.length xs ys hl h.1.symm ae (fun i hi=>by rw[bp];exact h.2 i hi)
def View.scalar{σ : ai}{a b:AV}(h:View σ a b): b.scalar=a.scalar:=by
 cases h<;>first|rfl|skip
 case lf=>rename_i h;exact h.symm
def View.fits{σ : ai}{a b:AV}(h:View σ a b)(el:El)(hf:a.fits el=true): b.fits el=true:=by
 cases h with
 | agg cs ds hl h =>
   simp only[AV.fits,aD,bt,beq_iff_eq]at hf |-;refine⟨⟨hf.1.1,by rw[<-hl];exact hf.1.2⟩,fun x hx=>?_⟩;obtain⟨i,hi,rfl⟩:=bY hx;have h1:=(h i ae).scalar;rw[aj,aj,aJ hi,aJ (by omega:i<cs.length)]at h1;rw[bF,bF]at h1;rw[h1];exact hf.2 _ (c9 _)
 | refl=>exact hf
 | aP=>exact hf
 | weak=>exact hf
 | aH=>exact hf
 | own=>exact hf
 | bg=>exact hf
 | cell=>exact hf
 | cells=>exact hf
 | Af=>exact hf
 | lf _ l o hl ho h=>cases a<;>first|exact hf|(simp[AV.scalar]at h;done)
 | fn=>exact hf
def View.mono{σ σ':ai}(hs:∀ (l:Nat) o,σ[l]? = some o->σ'[l]? = some o){a b:AV}(h:View σ a b): View σ' a b:=by
 induction h with
 | refl a h=>exact .refl a h
 | aP el=>exact .aP el
 | weak f el xs h=>exact .weak f el xs h
 | aH f el xs ys hl _ ih=>exact .aH f el xs ys hl ih
 | own T el l lo n xs ys hl hy hn _ ih=>exact .own T el l lo n xs ys (hs _ _ hl) hy hn ih
 | agg cs ds hl _ ih=>exact .agg cs ds hl ih
 | bg cs ds hl _ ih=>exact .bg cs ds hl ih
 | cell l v hl h hp=>exact .cell l v (hs _ _ hl) h hp
 | cells l n cs hl hn hp=>exact .cells l n cs (hs _ _ hl) hn hp
 | Af l n cs ds hl hn hd h ih=>exact .Af l n cs ds (hs _ _ hl) hn hd ih
 | lf a l o hl ho h=>exact .lf a l o (hs _ _ hl) ho h
 | fn f az bs cs ds hl _ hl' _ ih Dh=>exact .fn f az bs cs ds hl ih hl' Dh
def HA {g g' : aC} {w : World} {σ : ai} {x y : AV} {el : El} (ih : ∀ u, VR g w x u -> VR g' w y u) (h : View σ x y) (hf : x.fits el = true) (u : Nat -> Value)
    (hu:∀ k,k<el.sz->VR g w (x.cell k) (u k)) (c:Nat) (hc:c<el.sz):VR g' w (y.cell c) (u c):=by
 by_cases hx:∃ cs,x = .agg cs
 ·obtain⟨cs,rfl⟩:=hx;simp only[AV.fits,aD,beq_iff_eq]at hf
  have h1:VR g w (.agg cs) (.agg (Array.ofFn fun i:Fin cs.length=>u i)):=by
   refine .agg cs _ aT hf.2 (fun i hi=>?_);have:=hu i ae;simpa[hi,AV.cell]using this
  have h2:=ih _ h1;generalize hq:y=q at h2
  have:∃ ds,q = .agg ds:=by
   subst hq;cases h with
   | refl=>exact⟨_,rfl⟩
   | agg _ ds=>exact⟨ds,rfl⟩
   | lf _ _ _ _ _ h=>simp[AV.scalar]at h
  obtain⟨ds,rfl⟩:=this;cases h2 with
  | agg _ vs hl hs hh =>
    simp only[Array.size_ofFn]at hl;have:=hh c ae;have hcl:c<cs.length:=ae;simpa[hcl,AV.cell]using this
 have e1:x.cell c=x:=by cases x<;>first|rfl|exact absurd ⟨_,rfl⟩ hx
 have e2:y.cell c=y:=by
  cases h<;>first|rfl|(exact absurd ⟨_,rfl⟩ hx)|exact e1
 rw[e2];have:=hu c hc;rw[e1]at this;exact ih _ this
def View.vr {g g' : aC} {w : World} {σ : ai} (hR : Rel g w σ) (hi : ∀ b, g.eS b -> g'.eS b) (ht : ∀ b, kD σ g b -> g'.eS b) {a b : AV} (hv : View σ a b) :
    ∀ {v:Value},VR g w a v->VR g' w b v:=by
 have Cx:∀ b,g.eS b->g'.eS b/\w.heap[b]? = w.heap[b]?:=fun b hb=>⟨hi b hb,rfl⟩
 induction hv with
 | refl a h=>exact fun hr=>hr.dU Cx h
 | aP el=>intro v hr;cases hr;exact .iz false el none 0 (fun h=>by cases h)
 | weak f el xs h =>
   intro v hr;cases hr with
   | iz f el b cap hf=>exact .iz false el b cap (fun h=>by cases h)
   | aH f el xs b off cap hb hf hx ft hc hh =>
     exact .aH false el xs b off cap (hi b hb) (fun h=>by cases h) hx ft hc (fun i c h1 h2=>(hh i c h1 h2).dU Cx (Hz (jM h i) c))
 | aH f el xs ys hl h ih =>
   intro v hr;cases hr with
   | iz f el b cap hf =>
     have:ys=[]:=eP.1 hl.symm;subst this;exact .iz false el b cap (fun h=>by cases h)
   | aH f el xs b off cap hb hf hx ft hc hh =>
     rw[hl];refine .aH false el ys b off cap (hi b hb) (fun h=>by cases h) (hl ▸ hx) (fun i h1=>(h i (hl ▸ h1)).fits el (ft i (hl ▸ h1))) (fun i c h1 h2=>hc i c (hl ▸ h1) h2) (fun i c h1 h2=>?_);exact HA (fun u=>ih i (hl ▸ h1)) (h i (hl ▸ h1)) (ft i (hl ▸ h1)) (fun k=>dn w ⟨b,off+(i*el.sz+k),none⟩) (fun k hk=>hh i k (hl ▸ h1) hk) c h2
 | own T el l lo n xs ys hl hy hn h ih =>
   intro v hr;cases hr with
   | own _ _ _ _ _ _ hO =>
     obtain⟨_,_,A,cap,rfl,h4⟩:=hO;obtain⟨mz,CA,hrow⟩:=hR.ok l _ hl;by_cases Gy:n=0
     ·subst Gy;have:ys=[]:=eP.1 hy;subst this;exact .iz false el A cap (fun h=>by cases h)
     rcases hrow with⟨hx,_,_⟩|⟨b,vs,hb,hrow,hsz,hle,hc,_⟩
     ·subst hx;simp at hn;omega
     obtain⟨_,h6,h7⟩:=h4 mz.symm;have hlt:lo<g.cap l:=ae;have hA:=h7 hlt;rw[hb]at hA;simp only[cB]at hA;subst hA
     have hidx:∀ i c,i<n->c<el.sz->g.off l+(lo+i)*el.sz+c<vs.size:=fun i c h1 h2=>by
      rw[hsz];have:(lo+i)*el.sz+el.sz<=g.cap l*el.sz:=by rw[<-dy];exact bw _ ae
      omega
     have hoff:∀ i c,g.off l+lo*el.sz+(i*el.sz+c)=g.off l+(lo+i)*el.sz+c:=fun i c=>by rw[bJ];omega
     subst hy;refine .aH false el ys b (g.off l+lo*el.sz) cap (ht b ⟨l,⟨_,hl,rfl⟩,hb⟩) (fun h=>by cases h) ae (fun i h1=>?_) (fun i c h1 h2=>?_) (fun i c h1 h2=>?_)
     ·exact(h i h1).fits el (CA (lo+i) ae)
     ·rw[hoff,hrow.cell (hidx i c h1 h2)];rfl
     rw[hoff]
     have e1:dn w ⟨b,g.off l+(lo+i)*el.sz+c,none⟩=vs.getD (g.off l+(lo+i)*el.sz+c) Go.undef:=by
      simp only[dn,hrow.cell (hidx i c h1 h2),bF]
     rw[e1];exact HA (fun u=>ih i h1) (h i h1) (CA (lo+i) ae) (fun k=>vs.getD (g.off l+(lo+i)*el.sz+k) Go.undef) (fun k hk=>hc (lo+i) k ae hk) c h2
 | agg cs ds hl h ih =>
   intro v hr;cases hr with
   | agg _ vs hl' hs hh =>
     refine .agg ds vs ae ?_ (fun i h1=>ih i ae (hh i ae));rw[bt]at hs |-;intro x hx;obtain⟨i,hi',rfl⟩:=bY hx;have h1:=(h i ae).scalar;rw[aj,aj,aJ hi',aJ (by omega:i<cs.length)]at h1;rw[bF,bF]at h1;rw[h1];exact hs _ (c9 _)
 | bg cs ds hl h ih =>
   intro v hr;cases hr with
   | bg _ vs hl' hh=>exact .bg ds vs ae (fun i h1=>ih i ae (hh i ae))
 | cell l x hl hs hp =>
   intro v hr;cases hr with
   | ref _ _ _ hO =>
     obtain⟨_,A,rfl,h2⟩:=hO;obtain⟨mz,_,b,vs,hb,hrow,hsz,hc,_⟩:=hR.ok l _ hl;obtain⟨h3,h4⟩:=h2 mz;rw[hb]at h3;cases h3;rw[h4];have h5:(0:Nat)<vs.size:=by simpa using Nat.lt_of_lt_of_eq Nat.zero_lt_one hsz.symm
     have hcell:=hrow.cell h5;have hx:=hc 0 aT;simp only[cC]at hx;refine .cN ⟨false,1⟩ x 0 A.block 0 (ht _ ⟨l,⟨_,hl,rfl⟩,hb⟩) hs (fun c h1=>?_) (fun c h1=>?_)
     ·have:c=0:=by have:c<1:=h1;omega
      subst this;rw[bp,hcell];rfl
     have:c=0:=by have:c<1:=h1;omega
     subst this;have e1:x.cell 0=x:=by cases x<;>first|rfl|simp[AV.fits]at hs
     simp only[bp,dn,hcell,bF,e1];exact hx.dU Cx hp
 | cells l n cs hl hn hp =>
   intro v hr;cases hr with
   | ref _ _ _ hO =>
     obtain⟨_,A,rfl,h2⟩:=hO;obtain⟨mz,hsc,b,vs,hb,hrow,hsz,hc,_⟩:=hR.ok l _ hl;obtain⟨h3,h4⟩:=h2 mz;rw[hb]at h3;cases h3;rw[h4];refine .cN ⟨true,n⟩ (.agg cs) 0 A.block 0 (ht _ ⟨l,⟨_,hl,rfl⟩,hb⟩) (by simp[AV.fits,hn];simpa using hsc) (fun c h1=>?_) (fun c h1=>?_)
     ·have h1:c<n:=h1;rw[bp,hrow.cell ae];rfl
     have h1:c<n:=h1;simp only[bp,dn,hrow.cell (show c<vs.size by omega),bF];exact(hc c ae).dU Cx (jM hp c)
 | lf a l o hl ho h=>intro v hr;exact .lf v (hr.Fu h)
 | Af l n cs ds hl hn hd h ih =>
   intro v hr;cases hr with
   | ref _ _ _ hO =>
     obtain⟨_,A,rfl,h2⟩:=hO;obtain⟨mz,hsc,b,vs,hb,hrow,hsz,hc,_⟩:=hR.ok l _ hl;obtain⟨h3,h4⟩:=h2 mz;rw[hb]at h3;cases h3;rw[h4];refine .cN ⟨true,n⟩ (.agg ds) 0 A.block 0 (ht _ ⟨l,⟨_,hl,rfl⟩,hb⟩) ?_ (fun c h1=>?_) (fun c h1=>?_)
     ·simp only[AV.fits,iN,aD,beq_iff_eq];refine⟨ae,bt.2 fun x hx=>?_⟩;obtain⟨i,hi,rfl⟩:=bY hx;have:=(h i ae).scalar;rw[aj,aj,aJ hi,aJ (by omega:i<cs.length)]at this;rw[bF,bF]at this;rw[this];exact bt.1 hsc _ (c9 _)
     ·have h1:c<n:=h1;rw[bp,hrow.cell ae];rfl
     have h1:c<n:=h1;simp only[bp,dn,hrow.cell (show c<vs.size by omega),bF];exact ih c ae (hc c ae)
 | fn f az bs cs ds hl h hl' h' ih Dh =>
   intro v hr;cases hr with
   | fn _ _ _ first' cap' k1 k2 k3 k4=>exact .fn f bs ds first' cap' ae ae (fun i h1=>ih i ae (k3 i ae)) (fun i h1=>Dh i ae (k4 i ae))
def aA(P:Program)(f:FuncId)(args:List AV)(r:AV): Prop:= ∀ σ,mD P f args σ r
def iG{g:aC}{b:Nat}: ¬ kD [] g b:=fun⟨_,⟨_,h,_⟩,_⟩=>by simp at h
def aC.pQ(g:aC)(lo hi:Nat): aC:= { g with eS:=fun b=>g.eS b\/(lo<=b/\b<hi) }
def Rel.pQ {g : aC} {w w' : World} {σ : ai} (h : Rel g w σ) (hsz : w.heap.size <= w'.heap.size) (hos : w'.os = w.os) (rV : w'.tape = w.tape) (hout : w'.output = w.output)
    (hf:∀ b,b<w.heap.size->w'.heap[b]? = w.heap[b]?):Rel (g.pQ w.heap.size w'.heap.size) w' σ/\ep σ g w σ (g.pQ w.heap.size w'.heap.size) w':=by
 have hm:jQ g w (g.pQ w.heap.size w'.heap.size) w':=⟨fun b hb=>⟨.inl hb,hf b (h.lt b hb)⟩,aV _,fun _ _=>⟨aV _,fun _=>⟨rfl,rfl,rfl⟩⟩⟩;refine⟨⟨h.len,fun b hb=>?_,fun l o ho=>?_,h.inj,fun l b hl hb hi=>?_,h.glob.mono hm.eS⟩,⟨hm,hsz,hos,rV,hout,fun b hb _=>hf b hb,fun b hb hi=>?_,fun b _ ht=>ht⟩⟩
 ·rcases hb with hb|hb
  ·exact bU (h.lt b hb) hsz
  exact hb.2
 ·have hl:l<g.n:=by rw[<-h.len];exact(aK.1 ho).1
  by_cases hv:o.live=true
  ·exact(h.ok l o ho).step hm hl rfl (fun b hb=>hf b (h.kK ⟨o,ho,hv⟩ hb))
  ·cases o<;>simp[bG.live]at hv;trivial
 ·rcases hi with hi|hi
  ·exact h.qy l b hl hb hi
  have:=h.kK hl hb;omega
 rcases hi with hi|hi
 ·exact .inl hi
 omega
def aC.bare(I:Nat->Prop): aC:=⟨I,0,fun _=>0,fun _=>none,fun _=>0,fun _=>0⟩
def Rel.bare{I:Nat->Prop}{w:World}(h:∀ b,I b->b<w.heap.size)(hg:yp (aC.bare I) w): Rel (aC.bare I) w [] :=
 ⟨rfl,h,fun _ _ h=>by simp at h,fun _ _ _ ⟨_,h,_⟩=>by simp at h,fun _ _ ⟨_,h,_⟩=>by simp at h,hg⟩
def aA.wq{f:FuncId}{args:List AV}{r:AV}(h:cV P f args [] fun o σ'=> ∃ r0,o = .ret r0/\View σ' r0 r)(hp:AV.cK args=true): aA P f args r:=by
 intro σ;refine⟨h.1,fun g w vs hR hlen hv=>?_⟩;refine(h.2 (aC.bare g.eS) w vs (Rel.bare hR.lt ⟨hR.glob.1,hR.glob.2⟩) hlen (fun i hi=>VR.dU (g:=g) (g':=aC.bare g.eS) (fun b hb=>⟨hb,rfl⟩) (hv i hi) (jM hp i))).mono ?_;rintro e w' ⟨out,g',σ',kE,hE,hO,r0,rfl,I3⟩;have hfr:∀ b,b<w.heap.size->w'.heap[b]? = w.heap[b]?:=fun b hb=>hE.frame b hb iG;obtain⟨h1,h2⟩:=hR.pQ hE.size hE.os hE.tape hE.output hfr;refine⟨.ret r,_,σ,h1,h2,?_,rfl,rfl⟩;cases e with
 | returned v =>
   refine I3.vr kE (fun b hb=>?_) (fun b hb=>?_) hO
   ·by_cases hlt:b<w.heap.size
    ·rcases hE.uD b hlt hb with h3|h3
     ·exact .inl h3
     exact absurd h3 iG
    exact .inr ⟨ae,kE.lt b hb⟩
   by_cases hlt:b<w.heap.size
   ·exact absurd (hE.Di b hlt hb) iG
   exact .inr ⟨ae,kE.rU hb⟩
 | panicked c=>exact hO.elim
 | outgrown=>exact hO.elim
def aA.view{f:FuncId}{args args':List AV}{r:AV}{σ : ai}(h:aA P f args' r)(hv:bR σ args args')(hr:r.flat=true): mD P f args σ r:=by
 refine⟨(h []).1,fun g w vs hR hlen hvs=>?_⟩
 let I:Nat->Prop:=fun b=>g.eS b\/kD σ g b
 have hlt:∀ b,I b->b<w.heap.size:=fun b hb=>by
  rcases hb with hb|hb
  ·exact hR.lt b hb
  exact hR.rU hb
 refine((h []).2 (aC.bare I) w vs (Rel.bare hlt ⟨fun b hb=> .inl (hR.glob.1 b hb),hR.glob.2⟩) (hv.1 ▸ hlen) (fun i hi=>?_)).mono ?_
 ·exact(hv.2 i (hv.1 ▸ hi)).vr (g':=aC.bare I) hR (fun b hb=> .inl hb) (fun b hb=> .inr hb) (hvs i (hv.1 ▸ hi))
 rintro e w' ⟨out,g',σ',kE,hE,hO,rfl,rfl⟩;have hfr:∀ b,b<w.heap.size->w'.heap[b]? = w.heap[b]?:=fun b hb=>hE.frame b hb iG;obtain⟨h1,h2⟩:=hR.pQ hE.size hE.os hE.tape hE.output hfr;refine⟨.ret r,_,σ,h1,h2,?_,rfl,rfl⟩;cases e with
 | returned v=>exact VR.flat (a:=r) hO hr
 | panicked c=>exact hO.elim
 | outgrown=>exact hO.elim
inductive mM (σ : ai):AV->AV->Prop where
 | flat (a:AV) (h:a.flat=true):mM σ a a
 | own (T : Option TypeId) (el : El) (l lo n : Nat) (xs ys : List AV) (hl : σ[l]? = some (.bW T el xs)) (hy : ys.length = n) (hn : lo + n <= xs.length)
    (h:∀ i,i<n->mM σ (xs.getD (lo+i) .undef) (ys.getD i .undef)):mM σ (.own el l xs.length lo n) (.aH false el ys)
 | agg (cs ds:List AV) (hl:cs.length=ds.length) (h:∀ i,i<cs.length->mM σ (cs.getD i .undef) (ds.getD i .undef)):mM σ (.agg cs) (.agg ds)
 | bg (cs ds:List AV) (hl:cs.length=ds.length) (h:∀ i,i<cs.length->mM σ (cs.getD i .undef) (ds.getD i .undef)):mM σ (.bg cs) (.bg ds)
mutual
def AV.HB: ∀(a:AV),a.flat=true->a.dU=true
 | .agg cs,h=>AV.DY cs h
 | .bg cs,h=>AV.DY cs h
 | .undef,_ | .bool _,_ | .int ..,_ | .str _,_ | .aP,_ | .ew,_ | .ld,_ | .eG,_ | .iU,_ | .lf,_=>rfl
 | .aH _ _ [],_=>rfl
 | .iS _ a,h=>AV.HB a h
 | .aH _ _ (_::_),h | .own ..,h | .ref ..,h | .cN ..,h | .dw ..,h | .fn ..,h | .mp _,h | .lW _,h | .lX ..,h=>by simp[AV.flat]at h
def AV.DY: ∀(l:List AV),AV.q_ l=true->AV.cK l=true
 | [],_=>rfl
 | a :: l, h => by
   simp only[AV.q_,aD]at h;simp only[AV.cK,aD];exact⟨AV.HB a h.1,AV.DY l h.2⟩
end
def mM.view{σ : ai}{a b:AV}(h:mM σ a b): View σ a b:=by
 induction h with
 | flat a h=>exact .refl a (AV.HB a h)
 | own T el l lo n xs ys hl hy hn _ ih=>exact .own T el l lo n xs ys hl hy hn ih
 | agg cs ds hl _ ih=>exact .agg cs ds hl ih
 | bg cs ds hl _ ih=>exact .bg cs ds hl ih
def mM.vr{g g':aC}{w:World}{σ : ai}(hR:Rel g w σ)(ht:∀ b,kD σ g b->g'.eS b){a b:AV}(hv:mM σ a b): ∀ {v:Value},VR g w a v->VR g' w b v:=by
 induction hv with
 | flat a h=>exact fun hr=>hr.flat h
 | own T el l lo n xs ys hl hy hn h ih =>
   intro v hr;cases hr with
   | own _ _ _ _ _ _ hO =>
     obtain⟨_,_,A,cap,rfl,h4⟩:=hO;obtain⟨mz,CA,hrow⟩:=hR.ok l _ hl;by_cases Gy:n=0
     ·subst Gy;have:ys=[]:=eP.1 hy;subst this;exact .iz false el A cap (fun h=>by cases h)
     rcases hrow with⟨hx,_,_⟩|⟨b,vs,hb,hrow,hsz,hle,hc,_⟩
     ·subst hx;simp at hn;omega
     obtain⟨_,h6,h7⟩:=h4 mz.symm;have hlt:lo<g.cap l:=ae;have hA:=h7 hlt;rw[hb]at hA;simp only[cB]at hA;subst hA
     have hidx:∀ i c,i<n->c<el.sz->g.off l+(lo+i)*el.sz+c<vs.size:=fun i c h1 h2=>by
      rw[hsz];have:(lo+i)*el.sz+el.sz<=g.cap l*el.sz:=by rw[<-dy];exact bw _ ae
      omega
     have hoff:∀ i c,g.off l+lo*el.sz+(i*el.sz+c)=g.off l+(lo+i)*el.sz+c:=fun i c=>by rw[bJ];omega
     subst hy;refine .aH false el ys b (g.off l+lo*el.sz) cap (ht b ⟨l,⟨_,hl,rfl⟩,hb⟩) (fun h=>by cases h) ae (fun i h1=>?_) (fun i c h1 h2=>?_) (fun i c h1 h2=>?_)
     ·exact(h i h1).view.fits el (CA (lo+i) ae)
     ·rw[hoff,hrow.cell (hidx i c h1 h2)];rfl
     rw[hoff]
     have e1:dn w ⟨b,g.off l+(lo+i)*el.sz+c,none⟩=vs.getD (g.off l+(lo+i)*el.sz+c) Go.undef:=by
      simp only[dn,hrow.cell (hidx i c h1 h2),bF]
     rw[e1];exact HA (fun u=>ih i h1) (h i h1).view (CA (lo+i) ae) (fun k=>vs.getD (g.off l+(lo+i)*el.sz+k) Go.undef) (fun k hk=>hc (lo+i) k ae hk) c h2
 | agg cs ds hl h ih =>
   intro v hr;cases hr with
   | agg _ vs hl' hs hh =>
     refine .agg ds vs ae ?_ (fun i h1=>ih i ae (hh i ae));rw[bt]at hs |-;intro x hx;obtain⟨i,hi',rfl⟩:=bY hx;have h1:=(h i ae).view.scalar;rw[aj,aj,aJ hi',aJ (by omega:i<cs.length)]at h1;rw[bF,bF]at h1;rw[h1];exact hs _ (c9 _)
 | bg cs ds hl h ih =>
   intro v hr;cases hr with
   | bg _ vs hl' hh=>exact .bg ds vs ae (fun i h1=>ih i ae (hh i ae))
def mD.adX{f:FuncId}{args args':List AV}{r:AV}{σ : ai}(h:cV P f args' [] fun o σ'=> ∃ r0,o = .ret r0/\mM σ' r0 r)(hv:bR σ args args'): mD P f args σ r:=by
 refine⟨h.1,fun g w vs hR hlen hvs=>?_⟩
 let I:Nat->Prop:=fun b=>g.eS b\/kD σ g b
 have hlt:∀ b,I b->b<w.heap.size:=fun b hb=>by
  rcases hb with hb|hb
  ·exact hR.lt b hb
  exact hR.rU hb
 refine(h.2 (aC.bare I) w vs (Rel.bare hlt ⟨fun b hb=> .inl (hR.glob.1 b hb),hR.glob.2⟩) (hv.1 ▸ hlen) (fun i hi=>?_)).mono ?_
 ·exact(hv.2 i (hv.1 ▸ hi)).vr (g':=aC.bare I) hR (fun b hb=> .inl hb) (fun b hb=> .inr hb) (hvs i (hv.1 ▸ hi))
 rintro e w' ⟨out,g',σ',kE,hE,hO,r0,rfl,I3⟩;have hfr:∀ b,b<w.heap.size->w'.heap[b]? = w.heap[b]?:=fun b hb=>hE.frame b hb iG;obtain⟨h1,h2⟩:=hR.pQ hE.size hE.os hE.tape hE.output hfr;refine⟨.ret r,_,σ,h1,h2,?_,rfl,rfl⟩;cases e with
 | returned v =>
   have hnew:∀ b,kD σ' g' b->(g.pQ w.heap.size w'.heap.size).eS b:=fun b hb=>by
    refine Or.inr ⟨?_,kE.rU hb⟩;by_cases hlt:b<w.heap.size
    ·exact absurd (hE.Di b hlt hb) iG
    omega
   exact mM.vr kE hnew I3 hO
 | panicked c=>exact hO.elim
 | outgrown=>exact hO.elim
def View.ak5{a b:AV}(h:View [] a b): a.dU=true:=by
 induction h with
 | refl a h=>exact h
 | aP=>rfl
 | weak f el xs h=>exact h
 | aH f el xs ys hl h ih =>
   refine pP.2 fun x hx=>?_;obtain⟨i,hi,rfl⟩:=bY hx;have:=ih i hi;rwa[aj,aJ hi,bF]at this
 | own T el l lo n xs ys hl=>simp at hl
 | agg cs ds hl h ih =>
   refine pP.2 fun x hx=>?_;obtain⟨i,hi,rfl⟩:=bY hx;have:=ih i hi;rwa[aj,aJ hi,bF]at this
 | bg cs ds hl h ih =>
   refine pP.2 fun x hx=>?_;obtain⟨i,hi,rfl⟩:=bY hx;have:=ih i hi;rwa[aj,aJ hi,bF]at this
 | cell l v hl=>simp at hl
 | cells l n cs hl=>simp at hl
 | Af l n cs ds hl=>simp at hl
 | lf a l o hl=>simp at hl
 | fn f az bs cs ds hl h hl' h' ih Dh =>
   simp only[AV.dU,aD];refine⟨pP.2 fun x hx=>?_,pP.2 fun x hx=>?_⟩
   ·obtain⟨i,hi,rfl⟩:=bY hx;have:=ih i hi;rwa[aj,aJ hi,bF]at this
   obtain⟨i,hi,rfl⟩:=bY hx;have:=Dh i hi;rwa[aj,aJ hi,bF]at this
def View.Wx{g:aC}{w:World}{a b:AV}(h:View [] a b){v:Value}(hv:VR g w a v): VR (aC.bare g.eS) w a v:=VR.dU (g:=g) (g':=aC.bare g.eS) (fun _ hb=>⟨hb,rfl⟩) hv h.ak5
def aA.weak{f:FuncId}{args args':List AV}{r:AV}(h:aA P f args' r)(hv:bR [] args args'): aA P f args r:=by
 intro σ;refine⟨(h []).1,fun g w vs hR hlen hvs=>?_⟩;refine((h σ).2 g w vs hR (hv.1 ▸ hlen) (fun i hi=>?_));refine View.vr (σ:=[]) (g:=aC.bare g.eS) (g':=g) (Rel.bare hR.lt ⟨hR.glob.1,hR.glob.2⟩) (fun b hb=>hb) (fun b hb=>absurd hb iG) (hv.2 i (hv.1 ▸ hi)) ?_;exact View.Wx (hv.2 i (hv.1 ▸ hi)) (hvs i (hv.1 ▸ hi))
end Go.AM
namespace Go.AM
variable {P:Program}
def cY(P:Program)(f:FuncId)(off:Nat)(args:List AV)(cs ds:List AV)(r:AV): Prop :=
 ∀(σ : ai) (k:Nat),σ[k]? = some (.cells cs)->cV P f (.ref k off::args) σ fun o σ'=>o = .ret r/\σ' = σ.set k (.cells ds)
def yH{σ : ai}{k:Nat}{o o':bG}(h : σ[k]? = some o): (σ.set k o')[k]? = some o':=by
 have:=(aK.1 h).1;simp[this]
def cY.Wy {f : FuncId} {off : Nat} {A : Nat -> List AV} {cs ds : List AV} {r : AV} (hl : ∀ k, (A k).length = (A 0).length)
    (h:cV P f (.ref 0 off::A 0) [.cells cs] fun o σ'=> ∃ r0 pg H,o = .ret r0/\σ' = .cells pg::H/\View (.dead::H) r0 r/\bR (.dead::H) pg ds)
    (hA:∀ (g g0:aC) (w:World) (k:Nat),(∀ c,g.eS c->g0.eS c/\w.heap[c]? = w.heap[c]?)->(∀ o v,VR g w (.ref k o) v->VR g0 w (.ref 0 o) v)-> ∀ i v,VR g w ((A k).getD i .undef) v->VR g0 w ((A 0).getD i .undef) v) (hc:AV.cK cs=true) :
    ∀(σ : ai) (k:Nat),σ[k]? = some (.cells cs)->cV P f (.ref k off::A k) σ fun o σ'=>o = .ret r/\σ' = σ.set k (.cells ds):=by
 intro σ k hk;refine⟨h.1,fun g w vs hR hlen hv=>?_⟩;have hkn:k<g.n:=by rw[<-hR.len];exact(aK.1 hk).1
 have jg:Live σ k:=⟨_,hk,rfl⟩;obtain⟨TM,hsc,b,us,hb,hrow,vG,hcell,_⟩:=hR.ok k _ hk
 let g0:aC:=⟨g.eS,1,fun _=>1,fun _=>some b,fun _=>g.cap k,fun _=>g.off k⟩
 have TN:b<w.heap.size:=hrow.lt;have FB:¬ g.eS b:=hR.qy k b jg hb;have hpi:∀ c,g.eS c->g0.eS c/\w.heap[c]? = w.heap[c]?:=fun c hc=>⟨hc,rfl⟩
 have hR0:Rel g0 w [.cells cs]:=by
  refine⟨rfl,hR.lt,fun l o ho=>?_,fun l l' c hl hl' _ _=>?_,fun l c hl hc=>?_,⟨hR.glob.1,hR.glob.2⟩⟩
  ·cases l with
   | zero =>
     simp at ho;subst ho;exact⟨rfl,hsc,b,us,rfl,hrow,vG,fun i hi=>(hcell i hi).dU hpi (jM hc i),trivial⟩
   | succ l=>simp at ho
  ·have h1:=hl.lt;have h2:=hl'.lt;simp at h1 h2;omega
  have:c=b:=by simpa[g0]using hc.symm
  subst this;exact FB
 have Y2:∀ c,kD [.cells cs] g0 c↔c=b:=fun c=>by
  constructor
  ·rintro⟨l,_,hc⟩;simpa[g0]using hc.symm
  rintro rfl;exact⟨0,⟨_,rfl,rfl⟩,rfl⟩
 have TY:∀ o v,VR g w (.ref k o) v->VR g0 w (.ref 0 o) v:=fun o v this=>by
  cases this with
  | ref _ _ _ hh =>
    obtain⟨_,A,e,h2⟩:=hh;refine .ref _ _ _ ⟨⟨Nat.zero_lt_one,aV _⟩,A,e,fun _=>?_⟩;have:=h2 TM;rw[hb]at this;exact this
 have mz:∀ i,i<(AV.ref 0 off::A 0).length->VR g0 w ((AV.ref 0 off::A 0).getD i .undef) (vs.getD i Go.undef):=fun i hi=>by
  have:=hv i (by simpa[hl k]using hi);cases i with
  | zero =>
    simp only[cC]at this |-;exact TY _ _ this
  | succ i =>
    simp only[gu]at this |-;exact hA g g0 w k hpi TY i _ this
 refine(h.2 g0 w vs hR0 (by simpa[hl k]using hlen) mz).mono ?_;rintro e w' ⟨out,g',σ',kE,hE,hO,r0,pg,H,rfl,rfl,I3,OG⟩;have hfr:∀ c,c<w.heap.size->c≠b->w'.heap[c]? = w.heap[c]?:=fun c hc hne=>hE.frame c hc (fun t=>hne ((Y2 c).1 t));obtain⟨aiH,YE,b',us',hb',aiI,aod,adY,_⟩:=kE.ok 0 _ rfl
 have oH:b'=b:=by
  have:=(hE.mono.ver 0 (by show 0<1;omega)).2 aiH;rw[hb']at this;simpa[g0]using this.1
 subst oH
 let g2:aC:= { g with eS:=fun c=>g.eS c\/(w.heap.size<=c/\c<w'.heap.size) }
 have aiJ:∀ c,g'.eS c->g2.eS c:=fun c hc=>by
  by_cases hlt:c<w.heap.size
  ·rcases hE.uD c hlt hc with h3|h3
   ·exact .inl h3
   exfalso;have:=(Y2 c).1 h3;subst this;exact kE.qy 0 c ⟨_,rfl,rfl⟩ hb' hc
  exact .inr ⟨ae,kE.lt c hc⟩
 have hm:jQ g w g2 w':=⟨fun c hc=>⟨.inl hc,hfr c (hR.lt c hc) (fun e=>FB (e ▸ hc))⟩,aV _,fun _ _=>⟨aV _,fun _=>⟨rfl,rfl,rfl⟩⟩⟩
 have anT:¬ g2.eS b':=fun hh=>by
  rcases hh with hh|hh
  ·exact FB hh
  omega
 have Wz:∀ {x y:AV},View (.dead::H) x y-> ∀ {v:Value},VR g' w' x v->VR g2 w' y v:=fun {x y} ak6 {v} hxv=>by
  have hRd:Rel g' w' (.dead::H):=by
   have hlen:=kE.len;refine⟨by simpa using hlen,kE.lt,fun l o ho=>?_,fun l l' c hl hl'=>?_,fun l c hl=>?_,kE.glob⟩
   ·cases l with
    | zero=>simp at ho;subst ho;trivial
    | succ l=>exact kE.ok (l+1) o (by simpa using ho)
   ·have lift : ∀ l, Live (.dead :: H) l -> Live (.cells pg :: H) l := fun l hl => by
     obtain⟨o,ho,hv⟩:=hl;cases l with
     | zero=>simp at ho;subst ho;cases hv
     | succ l=>exact⟨o,by simpa using ho,hv⟩
    exact kE.inj l l' c (lift l hl) (lift l' hl')
   obtain⟨o,ho,hv⟩:=hl;cases l with
   | zero=>simp at ho;subst ho;cases hv
   | succ l=>exact kE.qy (l+1) c ⟨o,by simpa using ho,hv⟩
  refine ak6.vr hRd aiJ (fun c hc=>?_) hxv;obtain⟨l,⟨o,ho,hv⟩,hc⟩:=hc;cases l with
  | zero=>simp at ho;subst ho;cases hv
  | succ l =>
    have hl1:Live (.cells pg::H) (l+1):=⟨o,by simpa using ho,hv⟩;refine .inr ⟨?_,kE.kK hl1 hc⟩;apply iw;intro hlt;have:=(Y2 c).1 (hE.Di c hlt ⟨_,hl1,hc⟩);subst this;have:=kE.inj (l+1) 0 c hl1 ⟨_,rfl,rfl⟩ hc hb';omega
 have hds:pg.length=ds.length:=OG.1
 have hR2:Rel g2 w' (σ.set k (.cells ds)):=by
  refine⟨by simp[g2,hR.len],fun c hc=>?_,fun l o ho=>?_,fun l l' c hl hl'=>?_,fun l c hl hc hi=>?_,hR.glob.mono hm.eS⟩
  ·rcases hc with hc|hc
   ·exact bU (hR.lt c hc) hE.size
   exact hc.2
  ·by_cases hlk:l=k
   ·subst hlk;rw[yH hk]at ho;cases ho;refine⟨TM,?_,b',us',hb,aiI,ae,fun i hi=>Wz (OG.2 i ae) (adY i ae),trivial⟩;rw[bt]at YE |-;intro x hx;obtain⟨i,hi,rfl⟩:=bY hx;have h1:=(OG.2 i ae).scalar;rw[aj,aj,aJ hi,aJ (by omega:i<pg.length)]at h1;rw[bF,bF]at h1;rw[h1];exact YE _ (c9 _)
   rw[aI (Ne.symm hlk)]at ho;have hl:l<g.n:=by rw[<-hR.len];exact(aK.1 ho).1
   by_cases hvv:o.live=true
   ·exact(hR.ok l o ho).step hm hl rfl (fun c hc=>hfr c (hR.kK ⟨o,ho,hvv⟩ hc) (fun e=>hlk (hR.inj l k c ⟨o,ho,hvv⟩ jg hc (e ▸ hb))))
   ·cases o<;>simp[bG.live]at hvv;trivial
  ·have lift : ∀ l, Live (σ.set k (.cells ds)) l -> Live σ l := fun l hl => by
    rcases kL hl with⟨rfl,_,_⟩|⟨_,hl⟩
    ·exact jg
    exact hl
   exact hR.inj l l' c (lift l hl) (lift l' hl')
  have hl':Live σ l:=by
   rcases kL hl with⟨rfl,_,_⟩|⟨_,hl⟩
   ·exact jg
   exact hl
  rcases hi with hi|hi
  ·exact hR.qy l c hl' hc hi
  have:=hR.kK hl' hc;omega
 refine⟨.ret r,g2,_,hR2,⟨hm,hE.size,hE.os,hE.tape,hE.output,fun c hc ht=>?_,fun c hc hi=>?_,fun c hc ht=>?_⟩,?_,rfl,rfl⟩
 ·exact hfr c hc (fun e=>ht ⟨k,jg,e ▸ hb⟩)
 ·rcases hi with hi|hi
  ·exact .inl hi
  omega
 ·obtain⟨l,hl,hc2⟩:=ht;rcases kL hl with⟨rfl,_,_⟩|⟨_,hl⟩
  ·exact⟨_,jg,hc2⟩
  exact⟨l,hl,hc2⟩
 ·cases e with
  | returned v=>exact Wz I3 hO
  | panicked c=>exact hO.elim
  | outgrown=>exact hO.elim
def cY.gx {f : FuncId} {off : Nat} {args cs ds : List AV} {r : AV}
    (h:cV P f (.ref 0 off::args) [.cells cs] fun o σ'=> ∃ r0 pg H,o = .ret r0/\σ' = .cells pg::H/\View (.dead::H) r0 r/\bR (.dead::H) pg ds) (hp:AV.cK args=true) (hc:AV.cK cs=true) :
    cY P f off args cs ds r:=cY.Wy (A:=fun _=>args) (fun _=>rfl) h (fun _ _ _ _ hpi _ i _ hv=>hv.dU hpi (jM hp i)) hc
def OH(P:Program)(f:FuncId)(cs ds:List AV)(r:AV)(F:FuncId): Prop :=
 ∀(σ : ai) (k:Nat),σ[k]? = some (.cells cs)->cV P f [.ref k 0,.fn (.func F) [.ref k 0] []] σ fun o σ'=>o = .ret r/\σ' = σ.set k (.cells ds)
def OH.gx {f F : FuncId} {cs ds : List AV} {r : AV}
    (h:cV P f [.ref 0 0,.fn (.func F) [.ref 0 0] []] [.cells cs] fun o σ'=> ∃ r0 pg H,o = .ret r0/\σ' = .cells pg::H/\View (.dead::H) r0 r/\bR (.dead::H) pg ds) (hc:AV.cK cs=true):OH P f cs ds r F:=by
 refine cY.Wy (A:=fun k=>[.fn (.func F) [.ref k 0] []]) (fun _=>rfl) h (fun g g0 w k hpi TY i v hv=>?_) hc;cases i with
 | succ i=>exact hv.dU hpi rfl
 | zero =>
   cases hv with
   | fn f' first cap first' cap' hl hl' h1 h2 =>
     refine .fn _ _ _ _ _ hl hl' (fun i hi=>?_) (fun i hi=>absurd hi (cJ _));cases i with
     | zero=>exact TY _ _ (h1 0 (Nat.zero_lt_one))
     | succ i=>simp at hi
section
variable {n:FuncId} {args:List AV} {σ : ai} {K Kp:AV->ai->Prop} {r:AV}
def Ag(h:aA P n args r)(hk:lQ r (.mk:Tg fun r=>K r σ)): wo P n args σ (.mk:Tg (K,Kp)):=Sb h hk
def Ah(h:aA P n args r)(hk:lQ r (.mk:Tg fun r=>K r σ)): q9 P n args σ (.mk:Tg (K,Kp)):=Sc h hk
def abN{args':List AV}(h:aA P n args' r)(hv:bR [] args args')(hk:lQ r (.mk:Tg fun r=>K r σ)): wo P n args σ (.mk:Tg (K,Kp)):=Sb (aA.weak h hv) hk
def abO{args':List AV}(h:aA P n args' r)(hv:bR [] args args')(hk:lQ r (.mk:Tg fun r=>K r σ)): q9 P n args σ (.mk:Tg (K,Kp)):=Sc (aA.weak h hv) hk
def wN{args':List AV}(h:aA P n args' r)(hv:bR σ args args')(hr:r.flat=true)(hk:lQ r (.mk:Tg fun r=>K r σ)): wo P n args σ (.mk:Tg (K,Kp)) :=
 (aA.view h hv hr).mono fun o s ⟨h1,h2⟩=>by subst h1;subst h2;exact hk
def abP{args':List AV}(h:aA P n args' r)(hv:bR σ args args')(hr:r.flat=true)(hk:lQ r (.mk:Tg fun r=>K r σ)): q9 P n args σ (.mk:Tg (K,Kp)) :=
 ⟨r, fun H => aA.view h ⟨hv.1, fun i hi => (hv.2 i hi).mono (fun l o hl => by
   rw[aO (aK.1 hl).1];exact hl)⟩ hr,hk⟩
def ak7 {k : Nat} {F : FuncId} {cs ds : List AV} (h : OH P n cs ds r F) (xh : σ[k]? = some (.cells cs)) (hk : lQ r (.mk : Tg fun r => Bw (σ.set k (.cells ds)) (.mk : Tg fun σ => K r σ))) :
    wo P n [.ref k 0,.fn (.func F) [.ref k 0] []] σ (.mk:Tg (K,Kp)) :=
 (h σ k xh).mono fun o s ⟨h1,h2⟩=>by subst h1;subst h2;exact hk
def Kk {k off : Nat} {cs ds : List AV} (h : cY P n off args cs ds r) (xh : σ[k]? = some (.cells cs)) (hk : lQ r (.mk : Tg fun r => Bw (σ.set k (.cells ds)) (.mk : Tg fun σ => K r σ))) :
    wo P n (.ref k off::args) σ (.mk:Tg (K,Kp)) :=
 (h σ k xh).mono fun o s ⟨h1,h2⟩=>by subst h1;subst h2;exact hk
def BG(P:Program)(f:FuncId)(args:List AV)(o:Out): Prop:= ∀ s,cV P f args s fun o' s'=>o'=o/\s'=s
def BG.ret{f:FuncId}{args:List AV}{r:AV}(h:aA P f args r): BG P f args (.ret r):=h
def BG.weak{f:FuncId}{args args':List AV}{o:Out}(h:BG P f args' o)(hv:bR [] args args'): BG P f args o:=by
 intro σ;refine⟨(h []).1,fun g w vs hR hlen hvs=>?_⟩;refine((h σ).2 g w vs hR (hv.1 ▸ hlen) (fun i hi=>?_));refine View.vr (σ:=[]) (g:=aC.bare g.eS) (g':=g) (Rel.bare hR.lt ⟨hR.glob.1,hR.glob.2⟩) (fun b hb=>hb) (fun b hb=>absurd hb iG) (hv.2 i (hv.1 ▸ hi)) ?_;exact View.Wx (hv.2 i (hv.1 ▸ hi)) (hvs i (hv.1 ▸ hi))
end
def BG.of_nil{f:FuncId}{args:List AV}{v:AV}(h:cV P f args [] fun o _=>o = .panic v)(hp:AV.cK args=true)(hv:v.flat=true): BG P f args (.panic v):=by
 intro σ;refine⟨h.1,fun g w vs hR hlen hvs=>?_⟩;refine(h.2 (aC.bare g.eS) w vs (Rel.bare hR.lt ⟨hR.glob.1,hR.glob.2⟩) hlen (fun i hi=>VR.dU (g:=g) (g':=aC.bare g.eS) (fun b hb=>⟨hb,rfl⟩) (hvs i hi) (jM hp i))).mono ?_;rintro e w' ⟨out,g',σ',kE,hE,hO,rfl⟩;have hfr:∀ b,b<w.heap.size->w'.heap[b]? = w.heap[b]?:=fun b hb=>hE.frame b hb iG;obtain⟨h1,h2⟩:=hR.pQ hE.size hE.os hE.tape hE.output hfr;refine⟨.panic v,_,σ,h1,h2,?_,rfl,rfl⟩;cases e with
 | returned v=>exact hO.elim
 | panicked c=>obtain⟨v',hc,hr⟩:=hO;exact⟨v',hc,VR.flat hr hv⟩
 | outgrown=>exact hO.elim
