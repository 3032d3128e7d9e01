/- Part. -/
import Derived.Test.YtmbgnaoilncbnaaGreatDoorX08
import Derived.Scope
set_option linter.all false
namespace Go.AM
def Hl: aI->Option Nat
 | .seq a b => match Hl a with
   | some l=>some l
   | none=>Hl b
 | .label l=>some l
 | _=>none
def mN: aI->Nat->Option aI
 | .seq a b, l => match mN a l with
   | some r=>some (.seq r b)
   | none=>mN b l
 | .label l',l=>if l'==l then some .skip else none
 | _,_=>none
section
variable (P:Program)
def holds(nt:Nat)(gs:List c_): List c_ :=
 (List.range (gs.foldl (fun m g => match g.op with
   | .kY k _ _=>Nat.max m (k+1-nt)
   | .qv k _ _ _ _=>Nat.max m (k+1-nt)
   | _=>m) 0)).map fun i=>⟨.hold,some (nt+i),none⟩
def M4 {P : Program} {Q : AQ} {nt : Nat} {B : Nat} {w : World} {tmps : Array Value} {ds : List Deferred} {gs : List c_} : ∀ (l : List Nat) (g : aO) (σ : aj) (e : Env), fc P Q ((l.map fun i => (⟨.hold, some (nt + i), none⟩ : c_)) ++ gs) e σ -> Rel g w σ -> gj nt g w e tmps -> j_ B σ g w ds ->
    ∃ g' σ' e',fc P Q gs e' σ'/\Rel g' w σ'/\gj nt g' w e' tmps/\j_ B σ' g' w ds/\gN σ g w σ' g' w
 | [],g,σ,e,h,hR,hE,hd=>⟨g,σ,e,h,hR,hE,hd,.refl _ _ _⟩
 | i :: l, g, σ, e, h, hR, hE, hd => by
   rw[bu,fx]at h;have h:fc P Q ((l.map fun i=>(⟨.hold,some (nt+i),none⟩:c_))++gs) (fC e (some (nt+i)) (.ref σ.length 0)) (σ++[.lM]):=h;obtain⟨r1,r2⟩:=hR.hold
   have YK:gj nt (g.push 0 none 0) w (fC e (some (nt+i)) (.ref σ.length 0)) tmps:=by
    refine⟨hE.size,fun t ht=>?_⟩;have hne:t≠nt+i:=by omega
    simp only[fC,if_neg hne];exact(hE.mono r2.mono).rel t ht
   obtain⟨g',σ',e',h1,h2,h3,h4,h5⟩:=M4 l _ _ _ h r1 YK (hd.step r2);exact⟨g',σ',e',h1,h2,h3,h4,r2.trans h5⟩
def cg(nt:Nat)(h:Hints)(rd:Bool): Code->Option aI
 | .skip=>some .skip
 | .region _ ops false=>(mM P nt h false ops ops.toList).map .region
 | .region _ ops true => match mM P nt h true ops ops.toList with
   | some gs=>if Vs ops gs && P.follows .mixedOrders then some (.draw (holds nt gs++gs) (RG ops gs))else none
   | none=>none
 | .seq a b => match cg nt h rd a, cg nt h rd b with
   | some x,some y=>some (.seq x y)
   | _,_=>none
 | .cond c a b => match cX nt c, cg nt h rd a, cg nt h rd b with
   | some z,some x,some y=>some (.cond z x y)
   | _,_,_=>none
 | .block id c=>(cg nt h rd c).map (.block id)
 | .loop c=>(cg nt h rd c).map .loop
 | .exit id=>some (.exit id)
 | .ret=>some .ret
 | .scope c => match cg nt h rd c with
   | some x => match Hl x with
     | some l => match mN x l with
       | some r=>some (.scope l x r)
       | none=>none
     | none=>none
   | none=>none
 | .label l=>some (.label l)
 | .goto l=>some (.goto l)
 | .rangeFunc f ps ca cb => if rd then none else match cX nt f, cg nt h true ca, cg nt h true cb with
   | some z,some x,some y=>some (.jG z nt ps.toList x y)
   | _,_,_=>none
 | .refuse _=>some .stop
end
def Kc(ro:Option Nat)(P:Program)(m:Machine): m.fenced P (WF ro):=fenced_wide P m
section
variable {P:Program}
def QR.step{nt:Nat}{B:Nat}{g g':aO}{w w':World}{σ σ':aj}{Q:AQ}(hev:gN σ g w σ' g' w'){ex:Exit}{a:Act}{w2:World}(h:QR nt B g' w' σ' Q ex a w2): QR nt B g w σ Q ex a w2:=by
 obtain⟨g2,e2,σ2,h1,h2,h3,h4,h5⟩:=h;exact⟨g2,e2,σ2,h1,h2,h3,hev.trans h4,h5⟩
def Sound(P:Program)(nt:Nat)(h:Hints)(c:Code): Prop :=
 ∀ (ro : Option Nat) (wn B : Nat) (ac : aI) (Q : AQ) (g : aO) (w : World) (σ : aj) (e : Env) (a : Act),
   cg P nt h ro.isSome c=some ac->iH P ac Q e σ->Rel g w σ->gj nt g w e a.tmps->j_ B σ g w a.defers->B<=w.heap.size->c.wpIn (WF ro) wn P (QR nt B g w σ Q) a w
def Vt{nt:Nat}{h:Hints}{rd:Bool}{l:Nat}: ∀(c:Code) (ac ar:aI),cg P nt h rd c=some ac->mN ac l=some ar-> ∃ rest,findLabel c l=some rest/\cg P nt h rd rest=some ar:=by
 intro c
 induction c with
 | seq x y En CI =>
   intro ac ar hc hf;simp only[cg]at hc;split at hc
   ·rename_i ax ay h1 h2;cases hc;simp only[mN]at hf;split at hf
    ·rename_i r hr;cases hf;obtain⟨rest,r1,r2⟩:=En ax r h1 hr;exact⟨.seq rest y,by simp[findLabel,r1],by simp[cg,r2,h2]⟩
    ·rename_i hr;obtain⟨rest,r1,r2⟩:=CI ay ar h2 hf;refine⟨rest,?_,r2⟩
     have:findLabel x l=none:=by
      have key:∀ (c:Code) (ac:aI),cg P nt h rd c=some ac->mN ac l=none->findLabel c l=none:=by
       intro c
       induction c with
       | seq x y En CI =>
         intro ac hc hf;simp only[cg]at hc;split at hc
         ·rename_i ax ay h1 h2;cases hc;simp only[mN]at hf;split at hf
          ·cases hf
          ·rename_i hr;simp[findLabel,En ax h1 hr,CI ay h2 hf]
         ·cases hc
       | label l' =>
         intro ac hc hf;cases hc;simp only[mN]at hf;simp only[findLabel];split at hf
         ·cases hf
         ·rename_i hh;rw[if_neg hh]
       | _=>intros;rfl
      exact key x ax h1 hr
     simp[findLabel,this,r1]
   ·cases hc
 | label l' =>
   intro ac ar hc hf;cases hc;simp only[mN]at hf;split at hf
   ·rename_i hh;cases hf;exact⟨.skip,by simp only[findLabel];rw[if_pos hh],rfl⟩
   ·cases hf
 | region id ops d =>
   intro ac ar hc hf;cases d<;>simp only[cg]at hc
   ·obtain⟨gs,_,rfl⟩:=Option.map_eq_some_iff.1 hc;cases hf
   ·split at hc
    ·split at hc
     ·cases hc;cases hf
     ·cases hc
    ·cases hc
 | cond z x y =>
   intro ac ar hc hf;simp only[cg]at hc;split at hc
   ·cases hc;cases hf
   ·cases hc
 | block id x=>intro ac ar hc hf;simp only[cg]at hc;obtain⟨gs,_,rfl⟩:=Option.map_eq_some_iff.1 hc;cases hf
 | loop x=>intro ac ar hc hf;simp only[cg]at hc;obtain⟨gs,_,rfl⟩:=Option.map_eq_some_iff.1 hc;cases hf
 | scope x =>
   intro ac ar hc hf;simp only[cg]at hc;split at hc
   ·split at hc
    ·split at hc
     ·cases hc;cases hf
     ·cases hc
    ·cases hc
   ·cases hc
 | rangeFunc f ps x y =>
   intro ac ar hc hf;simp only[cg]at hc;split at hc
   ·cases hc
   ·split at hc
    ·cases hc;cases hf
    ·cases hc
 | _=>intro ac ar hc hf;cases hc<;>cases hf
def PE{nt:Nat}{h:Hints}: Sound P nt h .skip:=fun ro wn B ac Q g w σ e a hc hw hR hE hd hB=>by
 cases hc;exact wpIn_skip ⟨g,e,σ,hd,hR,hE,.refl _ _ _,hw⟩
def S8 {nt : Nat} {h : Hints} {x y : Code} (En : Sound P nt h x) (CI : Sound P nt h y) : Sound P nt h (.seq x y) := by
    intro ro wn B ac Q g w σ e a hc hw hR hE hd hB;simp only[cg]at hc;split at hc
    ·rename_i ax ay h1 h2;cases hc;refine wpIn_seq (wpIn_mono (En ro wn B ax _ g w σ e a h1 hw hR hE hd hB) ?_);rintro ex a' w' ⟨g',e',σ',r1,r2,r3,r4,r5⟩;cases ex with
     | normal =>
       refine wpIn_mono (CI ro wn B ay Q g' w' σ' e' a' h2 r5 r2 r3 r1 (cD hB r4.size)) fun ex a2 w2 hq=>hq.step r4
     | exit id=>exact⟨g',e',σ',r1,r2,r3,r4,r5⟩
     | goto l=>exact⟨g',e',σ',r1,r2,r3,r4,r5⟩
     | ret=>exact⟨g',e',σ',r1,r2,r3,r4,r5⟩
     | panic ch=>exact⟨g',e',σ',r1,r2,r3,r4,r5⟩
     | outgrown=>exact r5.elim
    ·cases hc
def rJ{b:Frame}{a:Act}{k:List Item}{cs:List Frame}{w:World}{c:Code}: Go.step P (lone (b.atR a (.code (.scope c)::k)) cs w) = .next (lone (b.atR a (.code c:: .inScope c::k)) cs w) :=
 step_lone_go (by simp[stepG,stepG.exec,Frame.atR])
def IG{b:Frame}{a:Act}{k:List Item}{cs:List Frame}{w:World}{c:Code}: Go.step P (lone (b.atR a (.inScope c::k)) cs w) = .next (lone (b.atR a k) cs w) :=
 step_lone_go (by simp[stepG,stepG.exec,Frame.atR])
def M5 {nt : Nat} {g : aO} {w : World} : ∀ (ps : List Nat) (args : List AV) (vs : List Value) (e : Env) (tmps : Array Value), gj nt g w e tmps -> args.length = vs.length -> (∀ i, i < args.length -> VR g w (args.getD i .undef) (vs.getD i Go.undef)) ->
    gj nt g w (rI ps args e) ((ps.zip vs).foldl (fun t (p,v)=>t.setIfInBounds p v) tmps)
 | [],args,vs,e,tmps,hE,_,_=>by cases args<;>exact hE
 | p :: ps, [], vs, e, tmps, hE, hl, _ => by
   cases vs with
   | nil=>exact hE
   | cons=>cases hl
 | p :: ps, a :: args, vs, e, tmps, hE, hl, hv => by
   cases vs with
   | nil=>cases hl
   | cons v vs =>
     simp only[rI,List.zip_cons_cons,List.foldl_cons];refine M5 ps args vs _ _ ?_ (by simpa using hl) (fun i hi=>by simpa using hv (i+1) (by simpa using hi));have h0:=hv 0 (by simp);have:=gj.put (a:= { tmps:=tmps,defers:=[] }) hE (some p) (v:=v) (x:=a) (by simpa using h0);simpa[Act.put]using this
def CJ {nt : Nat} {e : Env} {ps : Array Tmp} {ca cb : Code} {g : aO} {w : World} {σ : aj} {l : Nat} {st : LoopState} {pe : Option Code} (hR : Rel g w σ) (ho : σ[l]? = some (.loop nt e ps ca cb st pe)) :
    g.di l=0/\ ∃ b rec,g.base l=some b/\w.heap[b]? = some (.loop rec)/\rec.params=ps/\rec.assign=ca/\rec.body=cb/\rec.state=st/\rec.pending=pe /\
     gj nt g w e rec.tmps:=by
 obtain⟨h1,b,rec,h2,h3,h4,h5,h6,h7,h8,h9,h10⟩:=hR.ok l _ ho;exact⟨h1,b,rec,h2,h3,h4,h5,h6,h7,h8,⟨h9,h10⟩⟩
def Vu {nt : Nat} {e : Env} {ps : Array Tmp} {ca cb : Code} {g : aO} {w : World} {σ : aj} {l : Nat} {st : LoopState} {pe : Option Code} (hR : Rel g w σ) (ho : σ[l]? = some (.loop nt e ps ca cb st pe))
    {b:Nat} {rec:Loop} (hb:g.base l=some b) (hw:w.heap[b]? = some (.loop rec)) (st':LoopState) (pe':Option Code) :
    Rel g (w.putObj b (.loop { rec with state:=st',pending:=pe' })) (σ.set l (.loop nt e ps ca cb st' pe')) /\
    gN σ g w (σ.set l (.loop nt e ps ca cb st' pe')) g (w.putObj b (.loop { rec with state:=st',pending:=pe' })):=by
 obtain⟨h1,b',rec',h2,h3,h4,h5,h6,h7,h8,h9⟩:=CJ hR ho;rw[hb]at h2;cases h2;rw[hw]at h3;cases h3;exact hR.update ho rfl hb (by simp) rfl rfl rfl (fun c hc=>World.putObj_heap_other hc) (fun hm=>⟨h1,b,_,hb,World.putObj_heap_same (dR.1 hw).1,h4,h5,h6,rfl,rfl,h9.size,fun t ht=>(h9.rel t ht).mono hm⟩)
def abr {nt : Nat} {e : Env} {ps : Array Tmp} {ca cb : Code} {g : aO} {w : World} {σ : aj} {l : Nat} {st : LoopState} {pe : Option Code} (hR : Rel g w σ) (ho : σ[l]? = some (.loop nt e ps ca cb st pe))
    {b:Nat} (o:Obj) (hb:g.base l=some b) :
    Rel g (w.putObj b o) (σ.set l .dead)/\gN σ g w (σ.set l .dead) g (w.putObj b o) :=
 hR.update ho rfl hb (by simp) rfl rfl rfl (fun c hc=>World.putObj_heap_other hc) (fun _=>trivial)
def Xt {nt : Nat} {h : Hints} {ca cb : Code} (Vv : Sound P nt h ca) (Vw : Sound P nt h cb) {aa ab : aI} (ha : cg P nt h true ca = some aa) (hb : cg P nt h true cb = some ab) {ps : List Nat} {e : Env} {l : Nat}
    {σ : aj} {args:List AV} {R:Out->aj->Prop} (ho : σ[l]? = some (.loop nt e ps.toArray ca cb .ready none)) (hl:args.length=ps.length)
    (hw:iH P aa (acJ l (.loop nt e ps.toArray ca cb .ready none) (.loop nt e ps.toArray ca cb .busy none) (iH P ab (Vi l (.loop nt e ps.toArray ca cb) R))) (rI ps args e) σ):wW P l args σ R:=by
 refine⟨⟨_,_,_,_,_,_,_,ho⟩,fun g w vs b hR hbase hlen hv=>?_⟩;obtain⟨h1,b',rec,h2,h3,h4,h5,h6,h7,h8,h9⟩:=CJ hR ho;rw[hbase]at h2;cases h2;have hy:=run_yield (P:=P) (args:=vs) h3 (by rw[h4];simp;omega);rw[h4,h5,h6]at hy;refine⟨_,_,_,_,hy,?_⟩
 have hE:gj nt g w (rI ps args e) ((ps.toArray.zip vs).foldl (fun t (p,v)=>t.setIfInBounds p v) rec.tmps):=by
  have:=M5 ps args vs.toList e rec.tmps h9 (by simpa using hlen) (fun i hi=>by have:=hv i hi;simpa using this);rw[<-Array.foldl_toList];simpa using this
 have key:RoundIn (WF none) 0 P b rec.fn ((ps.toArray.zip vs).foldl (fun t (p,v)=>t.setIfInBounds p v) rec.tmps) ca cb w fun en w'=> ∃ out g' σ',Rel g' w' σ'/\gN σ g w σ' g' w'/\Rx g' w' out en/\R out σ':=by
  refine roundIn_of_wpIn trivial ?_;refine wpIn_mono (Vv (some b) 0 0 aa _ g w σ (rI ps args e) { tmps:=_,defers:=[] } ha hw hR hE (j_.nil _ _ _ _) (bP _)) ?_;rintro ex a1 w1 ⟨g1,e1,σ1,d1,R1,E1,V1,q1⟩;cases ex with
  | normal =>
    obtain⟨q1,q2⟩:=q1;obtain⟨k1,b1,CK,k2,k3,k4,k5,k6,k7,k8,k9⟩:=CJ R1 q1
    have Vx:b1=b:=by
     have hlt:l<g.n:=by rw[<-hR.len];exact(aN.1 ho).1
     have:=((V1.mono.di l hlt).2 (k1.trans h1.symm)).1;rw[this,hbase]at k2;cases k2;rfl
    subst Vx;have hbr:=run_beginRound (P:=P) k3 k7;obtain⟨p1,p2⟩:=Vu R1 q1 k2 k3 .busy none;have hpe:({ CK with state:= .busy,pending:=none }:Loop) = { CK with state:= .busy }:=by cases CK;simp only at k8;subst k8;rfl
    rw[hpe]at p1 p2;refine⟨_,hbr,?_⟩
    have q1':(σ1.set l (.loop nt e ps.toArray ca cb .busy none))[l]? = some (.loop nt e ps.toArray ca cb .busy none):=by
     have:=(aN.1 q1).1;simp[this]
    refine wpIn_mono (Vw (some b1) 0 0 ab _ g1 _ _ e1 a1 hb q2 p1 (E1.mono p2.mono) ((d1.step p2)) (bP _)) ?_;rintro ex a2 w2 ⟨g2,e2,σ2,d2,R2,E2,V2,q2⟩
    have fin:∀ jump,σ2[l]? = some (.loop nt e ps.toArray ca cb .busy none)->R (.ret (.bool jump.isNone)) (σ2.set l (.loop nt e ps.toArray ca cb (if jump.isNone then .ready else .done) jump)) ->
     ∃ v w3,(Instr.endRound b1 jump).run P w2 = .ok v w3/\ ∃ out g' σ',Rel g' w3 σ'/\gN σ g w σ' g' w3/\Rx g' w3 out (.returned v)/\R out σ':=fun jump q2 hr=>by
     obtain⟨m1,b2,alv,m2,m3,m4,m5,m6,m7,m8,m9⟩:=CJ R2 q2
     have Vx:b2=b1:=by
      have hlt:l<g1.n:=by rw[<-R1.len];exact(aN.1 q1).1
      have:=((V2.mono.di l hlt).2 (m1.trans k1.symm)).1;rw[this,k2]at m2;cases m2;rfl
     subst Vx;obtain⟨s1,s2⟩:=Vu R2 q2 m2 m3 (if jump.isNone then .ready else .done) jump;exact⟨_,_,run_endRound jump m3,.ret (.bool jump.isNone),g2,_,s1,((V1.trans p2).trans V2).trans s2,.bool _,hr⟩
    cases ex with
    | normal=>exact fin none q2.1 q2.2
    | ret=>exact fin (some .ret) q2.1 q2.2
    | exit i=>exact fin (some (.exit i)) q2.1 q2.2
    | goto i=>exact fin (some (.goto i)) q2.1 q2.2
    | panic ch=>obtain⟨_,_,_,_,hf⟩:=q2;exact hf.elim
    | outgrown=>exact q2.elim
  | exit i=>exact q1.elim
  | goto i=>exact q1.elim
  | ret=>exact q1.elim
  | panic ch=>obtain⟨_,_,_,_,hf⟩:=q1;exact hf.elim
  | outgrown=>exact q1.elim
 exact key
def abt{nt:Nat}{h:Hints}{f:Operand}{ps:Array Tmp}{ca cb:Code}(Vv:Sound P nt h ca)(Vw:Sound P nt h cb): Sound P nt h (.rangeFunc f ps ca cb):=by
 intro ro wn B ac Q g w σ e a hc hw hR hE hd hB;cases ro with
 | some l=>simp[cg]at hc
 | none =>
   simp only[cg,Option.isSome_none,Bool.false_eq_true,if_false]at hc;split at hc
   ·rename_i af aa ab h1 h2 h3;cases hc;have v1:=cL h1 hE;simp only[iH]at hw;generalize AX.ev e af=z at v1 hw;generalize hev:a.eval f=fv at v1;unfold RF at hw;split at hw
    ·rename_i n first cap
     cases v1;rename_i first' cap' hl hh hl' Vb;have hw:=hw (.loop nt e ps.toList.toArray ca cb) (fun st pe=>⟨ca,cb,rfl⟩) (fun σ' args R ho hl ha=>Xt Vv Vw h2 h3 ho hl ha);simp only[eL]at hw;refine wpIn_rangeFunc fun fn _=>?_;obtain⟨R1,V1⟩:=hR.acv (.deferred (some []));have E1:=hE.mono V1.mono
     let CK:Loop:= { state:= .ready,pending:=none,fn,tmps:=a.tmps,params:=ps,assign:=ca,body:=cb,defers:=w.heap.size }
     obtain⟨R2,V2⟩:=R1.yN (.loop CK) (.loop nt e ps ca cb .ready none) 0 0
      ⟨by simp[aO.push],_,CK,by simp[aO.push],World.alloc_heap_new _ _,rfl,rfl,rfl,rfl,rfl,E1.size,fun t ht=>(E1.rel t ht).mono (lW g (w.alloc (.deferred (some []))) (.loop CK) 0 _ 0 R1.lt)⟩
     have V12:=V1.trans V2;have hnew:(g.push 0 (some (w.alloc (.deferred (some []))).heap.size) 0).base σ.length=some (w.heap.size+1):=by simp[aO.push,hR.len]
     have hyv:VR (g.push 0 (some (w.alloc (.deferred (some []))).heap.size) 0) ((w.alloc (.deferred (some []))).alloc (.loop CK)) (.ux σ.length) (.func (.yield (w.heap.size+1)) #[] #[]) :=
      .ux _ _ ⟨by simp[aO.push,hR.len],_,rfl,fun _=>hnew⟩
     obtain⟨c1,c2⟩:=BO hl (fun i hi=>(hh i hi).mono V12.mono) (bs:=[.ux σ.length]) (vs:= #[.func (.yield (w.heap.size+1)) #[] #[]]) rfl (fun i hi=>by
      have:i=0:=by simpa using hi
      subst this;exact hyv)
     obtain⟨c3,c4⟩:=BO c1 c2 hl' (fun i hi=>(Vb i hi).mono V12.mono)
     refine⟨w.heap.size+1,[{ target:= .collected w.heap.size,args:= #[] }],((w.alloc (.deferred (some []))).alloc (.loop CK)),{ target:= .fn (.func n) cap',args:=first'++ #[.func (.yield (w.heap.size+1)) #[] #[]] },((w.alloc (.deferred (some []))).alloc (.loop CK)),n,
      first'++ #[.func (.yield (w.heap.size+1)) #[] #[]]++cap',((w.alloc (.deferred (some []))).alloc (.loop CK)),run_enterLoop_outer fn a.tmps ps ca cb,?_,fun _ _=>trivial,?_,fun hx=>by simp[WF,Fence.wide]at hx,?_⟩
     ·simp only[resolve,rangeCall,Sem.run_bind,hev,Deferred.ofValue,Sem.run_pure,Result.andThen_ok];simp[Act.eval]
     ·simp only[invoke];exact J_ hw.1 _ _
     ·refine RE.2 ((hw.2 _ _ _ R2 c3 c4).mono ?_);rintro en w3 ⟨out,g3,σ3,R3,V3,o3,q3⟩;have V:=V12.trans V3;have E3:gj nt g3 w3 e a.tmps:=hE.mono V.mono
      have hD:∀ {σ4:aj} {g4:aO} {w4:World},gN σ3 g3 w3 σ4 g4 w4->j_ B σ4 g4 w4 ({ target:= .collected w.heap.size,args:= #[] }::a.defers):=fun {σ4 g4 w4} V4=>by
       refine j_.step ?_ V4;have hk0:(w.alloc (.deferred (some []))).heap[w.heap.size]? = some (.deferred (some [])):=World.alloc_heap_new _ _;have hlt:w.heap.size<(w.alloc (.deferred (some []))).heap.size:=by simp
       have hnt:¬ n9 σ g w.heap.size:=fun ht=>absurd (hR.G5 ht) (fO _);have hni:¬ g.gi w.heap.size:=fun hi=>absurd (hR.lt _ hi) (fO _)
       have d0:j_ B σ g (w.alloc (.deferred (some []))) ({ target:= .collected w.heap.size,args:= #[] }::a.defers):=by
        refine⟨List.nodup_cons.2 ⟨fun hm=>?_,hd.nodup⟩,fun d hm=>?_⟩
        ·obtain⟨D,e1,_,e3,_⟩:=hd.mark _ hm;have:=(dR.1 e3).1;cases e1;exact absurd this (Nat.lt_irrefl _)
        ·rcases List.mem_cons.1 hm with rfl|hm
         ·exact⟨_,rfl,hB,hk0,hnt,hni⟩
         ·exact(hd.step V1).mark d hm
       exact(d0.step V2).step V3
      cases out with
      | ret r =>
        cases en with
        | returned v =>
          obtain⟨st,pe,ho,hst,q⟩:=q3;obtain⟨k1,b1,afi,k2,k3,k4,k5,k6,k7,k8,k9⟩:=CJ R3 ho
          have Vx:b1=w.heap.size+1:=by
           have:=((V3.mono.di σ.length (by simp[aO.push,hR.len])).2 (k1.trans (by simp[aO.push,hR.len]))).1;rw[this,hnew]at k2;cases k2;rfl
          subst Vx;obtain⟨s1,s2⟩:=abr R3 ho (.loop { afi with state:= .exhausted }) k2;have hend:=run_endLoop (P:=P) k3 (by rw[k7];exact hst);obtain⟨w4,hw4⟩:∃ w4,w3.putObj (w.heap.size+1) (.loop { afi with state:= .exhausted })=w4:=⟨_,rfl⟩;rw[hw4]at s1 s2 hend;rw[k8]at hend;have E4:=E3.mono s2.mono;refine⟨_,_,hend,?_⟩
          have fin:∀ ex:ad1,Q ex e (σ3.set σ.length .dead)-> ∃ g' e' σ',j_ B σ' g' w4 ({ target:= .collected w.heap.size,args:= #[] }::a.defers)/\Rel g' w4 σ' /\
           gj nt g' w4 e' a.tmps/\gN σ g w σ' g' w4/\Q ex e' σ':=fun ex hq =>
           ⟨g3,e,_,hD s2,s1,E4,V.trans s2,hq⟩
          split at q
          ·obtain⟨g',e',σ',f1,f2,f3,f4,f5⟩:=fin _ q;exact⟨g',e',σ',f1,f2,f3,f4,f5⟩
          ·obtain⟨g',e',σ',f1,f2,f3,f4,f5⟩:=fin _ q;exact wpIn_ret ⟨g',e',σ',f1,f2,f3,f4,f5⟩
          ·obtain⟨g',e',σ',f1,f2,f3,f4,f5⟩:=fin _ q;exact wpIn_exit ⟨g',e',σ',f1,f2,f3,f4,f5⟩
          ·obtain⟨g',e',σ',f1,f2,f3,f4,f5⟩:=fin _ q;exact wpIn_goto ⟨g',e',σ',f1,f2,f3,f4,f5⟩
          ·exact q.elim
        | panicked c=>exact o3.elim
        | outgrown=>exact o3.elim
      | panic r =>
        cases en with
        | returned v=>exact o3.elim
        | panicked c=>obtain⟨v,rfl,o3⟩:=o3;exact⟨g3,e,σ3,hD (.refl _ _ _),R3,E3,V,v,r,rfl,o3,q3⟩
        | outgrown=>exact o3.elim
    ·exact hw.elim
   ·cases hc
def Xu{nt:Nat}{h:Hints}: ∀(c:Code),Sound P nt h c/\ ∀ l rest,findLabel c l=some rest->Sound P nt h rest:=by
 intro c
 induction c with
 | skip=>exact⟨PE,fun _ _ h=>by cases h⟩
 | region id ops draw =>
   refine⟨?_,fun _ _ h=>by cases h⟩;intro ro wn B ac Q g w σ e a hc hw hR hE hd hB;cases draw with
   | true =>
     simp only[cg]at hc;split at hc
     ·rename_i gs h1;split at hc
      ·rename_i hok;simp only[aF]at hok;cases hc;obtain⟨g1,σ1,e1,k1,k2,k3,k4,k5⟩:=M4 _ g σ e hw hR hE hd;exact wpIn_mono (ZR h1 hok.1 hok.2 k1 k2 k3 k4) fun _ _ _ hq=>QR.step k5 hq
      ·cases hc
     ·cases hc
   | false =>
     simp only[cg,aU]at hc;obtain⟨gs,h1,rfl⟩:=hc;refine wpIn_region ?_;have:=abm (ro:=ro) (wn:=wn) (B:=B) (ops:=ops) (Q:=Q) (g0:=g) (w0:=w) (wv:=σ) ops.toList 0 gs g w σ e a h1 (fun j _=>by simp) hw hR hE hd (.refl _ _ _);rw[List.range_eq_range'];simpa using this
 | seq x y En CI =>
   refine⟨S8 En.1 CI.1,fun l rest hf=>?_⟩;simp only[findLabel]at hf;split at hf
   ·rename_i r hr;cases hf;exact S8 (En.2 l r hr) CI.1
   ·exact CI.2 l rest hf
 | cond z x y En CI =>
   refine⟨?_,fun _ _ h=>by cases h⟩
   replace En:=En.1
   replace CI:=CI.1
   intro ro wn B ac Q g w σ e a hc hw hR hE hd hB;simp only[cg]at hc;split at hc
   ·rename_i az ax ay h1 h2 h3;cases hc;have v1:=cL h1 hE;simp only[iH]at hw;generalize AX.ev e az=zv at v1 hw;generalize hev:a.eval z=cv at v1;cases v1<;>simp only at hw;rename_i t;refine wpIn_cond_split hev (fun ht=>?_) (fun ht=>?_)
    ·exact En ro wn B ax Q g w σ e a h2 (hw.1 ht) hR hE hd hB
    ·exact CI ro wn B ay Q g w σ e a h3 (hw.2 ht) hR hE hd hB
   ·cases hc
 | block id x ih =>
   refine⟨?_,fun _ _ h=>by cases h⟩
   replace ih:=ih.1
   intro ro wn B ac Q g w σ e a hc hw hR hE hd hB;simp only[cg,aU]at hc;obtain⟨ax,h1,rfl⟩:=hc;refine wpIn_block (wpIn_mono (ih ro wn B ax _ g w σ e a h1 hw hR hE hd hB) ?_);rintro ex a' w' ⟨g',e',σ',r1,r2,r3,r4,r5⟩;cases ex with
   | exit i =>
     simp only[uV]at r5;simp only[Exit.inBlock];split
     ·rename_i e1;rw[if_pos e1]at r5;exact⟨g',e',σ',r1,r2,r3,r4,r5⟩
     ·rename_i e1;rw[if_neg e1]at r5;exact⟨g',e',σ',r1,r2,r3,r4,r5⟩
   | normal=>exact⟨g',e',σ',r1,r2,r3,r4,r5⟩
   | goto l=>exact⟨g',e',σ',r1,r2,r3,r4,r5⟩
   | ret=>exact⟨g',e',σ',r1,r2,r3,r4,r5⟩
   | panic ch=>exact⟨g',e',σ',r1,r2,r3,r4,r5⟩
   | outgrown=>exact r5.elim
 | loop x ih =>
   refine⟨?_,fun _ _ h=>by cases h⟩
   replace ih:=ih.1
   intro ro wn B ac Q g w σ e a hc hw hR hE hd hB;simp only[cg,aU]at hc;obtain⟨ax,h1,rfl⟩:=hc;obtain⟨I,⟨n0,hI⟩,afj⟩:=hw
   have key:∀ (n:Nat) (g1:aO) (w1:World) (σ1:aj) (e1:Env) (a1:Act),I n e1 σ1->Rel g1 w1 σ1->gj nt g1 w1 e1 a1.tmps->j_ B σ1 g1 w1 a1.defers->B<=w1.heap.size ->
    ∀(b:Frame) (k:List Item) (cs:List Frame),b.roundOf=ro-> ∃ ex a' w',QR nt B g1 w1 σ1 Q ex a' w'/\ArrivesIn (Machine.fenced P (WF ro)) P (lone (b.atR a1 (.code x:: .inLoop x::k)) cs w1) b k cs ex a' w':=by
    intro n
    induction n using Nat.strongRecOn with
    | _ n ihn =>
      intro g1 w1 σ1 e1 a1 hI1 hR1 CD CC hB1 b k cs hro;obtain⟨ex,a',w',hq,harr⟩:=ih ro wn B ax _ g1 w1 σ1 e1 a1 h1 (afj n e1 σ1 hI1) hR1 CD CC hB1 b (.inLoop x::k) cs hro trivial (RC _ _);obtain⟨g',e',σ',r1,r2,r3,r4,r5⟩:=hq;cases ex with
      | normal =>
        obtain⟨m,hlt,hI2⟩:=r5;obtain⟨ex2,a2,w2,Br,PG⟩:=ihn m hlt g' w' σ' e' a' hI2 r2 r3 r1 (cD hB1 r4.size) b k cs hro;exact⟨ex2,a2,w2,Br.step r4,.of_steps (StepsIn.trans harr (.one (Kc ro P _) stepR_inLoop)) PG⟩
      | exit id=>exact⟨_,a',w',⟨g',e',σ',r1,r2,r3,r4,r5⟩,.pass (x:= .inLoop x) rfl (fun _ _=> .inl (by simp)) harr⟩
      | goto l=>exact⟨_,a',w',⟨g',e',σ',r1,r2,r3,r4,r5⟩,.pass (x:= .inLoop x) rfl (fun _ _=> .inl (by simp)) harr⟩
      | ret=>exact⟨_,a',w',⟨g',e',σ',r1,r2,r3,r4,r5⟩,.pass (x:= .inLoop x) rfl (fun _ _=> .inl (by simp)) harr⟩
      | panic ch=>exact⟨_,a',w',⟨g',e',σ',r1,r2,r3,r4,r5⟩,.pass (x:= .inLoop x) rfl (fun _ _=> .inl (by simp)) harr⟩
      | outgrown=>exact r5.elim
   intro b k cs hro hF hr;obtain⟨ex,a',w',hq,harr⟩:=key _ g w σ e a hI hR hE hd hB b k cs hro;exact⟨ex,a',w',hq,.of_steps (.one (Kc ro P _) stepR_loop) harr⟩
 | exit id=>exact⟨fun ro wn B ac Q g w σ e a hc hw hR hE hd hB=>by cases hc;exact wpIn_exit ⟨g,e,σ,hd,hR,hE,.refl _ _ _,hw⟩,fun _ _ h=>by cases h⟩
 | ret=>exact⟨fun ro wn B ac Q g w σ e a hc hw hR hE hd hB=>by cases hc;exact wpIn_ret ⟨g,e,σ,hd,hR,hE,.refl _ _ _,hw⟩,fun _ _ h=>by cases h⟩
 | rangeFunc f ps x y En CI=>exact⟨abt En.1 CI.1,fun _ _ h=>by cases h⟩
 | refuse s=>exact⟨fun ro wn B ac Q g w σ e a hc hw=>(by cases hc;exact hw.elim),fun _ _ h=>by cases h⟩
 | goto l=>exact⟨fun ro wn B ac Q g w σ e a hc hw hR hE hd hB=>by cases hc;exact wpIn_goto ⟨g,e,σ,hd,hR,hE,.refl _ _ _,hw⟩,fun _ _ h=>by cases h⟩
 | label l =>
   refine⟨fun ro wn B ac Q g w σ e a hc hw hR hE hd hB=>by cases hc;exact wpIn_label ⟨g,e,σ,hd,hR,hE,.refl _ _ _,hw⟩,fun l' rest hf=>?_⟩;simp only[findLabel]at hf;split at hf
   ·cases hf;exact PE
   ·cases hf
 | scope x ih =>
   refine⟨?_,fun _ _ h=>by cases h⟩;intro ro wn B ac Q g w σ e a hc hw hR hE hd hB;simp only[cg]at hc;split at hc
   ·rename_i ax h1;split at hc
    ·rename_i l _;split at hc
     ·rename_i ar h2;cases hc;obtain⟨rest,hf,Vy⟩:=Vt x ax ar h1 h2;have hs:=ih.2 l rest hf;obtain⟨J,afk,ahc⟩:=hw;intro b k cs hro hF hr;have II:∀ m:Machine,m.fenced P (WF ro):=Kc ro P;have hg:gotoIn l (.inScope x::k)=some (.code rest:: .inScope x::k):=by simp[gotoIn,hf]
      have key:∀ (n:Nat) (g1:aO) (w1:World) (σ1:aj) (e1:Env) (a1:Act),J n e1 σ1->Rel g1 w1 σ1->gj nt g1 w1 e1 a1.tmps->j_ B σ1 g1 w1 a1.defers->B<=w1.heap.size ->
       ∃ ex a' w',QR nt B g1 w1 σ1 Q ex a' w'/\ArrivesIn (Machine.fenced P (WF ro)) P (lone (b.atR a1 (.code rest:: .inScope x::k)) cs w1) b k cs ex a' w':=by
       intro n
       induction n using Nat.strongRecOn with
       | _ n ihn =>
         intro g1 w1 σ1 e1 a1 hJ1 hR1 CD CC hB1;obtain⟨ex,a',w',hq,harr⟩:=hs ro wn B ar _ g1 w1 σ1 e1 a1 Vy (ahc n e1 σ1 hJ1) hR1 CD CC hB1 b (.inScope x::k) cs hro trivial (RC _ _);obtain⟨g',e',σ',r1,r2,r3,r4,r5⟩:=hq;cases ex with
         | normal=>exact⟨.normal,a',w',⟨g',e',σ',r1,r2,r3,r4,r5⟩,StepsIn.trans harr (.one (II _) IG)⟩
         | exit id=>exact⟨.exit id,a',w',⟨g',e',σ',r1,r2,r3,r4,r5⟩,fun k' hk=>harr.1 k' (by simp[exitTo,hk]),fun hrr hk=>harr.2 hrr (by simp[exitTo,hk])⟩
         | goto l' =>
           obtain⟨rfl,m,hlt,hJ2⟩:=r5;obtain⟨ex2,a2,w2,Br,PG⟩:=ihn m hlt g' w' σ' e' a' hJ2 r2 r3 r1 (cD hB1 r4.size);exact⟨ex2,a2,w2,Br.step r4,.of_steps (harr.1 _ hg) PG⟩
         | ret=>exact⟨.ret,a',w',⟨g',e',σ',r1,r2,r3,r4,r5⟩,harr⟩
         | panic ch=>exact⟨.panic ch,a',w',⟨g',e',σ',r1,r2,r3,r4,r5⟩,harr⟩
         | outgrown=>exact r5.elim
      obtain⟨ex,a',w',hq,harr⟩:=ih.1 ro wn B ax _ g w σ e a h1 afk hR hE hd hB b (.inScope x::k) cs hro trivial (RC _ _);obtain⟨g',e',σ',r1,r2,r3,r4,r5⟩:=hq;cases ex with
      | normal=>exact⟨.normal,a',w',⟨g',e',σ',r1,r2,r3,r4,r5⟩,.head (II _) rJ (StepsIn.trans harr (.one (II _) IG))⟩
      | exit id=>exact⟨.exit id,a',w',⟨g',e',σ',r1,r2,r3,r4,r5⟩,fun k' hk=> .head (II _) rJ (harr.1 k' (by simp[exitTo,hk])),fun hrr hk=>let ⟨k1,p1,p2⟩:=harr.2 hrr (by simp[exitTo,hk]);⟨k1,p1,.head (II _) rJ p2⟩⟩
      | goto l' =>
        obtain⟨rfl,n0,hJ2⟩:=r5;obtain⟨ex2,a2,w2,Br,PG⟩:=key _ g' w' σ' e' a' hJ2 r2 r3 r1 (cD hB r4.size);exact⟨ex2,a2,w2,Br.step r4,.of_steps (.head (II _) rJ (harr.1 _ hg)) PG⟩
      | ret=>exact⟨.ret,a',w',⟨g',e',σ',r1,r2,r3,r4,r5⟩,.of_steps (.one (II _) rJ) harr⟩
      | panic ch=>exact⟨.panic ch,a',w',⟨g',e',σ',r1,r2,r3,r4,r5⟩,.of_steps (.one (II _) rJ) harr⟩
      | outgrown=>exact r5.elim
     ·cases hc
    ·cases hc
   ·cases hc
def ZS{nt:Nat}{h:Hints}(c:Code): Sound P nt h c:=(Xu c).1
inductive w9 where
 | tmp (t:Nat)
 | cell (t:Nat) (ag:Bool) (n:Nat)
structure ad4 where
 nt:Nat
 results:List w9
 body:aI
def qx(P:Program)(nt:Nat): List ResultVar->Option (List w9)
 | []=>some []
 | .tmp t::r=>if t<nt then(qx P nt r).map (.tmp t:: ·)else none
 | .cell a t :: r => match nT P t, P.info? t with
   | some ag,some i=>if a<nt && (ag || i.size==1)then (qx P nt r).map (.cell a ag i.size:: ·)else none
   | _,_=>none
def N4(P:Program)(h:Hints)(fn:Func): Option ad4 :=
 match fn.body with
 | some c => match cg P fn.ntmps h false c, qx P fn.ntmps fn.results.toList with
   | some b,some rs=>some ⟨fn.ntmps,rs,b⟩
   | _,_=>none
 | none=>none
def uM(e:Env)(σ : aj): List w9->(List AV->Prop)->Prop
 | [],K=>K []
 | .tmp t::r,K=>uM e σ r fun vs=>K (e t::vs)
 | .cell t ag n::r,K=>nJ σ ag n (e t) fun v=>uM e σ r fun vs=>K (v::vs)
def oneOf: List AV->AV
 | [v]=>v
 | vs=> .bX vs
def Vz(rs:List w9)(R:Out->aj->Prop): AQ
 | .normal,e,σ=>uM e σ rs fun vs=>R (.ret (oneOf vs)) σ
 | .ret,e,σ=>uM e σ rs fun vs=>R (.ret (oneOf vs)) σ
 | .panic v,_,σ=>R (.panic v) σ
 | _,_,_=>False
def zz(args:List AV): Env:=fun n=>args.getD n .undef
def abu {nt : Nat} {g : aO} {w : World} {σ : aj} {e : Env} {tmps : Array Value} (hR : Rel g w σ) (hE : gj nt g w e tmps) : ∀ (rv : List ResultVar) (rs : List w9) (K : List AV -> Prop), qx P nt rv = some rs -> uM e σ rs K ->
    ∃ (IJ : List AV) (us : List Value), (rv.mapM fun (r : ResultVar) => (match r with
      | ResultVar.tmp t=>pure (tmps.getD t Go.undef)
      | ResultVar.cell a t=>do loadVar t (← asAddr (tmps.getD a Go.undef)):Sem Value)).run P w=Result.ok us w/\IJ.length=us.length/\(∀ i,i<IJ.length->VR g w (IJ.getD i .undef) (us.getD i Go.undef))/\K IJ:=by
 intro rv
 induction rv with
 | nil=>intro rs K h hK;cases h;exact⟨[],[],rfl,rfl,fun i hi=>absurd hi (Nat.not_lt_zero _),hK⟩
 | cons r rv ih =>
   intro rs K h hK;cases r with
   | tmp t =>
     simp only[qx]at h;split at h
     ·rename_i ht;simp only[aU]at h;obtain⟨rs',h1,rfl⟩:=h;obtain⟨IJ,us,r1,r2,r3,r4⟩:=ih rs' _ h1 hK;refine⟨e t::IJ,tmps.getD t Go.undef::us,?_,by simp[r2],fun i hi=>?_,r4⟩
      ·rw[List.mapM_cons,Sem.run_bind];simp only[Sem.run_pure,Result.andThen_ok,Sem.run_bind,r1]
      ·cases i with
       | zero=>simpa using hE.rel t ht
       | succ i=>simpa using r3 i (by simpa using hi)
     ·cases h
   | cell a t =>
     simp only[qx]at h;split at h
     ·rename_i ag ti hA hi;split at h
      ·rename_i hh;simp only[aF,decide_eq_true_eq,dB,beq_iff_eq]at hh;simp only[aU]at h;obtain⟨rs',h1,rfl⟩:=h
       have hone:ag=false->ti.size=1:=fun e1=>by
        rcases hh.2 with h|h
        ·rw[e1]at h;cases h
        ·exact h
       have hv:=hE.rel a hh.1;obtain⟨u,av,l1,l2,l3⟩:=SS (P:=P) hR hA hi hone hv hK
       obtain⟨A,ID⟩:∃ A,tmps.getD a Go.undef = .pointer (some A):=by
        simp only[uM]at hK;generalize e a=p at hv hK;generalize tmps.getD a Go.undef=pv at hv;cases hv<;>simp only[nJ]at hK
        ·rename_i h;obtain⟨_,A,h,_⟩:=h;exact⟨A,h⟩
        ·exact⟨_,rfl⟩
        ·rename_i h;obtain⟨_,_,A,h,_⟩:=h;exact⟨A,h⟩
       obtain⟨IJ,us,r1,r2,r3,r4⟩:=ih rs' _ h1 l3;refine⟨av::IJ,u::us,?_,by simp[r2],fun i hi=>?_,r4⟩
       ·rw[ID]at l1;simp only[Instr.loadAt,Instr.sureAddr,Sem.run_bind,Sem.run_pure,Result.andThen_ok]at l1;have ha:(asAddr (tmps.getD a Go.undef)).run P w = .ok A w:=by rw[ID];rfl
        rw[List.mapM_cons,Sem.run_bind];simp only[Sem.run_bind,ha,Result.andThen_ok,l1,r1,Sem.run_pure]
       ·cases i with
        | zero=>simpa using l2
        | succ i=>simpa using r3 i (by simpa using hi)
      ·cases h
     ·cases h
def Xv{fn:Func}{tmps:Array Value}{us:List Value}{w:World} (h:(fn.results.toList.mapM fun(r:ResultVar)=>(match r with
 | ResultVar.tmp t=>pure (tmps.getD t Go.undef)
 | ResultVar.cell a t => do loadVar t (← asAddr (tmps.getD a Go.undef)) : Sem Value)).run P w = Result.ok us w) :
    (results fn tmps).run P w = .ok (if h:us.toArray.size=1 then us.toArray[0]else .tuple us.toArray) w:=by
 unfold results;rw[Array.mapM_eq_mapM_toList];simp only[Sem.run_bind,Sem.run_map];exact(congrArg (fun r:Result (List Value)=>(r.andThen fun a w'=>Result.ok a.toArray w').andThen fun a w'=>Sem.run P (pure (if h:a.size=1 then a[0]else Value.tuple a):Sem Value) w') h).trans rfl
def CL {nt : Nat} {fn : Func} {tmps : Array Value} {R : Ending -> World -> Prop} {g0 : aO} {w0 : World} {wv : aj} {g : aO} {σ : aj} {e : Env} {u : FrameMode} (hu : u ≠ .run) : ∀ (ds : List Deferred) (w : World),
    j_ w0.heap.size σ g w ds->Rel g w σ->gj nt g w e tmps->gN wv g0 w0 σ g w->(∀ w2,Rel g w2 σ->gj nt g w2 e tmps->gN wv g0 w0 σ g w2->lK g w g w2->LeavesIn (WF none) 0 P fn tmps R [] u w2)->LeavesInM (WF none) 0 P fn tmps R ds u w
 | [],w,_,hR,hE,hv,Ho=>Ho w hR hE hv (.refl _ _)
 | d :: ds, w, hd, hR, hE, hv, Ho => by
   obtain⟨D,h1,h2,h3,h4,h5⟩:=hd.mark d (by simp);obtain⟨r1,r2,r3⟩:=hR.ae8 (w':=w.putObj D (.deferred none)) hv h2 h4 h5 (by simp) rfl rfl rfl (fun c hc=>World.putObj_heap_other hc);refine⟨hu,.inl ⟨D,_,by rw[h1],run_takeDeferred h3,CL hu ds _ ⟨(List.nodup_cons.1 hd.nodup).2,fun d' hd'=>?_⟩ r1 (hE.mono r3) r2 (fun w2 a1 a2 a3 a4=>Ho w2 a1 a2 a3 (r3.trans a4))⟩⟩;obtain⟨D',k1,k2,k3,k4,k5⟩:=hd.mark d' (by simp[hd']);refine⟨D',k1,k2,(World.putObj_heap_other (fun e=>?_)).trans k3,k4,k5⟩;subst e;exact(List.nodup_cons.1 hd.nodup).1 (by rw[h1,<-k1];exact hd')
def Xw {nt : Nat} {fn : Func} {rs : List w9} {g : aO} {w : World} {σ : aj} {R : Out -> aj -> Prop} {ex : Exit} {a : Act} {w' : World} (hrs : qx P nt fn.results.toList = some rs)
    (h:QR nt w.heap.size g w σ (Vz rs R) ex a w'):bodyPostM (WF none) 0 P fn (fun e w'=> ∃ out g' σ',Rel g' w' σ'/\gN σ g w σ' g' w'/\Rx g' w' out e/\R out σ') ex a w':=by
 obtain⟨g',e',σ',h1,h2,h3,h4,h5⟩:=h
 have done:uM e' σ' rs (fun vs=>R (.ret (oneOf vs)) σ')->LeavesInM (WF none) 0 P fn a.tmps (fun e w'=> ∃ out g' σ',Rel g' w' σ'/\gN σ g w σ' g' w'/\Rx g' w' out e/\R out σ') a.defers .returning w':=fun hres=>by
  refine CL (by simp) a.defers w' h1 h2 h3 h4 (fun w2 h2 h3 h4 _=>?_);obtain⟨IJ,us,r1,r2,r3,r4⟩:=abu (P:=P) h2 h3 fn.results.toList rs _ hrs hres;refine⟨_,Xv r1,.ret (oneOf IJ),g',σ',h2,h4,?_,r4⟩;show VR g' w2 (oneOf IJ) _
  match IJ,us,r2,r3 with
  | [av],[u],_,r3=>simpa[oneOf]using r3 0 (by simp)
  | [],[],_,r3=>exact .bX [] #[] rfl (fun i hi=>absurd hi (eF _))
  | a1 :: a2 :: az, u1 :: u2 :: us, r2, r3 =>
    have:¬ (u1::u2::us).toArray.size=1:=by simp
    rw[dif_neg this];exact .bX _ _ (by simpa using r2) (fun i hi=>by simpa using r3 i hi)
 cases ex with
 | normal=>exact done h5
 | ret=>exact done h5
 | panic chain =>
   obtain⟨v,av,rfl,hv,hq⟩:=h5;exact CL (by simp) a.defers w' h1 h2 h3 h4 (fun w2 h2 h3 h4 hm=>⟨.panic av,g',σ',h2,h4,⟨v,rfl,hv.mono hm⟩,hq⟩)
 | exit id=>exact h5.elim
 | goto l=>exact h5.elim
 | outgrown=>exact h5.elim
def f_.of_wp {f : FuncId} {fn : Func} {h : Hints} {af : ad4} {args : List AV} {σ : aj} {R : Out → aj → Prop} (hf : P.funcs[f]? = some fn) (hn : (fn.name == "runtime.NumGoroutine") = false) (hc : N4 P h fn = some af)
    (hl:args.length<=af.nt) (hw:iH P af.body (Vz af.results R) (zz args) σ):f_ P f args σ R:=by
 unfold N4 at hc;split at hc
 ·rename_i c hb;split at hc
  ·rename_i b rs h1 h2;cases hc;refine⟨⟨fn,hf,by simp[hb],hn⟩,fun g w vs hR hlen hv=>?_⟩;refine RE.1 (callsIn_of_wp_marks (F:=WF none) (n:=0) hf hb trivial (wpIn_mono (ZS c none 0 w.heap.size b _ g w σ (zz args) _ h1 hw hR ⟨?_,fun t ht=>?_⟩ (j_.nil _ _ _ _) (Nat.le_refl _)) fun ex a w' hq=>Xw h2 hq))
   ·simp only at hl;simp;omega
   ·by_cases h:t<args.length
    ·have h3:t<vs.size:=by omega
     have:=hv t h;simp only[zz];rw[fh,eJ h3];simpa using this
    ·have:zz args t = .undef:=by simp[zz,List.getElem?_eq_none (Nat.le_of_not_lt h)]
     rw[this];exact .undef _
  ·cases hc
 ·cases hc
end
end Go.AM
