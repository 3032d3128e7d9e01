/- Part. -/
import Derived.Test.YtdohdkdejmhgnaaGreatDoorY03
set_option linter.all false
set_option maxHeartbeats 1000000
namespace Go.AM
inductive nx where
 | normal
 | exit (id:Nat)
 | goto (l:Nat)
 | ret
 | panic (v:AV)
structure bV where
 op:bf
 dst:Option Nat
 guard:Option (Nat × Bool)
abbrev AQ:=nx->Env->ai->Prop
def dL(P:Program)(Q:AQ): List bV->Env->ai->Prop
 | [],e,σ=>Q .normal e σ
 |⟨o,d,none⟩::r,e,σ=>o.run P e σ (fun v σ'=>dL P Q r (cZ e d v) σ') (fun v σ'=>Q (.panic v) e σ')
 | ⟨o, d, some (k, b)⟩ :: r, e, σ => match e k with
   | .bool t => (t = b -> o.run P (cZ e (some k) (.bool b)) σ (fun v σ' => dL P Q r (cZ (cZ e (some k) (.bool b)) d v) σ') (fun v σ' => Q (.panic v) (cZ e (some k) (.bool b)) σ')) /\
      (t = !b->dL P Q r (cZ (cZ e (some k) (.bool (!b))) d (.bg [])) σ)
   | .bg []=>dL P Q r (cZ e d (.bg [])) σ
   | _=>False
inductive cQ where
 | skip
 | region (ops:List bV)
 | draw (ops:List bV) (fO:List (AX × AX))
 | seq (a b:cQ)
 | cond (c:AX) (thn els:cQ)
 | block (id:Nat) (body:cQ)
 | loop (body:cQ)
 | exit (id:Nat)
 | ret
 | scope (l:Nat) (body rest:cQ)
 | label (l:Nat)
 | goto (l:Nat)
 | rE (f:AX) (nt:Nat) (ps:List Nat) (ca cb:Code) (LZ body:cQ)
 | stop
def cQ.mh: cQ->Bool
 | .seq a b=>a.mh || b.mh
 | .cond _ a b=>a.mh || b.mh
 | .block _ a=>a.mh
 | .loop a=>a.mh
 | .scope _ a _=>a.mh
 | .rE ..=>true
 | _=>false
def Ab(ac:cQ)(B:Nat->Prop)(w:World): Prop:=ac.mh=true-> ∀ D,w.heap.size<=D->B D
def Ab.size{ac:cQ}{B:Nat->Prop}{w w':World}(h:Ab ac B w)(hs:w.heap.size<=w'.heap.size): Ab ac B w':=fun hr D hD=>h hr D (bS hs hD)
def Ab.sub{ac ad:cQ}{B:Nat->Prop}{w:World}(h:Ab ac B w)(hs:ad.mh=true->ac.mh=true): Ab ad B w:=fun hr=>h (hs hr)
def Ab.at(ac:cQ)(w:World): Ab ac (fun D=>w.heap.size<=D) w:=fun _ _ h=>h
def ny(K:Env->ai->Prop)(Q:AQ): AQ
 | .normal,e,σ=>K e σ
 | x,e,σ=>Q x e σ
def oI(id:Nat)(Q:AQ): AQ
 | .exit i,e,σ=>if i=id then Q .normal e σ else Q (.exit i) e σ
 | x,e,σ=>Q x e σ
def oh: List (AX × AX)->Env->Prop
 | [],_=>True
 |(x,y)::r,e=>pJ (x.ev e) (y.ev e)/\oh r e
def V5: AX × AX->Bool
 |(.c .iU,.c .iU)=>true
 | _=>false
def qc(fO:List (AX × AX)): Bool:=fO.any V5
def i_(fO:List (AX × AX))(Q:AQ): AQ
 | .normal,e,σ=>oh fO e/\Q .normal e σ
 | .panic v,e,σ=>if qc fO then ∀ e',Q (.panic v) e' σ else Q (.panic v) e σ
 | x,e,σ=>Q x e σ
def YN{fO:List (AX × AX)}{Q:AQ}: ∀ {ex e σ},i_ fO Q ex e σ->Q ex e σ:=fun {ex e σ} h=>by
 cases ex<;>first|exact h.2|exact h|skip
 simp only[i_]at h;split at h
 ·exact h e
 exact h
def V6{fO:List (AX × AX)}{Q:AQ}(h:qc fO=true){v:AV}{e e':Env}{σ : ai}: i_ fO Q (.panic v) e σ->i_ fO Q (.panic v) e' σ:=by
 simp only[i_,h,if_true];exact id
def FE(body:AQ->Env->ai->Prop)(Q:AQ)(e:Env)(σ : ai): Prop :=
 ∃(I:Nat->Env->ai->Prop),(∃ n,I n e σ)/\ ∀ n e σ,I n e σ->body (ny (fun e' σ'=> ∃ m,m<n/\I m e' σ') Q) e σ
def qZ(l:Nat)(J:Env->ai->Prop)(Q:AQ): AQ
 | .goto l',e,σ=>l'=l/\J e σ
 | x,e,σ=>Q x e σ
def V7(l:Nat)(body rest:AQ->Env->ai->Prop)(Q:AQ)(e:Env)(σ : ai): Prop :=
 ∃(J:Nat->Env->ai->Prop),body (qZ l (fun e σ=> ∃ n,J n e σ) Q) e σ/\ ∀ n e σ,J n e σ->rest (qZ l (fun e' σ'=> ∃ m,m<n/\J m e' σ') Q) e σ
def nJ: List Nat->List AV->Env->Env
 | p::ps,a::az,e=>nJ ps az (cZ e (some p) a)
 | _,_,e=>e
def YO(l:Nat)(o o':bG)(B:Env->ai->Prop): AQ
 | .normal,e,σ=>σ[l]? = some o/\B e (σ.set l o')
 | _,_,_=>False
def TJ(l:Nat)(o:LoopState->Option Code->bG)(R:Out->ai->Prop): AQ
 | .normal,_,σ=>σ[l]? = some (o .busy none)/\R (.ret (.bool true)) (σ.set l (o .ready none))
 | .ret,_,σ=>σ[l]? = some (o .busy none)/\R (.ret (.bool false)) (σ.set l (o .done (some .ret)))
 | .exit i,_,σ=>σ[l]? = some (o .busy none)/\R (.ret (.bool false)) (σ.set l (o .done (some (.exit i))))
 | .goto i,_,σ=>σ[l]? = some (o .busy none)/\R (.ret (.bool false)) (σ.set l (o .done (some (.goto i))))
 | .panic _,_,_=>False
def ads(l:Nat)(o:LoopState->Option Code->bG)(Q:AQ)(e:Env): Out->ai->Prop
 | .ret _, σ => ∃ st pe, σ[l]? = some (o st pe) /\ st ≠ .busy /\ match pe with
    | none=>Q .normal e (σ.set l .dead)
    | some .ret=>Q .ret e (σ.set l .dead)
    | some (.exit i)=>Q (.exit i) e (σ.set l .dead)
    | some (.goto i)=>Q (.goto i) e (σ.set l .dead)
    | _=>False
 | .panic v,σ=>Q (.panic v) e σ
def Oh(P:Program)(nt:Nat)(ps:List Nat)(ca cb:Code)(f:AV)(LZ body:AQ->Env->ai->Prop)(Q:AQ)(e:Env)(σ : ai): Prop :=
 match f with
 | .fn (.func n) first cap => ∀ o : LoopState -> Option Code -> bG, (∀ st pe, o st pe = .loop nt e ps.toArray ca cb st pe) ->
    (∀ σ' args R, σ'[σ.length]? = some (o .ready none) -> args.length = ps.length ->
      LZ (YO σ.length (o .ready none) (o .busy none) (body (TJ σ.length o R))) (nJ ps args e) σ'->oF P σ.length args σ' R) ->
    cV P n (first++[.lW σ.length]++cap) (σ++[o .ready none]) (ads σ.length o Q e)
 | _=>False
def fg(P:Program): cQ->AQ->Env->ai->Prop
 | .skip,Q,e,σ=>Q .normal e σ
 | .region ops,Q,e,σ=>dL P Q ops e σ
 | .draw ops fO,Q,e,σ=>dL P (i_ fO Q) ops e σ
 | .seq a b,Q,e,σ=>fg P a (ny (fg P b Q) Q) e σ
 | .cond c a b, Q, e, σ => match c.ev e with
   | .bool t=>(t=true->fg P a Q e σ)/\(t=false->fg P b Q e σ)
   | _=>False
 | .block id c,Q,e,σ=>fg P c (oI id Q) e σ
 | .loop c,Q,e,σ=>FE (fg P c) Q e σ
 | .exit id,Q,e,σ=>Q (.exit id) e σ
 | .ret,Q,e,σ=>Q .ret e σ
 | .scope l c r,Q,e,σ=>V7 l (fg P c) (fg P r) Q e σ
 | .label _,Q,e,σ=>Q .normal e σ
 | .goto l,Q,e,σ=>Q (.goto l) e σ
 | .rE f nt ps ca cb LZ body,Q,e,σ=>Oh P nt ps ca cb (f.ev e) (fg P LZ) (fg P body) Q e σ
 | .stop,_,_,_=>False
structure w8 (B:Nat->Prop) (σ : ai) (g:aC) (w:World) (ds:List Deferred):Prop where
 nodup:ds.Nodup
 mark:∀ d ∈ ds,∃ D,d = { target:= .collected D,args:= #[] }/\B D/\w.heap[D]? = some (.deferred (some []))/\¬ kD σ g D/\¬ g.eS D
def w8.step{B:Nat->Prop}{σ σ':ai}{g g':aC}{w w':World}{ds:List Deferred}(h:w8 B σ g w ds)(fX:ep σ g w σ' g' w'): w8 B σ' g' w' ds:=by
 refine⟨h.nodup,fun d hd=>?_⟩;obtain⟨D,h1,h2,h3,h4,h5⟩:=h.mark d hd;have hlt:D<w.heap.size:=(dN.1 h3).1;exact⟨D,h1,h2,(fX.frame D hlt h4).trans h3,fun ht=>h4 (fX.Di D hlt ht),fun hi=>(fX.uD D hlt hi).elim h5 h4⟩
def ja(X:List Deferred)(B:Nat->Prop)(σ : ai)(g:aC)(w:World)(ds:List Deferred): Prop:= ∃ ms,ds=ms++X/\w8 B σ g w ms
def ja.nil(X:List Deferred)(B:Nat->Prop)(σ : ai)(g:aC)(w:World): ja X B σ g w X:=⟨[],rfl,List.nodup_nil,fun _ h=>by cases h⟩
def ja.step{X:List Deferred}{B:Nat->Prop}{σ σ':ai}{g g':aC}{w w':World}{ds:List Deferred}(h:ja X B σ g w ds)(fX:ep σ g w σ' g' w'): ja X B σ' g' w' ds :=
 let ⟨ms,h1,h2⟩:=h;⟨ms,h1,h2.step fX⟩
def QR(X:List Deferred)(nt:Nat)(B:Nat->Prop)(g:aC)(w:World)(σ : ai)(Q:AQ)(ex:Exit)(a:Act)(w':World): Prop :=
 ∃ g' e' σ', ja X B σ' g' w' a.defers /\ Rel g' w' σ' /\ fm nt g' w' e' a.tmps /\ ep σ g w σ' g' w' /\
   match ex with
   | .normal=>Q .normal e' σ'
   | .exit id=>Q (.exit id) e' σ'
   | .goto l=>Q (.goto l) e' σ'
   | .ret=>Q .ret e' σ'
   | .panic chain=> ∃ v av,chain=[{ v,recovered:=false }]/\VR g' w' av v/\Q (.panic av) e' σ'
   | .outgrown=>False
section
variable {P:Program}
def Oper.Hp {F : Fence} {wn : Nat} {o : Oper} {a : Act} {w : World} {K K' : Act -> World -> Prop} {Q Q' : Exit -> Act -> World -> Prop} (h : ∀ a w, K a w -> K' a w) (hq : ∀ e a w, Q e a w -> Q' e a w)
    (hh:o.wpIn F wn P a w K Q):o.wpIn F wn P a w K' Q':=by
 unfold Oper.wpIn at *;refine⟨hh.1,?_⟩
 replace hh:=hh.2
 generalize (o.semAt F.round a.eval).run P w=r at *;cases r with
 | ok n w' =>
   cases n<;>simp only[Oper.uponIn]at hh |- <;>
    first
     | exact h _ _ hh
     | exact ⟨hh.1, CallsIn.mono hh.2 (fun e w'' he => by
        cases e<;>first
         | exact h _ _ he
         | exact hq _ _ _ he
         |(obtain⟨a0,w0,he⟩:=he;exact⟨a0,w0,hq _ _ _ he⟩))⟩
     | exact ⟨hh.1, RoundIn.mono hh.2 (fun e w'' he => by
        cases e<;>first
         | exact h _ _ he
         | exact hq _ _ _ he
         |(obtain⟨a0,w0,he⟩:=he;exact⟨a0,w0,hq _ _ _ he⟩))⟩
     | exact⟨hh.1,RowsIn.mono hh.2 (fun _ _ he=>h _ _ he)⟩
 | halt x w' =>
   cases x<;>simp only[Oper.uponIn]at hh |-<;>first
    | exact hq _ _ _ hh
    | exact hh
def put_defers(a:Act)(d:Option Tmp)(v:Value): (a.put d v).defers=a.defers:=by cases d<;>rfl
def L0 {nt : Nat} {g : aC} {w : World} {e : Env} {a : Act} {ops : Array Oper} {o : Oper} {k : Nat} {j : Nat} {b : Bool} (hE : fm nt g w e a.tmps) (hg : o.guard = some (j, b)) (hd : (ops[j]?).bind (·.dst) = some k) (hk : k < nt) :
    (∀ t,e k = .bool t->Region.wanted o (yielded ops a.tmps)=(t==b))/\(e k = .bg []->Region.wanted o (yielded ops a.tmps)=false):=by
 have hv:=hE.rel k hk;have hlt:k<a.tmps.size:=by rw[hE.size];exact hk
 have nh:a.tmps[k]? = some (a.tmps.getD k Go.undef):=by simp[hlt]
 constructor
 ·intro t ht;rw[ht]at hv;generalize a.tmps.getD k Go.undef=v at hv nh;cases hv;simp only[Region.wanted,hg,yielded,hd,Option.bind_some,nh];cases t<;>cases b<;>rfl
 intro ht;rw[ht]at hv;generalize a.tmps.getD k Go.undef=v at hv nh;cases hv;simp[Region.wanted,hg,yielded,hd,nh]
def fm.congr{nt:Nat}{g:aC}{w:World}{e:Env}{tmps:Array Value}(h:fm nt g w e tmps){k:Nat}{x:AV}(hx:e k=x): fm nt g w (cZ e (some k) x) tmps :=
 ⟨h.size, fun t ht => by
   simp only[cZ];split
   ·rename_i e1;subst e1;subst hx;exact h.rel _ ht
   ·exact h.rel t ht⟩
def jF(P:Program)(nt:Nat)(h:Hints)(dr:Bool)(all:Array Oper): List Oper->Option (List bV)
 | []=>some []
 | o :: r => match pL P nt h dr o, jF P nt h dr all r with
   | some ao, some gs => match o.guard with
     | none=>some (⟨ao,o.dst,none⟩::gs)
     | some (j, b) => match (all[j]?).bind (·.dst) with
       | some k=>if k<nt then some (⟨ao,o.dst,some (k,b)⟩::gs)else none
       | none=>none
   | _,_=>none
def yG {X : List Deferred} {ro : Option Nat} {wn : Nat} {nt : Nat} {h : Hints} {dr : Bool} {ops : Array Oper} {B : Nat -> Prop} {Q : AQ} {g0 : aC} {w0 : World} {lY : ai} : ∀ (l : List Oper) (i : Nat) (gs : List bV) (g : aC) (w : World) (σ : ai) (e : Env) (a : Act),
    jF P nt h dr ops l=some gs->(∀ j,j<l.length->ops[i+j]? = l[j]?)->dL P Q gs e σ->Rel g w σ->fm nt g w e a.tmps->ja X B σ g w a.defers->ep lY g0 w0 σ g w ->
    Go.wpOpsIn (WF ro) wn P ops (QR X nt B g0 w0 lY Q) (List.range' i l.length) a w:=by
 intro l
 induction l with
 | nil =>
   intro i gs g w σ e a hc _ hw hR hE hd fX;cases hc;exact⟨g,e,σ,hd,hR,hE,fX,hw⟩
 | cons o l ih =>
   intro i gs g w σ e a hc hidx hw hR hE hd fX;have h0:ops[i]? = some o:=by simpa using hidx 0 aT
   have NL:∀ j,j<l.length->ops[i+1+j]? = l[j]?:=fun j hj=>by
    have:=hidx (j+1) (by simpa using hj);simpa[bP,Nat.add_comm 1 j]using this
   simp only[jF]at hc;split at hc
   ·rename_i ao gs' h1 h2
    have go:∀ (e1:Env),fm nt g w e1 a.tmps->ao.run P e1 σ (fun v σ'=>dL P Q gs' (cZ e1 o.dst v) σ') (fun v σ'=>Q (.panic v) e1 σ') ->
     o.wpIn (WF ro) wn P a w (Go.wpOpsIn (WF ro) wn P ops (QR X nt B g0 w0 lY Q) (List.range' (i+1) l.length)) (QR X nt B g0 w0 lY Q):=fun e1 uL hrun=>by
     refine Oper.Hp ?_ ?_ (Og h1 hR uL hrun)
     ·rintro a' w' ⟨v,g',av,σ',rfl,r1,r2,r3,r4⟩;exact ih (i+1) gs' g' w' σ' (cZ e1 o.dst av) (a.put o.dst v) h2 NL r4 r1 ((uL.mono r2.mono).put o.dst r3) (by rw[put_defers];exact hd.step r2) (fX.trans r2)
     rintro ex a' w' ⟨rfl,v,g',av,σ',rfl,r1,r2,r3,r4⟩;exact⟨g',e1,σ',hd.step r2,r1,uL.mono r2.mono,fX.trans r2,v,av,rfl,r3,r4⟩
    have pass:∀ (e1:Env),fm nt g w e1 a.tmps->dL P Q gs' (cZ e1 o.dst (.bg [])) σ->Go.wpOpsIn (WF ro) wn P ops (QR X nt B g0 w0 lY Q) (List.range' (i+1) l.length) (a.put o.dst Go.undef) w:=fun e1 uL hrun =>
     ih (i+1) gs' g w σ (cZ e1 o.dst (.bg [])) (a.put o.dst Go.undef) h2 NL hrun hR (uL.put o.dst (.bg [] #[] rfl (fun i hi=>absurd hi (cJ _)))) (by rw[put_defers];exact hd) fX
    rw[aE,List.range'_succ,wpOpsIn_cons];unfold wpOpIn;simp only[h0];split at hc
    ·rename_i hg;cases hc;have TL:Region.wanted o (yielded ops a.tmps)=true:=by simp[Region.wanted,hg]
     rw[aB TL];exact go e hE hw
    rename_i j b hg;split at hc
    ·rename_i k hk;split at hc
     ·rename_i hlt;cases hc;obtain⟨w1,w2⟩:=L0 (ops:=ops) hE hg hk hlt;simp only[dL]at hw;split at hw
      ·rename_i t ht;have hwn:=w1 t ht;by_cases htb:t=b
       ·subst htb;rw[hwn,aB aT];exact go _ (hE.congr ht) (hw.1 rfl)
       have:t = !b:=by cases t<;>cases b<;>simp_all
       rw[hwn,aq (by simpa using htb)];refine⟨fun _ _=>trivial,pass _ (hE.congr ?_) (hw.2 this)⟩;rw[ht,this]
      ·rename_i ht;rw[w2 ht,aq aT];exact⟨fun _ _=>trivial,pass e hE hw⟩
      exact hw.elim
     ·cases hc
    ·cases hc
   ·cases hc
end
def mK{m:Nat}{l:List AV}(h:AV.me m l=true)(i:Nat): (l.getD i .undef).kH m=true:=by
 induction l generalizing i with
 | nil=>simp[AV.kH]
 | cons a l ih =>
   simp only[AV.me,aD]at h;cases i with
   | zero=>simpa using h.1
   | succ i=>simpa using ih h.2 i
def Hq{m:Nat}{a:AV}(h:a.kH m=true)(c:Nat): (a.cell c).kH m=true:=by
 cases a<;>first|exact h|exact mK (by simpa[AV.kH]using h) c
structure YP (m:Nat) (g g0:aC):Prop where
 eS:∀ b,g.eS b->g0.eS b
 n:g.n<=g0.n
 at_:∀ l,l≠m->g0.ver l=g.ver l/\g0.base l=g.base l/\g0.cap l=g.cap l/\g0.off l=g.off l
def VR.like{m:Nat}{g g0:aC}{w:World}(hL:YP m g g0){a:AV}{v:Value}(h:VR g w a v): a.kH m=true->VR g0 w a v:=by
 induction h with
 | undef v=>exact fun _=> .undef v
 | bool b=>exact fun _=> .bool b
 | int k n=>exact fun _=> .int k n
 | str s=>exact fun _=> .str s
 | agg cs vs hl hs _ ih=>exact fun hp=> .agg cs vs hl hs (fun i h=>ih i h (mK (by simpa[AV.kH]using hp) i))
 | bg cs vs hl _ ih=>exact fun hp=> .bg cs vs hl (fun i h=>ih i h (mK (by simpa[AV.kH]using hp) i))
 | aP=>exact fun _=> .aP
 | iz f el b cap hf=>exact fun _=> .iz f el b cap hf
 | aH f el xs b off cap hb hf hx ft hc _ ih =>
   intro hp;exact .aH f el xs b off cap (hL.eS b hb) hf hx ft hc (fun i c h1 h2=>ih i c h1 h2 (Hq (mK (by simpa[AV.kH]using hp) i) c))
 | own el l mm lo n v h =>
   intro hp;have hne:l≠m:=by simpa[AV.kH]using hp
   obtain⟨h1,h2,A,cap,h3,h4⟩:=h;obtain⟨e1,e2,e3,e4⟩:=hL.at_ l hne;exact .own el l mm lo n v ⟨bU h1 hL.n,by rw[e1];exact h2,A,cap,h3,by rw[e1,e2,e3,e4];exact h4⟩
 | ref l off v h =>
   intro hp;have hne:l≠m:=by simpa[AV.kH]using hp
   obtain⟨⟨h1,h0⟩,A,h2,h3⟩:=h;obtain⟨e1,e2,_,_⟩:=hL.at_ l hne;exact .ref l off v ⟨⟨bU h1 hL.n,by rw[e1];exact h0⟩,A,h2,by rw[e1,e2];exact h3⟩
 | cN el x off b o hb ft hc _ ih =>
   intro hp;exact .cN el x off b o (hL.eS b hb) ft hc (fun c h2=>ih c h2 (Hq (by simpa[AV.kH]using hp) c))
 | dw el l mm i off v h =>
   intro hp;have hne:l≠m:=by simpa[AV.kH]using hp
   obtain⟨h1,h2,A,h3,h4⟩:=h;obtain⟨e1,e2,_,e4⟩:=hL.at_ l hne;exact .dw el l mm i off v ⟨bU h1 hL.n,by rw[e1];exact h2,A,h3,by rw[e1,e2,e4];exact h4⟩
 | ew=>exact fun _=> .ew
 | ld=>exact fun _=> .ld
 | eG=>exact fun _=> .eG
 | fn f first cap first' cap' hl hl' _ _ ih Dh =>
   intro hp;simp only[AV.kH,aD]at hp;exact .fn f first cap first' cap' hl hl' (fun i h=>ih i h (mK hp.1 i)) (fun i h=>Dh i h (mK hp.2 i))
 | iS t a v _ ih=>exact fun hp=> .iS t a v (ih (by simpa[AV.kH]using hp))
 | iU=>exact fun _=> .iU
 | lf v h=>exact fun _=> .lf v h
 | mp l v h =>
   intro hp;have hne:l≠m:=by simpa[AV.kH]using hp
   obtain⟨h1,b,h2,h3⟩:=h;obtain⟨e1,e2,_,_⟩:=hL.at_ l hne;exact .mp l v ⟨bU h1 hL.n,b,h2,by rw[e1,e2];exact h3⟩
 | lW l v h =>
   intro hp;have hne:l≠m:=by simpa[AV.kH]using hp
   obtain⟨h1,b,h2,h3⟩:=h;obtain⟨e1,e2,_,_⟩:=hL.at_ l hne;exact .lW l v ⟨bU h1 hL.n,b,h2,by rw[e1,e2];exact h3⟩
 | lX el p n A cap hn hc _ ih=>exact fun hp=> .lX el p n A cap hn hc (ih (by simpa[AV.kH]using hp))
def bG.Ok.like{m:Nat}{g g0:aC}{w:World}{l:Nat}{o:bG}(hL:YP m g g0)(hne:l≠m)(h:o.Ok g w l)(hn:o.kH m=true): o.Ok g0 w l:=by
 obtain⟨e1,e2,e3,e4⟩:=hL.at_ l hne;cases o with
 | bH T cs =>
   obtain⟨h1,hs,b,vs,h2,h3,h4,h5,h6⟩:=h;exact⟨e1.trans h1,hs,b,vs,e2.trans h2,h3,h4,fun i hi=>(h5 i hi).like hL (mK hn i),h6⟩
 | bW T el xs =>
   obtain⟨h1,hf,h2⟩:=h;refine⟨e1.trans h1,hf,?_⟩;rcases h2 with⟨h2,h3,h4⟩|⟨b,vs,h2,h3,h4,h5,h6,h7⟩
   ·exact .inl ⟨h2,e2.trans h3,e3.trans h4.1,e4.trans h4.2⟩
   exact .inr ⟨b,vs,e2.trans h2,h3,by rw[e3,e4];exact h4,by rw[e3];exact h5,fun i c hi hc=>by rw[e4];exact(h6 i c hi hc).like hL (Hq (mK hn i) c),by rw[e4];exact h7⟩
 | fZ s pos =>
   obtain⟨h1,b,h2,h3⟩:=h;exact⟨e1.trans h1,b,e2.trans h2,h3⟩
 | map es =>
   obtain⟨h1,b,ms,clock,h2,h3,h4,h6,h5⟩:=h;refine⟨e1.trans h1,b,ms,clock,e2.trans h2,h3,h4,h6,fun i hi=>?_⟩;have:=bt.1 hn (es.getD i default) (by rw[aj,aJ hi];exact c9 hi);rw[aD]at this;exact⟨(h5 i hi).1.like hL this.1,(h5 i hi).2.like hL this.2⟩
 | loop nt e ps ca cb st pe =>
   obtain⟨h1,b,rec,h2,h3,h4,h5,h6,h7,h8,h9,h10⟩:=h;exact⟨e1.trans h1,b,rec,e2.trans h2,h3,h4,h5,h6,h7,h8,h9,fun t ht=>(h10 t ht).like hL (bt.1 hn t (eO.2 ht))⟩
 | dead=>trivial
 | resv=>exact⟨e1.trans h.1,e2.trans h.2.1,e3.trans h.2.2.1,e4.trans h.2.2.2⟩
def AV.cst: AV->Bool
 | .bool _ | .int .. | .str _ | .aP | .ew | .ld | .eG | .iU=>true
 | _=>false
def VR.cst{g g':aC}{w w':World}{a:AV}{v:Value}(h:VR g w a v)(hc:a.cst=true): VR g' w' a v:=by
 cases h<;>first|(simp[AV.cst]at hc;done)|constructor
def abE{m:Nat}{a:AV}(hc:a.cst=true): a.kH m=true:=by
 cases a<;>first|(simp[AV.cst]at hc;done)|rfl
def YQ{m:Nat}{cs:List AV}(hc:cs.all AV.cst=true): AV.me m cs=true:=by
 induction cs with
 | nil=>rfl
 | cons a cs ih =>
   simp only[List.all_cons,aD]at hc;simp only[AV.me,abE hc.1,ih hc.2,Bool.and_true]
def adt{g g':aC}{w:World}{r:AV}{e:Ending}(h:vf g w (.ret r) e)(hm:jQ g w g' w): vf g' w (.ret r) e:=by
 cases e<;>first|exact VR.mono hm h|exact h
def om{σ : ai}{m l:Nat}{o:bG}(hne:l≠m)(h:Live σ l): Live (σ.set m o) l:=by
 obtain⟨o',h1,h2⟩:=h;exact⟨o',by rw[aI (Ne.symm hne)];exact h1,h2⟩
def cV.resv {P : Program} {f : FuncId} {args : List AV} {σ s2 : ai} {r : AV} {m : Nat} {T : Option TypeId} {cs : List AV} (hm : σ[m]? = some .resv) (h2 : s2[m]? = some .resv) (ha : AV.me m args = true) (hs : Be m σ = true) (hc : cs.all AV.cst = true)
    (h:cV P f args σ (fun o σ'=>o = .ret r/\σ'=s2)):cV P f args (σ.set m (.bH T cs)) (fun o σ'=>o = .ret r/\σ'=s2.set m (.bH T cs)):=by
 refine⟨h.1,fun g w vs hR hl hv=>?_⟩;have hml:m < σ.length:=(aK.1 hm).1;have r8:(σ.set m (.bH T cs))[m]? = some (.bH T cs):=bI hml;obtain⟨TM,hsc,b,us,hb,hrow,akn,hcells,hty⟩:=hR.ok m _ r8;have jg:Live (σ.set m (.bH T cs)) m:=⟨_,r8,rfl⟩;have hL:YP m g (g.reset m 0 none 0 0):=⟨fun _ h=>h,aV _,fun l hne=>by simp[aC.reset,hne]⟩;have Oa:(g.reset m 0 none 0 0).base m=none:=by simp[aC.reset]
 have Oi:∀ l,l≠m->(g.reset m 0 none 0 0).base l=g.base l:=fun l hne=>(hL.at_ l hne).2.1;have Hr:∀ {l c:Nat},(g.reset m 0 none 0 0).base l=some c->l≠m:=fun hl e=>by subst e;rw[Oa]at hl;cases hl
 have hR0:Rel (g.reset m 0 none 0 0) w σ:=by
  refine⟨by have:=hR.len;rw[eC]at this;exact this,hR.lt,fun l o ho=>?_,fun l l' c h1 h3 h4 h5=>?_,fun l c h1 h3=>?_,hR.glob⟩
  ·by_cases e:l=m
   ·subst e;rw[hm]at ho;cases ho;simp[bG.Ok,aC.reset]
   exact(hR.ok l o (by rw[aI (Ne.symm e)];exact ho)).like hL e (bt.1 hs o (List.mem_of_getElem? ho))
  ·have n1:=Hr h4;have n2:=Hr h5;rw[Oi _ n1]at h4;rw[Oi _ n2]at h5;exact hR.inj l l' c (om n1 h1) (om n2 h3) h4 h5
  have n1:=Hr h3;rw[Oi _ n1]at h3;exact hR.qy l c (om n1 h1) h3
 refine(h.2 _ w vs hR0 hl (fun i hi=>(hv i hi).like hL (mK ha i))).mono ?_;rintro e w' ⟨out,g1,s1,r1,r2,r3,rfl,rfl⟩;have TN:b<w.heap.size:=hrow.lt
 have hnt:¬ kD σ (g.reset m 0 none 0 0) b:=by
  rintro⟨l,h1,h3⟩;have n1:=Hr h3;rw[Oi _ n1]at h3;exact n1 (hR.inj l m b (om n1 h1) jg h3 hb)
 have mu:w'.heap[b]? = w.heap[b]?:=r2.frame b TN hnt;have IK:¬ g.eS b:=hR.qy m b jg hb;obtain⟨q1,q2,q3,q4⟩:=r1.ok m _ h2;have ako:m<s1.length:=(aK.1 h2).1;have ail:(s1.set m (.bH T cs))[m]? = some (.bH T cs):=bI ako;have adu:(g1.reset m 1 (some b) (g.cap m) (g.off m)).base m=some b:=by simp[aC.reset]
 have akp:∀ l,l≠m->(g1.reset m 1 (some b) (g.cap m) (g.off m)).base l=g1.base l:=fun l hne=>by simp[aC.reset,hne]
 have adw:jQ g1 w' (g1.reset m 1 (some b) (g.cap m) (g.off m)) w':=by
  refine⟨fun c hc=>⟨hc,rfl⟩,aV _,fun l _=>?_⟩;by_cases e:l=m
  ·subst e;simp[aC.reset,q1]
  simp[aC.reset,e]
 have hmg:jQ g w (g1.reset m 1 (some b) (g.cap m) (g.off m)) w':=by
  refine⟨fun c hc=>r2.mono.eS c hc,r2.mono.n,fun l hl=>?_⟩;by_cases e:l=m
  ·subst e;simp[aC.reset,TM,hb]
  have:=r2.mono.ver l hl;simpa[aC.reset,e]using this
 have hold:∀ l c,Live (s1.set m (.bH T cs)) l->(g1.reset m 1 (some b) (g.cap m) (g.off m)).base l=some c->(l=m/\c=b)\/(l≠m/\Live s1 l/\g1.base l=some c):=fun l c h1 h3=>by
  rcases kL h1 with⟨e,_,_⟩|⟨e,h4⟩
  ·subst e;rw[adu]at h3;exact .inl ⟨rfl,(Option.some.inj h3).symm⟩
  rw[akp _ e]at h3;exact .inr ⟨e,h4,h3⟩
 have hfree:∀ l,Live s1 l->g1.base l=some b->False:=fun l h1 h3=>hnt (r2.Di b TN ⟨l,h1,h3⟩)
 refine⟨.ret r,g1.reset m 1 (some b) (g.cap m) (g.off m),s1.set m (.bH T cs),⟨?_,r1.lt,fun l o ho=>?_,fun l l' c h1 h3 h4 h5=>?_,fun l c h1 h3 hi=>?_,r1.glob⟩,
  ⟨hmg,r2.size,r2.os,r2.tape,r2.output,fun c hc hn=>r2.frame c hc fun⟨l,h1,h3⟩=>?_,fun c hc hi=>?_,fun c hc ht=>?_⟩,adt r3 adw,rfl,rfl⟩
 ·rw[eC];exact r1.len
 ·by_cases e:l=m
  ·subst e;rw[ail]at ho;cases ho;refine⟨by simp[aC.reset],hsc,b,us,adu,hrow.of_heap mu,akn,fun i hi=>(hcells i hi).cst ?_,hty.of_heap mu⟩;rw[aj,aJ hi];exact bt.1 hc _ (c9 hi)
  rw[aI (Ne.symm e)]at ho;exact(r1.ok l o ho).step adw (by rw[<-r1.len];exact(aK.1 ho).1) (by simp[aC.reset,e]) (fun _ _=>rfl)
 ·rcases hold l c h1 h4 with⟨a1,a2⟩|⟨a1,a2,a3⟩<;>rcases hold l' c h3 h5 with⟨b1,b2⟩|⟨b1,b2,b3⟩
  ·rw[a1,b1]
  ·subst a2;exact(hfree l' b2 b3).elim
  ·subst b2;exact(hfree l a2 a3).elim
  exact r1.inj l l' c a2 b2 a3 b3
 ·rcases hold l c h1 h3 with⟨a1,a2⟩|⟨a1,a2,a3⟩
  ·subst a2;rcases r2.uD c TN hi with h4|h4
   ·exact IK h4
   exact hnt h4
  exact r1.qy l c a2 a3 hi
 ·have n1:=Hr h3;rw[Oi _ n1]at h3;exact hn ⟨l,om n1 h1,h3⟩
 ·rcases r2.uD c hc hi with h4|⟨l,h1,h3⟩
  ·exact .inl h4
  have n1:=Hr h3;rw[Oi _ n1]at h3;exact .inr ⟨l,om n1 h1,h3⟩
 obtain⟨l,h1,h3⟩:=ht;rcases hold l c h1 h3 with⟨a1,a2⟩|⟨a1,a2,a3⟩
 ·subst a2;exact⟨m,jg,hb⟩
 obtain⟨k,k1,k2⟩:=r2.Di c hc ⟨l,a2,a3⟩;have n1:=Hr k2;rw[Oi _ n1]at k2;exact⟨k,om n1 k1,k2⟩
def bV.uses(g:bV): List Nat:=g.op.uses++(match g.guard with|some (k,_)=>[k]|none=>[])
def ez(P:Program)(Q:AQ)(g:bV)(K:Env->ai->Prop)(e:Env)(σ : ai): Prop :=
 match g.guard with
 | none=>g.op.run P e σ (fun v σ'=>K (cZ e g.dst v) σ') (fun v σ'=>Q (.panic v) e σ')
 | some (k, b) => match e k with
   | .bool t => (t = b -> g.op.run P (cZ e (some k) (.bool b)) σ (fun v σ' => K (cZ (cZ e (some k) (.bool b)) g.dst v) σ') (fun v σ' => Q (.panic v) (cZ e (some k) (.bool b)) σ')) /\
      (t = !b->K (cZ (cZ e (some k) (.bool (!b))) g.dst (.bg [])) σ)
   | .bg []=>K (cZ e g.dst (.bg [])) σ
   | _=>False
def nk{e:Env}{k:Nat}{v:AV}(h:e k=v): cZ e (some k) v=e:=by
 funext n;simp only[cZ];split
 ·rename_i h1;subst h1;exact h.symm
 rfl
section
variable {P:Program} {Q:AQ}
def wj(g:bV)(r:List bV)(e:Env)(σ : ai): dL P Q (g::r) e σ = ez P Q g (dL P Q r) e σ:=by
 obtain⟨o,d,gd⟩:=g;cases gd with
 | none=>rfl
 | some kb=>obtain⟨k,b⟩:=kb;rfl
def bV.D(P:Program)(g:bV)(e:Env)(σ : ai)(v:AV)(σ':ai): Prop :=
 match g.guard with
 | none=>g.op.D P e σ v σ'
 | some (k, b) => match e k with
   | .bool t=>if t=b then g.op.D P e σ v σ' else v = .bg []/\σ' = σ
   | .bg []=>v = .bg []/\σ' = σ
   | _=>False
def jJ{g:bV}{e:Env}{σ : ai}{v:AV}{σ':ai}(h:g.D P e σ v σ'): (g.op.D P e σ v σ'/\ ∀ s u s',g.op.D P e s u s'->g.D P e s u s')\/(v = .bg []/\σ' = σ/\ ∀ s,g.D P e s (.bg []) s):=by
 unfold bV.D at *;split at h
 ·exact .inl ⟨h,fun _ _ _ h=>h⟩
 split at h
 ·split at h
  ·rename_i h1 h2;simp only[aB h2];exact .inl ⟨h,fun _ _ _ h=>h⟩
  rename_i h1 h2;simp only[aq h2];exact .inr ⟨h.1,h.2,fun _=>⟨trivial,trivial⟩⟩
 ·exact .inr ⟨h.1,h.2,fun _=>⟨rfl,rfl⟩⟩
 exact h.elim
def h_{g:bV}{K:Env->ai->Prop}{e:Env}{σ : ai}(hc:g.op.cls≠ .no): ez P Q g K e σ↔ ∃ v σ',g.D P e σ v σ'/\K (cZ e g.dst v) σ':=by
 unfold ez bV.D;split
 ·exact wK hc
 rename_i k b hg;split
 ·rename_i t ht;by_cases htb:t=b
  ·subst htb;rw[nk ht];simp only[↓reduceIte];constructor
   ·exact fun h=>(wK hc).1 (h.1 trivial)
   exact fun h=>⟨fun _=>(wK hc).2 h,fun h=>by cases t<;>cases h⟩
  have hn:t = !b:=by cases t<;>cases b<;>simp_all
  have hs:cZ e (some k) (.bool (!b))=e:=nk (by rw[ht,hn]);simp only[aq htb,hs];constructor
  ·exact fun h=>⟨_,σ,⟨rfl,rfl⟩,h.2 hn⟩
  rintro⟨v,H,⟨rfl,rfl⟩,h⟩;exact⟨fun h'=>absurd h' htb,fun _=>h⟩
 ·constructor
  ·exact fun h=>⟨_,σ,⟨rfl,rfl⟩,h⟩
  rintro⟨v,H,⟨rfl,rfl⟩,h⟩;exact h
 constructor
 ·exact fun h=>h.elim
 exact fun⟨_,_,h,_⟩=>h.elim
def Hs{g:bV}{K K':Env->ai->Prop}{e:Env}{σ : ai}(h:∀ e σ,K e σ->K' e σ): ez P Q g K e σ->ez P Q g K' e σ:=by
 unfold ez;split
 ·exact m_ (fun v s=>h _ _) (fun _ _ h=>h)
 split
 ·exact fun hh=>⟨fun ht=>m_ (fun v s=>h _ _) (fun _ _ h=>h) (hh.1 ht),fun ht=>h _ _ (hh.2 ht)⟩
 ·exact h _ _
 exact id
def Ht{g:bV}{e e':Env}{σ : ai}{v:AV}{σ':ai}(h:∀ t ∈ g.uses,e t=e' t)(hD:g.D P e σ v σ'): g.D P e' σ v σ':=by
 have ho:∀ t ∈ g.op.uses,e t=e' t:=fun t ht=>h t (fS _ ht);unfold bV.D at *;split at hD
 ·rename_i hg;exact RP ho hD
 rename_i k b hg;have hk:e k=e' k:=h k (by simp[bV.uses,hg]);rw[<-hk];split at hD
 ·split at hD
  ·rename_i h1 h2;simp only[h1,aB h2];exact RP ho hD
  rename_i h1 h2;simp only[h1,aq h2];exact hD
 ·simp_all
 exact hD.elim
def qd{g:bV}{e:Env}{σ : ai}{v:AV}{σ':ai}(hc:g.op.cls = .pu\/g.op.cls = .rd)(hD:g.D P e σ v σ'): σ' = σ:=by
 rcases jJ hD with⟨h,_⟩|⟨_,h,_⟩
 ·exact adf hc h
 exact h
def RY{g:bV}{e:Env}{σ : ai}{v:AV}{σ':ai}(hc:g.op.cls = .pu\/g.op.cls = .rd)(hD:g.D P e σ v σ')(H:ai): g.D P e (σ++H) v (σ++H):=by
 rcases jJ hD with⟨h,f⟩|⟨rfl,_,f⟩
 ·exact f _ _ _ (adg hc h H)
 exact f _
def RZ{g:bV}{e:Env}{σ : ai}{v:AV}{σ':ai}(hc:g.op.cls = .pu)(hD:g.D P e σ v σ')(s:ai): g.D P e s v s:=by
 rcases jJ hD with⟨h,f⟩|⟨rfl,_,f⟩
 ·exact f _ _ _ (adh hc h s)
 exact f _
def aim{g:bV}{e:Env}{σ : ai}{v:AV}{σ':ai}(hc:g.op.cls = .al)(hD:g.D P e σ v σ'): ∃ H,σ' = σ++H:=by
 rcases jJ hD with⟨h,_⟩|⟨_,h,_⟩
 ·exact akc hc h
 exact⟨[],by simp[h]⟩
def adx {g : bV} {e : Env} {σ : ai} {v : AV} {σ' : ai} {l : Nat} {ob mA : bG} {rx : Option AX} (hr : g.op.qa = some rx) (hl : σ[l]? = some ob) (Iu : ob.like mA) (hap : ∀ x, rx = some x -> (x.ev e).obj ≠ some l) (hD : g.D P e σ v σ') :
    g.D P e (σ.set l mA) v (σ.set l mA):=by
 rcases jJ hD with⟨h,f⟩|⟨rfl,_,f⟩
 ·exact f _ _ _ (aie hr hl Iu hap h)
 exact f _
def ain{g:bV}{e:Env}{σ : ai}{v:AV}{σ':ai}(hc:g.op.cls = .st)(hD:g.D P e σ v σ'): σ' = σ\/ ∃ y l ob mA,g.op.rj=some y/\σ[l]? = some ob/\ob.like mA/\(y.ev e).obj=some l/\σ' = σ.set l mA:=by
 rcases jJ hD with⟨h,_⟩|⟨_,h,_⟩
 ·exact .inr (adi hc h)
 exact .inl h
def jx(d:Option Nat)(l:List Nat): Bool:=match d with
 | some d=> !l.contains d
 | none=>true
def pz(ag:Bool)(n t:Nat): List (Bool × Nat)->List AX->Bool
 |(R0,n')::r,.t t'::xs=>(ag==R0 && n==n' && t==t') || pz ag n t r xs
 | _::r,_::xs=>pz ag n t r xs
 | _,_=>false
def Oj: bf->bf->Bool
 | .load ag n (.t t),.ex (.cw _ k iT) az=>n != 0 && pz ag n t iT (az.drop k)
 | _,_=>false
def Ol: bf->bf->Bool
 | .ex (.cw _ c iT) az,.jO k _ cs=>pz true 0 k iT (az.drop c) && cs.all AV.cst
 | _,_=>false
def NM(j k:bf): Bool :=
 match j.cls,k.cls with
 | .no,_|_,.no=>false
 | .pu,_|_,.pu=>true
 | .rd,.rd | .rd,.al=>true
 | .rd,.st=>j.qa.isSome
 | .st, .st => match j.NJ, k.NJ with
   | some a,some b=>a != b
   | _,_=>false
 | .st,.rd=>j.rj.isSome && k.oQ.isSome
 | .rd, .ap => match j.qa with
   | some (some _)=>true
   | _=>false
 | .rd,.cw=>Oj j k
 | .cw,.st=>Ol j k
 | _,_=>false
def bf.Bt: bf->Bool
 | .ex (.pc _) _=>true
 | _=>false
def TO(j k:bf): Bool:=k.Bt && decide (j.cls≠ .no)
def IL(j k:bV): Bool :=
 (NM j.op k.op || TO j.op k.op) && jx j.dst k.uses && jx k.dst j.uses && jx j.dst k.dst.toList
def needs(j k:bV): Option (AX × AX):=match j.op.qa,k.op.rj with
 | some (some x),some y=>some (x,y)
 | _, _ => match j.op.rj, k.op.oQ with
   | some y,some x=>some (x,y)
   | _,_=>none
def TP{o:bf}{x:AX}(h:o.oQ=some x): o.rj=none:=by
 cases o<;>simp[bf.oQ]at h<;>rfl
def iW{e:Env}{d:Option Nat}{l:List Nat}{v:AV}(h:jx d l=true): ∀ t ∈ l,cZ e d v t=e t:=by
 intro t ht;cases d with
 | none=>rfl
 | some d =>
   simp only[jx,dR,List.contains_eq_mem,decide_eq_false_iff_not]at h;simp only[cZ];rw[aq (by rintro rfl;exact h ht)]
def Hu{e:Env}{j k:Option Nat}{v u:AV}(h:jx j k.toList=true): cZ (cZ e j v) k u=cZ (cZ e k u) j v:=by
 funext t
 cases j with
 | none=>rfl
 | some j =>
   cases k with
   | none=>rfl
   | some k =>
     simp[jx]at h;simp only[cZ];by_cases h1:t=k
     ·subst h1;simp[Ne.symm h]
     simp[h1]
def YR{j k:bf}(h:NM j k=true): j.cls≠ .no/\k.cls≠ .no:=by
 unfold NM at h;split at h<;>simp_all
def IN{el:El}{x:AV}{off:Nat}{ag:Bool}{n:Nat}{K K':AV->Prop}(h1:partOf el x off ag n K)(h2:partOf el x off ag n K'): ∃ v,K v/\K' v:=by
 unfold partOf at h1 h2;by_cases h:off=0/\n=el.sz/\ag=el.ag
 ·rw[aB h]at h1 h2;exact⟨_,h1,h2⟩
 rw[aq h]at h1 h2;obtain⟨_,h1⟩:=h1;obtain⟨_,h2⟩:=h2;cases x<;>first|exact h1.elim|exact⟨_,h1.1,h2.1⟩
def V8{σ : ai}{ag:Bool}{n:Nat}{p:AV}{K K':AV->Prop}(h1:gE σ ag n p K)(h2:gE σ ag n p K'): ∃ v,K v/\K' v:=by
 unfold gE at h1 h2;cases p<;>(try exact h1.elim)
 case ref l off =>
  dsimp only at h1 h2;split at h1
  ·rename_i h;rw[h]at h2;exact⟨_,h1.2.2,h2.2.2⟩
  exact h1.elim
 case cN el x off=>exact IN h1 h2
 case dw el l m i off =>
  dsimp only at h1 h2;split at h1
  ·rename_i h;rw[h]at h2;exact IN h1.2.2.2 h2.2.2.2
  exact h1.elim
def DG{az:List AV}{σ σ2:ai}{e:Env}{ag:Bool}{n t:Nat}(hn:n≠0): ∀(iT:List (Bool × Nat)) (xs:List AX),pz ag n t iT xs=true->nH az σ σ2 iT (xs.map (AX.ev e))->e t = .ew\/ ∃ v,gE σ ag n (e t) (fun u=>u=v)/\gE σ2 ag n (e t) (fun u=>u=v)
 | [],xs,h,_=>by cases xs<;>simp[pz]at h
 |(R0,n')::r,[],h,_=>by simp[pz]at h
 | (R0, n') :: r, x :: xs, h, hk => by
   obtain⟨h1,h2⟩:=hk;cases x with
   | c a=>exact DG hn r xs (by simpa[pz]using h) h2
   | t t' =>
     simp only[pz,dD,aD,beq_iff_eq]at h;rcases h with⟨⟨rfl,rfl⟩,rfl⟩|h
     ·rw[aq hn]at h1;exact h1
     exact DG hn r xs h h2
def DH{az:List AV}{σ σ2:ai}{e:Env}{t:Nat}: ∀(iT:List (Bool × Nat)) (xs:List AX),pz true 0 t iT xs=true->nH az σ σ2 iT (xs.map (AX.ev e))->e t = .ew\/NI az σ σ2 (e t)
 | [],xs,h,_=>by cases xs<;>simp[pz]at h
 |(R0,n')::r,[],h,_=>by simp[pz]at h
 | (R0, n') :: r, x :: xs, h, hk => by
   obtain⟨h1,h2⟩:=hk;cases x with
   | c a=>exact DH r xs (by simpa[pz]using h) h2
   | t t' =>
     simp only[pz,dD,aD,beq_iff_eq]at h;rcases h with⟨⟨rfl,rfl⟩,rfl⟩|h
     ·rw[aB rfl]at h1;exact h1
     exact DH r xs h h2
def akq{j k:bf}{e:Env}{σ σ2:ai}{vj vk:AV}(h:Oj j k=true)(dj:j.D P e σ vj σ)(dk:k.D P e σ vk σ2): j.D P e σ2 vj σ2:=by
 unfold Oj at h;split at h
 ·rename_i ag n t f k iT az;simp only[aD,bne_iff_ne,ne_eq]at h;obtain⟨hn,h⟩:=h;obtain⟨hj,_⟩:=(show(∀ H,(bf.load ag n (.t t)).run P e (σ++H) (Is vj (σ++H)) No)/\σ = σ from dj)
  replace dk:(ef.cw f k iT).run P (az.map (AX.ev e)) σ (Is vk σ2) No:=dk
  obtain⟨s2,hk,rfl⟩:∃ s2,nH ((az.map (AX.ev e)).take k) σ s2 iT ((az.map (AX.ev e)).drop k)/\s2 = σ2:=by
   cases az with
   | nil=>exact dk.elim
   | cons x xs=>obtain⟨r,s2,_,hk,_,e2⟩:=dk;exact⟨s2,hk,e2⟩
  rw[<-List.map_drop]at hk
  have h3:gE σ ag n (e t) (fun u=>u=vj):=by
   have:gE (σ++[]) ag n (e t) (fun u=>Is vj (σ++[]) u (σ++[])):=hj [];rw[cI]at this;exact kU (fun v h=>h.1) this
  obtain⟨v,h1,h2⟩:=(DG hn _ _ h hk).resolve_left (fun e0=>by rw[e0]at h3;exact h3);obtain⟨u,rfl,rfl⟩:=V8 h1 h3;obtain⟨u',h4,rfl⟩:=oe h2
  exact(show(∀ H,(bf.load ag n (.t t)).run P e (s2++H) (Is u' (s2++H)) No)/\s2=s2 from
   ⟨fun H=>(show gE (s2++H) ag n (e t) (fun u=>Is u' (s2++H) u (s2++H)) from kU (fun v h=>⟨h,rfl⟩) (h4 H)),rfl⟩)
 ·cases h
def IP{σ : ai}{ag:Bool}{n m:Nat}{p:AV}{K:AV->Prop}(hm : σ[m]? = some .resv)(h:gE σ ag n p K): p.obj≠some m:=by
 intro e;unfold gE at h;split at h
 ·rename_i l off;obtain rfl:l=m:=Option.some.inj e;rw[hm]at h;exact h.elim
 ·cases e
 ·rename_i el l k i off;obtain rfl:l=m:=Option.some.inj e;rw[hm]at h;exact h.elim
 exact h.elim
def V9{k m:Nat}{σ : ai}{ob:bG}(h:Be k σ = true)(ho:ob.kH k=true): Be k (σ.set m ob)=true:=by
 unfold Be at *;rw[bt]at *;intro o hx;rcases List.mem_or_eq_of_mem_set hx with h1|rfl
 ·exact h o h1
 exact ho
def IQ{az:List AV}{σ σ2:ai}{m:Nat}{T:Option TypeId}{cs:List AV}(h1 : σ[m]? = some .resv)(h2 : σ2[m]? = some .resv)(hc:cs.all AV.cst=true): ∀(iT:List (Bool × Nat)) (ps:List AV),nH az σ σ2 iT ps->nH az (σ.set m (.bH T cs)) (σ2.set m (.bH T cs)) iT ps
 | [],_,_=>trivial
 | (ag, n) :: r, p :: ps, ⟨h3, h4⟩ => by
   refine⟨?_,IQ h1 h2 hc r ps h4⟩;rcases h3 with h3|h3
   ·exact .inl h3
   refine .inr ?_;by_cases hn:n=0
   ·rw[aB hn]at h3 |-;unfold NI at h3 |-;split at h3
    ·rename_i k;intro hk;by_cases e:m=k
     ·subst e;rw[bI (aK.1 h2).1]at hk;cases hk
     rw[aI e]at hk |-;obtain⟨a,b,c⟩:=h3 hk;exact⟨a,b,V9 c (YQ hc)⟩
    exact h3.elim
   rw[aq hn]at h3 |-;obtain⟨v,a,b⟩:=h3;exact⟨v,yx (IP h1 a) a,yx (IP h2 b) b⟩
 | _::_,[],h=>h.elim
def ady{j k:bf}{e:Env}{σ σ2 σ3:ai}{vj vk:AV}(h:Ol j k=true)(dj:j.D P e σ vj σ2)(dk:k.D P e σ2 vk σ3): ∃ s,k.D P e σ vk s/\j.D P e s vj σ3:=by
 unfold Ol at h;split at h
 ·rename_i f c iT az kk T cs;simp only[aD]at h;obtain⟨h,hc⟩:=h
  replace dj:(ef.cw f c iT).run P (az.map (AX.ev e)) σ (Is vj σ2) No:=dj
  have dk:bf.run P (.jO kk T cs) e σ2 (Is vk σ3) No:=dk;cases az with
  | nil=>exact dj.elim
  | cons x xs =>
    obtain⟨r,s2,aio,hk,rfl,rfl⟩:=dj;simp only[bf.run]at dk;split at dk
    ·rename_i m hm;split at dk
     ·rename_i Gz;obtain⟨rfl,rfl⟩:=dk;have hr:=DH (e:=e) iT ((x::xs).drop c) h (by rw[List.map_drop];exact hk);rw[hm]at hr;obtain⟨r1,r2,r3⟩:=hr.resolve_left (fun e0=>by cases e0) Gz;refine⟨σ.set m (.bH T cs),?_,?_⟩
      ·show bf.run P (.jO kk T cs) e σ (Is _ _) No;simp only[bf.run,hm,r1];exact⟨rfl,rfl⟩
      show(ef.cw f c iT).run P ((x::xs).map (AX.ev e)) (σ.set m (.bH T cs)) (Is _ _) No;exact⟨r,_,cV.resv r1 Gz r2 r3 hc aio,IQ r1 Gz hc _ _ hk,rfl,rfl⟩
     exact dk.elim
    exact dk.elim
 ·cases h
def bV.pcR(P:Program)(g:bV)(n:FuncId)(az:List AX)(e:Env): Option Out->Prop
 | none => match g.guard with
   | none=>False
   | some (k, b) => match e k with
     | .bool t=>t = !b
     | .bg []=>True
     | _=>False
 | some o => (∀ s, cV P n (az.map (AX.ev e)) s fun o' s' => o' = o /\ s' = s) /\ match g.guard with
   | none=>True
   | some (k,b)=>e k = .bool b
def pcE(P:Program)(Q:AQ)(d:Option Nat)(K:Env->ai->Prop)(e:Env)(σ : ai): Option Out->Prop
 | none=>K (cZ e d (.bg [])) σ
 | some (.ret r)=>K (cZ e d r) σ
 | some (.panic v)=> ∀ s,Q (.panic v) e s
def V_{g:bV}{n:FuncId}{az:List AX}{K:Env->ai->Prop}{e:Env}{σ : ai}(hg:g.op = .ex (.pc n) az): ez P Q g K e σ↔ ∃ o,g.pcR P n az e o/\pcE P Q g.dst K e σ o:=by
 have key:∀ {K1:AV->ai->Prop} {K2:AV->ai->Prop},g.op.run P e σ K1 K2↔ ∃ o,(∀ s,cV P n (az.map (AX.ev e)) s fun o' s'=>o'=o/\s'=s)/\pcK (fun r=>K1 r σ) (fun v=> ∀ s,K2 v s) o:=by
  intro K1 K2;rw[hg];exact Iff.rfl
 unfold ez bV.pcR;cases hgd:g.guard with
 | none =>
   simp only;rw[key];constructor
   ·rintro⟨o,h1,h2⟩;exact⟨some o,⟨h1,trivial⟩,by cases o<;>exact h2⟩
   rintro⟨o,h1,h2⟩;cases o with
   | none=>exact h1.elim
   | some o=>exact⟨o,h1.1,by cases o<;>exact h2⟩
 | some kb =>
   obtain⟨k,b⟩:=kb;simp only;split
   ·rename_i t ht;constructor
    ·rintro⟨h1,h2⟩;by_cases htb:t=b
     ·have h1:=h1 htb;subst htb;rw[nk ht,key]at h1;obtain⟨o,h3,h4⟩:=h1;exact⟨some o,⟨h3,by rw[ht]⟩,by cases o<;>exact h4⟩
     have hn:t = !b:=by cases t<;>cases b<;>simp_all
     have h2:=h2 hn;rw[nk (by rw[ht,hn])]at h2;exact⟨none,by rw[ht];exact hn,h2⟩
    rintro⟨o,h1,h2⟩;cases o with
    | none =>
      rw[ht]at h1;have h1:t = !b:=h1;refine⟨fun h=>absurd h (by rw[h1];cases b<;>decide),fun _=>?_⟩;rw[nk (by rw[ht,h1])];exact h2
    | some o =>
      obtain⟨h3,h4⟩:=h1;have h4:e k = .bool b:=h4;have htb:t=b:=AV.bool.inj (ht.symm.trans h4);refine⟨fun _=>?_,fun h=>absurd h (by rw[htb];cases b<;>decide)⟩;rw[nk h4,key];exact⟨o,h3,by cases o<;>exact h2⟩
   ·rename_i ht;constructor
    ·intro h;exact⟨none,by rw[ht];trivial,h⟩
    rintro⟨o,h1,h2⟩;cases o with
    | none=>exact h2
    | some o=>exact absurd (ht.symm.trans h1.2) aT
   rename_i h3 h4;constructor
   ·exact fun h=>h.elim
   rintro⟨o,h1,h2⟩;cases o with
   | none =>
     exact False.elim h1
   | some o=>exact(h3 _ h1.2).elim
def abF {j k : bV} {K : Env -> ai -> Prop} {e : Env} {σ : ai} (mB : TO j.op k.op = true) (s1 : jx j.dst k.uses = true) (s2 : jx k.dst j.uses = true) (s3 : jx j.dst k.dst.toList = true)
    (hQ:∀ v e e' σ,Q (.panic v) e σ->Q (.panic v) e' σ) (hh:ez P Q j (ez P Q k K) e σ):ez P Q k (ez P Q j K) e σ:=by
 simp only[TO,aD,au]at mB;obtain⟨hk,hj⟩:=mB
 obtain⟨n,az,hg⟩:∃ n az,k.op = .ex (.pc n) az:=by
  revert hk;cases k.op<;>simp[bf.Bt];rename_i o xs;cases o<;>simp[bf.Bt]
 obtain⟨vj,R5,dj,hh⟩:=(h_ hj).1 hh;obtain⟨o,h1,h2⟩:=(V_ hg).1 hh;have hu:∀ t ∈ k.uses,cZ e j.dst vj t=e t:=iW s1
 have hz:az.map (AX.ev (cZ e j.dst vj))=az.map (AX.ev e):=by
  exact AX.n5 fun t ht=>hu t (by simp only[bV.uses,hg];exact fS _ ht)
 have hR:k.pcR P n az e o:=by
  have hgk:∀ m b,k.guard=some (m,b)->cZ e j.dst vj m=e m:=fun m b h=>hu m (by simp[bV.uses,h]);unfold bV.pcR at h1 |-;cases o with
  | none =>
    cases hgd:k.guard with
    | none=>rw[hgd]at h1;exact h1.elim
    | some kb=>obtain⟨m,b⟩:=kb;rw[hgd]at h1;simp only[hgk m b hgd]at h1;exact h1
  | some o =>
    rw[hz]at h1;refine⟨h1.1,?_⟩;cases hgd:k.guard with
    | none=>trivial
    | some kb=>obtain⟨m,b⟩:=kb;have:=h1.2;rw[hgd]at this;simp only[hgk m b hgd]at this;exact this
 have tr:∀ v,j.D P (cZ e k.dst v) σ vj R5:=fun v=>Ht (fun t ht=>(iW s2 t ht).symm) dj;refine(V_ hg).2 ⟨o,hR,?_⟩;cases o with
 | none=>exact(h_ hj).2 ⟨vj,R5,tr _,by rw[<-Hu s3];exact h2⟩
 | some o =>
   cases o with
   | ret r=>exact(h_ hj).2 ⟨vj,R5,tr _,by rw[<-Hu s3];exact h2⟩
   | panic v=>exact fun s=>hQ _ _ _ _ (h2 s)
def swap {j k : bV} {K : Env -> ai -> Prop} {e : Env} {σ : ai} (h : IL j k = true) (hQ : k.op.Bt = true -> ∀ v e e' σ, Q (.panic v) e σ -> Q (.panic v) e' σ) (hap : ∀ x y, needs j k = some (x, y) -> (jx j.dst (x.uses ++ y.uses) = true /\ jx k.dst (x.uses ++ y.uses) = true) /\ ∀ e σ, K e σ -> pJ (x.ev e) (y.ev e))
    (hh:ez P Q j (ez P Q k K) e σ):ez P Q k (ez P Q j K) e σ:=by
 simp only[IL,aD]at h;obtain⟨⟨⟨mB,s1⟩,s2⟩,s3⟩:=h;rcases Bool.or_eq_true _ _ ▸ mB with mB|mB
 case inr=>exact abF mB s1 s2 s3 (hQ (by simp only[TO,aD]at mB;exact mB.1)) hh
 obtain⟨hj,hk⟩:=YR mB;obtain⟨vj,R5,dj,hh⟩:=(h_ hj).1 hh;obtain⟨vk,σk,dk,hK⟩:=(h_ hk).1 hh;have w9:k.D P e R5 vk σk:=Ht (iW s1) dk;have tr:∀ {s s'},j.D P e s vj s'->j.D P (cZ e k.dst vk) s vj s':=fun h=>Ht (fun t ht=>(iW s2 t ht).symm) h;have qJ:=hK;rw[Hu s3]at hK
 have kpu:k.op.cls = .pu->ez P Q k (ez P Q j K) e σ:=fun hc=>by
  have:=qd (.inl hc) w9;subst this;exact(h_ hk).2 ⟨vk,σ,RZ hc w9 σ,(h_ hj).2 ⟨vj,_,tr dj,hK⟩⟩
 have DI:R5 = σ->j.D P e σk vj σk->ez P Q k (ez P Q j K) e σ:=fun h1 h2=>by
  subst h1;exact(h_ hk).2 ⟨vk,σk,w9,(h_ hj).2 ⟨vj,_,tr h2,hK⟩⟩
 unfold NM at mB;split at mB<;>(try (cases mB;done))
 ·rename_i hc _;exact DI (qd (.inl hc) dj) (RZ hc dj _)
 ·rename_i hc _ _;exact kpu hc
 ·rename_i hc hc2;have h1:=qd (.inr hc) dj;have h2:=qd (.inr hc2) w9;subst h1;subst h2;exact DI rfl dj
 ·rename_i hc hc2;have h1:=qd (.inr hc) dj;subst h1;obtain⟨H,rfl⟩:=aim hc2 w9;exact DI rfl (RY (.inr hc) dj H)
 rename_i hc hc2;have h1:=qd (.inr hc) dj;subst h1;rcases ain hc2 w9 with rfl|⟨y,l,ob,mA,hy,hl,Iu,Om,rfl⟩
 ·exact DI rfl dj
 obtain⟨rx,On⟩:=eJ.1 mB;refine DI rfl (adx On hl Iu (fun x hx=>?_) dj);subst hx;have hn:needs j k=some (x,y):=by simp[needs,On,hy]
 obtain⟨⟨a1,a2⟩,a3⟩:=hap x y hn;have ha:=a3 _ _ qJ
 have ex:∀ t ∈ x.uses++y.uses,cZ (cZ e j.dst vj) k.dst vk t=e t:=fun t ht=>by
  rw[iW a2 t ht,iW a1 t ht]
 rw[AX.eX (x:=x) (fun t ht=>ex t (fS _ ht)),AX.eX (x:=y) (fun t ht=>ex t (List.mem_append_right _ ht))]at ha;exact fun h1=>ha l h1 Om
 
 split at mB
 ·rename_i a b ra rb;rcases jJ dj with⟨Wa,dj2⟩|⟨rfl,rfl,vF⟩
  ·rcases jJ w9 with⟨Oo,dk2⟩|⟨rfl,rfl,lZ⟩
   ·obtain⟨n,o1,n1,n2,n3,rfl,n4⟩:=aaS ra Wa;obtain⟨m,o2,m1,m2,m3,rfl,m4⟩:=aaS rb Oo
    have hnm:n≠m:=by
     rintro rfl;rw[bI (aK.1 n2).1]at m2;exact n3 (Option.some.inj m2)
    rw[aI hnm]at m2;refine(h_ hk).2 ⟨_,_,dk2 _ _ _ (m4 σ m2),(h_ hj).2 ⟨_,_,tr (dj2 _ _ _ (n4 _ (by rw[aI (Ne.symm hnm)];exact n2))),?_⟩⟩;rw[List.set_comm _ _ (Ne.symm hnm)];exact hK
   exact(h_ hk).2 ⟨_,_,lZ σ,(h_ hj).2 ⟨_,_,tr dj,hK⟩⟩
  exact(h_ hk).2 ⟨_,_,w9,(h_ hj).2 ⟨_,_,tr (vF _),hK⟩⟩
 ·cases mB
 
 rename_i hc _;simp only[aD,eJ]at mB;obtain⟨⟨y,ry⟩,x,rx⟩:=mB;have h2:=qd (.inr (Iv rx)) w9;subst h2;rcases jJ dj with⟨Wa,_⟩|⟨rfl,rfl,_⟩
 ·obtain⟨y',l,ob,mA,hy,n2,_,aip,rfl⟩:=adi hc Wa;obtain rfl:y=y':=by rw[ry]at hy;exact Option.some.inj hy
  have hn:needs j k=some (x,y):=by
   unfold needs;rw[TP rx,ry,rx];cases j.op.qa with
   | none=>rfl
   | some o=>cases o<;>rfl
  obtain⟨⟨a1,a2⟩,a3⟩:=hap x y hn;have ha:=a3 _ _ qJ
  have ex:∀ t ∈ x.uses++y.uses,cZ (cZ e j.dst vj) k.dst vk t=e t:=fun t ht=>by
   rw[iW a2 t ht,iW a1 t ht]
  rw[AX.eX (x:=x) (fun t ht=>ex t (fS _ ht)),AX.eX (x:=y) (fun t ht=>ex t (List.mem_append_right _ ht))]at ha;have hlt:=(aK.1 n2).1;have Om:(x.ev e).obj≠some l:=fun h=>ha l h aip
  have back:(σ.set l mA).set l ob = σ:=by
   rw[iE];apply List.ext_getElem?;intro i;by_cases hi:i=l
   ·subst hi;rw[bI hlt];exact n2.symm
   rw[aI (Ne.symm hi)]
  have dk':k.D P e σ vk σ:=by
   rcases jJ w9 with⟨q1,q2⟩|⟨rfl,_,q⟩
   ·have:=RR (ob:=ob) rx (by simpa using hlt) Om q1;rw[back]at this;exact q2 _ _ _ this
   exact q σ
  exact(h_ hk).2 ⟨vk,σ,dk',(h_ hj).2 ⟨vj,_,tr dj,hK⟩⟩
 exact(h_ hk).2 ⟨vk,_,w9,(h_ hj).2 ⟨_,_,tr dj,hK⟩⟩
 
 rename_i hc hc2;have h1:=qd (.inr hc) dj;subst h1;split at mB
 ·rename_i x On
  have hro:j.op.oQ=some x:=by
   revert On;cases j.op<;>simp[bf.qa,bf.oQ]
  rcases jJ w9 with⟨Oo,_⟩|⟨rfl,rfl,_⟩
  ·obtain⟨y,hy,⟨H,rfl⟩|⟨l,ob,hlt,Om,rfl⟩⟩:=akd hc2 Oo
   ·exact DI rfl (RY (.inr hc) dj H)
   have hn:needs j k=some (x,y):=by simp[needs,On,hy]
   obtain⟨⟨a1,a2⟩,a3⟩:=hap x y hn;have ha:=a3 _ _ qJ
   have ex:∀ t ∈ x.uses++y.uses,cZ (cZ e j.dst vj) k.dst vk t=e t:=fun t ht=>by
    rw[iW a2 t ht,iW a1 t ht]
   rw[AX.eX (x:=x) (fun t ht=>ex t (fS _ ht)),AX.eX (x:=y) (fun t ht=>ex t (List.mem_append_right _ ht))]at ha;refine DI rfl ?_;rcases jJ dj with⟨q1,q2⟩|⟨rfl,_,q⟩
   ·exact q2 _ _ _ (RR hro hlt (fun h=>ha l h Om) q1)
   exact q _
  exact DI rfl dj
 ·cases mB
 
 rename_i hc _;have h1:=qd (.inr hc) dj;subst h1;rcases jJ w9 with⟨Oo,_⟩|⟨rfl,rfl,_⟩
 ·rcases jJ dj with⟨q1,q2⟩|⟨rfl,_,q⟩
  ·exact DI rfl (q2 _ _ _ (akq mB q1 Oo))
  exact DI rfl (q _)
 exact DI rfl dj
 
 rcases jJ dj with⟨Wa,dj2⟩|⟨rfl,rfl,vF⟩
 ·rcases jJ w9 with⟨Oo,dk2⟩|⟨rfl,rfl,lZ⟩
  ·obtain⟨s,q1,q2⟩:=ady mB Wa Oo;exact(h_ hk).2 ⟨_,_,dk2 _ _ _ q1,(h_ hj).2 ⟨_,_,tr (dj2 _ _ _ q2),hK⟩⟩
  exact(h_ hk).2 ⟨_,_,lZ σ,(h_ hj).2 ⟨_,_,tr dj,hK⟩⟩
 exact(h_ hk).2 ⟨_,_,w9,(h_ hj).2 ⟨_,_,tr (vF _),hK⟩⟩
def Bu(D:List Nat): AX->AX
 | .t t=>if D.contains t then .c .ew else .t t
 | .c a=> .c a
def oq(D:List Nat): Nat->List AX->List AX
 | _,[]=>[]
 | 0,x::xs=>Bu D x::oq D 0 xs
 | n+1,x::xs=>x::oq D n xs
def bf.cut(D:List Nat): bf->bf
 | .ex (.cw n c iT) az=> .ex (.cw n c iT) (oq D c az)
 | o=>o
def bV.cut(D:List Nat)(g:bV): bV:= { g with op:=g.op.cut D }
def YS{D D':List Nat}(h:∀ t ∈ D',t ∈ D)(x:AX): Bu D (Bu D' x)=Bu D x:=by
 cases x with
 | c a=>rfl
 | t t =>
   simp only[Bu];by_cases h1:t ∈ D'
   ·simp[h1,h t h1,Bu]
   simp[h1,Bu]
def Hv{D D':List Nat}(h:∀ t ∈ D',t ∈ D): ∀(az:List AX) (c:Nat),oq D c (oq D' c az)=oq D c az
 | [],c=>by cases c<;>rfl
 | x::xs,0=>by simp only[oq];rw[YS h,Hv h xs 0]
 | x::xs,n+1=>by simp only[oq];rw[Hv h xs n]
def DJ{D:List Nat}{e:Env}: ∀(az:List AX) (c:Nat),((oq D c az).map (AX.ev e)).take c=(az.map (AX.ev e)).take c
 | [],c=>by cases c<;>rfl
 | x::xs,0=>by simp
 | x::xs,n+1=>by simp only[oq,bN,List.take_succ_cons];rw[DJ xs n]
def IS{A:List AV}{σ σ2:ai}{D:List Nat}{e:Env}: ∀(iT:List (Bool × Nat)) (az:List AX),nH A σ σ2 iT (az.map (AX.ev e))->nH A σ σ2 iT ((oq D 0 az).map (AX.ev e))
 | [],az,_=>by cases az<;>trivial
 |(ag,n)::r,[],h=>h
 | (ag, n) :: r, x :: xs, ⟨h1, h2⟩ => by
   refine⟨?_,IS r xs h2⟩;cases x with
   | c a=>exact h1
   | t t =>
     by_cases ht:D.contains t
     ·simp only[Bu,aB ht];exact .inl rfl
     simp only[Bu,aq ht];exact h1
def L1{A:List AV}{σ σ2:ai}{D:List Nat}{e:Env}{iT:List (Bool × Nat)}: ∀(az:List AX) (c:Nat),nH A σ σ2 iT ((az.map (AX.ev e)).drop c)->nH A σ σ2 iT (((oq D c az).map (AX.ev e)).drop c)
 | [],c,h=>by cases c<;>exact h
 | x::xs,0,h=>IS iT (x::xs) h
 | x::xs,n+1,h=>L1 xs n h
def R6{D:List Nat}{o:bf}{e:Env}{σ : ai}{K Kp:AV->ai->Prop}(h:o.run P e σ K Kp): (o.cut D).run P e σ K Kp:=by
 unfold bf.cut;split
 ·rename_i n c iT az;cases az with
  | nil=>cases c<;>exact h
  | cons x xs =>
    obtain⟨r,s2,h1,h2,h3⟩:=(show(ef.cw n c iT).run P ((x::xs).map (AX.ev e)) σ K Kp from h);have h1:cV P n (((x::xs).map (AX.ev e)).take c) σ _:=h1;have h2:nH (((x::xs).map (AX.ev e)).take c) σ s2 iT (((x::xs).map (AX.ev e)).drop c):=h2;rw[<-DJ (D:=D)]at h1 h2;have h2:=L1 (D:=D) _ _ h2;obtain⟨y,ys,hy⟩:∃ y ys,oq D c (x::xs)=y::ys:=by cases c<;>exact⟨_,_,rfl⟩
    show(ef.cw n c iT).run P ((oq D c (x::xs)).map (AX.ev e)) σ K Kp;rw[hy]at h1 h2 |-;exact⟨r,s2,h1,h2,h3⟩
 exact h
def R7{D:List Nat}{g:bV}{K:Env->ai->Prop}{e:Env}{σ : ai}(h:ez P Q g K e σ): ez P Q (g.cut D) K e σ:=by
 unfold ez at *
 show(match g.guard with
  | none=>(g.op.cut D).run P e σ (fun v σ'=>K (cZ e g.dst v) σ') (fun v σ'=>Q (.panic v) e σ')
  | some (k, b) => match e k with
    | .bool t => (t = b -> (g.op.cut D).run P (cZ e (some k) (.bool b)) σ (fun v σ' => K (cZ (cZ e (some k) (.bool b)) g.dst v) σ') (fun v σ' => Q (.panic v) (cZ e (some k) (.bool b)) σ')) /\
       (t = !b->K (cZ (cZ e (some k) (.bool (!b))) g.dst (.bg [])) σ)
    | .bg []=>K (cZ e g.dst (.bg [])) σ
    | _=>False)
 split
 ·rename_i hg;simp only[hg]at h;exact R6 h
 rename_i k b hg;simp only[hg]at h;split
 ·rename_i t ht;simp only[ht]at h;exact⟨fun hb=>R6 (h.1 hb),h.2⟩
 ·rename_i ht;simp only[ht]at h;exact h
 rename_i h1 h2;split at h
 ·rename_i t ht;exact(h1 t ht).elim
 ·rename_i ht;exact(h2 ht).elim
 exact h
def YT{D D':List Nat}(h:∀ t ∈ D',t ∈ D)(o:bf): (o.cut D').cut D=o.cut D:=by
 cases o<;>first|rfl|skip
 rename_i x xs;cases x<;>first|rfl|skip
 rename_i n c iT;show bf.ex (.cw n c iT) (oq D c (oq D' c xs))=bf.ex (.cw n c iT) (oq D c xs);rw[Hv h]
def abG{D D':List Nat}(h:∀ t ∈ D',t ∈ D)(g:bV): (g.cut D').cut D=g.cut D:=by
 obtain⟨o,d,gd⟩:=g;simp only[bV.cut,YT h]
def one_le{D D':List Nat}{g:bV}{K:Env->ai->Prop}{e:Env}{σ : ai}(hD:∀ t ∈ D',t ∈ D)(h:ez P Q (g.cut D') K e σ): ez P Q (g.cut D) K e σ:=by
 rw[<-abG hD];exact R7 h
def Wb(j k:bV)(D:List Nat): needs j (k.cut D)=needs j k:=by
 obtain⟨o,d,gd⟩:=k;unfold needs;cases o<;>first|rfl|skip
 rename_i x xs;cases x<;>rfl
def adz(k:bV)(D:List Nat): (k.cut D).op.Bt=k.op.Bt:=by
 obtain⟨o,d,gd⟩:=k;cases o<;>first|rfl|skip
 rename_i x xs;cases x<;>rfl
def DK(l:List (Nat × El)): bf->bf
 | .ex (.cw n c []) (x::xs)=>if(x::xs).length=c then .ex (.cw n c (l.map fun p=>(p.2.ag,p.2.sz))) ((x::xs)++l.map fun p=> .t p.1)else .ex (.cw n c []) (x::xs)
 | o=>o
def q8(h:Hints)(g:bV): bV:= { g with op:=DK (Te h g.dst) g.op }
def DL: bf->Bool
 | .ex (.cw _ _ (_::_)) _=>false
 | _=>true
def Oq{n c:Nat}{iT:List (Bool × Nat)}{x:AX}{xs zs:List AX}{D:List Nat}{e:Env}{σ : ai}{K Kp:AV->ai->Prop}(hz:∀ e':Env,(zs.map (AX.ev e')).take c=((x::xs).map (AX.ev e')).take c)(hne:zs≠[])(h:((bf.ex (.cw n c iT) zs).cut D).run P e σ K Kp): (bf.ex (.cw n c []) (x::xs)).run P e σ K Kp:=by
 have h:(ef.cw n c iT).run P ((oq D c zs).map (AX.ev e)) σ K Kp:=h
 obtain⟨y,ys,hy⟩:∃ y ys,oq D c zs=y::ys:=by
  cases zs with
  | nil=>exact absurd rfl hne
  | cons z zs=>cases c<;>exact⟨_,_,rfl⟩
 have ht:=DJ (D:=D) (e:=e) zs c;rw[hy,hz]at ht;rw[hy]at h;obtain⟨r,s2,h1,_,h3⟩:=h;have h1:cV P n (((y::ys).map (AX.ev e)).take c) σ _:=h1;rw[ht]at h1;exact⟨r,s2,h1,trivial,h3⟩
def L2{l:List (Nat × El)}{o:bf}{D:List Nat}{e:Env}{σ : ai}{K Kp:AV->ai->Prop}(hp:DL o=true)(h:((DK l o).cut D).run P e σ K Kp): o.run P e σ K Kp:=by
 unfold DK at h;split at h
 ·split at h
  ·rename_i n c x xs hc;refine Oq (fun e'=>?_) aT h;rw[List.map_append,List.take_append_of_le_length (by simp only[c8];omega)]
  exact Oq (fun _=>rfl) aT h
 rename_i hno;unfold bf.cut at h;split at h
 ·rename_i n c iT az;cases iT with
  | cons=>cases hp
  | nil =>
    cases az with
    | nil=>cases c<;>exact h
    | cons x xs=>exact absurd rfl (hno _ _ _ _)
 exact h
def Wc{h:Hints}{D:List Nat}{g:bV}{K:Env->ai->Prop}{e:Env}{σ : ai}(hp:DL g.op=true)(hh:ez P Q ((q8 h g).cut D) K e σ): ez P Q g K e σ:=by
 have hh:(match g.guard with
  | none=>((DK (Te h g.dst) g.op).cut D).run P e σ (fun v σ'=>K (cZ e g.dst v) σ') (fun v σ'=>Q (.panic v) e σ')
  | some (k, b) => match e k with
    | .bool t => (t = b -> ((DK (Te h g.dst) g.op).cut D).run P (cZ e (some k) (.bool b)) σ (fun v σ' => K (cZ (cZ e (some k) (.bool b)) g.dst v) σ') (fun v σ' => Q (.panic v) (cZ e (some k) (.bool b)) σ')) /\
       (t = !b->K (cZ (cZ e (some k) (.bool (!b))) g.dst (.bg [])) σ)
    | .bg []=>K (cZ e g.dst (.bg [])) σ
    | _=>False):=hh
 unfold ez;split
 ·rename_i hg;simp only[hg]at hh;exact L2 hp hh
 rename_i k b hg;simp only[hg]at hh;split
 ·rename_i t ht;simp only[ht]at hh;exact⟨fun hb=>L2 hp (hh.1 hb),hh.2⟩
 ·rename_i ht;simp only[ht]at hh;exact hh
 rename_i h1 h2;split at hh
 ·rename_i t ht;exact(h1 t ht).elim
 ·rename_i ht;exact(h2 ht).elim
 exact hh
variable (P Q) in
def Hw(ops:Nat->bV)(iX:Nat->List Nat): Nat->List Nat->Env->ai->Prop
 | 0,l,e,σ=>l=[]/\Q .normal e σ
 | n+1,l,e,σ=>((∀ i ∈ l,∃ j ∈ iX i,j ∈ l)->Q .normal e σ)/\ ∀ i ∈ l,(∀ j ∈ iX i,j ∉ l)->ez P Q (ops i) (Hw ops iX n (l.erase i)) e σ
def ef.goes: ef->Bool
 | .inv _ | .pc _ | .G9 _=>false
 | _=>true
def bf.goes: bf->Bool
 | .app ..=>true
 | .ex o _=>o.goes
 | o=>o.cls != .no
def Ot{o:bf}{e:Env}{σ : ai}{K Kp:AV->ai->Prop}(h:o.goes=true)(hh:o.run P e σ K Kp): ∃ v σ',K v σ':=by
 by_cases hn:o.cls≠ .no
 ·obtain⟨v,σ',_,h⟩:=(wK hn).1 hh;exact⟨v,σ',h⟩
 by_cases hx:∃ o' xs,o = .ex o' xs
 ·obtain⟨o',xs,rfl⟩:=hx;obtain⟨v,σ',_,h1⟩:=ef.det (by replace h:o'.goes=true:=h;cases o'<;>first|(intro e;cases e;done)|(cases h;done)) (show o'.run P (xs.map (AX.ev e)) σ K Kp from hh);exact⟨v,σ',h1⟩
 cases o<;>(try (exact absurd ⟨_,_,rfl⟩ hx))<;>simp[bf.goes]at h<;>(try (exact absurd h hn));rename_i T el x1 y1;simp only[bf.run,oc]at hh;generalize AX.ev e _=y at hh
 have key:∀ (ys:List AV) (x:AV),(match x with
  | .aP=>if ys.length=0 then K .aP σ else fE ys.length el/\K (.own el σ.length ys.length 0 ys.length) (σ++[.bW T el ys])
  | .aH true aS xs=>aS=el/\if ys.length=0 then K (.aH true el xs) σ else fE (xs.length+ys.length) el/\K (.own el σ.length (xs.length+ys.length) 0 (xs.length+ys.length)) (σ++[.bW T el (xs++ys)])
  | .own aS l m lo n => aS = el /\ match σ[l]? with
    | some (.bW T' bq xs)=>(T'=none\/T'=T)/\bq=el/\m=xs.length/\lo=0/\n=xs.length/\fE (xs.length+ys.length) el/\K (.own el l (xs.length+ys.length) 0 (xs.length+ys.length)) (σ.set l (.bW T' el (xs++ys)))
    | _=>False
  | _=>False)-> ∃ v σ',K v σ':=fun ys x hx=>by
  split at hx
  ·split at hx
   ·exact⟨_,_,hx⟩
   exact⟨_,_,hx.2⟩
  ·replace hx:=hx.2
   split at hx
   ·exact⟨_,_,hx⟩
   exact⟨_,_,hx.2⟩
  ·replace hx:=hx.2
   split at hx
   ·exact⟨_,_,hx.2.2.2.2.2.2⟩
   exact hx.elim
  exact hx.elim
 unfold fL at hh;split at hh
 ·exact key _ _ hh.2
 ·exact key _ _ hh.2.2
 ·replace hh:=hh.2
  split at hh
  ·exact key _ _ hh.2.2.2
  exact hh.elim
 ·exact key _ _ hh.2.2
 ·obtain⟨u,_,h2⟩:=oe hh.2.2;exact key _ _ h2.2
 exact hh.elim
def YU{g:bV}{K:Env->ai->Prop}{e:Env}{σ : ai}(hc:g.op.goes=true)(h:ez P Q g K e σ): ∃ v σ',K (cZ e g.dst v) σ':=by
 unfold ez at h;split at h
 ·exact Ot hc h
 rename_i k b hg;split at h
 ·rename_i t ht;by_cases htb:t=b
  ·obtain⟨v,s,h⟩:=Ot hc (h.1 htb);rw[nk (by rw[ht,htb])]at h;exact⟨v,s,h⟩
  have hn:t = !b:=by cases t<;>cases b<;>simp_all
  have h:=h.2 hn;rw[nk (by rw[ht,hn])]at h;exact⟨_,_,h⟩
 ·exact⟨_,_,h⟩
 exact h.elim
def Wd{C:Env->Prop}{us:List Nat}(hC:∀ e σ,Q .normal e σ->C e)(Ac:∀ e e',(∀ t ∈ us,e' t=e t)->C e'->C e): ∀(l:List bV) (e:Env) (σ : ai),(∀ g ∈ l,g.op.goes=true/\jx g.dst us=true)->dL P Q l e σ->C e
 | [],e,σ,_,h=>hC e σ h
 | g :: l, e, σ, hl, h => by
   rw[wj]at h;obtain⟨h1,h2⟩:=hl g aT;obtain⟨v,σ',h⟩:=YU h1 h;exact Ac e _ (iW h2) (Wd hC Ac l _ σ' (fun g hg=>hl g (by simp[hg])) h)
def Ou{fO:List (AX × AX)}{e:Env}(h:oh fO e){x y:AX}(hm:(x,y) ∈ fO): pJ (x.ev e) (y.ev e):=by
 induction fO with
 | nil=>cases hm
 | cons p r ih =>
   obtain⟨a,b⟩:=p;rcases List.mem_cons.1 hm with h1|h1
   ·cases h1;exact h.1
   exact ih h.2 h1
def dstsOf(ops:Nat->bV)(j k:Nat): List Nat:=(List.range' j (k-j)).filterMap fun m=>(ops m).dst
def Wf{ops:Nat->bV}{i j k:Nat}(h:i<=j): ∀ t ∈ dstsOf ops j k,t ∈ dstsOf ops i k:=by
 intro t ht;obtain⟨m,hm,he⟩:=List.mem_filterMap.1 ht;rw[List.mem_range'_1]at hm;exact List.mem_filterMap.2 ⟨m,by rw[List.mem_range'_1];omega,he⟩
def Ov(ops:Nat->bV)(n:Nat)(fO:List (AX × AX))(ck:List Nat)(j k:Nat): Prop :=
 (IL (ops j) ((ops k).cut (dstsOf ops j k))=true/\((ops k).op.Bt=true->qc fO=true))/\ ∀ x y,needs (ops j) (ops k)=some (x,y)->(x,y) ∈ fO/\ ∀ m,j<=m->m<n->(m=k\/m ∉ ck)->(ops m).op.goes=true/\jx (ops m).dst (x.uses++y.uses)=true
def Wg {ops : Nat -> bV} {n : Nat} {fO : List (AX × AX)} {k : Nat} {ck : List Nat} {l2 : List Nat} : ∀ (l1 : List Nat) (e : Env) (σ : ai), (∀ j ∈ l1, Ov ops n fO ck j k) -> (∀ m ∈ l1 ++ l2, m ∉ ck) -> (l1 ++ k :: l2).Pairwise (· < ·) -> (∀ i ∈ l1 ++ k :: l2, i < n) ->
    dL P (i_ fO Q) ((l1++k::l2).map ops) e σ->ez P (i_ fO Q) ((ops k).cut (match l1 with | []=>[]|j::_=>dstsOf ops j k)) (dL P (i_ fO Q) ((l1++l2).map ops)) e σ
 | [], e, σ, _, _, _, _, h => by
   rw[gj,bN,wj]at h;exact R7 h
 | j :: l1, e, σ, hc, hnc, hs, hn, h => by
   rw[gO,bN,wj]at h;rw[gO,bN];have heq:dL P (i_ fO Q) (ops j::(l1++l2).map ops)=ez P (i_ fO Q) (ops j) (dL P (i_ fO Q) ((l1++l2).map ops)):=by funext e σ;exact wj _ _ _ _
   rw[heq];rw[gO,List.pairwise_cons]at hs;obtain⟨DM,Ow⟩:=hc j aT;refine swap DM.1 (fun h v e e' σ=>V6 (DM.2 (by rw[adz]at h;exact h))) (fun x y hxy=>?_) (Hs (fun e σ h=>?_) h)
   ·rw[Wb]at hxy;obtain⟨hm,DN⟩:=Ow x y hxy;have DO:j<k:=hs.1 k aT;refine⟨⟨(DN j (aV _) (hn j aT) (.inr (hnc j aT))).2,(DN k (Nat.le_of_lt DO) (hn k aT) (.inl rfl)).2⟩,fun e σ hK=>?_⟩;refine Wd (Q:=i_ fO Q) (C:=fun e=>pJ (x.ev e) (y.ev e)) (us:=x.uses++y.uses) (fun e σ h=>Ou h.1 hm) (fun e e' he h=>?_) _ e σ (fun g hg=>?_) hK
    ·rw[AX.eX (x:=x) (fun t ht=>(he t (fS _ ht)).symm),AX.eX (x:=y) (fun t ht=>(he t (List.mem_append_right _ ht)).symm)];exact h
    obtain⟨m,Ox,rfl⟩:=eL.1 hg
    have Gz:m ∈ l1++k::l2:=by
     rcases List.mem_append.1 Ox with h|h<;>simp[h]
    exact DN m (Nat.le_of_lt (hs.1 m Gz)) (hn m (cP _ Gz)) (.inr (hnc m (cP _ Ox)))
   have:=Wg l1 e σ (fun j hj=>hc j (by simp[hj])) (fun m hm=>hnc m (cP _ hm)) hs.2 (fun i hi=>hn i (cP _ hi)) h;refine one_le (fun t ht=>?_) this;cases l1 with
   | nil=>cases ht
   | cons j' l1=>exact Wf (Nat.le_of_lt (hs.1 j' aT)) t ht
def behind {iX cl : Nat -> List Nat} {l : List Nat} (hlt : ∀ k, ∀ m ∈ iX k, m < k) (hcl : ∀ k, ∀ j ∈ cl k, j ∈ iX k \/ ∃ m ∈ iX k, j ∈ cl m) (hinv : ∀ z, z ∉ l -> ∀ i ∈ iX z, i ∉ l) {j : Nat} :
    ∀(k:Nat),(∀ i ∈ iX k,i ∉ l)->j ∈ cl k->j ∉ l:=by
 intro k
 induction k using Nat.strongRecOn with
 | _ k ih =>
   intro hr hj;rcases hcl k j hj with h|⟨m,hm,h⟩
   ·exact hr j h
   exact ih m (hlt k m hm) (hinv m (hr m hm)) h
def QV {ops adA : Nat -> bV} {iX cl : Nat -> List Nat} {N : Nat} {fO : List (AX × AX)} (h0 : ∀ (i : Nat) (D : List Nat) (K : Env -> ai -> Prop) (e : Env) (σ : ai), ez P (i_ fO Q) ((ops i).cut D) K e σ -> ez P (i_ fO Q) (adA i) K e σ) (hlt : ∀ k, ∀ m ∈ iX k, m < k) (hcl : ∀ k, ∀ j ∈ cl k, j ∈ iX k \/ ∃ m ∈ iX k, j ∈ cl m) : ∀ (n : Nat) (l : List Nat) (e : Env) (σ : ai), l.length = n ->
    (∀ z,z ∉ l-> ∀ i ∈ iX z,i ∉ l)->(∀ i ∈ l,i<N)->l.Pairwise (fun j k=>j<k/\(j ∈ cl k\/Ov ops N fO (cl k) j k))->dL P (i_ fO Q) (l.map ops) e σ->Hw P (i_ fO Q) adA iX n l e σ:=by
 intro n
 induction n with
 | zero=>intro l e σ hl _ _ _ h;cases l with|nil=>exact⟨rfl,h⟩|cons=>cases hl
 | succ n ih =>
   intro l e σ hl hinv hN hp h;refine⟨fun hno=>?_,fun i hi hr=>?_⟩
   ·cases l with
    | nil=>exact h
    | cons x r =>
      obtain⟨j,hj,qA⟩:=hno x aT;have h1:=hlt x j hj;rcases List.mem_cons.1 qA with rfl|h2
      ·exact absurd h1 (ij _)
      have:=((List.pairwise_cons.1 hp).1 j h2).1;omega
   obtain⟨l1,l2,rfl,hni⟩:=List.eq_append_cons_of_mem hi;have he:(l1++i::l2).erase i=l1++l2:=by rw[List.erase_append_right _ hni,List.erase_cons_head]
   have hp':=List.pairwise_append.1 hp
   have hcp:∀ j ∈ l1,Ov ops N fO (cl i) j i:=fun j hj=>by
    rcases(hp'.2.2 j hj i aT).2 with h1|h1
    ·exact absurd (by simp[hj]) (behind hlt hcl hinv i hr h1)
    exact h1
   have hb:=Wg l1 e σ hcp (fun m hm hmc=>behind hlt hcl hinv i hr hmc (by rcases List.mem_append.1 hm with h|h<;>simp[h])) (hp.imp fun h=>h.1) hN h;have hb:=h0 _ _ _ _ _ hb;rw[he];refine Hs (fun e σ h=>ih _ e σ ?_ (fun z hz j hj qA=>?_) (fun m hm=>hN m ?_) ?_ h) hb
   ·simp at hl |-;omega
   ·have adB : j ∈ l1 ++ i :: l2 := by
     rcases List.mem_append.1 qA with h|h<;>simp[h]
    by_cases Wh:z=i
    ·subst Wh;exact hr j hj adB
    refine hinv z (fun hz'=>hz ?_) j hj adB;rcases List.mem_append.1 hz' with h|h
    ·simp[h]
    rcases List.mem_cons.1 h with h|h
    ·exact absurd h Wh
    simp[h]
   ·rcases List.mem_append.1 hm with h|h<;>simp[h]
   refine List.Pairwise.sublist ?_ hp;exact List.Sublist.append_left (List.sublist_cons_self _ _) _
end
section
variable {P:Program}
def CG(P:Program)(nt:Nat)(h:Hints)(dr:Bool)(all:Array Oper)(o:Oper)(g:bV): Prop :=
 pL P nt h dr o=some g.op/\g.dst=o.dst/\match o.guard with
  | none=>g.guard=none
  | some (j,b)=> ∃ k,(all[j]?).bind (·.dst)=some k/\k<nt/\g.guard=some (k,b)
def Kh{nt:Nat}{h:Hints}{dr:Bool}{all:Array Oper}: ∀(l:List Oper) (gs:List bV),jF P nt h dr all l=some gs->gs.length=l.length/\ ∀(i:Nat) (o:Oper),l[i]? = some o-> ∃ g,gs[i]? = some g/\CG P nt h dr all o g:=by
 intro l
 induction l with
 | nil=>intro gs hc;cases hc;exact⟨rfl,fun i o hi=>by cases hi⟩
 | cons o l ih =>
   intro gs hc;simp only[jF]at hc;split at hc
   ·rename_i ao gs' h1 h2;obtain⟨i1,i2⟩:=ih gs' h2;split at hc
    ·rename_i hg;cases hc;refine⟨by simp[i1],fun i o' hi=>?_⟩;cases i with
     | zero=>cases hi;exact⟨_,rfl,h1,rfl,by rw[hg]⟩
     | succ i=>exact i2 i o' hi
    rename_i j b hg;split at hc
    ·rename_i k hk;split at hc
     ·rename_i hlt;cases hc;refine⟨by simp[i1],fun i o' hi=>?_⟩;cases i with
      | zero=>cases hi;exact⟨_,rfl,h1,rfl,by rw[hg];exact⟨k,hk,hlt,rfl⟩⟩
      | succ i=>exact i2 i o' hi
     ·cases hc
    ·cases hc
   ·cases hc
def Wi {X : List Deferred} {ro : Option Nat} {wn : Nat} {nt : Nat} {h : Hints} {dr : Bool} {ops : Array Oper} {B : Nat -> Prop} {Q : AQ} {g0 : aC} {w0 : World} {lY : ai} {o : Oper} {gp : bV} {i : Nat} {K : Env -> ai -> Prop} {KK : Act -> World -> Prop}
    {g:aC} {w:World} {σ : ai} {e:Env} {a:Act} (Ac:CG P nt h dr ops o gp) (h0:ops[i]? = some o) (hR:Rel g w σ) (hE:fm nt g w e a.tmps) (hd:ja X B σ g w a.defers) (fX:ep lY g0 w0 σ g w)
    (hk:∀ g' w' σ' e' a',K e' σ'->Rel g' w' σ'->fm nt g' w' e' a'.tmps->ja X B σ' g' w' a'.defers->ep lY g0 w0 σ' g' w'->KK a' w') (hw:ez P Q gp K e σ):wpOpIn (WF ro) wn P ops (QR X nt B g0 w0 lY Q) i KK a w:=by
 obtain⟨h1,hds,hgd⟩:=Ac
 have go:∀ (e1:Env),fm nt g w e1 a.tmps->gp.op.run P e1 σ (fun v σ'=>K (cZ e1 gp.dst v) σ') (fun v σ'=>Q (.panic v) e1 σ')->o.wpIn (WF ro) wn P a w KK (QR X nt B g0 w0 lY Q):=fun e1 uL hrun=>by
  rw[hds]at hrun;refine Oper.Hp ?_ ?_ (Og h1 hR uL hrun)
  ·rintro a' w' ⟨v,g',av,σ',rfl,r1,r2,r3,r4⟩;exact hk g' w' σ' (cZ e1 o.dst av) (a.put o.dst v) r4 r1 ((uL.mono r2.mono).put o.dst r3) (by rw[put_defers];exact hd.step r2) (fX.trans r2)
  rintro ex a' w' ⟨rfl,v,g',av,σ',rfl,r1,r2,r3,r4⟩;exact⟨g',e1,σ',hd.step r2,r1,uL.mono r2.mono,fX.trans r2,v,av,rfl,r3,r4⟩
 have pass:∀ (e1:Env),fm nt g w e1 a.tmps->K (cZ e1 gp.dst (.bg [])) σ->KK (a.put o.dst Go.undef) w:=fun e1 uL hrun =>
  hk g w σ (cZ e1 gp.dst (.bg [])) (a.put o.dst Go.undef) hrun hR (by rw[hds];exact uL.put o.dst (.bg [] #[] rfl (fun i hi=>absurd hi (cJ _)))) (by rw[put_defers];exact hd) fX
 unfold wpOpIn;simp only[h0];unfold ez at hw;split at hgd
 ·rename_i hg;simp only[hgd]at hw;have TL:Region.wanted o (yielded ops a.tmps)=true:=by simp[Region.wanted,hg]
  rw[aB TL];exact go e hE hw
 rename_i j b hg;obtain⟨k,hk',hlt,hgg⟩:=hgd;simp only[hgg]at hw;obtain⟨w1,w2⟩:=L0 (ops:=ops) hE hg hk' hlt;split at hw
 ·rename_i t ht;have hwn:=w1 t ht;by_cases htb:t=b
  ·subst htb;rw[hwn,aB aT];exact go _ (hE.congr ht) (hw.1 rfl)
  have:t = !b:=by cases t<;>cases b<;>simp_all
  rw[hwn,aq (by simpa using htb)];refine⟨fun _ _=>trivial,pass _ (hE.congr ?_) (hw.2 this)⟩;rw[ht,this]
 ·rename_i ht;rw[w2 ht,aq aT];exact⟨fun _ _=>trivial,pass e hE hw⟩
 exact hw.elim
def lB(ops:Array Oper)(i:Nat): List Nat :=
 match ops[i]? with
 | some o=>(o.after.toList.filter (Region.binds .any)).map (·.on)
 | none=>[]
def jL: bV:=⟨.nw ⟨false,0⟩,none,none⟩
def Wj {X : List Deferred} {ro : Option Nat} {wn : Nat} {nt : Nat} {h : Hints} {ops : Array Oper} {B : Nat -> Prop} {Q : AQ} {g0 : aC} {w0 : World} {lY : ai} {gs : List bV} (hc : jF P nt h true ops ops.toList = some gs) (hlt : ∀ i, ∀ j ∈ lB ops i, j < i) :
    ∀ (n : Nat) (l : List Nat) (listed : Array Bool) (g : aC) (w : World) (σ : ai) (e : Env) (a : Act), listed.size = ops.size -> l.Nodup -> (∀ i, i ∈ l ↔ i < ops.size /\ listed.getD i true = false) ->
      Hw P Q (fun i=>gs.getD i jL) (lB ops) n l e σ->Rel g w σ->fm nt g w e a.tmps->ja X B σ g w a.defers->ep lY g0 w0 σ g w ->
      wpAnyIn (WF ro) wn P .any ops (QR X nt B g0 w0 lY Q) n listed a w:=by
 obtain⟨hlen,nh⟩:=Kh ops.toList gs hc
 have mem:∀ (l:List Nat) (listed:Array Bool),(∀ i,i ∈ l↔i<ops.size/\listed.getD i true=false)-> ∀ i,i ∈ Region.ready .any ops listed->i ∈ l/\ ∀ j ∈ lB ops i,j ∉ l:=by
  intro l listed hl i hi;simp only[Region.ready,List.mem_filter,eO,aD,dR]at hi;obtain⟨hlt,hun,Ki⟩:=hi;refine⟨(hl i).2 ⟨hlt,hun⟩,fun j hj qA=>?_⟩;obtain⟨LJ,vF⟩:=(hl j).1 qA;have ho:ops[i]? = some ops[i]:=by simp[hlt]
  simp only[lB,ho,eL,List.mem_filter]at hj;obtain⟨ed,⟨he1,he2⟩,rfl⟩:=hj;simp only[ho,cB,bF]at Ki;have:=Array.all_eq_true_iff_forall_mem.1 Ki ed (by simpa using he1);simp only[he2,Bool.not_true,Bool.false_or]at this;rcases Nat.lt_or_ge ed.on listed.size with h'|h'
  ·simp[h']at this vF;rw[this]at vF;cases vF
  simp[Array.getElem?_eq_none h']at this
 have akr:∀ (l:List Nat) (listed:Array Bool),listed.size=ops.size->(∀ i,i ∈ l↔i<ops.size/\listed.getD i true=false)->Region.ready .any ops listed=[]-> ∀ i ∈ l,∃ j ∈ lB ops i,j ∈ l:=by
  intro l listed hsz hl hnil i hi;obtain⟨IC,hun⟩:=(hl i).1 hi;have ho:ops[i]? = some ops[i]:=by simp[IC]
  have hnot:i ∉ Region.ready .any ops listed:=by rw[hnil];simp
  simp only[Region.ready,List.mem_filter,eO,aD,dR,IC,hun,ho,cB,bF,true_and,Array.all_eq_true_iff_forall_mem]at hnot;simp only[Classical.not_forall,gN,Bool.or_eq_false_iff,Bool.not_eq_false']at hnot;obtain⟨ed,he,hbd,hls⟩:=hnot
  have hj:ed.on ∈ lB ops i:=by
   simp only[lB,ho,eL,List.mem_filter];exact⟨ed,⟨by simpa using he,hbd⟩,rfl⟩
  have h1:=hlt i _ hj;refine⟨_,hj,(hl _).2 ⟨ae,?_⟩⟩;have h2:ed.on<listed.size:=ae;simp[h2]at hls |-;exact hls
 intro n
 induction n with
 | zero =>
   intro l listed g w σ e a hsz ff hl ha hR hE hd fX;obtain⟨rfl,hq⟩:=ha;refine⟨?_,g,e,σ,hd,hR,hE,fX,hq⟩;refine List.eq_nil_iff_forall_not_mem.2 fun i hi=>?_;exact absurd (mem _ _ hl i hi).1 aT
 | succ n ih =>
   intro l listed g w σ e a hsz ff hl ha hR hE hd fX;refine⟨fun hnil=>⟨g,e,σ,hd,hR,hE,fX,ha.1 (akr l listed hsz hl hnil)⟩,fun i hi=>?_⟩;obtain⟨R8,hr⟩:=mem l listed hl i hi;have Ds:=((hl i).1 R8).1;have ho:ops[i]? = some ops[i]:=by simp[Ds]
   obtain⟨gp,hgp,Ac⟩:=nh i ops[i] (by simp[Ds]);have hrun:=ha.2 i R8 hr;have hgd:gs.getD i jL=gp:=by simp[List.getD,hgp]
   have hrun:ez P Q gp (Hw P Q (fun i=>gs.getD i jL) (lB ops) n (l.erase i)) e σ:=by rw[<-hgd];exact hrun
   refine Wi Ac ho hR hE hd fX (fun g' w' σ' e' a' hK kE Wk hd' aks=>?_) hrun;refine ih (l.erase i) _ g' w' σ' e' a' (by simp[hsz]) (ff.erase i) (fun k=>?_) hK kE Wk hd' aks;rw[ff.mem_erase_iff,hl k];by_cases Oy:k=i
   ·subst Oy;simp[hsz,Ds]
   have:(listed.setIfInBounds i true).getD k true=listed.getD k true:=by
    simp[bQ,Array.getElem?_setIfInBounds_ne (Ne.symm Oy)]
   rw[this];simp[Oy]
def wk(iX:Nat->List Nat): Nat->List (List Nat)
 | 0=>[]
 | n+1=>let c:=wk iX n;c++[((iX n).flatMap fun m=>c.getD m []).foldl (fun l x=>if l.contains x then l else x::l) (iX n)]
def FF(n:Nat)(iX:Nat->List Nat)(gs:List bV): Bool :=
 let cl:=wk iX n
 (List.range n).all fun k => (iX k).all (· < k) && (cl.getD k []).all (fun j => (iX k).contains j || (iX k).any fun m => (cl.getD m []).contains j) &&
   (List.range k).all fun j => (cl.getD k []).contains j || (IL (gs.getD j jL) ((gs.getD k jL).cut (dstsOf (fun i => gs.getD i jL) j k)) && match needs (gs.getD j jL) (gs.getD k jL) with
     | some (x,y)=>(List.range n).all fun m=>decide (m<j) ||(decide (m≠k) && (cl.getD k []).contains m) ||((gs.getD m jL).op.goes && jx (gs.getD m jL).dst (x.uses++y.uses))
     | none=>true)
def pM(n:Nat)(iX:Nat->List Nat)(gs:List bV): List (AX × AX) :=
 let cl:=wk iX n
 ((List.range n).flatMap fun k=>(List.range k).filterMap fun j=>if(cl.getD k []).contains j then none else needs (gs.getD j jL) (gs.getD k jL))++if gs.any fun g=>g.op.Bt then [(.c .iU,.c .iU)]else []
def abH(h:Hints)(ops:Array Oper): List Nat :=
 let n:=ops.size
 let cl:=wk (lB ops) n
 let ls:=(List.range n).filter fun i=>match(ops[i]?).bind (·.dst)with
  | some d=>h.mth.contains (100000+d)
  | none=>false
 let late:=fun k=>ls.contains k || ls.any fun i=>(cl.getD k []).contains i
 (List.range n).filter (fun k=> !late k)++(List.range n).filter late
def Oz(n:Nat)(p:List Nat): Bool:=decide (p.length=n) && decide p.Nodup && p.all (· < n) && (List.range n).all fun x=>p.contains x
def DP(iX:Nat->List Nat)(p:List Nat)(i:Nat): List Nat:=match p[i]? with
 | some k=>(iX k).map fun j=>p.idxOf j
 | none=>[]
def ot(gs:List bV)(p:List Nat): List bV:=p.map fun i=>gs.getD i jL
def YV(n:Nat)(iX:Nat->List Nat): Bool:=(List.range n).all fun k=>(iX k).all (· < k)
def L3(iX:Nat->List Nat): ∀ n,(wk iX n).length=n
 | 0=>rfl
 | n+1=>by simp[wk,L3 iX n]
def QR.mono{X:List Deferred}{nt:Nat}{B:Nat->Prop}{g:aC}{w:World}{σ : ai}{Q Q':AQ}(h:∀ ex e σ,Q ex e σ->Q' ex e σ){ex:Exit}{a:Act}{w2:World}(hq:QR X nt B g w σ Q ex a w2): QR X nt B g w σ Q' ex a w2:=by
 obtain⟨g',e',σ',h1,h2,h3,h4,h5⟩:=hq;refine⟨g',e',σ',h1,h2,h3,h4,?_⟩;cases ex with
 | panic chain=>obtain⟨v,av,r1,r2,r3⟩:=h5;exact⟨v,av,r1,r2,h _ _ _ r3⟩
 | outgrown=>exact h5
 | normal=>exact h _ _ _ h5
 | exit id=>exact h _ _ _ h5
 | goto l=>exact h _ _ _ h5
 | ret=>exact h _ _ _ h5
def aiq {Q : AQ} {n : Nat} {iX : Nat -> List Nat} {gs gs0 : List bV} {e : Env} {σ : ai} (h0 : ∀ (i : Nat) (D : List Nat) (K : Env -> ai -> Prop) (e : Env) (σ : ai), ez P (i_ (pM n iX gs) Q) ((gs.getD i jL).cut D) K e σ -> ez P (i_ (pM n iX gs) Q) (gs0.getD i jL) K e σ) (hlen : gs.length = n) (hz : ∀ z, n <= z -> iX z = []) (hok : FF n iX gs = true) (hw : dL P (i_ (pM n iX gs) Q) gs e σ) :
    Hw P (i_ (pM n iX gs) Q) (fun i=>gs0.getD i jL) iX n (List.range n) e σ:=by
 simp only[FF,bt,eO,aD,dD,au,List.any_eq_true,List.contains_iff_mem]at hok
 have hlt:∀ i,∀ j ∈ iX i,j<i:=fun i j hj=>by
  by_cases hi:i<n
  ·exact(hok i hi).1.1 j hj
  rw[hz i (Nat.le_of_not_lt hi)]at hj;cases hj
 refine QV (ops:=fun i=>gs.getD i jL) (cl:=fun k=>(wk iX n).getD k []) (N:=n) h0 hlt (fun k j hj=>?_) _ _ e σ aT (fun z hz' i hi=>?_) (fun i hi=>by simpa using hi) ?_ ?_
 ·by_cases hk:k<n
  ·exact(hok k hk).1.2 j hj
  have:(wk iX n).getD k []=[]:=by
   have:=L3 iX n;rw[aj,eo ae];rfl
  rw[this]at hj;cases hj
 ·have:iX z=[]:=hz z (by simpa using hz');rw[this]at hi;cases hi
 ·refine List.pairwise_iff_getElem.2 fun i j hi hj hij=>?_;simp only[List.getElem_range];simp at hi hj;refine⟨hij,?_⟩;by_cases hcl:i ∈ (wk iX n).getD j []
  ·exact .inl hcl
  refine .inr ?_;rcases(hok j hj).2 i hij with h1|⟨h1,h2⟩
  ·exact absurd h1 hcl
  refine⟨⟨h1,fun hpc=>?_⟩,fun x y hxy=>⟨?_,fun m Ox Gz hm3=>?_⟩⟩
  ·have ha:(gs.any fun g=>g.op.Bt)=true:=List.any_eq_true.2 ⟨_,(by show gs.getD j jL ∈ gs;rw[aj,aJ ae];exact c9 _),hpc⟩;unfold qc pM;rw[aB ha];simp[V5]
  ·refine fS _ (List.mem_flatMap.2 ⟨j,by simpa using hj,List.mem_filterMap.2 ⟨i,by simpa using hij,?_⟩⟩);rw[aq (by simpa[List.contains_iff_mem]using hcl)];exact hxy
  simp only[hxy,bt,eO,aD,dD,au]at h2;rcases h2 m Gz with(h3|h3)|h3
  ·omega
  ·rcases hm3 with h4|h4
   ·exact absurd h4 h3.1
   exact absurd (List.contains_iff_mem.1 h3.2) h4
  exact h3
 have:(List.range n).map (fun i=>gs.getD i jL)=gs:=by
  apply List.ext_getElem
  ·simp[hlen]
  intro i h1 h2;simp[aj,h2]
 rw[this];exact hw
def OA {Q : AQ} {ops ops' : Nat -> bV} {iX adC : Nat -> List Nat} {N : Nat} {f : Nat -> Nat} (hinj : ∀ i, i < N -> ∀ j, j < N -> f i = f j -> i = j) (vp : ∀ i, i < N -> ops' i = ops (f i)) (Ki : ∀ i, i < N -> ∀ j, j < N -> (j ∈ adC i ↔ f j ∈ iX (f i))) :
    ∀(n:Nat) (l l':List Nat) (e:Env) (σ : ai),l.Nodup->l'.Nodup->(∀ i ∈ l,i<N)->(∀ x,x ∈ l'↔ ∃ i,i ∈ l/\f i=x)->Hw P Q ops' adC n l e σ->Hw P Q ops iX n l' e σ
 | 0, l, l', e, σ, _, _, _, hl, h => by
   obtain⟨h1,h2⟩:=h;subst h1;refine⟨?_,h2⟩;cases l' with
   | nil=>rfl
   | cons x _=>obtain⟨i,hi,_⟩:=(hl x).1 aT;cases hi
 | n + 1, l, l', e, σ, hd, hd', hN, hl, h => by
   obtain⟨h1,h2⟩:=h;refine⟨fun hx=>h1 fun i hi=>?_,fun x hx hr=>?_⟩
   ·obtain⟨y,hy1,hy2⟩:=hx (f i) ((hl _).2 ⟨i,hi,rfl⟩);obtain⟨j,hj,rfl⟩:=(hl y).1 hy2;exact⟨j,(Ki i (hN i hi) j (hN j hj)).2 hy1,hj⟩
   obtain⟨i,hi,rfl⟩:=(hl x).1 hx;have h3:=h2 i hi fun j hj qA=>hr (f j) ((Ki i (hN i hi) j (hN j qA)).1 hj) ((hl _).2 ⟨j,qA,rfl⟩);rw[vp i (hN i hi)]at h3;refine Hs (fun e σ h4=>?_) h3;refine OA hinj vp Ki n (l.erase i) (l'.erase (f i)) e σ (hd.erase i) (hd'.erase _) (fun k hk=>hN k (List.mem_of_mem_erase hk)) (fun z=>?_) h4;rw[hd'.mem_erase_iff,hl z];constructor
   ·rintro⟨hz,k,hk,rfl⟩;exact⟨k,hd.mem_erase_iff.2 ⟨fun Oy=>hz (by rw[Oy]),hk⟩,rfl⟩
   rintro⟨k,hk,rfl⟩;obtain⟨Oy,hk⟩:=hd.mem_erase_iff.1 hk;exact⟨fun hf=>Oy (hinj k (hN k hk) i (hN i hi) hf),k,hk,rfl⟩
def TQ {X : List Deferred} {ro : Option Nat} {wn : Nat} {nt : Nat} {h : Hints} {ops : Array Oper} {B : Nat -> Prop} {Q : AQ} {gs : List bV} {p : List Nat} {id : Nat} {g : aC} {w : World} {σ : ai} {e : Env} {a : Act} (hc : jF P nt h true ops ops.toList = some gs)
    (hlt:YV ops.size (lB ops)=true) (hp:Oz ops.size p=true) (LW:gs.all (fun g=>DL g.op)=true) (hok:FF ops.size (DP (lB ops) p) (ot (gs.map (q8 h)) p)=true) (hm:P.follows .mixedOrders=true) (hw:dL P (i_ (pM ops.size (DP (lB ops) p) (ot (gs.map (q8 h)) p)) Q) (ot (gs.map (q8 h)) p) e σ) (hR:Rel g w σ) (hE:fm nt g w e a.tmps) (hd:ja X B σ g w a.defers):(Code.region id ops true).wpIn (WF ro) wn P (QR X nt B g w σ Q) a w:=by
 have Ds:∀ i,∀ j ∈ lB ops i,j<i:=fun i j hj=>by
  by_cases hi:i<ops.size
  ·simp only[YV,bt,eO,au]at hlt;exact hlt i hi j hj
  have:lB ops i=[]:=by simp[lB,Array.getElem?_eq_none (iw hi)]
  rw[this]at hj;cases hj
 simp only[Oz,aD,au,bt]at hp;obtain⟨⟨⟨DM,Ow⟩,hp3⟩,hp4⟩:=hp;refine wpIn_mono (wpIn_region_any hm ?_) fun ex a' w'=>QR.mono (Q:=i_ (pM ops.size (DP (lB ops) p) (ot (gs.map (q8 h)) p)) Q) fun _ _ _=>YN;have kE:=hR.drew (w.drawn+1);have fX:=ep.drew σ g w (w.drawn+1);refine Wj hc Ds ops.size (List.range ops.size) _ g _ σ e a aT List.nodup_range (fun i=>by simp;intro h;simp[h]) ?_ kE (hE.mono fX.mono) (hd.step fX) fX
 have h0:∀ (Q:AQ) (i:Nat) (D:List Nat) (K:Env->ai->Prop) (e:Env) (σ : ai),ez P Q (((ot (gs.map (q8 h)) p).getD i jL).cut D) K e σ->ez P Q ((ot gs p).getD i jL) K e σ:=fun Q i D K e σ hh=>by
  have e1:∀ k,(gs.map (q8 h)).getD k jL=q8 h (gs.getD k jL):=fun k=>by
   rw[aj,aj,ia];cases gs[k]?<;>rfl
  have e2:(ot (gs.map (q8 h)) p).getD i jL=q8 h ((ot gs p).getD i jL):=by
   unfold ot;simp only[e1];rw[aj,aj,ia,ia];cases p[i]?<;>rfl
  rw[e2]at hh;refine Wc ?_ hh
  have e3:∀ k,DL (gs.getD k jL).op=true:=fun k=>by
   rw[aj];cases hk:gs[k]? with
   | none=>rfl
   | some g=>exact bt.1 LW g (List.mem_of_getElem? hk)
  unfold ot;rw[aj,ia];cases p[i]? with
  | none=>rfl
  | some k=>exact e3 k
 have key:=aiq (P:=P) (Q:=Q) (n:=ops.size) (iX:=DP (lB ops) p) (gs:=ot (gs.map (q8 h)) p) (gs0:=ot gs p) (e:=e) (σ:=σ) (h0 _) (by simp[ot,DM]) (fun z hz=>by simp[DP,eo (show p.length<=z by omega)]) hok hw;have hge:∀ i (hi:i<ops.size),p[i]? = some (p.getD i 0):=fun i hi=>by rw[aj,aJ ae];rfl
 have hinj:∀ i,i<ops.size-> ∀ j,j<ops.size->p.getD i 0=p.getD j 0->i=j:=fun i hi j hj hij=>by
  have e1:=hge i hi;have e2:=hge j hj;rw[hij]at e1;exact(List.getElem?_inj ae Ow).1 (e1.trans e2.symm)
 have hidx:∀ j,j<ops.size->p.idxOf (p.getD j 0)=j:=fun j hj=>by
  rw[aj,aJ ae];exact Ow.idxOf_getElem j ae
 have adD:∀ x,x<ops.size->x ∈ p:=fun x hx=>List.contains_iff_mem.1 (hp4 x (by simpa using hx));refine OA (N:=ops.size) (f:=fun i=>p.getD i 0) hinj (fun i hi=>?_) (fun i hi j hj=>?_) _ _ _ e σ List.nodup_range List.nodup_range (fun i hi=>by simpa using hi) (fun x=>?_) key
 ·simp only[ot,aj,ia];rw[hge i hi];rfl
 ·simp only[DP];rw[hge i hi];simp only[eL];constructor
  ·rintro⟨k,hk,rfl⟩
   have hkp:k ∈ p:=by
    have:=Ds _ k hk;have h5:p.getD i 0<ops.size:=hp3 _ (List.mem_of_getElem? (hge i hi));exact adD k ae
   have:p.getD (p.idxOf k) 0=k:=by
    rw[aj,aJ (List.idxOf_lt_length_iff.2 hkp)];exact List.getElem_idxOf _
   rw[this];exact hk
  intro hk;exact⟨_,hk,hidx j hj⟩
 constructor
 ·intro hx;have hx:=adD x (by simpa using hx);obtain⟨i,hi,rfl⟩:=bY hx;exact⟨i,by simp;omega,by rw[aj,aJ hi];rfl⟩
 rintro⟨i,hi,rfl⟩;simp only[eO]at hi |-;exact hp3 _ (List.mem_of_getElem? (hge i hi))
end
