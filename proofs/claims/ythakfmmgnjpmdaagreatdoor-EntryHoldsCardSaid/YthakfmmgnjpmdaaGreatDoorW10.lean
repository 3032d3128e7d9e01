/- Part. -/
import Derived.Test.YthakfmmgnjpmdaaGreatDoorW09
set_option linter.all false
namespace Go.AM
inductive ab2 where
 | normal
 | exit (id:Nat)
 | goto (l:Nat)
 | ret
 | panic (v:AV)
structure cH where
 op:bg
 dst:Option Nat
 guard:Option (Nat × Bool)
abbrev AQ:=ab2->Env->ae->Prop
def eU(P:Program)(Q:AQ): List cH->Env->ae->Prop
 | [],e,σ=>Q .normal e σ
 |⟨o,d,none⟩::r,e,σ=>o.run P e σ (fun v σ'=>eU P Q r (upd e d v) σ') (fun v σ'=>Q (.panic v) e σ')
 | ⟨o, d, some (k, b)⟩ :: r, e, σ => match e k with
   | .bool t => (t = b -> o.run P (upd e (some k) (.bool b)) σ (fun v σ' => eU P Q r (upd (upd e (some k) (.bool b)) d v) σ') (fun v σ' => Q (.panic v) (upd e (some k) (.bool b)) σ')) /\
      (t = !b->eU P Q r (upd (upd e (some k) (.bool (!b))) d (.bH [])) σ)
   | .bH []=>eU P Q r (upd e d (.bH [])) σ
   | _=>False
inductive cY where
 | skip
 | region (ops:List cH)
 | draw (ops:List cH) (jX:List (AX × AX))
 | seq (a b:cY)
 | cond (c:AX) (thn els:cY)
 | block (id:Nat) (body:cY)
 | loop (body:cY)
 | exit (id:Nat)
 | ret
 | scope (l:Nat) (body rest:cY)
 | label (l:Nat)
 | goto (l:Nat)
 | p8 (f:AX) (nt:Nat) (ps:List Nat) (ca cb:Code) (asg body:cY)
 | stop
def cY.mR: cY->Bool
 | .seq a b=>a.mR || b.mR
 | .cond _ a b=>a.mR || b.mR
 | .block _ a=>a.mR
 | .loop a=>a.mR
 | .scope _ a _=>a.mR
 | .p8 ..=>true
 | _=>false
def Low(ac:cY)(B:Nat->Prop)(w:World): Prop:=ac.mR=true-> ∀ D,w.heap.size<=D->B D
def Low.size{ac:cY}{B:Nat->Prop}{w w':World}(h:Low ac B w)(hs:w.heap.size<=w'.heap.size): Low ac B w':=fun hr D hD=>h hr D (bW hs hD)
def Low.sub{ac ad:cY}{B:Nat->Prop}{w:World}(h:Low ac B w)(hs:ad.mR=true->ac.mR=true): Low ad B w:=fun hr=>h (hs hr)
def Low.at(ac:cY)(w:World): Low ac (fun D=>w.heap.size<=D) w:=fun _ _ h=>h
def mo(K:Env->ae->Prop)(Q:AQ): AQ
 | .normal,e,σ=>K e σ
 | x,e,σ=>Q x e σ
def tP(id:Nat)(Q:AQ): AQ
 | .exit i,e,σ=>if i=id then Q .normal e σ else Q (.exit i) e σ
 | x,e,σ=>Q x e σ
def qy: List (AX × AX)->Env->Prop
 | [],_=>True
 |(x,y)::r,e=>rN (x.ev e) (y.ev e)/\qy r e
def W8: AX × AX->Bool
 |(.c .jB,.c .jB)=>true
 | _=>false
def Fk(jX:List (AX × AX)): Bool:=jX.any W8
def j6(jX:List (AX × AX))(Q:AQ): AQ
 | .normal,e,σ=>qy jX e/\Q .normal e σ
 | .panic v,e,σ=>if Fk jX then ∀ e',Q (.panic v) e' σ else Q (.panic v) e σ
 | x,e,σ=>Q x e σ
def ZN{jX:List (AX × AX)}{Q:AQ}: ∀ {ex e σ},j6 jX Q ex e σ->Q ex e σ:=fun {ex e σ} h=>by
 cases ex<;>first|exact h.2|exact h|skip
 simp only[j6]at h;split at h
 ·exact h e
 ·exact h
def W9{jX:List (AX × AX)}{Q:AQ}(h:Fk jX=true){v:AV}{e e':Env}{σ : ae}: j6 jX Q (.panic v) e σ->j6 jX Q (.panic v) e' σ:=by
 simp only[j6,h,if_true];exact id
def ab3(body:AQ->Env->ae->Prop)(Q:AQ)(e:Env)(σ : ae): Prop :=
 ∃(I:Nat->Env->ae->Prop),(∃ n,I n e σ)/\ ∀ n e σ,I n e σ->body (mo (fun e' σ'=> ∃ m,m<n/\I m e' σ') Q) e σ
def tQ(l:Nat)(J:Env->ae->Prop)(Q:AQ): AQ
 | .goto l',e,σ=>l'=l/\J e σ
 | x,e,σ=>Q x e σ
def W_(l:Nat)(body rest:AQ->Env->ae->Prop)(Q:AQ)(e:Env)(σ : ae): Prop :=
 ∃(J:Nat->Env->ae->Prop),body (tQ l (fun e σ=> ∃ n,J n e σ) Q) e σ/\ ∀ n e σ,J n e σ->rest (tQ l (fun e' σ'=> ∃ m,m<n/\J m e' σ') Q) e σ
def u0: List Nat->List AV->Env->Env
 | p::ps,a::az,e=>u0 ps az (upd e (some p) a)
 | _,_,e=>e
def aed(l:Nat)(o o':bj)(B:Env->ae->Prop): AQ
 | .normal,e,σ=>σ[l]? = some o/\B e (σ.set l o')
 | _,_,_=>False
def aee(l:Nat)(o:LoopState->Option Code->bj)(R:Out->ae->Prop): AQ
 | .normal,_,σ=>σ[l]? = some (o .busy none)/\R (.ret (.bool true)) (σ.set l (o .ready none))
 | .ret,_,σ=>σ[l]? = some (o .busy none)/\R (.ret (.bool false)) (σ.set l (o .done (some .ret)))
 | .exit i,_,σ=>σ[l]? = some (o .busy none)/\R (.ret (.bool false)) (σ.set l (o .done (some (.exit i))))
 | .goto i,_,σ=>σ[l]? = some (o .busy none)/\R (.ret (.bool false)) (σ.set l (o .done (some (.goto i))))
 | .panic _,_,_=>False
def ahH(l:Nat)(o:LoopState->Option Code->bj)(Q:AQ)(e:Env): Out->ae->Prop
 | .ret _, σ => ∃ st pe, σ[l]? = some (o st pe) /\ st ≠ .busy /\ match pe with
    | none=>Q .normal e (σ.set l .dead)
    | some .ret=>Q .ret e (σ.set l .dead)
    | some (.exit i)=>Q (.exit i) e (σ.set l .dead)
    | some (.goto i)=>Q (.goto i) e (σ.set l .dead)
    | _=>False
 | .panic v,σ=>Q (.panic v) e σ
def OB(P:Program)(nt:Nat)(ps:List Nat)(ca cb:Code)(f:AV)(asg body:AQ->Env->ae->Prop)(Q:AQ)(e:Env)(σ : ae): Prop :=
 match f with
 | .fn (.func n) first cap => ∀ o : LoopState -> Option Code -> bj, (∀ st pe, o st pe = .loop nt e ps.toArray ca cb st pe) ->
    (∀ σ' args R, σ'[σ.length]? = some (o .ready none) -> args.length = ps.length ->
      asg (aed σ.length (o .ready none) (o .busy none) (body (aee σ.length o R))) (u0 ps args e) σ'->tH P σ.length args σ' R) ->
    dZ P n (first++[.rM σ.length]++cap) (σ++[o .ready none]) (ahH σ.length o Q e)
 | _=>False
def iJ(P:Program): cY->AQ->Env->ae->Prop
 | .skip,Q,e,σ=>Q .normal e σ
 | .region ops,Q,e,σ=>eU P Q ops e σ
 | .draw ops jX,Q,e,σ=>eU P (j6 jX Q) ops e σ
 | .seq a b,Q,e,σ=>iJ P a (mo (iJ P b Q) Q) e σ
 | .cond c a b, Q, e, σ => match c.ev e with
   | .bool t=>(t=true->iJ P a Q e σ)/\(t=false->iJ P b Q e σ)
   | _=>False
 | .block id c,Q,e,σ=>iJ P c (tP id Q) e σ
 | .loop c,Q,e,σ=>ab3 (iJ P c) Q e σ
 | .exit id,Q,e,σ=>Q (.exit id) e σ
 | .ret,Q,e,σ=>Q .ret e σ
 | .scope l c r,Q,e,σ=>W_ l (iJ P c) (iJ P r) Q e σ
 | .label _,Q,e,σ=>Q .normal e σ
 | .goto l,Q,e,σ=>Q (.goto l) e σ
 | .p8 f nt ps ca cb asg body,Q,e,σ=>OB P nt ps ca cb (f.ev e) (iJ P asg) (iJ P body) Q e σ
 | .stop,_,_,_=>False
structure x5 (B:Nat->Prop) (σ : ae) (g:aE) (w:World) (ds:List Deferred):Prop where
 nodup:ds.Nodup
 mark:∀ d ∈ ds,∃ D,d = { target:= .collected D,args:= #[] }/\B D/\w.heap[D]? = some (.deferred (some []))/\¬ mL σ g D/\¬ g.fQ D
def x5.step{B:Nat->Prop}{σ σ':ae}{g g':aE}{w w':World}{ds:List Deferred}(h:x5 B σ g w ds)(eH:e7 σ g w σ' g' w'): x5 B σ' g' w' ds:=by
 refine⟨h.nodup,fun d hd=>?_⟩;obtain⟨D,h1,h2,h3,h4,h5⟩:=h.mark d hd;have hlt:D<w.heap.size:=(dH.1 h3).1;exact⟨D,h1,h2,(eH.frame D hlt h4).trans h3,fun ht=>h4 (eH.K_ D hlt ht),fun hi=>(eH.xR D hlt hi).elim h5 h4⟩
def jq(X:List Deferred)(B:Nat->Prop)(σ : ae)(g:aE)(w:World)(ds:List Deferred): Prop:= ∃ ms,ds=ms++X/\x5 B σ g w ms
def jq.nil(X:List Deferred)(B:Nat->Prop)(σ : ae)(g:aE)(w:World): jq X B σ g w X:=⟨[],rfl,List.nodup_nil,fun _ h=>by cases h⟩
def jq.step{X:List Deferred}{B:Nat->Prop}{σ σ':ae}{g g':aE}{w w':World}{ds:List Deferred}(h:jq X B σ g w ds)(eH:e7 σ g w σ' g' w'): jq X B σ' g' w' ds :=
 let ⟨ms,h1,h2⟩:=h;⟨ms,h1,h2.step eH⟩
def QR(X:List Deferred)(nt:Nat)(B:Nat->Prop)(g:aE)(w:World)(σ : ae)(Q:AQ)(ex:Exit)(a:Act)(w':World): Prop :=
 ∃ g' e' σ', jq X B σ' g' w' a.defers /\ Rel g' w' σ' /\ fN nt g' w' e' a.tmps /\ e7 σ g w σ' g' w' /\
   match ex with
   | .normal=>Q .normal e' σ'
   | .exit id=>Q (.exit id) e' σ'
   | .goto l=>Q (.goto l) e' σ'
   | .ret=>Q .ret e' σ'
   | .panic chain=> ∃ v av,chain=[{ v,recovered:=false }]/\VR g' w' av v/\Q (.panic av) e' σ'
   | .outgrown=>False
section
variable {P:Program}
def Oper.GO {F : Fence} {wn : Nat} {o : Oper} {a : Act} {w : World} {K K' : Act -> World -> Prop} {Q Q' : Exit -> Act -> World -> Prop} (h : ∀ a w, K a w -> K' a w) (hq : ∀ e a w, Q e a w -> Q' e a w)
    (hh:o.wpIn F wn P a w K Q):o.wpIn F wn P a w K' Q':=by
 unfold Oper.wpIn at *;refine⟨hh.1,?_⟩
 replace hh:=hh.2
 generalize (o.semAt F.round a.eval).run P w=r at *;cases r with
 | ok n w' =>
   cases n<;>simp only[Oper.uponIn]at hh ⊢ <;>
    first
     | exact h _ _ hh
     | exact ⟨hh.1, CallsIn.mono hh.2 (fun e w'' he => by
        cases e<;>first
         | exact h _ _ he
         | exact hq _ _ _ he
         |(obtain⟨a0,w0,he⟩:=he;exact⟨a0,w0,hq _ _ _ he⟩))⟩
     | exact ⟨hh.1, RoundIn.mono hh.2 (fun e w'' he => by
        cases e<;>first
         | exact h _ _ he
         | exact hq _ _ _ he
         |(obtain⟨a0,w0,he⟩:=he;exact⟨a0,w0,hq _ _ _ he⟩))⟩
     | exact⟨hh.1,RowsIn.mono hh.2 (fun _ _ he=>h _ _ he)⟩
 | halt x w' =>
   cases x<;>simp only[Oper.uponIn]at hh ⊢<;>first
    | exact hq _ _ _ hh
    | exact hh
def put_defers(a:Act)(d:Option Tmp)(v:Value): (a.put d v).defers=a.defers:=by cases d<;>rfl
def LN {nt : Nat} {g : aE} {w : World} {e : Env} {a : Act} {ops : Array Oper} {o : Oper} {k : Nat} {j : Nat} {b : Bool} (hE : fN nt g w e a.tmps) (hg : o.guard = some (j, b)) (hd : (ops[j]?).bind (·.dst) = some k) (hk : k < nt) :
    (∀ t,e k = .bool t->Region.wanted o (yielded ops a.tmps)=(t==b))/\(e k = .bH []->Region.wanted o (yielded ops a.tmps)=false):=by
 have hv:=hE.rel k hk;have hlt:k<a.tmps.size:=by rw[hE.size];exact hk
 have mj:a.tmps[k]? = some (a.tmps.getD k Go.undef):=by simp[hlt]
 constructor
 ·intro t ht;rw[ht]at hv;generalize a.tmps.getD k Go.undef=v at hv mj;cases hv;simp only[Region.wanted,hg,yielded,hd,Option.bind_some,mj];cases t<;>cases b<;>rfl
 ·intro ht;rw[ht]at hv;generalize a.tmps.getD k Go.undef=v at hv mj;cases hv;simp[Region.wanted,hg,yielded,hd,mj]
def fN.congr{nt:Nat}{g:aE}{w:World}{e:Env}{tmps:Array Value}(h:fN nt g w e tmps){k:Nat}{x:AV}(hx:e k=x): fN nt g w (upd e (some k) x) tmps :=
 ⟨h.size, fun t ht => by
   simp only[upd];split
   ·rename_i e1;subst e1;subst hx;exact h.rel _ ht
   ·exact h.rel t ht⟩
def lA(P:Program)(nt:Nat)(h:Hints)(dr:Bool)(all:Array Oper): List Oper->Option (List cH)
 | []=>some []
 | o :: r => match vQ P nt h dr o, lA P nt h dr all r with
   | some ao, some gs => match o.guard with
     | none=>some (⟨ao,o.dst,none⟩::gs)
     | some (j, b) => match (all[j]?).bind (·.dst) with
       | some k=>if k<nt then some (⟨ao,o.dst,some (k,b)⟩::gs)else none
       | none=>none
   | _,_=>none
def LO {X : List Deferred} {ro : Option Nat} {wn : Nat} {nt : Nat} {h : Hints} {dr : Bool} {ops : Array Oper} {B : Nat -> Prop} {Q : AQ} {g0 : aE} {w0 : World} {ni : ae} : ∀ (l : List Oper) (i : Nat) (gs : List cH) (g : aE) (w : World) (σ : ae) (e : Env) (a : Act),
    lA P nt h dr ops l=some gs->(∀ j,j<l.length->ops[i+j]? = l[j]?)->eU P Q gs e σ->Rel g w σ->fN nt g w e a.tmps->jq X B σ g w a.defers->e7 ni g0 w0 σ g w ->
    Go.wpOpsIn (WF ro) wn P ops (QR X nt B g0 w0 ni Q) (List.range' i l.length) a w:=by
 intro l
 induction l with
 | nil =>
   intro i gs g w σ e a hc _ hw hR hE hd eH;cases hc;exact⟨g,e,σ,hd,hR,hE,eH,hw⟩
 | cons o l ih =>
   intro i gs g w σ e a hc hidx hw hR hE hd eH;have h0:ops[i]? = some o:=by simpa using hidx 0 (by simp)
   have N0:∀ j,j<l.length->ops[i+1+j]? = l[j]?:=fun j hj=>by
    have:=hidx (j+1) (by simpa using hj);simpa[Nat.add_assoc,Nat.add_comm 1 j]using this
   simp only[lA]at hc;split at hc
   ·rename_i ao gs' h1 h2
    have go:∀ (e1:Env),fN nt g w e1 a.tmps->ao.run P e1 σ (fun v σ'=>eU P Q gs' (upd e1 o.dst v) σ') (fun v σ'=>Q (.panic v) e1 σ') ->
     o.wpIn (WF ro) wn P a w (Go.wpOpsIn (WF ro) wn P ops (QR X nt B g0 w0 ni Q) (List.range' (i+1) l.length)) (QR X nt B g0 w0 ni Q):=fun e1 x6 hrun=>by
     refine Oper.GO ?_ ?_ (Ox h1 hR x6 hrun)
     ·rintro a' w' ⟨v,g',av,σ',rfl,r1,r2,r3,r4⟩;exact ih (i+1) gs' g' w' σ' (upd e1 o.dst av) (a.put o.dst v) h2 N0 r4 r1 ((x6.mono r2.mono).put o.dst r3) (by rw[put_defers];exact hd.step r2) (eH.trans r2)
     ·rintro ex a' w' ⟨rfl,v,g',av,σ',rfl,r1,r2,r3,r4⟩;exact⟨g',e1,σ',hd.step r2,r1,x6.mono r2.mono,eH.trans r2,v,av,rfl,r3,r4⟩
    have pass:∀ (e1:Env),fN nt g w e1 a.tmps->eU P Q gs' (upd e1 o.dst (.bH [])) σ->Go.wpOpsIn (WF ro) wn P ops (QR X nt B g0 w0 ni Q) (List.range' (i+1) l.length) (a.put o.dst Go.undef) w:=fun e1 x6 hrun =>
     ih (i+1) gs' g w σ (upd e1 o.dst (.bH [])) (a.put o.dst Go.undef) h2 N0 hrun hR (x6.put o.dst (.bH [] #[] rfl (fun i hi=>absurd hi (cE _)))) (by rw[put_defers];exact hd) eH
    rw[List.length_cons,List.range'_succ,wpOpsIn_cons];unfold wpOpIn;simp only[h0];split at hc
    ·rename_i hg;cases hc;have UC:Region.wanted o (yielded ops a.tmps)=true:=by simp[Region.wanted,hg]
     rw[if_pos UC];exact go e hE hw
    ·rename_i j b hg;split at hc
     ·rename_i k hk;split at hc
      ·rename_i hlt;cases hc;obtain⟨w1,w2⟩:=LN (ops:=ops) hE hg hk hlt;simp only[eU]at hw;split at hw
       ·rename_i t ht;have hwn:=w1 t ht;by_cases htb:t=b
        ·subst htb;rw[hwn,if_pos (by simp)];exact go _ (hE.congr ht) (hw.1 rfl)
        ·have:t = !b:=by cases t<;>cases b<;>simp_all
         rw[hwn,if_neg (by simpa using htb)];refine⟨fun _ _=>trivial,pass _ (hE.congr ?_) (hw.2 this)⟩;rw[ht,this]
       ·rename_i ht;rw[w2 ht,if_neg (by simp)];exact⟨fun _ _=>trivial,pass e hE hw⟩
       ·exact hw.elim
      ·cases hc
     ·cases hc
   ·cases hc
end
