/- Part. -/
import Derived.Test.YtoldfccfpameeaaGreatDoorX12
import Derived.RecoverIn
set_option linter.all false
set_option maxHeartbeats 4000000
namespace Go.AM
variable {P:Program}
def zK: FrameMode->FrameMode
 | .panicking ({ v,recovered:=false,goexit:=false }::older)=> .panicking ({ v,recovered:=true }::older)
 | u=>u
def AO(g:aN)(w:World): Option AV->FrameMode->Prop
 | none,u=>u = .returning
 | some a,u=> ∃ v,u = .panicking [{ v,recovered:=false }]/\VR g w a v
def vg(P:Program)(n:FuncId)(args:List AV)(pv:Option AV)(σ : ai)(R:ai->Prop): Prop :=
 Has P n/\ ∀(g:aN) (w:World) (vs:Array Value) (u:FrameMode),Rel g w σ->args.length=vs.size->(∀ i,i<args.length->VR g w (args.getD i .undef) (vs.getD i Go.undef))->AO g w pv u ->
  CallsDIn (WF none) 0 P n vs u w fun e u' w'=> ∃ g' σ' v,e = .returned v/\u'=zK u/\Rel g' w' σ'/\gE σ g w σ' g' w'/\R σ'
structure D4 where
 nt:Nat
 k:Nat
 mvs:List (AX × Option Nat)
 rest:dL
def su(nt:Nat): List Oper->Option (List (AX × Option Nat))
 | []=>some []
 | o :: r => match o.op, o.guard with
   | .assign x, none => match cX nt x, su nt r with
     | some ax,some l=>some ((ax,o.dst)::l)
     | _,_=>none
   | .move x, none => match cX nt x, su nt r with
     | some ax,some l=>some ((ax,o.dst)::l)
     | _,_=>none
   | _,_=>none
def PK(o:Oper): Option Nat:=match o.op,o.guard with
 | .call c, none => match c.callee with
   | .builtin .recover=>o.dst
   | _=>none
 | _,_=>none
def Kk(P:Program)(h:Hints)(fn:Func): Option D4 :=
 match fn.body,fn.results.toList with
 | some (.seq (.region _ ops false) b), [] => match ops.toList with
   | o :: r => match PK o, su fn.ntmps r, dX P fn.ntmps h false b with
     | some k,some l,some c=>if c.nE=false then some ⟨fn.ntmps,k,l,c⟩else none
     | _,_,_=>none
   | []=>none
 | _,_=>none
def N7: List (AX × Option Nat)->(Env->Prop)->Env->Prop
 | [],K,e=>K e
 |(x,d)::r,K,e=>N7 r K (eV e d (x.ev e))
def N8(R:ai->Prop): AQ
 | .normal,_,σ=>R σ
 | .ret,_,σ=>R σ
 | _,_,_=>False
def D4.wp(P:Program)(f:D4)(pv:Option AV)(R:ai->Prop)(e:Env)(σ : ai): Prop:=N7 f.mvs (fun e=>jD P f.rest (N8 R) e σ) (eV e (some f.k) (pv.getD .jR))
def QZ {F : Fence} {n : Nat} {ops : Array Oper} {Q : Exit -> Act -> List Frame -> World -> Prop} {i : Nat} {l : List Nat} {a : Act} {cs : List Frame} {w : World} {o : Oper} {x : Operand} (ho : ops[i]? = some o) (hop : o.op = .assign x \/ o.op = .move x) (hg : o.guard = none)
    (hF:∀ f,F.fn f) (h:wpOpsSIn F n P ops Q l (a.put o.dst (a.eval x)) cs w):wpOpsSIn F n P ops Q (i::l) a cs w:=by
 simp only[wpOpsSIn,ho];refine⟨fun f _=>hF f,?_⟩;have hw:Region.wanted o (yielded ops a.tmps)=true:=by simp[Region.wanted,hg]
 rw[au hw]
 have hx:(execOp a.eval o).run P w = .ok (.value (a.eval x)) w:=by
  unfold execOp;rcases hop with hop|hop<;>simp only[hop]<;>rfl
 rw[hx];exact h
def aby {nt : Nat} {ops : Array Oper} {Q : Exit -> Act -> List Frame -> World -> Prop} {cs : List Frame} {w : World} {g : aN} {K : Env -> Prop} : ∀ (l : List Oper) (i : Nat) (ms : List (AX × Option Nat)) (e : Env) (a : Act),
    su nt l=some ms->(∀ j,j<l.length->ops[i+j]? = l[j]?)->N7 ms K e->iJ nt g w e a.tmps->(∀ e' a',K e'->iJ nt g w e' a'.tmps->a'.defers=a.defers->Q .normal a' cs w) ->
    wpOpsSIn (WF none) 0 P ops Q (List.range' i l.length) a cs w:=by
 intro l
 induction l with
 | nil=>intro i ms e a hc _ hw hE hK;cases hc;exact hK e a hw hE rfl
 | cons o l ih =>
   intro i ms e a hc hidx hw hE hK;have h0:ops[i]? = some o:=by simpa using hidx 0 aQ
   have Rf:∀ j,j<l.length->ops[i+1+j]? = l[j]?:=fun j hj=>by
    have:=hidx (j+1) (by simpa using hj);simpa[dG,Nat.add_comm 1 j]using this
   rw[aO,List.range'_succ]
   have go:∀ (x:Operand) (ax:AX) (ms':List (AX × Option Nat)),(o.op = .assign x\/o.op = .move x)->o.guard=none->cX nt x=some ax->su nt l=some ms'->N7 ms' K (eV e o.dst (ax.ev e))->wpOpsSIn (WF none) 0 P ops Q (i::List.range' (i+1) l.length) a cs w:=by
    intro x ax ms' hop hg hx vA hw;refine QZ h0 hop hg (fun _=>trivial) (ih (i+1) ms' _ _ vA Rf hw (hE.put o.dst (c9 hx hE)) (fun e' a' k1 k2 k3=>hK e' a' k1 k2 (k3.trans (put_defers _ _ _))))
   simp only[su]at hc;split at hc
   ·rename_i x hop hg;split at hc
    ·rename_i ax ms' h1 h2;cases hc;exact go x ax ms' (.inl hop) hg h1 h2 hw
    ·cases hc
   ·rename_i x hop hg;split at hc
    ·rename_i ax ms' h1 h2;cases hc;exact go x ax ms' (.inr hop) hg h1 h2 hw
    ·cases hc
   ·cases hc
def AO.recover {g : aN} {w : World} {pv : Option AV} {u : FrameMode} {c₀ : Frame} {cs : List Frame} (h : AO g w pv u) (hm : c₀.mode = u) :
    ∃ v cs',(match recoverD (c₀::cs)with|some (v,cs')=>(v,cs')|none=>(Value.nilIface,c₀::cs))=(v,cs')/\VR g w (pv.getD .jR) v/\cs' = { c₀ with mode:=zK u }::cs:=by
 cases pv with
 | none =>
   have h:u = .returning:=h;subst h;refine⟨.nilIface,c₀::cs,?_,.jR,?_⟩
   ·simp[recoverD,hm]
   have:({ c₀ with mode:=zK .returning }:Frame)=c₀:=by rw[show zK .returning=c₀.mode by rw[hm];rfl]
   rw[this]
 | some a =>
   obtain⟨v,h,hv⟩:=h;subst h;exact⟨v,{ c₀ with mode:= .panicking [{ v,recovered:=true }] }::cs,by simp[recoverD,hm],hv,by simp[zK]⟩
def vg.of_wp {n : FuncId} {fn : Func} {h : Hints} {rf : D4} {args : List AV} {pv : Option AV} {σ : ai} {R : ai → Prop} (hf : P.funcs[n]? = some fn) (hn : (fn.name == "runtime.NumGoroutine") = false) (hc : Kk P h fn = some rf)
    (hl:args.length<=rf.nt) (hw:rf.wp P pv R (ld args) σ):vg P n args pv σ R:=by
 unfold Kk at hc;split at hc
 ·rename_i id ops b hb hres;split at hc
  ·rename_i o r Nf;split at hc
   ·rename_i k ms c h1 h2 h3;split at hc
    case isFalse=>cases hc
    rename_i h4;cases hc;refine⟨⟨fn,hf,by simp[hb],hn⟩,fun g w vs u hR hlen hv hu=>?_⟩;refine callsDIn_of_wpSIn (F:=WF none) (n:=0) hf hb trivial fun c₀ cs hm=>?_;have h0:ops[0]? = some o:=by rw[<-Array.getElem?_toList,Nf];rfl
    have hsz:ops.size=r.length+1:=by rw[<-ff,Nf];rfl
    obtain⟨v,cs',GP,hvr,hcs⟩:=hu.recover (c₀:=c₀) (cs:=cs) hm
    have hE0:iJ fn.ntmps g w (ld args) (vs++Array.replicate (fn.ntmps-vs.size) Go.undef):=by
     refine⟨?_,fun t ht=>?_⟩
     ·simp only at hl;simp;omega
     by_cases h:t<args.length
     ·have h3:t<vs.size:=ae;have:=hv t h;simp only[ld];rw[e8,fx h3];simpa using this
     have:ld args t = .undef:=by simp[ld,iD (ja h)]
     rw[this];exact .undef _
    have ael:o.dst=some k/\o.guard=none/\ ∃ c,o.op = .call c/\c.callee = .builtin .recover:=by
     unfold PK at h1;split at h1
     ·rename_i c hop hg;split at h1
      ·rename_i TX;exact⟨h1,hg,c,hop,TX⟩
      ·cases h1
     ·cases h1
    obtain⟨hd,hg,cc,hop,TX⟩:=ael;refine wpSIn_seq (wpSIn_region ?_);rw[hsz,jt,List.range'_succ];simp only[wpOpsSIn,h0];refine⟨fun f _=>trivial,?_⟩;have amQ:Region.wanted o (yielded ops (vs++Array.replicate (fn.ntmps-vs.size) Go.undef))=true:=by simp[Region.wanted,hg]
    rw[au amQ]
    have hx:∀ ρ : Operand->Value,(execOp ρ o).run P w = .ok .recover w:=fun ρ=>by
     unfold execOp;simp only[hop,resolve,TX,Sem.run_bind,Sem.run_pure,Result.andThen_ok];rfl
    rw[hx]
    have fin:wpOpsSIn (WF none) 0 P ops (Exit.thenS (b.wpSIn (WF none) 0 P (bodyPostS P fn c₀ cs fun e u' w'=> ∃ g' σ' v,e = .returned v/\u'=zK u/\Rel g' w' σ'/\gE σ g w σ' g' w'/\R σ')) (bodyPostS P fn c₀ cs fun e u' w'=> ∃ g' σ' v,e = .returned v/\u'=zK u/\Rel g' w' σ'/\gE σ g w σ' g' w'/\R σ'))
     (List.range' (0+1) r.length) (Act.put { tmps:=vs++Array.replicate (fn.ntmps-vs.size) Go.undef,defers:=[] } o.dst v) cs' w:=by
     refine aby (g:=g) (nt:=fn.ntmps) (K:=fun e=>jD P c (N8 R) e σ) r 1 ms (eV (ld args) (some k) (pv.getD .jR)) _ h2 (fun j hj=>?_) hw ?_ ?_
     ·rw[<-Array.getElem?_toList,Nf,Nat.add_comm];rfl
     ·rw[hd];exact hE0.put (a:= { tmps:=_,defers:=[] }) (some k) hvr
     intro e' a' hK hE' hdf;rw[put_defers]at hdf;show b.wpSIn (WF none) 0 P _ a' cs' w;refine wpSIn_of_wpIn rfl (wpIn_mono (yo b [] none 0 (fun _=>False) c (N8 R) g w σ e' a' h3 hK hR hE' (by rw[hdf];exact lu.nil _ _ _ _ _) (fun h=>absurd h (by rw[h4];simp))) ?_);rintro ex a2 w2 ⟨g2,e2,σ2,⟨mks,hmk,hmo⟩,q2,q3,q4,q5⟩
     have amR:mks=[]:=by
      cases mks with
      | nil=>rfl
      | cons d ds=>obtain⟨D,_,hD,_⟩:=hmo.mark d aQ;exact hD.elim
     subst amR
     have done:R σ2->a2.defers=[]/\ ∃ u',cs' = { c₀ with mode:=u' }::cs/\ ∃ v,(results fn a2.tmps).run P w2 = .ok v w2/\ ∃ g' σ' v',Ending.returned v = .returned v'/\u'=zK u/\Rel g' w2 σ'/\gE σ g w σ' g' w2/\R σ':=fun hr =>
      ⟨hmk,zK u,hcs,_,Be (us:=[]) (by rw[hres];rfl),g2,σ2,_,rfl,rfl,q2,q4,hr⟩
     cases ex with
     | normal=>exact done q5
     | ret=>exact done q5
     | panic ch=>obtain⟨_,_,_,_,q5⟩:=q5;exact q5.elim
     | exit id=>exact q5.elim
     | goto l=>exact q5.elim
     | outgrown=>exact q5.elim
    subst hcs
    show(match recoverD (c₀::cs)with
     | some (v,cs')=>wpOpsSIn (WF none) 0 P ops _ _ _ cs' w
     | none=>wpOpsSIn (WF none) 0 P ops _ _ _ (c₀::cs) w)
    split
    ·rename_i v1 cs1 hr;rw[hr]at GP;cases GP;exact fin
    rename_i hr;rw[hr]at GP;injection GP with e1 e2;subst e1;rw[<-e2]at fin;exact fin
   ·cases hc
  ·cases hc
 ·cases hc
def xX{F:Fence}{n:Nat}{ops:Array Oper}{Q Q':Exit->Act->World->Prop}(h:∀ e a w,Q e a w->Q' e a w): ∀(l:List Nat) (a:Act) (w:World),Go.wpOpsIn F n P ops Q l a w->Go.wpOpsIn F n P ops Q' l a w
 | [],a,w,hh=>h _ a w hh
 | i :: l, a, w, hh => by
   simp only[Go.wpOpsIn]at hh |-;cases ho:ops[i]? with
   | none=>simp only[ho]at hh |-;exact xX h l a w hh
   | some o =>
     simp only[ho]at hh |-;split
     ·rename_i hw;rw[au hw]at hh;exact Oper.Jw (fun a w hh=>xX h l a w hh) h hh
     rename_i hw;rw[aj hw]at hh;exact⟨hh.1,xX h l _ w hh.2⟩
structure abz where
 nt:Nat
 k1:Nat
 k2:Nat
 gs:List c_
def abz.wp(P:Program)(f:abz)(pv:Option AV)(R:ai->Prop)(e:Env)(σ : ai): Prop:=fD P (N8 R) f.gs (eV e (some f.k1) (pv.getD .jR)) σ
def GQ(P:Program)(Q:Exit->Act->List Frame->World->Prop)(ops:Array Oper)(l:List Nat)(a:Act)(cs:List Frame)(w:World): Prop :=
 ∀ (b : Frame) (k : List Item), b.kind = .deferred -> b.roundOf = none -> (WF none).fn b.fn -> (WF none).room (cs.length + 1 + 0) ->
   ∃ e a' cs' w',cs'.length=cs.length/\Q e a' cs' w'/\ArrivesIn (Machine.fenced P (WF none)) P (lone (b.atR a (.inRegion ops l::k)) cs w) b k cs' e a' w'
def GQ.of_wp{Q:Exit->Act->List Frame->World->Prop}{ops:Array Oper}{l:List Nat}{a:Act}{cs:List Frame}{w:World}(h:Go.wpOpsIn (WF none) 0 P ops (fun e a' w'=>Q e a' cs w') l a w): GQ P Q ops l a cs w :=
 fun b k _ hr hF hroom=>let ⟨e,a',w',q,r⟩:=wp_opsIn l a w h b k cs hr hF hroom;⟨e,a',cs,w',rfl,q,r⟩
def GQ.value {Q : Exit -> Act -> List Frame -> World -> Prop} {ops : Array Oper} {i : Nat} {l : List Nat} {a : Act} {cs : List Frame} {w : World} {o : Oper} {v : Value} (ho : ops[i]? = some o) (hg : o.guard = none)
    (hx:(execOp a.eval o).run P w = .ok (.value v) w) (h:GQ P Q ops l (a.put o.dst v) cs w):GQ P Q ops (i::l) a cs w:=by
 intro b k hb hro hF hroom;have hw:Region.wanted o (yielded ops a.tmps)=true:=by simp[Region.wanted,hg]
 have h0:(lone (b.atR a (.inRegion ops (i::l)::k)) cs w).fenced P (WF none):=fenced_oper hF hroom ho (fun _ _=>trivial);have hs:=stepGR_op (P:=P) (b:=b) (k:=k) (cs:=cs) (w:=w) (rest:=l) ho hw;rw[hro,Oper.semAt_none]at hs;have JF:(b.atR a (.inRegion ops (i::l)::k)).finish v=b.atR (a.put o.dst v) (.inRegion ops l::k):=by rw[Frame.finish_atR,ho];rfl
 obtain⟨e,a',cs',w',hl,hq,mW⟩:=h b k hb hro hF hroom;refine⟨e,a',cs',w',hl,hq,.of_steps (.one h0 (step_lone_go ?_)) mW⟩;rw[hs,<-JF];simp[stepG.apply,hx]
def GQ.recover {Q : Exit -> Act -> List Frame -> World -> Prop} {ops : Array Oper} {i : Nat} {l : List Nat} {a : Act} {cs cs1 : List Frame} {w : World} {o : Oper} {v : Value} (ho : ops[i]? = some o) (hg : o.guard = none)
    (hx:(execOp a.eval o).run P w = .ok .recover w) (hlen:cs1.length=cs.length) (GP:(match recoverD cs with|some (v,cs')=>(v,cs')|none=>(Value.nilIface,cs))=(v,cs1)) (h:GQ P Q ops l (a.put o.dst v) cs1 w):GQ P Q ops (i::l) a cs w:=by
 intro b k hb hro hF hroom;have hw:Region.wanted o (yielded ops a.tmps)=true:=by simp[Region.wanted,hg]
 have h0:(lone (b.atR a (.inRegion ops (i::l)::k)) cs w).fenced P (WF none):=fenced_oper hF hroom ho (fun _ _=>trivial);have hs:=stepGR_op (P:=P) (b:=b) (k:=k) (cs:=cs) (w:=w) (rest:=l) ho hw;rw[hro,Oper.semAt_none]at hs;have JF:(b.atR a (.inRegion ops (i::l)::k)).finish v=b.atR (a.put o.dst v) (.inRegion ops l::k):=by rw[Frame.finish_atR,ho];rfl
 have hk:(b.atR a (.inRegion ops (i::l)::k)).kind = .deferred:=hb;have htr:=tryRecover_deferred hk cs;obtain⟨e,a',cs',w',hl,hq,mW⟩:=h b k hb hro hF (by rw[hlen];exact hroom);refine⟨e,a',cs',w',hl.trans hlen,hq,.of_steps (.one h0 (step_lone_go ?_)) mW⟩;rw[hs,<-JF];simp only[Frame.atR,hro]at htr |-;split at GP
 ·rename_i v' cs' hr;cases GP;simp[stepG.apply,hx,htr,hr]
 rename_i hr;cases GP;simp[stepG.apply,hx,htr,hr]
inductive tP where
 | seq (a:dL) (d:tP)
 | dfr (ops:List c_) (x:AX) (rest:dL)
structure Rn where
 nt:Nat
 results:List pO
 body:tP
def W8(nt:Nat)(o:Oper): Option AX:=match o.op,o.guard,o.dst with
 | .defer c, none, none => match c.callee, c.args.toList with
   | .value f,[]=>cX nt f
   | _,_=>none
 | _,_,_=>none
def GR(P:Program)(nt:Nat)(h:Hints)(ops:Array Oper): Option (List c_ × AX):=match ops.toList.getLast? with
 | some o => match W8 nt o, lV P nt h false ops ops.toList.dropLast with
   | some x,some gs=>some (gs,x)
   | _,_=>none
 | none=>none
def aiM: Code->Option (Array Oper)
 | .region _ ops false=>some ops
 | _=>none
def D5(P:Program)(nt:Nat)(h:Hints): Code->Option tP
 | .seq a b => match (aiM a).bind (GR P nt h) with
   | some (gs,x)=>(dX P nt h false b).map (.dfr gs x)
   | none => match dX P nt h false a, D5 P nt h b with
     | some c,some d=>some (.seq c d)
     | _,_=>none
 | _=>none
def AP(P:Program)(h:Hints)(fn:Func): Option Rn:=match fn.body with
 | some c => match D5 P fn.ntmps h c, lW P fn.ntmps fn.results.toList with
   | some b,some rs=>some ⟨fn.ntmps,rs,b⟩
   | _,_=>none
 | none=>none
def tP.wp(P:Program)(Q:AQ)(QD:FuncId->List AV->AQ): tP->Env->ai->Prop
 | .seq a d=>jD P a (mK (d.wp P Q QD) Q)
 | .dfr ops x rest => fD P (mK (fun e σ => match x.ev e with
    | .fn (.func n) first cap=>jD P rest (QD n (first++cap)) e σ
    | _=>False) Q) ops
def aem(P:Program)(rs:List pO)(R:Out->ai->Prop)(n:FuncId)(args:List AV): AQ
 | .normal,e,σ=>vg P n args none σ fun σ'=>mu e σ' rs fun vs=>R (.ret (oneOf vs)) σ'
 | .ret,e,σ=>vg P n args none σ fun σ'=>mu e σ' rs fun vs=>R (.ret (oneOf vs)) σ'
 | .panic v,e,σ=>vg P n args (some v) σ fun σ'=>mu e σ' rs fun vs=>R (.ret (oneOf vs)) σ'
 | _,_,_=>False
def Oper.aen {F : Fence} {wn : Nat} {o : Oper} {a : Act} {w : World} {K K' : Act -> World -> Prop} {Q Q' : Exit -> Act -> World -> Prop} (h : ∀ a w, K a w -> K' a w) (hq : ∀ e a w, e ≠ .normal -> Q e a w -> Q' e a w)
    (hh:o.wpIn F wn P a w K Q):o.wpIn F wn P a w K' Q':=by
 unfold Oper.wpIn at *;refine⟨hh.1,?_⟩
 replace hh:=hh.2
 generalize (o.semAt F.round a.eval).run P w=r at *;cases r with
 | ok n w' =>
   cases n<;>simp only[Oper.uponIn]at hh |- <;>
    first
     | exact h _ _ hh
     | exact ⟨hh.1, CallsIn.mono hh.2 (fun e w'' he => by
        cases e<;>first
         | exact h _ _ he
         | exact hq _ _ _ aQ he
         |(obtain⟨a0,w0,he⟩:=he;exact⟨a0,w0,hq _ _ _ aQ he⟩))⟩
     | exact ⟨hh.1, RoundIn.mono hh.2 (fun e w'' he => by
        cases e<;>first
         | exact h _ _ he
         | exact hq _ _ _ aQ he
         |(obtain⟨a0,w0,he⟩:=he;exact⟨a0,w0,hq _ _ _ aQ he⟩))⟩
     | exact⟨hh.1,RowsIn.mono hh.2 (fun _ _ he=>h _ _ he)⟩
 | halt x w' =>
   cases x<;>simp only[Oper.uponIn]at hh |-<;>first
    | exact hq _ _ _ aQ hh
    | exact hh
def sw{F:Fence}{n:Nat}{ops:Array Oper}{Q1 Q:Exit->Act->World->Prop}(l2:List Nat)(h1:∀ a w,Q1 .normal a w->Go.wpOpsIn F n P ops Q l2 a w)(h2:∀ e a w,e≠ .normal->Q1 e a w->Q e a w): ∀(l1:List Nat) (a:Act) (w:World),Go.wpOpsIn F n P ops Q1 l1 a w->Go.wpOpsIn F n P ops Q (l1++l2) a w
 | [],a,w,h=>h1 a w h
 | i :: l1, a, w, h => by
   simp only[bK,Go.wpOpsIn]at h |-;cases ho:ops[i]? with
   | none=>simp only[ho]at h |-;exact sw l2 h1 h2 l1 a w h
   | some o =>
     simp only[ho]at h |-;split
     ·rename_i hw;rw[au hw]at h;exact Oper.aen (fun a w h=>sw l2 h1 h2 l1 a w h) h2 h
     rename_i hw;rw[aj hw]at h;exact⟨h.1,sw l2 h1 h2 l1 _ w h.2⟩
def abA {nt : Nat} {h : Hints} {ops : Array Oper} {gs : List c_} {x : AX} {Q : AQ} {g : aN} {w : World} {σ : ai} {e : Env} {a : Act} {QQ : Exit -> Act -> World -> Prop} (hc : GR P nt h ops = some (gs, x)) (hw : fD P Q gs e σ) (hR : Rel g w σ) (hE : iJ nt g w e a.tmps)
    {B:Nat->Prop} (hd:lu [] B σ g w a.defers)
    (hn : ∀ (g' : aN) (w' : World) (σ' : ai) (e' : Env) (a' : Act), Q .normal e' σ' -> Rel g' w' σ' -> iJ nt g' w' e' a'.tmps -> gE σ g w σ' g' w' -> lu [] B σ' g' w' a'.defers ->
      ∃ n first cap,x.ev e' = .fn (.func n) first cap/\ ∀ f1 c1,VR g' w' (.fn (.func n) first cap) (.func (.func n) f1 c1)->QQ .normal { a' with defers:= { target:= .fn (.func n) c1,args:=f1 }::a'.defers } w')
    (hp:∀ ex a' w',ex≠ .normal->QR [] nt B g w σ Q ex a' w'->QQ ex a' w') :
    Go.wpOpsIn (WF none) 0 P ops QQ (List.range ops.size) a w:=by
 unfold GR at hc;split at hc
 ·rename_i o Ro;split at hc
  ·rename_i x' gs' h1 h2;cases hc;have hne:ops.toList≠[]:=fun h=>by rw[h]at Ro;cases Ro
   have hsz:ops.size=ops.toList.dropLast.length+1:=by
    rw[List.length_dropLast,<-ff];have:=iR.2 hne;omega
   have abB:ops.toList=ops.toList.dropLast++[o]:=by
    rw[List.getLast?_eq_some_getLast hne]at Ro;cases Ro;exact(List.dropLast_concat_getLast hne).symm
   have hidx:∀ j,j<ops.toList.dropLast.length->ops[0+j]? = ops.toList.dropLast[j]?:=fun j hj=>by
    rw[bL,<-Array.getElem?_toList]
    conv=>lhs;rw[abB]
    rw[aI hj]
   have hlo:ops[ops.toList.dropLast.length]? = some o:=by
    have key:∀ l:List Oper,(l++[o])[(l++[o]).dropLast.length]? = some o:=fun l=>by simp
    rw[<-Array.getElem?_toList]
    conv=>lhs;rw[abB]
    exact key _
   rw[hsz,jt,List.range'_concat];have hs:=OX (X:=[]) (ro:=none) (wn:=0) (B:=B) (ops:=ops) (Q:=Q) (g0:=g) (w0:=w) (nN:=σ) ops.toList.dropLast 0 gs g w σ e a h2 hidx hw hR hE hd (.refl _ _ _);refine sw _ ?_ hp _ a w hs;rintro a1 w1 ⟨g1,e1,σ1,d1,r1,E1,v1,q1⟩;obtain⟨n,first,cap,hx,hq⟩:=hn g1 w1 σ1 e1 a1 q1 r1 E1 v1 d1;simp only[bL,Nat.one_mul,Go.wpOpsIn,hlo];unfold W8 at h1;split at h1
   ·rename_i c hop hg ael;split at h1
    ·rename_i f TX hargs;have hwn:Region.wanted o (yielded ops a1.tmps)=true:=by simp[Region.wanted,hg]
     rw[au hwn];have hv:=c9 h1 E1;rw[hx]at hv;generalize hfv:a1.eval f=fv at hv;have mF:=hv;cases hv;rename_i f1 c1 _ _ _ _
     have hz:c.args = #[]:=by
      have:=aW List.toArray hargs;simpa using this
     have hrun:(o.semAt (WF none).round a1.eval).run P w1 = .ok (.defer { target:= .fn (.func n) c1,args:=f1 }) w1:=by
      show(execOp a1.eval o).run P w1=_;unfold execOp;simp only[hop,resolve,TX,hz,hfv,Deferred.ofValue,Sem.run_bind,Sem.run_pure,Result.andThen_ok];simp
     refine⟨fun _ _=>trivial,?_⟩;rw[hrun];simp only[Oper.uponIn,ael,Act.put];exact hq f1 c1 mF
    ·cases h1
   ·cases h1
  ·cases hc
 ·cases hc
def BJ{g:aN}{w:World}{pv:Option AV}{u:FrameMode}(h:AO g w pv u): u≠ .run/\settle (zK u) = .returning:=by
 cases pv with
 | none=>have h:u = .returning:=h;subst h;exact⟨aQ,rfl⟩
 | some a=>obtain⟨v,h,_⟩:=h;subst h;exact⟨aQ,rfl⟩
def AO.mono{g g':aN}{w w':World}(hm:kH g w g' w'){pv:Option AV}{u:FrameMode}(h:AO g w pv u): AO g' w' pv u:=by
 cases pv with
 | none=>exact h
 | some a=>obtain⟨v,h,hv⟩:=h;exact⟨v,h,hv.mono hm⟩
def GS {fn : Func} {rs : List pO} {R : Out -> ai -> Prop} {g0 : aN} {w0 : World} {nN : ai} (O5 : lW P fn.ntmps fn.results.toList = some rs) {g1 : aN} {w1 : World} {σ1 : ai} {g' : aN} {w' : World} {σ' : ai} {e' : Env} {tmps : Array Value} {n : FuncId} {first cap : List AV} {f1 c1 : Array Value} {ms1 ms : List Deferred} {pv : Option AV} {u : FrameMode}
    (fy:gE nN g0 w0 σ1 g1 w1) (hB:w0.heap.size<=w1.heap.size) (aeo:y8 (fun D=>w0.heap.size<=D) σ1 g1 w1 ms1) (hv:VR g1 w1 (.fn (.func n) first cap) (.func (.func n) f1 c1)) (vA:y8 (fun D=>w1.heap.size<=D) σ' g' w' ms) (hR:Rel g' w' σ') (hE:iJ fn.ntmps g' w' e' tmps) (hv1:gE σ1 g1 w1 σ' g' w')
    (hu:AO g' w' pv u) (hq:vg P n (first++cap) pv σ' fun σ'=>mu e' σ' rs fun vs=>R (.ret (oneOf vs)) σ') :
    LeavesInM (WF none) 0 P fn tmps (fun e w'=> ∃ out g' σ',Rel g' w' σ'/\gE nN g0 w0 σ' g' w'/\A9 g' w' out e/\R out σ') (ms++({ target:= .fn (.func n) c1,args:=f1 }::ms1)) u w':=by
 refine ri (BJ hu).1 ms w' vA hR hE hv1 (fun w2 R2 E2 V2 M2=>?_);cases hv;rename_i hl hh hl' La;obtain⟨c3,c4⟩:=Dh hl (fun i hi=>(hh i hi).mono V2.mono) hl' (fun i hi=>(La i hi).mono V2.mono);refine⟨(BJ hu).1,.inr ⟨fun h=>by simp[WF,Fence.wide]at h,.func n,c1,n,f1++c1,rfl,?_,fun _ _=>trivial,?_⟩⟩
 ·simp only[invoke];exact FA hq.1 _ _
 refine(hq.2 g' w2 (f1++c1) u R2 c3 c4 (hu.mono M2)).mono ?_;rintro e u' w3 ⟨g3,σ3,v,rfl,rfl,R3,V3,hres⟩;show LeavesInM (WF none) 0 P fn tmps _ ms1 (settle (zK u)) w3;rw[(BJ hu).2]
 have:=ri (X:=[]) (P:=P) (R:=fun e w'=> ∃ out g' σ',Rel g' w' σ'/\gE nN g0 w0 σ' g' w'/\A9 g' w' out e/\R out σ') (fn:=fn) (tmps:=tmps) (u:= .returning) aQ ms1 w3 (aeo.step (V2.trans V3)) R3 (E2.mono V3.mono) ((fy.trans V2).trans V3) (fun w4 R4 E4 V4 M4=>by
  obtain⟨vz,us,r1,r2,r3,r4⟩:=O4 (P:=P) R4 E4 fn.results.toList rs _ O5 hres;exact⟨_,Be r1,.ret (oneOf vz),g3,σ3,R4,V4,Wn r2 r3,r4⟩)
 simpa using this
def Vv {fn : Func} {h : Hints} {rs : List pO} {R : Out -> ai -> Prop} {g0 : aN} {w0 : World} {nN : ai} (O5 : lW P fn.ntmps fn.results.toList = some rs) : ∀ (c : Code) (dc : tP) (g : aN) (w : World) (σ : ai) (e : Env) (a : Act),
    D5 P fn.ntmps h c=some dc->dc.wp P (JE rs R) (aem P rs R) e σ->Rel g w σ->iJ fn.ntmps g w e a.tmps->lu [] (fun D=>w0.heap.size<=D) σ g w a.defers->w0.heap.size<=w.heap.size->gE nN g0 w0 σ g w ->
    c.wpIn (WF none) 0 P (bodyPostM (WF none) 0 P fn fun e w'=> ∃ out g' σ',Rel g' w' σ'/\gE nN g0 w0 σ' g' w'/\A9 g' w' out e/\R out σ') a w:=by
 intro c
 have base:∀ (g:aN) (w:World) (σ : ai) (ex:Exit) (a':Act) (w':World),QR [] fn.ntmps (fun D=>w0.heap.size<=D) g w σ (JE rs R) ex a' w'->gE nN g0 w0 σ g w->bodyPostM (WF none) 0 P fn (fun e w'=> ∃ out g' σ',Rel g' w' σ'/\gE nN g0 w0 σ' g' w'/\A9 g' w' out e/\R out σ') ex a' w' :=
  fun g w σ ex a' w' hq fy=>Iy O5 (QR.step fy hq)
 induction c with
 | seq x y Ak x6 =>
   intro dc g w σ e a hc hw hR hE hd hB fy;simp only[D5]at hc;split at hc
   ·rename_i gs clo hr;obtain⟨rest,aku,rfl⟩:=bj.1 hc;obtain⟨ops,ho,hdr⟩:=gQ.1 hr;cases x with
    | region id ops' d =>
      cases d with
      | true=>cases ho
      | false =>
        cases ho
        refine wpIn_seq (wpIn_region (abA (Q:=mK (fun e σ=>match clo.ev e with
         | .fn (.func n) first cap=>jD P rest (aem P rs R n (first++cap)) e σ
         | _=>False) (JE rs R)) hdr hw hR hE hd ?_ ?_))
        ·intro g1 w1 σ1 e1 a1 q1 R1 E1 V1 D1;simp only[mK]at q1;split at q1
         ·rename_i n first cap hx
          refine⟨n,first,cap,hx,fun f1 c1 hv=>?_⟩;obtain⟨ms1,aeo,aep⟩:=D1;refine wpIn_mono (yo y ({ target:= .fn (.func n) c1,args:=f1 }::a1.defers) none 0 (fun D=>w1.heap.size<=D) rest _ g1 w1 σ1 e1 _ aku q1 R1 E1 (lu.nil _ _ _ _ _) (BX.at _ _)) ?_;rintro ex a2 w2 ⟨g2,e2,σ2,⟨ms,vA,hmo⟩,R2,E2,V2,q2⟩;have hds:a2.defers=ms++({ target:= .fn (.func n) c1,args:=f1 }::ms1):=by rw[vA,aeo,bZ]
          have hsz:=cR hB V1.size;cases ex with
          | normal =>
            show LeavesInM (WF none) 0 P fn a2.tmps _ a2.defers .returning w2;rw[hds];exact GS (pv:=none) O5 (fy.trans V1) hsz aep hv hmo R2 E2 V2 rfl q2
          | ret =>
            show LeavesInM (WF none) 0 P fn a2.tmps _ a2.defers .returning w2;rw[hds];exact GS (pv:=none) O5 (fy.trans V1) hsz aep hv hmo R2 E2 V2 rfl q2
          | panic ch =>
            obtain⟨v,av,rfl,hvr,q2⟩:=q2;show LeavesInM (WF none) 0 P fn a2.tmps _ a2.defers _ w2;rw[hds];exact GS (pv:=some av) O5 (fy.trans V1) hsz aep hv hmo R2 E2 V2 ⟨v,rfl,hvr⟩ q2
          | exit id=>exact q2.elim
          | goto l=>exact q2.elim
          | outgrown=>exact q2.elim
         exact q1.elim
        rintro ex a' w' hne ⟨g',e',σ',r1,r2,r3,r4,r5⟩;cases ex with
        | normal=>exact absurd rfl hne
        | exit id=>exact r5.elim
        | goto l=>exact r5.elim
        | ret=>exact base g w σ .ret a' w' ⟨g',e',σ',r1,r2,r3,r4,r5⟩ fy
        | panic ch=>exact base g w σ (.panic ch) a' w' ⟨g',e',σ',r1,r2,r3,r4,r5⟩ fy
        | outgrown=>exact r5.elim
    | _=>cases ho
   split at hc
   ·rename_i c1 d1 h1 h2;cases hc;refine wpIn_seq (wpIn_mono (yo x [] none 0 (fun D=>w0.heap.size<=D) c1 _ g w σ e a h1 hw hR hE hd (fun _ D hD=>cR hB hD)) ?_);rintro ex a' w' ⟨g',e',σ',r1,r2,r3,r4,r5⟩;cases ex with
    | normal=>exact x6 d1 g' w' σ' e' a' h2 r5 r2 r3 r1 (cR hB r4.size) (fy.trans r4)
    | exit id=>exact r5.elim
    | goto l=>exact r5.elim
    | ret=>exact base g w σ .ret a' w' ⟨g',e',σ',r1,r2,r3,r4,r5⟩ fy
    | panic ch=>exact base g w σ (.panic ch) a' w' ⟨g',e',σ',r1,r2,r3,r4,r5⟩ fy
    | outgrown=>exact r5.elim
   ·cases hc
 | _=>intro dc g w σ e a hc;cases hc
def cE.aiN {f : FuncId} {fn : Func} {h : Hints} {df : Rn} {args : List AV} {σ : ai} {R : Out → ai → Prop} (hf : P.funcs[f]? = some fn) (hn : (fn.name == "runtime.NumGoroutine") = false) (hc : AP P h fn = some df)
    (hl:args.length<=df.nt) (hw:df.body.wp P (JE df.results R) (aem P df.results R) (ld args) σ):cE P f args σ R:=by
 unfold AP at hc;split at hc
 ·rename_i c hb;split at hc
  ·rename_i b rs h1 h2;cases hc;refine⟨⟨fn,hf,by simp[hb],hn⟩,fun g w vs hR hlen hv=>?_⟩;refine M9.1 (callsIn_of_wp_marks (F:=WF none) (n:=0) hf hb trivial (Vv h2 c b g w σ (ld args) _ h1 hw hR ⟨?_,fun t ht=>?_⟩ (lu.nil _ _ _ _ _) (bg _) (.refl _ _ _)))
   ·simp only at hl;simp;omega
   by_cases h:t<args.length
   ·have h3:t<vs.size:=ae;have:=hv t h;simp only[ld];rw[e8,fx h3];simpa using this
   have:ld args t = .undef:=by simp[ld,iD (ja h)]
   rw[this];exact .undef _
  ·cases hc
 ·cases hc
end Go.AM
namespace Go.Proofs.YtoldfccfpameeaaGreatDoor
open Go.AM
set_option maxRecDepth 4000
section
variable {P:Program}
def aeq(v:AV){K:FuncId->List AV->Prop}(_:Tg K): Prop:=match v with
 | .fn (.func n) first cap=>K n (first++cap)
 | _=>False
def aiO(P:Program)(QD:FuncId->List AV->AQ)(x:AX)(rest:dL)(e:Env)(σ : ai): Prop:=aeq (x.ev e) (.mk:Tg fun n args=>jD P rest (QD n args) e σ)
def W9(n:FuncId)(first cap:List AV)(K:FuncId->List AV->Prop): aeq (.fn (.func n) first cap) (.mk:Tg K)=K n (first++cap):=_root_.id rfl
def W_(QD:FuncId->List AV->AQ)(x:AX)(rest:dL)(e:Env)(σ : ai): aiO P QD x rest e σ = aeq (x.ev e) (.mk:Tg fun n args=>jD P rest (QD n args) e σ):=_root_.id rfl
def yQ(Q:AQ)(QD:FuncId->List AV->AQ)(a:dL)(d:tP)(e:Env)(σ : ai): tP.wp P Q QD (.seq a d) e σ = jD P a (mK (tP.wp P Q QD d) Q) e σ:=_root_.id rfl
def Xa(Q:AQ)(QD:FuncId->List AV->AQ)(ops:List c_)(x:AX)(rest:dL)(e:Env)(σ : ai): tP.wp P Q QD (.dfr ops x rest) e σ = fD P (mK (aiO P QD x rest) Q) ops e σ:=by
 show fD P (mK _ Q) ops e σ = fD P (mK _ Q) ops e σ
 congr 2
def aer(T:TypeId)(ok:Bool)(z v:AV){K:AV->Prop}(_:Tg K): Prop:=y5 T ok z v K
@[go_sem ↓] def aoa (T:TypeId) (ok:Bool) (z:AV) (x:AX) (e:Env) (σ : ai) (K Kp:AV->ai->Prop):bx.run P (.ex (.Rz T ok z) [x]) e σ K Kp=aer T ok z (x.ev e) (.mk:Tg fun v=>K v σ):=_root_.id rfl
@[go_sem] def alj (T:TypeId) (z v:AV) (K:AV->Prop):aer T false z (.kZ T v) (.mk:Tg K)=K v:=by simp[aer,y5]
def cE.agG {f : FuncId} {fn : Func} {h : Hints} {df : Rn} {args : List AV} {σ : ai} {R : Out → ai → Prop} (hf : P.funcs[f]? = some fn) (hn : (fn.name == "runtime.NumGoroutine") = false) (hc : AP P h fn = some df) (hl : args.length ≤ df.nt)
    (hw : ∀ (Q : AQ) (QD : FuncId -> List AV -> AQ), (∀ e σ, Q .ret e σ = mu e σ df.results fun vs => R (.ret (oneOf vs)) σ) -> (∀ n az e σ, QD n az .ret e σ = vg P n az none σ fun σ' => mu e σ' df.results fun vs => R (.ret (oneOf vs)) σ') ->
      (∀ n az v e σ,QD n az (.panic v) e σ = vg P n az (some v) σ fun σ'=>mu e σ' df.results fun vs=>R (.ret (oneOf vs)) σ')->df.body.wp P Q QD (ld args) σ):cE P f args σ R :=
 cE.aiN hf hn hc hl (hw _ _ (fun _ _=>rfl) (fun _ _ _ _=>rfl) (fun _ _ _ _ _=>rfl))
end
def Kl: dL:= .seq (.region [⟨.mv (.t 2),(some 4),none⟩,⟨.n_ true .i (.t 4) (.c .jR),(some 5),none⟩])<|
 .cond (.t 5) (.draw [⟨.build [(.int .i64 0),(.int .i64 0),(.str [])] [],(some 6),none⟩,⟨.mv (.t 2),(some 7),none⟩,⟨.ex (.Rz 27 false (.int .i64 0)) [(.t 7)],(some 8),none⟩,⟨.store 3 (.t 0) (.t 6),none,none⟩,⟨.store 1 (.t 1) (.t 8),none,none⟩] []) (.skip)
def GU: D4:=⟨9,3,[(.t 3,some 2)],Kl⟩
def GV: Kk Tryz.prog {} Tryz.f189=some GU:=fc
def GW: tP:= .seq (.region [⟨.box (.t 0),(some 3),none⟩,⟨.alloc none [(.int .i64 0),(.int .i64 0),(.str [])],(some 6),none⟩,⟨.alloc none [(.int .i64 0)],(some 7),none⟩])<|
 .seq (.seq (.region [⟨.load true 6 (.t 3),(some 10),none⟩,⟨.call false (.c (.fn (.func 188) [] [])) [(.t 10)],(some 11),none⟩,⟨.bin .neq (.t 11) (.c (.int .i64 0)),(some 12),none⟩,⟨.mv (.t 12),(some 13),none⟩,⟨.mv (.t 1),(some 14),some (13,false)⟩,⟨.len false (.t 14),(some 15),some (13,false)⟩,⟨.mv (.t 2),(some 16),some (13,false)⟩,⟨.len false (.t 16),(some 17),some (13,false)⟩,⟨.bin .neq (.t 15) (.t 17),(some 18),some (13,false)⟩,⟨.pick (.t 13) (.c (.bool true)) (.t 18),(some 19),none⟩])<|
 .cond (.t 19) (.seq (.region [⟨.build [(.int .i64 0),(.int .i64 0),(.str [])] [],(some 20),none⟩,⟨.store 3 (.t 6) (.t 20),none,none⟩,⟨.store 1 (.t 7) (.c (.int .i64 2)),none,none⟩])<|
 .ret) (.skip))<|
 .seq (.seq (.region [⟨.mv (.t 2),(some 21),none⟩,⟨.len false (.t 21),(some 22),none⟩,⟨.mv (.c (.int .i64 0)),(some 23),none⟩])<|
 .block 0 (.loop (.seq (.region [⟨.bin .lss (.t 23) (.t 22),(some 24),none⟩])<|
 .seq (.cond (.t 24) (.skip) (.exit 0))<|
 .seq (.block 1 (.seq (.region [⟨.fA ⟨true,3⟩ none (.t 21) (.t 23),(some 25),none⟩,⟨.load true 3 (.t 25),(some 26),none⟩,⟨.alloc none [(.int .i64 0),(.int .i64 0),(.str [])],(some 9),none⟩,⟨.store 3 (.t 9) (.t 26),none,none⟩])<|
 .seq (.region [⟨.load true 3 (.t 9),(some 27),none⟩,⟨.call false (.c (.fn (.func 136) [] [])) [(.t 27)],(some 28),none⟩,⟨.bin .neq (.t 28) (.c (.int .i64 0)),(some 29),none⟩])<|
 .cond (.t 29) (.seq (.region [⟨.build [(.int .i64 0),(.int .i64 0),(.str [])] [],(some 30),none⟩,⟨.store 3 (.t 6) (.t 30),none,none⟩,⟨.store 1 (.t 7) (.c (.int .i64 2)),none,none⟩])<|
 .ret) (.skip)))<|
 .region [⟨.bin .add (.t 23) (.c (.int .i64 1)),(some 31),none⟩,⟨.mv (.t 31),(some 23),none⟩])))<|
 .dfr [⟨.tU (.func 189) [] [(.t 6),(.t 7)],(some 32),none⟩] (.t 32)<|
 .seq (.region [⟨.mv (.t 1),(some 33),none⟩,⟨.mv (.t 2),(some 34),none⟩,⟨.build [.aV,.aV] [(0,1,(.t 33)),(1,1,(.t 34))],(some 35),none⟩,⟨.load true 6 (.t 3),(some 36),none⟩,⟨.call false (.c (.fn (.func 190) [] [])) [(.t 35),(.t 36)],(some 37),none⟩,⟨.store 3 (.t 6) (.t 37),none,none⟩,⟨.store 1 (.t 7) (.c (.int .i64 0)),none,none⟩])<|
 .ret
def agH: Rn:=⟨38,[.cell 6 true 3,.cell 7 false 1],GW⟩
def Zb: AP Tryz.prog {} Tryz.f144=some agH:=fc
def Km{σ : ai}{R:ai->Prop}{k l:Nat}(h:R σ): vg aH 189 [.ref k 0,.ref l 0] none σ R:=by
 refine vg.of_wp Tryz.func189 fc GV (Nat.le_of_ble_eq_true rfl) ?_;unfold D4.wp;simp only[GU,N7];obtain⟨Q,hQ⟩:∃ Q:AQ,Q=N8 R:=⟨_,rfl⟩;have aK:∀ e σ,Q .normal e σ = R σ:=fun e σ=>by rw[hQ];rfl
 have aJ:=aK;have aL:=aK;rw[<-hQ];unfold Kl;simp (disch:=omega) only[go_sem,aK,Option.getD_none,pH,qd];exact h
def Kn{σ : ai}{R:ai->Prop}{k l:Nat}{x y z w:AV}{e:Int}(hk : σ[k]? = some (.cells [x,y,z]))(hl:(σ.set k (.cells [I 0,I 0,.str []]))[l]? = some (.cells [w]))(h:R ((σ.set k (.cells [I 0,I 0,.str []])).set l (.cells [I e]))): vg aH 189 [.ref k 0,.ref l 0] (some (rL e)) σ R:=by
 refine vg.of_wp Tryz.func189 fc GV (Nat.le_of_ble_eq_true rfl) ?_;unfold D4.wp;simp only[GU,N7];obtain⟨Q,hQ⟩:∃ Q:AQ,Q=N8 R:=⟨_,rfl⟩;have aK:∀ e σ,Q .normal e σ = R σ:=fun e σ=>by rw[hQ];rfl
 have aJ:=aK;have aL:=aK;rw[<-hQ];unfold Kl;simp (disch:=omega) only[go_sem,aK,bT,pH,qd,rL];repeat' first|refine cz (zA hk hl) ?_|refine aB ?_|refine aA ?_ ?_<;>intro hw<;>try omega|fail
 exact h
def BK: jE->AV
 | .ok v=> .bU [c8 v,I 0]
 | .err e=> .bU [c8 v0,I e]
def CL(v:aX): BK (.ok v) = .bU [c8 v,I 0]:=rfl
def uf(e:Int): BK (.err e) = .bU [c8 v0,I e]:=rfl
def D6{x:Expr}{cs:List cV}{row:List aX}{r:AV} (h:∀ (Q:AQ) (QD:FuncId->List AV->AQ),(∀ e σ,Q .ret e σ = mu e σ [.cell 6 true 3,.cell 7 false 1] fun vs=> ∃ r0,Out.ret (oneOf vs) = .ret r0/\View σ r0 r) ->
 (∀ n az e σ,QD n az .ret e σ = vg aH n az none σ fun σ'=>mu e σ' [.cell 6 true 3,.cell 7 false 1] fun vs=> ∃ r0,Out.ret (oneOf vs) = .ret r0/\View σ' r0 r) ->
 (∀ n az v e σ, QD n az (.panic v) e σ = vg aH n az (some v) σ fun σ' => mu e σ' [.cell 6 true 3, .cell 7 false 1] fun vs => ∃ r0, Out.ret (oneOf vs) = .ret r0 /\ View σ' r0 r) -> tP.wp Tryz.prog Q QD GW (ld [br x, b_ cs, bu row]) []) :
    aS aH 144 [br x,b_ cs,bu row] r :=
 aS.Yc (cE.agG Tryz.func144 fc Zb (Nat.le_of_ble_eq_true rfl) h) aQ
def PL{x:Expr}{cs:List cV}{row:List aX}(h:¬ (ef x=true/\cs.length=row.length/\zF row=true)): j5 x cs row = .err 2:=by
 unfold j5;rw[aj (by simpa[aD,and_assoc]using h)]
def Zc{x:Expr}{cs:List cV}{row:List aX}(h1:ef x=true)(h2:cs.length=row.length)(h3:zF row=true): j5 x cs row=td cs row x:=by
 unfold j5;rw[au (by simp[h1,h2,h3])]
def GX(x:Expr)(cs:List cV)(row:List aX)(hx:jj x)(hz:gV x<=2^60)(GJ:cs.length<=2^60)(hr:row.length<=2^40)(hrow:∀ w ∈ row,uv w): aS aH 144 [br x,b_ cs,bu row] (BK (j5 x cs row)):=by
 have c1:=zn x hx hz;by_cases h1:ef x=true/\cs.length=row.length
 case neg =>
  rw[PL (fun h=>h1 ⟨h.1,h.2.1⟩),uf];refine D6 fun Q QD aJ hDr hDp=>?_;have aK:=aJ;have aL:=aJ;unfold GW;rw[bM]at c1 |-;simp only[b_,bu];cases za:ef x with
  | true =>
    have hl:cs.length≠row.length:=fun h=>h1 ⟨za,h⟩;simp only[za,ji,if_true]at c1;repeat' first|simp (disch:=omega) only[go_sem,aJ,aK,aL,yQ]|refine aB ?_|refine aA ?_ ?_<;>intro hw<;>try omega|fail
    all_goals first|exact cn rfl rfl|exact bJ
  | false =>
    simp only[za,ji,aP,if_false]at c1;repeat' first|simp (disch:=omega) only[go_sem,aJ,aK,aL,yQ]|refine aB ?_|refine aA ?_ ?_<;>intro hw<;>try omega|fail
    all_goals first|exact cn rfl rfl|exact bJ
 obtain⟨za,hl⟩:=h1;simp only[za,ji,if_true]at c1;have cv:=fun i (hi:i<row.length)=>l7 (row.getD i default).kind (row.getD i default).n (row.getD i default).s (hrow _ (bq hi)).1.1 (hrow _ (bq hi)).1.2;cases BY:zF row with
 | false =>
   rw[PL (fun h=>by rw[h.2.2]at BY;cases BY),uf]
   obtain⟨j,hj,hb⟩:∃ j,j<row.length/\cg (row.getD j default)=false:=by
    unfold zF at BY;rw[ig]at BY;obtain⟨v,hv,hn⟩:=BY;obtain⟨j,hj,rfl⟩:=bV hv;exact⟨j,hj,by rw[aq,aG hj];simpa using hn⟩
   refine D6 fun Q QD aJ hDr hDp=>?_;have aK:=aJ;have aL:=aJ;unfold GW;rw[bM]at c1 |-;simp only[b_,bu];repeat' first|simp (disch:=omega) only[go_sem,aJ,aK,aL,yQ]|refine aB ?_|refine aA ?_ ?_<;>intro hw<;>try omega|fail
   with_reducible refine bE [9,1,23,9] (fun q:Nat × List aY=>[(23,I q.1)]) (fun q=> .cells [I x.op,I x.v.kind,I x.v.n,.str x.v.s,.str x.s,.aR false EX (x.l.map br)]:: .cells [I 0,I 0,.str []]:: .cells [I 0]::q.2) (fun q=>q.1<=j) (fun q=>row.length-q.1) (0,[]) ?_ ?_ ?_ ?_
   ·simp
   ·rfl
   ·exact at_
   rintro⟨i,τ⟩ r h2;dsimp only at h2;have hi:i<row.length:=ae;have c:=cv i hi;have hij:i=j->cg (row.getD i default)=false:=fun e=>by rw[e];exact hb
   obtain⟨v,hv⟩:=cq (row.getD i default);rw[hv]at c hij;have ev:cg ⟨v.kind,v.n,v.s⟩=cg v:=rfl;rw[ev]at c;cases iA:cg v with
   | true =>
     have hne:i≠j:=fun e=>by rw[hij e]at iA;cases iA
     simp only[iA,ji,if_true]at c;repeat' first|refine cz hv ?_|refine aB ?_|refine eU c ?_|refine aA ?_ ?_<;>intro hw<;>try omega|fail
     refine⟨(i+1,τ++[.cells [I v.kind,I v.n,.str v.s]]),?_,?_,by first|rfl|(simp[go_sem];done),da,at_⟩
     ·dsimp only;omega
     dsimp only;omega
   | false =>
     simp only[iA,ji,aP,if_false]at c;repeat' first|refine cz hv ?_|refine aB ?_|refine eU c ?_|refine aA ?_ ?_<;>intro hw<;>try omega|fail
     exact cn rfl rfl
 | true =>
   rw[Zc za hl BY];have hg:∀ w ∈ row,iC w:=fun w hw=>⟨bf.1 BY w hw,hrow w hw⟩;have fy:=Mr cs row hl GJ hg x ⟨za,hx,hz⟩;generalize td cs row x=r at *;refine D6 fun Q QD aJ hDr hDp=>?_;have aK:=aJ;have aL:=aJ;unfold GW;simp only[rN]at fy;rw[bM]at c1 fy |-;simp only[b_,bu]at fy |-;repeat' first|simp (disch:=omega) only[go_sem,aJ,aK,aL,yQ]|refine aB ?_|refine aA ?_ ?_<;>intro hw<;>try omega|fail
   with_reducible refine bE [9,1,23,9] (fun q:Nat × List aY=>[(23,I q.1)]) (fun q=> .cells [I x.op,I x.v.kind,I x.v.n,.str x.v.s,.str x.s,.aR false EX (x.l.map br)]:: .cells [I 0,I 0,.str []]:: .cells [I 0]::q.2) (fun q=>q.1<=row.length) (fun q=>row.length-q.1) (0,[]) ?_ ?_ ?_ ?_
   ·simp
   ·rfl
   ·exact at_
   rintro⟨i,τ⟩ r' h2;dsimp only at h2;by_cases hi:i<row.length
   ·have c:=cv i hi;have iA:=(hg _ (bq hi)).1;obtain⟨v,hv⟩:=cq (row.getD i default);rw[hv]at c iA;have ev:cg ⟨v.kind,v.n,v.s⟩=cg v:=rfl;rw[ev]at c;simp only[iA,ji,if_true]at c;repeat' first|refine cz hv ?_|refine aB ?_|refine eU c ?_|refine aA ?_ ?_<;>intro hw<;>try omega|fail
    refine⟨(i+1,τ++[.cells [I v.kind,I v.n,.str v.s]]),?_,?_,by first|rfl|(simp[go_sem];done),da,at_⟩
    ·dsimp only;omega
    dsimp only;omega
   ·cases r with
    | ok v =>
      have fy:aS aH 190 _ (c8 v):=fy;rw[CL]at *;simp only[c8]at fy;repeat' first|simp (disch:=omega) only[go_sem,aJ,aK,aL,yQ,Xa,W_,W9,hDr,hDp]|refine aB ?_|with_reducible refine Km ?_|refine aA ?_ ?_<;>intro hw<;>try omega|fail
      exact cn rfl rfl
    | err e =>
      have fy:dF aH 190 _ (.panic (rL e)):=fy;rw[uf]at *;repeat' first|simp (disch:=omega) only[go_sem,aJ,aK,aL,yQ,Xa,W_,W9,hDr,hDp]|refine aB ?_|refine Cy fy ?_|with_reducible refine Kn rfl rfl ?_|refine aA ?_ ?_<;>intro hw<;>try omega|fail
      exact cn rfl rfl
def pw(i:Nat): Int:=2 ^ (63-i)
def agI{l:List aX}{i:Nat}(hi:i<l.length)(h:cg (l.getD i default)=false): l.all cg=false:=by
 rw[ig];exact⟨_,bq hi,by rw[h];simp⟩
def aiP{l:List aX}(h:∀ k,k<l.length->cg (l.getD k default)=true): l.all cg=true:=by
 rw[bf];intro v hv;obtain⟨k,hk,rfl⟩:=bV hv;have:=h k hk;rwa[aq,aG hk]at this
def valOf: jE->aX
 | .ok v=>v
 | .err _=>v0
def CM{e:Int}(h:(jE.err e).good): e≠0:=by
 have h:e=2\/e=5\/e=13\/e=14\/e=15\/e=16:=h;omega
def iz(a:aX): c8 a = .agg [I a.kind,I a.n,.str a.s]:=rfl
def Mu{σ : ai}{x y B:Bool}(h:B=y)(hx:x=y): ∃ r0,Out.ret (oneOf [AV.bool x])=Out.ret r0/\View σ r0 (AV.bool B):=by
 subst h;subst hx;exact aZ rfl rfl
def Zd{c:Cell}{v:aX}{cs:List cV}{row:List aX}(h:¬ (jH c=true/\cg v=true/\cs.length=row.length/\zF row=true)): nH c v cs row=(false,2):=by
 unfold nH;rw[aj];intro h2;simp only[aD,aM]at h2;exact h ⟨h2.1.1.1,h2.1.1.2,h2.1.2,h2.2⟩
def Vw{c:Cell}{v:aX}{cs:List cV}{row:List aX}(h1:jH c=true)(h2:cg v=true)(h3:cs.length=row.length)(h4:zF row=true): nH c v cs row=u7 cs row v c.any c.neg c.tests:=by
 unfold nH;rw[au (by simp[h1,h2,h3,h4])]
section
variable {α : Type} (τ : List α) (x y z w : α)
def ap3: τ++[x]++[y]++[z] = τ++[x,y,z]:=aQ
def ap2: τ++[x]++[y] = τ++[x,y]:=aQ
def aoT: (τ++[x]++[y]++[z])[τ.length+1]? = some y:=by rw[ap3,bp ae];simp
def aiQ: (τ++[x]++[y])[τ.length]? = some x:=by rw[ap2];simp
def amS: (τ++[x]++[y])[τ.length+1]? = some y:=by rw[ap2,bp ae];simp
def amT: (τ++[x]++[y]).set (τ.length+1) w = τ++[x]++[w]:=by rw[ap2,ap2,dY _ _ ae,show τ.length+1 - τ.length=1 by omega];rfl
end
def PN(p:Bool × Int): AV:= .bU [.bool p.1,I p.2]
def tu{σ : ai}{b:Bool}{e:Int}{p:Bool × Int}(h:p=(b,e)): ∃ r0,Out.ret (oneOf [AV.bool b,I e])=Out.ret r0/\View σ r0 (PN p):=by
 subst h;exact cn rfl rfl
def CN(l:List aX)(v:aX)(hl:l.length<=2^60): aS aH 282 [bu l,c8 v] (.bool (l.any fun x=>x==v)):=by
 have c:=rH l v hl;rw[<-wg];generalize kW _ l=i at *;simp only[bu,iz]at c |-;refine a_ zg ?_;intro Q aJ aK aL;repeat' first|refine aB ?_|refine eU c ?_|refine aA ?_ ?_<;>intro hw<;>try omega|fail
 all_goals exact aZ rfl rfl
def Ze{v:aX}(h:cg v=true): (v==v0)=eu v:=by
 unfold eu;rw[c7,beq_iff_eq,aM];exact⟨fun e=>by rw[e];rfl,fun e=>agy h e⟩
def AS(t:Test)(a b:aX): List aX:=if t.kind=6 then [a,b]else [a]
def Vx(t:Test)(v a b:aX)(ha:cg a=true)(hb:cg b=true)(h6:¬ t.kind=6->b=a)(hk6:1<=t.kind/\t.kind<=6): aS aH 258 [dV t,c8 v,bu (AS t a b)] (.bool (uZ t v a b)):=by
 have c0:=CN (AS t a b) v0 (by unfold AS;split<;>simp)
 have Ka:((AS t a b).any fun x=>x==v0)=(eu a || eu b):=by
  unfold AS;split
  ·simp[Ze ha,Ze hb]
  rename_i h;rw[h6 h];simp[Ze ha]
 rw[Ka]at c0;have c1:=nY v a;have c2:=nY v b;have hD:=CB v a;obtain⟨B,hB⟩:=cq (uZ t v a b);rw[hB];obtain⟨m1,h1⟩:∃ m,jq v a=m:=⟨_,rfl⟩;obtain⟨m2,h2⟩:∃ m,jq v b=m:=⟨_,rfl⟩;rw[h1]at c1;rw[h2]at c2;obtain⟨N,hN⟩:=cq ((eu a || eu b));rw[hN]at c0;clear ha hb Ka;obtain⟨k,ta,tb,lo,hi⟩:=t;unfold AS at *;dsimp only at *;by_cases hk:k=6
 ·rw[au hk]at *;simp only[dV,bu,bB,de,iz v,iz a,iz b,iz v0]at c0 c1 c2 |-;have e0:AV.agg [I v0.kind,I v0.n,.str v0.s]=AV.agg [I 0,I 0,.str []]:=rfl;rw[e0]at c0;refine a_ B6 ?_;intro Q aJ aK aL;repeat' first|simp (disch:=omega) only[go_sem,aJ,aK,aL,Int.reduceToNat]|refine aB ?_|refine eU c0 ?_|refine aA ?_ ?_<;>intro hw<;>try omega|fail
  all_goals first
   |(refine Mu (hB.symm) ?_;unfold uZ;rw[h1,h2,hD,Bool.or_assoc,hN];unfold eu;clear c0 c1 c2 hB hD hN aJ aK aL;simp_all;done)
   | (refine Mu (hB.symm) ?_; unfold uZ; rw [h1, h2, hD, Bool.or_assoc, hN]; unfold eu; have h9 : decide (0 < m1) = false := decide_eq_false ae
      rw[h9];clear h9 c0 c1 c2 hB hD hN h1 h2 aJ aK aL;simp_all;done)
   | exact bJ
   | skip
 have hba:=h6 hk;subst hba;rw[aj hk]at *;simp only[dV,bu,bB,de,iz v,iz b,iz v0]at c0 c1 c2 |-;have e0:AV.agg [I v0.kind,I v0.n,.str v0.s]=AV.agg [I 0,I 0,.str []]:=rfl;rw[e0]at c0;clear h6;refine a_ B6 ?_;intro Q aJ aK aL;repeat' first|simp (disch:=omega) only[go_sem,aJ,aK,aL,Int.reduceToNat]|refine aB ?_|refine eU c0 ?_|refine aA ?_ ?_<;>intro hw<;>try omega|fail
 all_goals first
  |(refine Mu (hB.symm) ?_;unfold uZ;rw[h1,hD,Bool.or_assoc,hN];unfold eu;clear c0 c1 c2 hB hD hN aJ aK aL;simp_all;done)
  | exact bJ
  | skip
def Ko(c:Cell)(v:aX)(cs:List cV)(row:List aX): Bool:=jH c && cg v && decide (cs.length=row.length) && zF row
def Xb(b:Bool): (ji b=0)↔b=true:=by cases b<;>simp[ji]
def pZ{σ : ai}{x y:Int}(h:y=x): ∃ r0,Out.ret (oneOf [I x])=Out.ret r0/\View σ r0 (I y):=by
 subst h;exact aZ rfl rfl
def aes(c:Cell)(v:aX)(cs:List cV)(row:List aX)(hc:pR c)(hv:uv v)(GJ:cs.length<=2^60)(hr:row.length<=2^40)(hrow:∀ w ∈ row,uv w): aS aH 226 [er c,c8 v,b_ cs,bu row] (I (if Ko c v cs row=true then 0 else 2)):=by
 have c1:=yz c hc.ok;have c2:aS aH 136 [.agg [I v.kind,I v.n,.str v.s]] (I (ji (cg v))):=l7 v.kind v.n v.s hv.1.1 hv.1.2;have cv:=fun k (hk:k<row.length)=>(show aS aH 136 [.agg [I (row.getD k default).kind,I (row.getD k default).n,.str (row.getD k default).s]] (I (ji (cg (row.getD k default)))) from l7 _ _ _ (hrow _ (bq hk)).1.1 (hrow _ (bq hk)).1.2);clear hc hv hrow;obtain⟨R,hR⟩:=cq (Ko c v cs row);rw[hR];by_cases h1:jH c=true/\cg v=true/\cs.length=row.length
 case neg =>
  have e:R=false:=by
   rw[<-hR];unfold Ko;cases h:(jH c && cg v && decide (cs.length=row.length))with
   | false=>rfl
   | true=>simp only[aD,aM]at h;exact absurd ⟨h.1.1,h.1.2,h.2⟩ h1
  rw[e,aj cW];have e1:=Xb (jH c);have e2:=Xb (cg v);have h1:¬ (ji (jH c)=0/\ji (cg v)=0/\cs.length=row.length):=fun h=>h1 ⟨e1.1 h.1,e2.1 h.2.1,h.2.2⟩;clear e1 e2 cv hR;generalize ji (jH c)=x1 at *;generalize ji (cg v)=x2 at *;simp only[er,jr,iz,b_,bu]at c1 c2 |-;refine a_ IA ?_;intro Q aJ aK aL;repeat' first|refine aB ?_|refine aA ?_ ?_<;>intro hw<;>try omega|fail
  all_goals first
   | exact pZ rfl
   |(exfalso;exact h1 ⟨ae,ae,ae⟩)
   | skip
 obtain⟨hrc,Tk,hl⟩:=h1;have Ev:zF row=R:=by rw[<-hR];unfold Ko;simp[hrc,Tk,hl]
 rw[hrc]at c1;rw[Tk]at c2;have z:ji true=0:=rfl;rw[z]at c1 c2;clear hR z;simp only[er,jr,iz,b_,bu]at c1 c2 |-;refine a_ IA ?_;intro Q aJ aK aL;repeat' first|refine aB ?_|refine aA ?_ ?_<;>intro hw<;>try omega|fail
 with_reducible refine bE [8,1,10,1,28,8] (fun q:Nat × List aY=>[(28,I q.1)]) (fun q=> .cells [.bool c.any,.bool c.neg,.aR false ES (c.tests.map dV)]:: .cells [I v.kind,I v.n,.str v.s]::q.2) (fun q=>q.1<=row.length/\ ∀ k,k<q.1->cg (row.getD k default)=true) (fun q=>row.length-q.1) (0,[]) ?_ ?_ ?_ ?_
 ·simp
 ·rfl
 ·exact at_
 rintro⟨i,τ⟩ r ⟨g1,g2⟩;dsimp only at g1 g2;by_cases hi:i<row.length
 ·have c3:=cv i hi;have hne:=fun h=>agI hi h;have dR:=fun he=>cj (q:=fun k=>cg (row.getD k default)=true) g2 (i:=i) he;obtain⟨w,sG⟩:=cq (row.getD i default);rw[sG]at c3 hne dR;clear cv;cases hb:cg w with
  | true =>
    have dR:=dR hb;rw[hb]at c3;have z:ji true=0:=rfl;rw[z]at c3;clear hne;repeat' first|refine cz sG ?_|refine aB ?_|refine aA ?_ ?_<;>intro hw<;>try omega|fail
    all_goals first
     | exact bJ
     |(refine⟨(i+1,τ++[.cells [I w.kind,I w.n,.str w.s]]),⟨by dsimp only;omega,dR⟩,by dsimp only;omega,by first|rfl|(simp[go_sem];done),da,at_⟩)
     | skip
  | false =>
    have e:R=false:=by rw[<-Ev];exact hne hb
    rw[hb]at c3;have z:ji false=2:=rfl;rw[z]at c3;clear dR hne;repeat' first|refine cz sG ?_|refine aB ?_|refine aA ?_ ?_<;>intro hw<;>try omega|fail
    all_goals first
     | exact bJ
     | exact pZ (by rw[e];rfl)
     | skip
 have e:R=true:=by rw[<-Ev];exact aiP fun k hk=>g2 k ae
 clear cv;repeat' first|refine aB ?_|refine aA ?_ ?_<;>intro hw<;>try omega|fail
 all_goals first
  | exact pZ (by rw[e];rfl)
  | exact bJ
  | skip
def Kq(t:Test)(v:aX)(o:List aX × Int): Bool × Int :=
 if o.2≠0 then(false,o.2)else if o.1.all (fun w=>oT t v.kind w.kind)then (uZ t v (o.1.getD 0 default) (o.1.getD (o.1.length-1) default),0)else (false,14)
def GY{cs:List cV}{row:List aX}{x:Expr}{r:List Expr}{acc:List aX}{e:Int}(h:j5 x cs row = .err e): jJ cs row (x::r) acc=([],e):=by simp only[jJ,h]
def D7{cs:List cV}{row:List aX}{x:Expr}{r:List Expr}{acc:List aX}{v:aX}(h:j5 x cs row = .ok v): jJ cs row (x::r) acc=jJ cs row r (acc++[v]):=by simp only[jJ,h]
def GZ{cs:List cV}{row:List aX}{acc:List aX}: jJ cs row [] acc=(acc,0):=rfl
def TY{t:Test}{v:aX}{l:List aX}{e:Int}(h:e≠0): Kq t v (l,e)=(false,e):=by unfold Kq;exact if_pos h
def N9{t:Test}{v:aX}{l:List aX}: Kq t v (l,0)=if l.all (fun w=>oT t v.kind w.kind)then (uZ t v (l.getD 0 default) (l.getD (l.length-1) default),0)else (false,14):=by unfold Kq;exact if_neg aQ
def aiR{cs:List cV}{row:List aX}(v:aX)(t:Test)(ga:(j5 t.a cs row).good)(gb:(j5 t.b cs row).good): u0 cs row v t=Kq t v (jJ cs row (qt t) []):=by
 unfold u0 qt;cases ha:j5 t.a cs row with
 | err e =>
   rw[ha]at ga;have he:=CM ga;dsimp only;split<;>rw[GY ha,TY he]
 | ok a =>
   dsimp only;by_cases h6:t.kind=6
   ·rw[au h6,au h6,D7 ha];cases hb:j5 t.b cs row with
    | err e =>
      rw[hb]at gb;have he:=CM gb;dsimp only;rw[GY hb,TY he]
    | ok b =>
      dsimp only;rw[D7 hb,GZ,N9];simp[zG]
   rw[aj h6,aj h6,D7 ha,GZ,N9];simp[zG]
def aeu(t:Test)(v:aX)(cs:List cV)(row:List aX)(ht:zz t)(hk6:1<=t.kind/\t.kind<=6)(GJ:cs.length<=2^60)(hr:row.length<=2^40)(hrow:∀ w ∈ row,uv w): aS aH 227 [dV t,c8 v,b_ cs,bu row] (PN (u0 cs row v t)):=by
 have gA:=pV (cs:=cs) hrow ht.1.1;have gB:=pV (cs:=cs) hrow ht.2.1;rw[aiR v t gA gB];have cP:=L8 t
 have hps:(qt t).length<=2/\ ∀ x ∈ qt t,aS aH 144 [br x,b_ cs,bu row] (BK (j5 x cs row))/\(j5 x cs row).good:=by
  have a:=GX t.a cs row ht.1.1 (by have:=ht.1.2;omega) GJ hr hrow;have b:=GX t.b cs row ht.2.1 (by have:=ht.2.2;omega) GJ hr hrow;unfold qt;split
  ·exact⟨aQ,fun x hx=>by rcases List.mem_cons.1 hx with rfl|hx;exact⟨a,gA⟩;rcases List.mem_cons.1 hx with rfl|hx;exact⟨b,gB⟩;cases hx⟩
  exact⟨aQ,fun x hx=>by rcases List.mem_cons.1 hx with rfl|hx;exact⟨a,gA⟩;cases hx⟩
 have hT:(qt t).length=if t.kind=6 then 2 else 1:=by unfold qt;split<;>rfl
 obtain⟨hp2,fy⟩:=hps;have hf:=fun x=>Gn t v.kind x;have Lv:=fun a b ha hb h6=>Vx t v a b ha hb h6 hk6;clear gA gB ht hk6 hrow;generalize qt t=ps at *;obtain⟨R,hR⟩:=cq (jJ cs row ps []);rw[hR];obtain⟨E,hE⟩:=cq (Kq t v R);rw[hE];simp only[dV,ez,b_,bu,iz v]at cP hf Lv |-;refine a_ UP ?_;intro Q aJ aK aL;repeat' first|refine aB ?_|refine aA ?_ ?_<;>intro hw<;>try omega|fail
 with_reducible refine bE [8,3,12,3,20,19] (fun q:List aX × List aY=>[(10,.own EV 2 q.1.length 0 q.1.length),(20,I q.1.length)]) (fun q=> .cells [I t.kind,I t.a.op,I t.a.v.kind,I t.a.v.n,.str t.a.v.s,.str t.a.s,.aR false EX (t.a.l.map br),I t.b.op,I t.b.v.kind,I t.b.v.n,.str t.b.v.s,.str t.b.s,.aR false EX (t.b.l.map br),.bool t.lo,.bool t.hi]:: .cells [I v.kind,I v.n,.str v.s]:: .vec EV (q.1.map c8)::q.2) (fun q=>q.1.length<=ps.length/\(∀ w ∈ q.1,iC w)/\jJ cs row (ps.drop q.1.length) q.1=R) (fun q=>ps.length-q.1.length) ([],[]) ?_ ?_ ?_ ?_
 ·exact⟨aQ,aQ,by simpa using hR⟩
 ·rfl
 ·exact at_
 rintro⟨L,τ⟩ r ⟨h1,h2,h3⟩;dsimp only at h1 h2 h3;clear hR;by_cases hi:L.length<ps.length
 ·have hx:=fy _ (bq hi);rw[kG hi]at h3;obtain⟨x,hx0⟩:=cq (ps.getD L.length default);rw[hx0]at hx h3;obtain⟨cA,gA⟩:=hx;simp only[jJ]at h3;generalize j5 x cs row=ra at *;rw[bM]at cA;simp only[b_,bu]at cA;cases ra with
  | err e =>
    have he:=CM gA;rw[uf]at cA;dsimp only at h3;simp only[iz]at cA;have hE2:E=(false,e):=by rw[<-hE,<-h3];unfold Kq;exact if_pos he
    repeat' first|refine cz hx0 ?_|refine aB ?_|refine aA ?_ ?_<;>intro hw<;>try omega|fail
    all_goals first|exact tu hE2|exact bJ|skip
  | ok a =>
    rw[CL]at cA;dsimp only at h3;simp only[iz]at cA;repeat' first|refine cz hx0 ?_|refine aB ?_|refine aA ?_ ?_<;>intro hw<;>try omega|fail
    all_goals first
     | (refine ⟨(L ++ [a], τ ++ [.cells [I x.op, I x.v.kind, I x.v.n, .str x.v.s, .str x.s, .aR false EX (x.l.map br)]] ++ [.cells [I a.kind, I a.n, .str a.s]]), ⟨by dsimp only; simp only [List.length_append, List.length_cons, List.length_nil]; omega, fun w hw => ?_, by dsimp only; simp only [List.length_append, List.length_cons, List.length_nil]; exact h3⟩, by dsimp only; simp only [List.length_append, List.length_cons, List.length_nil]; omega, by simp [go_sem], da, at_⟩
        rcases List.mem_append.1 hw with hw|hw
        ·exact h2 w hw
        ·rcases List.mem_cons.1 hw with rfl|hw
         ·exact gA
         ·cases hw)
     | exact bJ
     | skip
 rw[cB ae]at h3;have hlen:L.length=ps.length:=ae;have h3:R=(L,0):=h3.symm;rw[h3,N9]at hE
 have Gq:L=AS t (L.getD 0 default) (L.getD (L.length-1) default):=by
  rw[hT]at hlen;unfold AS;by_cases h6:t.kind=6
  ·rw[au h6]at hlen |-
   match L,hlen with
   | [a,b],_=>rfl
  rw[aj h6]at hlen |-
  match L,hlen with
  | [a],_=>rfl
 have hl0:0<L.length:=by rw[hlen,hT];split<;>omega
 have cp:=Lv (L.getD 0 default) (L.getD (L.length-1) default) (h2 _ (bq ae)).1 (h2 _ (bq ae)).1 (fun h6=>by
  have:L.length=1:=by rw[hlen,hT,aj h6]
  rw[this])
 rw[<-Gq]at cp;generalize uZ t v (L.getD 0 default) (L.getD (L.length-1) default)=B at *
 have hno:∀ i,i<L.length->oT t v.kind (L.getD i default).kind=false->E=(false,14):=fun i hi h=>by
  rw[<-hE,GA hi h];rfl
 have hyes:(∀ i,i<L.length->oT t v.kind (L.getD i default).kind=true)->E=(B,0):=fun h=>by
  rw[<-hE,Gz h];rfl
 clear hE fy Lv Gq h3 hT;repeat' first|refine aB ?_|refine aA ?_ ?_<;>intro hw<;>try omega|fail
 with_reducible refine bE [8,2,16,1,41,12] (fun q:Nat × List aY=>[(41,I q.1)]) (fun q=> .cells [I t.kind,I t.a.op,I t.a.v.kind,I t.a.v.n,.str t.a.v.s,.str t.a.s,.aR false EX (t.a.l.map br),I t.b.op,I t.b.v.kind,I t.b.v.n,.str t.b.v.s,.str t.b.s,.aR false EX (t.b.l.map br),.bool t.lo,.bool t.hi]:: .cells [I v.kind,I v.n,.str v.s]:: .vec EV (L.map c8)::q.2) (fun q=>q.1<=L.length/\ ∀ k,k<q.1->oT t v.kind (L.getD k default).kind=true) (fun q=>L.length-q.1) (0,τ) ?_ ?_ ?_ ?_
 ·simp
 ·rfl
 ·exact at_
 rintro⟨i,lq⟩ r' ⟨g1,g2⟩;dsimp only at g1 g2;by_cases hi:i<L.length
 ·have f:=hf (L.getD i default).kind;have hn:=hno i hi;have dR:=cj (q:=fun k=>oT t v.kind (L.getD k default).kind=true) g2 (i:=i);obtain⟨w,sG⟩:=cq (L.getD i default);rw[sG]at f hn dR;clear hno hyes hf;cases hb:oT t v.kind w.kind with
  | false =>
    rw[hb]at f;have hn:=hn hb;clear dR;repeat' first|refine cz sG ?_|refine aB ?_|refine aA ?_ ?_<;>intro hw<;>try omega|fail
    all_goals first|exact tu hn|exact bJ|skip
  | true =>
    rw[hb]at f;have dR:=dR hb;clear hn;repeat' first|refine cz sG ?_|refine aB ?_|refine aA ?_ ?_<;>intro hw<;>try omega|fail
    all_goals first
     |(refine⟨(i+1,lq++[.cells [I w.kind,I w.n,.str w.s]]),⟨by dsimp only;omega,dR⟩,by dsimp only;omega,by first|rfl|(simp[go_sem];done),da,at_⟩)
     | exact bJ
     | skip
 have hE:=hyes fun k hk=>g2 k ae;clear hno hyes hf;repeat' first|refine aB ?_|refine IC cp ?_|refine aA ?_ ?_<;>intro hw<;>try omega|fail
 all_goals first|exact tu hE|exact bJ|skip
def Zf{c:Cell}{t:Test}(h:jH c=true)(ht:t ∈ c.tests): 1<=t.kind/\t.kind<=6:=by
 unfold jH at h;split at h
 ·simp only[aD,aM]at h;rw[List.length_eq_zero_iff.1 h.2]at ht;cases ht
 simp only[aD,ey,List.any_eq_false]at h;have:=h.2 t ht;simp only[ey,Bool.not_eq_false]at this;unfold pg at this;split at this
 ·omega
 simp only[aD,aM]at this;omega
def Zg(c:Cell)(v:aX)(cs:List cV)(row:List aX)(hc:pR c)(hv:uv v)(GJ:cs.length<=2^60)(hr:row.length<=2^40)(hrow:∀ w ∈ row,uv w): aS aH 187 [er c,c8 v,b_ cs,bu row] (PN (nH c v cs row)):=by
 have c1:=aes c v cs row hc hv GJ hr hrow;by_cases h1:Ko c v cs row=true
 case neg =>
  rw[aj h1]at c1;rw[Zd (by unfold Ko at h1;simpa[Bool.and_eq_true,and_assoc]using h1)];simp only[er,jr,iz v,b_,bu]at c1 |-;refine a_ Ew ?_;intro Q aJ aK aL;repeat' first|refine aB ?_|refine aA ?_ ?_<;>intro hw<;>try omega|fail
  all_goals first|exact tu rfl|exact bJ|skip
 rw[au h1]at c1;have h2:jH c=true/\cg v=true/\cs.length=row.length/\zF row=true:=by unfold Ko at h1;simpa[Bool.and_eq_true,and_assoc]using h1
 rw[Vw h2.1 h2.2.1 h2.2.2.1 h2.2.2.2]
 have hA:∀ k,k<c.tests.length->aS aH 227 [dV (c.tests.getD k default),c8 v,b_ cs,bu row] (PN (u0 cs row v (c.tests.getD k default))):=fun k hk=>by
  have ht:=hc.2 _ (bq hk);exact aeu _ v cs row ht (Zf h2.1 (bq hk)) GJ hr hrow
 have hlen:=hc.1;clear hc hrow h1 h2;obtain⟨any,neg,L⟩:=c;dsimp only at *;obtain⟨R,hR⟩:=cq (u7 cs row v any neg L);rw[hR];simp only[er,jr,b_,bu,iz v]at c1 hA |-;refine a_ Ew ?_;intro Q aJ aK aL;repeat' first|refine aB ?_|refine aA ?_ ?_<;>intro hw<;>try omega|fail
 with_reducible refine bE [8,2,12,3,26,22] (fun q:Nat × List aY=>[(26,I q.1)]) (fun q=> .cells [.bool any,.bool neg,.aR false ES (L.map dV)]:: .cells [I v.kind,I v.n,.str v.s]::q.2) (fun q=>q.1<=L.length/\u7 cs row v any neg (L.drop q.1)=R) (fun q=>L.length-q.1) (0,[]) ?_ ?_ ?_ ?_
 ·exact⟨aQ,by rw[eO];exact hR⟩
 ·rfl
 ·exact at_
 rintro⟨i,τ⟩ r ⟨g1,g2⟩;dsimp only at g1 g2;clear hR;by_cases hi:i<L.length
 ·have cA:=hA i hi;clear hA;rw[kG hi]at g2;obtain⟨t,ht⟩:=cq (L.getD i default);rw[ht]at cA g2;have hT:(if(u0 cs row v t).2≠0 then(false,(u0 cs row v t).2)else if(u0 cs row v t).1=true then(!neg,0)else u7 cs row v any neg (L.drop (i+1)))=R:=g2;clear g2;generalize u0 cs row v t=p at *;obtain⟨p1,p2⟩:=p;dsimp only at hT;simp only[dV,ez,PN]at cA;by_cases he:p2=0
  ·subst he;rw[aj cW]at hT;cases p1 with
   | true =>
     rw[au rfl]at hT;repeat' first|refine cz ht ?_|refine aB ?_|refine aA ?_ ?_<;>intro hw<;>try omega|fail
     all_goals first|exact tu hT.symm|exact bJ|skip
   | false =>
     rw[aj cW]at hT;repeat' first|refine cz ht ?_|refine aB ?_|refine aA ?_ ?_<;>intro hw<;>try omega|fail
     all_goals first
      |(refine⟨(i+1,τ++[.cells [I t.kind,I t.a.op,I t.a.v.kind,I t.a.v.n,.str t.a.v.s,.str t.a.s,.aR false EX (t.a.l.map br),I t.b.op,I t.b.v.kind,I t.b.v.n,.str t.b.v.s,.str t.b.s,.aR false EX (t.b.l.map br),.bool t.lo,.bool t.hi]]),⟨by dsimp only;omega,hT⟩,by dsimp only;omega,by first|rfl|(simp[go_sem];done),da,at_⟩)
      | exact bJ
      | skip
  rw[au he]at hT;repeat' first|refine cz ht ?_|refine aB ?_|refine aA ?_ ?_<;>intro hw<;>try omega|fail
  all_goals first|exact tu hT.symm|exact bJ|skip
 rw[cB ae]at g2;have g2:(any || neg,0)=R:=g2;repeat' first|refine aB ?_|refine aA ?_ ?_<;>intro hw<;>try omega|fail
 all_goals first
  | exact tu (g2.symm.trans (by simp_all))
  | exact bJ
  | skip
def D8(ins:List cV)(row:List aX)(i:Nat): Bool:=cg (row.getD i default) && cK (row.getD i default).kind (ins.getD i default).kind
def abC{ins:List cV}{row:List aX}{i:Nat}(hi:i<row.length)(h:D8 ins row i=false): mB ins row=false:=by
 unfold mB;rw[Bool.and_eq_false_iff];refine .inr ?_;rw[ig];exact⟨i,List.mem_range.2 hi,by unfold D8 at h;simpa using h⟩
def Zh{ins:List cV}{row:List aX}(hl:row.length=ins.length)(h:∀ k,k<row.length->D8 ins row k=true): mB ins row=true:=by
 unfold mB;rw[aD];exact⟨bQ hl,bf.2 fun k hk=>h k (eF.1 hk)⟩
def IW(ins:List cV)(row:List aX): Int:=if mB ins row then 0 else 21
def agJ{ins:List cV}{row:List aX}(h:row.length≠ins.length): IW ins row=21:=by
 unfold IW mB;rw[cQ h];rfl
def abD(r:Ready)(row:List aX)(hr:row.length<=2^40)(hrow:∀ w ∈ row,uv w): aS aH 142 [lH r,bu row] (I (IW r.table.ins row)):=by
 have cv:=fun k (hk:k<row.length)=>(show aS aH 136 [.agg [I (row.getD k default).kind,I (row.getD k default).n,.str (row.getD k default).s]] (I (ji (cg (row.getD k default)))) from l7 _ _ _ (hrow _ (bq hk)).1.1 (hrow _ (bq hk)).1.2);clear hrow;by_cases hl:row.length=r.table.ins.length
 case neg =>
  rw[agJ hl];simp only[lH,b_,eR,qh,bu];refine a_ F3 ?_;intro Q aJ aK aL;repeat' first|refine aB ?_|refine aA ?_ ?_<;>intro hw<;>try omega|fail
  all_goals first|exact pZ rfl|exact bJ|skip
 obtain⟨R,hR⟩:=cq (IW r.table.ins row);rw[hR];have hno:∀ i,i<row.length->D8 r.table.ins row i=false->R=21:=fun i hi h=>by rw[<-hR];unfold IW;rw[abC hi h];rfl
 have hyes:(∀ k,k<row.length->D8 r.table.ins row k=true)->R=0:=fun h=>by rw[<-hR];unfold IW;rw[Zh hl h];rfl
 clear hR;simp only[lH,b_,eR,qh,bu];refine a_ F3 ?_;intro Q aJ aK aL;repeat' first|refine aB ?_|refine aA ?_ ?_<;>intro hw<;>try omega|fail
 with_reducible refine bE [4,3,16,22] (fun q:Nat × List aY=>[(16,I q.1)]) (fun q=> .cells [.str r.table.name,.aR false EC (r.table.ins.map dQ),.aR false EC (r.table.outs.map dQ),I r.table.bW,I r.table.agg,.aR false ER (r.table.rules.map fY),.aR false ER (r.lines.map mM)]::q.2) (fun q=>q.1<=row.length/\ ∀ k,k<q.1->D8 r.table.ins row k=true) (fun q=>row.length-q.1) (0,[]) ?_ ?_ ?_ ?_
 ·simp
 ·rfl
 ·exact at_
 rintro⟨i,τ⟩ u ⟨g1,g2⟩;dsimp only at g1 g2;by_cases hi:i<row.length
 ·have c1:=cv i hi;have hn:=hno i hi;have dR:=cj (q:=fun k=>D8 r.table.ins row k=true) g2 (i:=i);have hf:D8 r.table.ins row i=(cg (row.getD i default) && cK (row.getD i default).kind (r.table.ins.getD i default).kind):=rfl;have c2:=oM (row.getD i default).kind (r.table.ins.getD i default).kind;obtain⟨w,sG⟩:=cq (row.getD i default);obtain⟨c,hc0⟩:=cq (r.table.ins.getD i default);rw[sG]at c1;rw[sG,hc0]at hf c2;generalize cg w=b1 at *;generalize cK w.kind c.kind=b2 at *;clear cv hno hyes;cases b1 with
  | false =>
    have hn:=hn (by rw[hf];rfl);clear dR;have z:ji false=2:=rfl;rw[z]at c1;repeat' first|refine cz (zA sG hc0) ?_|refine aB ?_|refine aA ?_ ?_<;>intro hw<;>try omega|fail
    all_goals first|exact pZ hn|exact bJ|skip
  | true =>
    have z:ji true=0:=rfl;rw[z]at c1;cases b2 with
    | false =>
      have hn:=hn (by rw[hf];rfl);clear dR;repeat' first|refine cz (zA sG hc0) ?_|refine aB ?_|refine aA ?_ ?_<;>intro hw<;>try omega|fail
      all_goals first|exact pZ hn|exact bJ|skip
    | true =>
      have dR:=dR (by show D8 r.table.ins row i=true;rw[hf];rfl);clear hn;repeat' first|refine cz (zA sG hc0) ?_|refine aB ?_|refine aA ?_ ?_<;>intro hw<;>try omega|fail
      all_goals first
       |(refine⟨(i+1,τ++[.cells [I w.kind,I w.n,.str w.s]]),⟨by dsimp only;omega,dR⟩,by dsimp only;omega,by first|rfl|(simp[go_sem];done),da,at_⟩)
       | exact bJ
       | skip
 have:=hyes fun k hk=>g2 k ae;repeat' first|refine aB ?_|refine aA ?_ ?_<;>intro hw<;>try omega|fail
 all_goals first|exact pZ this|exact bJ|skip
def sM(n:Int): AV:=I n
def eN(l:List Int): AV:= .aR false E1 (l.map sM)
@[simp] def amU (n:Int):(sM n).dy=true:=rfl
def PO(l:List Int): (eN l).dy=true:=by simp only[eN,AV.dy];exact fm _ _ (fun _=>rfl)
def agK(l:List Int): AV.cG (l.map sM)=true:=fm _ _ (fun _=>rfl)
attribute [simp] PO agK
attribute [go_sem] sM
structure HQ (r:Ready):Prop where
 ins:r.table.ins.length<=2^30
 outs:r.table.outs.length<=2^30
 lines:r.lines.length<=24
 line:∀ l ∈ r.lines,(l.cells.length=r.table.ins.length/\ ∀ c ∈ l.cells,pR c)/\l.outs.length=r.table.outs.length/\ ∀ x ∈ l.outs,jj x/\gV x<=2^30
def mT(row:List aX): Prop:=row.length<=2^30/\ ∀ w ∈ row,uv w
def IX(cs:List cV)(row:List aX)(c:Cell)(r:List Cell)(k:Nat): nI cs row (c::r) k=if(nH c (row.getD k default) cs row).2≠0\/(nH c (row.getD k default) cs row).1=false then(false,(nH c (row.getD k default) cs row).2)else nI cs row r (k+1):=rfl
def abE(r:Ready)(hr:HQ r)(row:List aX)(hrow:mT row)(j:Nat)(hj:j<r.lines.length)(hl:r.table.ins.length<=row.length): aS aH 143 [lH r,I j,bu row] (PN (nI r.table.ins row (r.lines.getD j default).cells 0)):=by
 have Cv:=(hr.line _ (bq hj)).1;obtain⟨ln,aiS⟩:=cq (r.lines.getD j default);rw[aiS]at Cv |-;obtain⟨L,hL⟩:=cq ln.cells;rw[hL]at Cv |-;have hA:=fun k (hk:k<L.length)=>Zg (L.getD k default) (row.getD k default) r.table.ins row (Cv.2 _ (bq hk)) (hrow.2 _ (bq ae)) (by have:=hr.ins;omega) (by have:=hrow.1;omega) hrow.2;have hlen:L.length<=row.length:=ae;have aoA:L.length<=2^30:=by have:=hr.ins;omega
 have EI:=hrow.1;clear Cv hrow hr hl;obtain⟨R,hR⟩:=cq (nI r.table.ins row L 0);rw[hR];simp only[lH,b_,eR,qh,bu]at hA |-;refine a_ Sq ?_;intro Q aJ aK aL;repeat' first|refine cz (zA aiS hL) ?_|refine aB ?_|refine aA ?_ ?_<;>intro hw<;>try omega|fail
 with_reducible refine bE [6,6,19,26] (fun q:Nat × List aY=>[(19,I q.1)]) (fun q=> .cells [.str r.table.name,.aR false EC (r.table.ins.map dQ),.aR false EC (r.table.outs.map dQ),I r.table.bW,I r.table.agg,.aR false ER (r.table.rules.map fY),.aR false ER (r.lines.map mM)]::q.2) (fun q=>q.1<=L.length/\nI r.table.ins row (L.drop q.1) q.1=R) (fun q=>L.length-q.1) (0,[]) ?_ ?_ ?_ ?_
 ·exact⟨aQ,by rw[eO];exact hR⟩
 ·rfl
 ·exact at_
 rintro⟨i,τ⟩ u ⟨g1,g2⟩;dsimp only at g1 g2;clear hR;by_cases hi:i<L.length
 ·have cA:=hA i hi;clear hA;rw[kG hi,IX]at g2;obtain⟨c,hc0⟩:=cq (L.getD i default);obtain⟨w,sG⟩:=cq (row.getD i default);rw[hc0,sG]at g2 cA;generalize nH c w r.table.ins row=p at *;obtain⟨p1,p2⟩:=p;dsimp only at g2;simp only[er,jr,iz,PN]at cA;by_cases he:p2=0
  ·subst he;cases p1 with
   | true =>
     rw[aj aQ]at g2;repeat' first|refine cz (zA hc0 sG) ?_|refine aB ?_|refine aA ?_ ?_<;>intro hw<;>try omega|fail
     all_goals first
      |(refine⟨(i+1,τ++[.cells [.bool c.any,.bool c.neg,.aR false ES (c.tests.map dV)]]),⟨by dsimp only;omega,g2⟩,by dsimp only;omega,by first|rfl|(simp[go_sem];done),da,at_⟩)
      | exact bJ
      | skip
   | false =>
     rw[au aQ]at g2;repeat' first|refine cz (zA hc0 sG) ?_|refine aB ?_|refine aA ?_ ?_<;>intro hw<;>try omega|fail
     all_goals first|exact tu g2.symm|exact bJ|skip
  rw[au (.inl he)]at g2;repeat' first|refine cz (zA hc0 sG) ?_|refine aB ?_|refine aA ?_ ?_<;>intro hw<;>try omega|fail
  all_goals first|exact tu g2.symm|exact bJ|skip
 rw[cB ae]at g2;have g2:(true,0)=R:=g2;repeat' first|refine aB ?_|refine aA ?_ ?_<;>intro hw<;>try omega|fail
 all_goals first|exact tu g2.symm|exact bJ|skip
def eRu(p:List Int × Int × Int): AV:= .bU [eN p.1,I p.2.1,I p.2.2]
def Mv{σ : ai}{v:AV}{l:List Int}{n e:Int}{p:List Int × Int × Int}(h:p=(l,n,e))(hv:View σ v (eN l)): ∃ r0,Out.ret (oneOf [v,I n,I e])=Out.ret r0/\View σ r0 (eRu p):=by
 subst h;exact gW (.cons hv (.cons (.refl _ rfl) (.cons (.refl _ rfl) (.nil _))))
def oE{σ : ai}{f:Bool}{l:List Int}: View σ (.aR f E1 (l.map sM)) (eN l):=View.weak _ _ _ aQ
def vi{σ : ai}{f:Bool}{n:Int}: View σ (.aR f E1 [I n]) (eN [n]):=View.weak _ _ _ aQ
def IY (GH : Int) (cs : List cV) (row : List aX) (l : kL) (r : List kL) (k : Nat) (acc : List Int) : tg GH cs row (l :: r) k acc = if (nI cs row l.cells 0).2 ≠ 0 then ([], (k : Int), (nI cs row l.cells 0).2)
    else if(nI cs row l.cells 0).1 then(if GH=2 then([(k:Int)],0,0)else tg GH cs row r (k+1) (acc++[(k:Int)]))
    else tg GH cs row r (k+1) acc:=rfl
def Kr{ins:List cV}{row:List aX}(h:mB ins row=true): row.length=ins.length:=by
 unfold mB at h;rw[aD,aM]at h;exact h.1
def abF(r:Ready)(hr:HQ r)(row:List aX)(hrow:mT row): aS aH 105 [lH r,bu row] (eRu (eK r row)):=by
 have c1:=abD r row (by have:=hrow.1;omega) hrow.2;unfold eK;cases hin:mB r.table.ins row with
 | false =>
   have:IW r.table.ins row=21:=by unfold IW;rw[hin];rfl
   rw[this]at c1;rw[aj cW];simp only[lH,b_,eR,qh,bu]at c1 |-;refine a_ F4 ?_;intro Q aJ aK aL;repeat' first|refine aB ?_|refine aA ?_ ?_<;>intro hw<;>try omega|fail
   all_goals first|exact Mv rfl (.aV _)|exact bJ|skip
 | true =>
 have:IW r.table.ins row=0:=by unfold IW;rw[hin];rfl
 rw[this]at c1;rw[au rfl];clear this;have hin:=Kr hin;have cA:=fun j hj=>abE r hr row hrow j hj ae;have h24:=hr.lines;clear hr hrow hin;obtain⟨R,hR⟩:=cq (tg r.table.bW r.table.ins row r.lines 0 []);rw[hR];simp only[lH,b_,eR,qh,bu]at c1 cA |-;refine a_ F4 ?_;intro Q aJ aK aL;repeat' first|refine aB ?_|refine aA ?_ ?_<;>intro hw<;>try omega|fail
 with_reducible refine bE [4,3,8,4,21,32] (fun q:Nat × List Int=>[(21,I q.1),(8,.own E1 1 q.2.length 0 q.2.length)]) (fun q=>[.cells [.str r.table.name,.aR false EC (r.table.ins.map dQ),.aR false EC (r.table.outs.map dQ),I r.table.bW,I r.table.agg,.aR false ER (r.table.rules.map fY),.aR false ER (r.lines.map mM)],.vec E1 (q.2.map sM)]) (fun q=>q.1<=r.lines.length/\q.2.length<=q.1/\tg r.table.bW r.table.ins row (r.lines.drop q.1) q.1 q.2=R) (fun q=>r.lines.length-q.1) (0,[]) ?_ ?_ ?_ ?_
 ·exact⟨aQ,aQ,by rw[eO];exact hR⟩
 ·rfl
 ·exact at_
 rintro⟨i,acc⟩ u ⟨g1,g3,g2⟩;dsimp only at g1 g2 g3;clear hR;by_cases hi:i<r.lines.length
 ·have cA:=cA i hi;rw[kG hi,IY]at g2;generalize nI r.table.ins row (r.lines.getD i default).cells 0=p at *;obtain⟨p1,p2⟩:=p;dsimp only at g2;simp only[PN]at cA;by_cases he:p2=0
  ·subst he;rw[aj aQ]at g2;cases p1 with
   | true =>
     rw[au rfl]at g2;by_cases hp:r.table.bW=2
     ·rw[au hp]at g2;repeat' first|refine aB ?_|refine aA ?_ ?_<;>intro hw<;>try omega|fail
      all_goals first|exact Mv g2.symm vi|exact bJ|skip
     rw[aj hp]at g2;repeat' first|refine aB ?_|refine aA ?_ ?_<;>intro hw<;>try omega|fail
     all_goals first
      |(refine⟨(i+1,acc++[(i:Int)]),⟨by dsimp only;omega,by dsimp only;simp only[List.length_append,List.length_cons,List.length_nil];omega,g2⟩,by dsimp only;omega,by first|rfl|(simp[go_sem];done),da,at_⟩)
      | exact bJ
      | skip
   | false =>
     rw[aj cW]at g2;repeat' first|refine aB ?_|refine aA ?_ ?_<;>intro hw<;>try omega|fail
     all_goals first
      |(refine⟨(i+1,acc),⟨by dsimp only;omega,by dsimp only;omega,g2⟩,by dsimp only;omega,by first|rfl|(simp[go_sem];done),da,at_⟩)
      | exact bJ
      | skip
  rw[au he]at g2;repeat' first|refine aB ?_|refine aA ?_ ?_<;>intro hw<;>try omega|fail
  all_goals first|exact Mv g2.symm (.aV _)|exact bJ|skip
 rw[cB ae]at g2;have g2:(acc,(0:Int),(0:Int))=R:=g2;clear cA;repeat' first|refine aB ?_|refine aA ?_ ?_<;>intro hw<;>try omega|fail
 all_goals first|exact Mv g2.symm (by exact vw_)|exact bJ|skip
def abG(c:cV)(v:aX)(hl:c.order.length<=2^60): aS aH 198 [dQ c,c8 v] (I (k9 c v)):=by
 have h:=rH c.order v hl;unfold k9;generalize kW (fun x=>x==v) c.order=i at *;obtain⟨R,hR⟩:=cq ((if i<0 then(c.order.length:Int)else i));rw[hR];simp only[bu,iz,dQ]at h |-;refine a_ Sr ?_;intro Q aJ aK aL;repeat' first|refine aB ?_|refine aA ?_ ?_<;>intro hw<;>try omega|fail
 all_goals first
  | exact pZ (by rw[<-hR,aj ae])
  | exact pZ (by rw[<-hR,au ae])
  | exact bJ
  | skip
def mZ: List cV->List aX->List aX->Int
 | c::cs,a::r,b::t=>if ko (k9 c a) (k9 c b)≠0 then ko (k9 c a) (k9 c b)else mZ cs r t
 | _,_,_=>0
def agL(a b:Int): (ko a b≠0↔a≠b)/\(ko a b<0↔a<b):=by
 unfold ko;constructor
 ·constructor
  ·intro h e;subst e;simp at h
  intro h;split
  ·decide
  split
  ·decide
  omega
 constructor
 ·intro h;split at h
  ·assumption
  split at h<;>simp at h
 intro h;rw[au h];decide
def T0: ∀(cs:List cV) (a b:List aX),xy cs a b=decide (mZ cs a b<0)
 | c :: cs, a :: r, b :: t => by
   have h:=agL (k9 c a) (k9 c b);unfold xy mZ;by_cases e:k9 c a=k9 c b
   ·rw[aj (by simpa using e),aj (fun h'=>h.1.1 h' e)];exact T0 cs r t
   rw[au e,au (h.1.2 e),c7,aM,aM];exact h.2.symm
 | [],_,_=>by unfold xy mZ;rfl
 | _::_,[],_=>by unfold xy mZ;rfl
 | _::_,_::_,[]=>by unfold xy mZ;rfl
def abH{cs:List cV}{a b:List aX}{k:Nat}(h1:k<cs.length)(h2:k<a.length)(h3:k<b.length): mZ (cs.drop k) (a.drop k) (b.drop k)=if ko (k9 (cs.getD k default) (a.getD k default)) (k9 (cs.getD k default) (b.getD k default))≠0 then ko (k9 (cs.getD k default) (a.getD k default)) (k9 (cs.getD k default) (b.getD k default))else mZ (cs.drop (k+1)) (a.drop (k+1)) (b.drop (k+1)):=by
 rw[kG h1,kG h2,kG h3];rfl
def Zi{cs:List cV}{a b:List aX}{k:Nat}(h1:cs.length<=k): mZ (cs.drop k) (a.drop k) (b.drop k)=0:=by
 rw[List.drop_of_length_le h1];unfold mZ;rfl
def eX(l:List (List aX)): AV:= .aR false E1 (l.map bu)
def PS(l:List (List aX)): (eX l).dy=true:=by simp only[eX,AV.dy];exact fm _ _ uq
def T1(l:List (List aX)): AV.cG (l.map bu)=true:=fm _ _ uq
attribute [simp] PS T1
def G0{outs:List cV}{rows:List (List aX)}: ∀ {l:List (List aX)} {i b:Nat},i+l.length=rows.length->b<rows.length->qx outs rows l i b<rows.length
 | [],_,_,_,h=>h
 | a :: r, i, b, hl, h => by
   unfold qx;simp only[aO]at hl;refine G0 ae ?_;split
   ·omega
   exact h
def Vy(outs:List cV)(rows:List (List aX))(a:List aX)(r:List (List aX))(i b:Nat): qx outs rows (a::r) i b=qx outs rows r (i+1) (if mZ outs a (rows.getD b default)<0 then i else b):=by
 show qx outs rows r (i+1) (if xy outs a (rows.getD b default)then i else b)=_;rw[T0]
 congr 1
 by_cases h:mZ outs a (rows.getD b default)<0
 ·rw[au h,au (by simpa using h)]
 rw[aj h,aj (by simpa using h)]
def abI(cs:List cV)(rows:List (List aX))(hc:∀ c ∈ cs,c.order.length<=2^60)(hl:cs.length<=2^30)(hr:rows.length<=2^30)(hw:∀ a ∈ rows,a.length=cs.length): aS aH 147 [b_ cs,eX rows] (I (qx cs rows rows 0 0)):=by
 have hp:=fun k (hk:k<cs.length) v=>abG (cs.getD k default) v (hc _ (bq hk));have hcm:=cmp_Compare_int;have tA:=fun i (hi:i<rows.length)=>hw _ (bq hi);clear hc hw;obtain⟨B,hB⟩:=cq (qx cs rows rows 0 0);rw[hB];simp only[b_,eX];refine a_ Sp ?_;intro Q aJ aK aL;repeat' first|refine aB ?_|refine aA ?_ ?_<;>intro hw<;>try omega|fail
 with_reducible refine bE [5,5,12,36] (fun q:(Nat × Nat) × List aY=>[(5,I q.1.2),(12,I q.1.1)]) (fun q=>q.2) (fun q=>q.1.1<=rows.length/\(q.1.1<rows.length->q.1.2<rows.length)/\qx cs rows (rows.drop q.1.1) q.1.1 q.1.2=B) (fun q=>rows.length-q.1.1) ((0,0),[]) ?_ ?_ ?_ ?_
 ·exact⟨aQ,fun h=>h,by simpa using hB⟩
 ·rfl
 ·exact at_
 rintro⟨⟨i,b⟩,τ⟩ u ⟨g1,g2,g3⟩;dsimp only at g1 g2 g3;clear hB;by_cases hi:i<rows.length
 ·rw[kG hi,Vy]at g3;have gb:=g2 hi;have la:=tA i hi;have lb:=tA b gb;obtain⟨x,hx⟩:=cq (rows.getD i default);obtain⟨y,hy⟩:=cq (rows.getD b default);rw[hx]at la;rw[hy]at lb;rw[hx,hy]at g3;have hat:=fun k (hk:k<cs.length)=>abH (cs:=cs) (a:=x) (b:=y) hk ae ae;have kU:=fun k (hk:cs.length<=k)=>Zi (a:=x) (b:=y) hk;have hN:mZ cs x y=mZ cs x y:=rfl;generalize hNe:mZ cs x y=N at g3 hN;clear hN tA;repeat' first|refine cz (zA hx hy) ?_|refine aB ?_|refine aA ?_ ?_<;>intro hw<;>try omega|fail
  with_reducible refine bE [7,3,17,27] (fun q:(Nat × Int) × List aY=>[(7,I q.1.2),(17,I q.1.1)]) (fun q=>q.2) (fun q=>q.1.1<=cs.length/\(if q.1.2≠0 then q.1.2 else mZ (cs.drop q.1.1) (x.drop q.1.1) (y.drop q.1.1))=N) (fun q=>cs.length-q.1.1) ((0,0),τ) ?_ ?_ ?_ ?_
  ·exact⟨aQ,by simpa using hNe⟩
  ·rfl
  ·exact at_
  rintro⟨⟨k,n⟩,lq⟩ u' ⟨k1,k2⟩;dsimp only at k1 k2;clear hNe;by_cases hk:k<cs.length
  ·by_cases hn:n=0
   ·subst hn;rw[aj aQ,hat k hk]at k2;have c1:=hp k hk (x.getD k default);have c2:=hp k hk (y.getD k default);obtain⟨c,hc0⟩:=cq (cs.getD k default);obtain⟨v,mF⟩:=cq (x.getD k default);obtain⟨w,sG⟩:=cq (y.getD k default);rw[hc0,mF,sG]at k2;rw[hc0,mF]at c1;rw[hc0,sG]at c2;generalize k9 c v=m1 at *;generalize k9 c w=m2 at *;have c3:=hcm m1 m2;generalize ko m1 m2=m3 at *;clear hp hat kU hcm;simp only[dQ,bu,iz]at c1 c2;repeat' first|refine cz (zC hc0 mF sG (zA hx hy)) ?_|refine aB ?_|refine aA ?_ ?_<;>intro hw<;>try omega|fail
    all_goals first
     | exact bJ
     |(refine⟨((k+1,m3),lq++[.cells [.str c.name,I c.kind,.aR false EV (c.order.map c8)]]),⟨by dsimp only;omega,k2⟩,by dsimp only;omega,by first|rfl|(simp[go_sem];done),da,at_⟩)
     | skip
   rw[au hn]at k2;subst k2;obtain⟨c,hc0⟩:=cq (cs.getD k default);clear hp hat kU hcm;repeat' first|refine cz hc0 ?_|refine aB ?_|refine aA ?_ ?_<;>intro hw<;>try omega|fail
   all_goals first
    | exact bJ
    |(refine⟨((k+1,n),lq++[.cells [.str c.name,I c.kind,.aR false EV (c.order.map c8)]]),⟨by dsimp only;omega,if_pos hn⟩,by dsimp only;omega,by first|rfl|(simp[go_sem];done),da,at_⟩)
    | skip
  have hnN:n=N:=by
   rw[kU k ae]at k2;split at k2
   ·exact k2
   omega
  subst hnN;clear hp hat kU hcm;by_cases h0:n<0
  ·rw[au h0]at g3;repeat' first|refine aB ?_|refine aA ?_ ?_<;>intro hw<;>try omega|fail
   all_goals first
    | exact bJ
    |(refine⟨((i+1,i),lq),⟨by dsimp only;omega,fun h=>hi,g3⟩,by dsimp only;omega,by first|rfl|(simp[go_sem];done),da,at_⟩)
    | skip
  rw[aj h0]at g3;repeat' first|refine aB ?_|refine aA ?_ ?_<;>intro hw<;>try omega|fail
  all_goals first
   | exact bJ
   |(refine⟨((i+1,b),lq),⟨by dsimp only;omega,fun h=>gb,g3⟩,by dsimp only;omega,by first|rfl|(simp[go_sem];done),da,at_⟩)
   | skip
 rw[cB ae]at g3;have g3:b=B:=g3;subst g3;clear hp hcm tA;repeat' first|refine aB ?_|refine aA ?_ ?_<;>intro hw<;>try omega|fail
 all_goals first|exact pZ rfl|exact bJ|skip
def agM{a b:List aX}{k:Nat}(h2:k<a.length)(h3:k<b.length): iU (a.drop k) (b.drop k)=if jq (a.getD k default) (b.getD k default)≠0 then jq (a.getD k default) (b.getD k default)else iU (a.drop (k+1)) (b.drop (k+1)):=by
 rw[kG h2,kG h3];rfl
def abJ{a b:List aX}{k:Nat}(h2:k<a.length)(h3:b.length<=k): iU (a.drop k) (b.drop k)=1:=by
 rw[kG h2,cB h3];rfl
def abK{a b:List aX}{k:Nat}(h2:a.length<=k)(h3:k<b.length): iU (a.drop k) (b.drop k) = -1:=by
 rw[kG h3,cB h2];rfl
def aev{a b:List aX}{k:Nat}(h2:a.length<=k)(h3:b.length<=k): iU (a.drop k) (b.drop k)=0:=by
 rw[cB h2,cB h3];rfl
def Q0(a b:List aX)(ha:a.length<=2^30)(hb:b.length<=2^30): aS aH 192 [bu a,bu b] (I (iU a b)):=by
 have c:aS aH 193 [bu a,bu b,.fn (.func 194) [] []] (I (iU a b)):=by
  have hc:=fun k=>nY (a.getD k default) (b.getD k default);have hat:=fun k (hk:k<a.length) (kI:k<b.length)=>agM (a:=a) (b:=b) hk kI;have Mw:=fun k (hk:k<a.length) kI=>abJ (a:=a) (b:=b) hk kI;have Mx:=fun k hk (kI:k<b.length)=>abK (a:=a) (b:=b) hk kI;have kU:=fun k hk kI=>aev (a:=a) (b:=b) (k:=k) hk kI;obtain⟨N,hN⟩:=cq (iU a b);rw[hN];simp only[bu];refine a_ w6 ?_;intro Q aJ aK aL;repeat' first|refine aB ?_|refine aA ?_ ?_<;>intro hw<;>try omega|fail
  with_reducible refine bE [6,5,13,21] (fun q:Nat × List aY=>[(13,I q.1)]) (fun q=>q.2) (fun q=>q.1<=a.length/\(q.1<=b.length)/\iU (a.drop q.1) (b.drop q.1)=N) (fun q=>a.length-q.1) (0,[]) ?_ ?_ ?_ ?_
  ·exact⟨aQ,aQ,by simpa using hN⟩
  ·rfl
  ·exact at_
  rintro⟨i,τ⟩ u ⟨g1,g3,g2⟩;dsimp only at g1 g2 g3;clear hN;by_cases hi:i<a.length
  ·obtain⟨x,hx0⟩:=cq (a.getD i default);by_cases hj:i<b.length
   ·have c1:=hc i;rw[hat i hi hj]at g2;obtain⟨y,hy0⟩:=cq (b.getD i default);rw[hx0,hy0]at g2 c1;generalize jq x y=m at *;clear hc hat kU Mw Mx;simp only[iz]at c1;by_cases he:m=0
    ·rw[aj (by simpa using he)]at g2;repeat' first|refine cz (zA hx0 hy0) ?_|refine aB ?_|refine aA ?_ ?_<;>intro hw<;>try omega|fail
     all_goals first
      | exact bJ
      |(refine⟨(i+1,τ++[.cells [I x.kind,I x.n,.str x.s]]++[.cells [I y.kind,I y.n,.str y.s]]),⟨by dsimp only;omega,by dsimp only;omega,g2⟩,by dsimp only;omega,by first|rfl|(simp[go_sem];done),da,at_⟩)
      | skip
    rw[au he]at g2;subst g2;repeat' first|refine cz (zA hx0 hy0) ?_|refine aB ?_|refine aA ?_ ?_<;>intro hw<;>try omega|fail
    all_goals first|exact pZ rfl|exact bJ|skip
   rw[Mw i hi ae]at g2;clear hc hat kU Mw Mx;repeat' first|refine cz hx0 ?_|refine aB ?_|refine aA ?_ ?_<;>intro hw<;>try omega|fail
   all_goals first|exact pZ g2.symm|exact bJ|skip
  by_cases hj:i<b.length
  ·rw[Mx i ae hj]at g2;clear hc hat kU Mw Mx;repeat' first|refine aB ?_|refine aA ?_ ?_<;>intro hw<;>try omega|fail
   all_goals first|exact pZ g2.symm|exact bJ|skip
  rw[kU i ae ae]at g2;clear hc hat kU Mw Mx;repeat' first|refine aB ?_|refine aA ?_ ?_<;>intro hw<;>try omega|fail
  all_goals first|exact pZ g2.symm|exact bJ|skip
 simp only[bu]at c |-;refine a_ JY ?_;intro Q aJ aK aL;repeat' first|refine aB ?_|refine eU c ?_|refine aA ?_ ?_<;>intro hw<;>try omega|fail
 all_goals first|exact pZ rfl|exact bJ|skip
def z_ (fn : FuncId) (cap : List AV) (hcap : AV.cG cap = true) (p : List aX -> Bool) (l : List (List aX)) (h : ∀ k, k < l.length -> aS aH fn (bu (l.getD k default) :: cap) (.bool (p (l.getD k default)))) (hl : l.length <= 2^62) :
    aS aH 137 [eX l,.fn (.func fn) [] cap] (I (kW p l)):=by
 refine a_ xN ?_ (by simp[AV.dy,AV.cG,hcap]);intro Q aJ aK aL;simp only[eX];repeat' first|refine aB ?_|refine aA ?_ ?_<;>intro hw<;>try omega|fail
 with_reducible refine bE [4,2,8,11] (fun i:Nat=>[(8,I i)]) (fun _=>[]) (fun i=>i<=l.length/\ ∀ k,k<i->p (l.getD k default)=false) (fun i=>l.length-i) (0) ?_ ?_ ?_ ?_
 ·simp
 ·rfl
 ·exact at_
 rintro i r ⟨hi,hp⟩;by_cases hin:i<l.length
 ·have hx:=h i hin;simp only[bu]at hx;repeat' first|refine aB ?_|refine aA ?_ ?_<;>intro hw<;>try omega|fail
  ·refine aZ ?_ rfl;refine aW I ?_;exact(qH hin hp hw).symm
  refine⟨i+1,?_,?_,by first|rfl|(simp[go_sem];done),da,at_⟩<;>(try dsimp only)
  ·exact⟨ae,cj hp hw⟩
  omega
 repeat' first|refine aB ?_|refine aA ?_ ?_<;>intro hw<;>try omega|fail
 refine aZ ?_ rfl;refine aW I ?_;exact(nA fun k hk=>hp k ae).symm
def qB (fn : FuncId) (cap : List AV) (hcap : AV.cG cap = true) (p : List aX -> Bool) (l : List (List aX)) (h : ∀ k, k < l.length -> aS aH fn (bu (l.getD k default) :: cap) (.bool (p (l.getD k default)))) (hl : l.length <= 2^62) :
    aS aH 98 [eX l,.fn (.func fn) [] cap] (.bool (l.any p)):=by
 refine a_ vx ?_ (by simp[AV.dy,AV.cG,hcap]);intro Q aJ aK aL;have hc:=z_ fn cap hcap p l h hl;repeat' first|refine aB ?_|refine aA ?_ ?_<;>intro hw<;>try omega|fail
 all_goals refine aZ ?_ rfl
 all_goals rw[<-wg]
def T3(r:List aX)(rows:List (List aX))(h0:0<rows.length)(hr:r.length<=2^60)(ZS:(rows.getD 0 default).length<=2^60): aS aH 196 [bu r,.fh ⟨false,1⟩ (eX rows) 0] (.bool (!(fR (fun a b=>a==b) r (rows.getD 0 default)))):=by
 have c:=xo r (rows.getD 0 default) hr ZS;generalize fR (fun a b=>a==b) r (rows.getD 0 default)=B at *;obtain⟨y,hy⟩:=cq (rows.getD 0 default);rw[hy]at c;simp only[eX,bu]at c |-;refine a_ LM ?_;intro Q aJ aK aL;repeat' first|simp (disch:=omega) only[go_sem,aJ,aK,aL,hy,bu]|refine aB ?_|refine eU c ?_|refine aA ?_ ?_<;>intro hw<;>try omega|fail
 all_goals first|exact Mu rfl rfl|exact bJ|skip
def Zj(rows:List (List aX))(hr:rows.length<=2^30)(hw:∀ a ∈ rows,a.length<=2^30): aS aH 146 [eX rows] (.bool (Cw rows)):=by
 have c:=qB 196 [.fh ⟨false,1⟩ (eX rows) 0] (by simp[AV.cG,AV.dy]) (fun r=> !(fR (fun a b=>a==b) r (rows.getD 0 default))) rows (fun k hk=>T3 _ rows ae (by have:=hw _ (bq hk);omega) (by have:=hw _ (bq (i:=0) (l:=rows) ae);omega)) ae;have hu:(rows.any fun r=> !(fR (fun a b=>a==b) r (rows.getD 0 default)))=Cw rows:=rfl;rw[hu]at c;generalize Cw rows=B at *;refine a_ QI ?_;intro Q aJ aK aL;simp only[eX]at c |-;repeat' first|refine aB ?_|refine IC c ?_|refine aA ?_ ?_<;>intro hw<;>try omega|fail
 all_goals first|exact Mu rfl rfl|exact bJ|skip
def IZ(v:aX)(r:List aX)(m:aX): qy (v::r) m=qy r (if jq v m<0 then v else m):=rfl
def My(v:aX)(r:List aX)(m:aX): u_ (v::r) m=u_ r (if 0<jq v m then v else m):=rfl
def D9(m:aX)(l:List aX)(hl:l.length<=2^30): aS aH 241 [bu (m::l),.fn (.func 194) [] []] (c8 (qy l m)):=by
 have hc:=nY;obtain⟨L,hL⟩:=cq (m::l);have hlen:L.length=l.length+1:=by rw[<-hL];rfl
 have h0:L.getD 0 default=m:=by rw[<-hL];rfl
 have hd:L.drop 1=l:=by rw[<-hL];rfl
 obtain⟨R,hR⟩:=cq (qy l m);rw[hR,hL];simp only[bu];refine a_ zZ ?_;intro Q aJ aK aL;repeat' first|refine cz h0 ?_|refine aB ?_|refine aA ?_ ?_<;>intro hw<;>try omega|fail
 with_reducible refine bE [6,1,14,18] (fun q:Nat × aX=>[(6,I q.1)]) (fun q=>[.cells [I 0,I 0,.str []],.cells [I q.2.kind,I q.2.n,.str q.2.s]]) (fun q=>1<=q.1/\q.1<=L.length/\qy (L.drop q.1) q.2=R) (fun q=>L.length-q.1) (1,m) ?_ ?_ ?_ ?_
 ·exact⟨aQ,by dsimp only;omega,by dsimp only;rw[hd];exact hR⟩
 ·rfl
 ·exact at_
 rintro⟨i,b⟩ u ⟨g1,g2,g3⟩;dsimp only at g1 g2 g3;by_cases hi:i<L.length
 ·rw[kG hi,IZ]at g3;obtain⟨v,hv⟩:=cq (L.getD i default);rw[hv]at g3;have c:=hc v b;generalize jq v b=n at *;clear hc;simp only[iz]at c;by_cases hn:n<0
  ·rw[au hn]at g3;repeat' first|refine cz hv ?_|refine aB ?_|refine eU c ?_|refine aA ?_ ?_<;>intro hw<;>try omega|fail
   all_goals first
    | exact bJ
    | (refine ⟨(i + 1, v), ?_, ?_, by first | rfl | (simp [go_sem]; done), da, at_⟩ <;> (try dsimp only)
       ·exact⟨ae,ae,g3⟩
       ·omega)
    | skip
  rw[aj hn]at g3;repeat' first|refine cz hv ?_|refine aB ?_|refine eU c ?_|refine aA ?_ ?_<;>intro hw<;>try omega|fail
  all_goals first
   | exact bJ
   | (refine ⟨(i + 1, b), ?_, ?_, by first | rfl | (simp [go_sem]; done), da, at_⟩ <;> (try dsimp only)
      ·exact⟨ae,ae,g3⟩
      ·omega)
   | skip
 rw[cB ae]at g3;have g3:b=R:=g3;subst g3;clear hc;repeat' first|refine aB ?_|refine aA ?_ ?_<;>intro hw<;>try omega|fail
 all_goals first|exact aZ rfl rfl|exact bJ|skip
def D_(m:aX)(l:List aX)(hl:l.length<=2^30): aS aH 242 [bu (m::l),.fn (.func 194) [] []] (c8 (u_ l m)):=by
 have hc:=nY;obtain⟨L,hL⟩:=cq (m::l);have hlen:L.length=l.length+1:=by rw[<-hL];rfl
 have h0:L.getD 0 default=m:=by rw[<-hL];rfl
 have hd:L.drop 1=l:=by rw[<-hL];rfl
 obtain⟨R,hR⟩:=cq (u_ l m);rw[hR,hL];simp only[bu];refine a_ zY ?_;intro Q aJ aK aL;repeat' first|refine cz h0 ?_|refine aB ?_|refine aA ?_ ?_<;>intro hw<;>try omega|fail
 with_reducible refine bE [6,1,14,18] (fun q:Nat × aX=>[(6,I q.1)]) (fun q=>[.cells [I 0,I 0,.str []],.cells [I q.2.kind,I q.2.n,.str q.2.s]]) (fun q=>1<=q.1/\q.1<=L.length/\u_ (L.drop q.1) q.2=R) (fun q=>L.length-q.1) (1,m) ?_ ?_ ?_ ?_
 ·exact⟨aQ,by dsimp only;omega,by dsimp only;rw[hd];exact hR⟩
 ·rfl
 ·exact at_
 rintro⟨i,b⟩ u ⟨g1,g2,g3⟩;dsimp only at g1 g2 g3;by_cases hi:i<L.length
 ·rw[kG hi,My]at g3;obtain⟨v,hv⟩:=cq (L.getD i default);rw[hv]at g3;have c:=hc v b;generalize jq v b=n at *;clear hc;simp only[iz]at c;by_cases hn:0<n
  ·rw[au hn]at g3;repeat' first|refine cz hv ?_|refine aB ?_|refine eU c ?_|refine aA ?_ ?_<;>intro hw<;>try omega|fail
   all_goals first
    | exact bJ
    | (refine ⟨(i + 1, v), ?_, ?_, by first | rfl | (simp [go_sem]; done), da, at_⟩ <;> (try dsimp only)
       ·exact⟨ae,ae,g3⟩
       ·omega)
    | skip
  rw[aj hn]at g3;repeat' first|refine cz hv ?_|refine aB ?_|refine eU c ?_|refine aA ?_ ?_<;>intro hw<;>try omega|fail
  all_goals first
   | exact bJ
   | (refine ⟨(i + 1, b), ?_, ?_, by first | rfl | (simp [go_sem]; done), da, at_⟩ <;> (try dsimp only)
      ·exact⟨ae,ae,g3⟩
      ·omega)
   | skip
 rw[cB ae]at g3;have g3:b=R:=g3;subst g3;clear hc;repeat' first|refine aB ?_|refine aA ?_ ?_<;>intro hw<;>try omega|fail
 all_goals first|exact aZ rfl rfl|exact bJ|skip
def uw{σ : ai}{v:aX}{e:Int}{r:jE}(h1:valOf r=v)(h2:pX r=e): ∃ r0,Out.ret (oneOf [.agg [I v.kind,I v.n,.str v.s],I e])=Out.ret r0/\View σ r0 (BK r):=by
 have:AV.bU [c8 v,I e]=BK r:=by
  cases r with
  | ok w=>rw[CL];rw[<-h1,<-h2];rfl
  | err e'=>rw[uf];rw[<-h1,<-h2];rfl
 rw[<-this];exact cn rfl rfl
def G1 (v : aX) (r : List aX) (n : Int) : BI (v :: r) n = match kA (n + v.n) with
    | .err e=> .err e
    | .ok w=>BI r w.n:=rfl
def Ea(n:Int): (kA n = .ok ⟨1,n,[]⟩/\kX n)\/kA n = .err 15:=by
 unfold kA;split
 ·rename_i h;exact .inl ⟨rfl,h⟩
 exact .inr rfl
def agN(l:List aX)(hl:l.length<=2^30)(hr:∀ v ∈ l,kX v.n): aS aH 240 [bu l] (BK (if l=[]then .ok v0 else BI l 0)):=by
 have hc:=fun n (hn:kX n) k (hk:k<l.length)=>TG n (l.getD k default).n hn (hr _ (bq hk));clear hr;by_cases h0:l=[]
 ·subst h0;rw[au rfl];simp only[bu];refine a_ LL ?_;intro Q aJ aK aL;repeat' first|refine aB ?_|refine aA ?_ ?_<;>intro hw<;>try omega|fail
  all_goals first|exact uw (v:=v0) (r:= .ok v0) rfl rfl|exact bJ|skip
 rw[aj h0];have hpos:0<l.length:=iR.2 h0;obtain⟨R,hR⟩:=cq (BI l 0);rw[hR];simp only[bu];refine a_ LL ?_;intro Q aJ aK aL;repeat' first|refine aB ?_|refine aA ?_ ?_<;>intro hw<;>try omega|fail
 with_reducible refine bE [3,2,6,2,14,16] (fun q:(Nat × Int) × List aY=>[(4,I q.1.2),(14,I q.1.1)]) (fun q=> .cells [I 0,I 0,.str []]::q.2) (fun q=>q.1.1<=l.length/\kX q.1.2/\BI (l.drop q.1.1) q.1.2=R) (fun q=>l.length-q.1.1) ((0,0),[]) ?_ ?_ ?_ ?_
 ·exact⟨aQ,by dsimp only;unfold kX;omega,hR⟩
 ·rfl
 ·exact at_
 rintro⟨⟨i,n⟩,τ⟩ u ⟨g1,g2,g3⟩;dsimp only at g1 g2 g3;clear hR;by_cases hi:i<l.length
 ·rw[kG hi,G1]at g3;have c:=hc n g2 i hi;obtain⟨v,hv⟩:=cq (l.getD i default);rw[hv]at g3 c;clear hc;rcases Ea (n+v.n)with ⟨e,hrg⟩|e
  ·rw[e]at g3 c;dsimp only at g3;have e1:numOf (.ok ⟨1,n+v.n,[]⟩)=n+v.n:=rfl;have e2:pX (.ok ⟨1,n+v.n,[]⟩)=0:=rfl;rw[e1,e2]at c;repeat' first|refine cz hv ?_|refine aB ?_|refine eU c ?_|refine aA ?_ ?_<;>intro hw<;>try omega|fail
   all_goals first
    | exact bJ
    |(refine⟨((i+1,n+v.n),τ++[.cells [I v.kind,I v.n,.str v.s]]),⟨by dsimp only;omega,hrg,g3⟩,by dsimp only;omega,by first|rfl|(simp[go_sem];done),da,at_⟩)
    | skip
  rw[e]at g3 c;dsimp only at g3;subst g3;have e1:numOf (.err 15)=0:=rfl;have e2:pX (.err 15)=15:=rfl;rw[e1,e2]at c;repeat' first|refine cz hv ?_|refine aB ?_|refine eU c ?_|refine aA ?_ ?_<;>intro hw<;>try omega|fail
  all_goals first|exact uw (v:=v0) (r:= .err 15) rfl rfl|exact bJ|skip
 rw[cB ae]at g3;have g3:jE.ok ⟨1,n,[]⟩=R:=g3;subst g3;clear hc;repeat' first|refine aB ?_|refine aA ?_ ?_<;>intro hw<;>try omega|fail
 all_goals first|exact uw (v:=⟨1,n,[]⟩) (r:= .ok ⟨1,n,[]⟩) rfl rfl|exact bJ|skip
def Vz(l:List (List aX))(a:List aX): kP (l++[a])=kP l++(if eu (a.getD 0 default)then []else [a.getD 0 default]):=by
 unfold kP;rw[fI,List.filter_append]
 congr 1
 simp only[bB,de,List.filter_cons,List.filter_nil];cases eu (a.getD 0 default)<;>rfl
def abL{α : Type}[Inhabited α]{l:List α}{k:Nat}(h:k<l.length): l.take (k+1)=l.take k++[l.getD k default]:=by
 rw[jz,aq,aG h];rfl
def Zk(l:List (List aX)): (kP l).length<=l.length:=by
 unfold kP;exact cR (List.length_filter_le _ _) aQ
def Mz{l:List (List aX)}{v:aX}(h:v ∈ kP l): ∃ a ∈ l,v=a.getD 0 default:=by
 unfold kP at h;obtain⟨a,ha,rfl⟩:=cI.1 (List.mem_filter.1 h).1;exact⟨a,ha,rfl⟩
def Xc(rows:List (List aX)): mS 4 rows = .ok ⟨1,rows.length,[]⟩:=by unfold mS;exact if_pos rfl
def Xd(rows:List (List aX)): mS 1 rows=if kP rows=[]then .ok v0 else BI (kP rows) 0:=by
 unfold mS;rw[aj cW];split
 ·rename_i h;rw[h,au rfl]
 rename_i m l h;rw[h];exact(au rfl).trans (aj aQ).symm
def PU{agg:Int}{rows:List (List aX)}(h4:agg≠4)(h:kP rows=[]): mS agg rows = .ok v0:=by
 unfold mS;rw[if_neg h4,h]
def Xe{rows:List (List aX)}{m:aX}{l:List aX}(h:kP rows=m::l): mS 2 rows = .ok (qy l m):=by
 unfold mS;rw[if_neg cW,h];rfl
def Xf{agg:Int}{rows:List (List aX)}{m:aX}{l:List aX}(h4:agg≠4)(h1:agg≠1)(h2:agg≠2)(h:kP rows=m::l): mS agg rows = .ok (u_ l m):=by
 unfold mS;rw[if_neg h4,h];dsimp only;rw[if_neg h1,if_neg h2]
def aew(v:aX): eu v=decide (v.kind=0):=rfl
def aex(agg:Int)(rows:List (List aX))(hr:rows.length<=2^30)(hw:∀ a ∈ rows,0<a.length/\ ∀ v ∈ a,kX v.n): aS aH 195 [I agg,eX rows] (BK (mS agg rows)):=by
 have hpos:=fun i (hi:i<rows.length)=>(hw _ (bq hi)).1;have RO:=Zk rows
 have cS:=agN (kP rows) ae (fun v hv=>by
  obtain⟨a,ha,rfl⟩:=Mz hv;exact(hw a ha).2 _ (bq (hw a ha).1))
 rw[<-Xd]at cS
 have cL:∀ m l,kP rows=m::l->aS aH 241 [bu (kP rows),.fn (.func 194) [] []] (c8 (qy l m)):=fun m l h=>by
  rw[h];exact D9 m l (by rw[h]at RO;simp at RO;omega)
 have cM:∀ m l,kP rows=m::l->aS aH 242 [bu (kP rows),.fn (.func 194) [] []] (c8 (u_ l m)):=fun m l h=>by
  rw[h];exact D_ m l (by rw[h]at RO;simp at RO;omega)
 clear hw;obtain⟨R,hR⟩:=cq (mS agg rows);rw[hR];simp only[eX];refine a_ US ?_;intro Q aJ aK aL;repeat' first|refine aB ?_|refine aA ?_ ?_<;>intro hw<;>try omega|fail
 with_reducible refine bE [6,1,8,1,11,16] (fun q:Nat × List aX=>[(6,.own EV 1 q.2.length 0 q.2.length),(11,I q.1)]) (fun q=>[.cells [I 0,I 0,.str []],.vec EV (q.2.map c8)]) (fun q=>q.1<=rows.length/\q.2.length<=q.1/\q.2=kP (rows.take q.1)) (fun q=>rows.length-q.1) (0,[]) ?_ ?_ ?_ ?_
 ·exact⟨aQ,aQ,rfl⟩
 ·rfl
 ·exact at_
 rintro⟨i,L⟩ u ⟨g1,g2,g3⟩;dsimp only at g1 g2 g3;by_cases hi:i<rows.length
 ·have hp:=hpos i hi;have hs:=Vz (rows.take i) (rows.getD i default);rw[<-abL hi,<-g3,aew]at hs;obtain⟨a,ha⟩:=cq (rows.getD i default);rw[ha]at hp hs;obtain⟨v,hv⟩:=cq (a.getD 0 default);rw[hv]at hs;clear cS cL cM hpos RO g3 hR;have z0:(0:Int).toNat=0:=rfl;by_cases hk:v.kind=0
  ·rw[au (by simpa using hk),bZ]at hs;repeat' first|simp (disch:=omega) only[go_sem,aJ,aK,aL,ha,bu,z0,hv]|refine aB ?_|refine aA ?_ ?_<;>intro hw<;>try omega|fail
   all_goals first
    | exact bJ
    | (refine ⟨(i + 1, L), ?_, ?_, by first | rfl | (simp [go_sem]; done), da, at_⟩ <;> (try dsimp only)
       ·exact⟨ae,ae,hs.symm⟩
       ·omega)
    | skip
  rw[aj (by simpa using hk)]at hs;repeat' first|simp (disch:=omega) only[go_sem,aJ,aK,aL,ha,bu,z0,hv]|refine aB ?_|refine aA ?_ ?_<;>intro hw<;>try omega|fail
  all_goals first
   | exact bJ
   | (refine ⟨(i + 1, L ++ [v]), ?_, ?_, by first | rfl | (simp [go_sem]; done), da, at_⟩ <;> (try dsimp only)
      ·exact⟨ae,by simp only[aC,aO,bt];omega,hs.symm⟩
      ·omega)
   | skip
 rw[bG ae]at g3;clear hpos;have hag:agg=4->R = .ok ⟨1,rows.length,[]⟩:=fun h=>by rw[<-hR,h];exact Xc rows
 rw[<-g3]at cS cL cM RO;have G2:agg=1->R=mS 1 rows:=fun h=>by rw[<-hR,h]
 have kU:=fun(h4:agg≠4) (h:L=[])=>hR.symm.trans (PU h4 (by rw[<-g3];exact h));have h2:∀ m l,L=m::l->agg=2->R = .ok (qy l m):=fun m l h h'=>by rw[<-hR,h'];exact Xe (by rw[<-g3];exact h)
 have ho:=fun m l (h:L=m::l) h4 h1 h2=>hR.symm.trans (Xf h4 h1 h2 (by rw[<-g3];exact h));clear hR;simp only[bu]at cS cL cM;by_cases e4:agg=4
 ·have hag:=hag e4;subst hag;subst e4;clear cS cL cM G2 kU h2 ho;repeat' first|refine aB ?_|refine aA ?_ ?_<;>intro hw<;>try omega|fail
  all_goals first|exact uw (v:=⟨1,rows.length,[]⟩) (r:= .ok ⟨1,rows.length,[]⟩) rfl rfl|exact bJ|skip
 by_cases e1:agg=1
 ·have G2:=G2 e1;rw[<-G2]at cS;subst e1;clear cL cM kU h2 ho hag G2;have hRr:BK R = .bU [.agg [I (valOf R).kind,I (valOf R).n,.str (valOf R).s],I (pX R)]:=by cases R<;>rfl
  rw[hRr]at cS;repeat' first|refine aB ?_|refine IC cS ?_|refine aA ?_ ?_<;>intro hw<;>try omega|fail
  all_goals first|exact uw (v:=valOf R) (r:=R) rfl rfl|exact bJ|skip
 cases hL:L with
 | nil =>
   have kU:=kU e4 hL;subst kU;subst hL;clear cS cL cM h2 ho hag G2;repeat' first|refine aB ?_|refine aA ?_ ?_<;>intro hw<;>try omega|fail
   all_goals first|exact uw (v:=v0) (r:= .ok v0) rfl rfl|exact bJ|skip
 | cons m l =>
   have cL:=cL m l hL;have cM:=cM m l hL;have hm:(m::l).length=l.length+1:=rfl;rw[hL]at cL cM;by_cases e2:agg=2
   ·have h2:=h2 m l hL e2;subst h2;subst e2;subst hL;clear cS cM kU ho hag G2;generalize qy l m=b at *;simp only[iz b]at cL;repeat' first|refine aB ?_|refine IC cL ?_|refine aA ?_ ?_<;>intro hw<;>try omega|fail
    all_goals first|exact uw (v:=b) (r:= .ok b) rfl rfl|exact bJ|skip
   have ho:=ho m l hL e4 e1 e2;subst ho;subst hL;clear cS cL kU h2 hag G2;generalize u_ l m=b at *;simp only[iz b]at cM;repeat' first|refine aB ?_|refine IC cM ?_|refine aA ?_ ?_<;>intro hw<;>try omega|fail
   all_goals first|exact uw (v:=b) (r:= .ok b) rfl rfl|exact bJ|skip
def MA(agg:Int): List aX->aX->jE
 | [],b=> .ok b
 | v :: r, b => if v = v0 then MA agg r b else if b = v0 then MA agg r v
   else if agg=1 then(match kA (b.n+v.n)with
    | .err e=> .err e
    | .ok w=>MA agg r w)
   else if(agg=2/\jq v b<0)\/(agg=3/\0<jq v b)then MA agg r v else MA agg r b
def afw(a:List aX): aX:=a.getD 0 default
def oF(o:ve): AV:= .agg [I o.err,eN o.rules,eX o.rows]
def abM(o:ve): (oF o).dy=true:=by simp[oF,AV.dy,AV.cG]
attribute [simp] abM
def aiT(rules:List Int): jE->ve
 | .err e=>⟨e,rules,[]⟩
 | .ok v=>⟨0,rules,[[v]]⟩
def Rp(agg:Int)(rules:List Int)(rows:List (List aX)): ve:=aiT rules (mS agg rows)
def aiU{σ : ai}{rules:List Int}{v:aX}{o:ve}{f f' f'':Bool}(h:o=⟨0,rules,[[v]]⟩): ∃ r0,Out.ret (oneOf [.agg [I 0,.aR f E1 (rules.map sM),.aR f' E1 [.aR f'' EV [.agg [I v.kind,I v.n,.str v.s]]]]])=Out.ret r0∧View σ r0 (oF o):=by
 subst h;exact Ao (View.nS (.cons (.refl _ rfl) (.cons oE (.cons (View.Ni (.cons (View.weak _ _ _ rfl) (.nil _))) (.nil _)))))
def agO{σ : ai}{rules:List Int}{e:Int}{o:ve}{f:Bool}(h:o=⟨e,rules,[]⟩): ∃ r0,Out.ret (oneOf [.agg [I e,.aR f E1 (rules.map sM),.aV]])=Out.ret r0/\View σ r0 (oF o):=by
 subst h;exact Ao (View.nS (.cons (.refl _ rfl) (.cons oE (.cons (.aV _) (.nil _)))))
def MB{α : Type}[Inhabited α](f : α->AV){l:List α}{b:Nat}(h:b<l.length){n:Nat}(hn:n=1): ((l.map f).drop b).take n=[f (l.getD b default)]:=by
 subst hn;rw[<-List.map_drop,kG h];rfl
def rO{σ : ai}{r0 r1:AV}{o:ve}{e:Int}(h:I o.err=I e)(h1:View σ r0 (eN o.rules))(h2:View σ r1 (eX o.rows)): ∃ r,Out.ret (oneOf [.agg [I e,r0,r1]])=Out.ret r/\View σ r (oF o):=by
 unfold oF;rw[h];exact Ao (View.nS (.cons (.refl _ rfl) (.cons h1 (.cons h2 (.nil _)))))
def PV{σ : ai}{f:Bool}{a:List aX}: View σ (.aR f E1 [.aR false EV (a.map c8)]) (eX [a]):=View.weak _ _ _ (show AV.cG [bu a]=true by simp)
end Go.Proofs.YtoldfccfpameeaaGreatDoor
namespace Go.AM
variable {P:Program} {el:El} {σ : ai} {K Kp:AV->ai->Prop} {k:IntKind} {a:Int} {l m lo n:Nat}
end Go.AM
namespace Go.Proofs.YtoldfccfpameeaaGreatDoor
open Go.AM
set_option maxRecDepth 4000
