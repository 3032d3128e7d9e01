/- Part. -/
import Derived.Test.YthakfmmgnjpmdaaGreatW30
import Derived.RecoverIn
set_option linter.all false
namespace Go.Proofs.YthakfmmgnjpmdaaGreat
open Go.AM
set_option maxRecDepth 4000
def Qp(F:FuncId)(L:List Row)(hF:oM F L)(hl:L.length<20): n5 178 [I L.length,AE F] L (dV L):=by
 intro σ k gE;have hs:=fun o=>vz gE o;have oC:∀ o o':bE,(σ.set k o).set k o' = σ.set k o':=fun o o'=>List.set_set _;have h1:=insertion F [] L [] hF (by simp;omega);simp only[dP,bH]at h1;obtain⟨T,hT⟩:∃ T,dV L=T:=⟨_,rfl⟩;rw[hT]at h1 ⊢;refine nF.go ?_;unfold cj;intro Q aq au aA;repeat' first|refine ak ?_|refine aj ?_ ?_<;>intro hw<;>try omega|fail
 with_reducible refine aX [7,8,11,12,13,14,15,16,17,18,19,20,21,22] (fun q:Nat=>[(7,I 0),(8,I 20)]) (fun q=>σ) (fun q=>True) (fun q=>q) 0 ?_ ?_ ?_ ?_
 ·trivial
 ·rfl
 ·exact at_
 rintro q r -;repeat' first|simp (disch:=omega) only[go_sem,aq,au,aA,oC]|refine ak ?_|with_reducible refine iA h1 gE (ZI rfl (by simp) (by simp)) ?_|refine aj ?_ ?_<;>intro hw<;>try omega|fail
 with_reducible refine aX [6,7,8,9,28,29,30,31,32,33,34,35,36,37,38,39,40,41,42,43,44,45,46,47,48,49,50,51,52,53,54,55,56,57,58,59,60,61,62] (fun q:Nat=>[(6,I 20)]) (fun q=>σ.set k (jP T)) (fun q=>True) (fun q=>q) 0 ?_ ?_ ?_ ?_
 ·trivial
 ·rfl
 ·exact at_
 rintro q' r' -;repeat' first|refine ak ?_|refine aj ?_ ?_<;>intro hw<;>try omega|fail
 exact⟨rfl,trivial⟩
def Qq(F:FuncId)(X Y:List Row)(hF:oM F (X++Y))(hX:X.length=20)(hY:Y.length<20): n5 178 [I (20+Y.length:Nat),AE F] (X++Y) (dV (X++Y)):=by
 intro σ k gE;have hs:=fun o=>vz gE o;have oC:∀ o o':bE,(σ.set k o).set k o' = σ.set k o':=fun o o'=>List.set_set _;have h1:=insertion F [] X Y (hF.sub fun z hz=>dH _ hz) (by simp;omega);have h2:=insertion F (dV X) Y [] (hF.sub fun z hz=>eA _ hz) (by simp[nW];omega);have h3:=fun(hy:0<Y.length)=>ZM F (20+Y.length) [] (dV X) (dV Y) [] (hF.sub fun z hz=>by simpa[Qm]using hz) (by simp[nW];omega) (sx _) (sx _) (by rw[nW];omega) (by rw[nW];exact hy) (by simp[nW];omega);simp only[dP,bH]at h1 h2 h3;rw[BN ((lF X).append (lF Y))]at h3
 have hy0:¬ 0<Y.length->dV X++dV Y=dV (X++Y):=fun h=>by
  obtain rfl:Y=[]:=List.length_eq_zero_iff.1 (by omega);simp[ZJ]
 obtain⟨T,hT⟩:∃ T,dV (X++Y)=T:=⟨_,rfl⟩;rw[hT]at h3 hy0 ⊢;have lX:(dV X).length=20:=by rw[nW];exact hX
 have lY:(dV Y).length=Y.length:=nW Y;have lL:(X++Y).length=20+Y.length:=by simp;omega
 rw[show sy k (X++Y)=AV.own E1 k (20+Y.length) 0 (20+Y.length) by rw[<-lL]];generalize dV X=SX at *;generalize dV Y=SY at *;refine nF.go ?_;unfold cj;intro Q aq au aA;repeat' first|refine ak ?_|refine aj ?_ ?_<;>intro hw<;>try omega|fail
 with_reducible refine aX [7,8,11,12,13,14,15,16,17,18,19,20,21,22] (fun q:Nat=>[(7,I (20*q:Nat)),(8,I (20*q+20:Nat))]) (fun q=>σ.set k (jP (if q=0 then X++Y else SX++Y))) (fun q=>q<=1) (fun q=>1-q) 0 ?_ ?_ ?_ ?_
 ·omega
 ·rw[if_pos rfl,qa gE]
 ·exact at_
 rintro q r hq;rcases(show q=0\/q=1 by omega)with rfl|rfl
 ·rw[if_pos rfl];repeat' first|simp (disch:=omega) only[go_sem,aq,au,aA,oC]|refine ak ?_|with_reducible refine iA h1 (hs _) (ZI (by simp;omega) (by simp) (by simp;omega)) ?_|refine aj ?_ ?_<;>intro hw<;>try omega|fail
  refine⟨1,?_,?_,?_,bK,at_⟩<;>(try dsimp only)
  ·omega
  ·omega
  ·rw[if_neg (by decide)]
 ·rw[if_neg (by decide)];repeat' first|simp (disch:=omega) only[go_sem,aq,au,aA,oC]|refine ak ?_|with_reducible refine iA h2 (hs _) (ZI (by simp;omega) (by omega) (by omega)) ?_|refine aj ?_ ?_<;>intro hw<;>try omega|fail
  by_cases hy:0<Y.length
  ·have h3:=h3 hy;with_reducible refine aX [6,7,8,9,28,29,30,31,32,33,34,35,36,37,38,39,40,41,42,43,44,45,46,47,48,49,50,51,52,53,54,55,56,57,58,59,60,61,62] (fun q:Nat=>[(6,I (20*(q+1):Nat))]) (fun q=>σ.set k (jP (if q=0 then SX++SY else T))) (fun q=>q<=1) (fun q=>1-q) 0 ?_ ?_ ?_ ?_
   ·omega
   ·rfl
   ·exact at_
   rintro q r hq;rcases(show q=0\/q=1 by omega)with rfl|rfl
   ·rw[if_pos rfl];repeat' first|refine ak ?_|refine aj ?_ ?_<;>intro hw<;>try omega|fail
    with_reducible refine aX [7,8,33,34,35,36,37,38,39,40,41,42,43,44,45,46,47,48] (fun q:Nat=>[(7,I 0),(8,I 40)]) (fun q=>σ.set k (jP (SX++SY))) (fun q=>True) (fun q=>q) 0 ?_ ?_ ?_ ?_
    ·trivial
    ·rfl
    ·exact at_
    rintro q' r' -;repeat' first|simp (disch:=omega) only[go_sem,aq,au,aA,oC]|refine ak ?_|with_reducible refine iA h3 (hs _) (rj (by simp;omega) (by simp) (by simp;omega) (by simp;omega)) ?_|refine aj ?_ ?_<;>intro hw<;>try omega|fail
    refine⟨1,?_,?_,?_,bK,at_⟩<;>(try dsimp only)
    ·omega
    ·omega
    ·rw[if_neg (by decide)]
   ·rw[if_neg (by decide)];repeat' first|refine ak ?_|refine aj ?_ ?_<;>intro hw<;>try omega|fail
    exact⟨rfl,trivial⟩
  ·with_reducible refine aX [6,7,8,9,28,29,30,31,32,33,34,35,36,37,38,39,40,41,42,43,44,45,46,47,48,49,50,51,52,53,54,55,56,57,58,59,60,61,62] (fun q:Nat=>[(6,I 20)]) (fun q=>σ.set k (jP (SX++SY))) (fun q=>True) (fun q=>q) 0 ?_ ?_ ?_ ?_
   ·trivial
   ·rfl
   ·exact at_
   rintro q r -;repeat' first|refine ak ?_|refine aj ?_ ?_<;>intro hw<;>try omega|fail
   exact⟨rfl,by rw[hy0 hy]⟩
def stable(F:FuncId)(L:List Row)(hF:oM F L)(hl:L.length<40): n5 178 [I L.length,AE F] L (dV L):=by
 by_cases h:L.length<20
 ·exact Qp F L hF h
 ·have:=Qq F (L.take 20) (L.drop 20) (by rw[di];exact hF) (by rw[List.length_take];omega) (by rw[List.length_drop];omega);rwa[di,show 20+(L.drop 20).length=L.length by rw[List.length_drop];omega]at this
def Vi(F:FuncId)(L:List Row)(hF:oM F L)(hl:L.length<40): n5 120 [AE F] L (dV L):=by
 intro σ k gE;have h:=stable F L hF hl;obtain⟨T,hT⟩:∃ T,dV L=T:=⟨_,rfl⟩;rw[hT]at h ⊢;refine sW.go ?_;unfold cj;intro Q aq au aA;repeat' first|refine ak ?_|with_reducible refine iA h gE rfl ?_|refine aj ?_ ?_<;>intro hw<;>try omega|fail
 exact⟨rfl,trivial⟩
end Go.Proofs.YthakfmmgnjpmdaaGreat
namespace Go.AM
variable {P:Program}
def xX: FrameMode->FrameMode
 | .panicking ({ v,recovered:=false,goexit:=false }::older)=> .panicking ({ v,recovered:=true }::older)
 | u=>u
def yW(g:aM)(w:World): Option AV->FrameMode->Prop
 | none,u=>u = .returning
 | some a,u=> ∃ v,u = .panicking [{ v,recovered:=false }]/\VR g w a v
def tO(P:Program)(n:FuncId)(args:List AV)(pv:Option AV)(σ : ae)(R:ae->Prop): Prop :=
 Has P n/\ ∀(g:aM) (w:World) (vs:Array Value) (u:FrameMode),Rel g w σ->args.length=vs.size->(∀ i,i<args.length->VR g w (args.getD i .undef) (vs.getD i Go.undef))->yW g w pv u ->
  CallsDIn (WF none) 0 P n vs u w fun e u' w'=> ∃ g' σ' v,e = .returned v/\u'=xX u/\Rel g' w' σ'/\fN σ g w σ' g' w'/\R σ'
structure BP where
 nt:Nat
 k:Nat
 mvs:List (AX × Option Nat)
 rest:cY
def qV(nt:Nat): List Oper->Option (List (AX × Option Nat))
 | []=>some []
 | o :: r => match o.op, o.guard with
   | .assign x, none => match cX nt x, qV nt r with
     | some ax,some l=>some ((ax,o.dst)::l)
     | _,_=>none
   | .move x, none => match cX nt x, qV nt r with
     | some ax,some l=>some ((ax,o.dst)::l)
     | _,_=>none
   | _,_=>none
def ML(o:Oper): Option Nat:=match o.op,o.guard with
 | .call c, none => match c.callee with
   | .builtin .recover=>o.dst
   | _=>none
 | _,_=>none
def HL(P:Program)(h:Hints)(fn:Func): Option BP :=
 match fn.body,fn.results.toList with
 | some (.seq (.region _ ops false) b), [] => match ops.toList with
   | o :: r => match ML o, qV fn.ntmps r, dh P fn.ntmps h false b with
     | some k,some l,some c=>if c.mK=false then some ⟨fn.ntmps,k,l,c⟩else none
     | _,_,_=>none
   | []=>none
 | _,_=>none
def Lx: List (AX × Option Nat)->(Env->Prop)->Env->Prop
 | [],K,e=>K e
 |(x,d)::r,K,e=>Lx r K (upd e d (x.ev e))
def Ly(R:ae->Prop): AQ
 | .normal,_,σ=>R σ
 | .ret,_,σ=>R σ
 | _,_,_=>False
def BP.wp(P:Program)(f:BP)(pv:Option AV)(R:ae->Prop)(e:Env)(σ : ae): Prop:=Lx f.mvs (fun e=>iu P f.rest (Ly R) e σ) (upd e (some f.k) (pv.getD .mF))
def N6 {F : Fence} {n : Nat} {ops : Array Oper} {Q : Exit -> Act -> List Frame -> World -> Prop} {i : Nat} {l : List Nat} {a : Act} {cs : List Frame} {w : World} {o : Oper} {x : Operand} (ho : ops[i]? = some o) (hop : o.op = .assign x \/ o.op = .move x) (hg : o.guard = none)
    (hF:∀ f,F.fn f) (h:wpOpsSIn F n P ops Q l (a.put o.dst (a.eval x)) cs w):wpOpsSIn F n P ops Q (i::l) a cs w:=by
 simp only[wpOpsSIn,ho];refine⟨fun f _=>hF f,?_⟩;have hw:Region.wanted o (yielded ops a.tmps)=true:=by simp[Region.wanted,hg]
 rw[if_pos hw]
 have hx:(execOp a.eval o).run P w = .ok (.value (a.eval x)) w:=by
  unfold execOp;rcases hop with hop|hop<;>simp only[hop]<;>rfl
 rw[hx];exact h
def Xz {nt : Nat} {ops : Array Oper} {Q : Exit -> Act -> List Frame -> World -> Prop} {cs : List Frame} {w : World} {g : aM} {K : Env -> Prop} : ∀ (l : List Oper) (i : Nat) (ms : List (AX × Option Nat)) (e : Env) (a : Act),
    qV nt l=some ms->(∀ j,j<l.length->ops[i+j]? = l[j]?)->Lx ms K e->f_ nt g w e a.tmps->(∀ e' a',K e'->f_ nt g w e' a'.tmps->a'.defers=a.defers->Q .normal a' cs w) ->
    wpOpsSIn (WF none) 0 P ops Q (List.range' i l.length) a cs w:=by
 intro l
 induction l with
 | nil=>intro i ms e a hc _ hw hE hK;cases hc;exact hK e a hw hE rfl
 | cons o l ih =>
   intro i ms e a hc hidx hw hE hK;have h0:ops[i]? = some o:=by simpa using hidx 0 (by simp)
   have Oj:∀ j,j<l.length->ops[i+1+j]? = l[j]?:=fun j hj=>by
    have:=hidx (j+1) (by simpa using hj);simpa[dF,Nat.add_comm 1 j]using this
   rw[List.length_cons,List.range'_succ]
   have go:∀ (x:Operand) (ax:AX) (ms':List (AX × Option Nat)),(o.op = .assign x\/o.op = .move x)->o.guard=none->cX nt x=some ax->qV nt l=some ms'->Lx ms' K (upd e o.dst (ax.ev e))->wpOpsSIn (WF none) 0 P ops Q (i::List.range' (i+1) l.length) a cs w:=by
    intro x ax ms' hop hg hx Mi hw;refine N6 h0 hop hg (fun _=>trivial) (ih (i+1) ms' _ _ Mi Oj hw (hE.put o.dst (dB hx hE)) (fun e' a' k1 k2 k3=>hK e' a' k1 k2 (k3.trans (put_defers _ _ _))))
   simp only[qV]at hc;split at hc
   ·rename_i x hop hg;split at hc
    ·rename_i ax ms' h1 h2;cases hc;exact go x ax ms' (.inl hop) hg h1 h2 hw
    ·cases hc
   ·rename_i x hop hg;split at hc
    ·rename_i ax ms' h1 h2;cases hc;exact go x ax ms' (.inr hop) hg h1 h2 hw
    ·cases hc
   ·cases hc
def yW.recover {g : aM} {w : World} {pv : Option AV} {u : FrameMode} {c₀ : Frame} {cs : List Frame} (h : yW g w pv u) (hm : c₀.mode = u) :
    ∃ v cs',(match recoverD (c₀::cs)with|some (v,cs')=>(v,cs')|none=>(Value.nilIface,c₀::cs))=(v,cs')/\VR g w (pv.getD .mF) v/\cs' = { c₀ with mode:=xX u }::cs:=by
 cases pv with
 | none =>
   have h:u = .returning:=h;subst h;refine⟨.nilIface,c₀::cs,?_,.mF,?_⟩
   ·simp[recoverD,hm]
   ·have:({ c₀ with mode:=xX .returning }:Frame)=c₀:=by rw[show xX .returning=c₀.mode by rw[hm];rfl]
    rw[this]
 | some a =>
   obtain⟨v,h,hv⟩:=h;subst h;exact⟨v,{ c₀ with mode:= .panicking [{ v,recovered:=true }] }::cs,by simp[recoverD,hm],hv,by simp[xX]⟩
def tO.of_wp {n : FuncId} {fn : Func} {h : Hints} {rf : BP} {args : List AV} {pv : Option AV} {σ : ae} {R : ae → Prop} (hf : P.funcs[n]? = some fn) (hn : (fn.name == "runtime.NumGoroutine") = false) (hc : HL P h fn = some rf)
    (hl:args.length<=rf.nt) (hw:rf.wp P pv R (kg args) σ):tO P n args pv σ R:=by
 unfold HL at hc;split at hc
 ·rename_i id ops b hb hres;split at hc
  ·rename_i o r Kv;split at hc
   ·rename_i k ms c h1 h2 h3;split at hc
    case isFalse=>cases hc
    rename_i h4;cases hc;refine⟨⟨fn,hf,by simp[hb],hn⟩,fun g w vs u hR hlen hv hu=>?_⟩;refine callsDIn_of_wpSIn (F:=WF none) (n:=0) hf hb trivial fun c₀ cs hm=>?_;have h0:ops[0]? = some o:=by rw[<-Array.getElem?_toList,Kv];rfl
    have hsz:ops.size=r.length+1:=by rw[<-fK,Kv];rfl
    obtain⟨v,cs',Et,hvr,hcs⟩:=hu.recover (c₀:=c₀) (cs:=cs) hm
    have hE0:f_ fn.ntmps g w (kg args) (vs++Array.replicate (fn.ntmps-vs.size) Go.undef):=by
     refine⟨?_,fun t ht=>?_⟩
     ·simp only at hl;simp;omega
     ·by_cases h:t<args.length
      ·have h3:t<vs.size:=by omega
       have:=hv t h;simp only[kg];rw[eD,eK h3];simpa using this
      ·have:kg args t = .undef:=by simp[kg,fQ (h_ h)]
       rw[this];exact .undef _
    have ZN:o.dst=some k/\o.guard=none/\ ∃ c,o.op = .call c/\c.callee = .builtin .recover:=by
     unfold ML at h1;split at h1
     ·rename_i c hop hg;split at h1
      ·rename_i Qr;exact⟨h1,hg,c,hop,Qr⟩
      ·cases h1
     ·cases h1
    obtain⟨hd,hg,cc,hop,Qr⟩:=ZN;refine wpSIn_seq (wpSIn_region ?_);rw[hsz,iN,List.range'_succ];simp only[wpOpsSIn,h0];refine⟨fun f _=>trivial,?_⟩;have ago:Region.wanted o (yielded ops (vs++Array.replicate (fn.ntmps-vs.size) Go.undef))=true:=by simp[Region.wanted,hg]
    rw[if_pos ago]
    have hx:∀ ρ : Operand->Value,(execOp ρ o).run P w = .ok .recover w:=fun ρ=>by
     unfold execOp;simp only[hop,resolve,Qr,Sem.run_bind,Sem.run_pure,Result.andThen_ok];rfl
    rw[hx]
    have fin:wpOpsSIn (WF none) 0 P ops (Exit.thenS (b.wpSIn (WF none) 0 P (bodyPostS P fn c₀ cs fun e u' w'=> ∃ g' σ' v,e = .returned v/\u'=xX u/\Rel g' w' σ'/\fN σ g w σ' g' w'/\R σ')) (bodyPostS P fn c₀ cs fun e u' w'=> ∃ g' σ' v,e = .returned v/\u'=xX u/\Rel g' w' σ'/\fN σ g w σ' g' w'/\R σ'))
     (List.range' (0+1) r.length) (Act.put { tmps:=vs++Array.replicate (fn.ntmps-vs.size) Go.undef,defers:=[] } o.dst v) cs' w:=by
     refine Xz (g:=g) (nt:=fn.ntmps) (K:=fun e=>iu P c (Ly R) e σ) r 1 ms (upd (kg args) (some k) (pv.getD .mF)) _ h2 (fun j hj=>?_) hw ?_ ?_
     ·rw[<-Array.getElem?_toList,Kv,Nat.add_comm];rfl
     ·rw[hd];exact hE0.put (a:= { tmps:=_,defers:=[] }) (some k) hvr
     ·intro e' a' hK Mc hdf;rw[put_defers]at hdf;show b.wpSIn (WF none) 0 P _ a' cs' w;refine wpSIn_of_wpIn rfl (wpIn_mono (wu b [] none 0 (fun _=>False) c (Ly R) g w σ e' a' h3 hK hR Mc (by rw[hdf];exact ku.nil _ _ _ _ _) (fun h=>absurd h (by rw[h4];simp))) ?_);rintro ex a2 w2 ⟨g2,e2,σ2,⟨mks,hmk,hmo⟩,q2,q3,q4,q5⟩
      have agp:mks=[]:=by
       cases mks with
       | nil=>rfl
       | cons d ds=>obtain⟨D,_,hD,_⟩:=hmo.mark d (by simp);exact hD.elim
      subst agp
      have done:R σ2->a2.defers=[]/\ ∃ u',cs' = { c₀ with mode:=u' }::cs/\ ∃ v,(results fn a2.tmps).run P w2 = .ok v w2/\ ∃ g' σ' v',Ending.returned v = .returned v'/\u'=xX u/\Rel g' w2 σ'/\fN σ g w σ' g' w2/\R σ':=fun hr =>
       ⟨hmk,xX u,hcs,_,za (us:=[]) (by rw[hres];rfl),g2,σ2,_,rfl,rfl,q2,q4,hr⟩
      cases ex with
      | normal=>exact done q5
      | ret=>exact done q5
      | panic ch=>obtain⟨_,_,_,_,q5⟩:=q5;exact q5.elim
      | exit id=>exact q5.elim
      | goto l=>exact q5.elim
      | outgrown=>exact q5.elim
    subst hcs
    show(match recoverD (c₀::cs)with
     | some (v,cs')=>wpOpsSIn (WF none) 0 P ops _ _ _ cs' w
     | none=>wpOpsSIn (WF none) 0 P ops _ _ _ (c₀::cs) w)
    split
    ·rename_i v1 Gk hr;rw[hr]at Et;cases Et;exact fin
    ·rename_i hr;rw[hr]at Et;injection Et with e1 e2;subst e1;rw[<-e2]at fin;exact fin
   ·cases hc
  ·cases hc
 ·cases hc
def vS{F:Fence}{n:Nat}{ops:Array Oper}{Q Q':Exit->Act->World->Prop}(h:∀ e a w,Q e a w->Q' e a w): ∀(l:List Nat) (a:Act) (w:World),Go.wpOpsIn F n P ops Q l a w->Go.wpOpsIn F n P ops Q' l a w
 | [],a,w,hh=>h _ a w hh
 | i :: l, a, w, hh => by
   simp only[Go.wpOpsIn]at hh ⊢;cases ho:ops[i]? with
   | none=>simp only[ho]at hh ⊢;exact vS h l a w hh
   | some o =>
     simp only[ho]at hh ⊢;split
     ·rename_i hw;rw[if_pos hw]at hh;exact Oper.GO (fun a w hh=>vS h l a w hh) h hh
     ·rename_i hw;rw[if_neg hw]at hh;exact⟨hh.1,vS h l _ w hh.2⟩
structure XA where
 nt:Nat
 k1:Nat
 k2:Nat
 gs:List cz
def XA.wp(P:Program)(f:XA)(pv:Option AV)(R:ae->Prop)(e:Env)(σ : ae): Prop:=ef P (Ly R) f.gs (upd e (some f.k1) (pv.getD .mF)) σ
def Eu(P:Program)(Q:Exit->Act->List Frame->World->Prop)(ops:Array Oper)(l:List Nat)(a:Act)(cs:List Frame)(w:World): Prop :=
 ∀ (b : Frame) (k : List Item), b.kind = .deferred -> b.roundOf = none -> (WF none).fn b.fn -> (WF none).room (cs.length + 1 + 0) ->
   ∃ e a' cs' w',cs'.length=cs.length/\Q e a' cs' w'/\ArrivesIn (Machine.fenced P (WF none)) P (lone (b.atR a (.inRegion ops l::k)) cs w) b k cs' e a' w'
def Eu.of_wp{Q:Exit->Act->List Frame->World->Prop}{ops:Array Oper}{l:List Nat}{a:Act}{cs:List Frame}{w:World}(h:Go.wpOpsIn (WF none) 0 P ops (fun e a' w'=>Q e a' cs w') l a w): Eu P Q ops l a cs w :=
 fun b k _ hr hF hroom=>let ⟨e,a',w',q,r⟩:=wp_opsIn l a w h b k cs hr hF hroom;⟨e,a',cs,w',rfl,q,r⟩
def Eu.value {Q : Exit -> Act -> List Frame -> World -> Prop} {ops : Array Oper} {i : Nat} {l : List Nat} {a : Act} {cs : List Frame} {w : World} {o : Oper} {v : Value} (ho : ops[i]? = some o) (hg : o.guard = none)
    (hx:(execOp a.eval o).run P w = .ok (.value v) w) (h:Eu P Q ops l (a.put o.dst v) cs w):Eu P Q ops (i::l) a cs w:=by
 intro b k hb hro hF hroom;have hw:Region.wanted o (yielded ops a.tmps)=true:=by simp[Region.wanted,hg]
 have h0:(lone (b.atR a (.inRegion ops (i::l)::k)) cs w).fenced P (WF none):=fenced_oper hF hroom ho (fun _ _=>trivial);have hs:=stepGR_op (P:=P) (b:=b) (k:=k) (cs:=cs) (w:=w) (rest:=l) ho hw;rw[hro,Oper.semAt_none]at hs;have xk:(b.atR a (.inRegion ops (i::l)::k)).finish v=b.atR (a.put o.dst v) (.inRegion ops l::k):=by rw[Frame.finish_atR,ho];rfl
 obtain⟨e,a',cs',w',hl,hq,lQ⟩:=h b k hb hro hF hroom;refine⟨e,a',cs',w',hl,hq,.of_steps (.one h0 (step_lone_go ?_)) lQ⟩;rw[hs,<-xk];simp[stepG.apply,hx]
def Eu.recover {Q : Exit -> Act -> List Frame -> World -> Prop} {ops : Array Oper} {i : Nat} {l : List Nat} {a : Act} {cs Gk : List Frame} {w : World} {o : Oper} {v : Value} (ho : ops[i]? = some o) (hg : o.guard = none)
    (hx:(execOp a.eval o).run P w = .ok .recover w) (hlen:Gk.length=cs.length) (Et:(match recoverD cs with|some (v,cs')=>(v,cs')|none=>(Value.nilIface,cs))=(v,Gk)) (h:Eu P Q ops l (a.put o.dst v) Gk w):Eu P Q ops (i::l) a cs w:=by
 intro b k hb hro hF hroom;have hw:Region.wanted o (yielded ops a.tmps)=true:=by simp[Region.wanted,hg]
 have h0:(lone (b.atR a (.inRegion ops (i::l)::k)) cs w).fenced P (WF none):=fenced_oper hF hroom ho (fun _ _=>trivial);have hs:=stepGR_op (P:=P) (b:=b) (k:=k) (cs:=cs) (w:=w) (rest:=l) ho hw;rw[hro,Oper.semAt_none]at hs;have xk:(b.atR a (.inRegion ops (i::l)::k)).finish v=b.atR (a.put o.dst v) (.inRegion ops l::k):=by rw[Frame.finish_atR,ho];rfl
 have hk:(b.atR a (.inRegion ops (i::l)::k)).kind = .deferred:=hb;have htr:=tryRecover_deferred hk cs;obtain⟨e,a',cs',w',hl,hq,lQ⟩:=h b k hb hro hF (by rw[hlen];exact hroom);refine⟨e,a',cs',w',hl.trans hlen,hq,.of_steps (.one h0 (step_lone_go ?_)) lQ⟩;rw[hs,<-xk];simp only[Frame.atR,hro]at htr ⊢;split at Et
 ·rename_i v' cs' hr;cases Et;simp[stepG.apply,hx,htr,hr]
 ·rename_i hr;cases Et;simp[stepG.apply,hx,htr,hr]
inductive r7 where
 | seq (a:cY) (d:r7)
 | dfr (ops:List cz) (x:AX) (rest:cY)
structure Ow where
 nt:Nat
 results:List pF
 body:r7
def TI(nt:Nat)(o:Oper): Option AX:=match o.op,o.guard,o.dst with
 | .defer c, none, none => match c.callee, c.args.toList with
   | .value f,[]=>cX nt f
   | _,_=>none
 | _,_,_=>none
def Ev(P:Program)(nt:Nat)(h:Hints)(ops:Array Oper): Option (List cz × AX):=match ops.toList.getLast? with
 | some o => match TI nt o, lg P nt h false ops ops.toList.dropLast with
   | some x,some gs=>some (gs,x)
   | _,_=>none
 | none=>none
def adn: Code->Option (Array Oper)
 | .region _ ops false=>some ops
 | _=>none
def BQ(P:Program)(nt:Nat)(h:Hints): Code->Option r7
 | .seq a b => match (adn a).bind (Ev P nt h) with
   | some (gs,x)=>(dh P nt h false b).map (.dfr gs x)
   | none => match dh P nt h false a, BQ P nt h b with
     | some c,some d=>some (.seq c d)
     | _,_=>none
 | _=>none
def yX(P:Program)(h:Hints)(fn:Func): Option Ow:=match fn.body with
 | some c => match BQ P fn.ntmps h c, lj P fn.ntmps fn.results.toList with
   | some b,some rs=>some ⟨fn.ntmps,rs,b⟩
   | _,_=>none
 | none=>none
def r7.wp(P:Program)(Q:AQ)(QD:FuncId->List AV->AQ): r7->Env->ae->Prop
 | .seq a d=>iu P a (mg (d.wp P Q QD) Q)
 | .dfr ops x rest => ef P (mg (fun e σ => match x.ev e with
    | .fn (.func n) first cap=>iu P rest (QD n (first++cap)) e σ
    | _=>False) Q) ops
def ZO(P:Program)(rs:List pF)(R:Out->ae->Prop)(n:FuncId)(args:List AV): AQ
 | .normal,e,σ=>tO P n args none σ fun σ'=>lz e σ' rs fun vs=>R (.ret (oneOf vs)) σ'
 | .ret,e,σ=>tO P n args none σ fun σ'=>lz e σ' rs fun vs=>R (.ret (oneOf vs)) σ'
 | .panic v,e,σ=>tO P n args (some v) σ fun σ'=>lz e σ' rs fun vs=>R (.ret (oneOf vs)) σ'
 | _,_,_=>False
def Oper.ZP {F : Fence} {wn : Nat} {o : Oper} {a : Act} {w : World} {K K' : Act -> World -> Prop} {Q Q' : Exit -> Act -> World -> Prop} (h : ∀ a w, K a w -> K' a w) (hq : ∀ e a w, e ≠ .normal -> Q e a w -> Q' e a w)
    (hh:o.wpIn F wn P a w K Q):o.wpIn F wn P a w K' Q':=by
 unfold Oper.wpIn at *;refine⟨hh.1,?_⟩
 replace hh:=hh.2
 generalize (o.semAt F.round a.eval).run P w=r at *;cases r with
 | ok n w' =>
   cases n<;>simp only[Oper.uponIn]at hh ⊢ <;>
    first
     | exact h _ _ hh
     | exact ⟨hh.1, CallsIn.mono hh.2 (fun e w'' he => by
        cases e<;>first
         | exact h _ _ he
         | exact hq _ _ _ (by simp) he
         |(obtain⟨a0,w0,he⟩:=he;exact⟨a0,w0,hq _ _ _ (by simp) he⟩))⟩
     | exact ⟨hh.1, RoundIn.mono hh.2 (fun e w'' he => by
        cases e<;>first
         | exact h _ _ he
         | exact hq _ _ _ (by simp) he
         |(obtain⟨a0,w0,he⟩:=he;exact⟨a0,w0,hq _ _ _ (by simp) he⟩))⟩
     | exact⟨hh.1,RowsIn.mono hh.2 (fun _ _ he=>h _ _ he)⟩
 | halt x w' =>
   cases x<;>simp only[Oper.uponIn]at hh ⊢<;>first
    | exact hq _ _ _ (by simp) hh
    | exact hh
def qW{F:Fence}{n:Nat}{ops:Array Oper}{Q1 Q:Exit->Act->World->Prop}(l2:List Nat)(h1:∀ a w,Q1 .normal a w->Go.wpOpsIn F n P ops Q l2 a w)(h2:∀ e a w,e≠ .normal->Q1 e a w->Q e a w): ∀(l1:List Nat) (a:Act) (w:World),Go.wpOpsIn F n P ops Q1 l1 a w->Go.wpOpsIn F n P ops Q (l1++l2) a w
 | [],a,w,h=>h1 a w h
 | i :: l1, a, w, h => by
   simp only[cV,Go.wpOpsIn]at h ⊢;cases ho:ops[i]? with
   | none=>simp only[ho]at h ⊢;exact qW l2 h1 h2 l1 a w h
   | some o =>
     simp only[ho]at h ⊢;split
     ·rename_i hw;rw[if_pos hw]at h;exact Oper.ZP (fun a w h=>qW l2 h1 h2 l1 a w h) h2 h
     ·rename_i hw;rw[if_neg hw]at h;exact⟨h.1,qW l2 h1 h2 l1 _ w h.2⟩
def XB {nt : Nat} {h : Hints} {ops : Array Oper} {gs : List cz} {x : AX} {Q : AQ} {g : aM} {w : World} {σ : ae} {e : Env} {a : Act} {QQ : Exit -> Act -> World -> Prop} (hc : Ev P nt h ops = some (gs, x)) (hw : ef P Q gs e σ) (hR : Rel g w σ) (hE : f_ nt g w e a.tmps)
    {B:Nat->Prop} (hd:ku [] B σ g w a.defers)
    (hn : ∀ (g' : aM) (w' : World) (σ' : ae) (e' : Env) (a' : Act), Q .normal e' σ' -> Rel g' w' σ' -> f_ nt g' w' e' a'.tmps -> fN σ g w σ' g' w' -> ku [] B σ' g' w' a'.defers ->
      ∃ n first cap,x.ev e' = .fn (.func n) first cap/\ ∀ f1 c1,VR g' w' (.fn (.func n) first cap) (.func (.func n) f1 c1)->QQ .normal { a' with defers:= { target:= .fn (.func n) c1,args:=f1 }::a'.defers } w')
    (hp:∀ ex a' w',ex≠ .normal->QR [] nt B g w σ Q ex a' w'->QQ ex a' w') :
    Go.wpOpsIn (WF none) 0 P ops QQ (List.range ops.size) a w:=by
 unfold Ev at hc;split at hc
 ·rename_i o Ox;split at hc
  ·rename_i x' gs' h1 h2;cases hc;have hne:ops.toList≠[]:=fun h=>by rw[h]at Ox;cases Ox
   have hsz:ops.size=ops.toList.dropLast.length+1:=by
    rw[List.length_dropLast,<-fK];have:=List.length_pos_iff.2 hne;omega
   have XC:ops.toList=ops.toList.dropLast++[o]:=by
    rw[List.getLast?_eq_some_getLast hne]at Ox;cases Ox;exact(List.dropLast_concat_getLast hne).symm
   have hidx:∀ j,j<ops.toList.dropLast.length->ops[0+j]? = ops.toList.dropLast[j]?:=fun j hj=>by
    rw[cE,<-Array.getElem?_toList]
    conv=>lhs;rw[XC]
    rw[aV hj]
   have hlo:ops[ops.toList.dropLast.length]? = some o:=by
    have key:∀ l:List Oper,(l++[o])[(l++[o]).dropLast.length]? = some o:=fun l=>by simp
    rw[<-Array.getElem?_toList]
    conv=>lhs;rw[XC]
    exact key _
   rw[hsz,iN,List.range'_concat];have hs:=L_ (X:=[]) (ro:=none) (wn:=0) (B:=B) (ops:=ops) (Q:=Q) (g0:=g) (w0:=w) (mY:=σ) ops.toList.dropLast 0 gs g w σ e a h2 hidx hw hR hE hd (.refl _ _ _);refine qW _ ?_ hp _ a w hs;rintro a1 w1 ⟨g1,e1,σ1,d1,r1,E1,v1,q1⟩;obtain⟨n,first,cap,hx,hq⟩:=hn g1 w1 σ1 e1 a1 q1 r1 E1 v1 d1;simp only[cE,Nat.one_mul,Go.wpOpsIn,hlo];unfold TI at h1;split at h1
   ·rename_i c hop hg ZN;split at h1
    ·rename_i f Qr hargs;have hwn:Region.wanted o (yielded ops a1.tmps)=true:=by simp[Region.wanted,hg]
     rw[if_pos hwn];have hv:=dB h1 E1;rw[hx]at hv;generalize hfv:a1.eval f=fv at hv;have kp:=hv;cases hv;rename_i f1 c1 _ _ _ _
     have hz:c.args = #[]:=by
      have:=congrArg List.toArray hargs;simpa using this
     have hrun:(o.semAt (WF none).round a1.eval).run P w1 = .ok (.defer { target:= .fn (.func n) c1,args:=f1 }) w1:=by
      show(execOp a1.eval o).run P w1=_;unfold execOp;simp only[hop,resolve,Qr,hz,hfv,Deferred.ofValue,Sem.run_bind,Sem.run_pure,Result.andThen_ok];simp
     refine⟨fun _ _=>trivial,?_⟩;rw[hrun];simp only[Oper.uponIn,ZN,Act.put];exact hq f1 c1 kp
    ·cases h1
   ·cases h1
  ·cases hc
 ·cases hc
def zo{g:aM}{w:World}{pv:Option AV}{u:FrameMode}(h:yW g w pv u): u≠ .run/\settle (xX u) = .returning:=by
 cases pv with
 | none=>have h:u = .returning:=h;subst h;exact⟨by simp,rfl⟩
 | some a=>obtain⟨v,h,_⟩:=h;subst h;exact⟨by simp,rfl⟩
def yW.mono{g g':aM}{w w':World}(hm:lu g w g' w'){pv:Option AV}{u:FrameMode}(h:yW g w pv u): yW g' w' pv u:=by
 cases pv with
 | none=>exact h
 | some a=>obtain⟨v,h,hv⟩:=h;exact⟨v,h,hv.mono hm⟩
def Ew {fn : Func} {rs : List pF} {R : Out -> ae -> Prop} {g0 : aM} {w0 : World} {mY : ae} (Mh : lj P fn.ntmps fn.results.toList = some rs) {g1 : aM} {w1 : World} {σ1 : ae} {g' : aM} {w' : World} {σ' : ae} {e' : Env} {tmps : Array Value} {n : FuncId} {first cap : List AV} {f1 c1 : Array Value} {ms1 ms : List Deferred} {pv : Option AV} {u : FrameMode}
    (dI:fN mY g0 w0 σ1 g1 w1) (hB:w0.heap.size<=w1.heap.size) (ZQ:xh (fun D=>w0.heap.size<=D) σ1 g1 w1 ms1) (hv:VR g1 w1 (.fn (.func n) first cap) (.func (.func n) f1 c1)) (Mi:xh (fun D=>w1.heap.size<=D) σ' g' w' ms) (hR:Rel g' w' σ') (hE:f_ fn.ntmps g' w' e' tmps) (hv1:fN σ1 g1 w1 σ' g' w')
    (hu:yW g' w' pv u) (hq:tO P n (first++cap) pv σ' fun σ'=>lz e' σ' rs fun vs=>R (.ret (oneOf vs)) σ') :
    LeavesInM (WF none) 0 P fn tmps (fun e w'=> ∃ out g' σ',Rel g' w' σ'/\fN mY g0 w0 σ' g' w'/\C4 g' w' out e/\R out σ') (ms++({ target:= .fn (.func n) c1,args:=f1 }::ms1)) u w':=by
 refine qc (zo hu).1 ms w' Mi hR hE hv1 (fun w2 R2 E2 V2 M2=>?_);cases hv;rename_i hl hh hl' OR;obtain⟨c3,c4⟩:=Ba hl (fun i hi=>(hh i hi).mono V2.mono) hl' (fun i hi=>(OR i hi).mono V2.mono);refine⟨(zo hu).1,.inr ⟨fun h=>by simp[WF,Fence.wide]at h,.func n,c1,n,f1++c1,rfl,?_,fun _ _=>trivial,?_⟩⟩
 ·simp only[invoke];exact Dp hq.1 _ _
 ·refine(hq.2 g' w2 (f1++c1) u R2 c3 c4 (hu.mono M2)).mono ?_;rintro e u' w3 ⟨g3,σ3,v,rfl,rfl,R3,V3,hres⟩;show LeavesInM (WF none) 0 P fn tmps _ ms1 (settle (xX u)) w3;rw[(zo hu).2]
  have:=qc (X:=[]) (P:=P) (R:=fun e w'=> ∃ out g' σ',Rel g' w' σ'/\fN mY g0 w0 σ' g' w'/\C4 g' w' out e/\R out σ') (fn:=fn) (tmps:=tmps) (u:= .returning) (by simp) ms1 w3 (ZQ.step (V2.trans V3)) R3 (E2.mono V3.mono) ((dI.trans V2).trans V3) (fun w4 R4 E4 V4 M4=>by
   obtain⟨t_,us,r1,r2,r3,r4⟩:=Mg (P:=P) R4 E4 fn.results.toList rs _ Mh hres;exact⟨_,za r1,.ret (oneOf t_),g3,σ3,R4,V4,S3 r2 r3,r4⟩)
  simpa using this
def Sj {fn : Func} {h : Hints} {rs : List pF} {R : Out -> ae -> Prop} {g0 : aM} {w0 : World} {mY : ae} (Mh : lj P fn.ntmps fn.results.toList = some rs) : ∀ (c : Code) (dc : r7) (g : aM) (w : World) (σ : ae) (e : Env) (a : Act),
    BQ P fn.ntmps h c=some dc->dc.wp P (GY rs R) (ZO P rs R) e σ->Rel g w σ->f_ fn.ntmps g w e a.tmps->ku [] (fun D=>w0.heap.size<=D) σ g w a.defers->w0.heap.size<=w.heap.size->fN mY g0 w0 σ g w ->
    c.wpIn (WF none) 0 P (bodyPostM (WF none) 0 P fn fun e w'=> ∃ out g' σ',Rel g' w' σ'/\fN mY g0 w0 σ' g' w'/\C4 g' w' out e/\R out σ') a w:=by
 intro c
 have base:∀ (g:aM) (w:World) (σ : ae) (ex:Exit) (a':Act) (w':World),QR [] fn.ntmps (fun D=>w0.heap.size<=D) g w σ (GY rs R) ex a' w'->fN mY g0 w0 σ g w->bodyPostM (WF none) 0 P fn (fun e w'=> ∃ out g' σ',Rel g' w' σ'/\fN mY g0 w0 σ' g' w'/\C4 g' w' out e/\R out σ') ex a' w' :=
  fun g w σ ex a' w' hq dI=>FV Mh (QR.step dI hq)
 induction c with
 | seq x y yB v8 =>
   intro dc g w σ e a hc hw hR hE hd hB dI;simp only[BQ]at hc;split at hc
   ·rename_i gs clo hr;obtain⟨rest,aeu,rfl⟩:=aZ.1 hc;obtain⟨ops,ho,hdr⟩:=Option.bind_eq_some_iff.1 hr;cases x with
    | region id ops' d =>
      cases d with
      | true=>cases ho
      | false =>
        cases ho
        refine wpIn_seq (wpIn_region (XB (Q:=mg (fun e σ=>match clo.ev e with
         | .fn (.func n) first cap=>iu P rest (ZO P rs R n (first++cap)) e σ
         | _=>False) (GY rs R)) hdr hw hR hE hd ?_ ?_))
        ·intro g1 w1 σ1 e1 a1 q1 R1 E1 V1 D1;simp only[mg]at q1;split at q1
         ·rename_i n first cap hx
          refine⟨n,first,cap,hx,fun f1 c1 hv=>?_⟩;obtain⟨ms1,ZQ,ZR⟩:=D1;refine wpIn_mono (wu y ({ target:= .fn (.func n) c1,args:=f1 }::a1.defers) none 0 (fun D=>w1.heap.size<=D) rest _ g1 w1 σ1 e1 _ aeu q1 R1 E1 (ku.nil _ _ _ _ _) (Low.at _ _)) ?_;rintro ex a2 w2 ⟨g2,e2,σ2,⟨ms,Mi,hmo⟩,R2,E2,V2,q2⟩;have hds:a2.defers=ms++({ target:= .fn (.func n) c1,args:=f1 }::ms1):=by rw[Mi,ZQ,bH]
          have hsz:=c_ hB V1.size;cases ex with
          | normal =>
            show LeavesInM (WF none) 0 P fn a2.tmps _ a2.defers .returning w2;rw[hds];exact Ew (pv:=none) Mh (dI.trans V1) hsz ZR hv hmo R2 E2 V2 rfl q2
          | ret =>
            show LeavesInM (WF none) 0 P fn a2.tmps _ a2.defers .returning w2;rw[hds];exact Ew (pv:=none) Mh (dI.trans V1) hsz ZR hv hmo R2 E2 V2 rfl q2
          | panic ch =>
            obtain⟨v,av,rfl,hvr,q2⟩:=q2;show LeavesInM (WF none) 0 P fn a2.tmps _ a2.defers _ w2;rw[hds];exact Ew (pv:=some av) Mh (dI.trans V1) hsz ZR hv hmo R2 E2 V2 ⟨v,rfl,hvr⟩ q2
          | exit id=>exact q2.elim
          | goto l=>exact q2.elim
          | outgrown=>exact q2.elim
         ·exact q1.elim
        ·rintro ex a' w' hne ⟨g',e',σ',r1,r2,r3,r4,r5⟩;cases ex with
         | normal=>exact absurd rfl hne
         | exit id=>exact r5.elim
         | goto l=>exact r5.elim
         | ret=>exact base g w σ .ret a' w' ⟨g',e',σ',r1,r2,r3,r4,r5⟩ dI
         | panic ch=>exact base g w σ (.panic ch) a' w' ⟨g',e',σ',r1,r2,r3,r4,r5⟩ dI
         | outgrown=>exact r5.elim
    | _=>cases ho
   ·split at hc
    ·rename_i c1 d1 h1 h2;cases hc;refine wpIn_seq (wpIn_mono (wu x [] none 0 (fun D=>w0.heap.size<=D) c1 _ g w σ e a h1 hw hR hE hd (fun _ D hD=>c_ hB hD)) ?_);rintro ex a' w' ⟨g',e',σ',r1,r2,r3,r4,r5⟩;cases ex with
     | normal=>exact v8 d1 g' w' σ' e' a' h2 r5 r2 r3 r1 (c_ hB r4.size) (dI.trans r4)
     | exit id=>exact r5.elim
     | goto l=>exact r5.elim
     | ret=>exact base g w σ .ret a' w' ⟨g',e',σ',r1,r2,r3,r4,r5⟩ dI
     | panic ch=>exact base g w σ (.panic ch) a' w' ⟨g',e',σ',r1,r2,r3,r4,r5⟩ dI
     | outgrown=>exact r5.elim
    ·cases hc
 | _=>intro dc g w σ e a hc;cases hc
def eU.ado {f : FuncId} {fn : Func} {h : Hints} {df : Ow} {args : List AV} {σ : ae} {R : Out → ae → Prop} (hf : P.funcs[f]? = some fn) (hn : (fn.name == "runtime.NumGoroutine") = false) (hc : yX P h fn = some df)
    (hl:args.length<=df.nt) (hw:df.body.wp P (GY df.results R) (ZO P df.results R) (kg args) σ):eU P f args σ R:=by
 unfold yX at hc;split at hc
 ·rename_i c hb;split at hc
  ·rename_i b rs h1 h2;cases hc;refine⟨⟨fn,hf,by simp[hb],hn⟩,fun g w vs hR hlen hv=>?_⟩;refine Ks.1 (callsIn_of_wp_marks (F:=WF none) (n:=0) hf hb trivial (Sj h2 c b g w σ (kg args) _ h1 hw hR ⟨?_,fun t ht=>?_⟩ (ku.nil _ _ _ _ _) (Nat.le_refl _) (.refl _ _ _)))
   ·simp only at hl;simp;omega
   ·by_cases h:t<args.length
    ·have h3:t<vs.size:=by omega
     have:=hv t h;simp only[kg];rw[eD,eK h3];simpa using this
    ·have:kg args t = .undef:=by simp[kg,fQ (h_ h)]
     rw[this];exact .undef _
  ·cases hc
 ·cases hc
