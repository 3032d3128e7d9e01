/- Part. -/
import Derived.Test.YthakfmmgnjpmdaaGreatDoorW32
import Derived.RecoverIn
set_option linter.all false
set_option maxHeartbeats 4000000
namespace Go.Proofs.YthakfmmgnjpmdaaGreatDoor
open Go.AM
set_option maxRecDepth 4000
def Qp(F:FuncId)(L:List Row)(hF:oT F L)(hl:L.length<20): n9 160 [I L.length,A9 F] L (ez L):=by
 intro σ k gO;have hs:=fun o=>wA gO o;have oK:∀ o o':bj,(σ.set k o).set k o' = σ.set k o':=fun o o'=>eu _;have h1:=insertion F [] L [] hF (by simp;omega);simp only[cz,bB]at h1;obtain⟨T,hT⟩:∃ T,ez L=T:=⟨_,rfl⟩;rw[hT]at h1 ⊢;refine nD.go ?_;unfold dO;intro Q aB aC aD;repeat' first|refine au ?_|refine aq ?_ ?_<;>intro hw<;>try omega|fail
 with_reducible refine bE [7,8,11,12,13,14,15,16,17,18,19,20,21,22] (fun q:Nat=>[(7,I 0),(8,I 20)]) (fun q=>σ) (fun q=>True) (fun q=>q) 0 ?_ ?_ ?_ ?_
 ·trivial
 ·rfl
 ·exact at_
 rintro q r -;repeat' first|simp (disch:=omega) only[go_sem,aB,aC,aD,oK]|refine au ?_|with_reducible refine iI h1 gO (aa_ rfl (by simp) (by simp)) ?_|refine aq ?_ ?_<;>intro hw<;>try omega|fail
 with_reducible refine bE [6,7,8,9,28,29,30,31,32,33,34,35,36,37,38,39,40,41,42,43,44,45,46,47,48,49,50,51,52,53,54,55,56,57,58,59,60,61,62] (fun q:Nat=>[(6,I 20)]) (fun q=>σ.set k (jS T)) (fun q=>True) (fun q=>q) 0 ?_ ?_ ?_ ?_
 ·trivial
 ·rfl
 ·exact at_
 rintro q' r' -;repeat' first|refine au ?_|refine aq ?_ ?_<;>intro hw<;>try omega|fail
 exact⟨rfl,trivial⟩
def Qq(F:FuncId)(X Y:List Row)(hF:oT F (X++Y))(hX:X.length=20)(hY:Y.length<20): n9 160 [I (20+Y.length:Nat),A9 F] (X++Y) (ez (X++Y)):=by
 intro σ k gO;have hs:=fun o=>wA gO o;have oK:∀ o o':bj,(σ.set k o).set k o' = σ.set k o':=fun o o'=>eu _;have h1:=insertion F [] X Y (hF.sub fun z hz=>cW _ hz) (by simp;omega);have h2:=insertion F (ez X) Y [] (hF.sub fun z hz=>ek _ hz) (by simp[nX];omega);have h3:=fun(hy:0<Y.length)=>abf F (20+Y.length) [] (ez X) (ez Y) [] (hF.sub fun z hz=>by simpa[Qm]using hz) (by simp[nX];omega) (sM _) (sM _) (by rw[nX];omega) (by rw[nX];exact hy) (by simp[nX];omega);simp only[cz,bB]at h1 h2 h3;rw[Cg ((lP X).append (lP Y))]at h3
 have hy0:¬ 0<Y.length->ez X++ez Y=ez (X++Y):=fun h=>by
  obtain rfl:Y=[]:=List.length_eq_zero_iff.1 (by omega);simp[abb]
 obtain⟨T,hT⟩:∃ T,ez (X++Y)=T:=⟨_,rfl⟩;rw[hT]at h3 hy0 ⊢;have lX:(ez X).length=20:=by rw[nX];exact hX
 have lY:(ez Y).length=Y.length:=nX Y;have lL:(X++Y).length=20+Y.length:=by simp;omega
 rw[show sN k (X++Y)=AV.own E1 k (20+Y.length) 0 (20+Y.length) by rw[<-lL]];generalize ez X=SX at *;generalize ez Y=SY at *;refine nD.go ?_;unfold dO;intro Q aB aC aD;repeat' first|refine au ?_|refine aq ?_ ?_<;>intro hw<;>try omega|fail
 with_reducible refine bE [7,8,11,12,13,14,15,16,17,18,19,20,21,22] (fun q:Nat=>[(7,I (20*q:Nat)),(8,I (20*q+20:Nat))]) (fun q=>σ.set k (jS (if q=0 then X++Y else SX++Y))) (fun q=>q<=1) (fun q=>1-q) 0 ?_ ?_ ?_ ?_
 ·omega
 ·rw[if_pos rfl,mQ gO]
 ·exact at_
 rintro q r hq;rcases(show q=0\/q=1 by omega)with rfl|rfl
 ·rw[if_pos rfl];repeat' first|simp (disch:=omega) only[go_sem,aB,aC,aD,oK]|refine au ?_|with_reducible refine iI h1 (hs _) (aa_ (by simp;omega) (by simp) (by simp;omega)) ?_|refine aq ?_ ?_<;>intro hw<;>try omega|fail
  refine⟨1,?_,?_,?_,cZ,at_⟩<;>(try dsimp only)
  ·omega
  ·omega
  ·rw[if_neg (by decide)]
 ·rw[if_neg (by decide)];repeat' first|simp (disch:=omega) only[go_sem,aB,aC,aD,oK]|refine au ?_|with_reducible refine iI h2 (hs _) (aa_ (by simp;omega) (by omega) (by omega)) ?_|refine aq ?_ ?_<;>intro hw<;>try omega|fail
  by_cases hy:0<Y.length
  ·have h3:=h3 hy;with_reducible refine bE [6,7,8,9,28,29,30,31,32,33,34,35,36,37,38,39,40,41,42,43,44,45,46,47,48,49,50,51,52,53,54,55,56,57,58,59,60,61,62] (fun q:Nat=>[(6,I (20*(q+1):Nat))]) (fun q=>σ.set k (jS (if q=0 then SX++SY else T))) (fun q=>q<=1) (fun q=>1-q) 0 ?_ ?_ ?_ ?_
   ·omega
   ·rfl
   ·exact at_
   rintro q r hq;rcases(show q=0\/q=1 by omega)with rfl|rfl
   ·rw[if_pos rfl];repeat' first|refine au ?_|refine aq ?_ ?_<;>intro hw<;>try omega|fail
    with_reducible refine bE [7,8,33,34,35,36,37,38,39,40,41,42,43,44,45,46,47,48] (fun q:Nat=>[(7,I 0),(8,I 40)]) (fun q=>σ.set k (jS (SX++SY))) (fun q=>True) (fun q=>q) 0 ?_ ?_ ?_ ?_
    ·trivial
    ·rfl
    ·exact at_
    rintro q' r' -;repeat' first|simp (disch:=omega) only[go_sem,aB,aC,aD,oK]|refine au ?_|with_reducible refine iI h3 (hs _) (rL (by simp;omega) (by simp) (by simp;omega) (by simp;omega)) ?_|refine aq ?_ ?_<;>intro hw<;>try omega|fail
    refine⟨1,?_,?_,?_,cZ,at_⟩<;>(try dsimp only)
    ·omega
    ·omega
    ·rw[if_neg (by decide)]
   ·rw[if_neg (by decide)];repeat' first|refine au ?_|refine aq ?_ ?_<;>intro hw<;>try omega|fail
    exact⟨rfl,trivial⟩
  ·with_reducible refine bE [6,7,8,9,28,29,30,31,32,33,34,35,36,37,38,39,40,41,42,43,44,45,46,47,48,49,50,51,52,53,54,55,56,57,58,59,60,61,62] (fun q:Nat=>[(6,I 20)]) (fun q=>σ.set k (jS (SX++SY))) (fun q=>True) (fun q=>q) 0 ?_ ?_ ?_ ?_
   ·trivial
   ·rfl
   ·exact at_
   rintro q r -;repeat' first|refine au ?_|refine aq ?_ ?_<;>intro hw<;>try omega|fail
   exact⟨rfl,by rw[hy0 hy]⟩
def stable(F:FuncId)(L:List Row)(hF:oT F L)(hl:L.length<40): n9 160 [I L.length,A9 F] L (ez L):=by
 by_cases h:L.length<20
 ·exact Qp F L hF h
 ·have:=Qq F (L.take 20) (L.drop 20) (by rw[dw];exact hF) (by rw[List.length_take];omega) (by rw[List.length_drop];omega);rwa[dw,show 20+(L.drop 20).length=L.length by rw[List.length_drop];omega]at this
def VP(F:FuncId)(L:List Row)(hF:oT F L)(hl:L.length<40): n9 115 [A9 F] L (ez L):=by
 intro σ k gO;have h:=stable F L hF hl;obtain⟨T,hT⟩:∃ T,ez L=T:=⟨_,rfl⟩;rw[hT]at h ⊢;refine tF.go ?_;unfold dO;intro Q aB aC aD;repeat' first|refine au ?_|with_reducible refine iI h gO rfl ?_|refine aq ?_ ?_<;>intro hw<;>try omega|fail
 exact⟨rfl,trivial⟩
end Go.Proofs.YthakfmmgnjpmdaaGreatDoor
namespace Go.AM
variable {P:Program}
def yF: FrameMode->FrameMode
 | .panicking ({ v,recovered:=false,goexit:=false }::older)=> .panicking ({ v,recovered:=true }::older)
 | u=>u
def zo(g:aE)(w:World): Option AV->FrameMode->Prop
 | none,u=>u = .returning
 | some a,u=> ∃ v,u = .panicking [{ v,recovered:=false }]/\VR g w a v
def uz(P:Program)(n:FuncId)(args:List AV)(pv:Option AV)(σ : ae)(R:ae->Prop): Prop :=
 Has P n/\ ∀(g:aE) (w:World) (vs:Array Value) (u:FrameMode),Rel g w σ->args.length=vs.size->(∀ i,i<args.length->VR g w (args.getD i .undef) (vs.getD i Go.undef))->zo g w pv u ->
  CallsDIn (WF none) 0 P n vs u w fun e u' w'=> ∃ g' σ' v,e = .returned v/\u'=yF u/\Rel g' w' σ'/\e7 σ g w σ' g' w'/\R σ'
structure Ci where
 nt:Nat
 k:Nat
 mvs:List (AX × Option Nat)
 rest:cY
def rz(nt:Nat): List Oper->Option (List (AX × Option Nat))
 | []=>some []
 | o :: r => match o.op, o.guard with
   | .assign x, none => match cX nt x, rz nt r with
     | some ax,some l=>some ((ax,o.dst)::l)
     | _,_=>none
   | .move x, none => match cX nt x, rz nt r with
     | some ax,some l=>some ((ax,o.dst)::l)
     | _,_=>none
   | _,_=>none
def MD(o:Oper): Option Nat:=match o.op,o.guard with
 | .call c, none => match c.callee with
   | .builtin .recover=>o.dst
   | _=>none
 | _,_=>none
def HF(P:Program)(h:Hints)(fn:Func): Option Ci :=
 match fn.body,fn.results.toList with
 | some (.seq (.region _ ops false) b), [] => match ops.toList with
   | o :: r => match MD o, rz fn.ntmps r, cu P fn.ntmps h false b with
     | some k,some l,some c=>if c.mR=false then some ⟨fn.ntmps,k,l,c⟩else none
     | _,_,_=>none
   | []=>none
 | _,_=>none
def KS: List (AX × Option Nat)->(Env->Prop)->Env->Prop
 | [],K,e=>K e
 |(x,d)::r,K,e=>KS r K (upd e d (x.ev e))
def KU(R:ae->Prop): AQ
 | .normal,_,σ=>R σ
 | .ret,_,σ=>R σ
 | _,_,_=>False
def Ci.wp(P:Program)(f:Ci)(pv:Option AV)(R:ae->Prop)(e:Env)(σ : ae): Prop:=KS f.mvs (fun e=>iJ P f.rest (KU R) e σ) (upd e (some f.k) (pv.getD .kj))
def NJ {F : Fence} {n : Nat} {ops : Array Oper} {Q : Exit -> Act -> List Frame -> World -> Prop} {i : Nat} {l : List Nat} {a : Act} {cs : List Frame} {w : World} {o : Oper} {x : Operand} (ho : ops[i]? = some o) (hop : o.op = .assign x \/ o.op = .move x) (hg : o.guard = none)
    (hF:∀ f,F.fn f) (h:wpOpsSIn F n P ops Q l (a.put o.dst (a.eval x)) cs w):wpOpsSIn F n P ops Q (i::l) a cs w:=by
 simp only[wpOpsSIn,ho];refine⟨fun f _=>hF f,?_⟩;have hw:Region.wanted o (yielded ops a.tmps)=true:=by simp[Region.wanted,hg]
 rw[if_pos hw]
 have hx:(execOp a.eval o).run P w = .ok (.value (a.eval x)) w:=by
  unfold execOp;rcases hop with hop|hop<;>simp only[hop]<;>rfl
 rw[hx];exact h
def YA {nt : Nat} {ops : Array Oper} {Q : Exit -> Act -> List Frame -> World -> Prop} {cs : List Frame} {w : World} {g : aE} {K : Env -> Prop} : ∀ (l : List Oper) (i : Nat) (ms : List (AX × Option Nat)) (e : Env) (a : Act),
    rz nt l=some ms->(∀ j,j<l.length->ops[i+j]? = l[j]?)->KS ms K e->fN nt g w e a.tmps->(∀ e' a',K e'->fN nt g w e' a'.tmps->a'.defers=a.defers->Q .normal a' cs w) ->
    wpOpsSIn (WF none) 0 P ops Q (List.range' i l.length) a cs w:=by
 intro l
 induction l with
 | nil=>intro i ms e a hc _ hw hE hK;cases hc;exact hK e a hw hE rfl
 | cons o l ih =>
   intro i ms e a hc hidx hw hE hK;have h0:ops[i]? = some o:=by simpa using hidx 0 (by simp)
   have N0:∀ j,j<l.length->ops[i+1+j]? = l[j]?:=fun j hj=>by
    have:=hidx (j+1) (by simpa using hj);simpa[Nat.add_assoc,Nat.add_comm 1 j]using this
   rw[List.length_cons,List.range'_succ]
   have go:∀ (x:Operand) (ax:AX) (ms':List (AX × Option Nat)),(o.op = .assign x\/o.op = .move x)->o.guard=none->cX nt x=some ax->rz nt l=some ms'->KS ms' K (upd e o.dst (ax.ev e))->wpOpsSIn (WF none) 0 P ops Q (i::List.range' (i+1) l.length) a cs w:=by
    intro x ax ms' hop hg hx F4 hw;refine NJ h0 hop hg (fun _=>trivial) (ih (i+1) ms' _ _ F4 N0 hw (hE.put o.dst (bI hx hE)) (fun e' a' k1 k2 k3=>hK e' a' k1 k2 (k3.trans (put_defers _ _ _))))
   simp only[rz]at hc;split at hc
   ·rename_i x hop hg;split at hc
    ·rename_i ax ms' h1 h2;cases hc;exact go x ax ms' (.inl hop) hg h1 h2 hw
    ·cases hc
   ·rename_i x hop hg;split at hc
    ·rename_i ax ms' h1 h2;cases hc;exact go x ax ms' (.inr hop) hg h1 h2 hw
    ·cases hc
   ·cases hc
def zo.recover {g : aE} {w : World} {pv : Option AV} {u : FrameMode} {c₀ : Frame} {cs : List Frame} (h : zo g w pv u) (hm : c₀.mode = u) :
    ∃ v cs',(match recoverD (c₀::cs)with|some (v,cs')=>(v,cs')|none=>(Value.nilIface,c₀::cs))=(v,cs')/\VR g w (pv.getD .kj) v/\cs' = { c₀ with mode:=yF u }::cs:=by
 cases pv with
 | none =>
   have h:u = .returning:=h;subst h;refine⟨.nilIface,c₀::cs,?_,.kj,?_⟩
   ·simp[recoverD,hm]
   ·have:({ c₀ with mode:=yF .returning }:Frame)=c₀:=by rw[show yF .returning=c₀.mode by rw[hm];rfl]
    rw[this]
 | some a =>
   obtain⟨v,h,hv⟩:=h;subst h;exact⟨v,{ c₀ with mode:= .panicking [{ v,recovered:=true }] }::cs,by simp[recoverD,hm],hv,by simp[yF]⟩
def uz.of_wp {n : FuncId} {fn : Func} {h : Hints} {rf : Ci} {args : List AV} {pv : Option AV} {σ : ae} {R : ae → Prop} (hf : P.funcs[n]? = some fn) (hn : (fn.name == "runtime.NumGoroutine") = false) (hc : HF P h fn = some rf)
    (hl:args.length<=rf.nt) (hw:rf.wp P pv R (kC args) σ):uz P n args pv σ R:=by
 unfold HF at hc;split at hc
 ·rename_i id ops b hb hres;split at hc
  ·rename_i o r J_;split at hc
   ·rename_i k ms c h1 h2 h3;split at hc
    case isFalse=>cases hc
    rename_i h4;cases hc;refine⟨⟨fn,hf,by simp[hb],hn⟩,fun g w vs u hR hlen hv hu=>?_⟩;refine callsDIn_of_wpSIn (F:=WF none) (n:=0) hf hb trivial fun c₀ cs hm=>?_;have h0:ops[0]? = some o:=by rw[<-Array.getElem?_toList,J_];rfl
    have hsz:ops.size=r.length+1:=by rw[<-er,J_];rfl
    obtain⟨v,cs',Ey,hvr,hcs⟩:=hu.recover (c₀:=c₀) (cs:=cs) hm
    have hE0:fN fn.ntmps g w (kC args) (vs++Array.replicate (fn.ntmps-vs.size) Go.undef):=by
     refine⟨?_,fun t ht=>?_⟩
     ·simp only at hl;simp;omega
     ·by_cases h:t<args.length
      ·have h3:t<vs.size:=by omega
       have:=hv t h;simp only[kC];rw[dX,dI h3];simpa using this
      ·have:kC args t = .undef:=by simp[kC,gw (fF h)]
       rw[this];exact .undef _
    have abg:o.dst=some k/\o.guard=none/\ ∃ c,o.op = .call c/\c.callee = .builtin .recover:=by
     unfold MD at h1;split at h1
     ·rename_i c hop hg;split at h1
      ·rename_i Qr;exact⟨h1,hg,c,hop,Qr⟩
      ·cases h1
     ·cases h1
    obtain⟨hd,hg,cc,hop,Qr⟩:=abg;refine wpSIn_seq (wpSIn_region ?_);rw[hsz,iP,List.range'_succ];simp only[wpOpsSIn,h0];refine⟨fun f _=>trivial,?_⟩;have aiP:Region.wanted o (yielded ops (vs++Array.replicate (fn.ntmps-vs.size) Go.undef))=true:=by simp[Region.wanted,hg]
    rw[if_pos aiP]
    have hx:∀ ρ : Operand->Value,(execOp ρ o).run P w = .ok .recover w:=fun ρ=>by
     unfold execOp;simp only[hop,resolve,Qr,Sem.run_bind,Sem.run_pure,Result.andThen_ok];rfl
    rw[hx]
    have fin:wpOpsSIn (WF none) 0 P ops (Exit.thenS (b.wpSIn (WF none) 0 P (bodyPostS P fn c₀ cs fun e u' w'=> ∃ g' σ' v,e = .returned v/\u'=yF u/\Rel g' w' σ'/\e7 σ g w σ' g' w'/\R σ')) (bodyPostS P fn c₀ cs fun e u' w'=> ∃ g' σ' v,e = .returned v/\u'=yF u/\Rel g' w' σ'/\e7 σ g w σ' g' w'/\R σ'))
     (List.range' (0+1) r.length) (Act.put { tmps:=vs++Array.replicate (fn.ntmps-vs.size) Go.undef,defers:=[] } o.dst v) cs' w:=by
     refine YA (g:=g) (nt:=fn.ntmps) (K:=fun e=>iJ P c (KU R) e σ) r 1 ms (upd (kC args) (some k) (pv.getD .kj)) _ h2 (fun j hj=>?_) hw ?_ ?_
     ·rw[<-Array.getElem?_toList,J_,Nat.add_comm];rfl
     ·rw[hd];exact hE0.put (a:= { tmps:=_,defers:=[] }) (some k) hvr
     ·intro e' a' hK Xh hdf;rw[put_defers]at hdf;show b.wpSIn (WF none) 0 P _ a' cs' w;refine wpSIn_of_wpIn rfl (wpIn_mono (xh b [] none 0 (fun _=>False) c (KU R) g w σ e' a' h3 hK hR Xh (by rw[hdf];exact jq.nil _ _ _ _ _) (fun h=>absurd h (by rw[h4];simp))) ?_);rintro ex a2 w2 ⟨g2,e2,σ2,⟨mks,hmk,hmo⟩,q2,q3,q4,q5⟩
      have aiQ:mks=[]:=by
       cases mks with
       | nil=>rfl
       | cons d ds=>obtain⟨D,_,hD,_⟩:=hmo.mark d (by simp);exact hD.elim
      subst aiQ
      have done:R σ2->a2.defers=[]/\ ∃ u',cs' = { c₀ with mode:=u' }::cs/\ ∃ v,(results fn a2.tmps).run P w2 = .ok v w2/\ ∃ g' σ' v',Ending.returned v = .returned v'/\u'=yF u/\Rel g' w2 σ'/\e7 σ g w σ' g' w2/\R σ':=fun hr =>
       ⟨hmk,yF u,hcs,_,zH (us:=[]) (by rw[hres];rfl),g2,σ2,_,rfl,rfl,q2,q4,hr⟩
      cases ex with
      | normal=>exact done q5
      | ret=>exact done q5
      | panic ch=>obtain⟨_,_,_,_,q5⟩:=q5;exact q5.elim
      | exit id=>exact q5.elim
      | goto l=>exact q5.elim
      | outgrown=>exact q5.elim
    subst hcs
    show(match recoverD (c₀::cs)with
     | some (v,cs')=>wpOpsSIn (WF none) 0 P ops _ _ _ cs' w
     | none=>wpOpsSIn (WF none) 0 P ops _ _ _ (c₀::cs) w)
    split
    ·rename_i v1 cs1 hr;rw[hr]at Ey;cases Ey;exact fin
    ·rename_i hr;rw[hr]at Ey;injection Ey with e1 e2;subst e1;rw[<-e2]at fin;exact fin
   ·cases hc
  ·cases hc
 ·cases hc
def wO{F:Fence}{n:Nat}{ops:Array Oper}{Q Q':Exit->Act->World->Prop}(h:∀ e a w,Q e a w->Q' e a w): ∀(l:List Nat) (a:Act) (w:World),Go.wpOpsIn F n P ops Q l a w->Go.wpOpsIn F n P ops Q' l a w
 | [],a,w,hh=>h _ a w hh
 | i :: l, a, w, hh => by
   simp only[Go.wpOpsIn]at hh ⊢;cases ho:ops[i]? with
   | none=>simp only[ho]at hh ⊢;exact wO h l a w hh
   | some o =>
     simp only[ho]at hh ⊢;split
     ·rename_i hw;rw[if_pos hw]at hh;exact Oper.GO (fun a w hh=>wO h l a w hh) h hh
     ·rename_i hw;rw[if_neg hw]at hh;exact⟨hh.1,wO h l _ w hh.2⟩
structure YB where
 nt:Nat
 k1:Nat
 k2:Nat
 gs:List cH
def YB.wp(P:Program)(f:YB)(pv:Option AV)(R:ae->Prop)(e:Env)(σ : ae): Prop:=eU P (KU R) f.gs (upd e (some f.k1) (pv.getD .kj)) σ
def Ez(P:Program)(Q:Exit->Act->List Frame->World->Prop)(ops:Array Oper)(l:List Nat)(a:Act)(cs:List Frame)(w:World): Prop :=
 ∀ (b : Frame) (k : List Item), b.kind = .deferred -> b.roundOf = none -> (WF none).fn b.fn -> (WF none).room (cs.length + 1 + 0) ->
   ∃ e a' cs' w',cs'.length=cs.length/\Q e a' cs' w'/\ArrivesIn (Machine.fenced P (WF none)) P (lone (b.atR a (.inRegion ops l::k)) cs w) b k cs' e a' w'
def Ez.of_wp{Q:Exit->Act->List Frame->World->Prop}{ops:Array Oper}{l:List Nat}{a:Act}{cs:List Frame}{w:World}(h:Go.wpOpsIn (WF none) 0 P ops (fun e a' w'=>Q e a' cs w') l a w): Ez P Q ops l a cs w :=
 fun b k _ hr hF hroom=>let ⟨e,a',w',q,r⟩:=wp_opsIn l a w h b k cs hr hF hroom;⟨e,a',cs,w',rfl,q,r⟩
def Ez.value {Q : Exit -> Act -> List Frame -> World -> Prop} {ops : Array Oper} {i : Nat} {l : List Nat} {a : Act} {cs : List Frame} {w : World} {o : Oper} {v : Value} (ho : ops[i]? = some o) (hg : o.guard = none)
    (hx:(execOp a.eval o).run P w = .ok (.value v) w) (h:Ez P Q ops l (a.put o.dst v) cs w):Ez P Q ops (i::l) a cs w:=by
 intro b k hb hro hF hroom;have hw:Region.wanted o (yielded ops a.tmps)=true:=by simp[Region.wanted,hg]
 have h0:(lone (b.atR a (.inRegion ops (i::l)::k)) cs w).fenced P (WF none):=fenced_oper hF hroom ho (fun _ _=>trivial);have hs:=stepGR_op (P:=P) (b:=b) (k:=k) (cs:=cs) (w:=w) (rest:=l) ho hw;rw[hro,Oper.semAt_none]at hs;have GZ:(b.atR a (.inRegion ops (i::l)::k)).finish v=b.atR (a.put o.dst v) (.inRegion ops l::k):=by rw[Frame.finish_atR,ho];rfl
 obtain⟨e,a',cs',w',hl,hq,l9⟩:=h b k hb hro hF hroom;refine⟨e,a',cs',w',hl,hq,.of_steps (.one h0 (step_lone_go ?_)) l9⟩;rw[hs,<-GZ];simp[stepG.apply,hx]
def Ez.recover {Q : Exit -> Act -> List Frame -> World -> Prop} {ops : Array Oper} {i : Nat} {l : List Nat} {a : Act} {cs cs1 : List Frame} {w : World} {o : Oper} {v : Value} (ho : ops[i]? = some o) (hg : o.guard = none)
    (hx:(execOp a.eval o).run P w = .ok .recover w) (hlen:cs1.length=cs.length) (Ey:(match recoverD cs with|some (v,cs')=>(v,cs')|none=>(Value.nilIface,cs))=(v,cs1)) (h:Ez P Q ops l (a.put o.dst v) cs1 w):Ez P Q ops (i::l) a cs w:=by
 intro b k hb hro hF hroom;have hw:Region.wanted o (yielded ops a.tmps)=true:=by simp[Region.wanted,hg]
 have h0:(lone (b.atR a (.inRegion ops (i::l)::k)) cs w).fenced P (WF none):=fenced_oper hF hroom ho (fun _ _=>trivial);have hs:=stepGR_op (P:=P) (b:=b) (k:=k) (cs:=cs) (w:=w) (rest:=l) ho hw;rw[hro,Oper.semAt_none]at hs;have GZ:(b.atR a (.inRegion ops (i::l)::k)).finish v=b.atR (a.put o.dst v) (.inRegion ops l::k):=by rw[Frame.finish_atR,ho];rfl
 have hk:(b.atR a (.inRegion ops (i::l)::k)).kind = .deferred:=hb;have htr:=tryRecover_deferred hk cs;obtain⟨e,a',cs',w',hl,hq,l9⟩:=h b k hb hro hF (by rw[hlen];exact hroom);refine⟨e,a',cs',w',hl.trans hlen,hq,.of_steps (.one h0 (step_lone_go ?_)) l9⟩;rw[hs,<-GZ];simp only[Frame.atR,hro]at htr ⊢;split at Ey
 ·rename_i v' cs' hr;cases Ey;simp[stepG.apply,hx,htr,hr]
 ·rename_i hr;cases Ey;simp[stepG.apply,hx,htr,hr]
inductive sv where
 | seq (a:cY) (d:sv)
 | dfr (ops:List cH) (x:AX) (rest:cY)
structure N8 where
 nt:Nat
 results:List pV
 body:sv
def TH(nt:Nat)(o:Oper): Option AX:=match o.op,o.guard,o.dst with
 | .defer c, none, none => match c.callee, c.args.toList with
   | .value f,[]=>cX nt f
   | _,_=>none
 | _,_,_=>none
def EA(P:Program)(nt:Nat)(h:Hints)(ops:Array Oper): Option (List cH × AX):=match ops.toList.getLast? with
 | some o => match TH nt o, lA P nt h false ops ops.toList.dropLast with
   | some x,some gs=>some (gs,x)
   | _,_=>none
 | none=>none
def afr: Code->Option (Array Oper)
 | .region _ ops false=>some ops
 | _=>none
def Cj(P:Program)(nt:Nat)(h:Hints): Code->Option sv
 | .seq a b => match (afr a).bind (EA P nt h) with
   | some (gs,x)=>(cu P nt h false b).map (.dfr gs x)
   | none => match cu P nt h false a, Cj P nt h b with
     | some c,some d=>some (.seq c d)
     | _,_=>none
 | _=>none
def zp(P:Program)(h:Hints)(fn:Func): Option N8:=match fn.body with
 | some c => match Cj P fn.ntmps h c, lB P fn.ntmps fn.results.toList with
   | some b,some rs=>some ⟨fn.ntmps,rs,b⟩
   | _,_=>none
 | none=>none
def sv.wp(P:Program)(Q:AQ)(QD:FuncId->List AV->AQ): sv->Env->ae->Prop
 | .seq a d=>iJ P a (mo (d.wp P Q QD) Q)
 | .dfr ops x rest => eU P (mo (fun e σ => match x.ev e with
    | .fn (.func n) first cap=>iJ P rest (QD n (first++cap)) e σ
    | _=>False) Q) ops
def abh(P:Program)(rs:List pV)(R:Out->ae->Prop)(n:FuncId)(args:List AV): AQ
 | .normal,e,σ=>uz P n args none σ fun σ'=>lK e σ' rs fun vs=>R (.ret (oneOf vs)) σ'
 | .ret,e,σ=>uz P n args none σ fun σ'=>lK e σ' rs fun vs=>R (.ret (oneOf vs)) σ'
 | .panic v,e,σ=>uz P n args (some v) σ fun σ'=>lK e σ' rs fun vs=>R (.ret (oneOf vs)) σ'
 | _,_,_=>False
def Oper.abi {F : Fence} {wn : Nat} {o : Oper} {a : Act} {w : World} {K K' : Act -> World -> Prop} {Q Q' : Exit -> Act -> World -> Prop} (h : ∀ a w, K a w -> K' a w) (hq : ∀ e a w, e ≠ .normal -> Q e a w -> Q' e a w)
    (hh:o.wpIn F wn P a w K Q):o.wpIn F wn P a w K' Q':=by
 unfold Oper.wpIn at *;refine⟨hh.1,?_⟩
 replace hh:=hh.2
 generalize (o.semAt F.round a.eval).run P w=r at *;cases r with
 | ok n w' =>
   cases n<;>simp only[Oper.uponIn]at hh ⊢ <;>
    first
     | exact h _ _ hh
     | exact ⟨hh.1, CallsIn.mono hh.2 (fun e w'' he => by
        cases e<;>first
         | exact h _ _ he
         | exact hq _ _ _ (by simp) he
         |(obtain⟨a0,w0,he⟩:=he;exact⟨a0,w0,hq _ _ _ (by simp) he⟩))⟩
     | exact ⟨hh.1, RoundIn.mono hh.2 (fun e w'' he => by
        cases e<;>first
         | exact h _ _ he
         | exact hq _ _ _ (by simp) he
         |(obtain⟨a0,w0,he⟩:=he;exact⟨a0,w0,hq _ _ _ (by simp) he⟩))⟩
     | exact⟨hh.1,RowsIn.mono hh.2 (fun _ _ he=>h _ _ he)⟩
 | halt x w' =>
   cases x<;>simp only[Oper.uponIn]at hh ⊢<;>first
    | exact hq _ _ _ (by simp) hh
    | exact hh
def rA{F:Fence}{n:Nat}{ops:Array Oper}{Q1 Q:Exit->Act->World->Prop}(l2:List Nat)(h1:∀ a w,Q1 .normal a w->Go.wpOpsIn F n P ops Q l2 a w)(h2:∀ e a w,e≠ .normal->Q1 e a w->Q e a w): ∀(l1:List Nat) (a:Act) (w:World),Go.wpOpsIn F n P ops Q1 l1 a w->Go.wpOpsIn F n P ops Q (l1++l2) a w
 | [],a,w,h=>h1 a w h
 | i :: l1, a, w, h => by
   simp only[bt,Go.wpOpsIn]at h ⊢;cases ho:ops[i]? with
   | none=>simp only[ho]at h ⊢;exact rA l2 h1 h2 l1 a w h
   | some o =>
     simp only[ho]at h ⊢;split
     ·rename_i hw;rw[if_pos hw]at h;exact Oper.abi (fun a w h=>rA l2 h1 h2 l1 a w h) h2 h
     ·rename_i hw;rw[if_neg hw]at h;exact⟨h.1,rA l2 h1 h2 l1 _ w h.2⟩
def YC {nt : Nat} {h : Hints} {ops : Array Oper} {gs : List cH} {x : AX} {Q : AQ} {g : aE} {w : World} {σ : ae} {e : Env} {a : Act} {QQ : Exit -> Act -> World -> Prop} (hc : EA P nt h ops = some (gs, x)) (hw : eU P Q gs e σ) (hR : Rel g w σ) (hE : fN nt g w e a.tmps)
    {B:Nat->Prop} (hd:jq [] B σ g w a.defers)
    (hn : ∀ (g' : aE) (w' : World) (σ' : ae) (e' : Env) (a' : Act), Q .normal e' σ' -> Rel g' w' σ' -> fN nt g' w' e' a'.tmps -> e7 σ g w σ' g' w' -> jq [] B σ' g' w' a'.defers ->
      ∃ n first cap,x.ev e' = .fn (.func n) first cap/\ ∀ f1 c1,VR g' w' (.fn (.func n) first cap) (.func (.func n) f1 c1)->QQ .normal { a' with defers:= { target:= .fn (.func n) c1,args:=f1 }::a'.defers } w')
    (hp:∀ ex a' w',ex≠ .normal->QR [] nt B g w σ Q ex a' w'->QQ ex a' w') :
    Go.wpOpsIn (WF none) 0 P ops QQ (List.range ops.size) a w:=by
 unfold EA at hc;split at hc
 ·rename_i o N9;split at hc
  ·rename_i x' gs' h1 h2;cases hc;have hne:ops.toList≠[]:=fun h=>by rw[h]at N9;cases N9
   have hsz:ops.size=ops.toList.dropLast.length+1:=by
    rw[List.length_dropLast,<-er];have:=ik.2 hne;omega
   have YD:ops.toList=ops.toList.dropLast++[o]:=by
    rw[List.getLast?_eq_some_getLast hne]at N9;cases N9;exact(List.dropLast_concat_getLast hne).symm
   have hidx:∀ j,j<ops.toList.dropLast.length->ops[0+j]? = ops.toList.dropLast[j]?:=fun j hj=>by
    rw[bF,<-Array.getElem?_toList]
    conv=>lhs;rw[YD]
    rw[aJ hj]
   have hlo:ops[ops.toList.dropLast.length]? = some o:=by
    have key:∀ l:List Oper,(l++[o])[(l++[o]).dropLast.length]? = some o:=fun l=>by simp
    rw[<-Array.getElem?_toList]
    conv=>lhs;rw[YD]
    exact key _
   rw[hsz,iP,List.range'_concat];have hs:=LO (X:=[]) (ro:=none) (wn:=0) (B:=B) (ops:=ops) (Q:=Q) (g0:=g) (w0:=w) (ni:=σ) ops.toList.dropLast 0 gs g w σ e a h2 hidx hw hR hE hd (.refl _ _ _);refine rA _ ?_ hp _ a w hs;rintro a1 w1 ⟨g1,e1,σ1,d1,r1,E1,v1,q1⟩;obtain⟨n,first,cap,hx,hq⟩:=hn g1 w1 σ1 e1 a1 q1 r1 E1 v1 d1;simp only[bF,Nat.one_mul,Go.wpOpsIn,hlo];unfold TH at h1;split at h1
   ·rename_i c hop hg abg;split at h1
    ·rename_i f Qr hargs;have hwn:Region.wanted o (yielded ops a1.tmps)=true:=by simp[Region.wanted,hg]
     rw[if_pos hwn];have hv:=bI h1 E1;rw[hx]at hv;generalize hfv:a1.eval f=fv at hv;have kH:=hv;cases hv;rename_i f1 c1 _ _ _ _
     have hz:c.args = #[]:=by
      have:=congrArg List.toArray hargs;simpa using this
     have hrun:(o.semAt (WF none).round a1.eval).run P w1 = .ok (.defer { target:= .fn (.func n) c1,args:=f1 }) w1:=by
      show(execOp a1.eval o).run P w1=_;unfold execOp;simp only[hop,resolve,Qr,hz,hfv,Deferred.ofValue,Sem.run_bind,Sem.run_pure,Result.andThen_ok];simp
     refine⟨fun _ _=>trivial,?_⟩;rw[hrun];simp only[Oper.uponIn,abg,Act.put];exact hq f1 c1 kH
    ·cases h1
   ·cases h1
  ·cases hc
 ·cases hc
def zW{g:aE}{w:World}{pv:Option AV}{u:FrameMode}(h:zo g w pv u): u≠ .run/\settle (yF u) = .returning:=by
 cases pv with
 | none=>have h:u = .returning:=h;subst h;exact⟨by simp,rfl⟩
 | some a=>obtain⟨v,h,_⟩:=h;subst h;exact⟨by simp,rfl⟩
def zo.mono{g g':aE}{w w':World}(hm:kI g w g' w'){pv:Option AV}{u:FrameMode}(h:zo g w pv u): zo g' w' pv u:=by
 cases pv with
 | none=>exact h
 | some a=>obtain⟨v,h,hv⟩:=h;exact⟨v,h,hv.mono hm⟩
def EB {fn : Func} {rs : List pV} {R : Out -> ae -> Prop} {g0 : aE} {w0 : World} {ni : ae} (LY : lB P fn.ntmps fn.results.toList = some rs) {g1 : aE} {w1 : World} {σ1 : ae} {g' : aE} {w' : World} {σ' : ae} {e' : Env} {tmps : Array Value} {n : FuncId} {first cap : List AV} {f1 c1 : Array Value} {ms1 ms : List Deferred} {pv : Option AV} {u : FrameMode}
    (eH:e7 ni g0 w0 σ1 g1 w1) (hB:w0.heap.size<=w1.heap.size) (abj:x5 (fun D=>w0.heap.size<=D) σ1 g1 w1 ms1) (hv:VR g1 w1 (.fn (.func n) first cap) (.func (.func n) f1 c1)) (F4:x5 (fun D=>w1.heap.size<=D) σ' g' w' ms) (hR:Rel g' w' σ') (hE:fN fn.ntmps g' w' e' tmps) (Te:e7 σ1 g1 w1 σ' g' w')
    (hu:zo g' w' pv u) (hq:uz P n (first++cap) pv σ' fun σ'=>lK e' σ' rs fun vs=>R (.ret (oneOf vs)) σ') :
    LeavesInM (WF none) 0 P fn tmps (fun e w'=> ∃ out g' σ',Rel g' w' σ'/\e7 ni g0 w0 σ' g' w'/\zA g' w' out e/\R out σ') (ms++({ target:= .fn (.func n) c1,args:=f1 }::ms1)) u w':=by
 refine qz (zW hu).1 ms w' F4 hR hE Te (fun w2 R2 E2 V2 M2=>?_);cases hv;rename_i hl hh hl' Dj;obtain⟨c3,c4⟩:=qX hl (fun i hi=>(hh i hi).mono V2.mono) hl' (fun i hi=>(Dj i hi).mono V2.mono);refine⟨(zW hu).1,.inr ⟨fun h=>by simp[WF,Fence.wide]at h,.func n,c1,n,f1++c1,rfl,?_,fun _ _=>trivial,?_⟩⟩
 ·simp only[invoke];exact tN hq.1 _ _
 ·refine(hq.2 g' w2 (f1++c1) u R2 c3 c4 (hu.mono M2)).mono ?_;rintro e u' w3 ⟨g3,σ3,v,rfl,rfl,R3,V3,hres⟩;show LeavesInM (WF none) 0 P fn tmps _ ms1 (settle (yF u)) w3;rw[(zW hu).2]
  have:=qz (X:=[]) (P:=P) (R:=fun e w'=> ∃ out g' σ',Rel g' w' σ'/\e7 ni g0 w0 σ' g' w'/\zA g' w' out e/\R out σ') (fn:=fn) (tmps:=tmps) (u:= .returning) (by simp) ms1 w3 (abj.step (V2.trans V3)) R3 (E2.mono V3.mono) ((eH.trans V2).trans V3) (fun w4 R4 E4 V4 M4=>by
   obtain⟨uO,us,r1,r2,r3,r4⟩:=LX (P:=P) R4 E4 fn.results.toList rs _ LY hres;exact⟨_,zH r1,.ret (oneOf uO),g3,σ3,R4,V4,SN r2 r3,r4⟩)
  simpa using this
def Sc {fn : Func} {h : Hints} {rs : List pV} {R : Out -> ae -> Prop} {g0 : aE} {w0 : World} {ni : ae} (LY : lB P fn.ntmps fn.results.toList = some rs) : ∀ (c : Code) (dc : sv) (g : aE) (w : World) (σ : ae) (e : Env) (a : Act),
    Cj P fn.ntmps h c=some dc->dc.wp P (GY rs R) (abh P rs R) e σ->Rel g w σ->fN fn.ntmps g w e a.tmps->jq [] (fun D=>w0.heap.size<=D) σ g w a.defers->w0.heap.size<=w.heap.size->e7 ni g0 w0 σ g w ->
    c.wpIn (WF none) 0 P (bodyPostM (WF none) 0 P fn fun e w'=> ∃ out g' σ',Rel g' w' σ'/\e7 ni g0 w0 σ' g' w'/\zA g' w' out e/\R out σ') a w:=by
 intro c
 have base:∀ (g:aE) (w:World) (σ : ae) (ex:Exit) (a':Act) (w':World),QR [] fn.ntmps (fun D=>w0.heap.size<=D) g w σ (GY rs R) ex a' w'->e7 ni g0 w0 σ g w->bodyPostM (WF none) 0 P fn (fun e w'=> ∃ out g' σ',Rel g' w' σ'/\e7 ni g0 w0 σ' g' w'/\zA g' w' out e/\R out σ') ex a' w' :=
  fun g w σ ex a' w' hq eH=>F6 LY (QR.step eH hq)
 induction c with
 | seq x y x8 vU =>
   intro dc g w σ e a hc hw hR hE hd hB eH;simp only[Cj]at hc;split at hc
   ·rename_i gs clo hr;obtain⟨rest,agN,rfl⟩:=aS.1 hc;obtain⟨ops,ho,hdr⟩:=eR.1 hr;cases x with
    | region id ops' d =>
      cases d with
      | true=>cases ho
      | false =>
        cases ho
        refine wpIn_seq (wpIn_region (YC (Q:=mo (fun e σ=>match clo.ev e with
         | .fn (.func n) first cap=>iJ P rest (abh P rs R n (first++cap)) e σ
         | _=>False) (GY rs R)) hdr hw hR hE hd ?_ ?_))
        ·intro g1 w1 σ1 e1 a1 q1 R1 E1 V1 D1;simp only[mo]at q1;split at q1
         ·rename_i n first cap hx
          refine⟨n,first,cap,hx,fun f1 c1 hv=>?_⟩;obtain⟨ms1,abj,abk⟩:=D1;refine wpIn_mono (xh y ({ target:= .fn (.func n) c1,args:=f1 }::a1.defers) none 0 (fun D=>w1.heap.size<=D) rest _ g1 w1 σ1 e1 _ agN q1 R1 E1 (jq.nil _ _ _ _ _) (Low.at _ _)) ?_;rintro ex a2 w2 ⟨g2,e2,σ2,⟨ms,F4,hmo⟩,R2,E2,V2,q2⟩;have hds:a2.defers=ms++({ target:= .fn (.func n) c1,args:=f1 }::ms1):=by rw[F4,abj,bB]
          have hsz:=bW hB V1.size;cases ex with
          | normal =>
            show LeavesInM (WF none) 0 P fn a2.tmps _ a2.defers .returning w2;rw[hds];exact EB (pv:=none) LY (eH.trans V1) hsz abk hv hmo R2 E2 V2 rfl q2
          | ret =>
            show LeavesInM (WF none) 0 P fn a2.tmps _ a2.defers .returning w2;rw[hds];exact EB (pv:=none) LY (eH.trans V1) hsz abk hv hmo R2 E2 V2 rfl q2
          | panic ch =>
            obtain⟨v,av,rfl,hvr,q2⟩:=q2;show LeavesInM (WF none) 0 P fn a2.tmps _ a2.defers _ w2;rw[hds];exact EB (pv:=some av) LY (eH.trans V1) hsz abk hv hmo R2 E2 V2 ⟨v,rfl,hvr⟩ q2
          | exit id=>exact q2.elim
          | goto l=>exact q2.elim
          | outgrown=>exact q2.elim
         ·exact q1.elim
        ·rintro ex a' w' hne ⟨g',e',σ',r1,r2,r3,r4,r5⟩;cases ex with
         | normal=>exact absurd rfl hne
         | exit id=>exact r5.elim
         | goto l=>exact r5.elim
         | ret=>exact base g w σ .ret a' w' ⟨g',e',σ',r1,r2,r3,r4,r5⟩ eH
         | panic ch=>exact base g w σ (.panic ch) a' w' ⟨g',e',σ',r1,r2,r3,r4,r5⟩ eH
         | outgrown=>exact r5.elim
    | _=>cases ho
   ·split at hc
    ·rename_i c1 d1 h1 h2;cases hc;refine wpIn_seq (wpIn_mono (xh x [] none 0 (fun D=>w0.heap.size<=D) c1 _ g w σ e a h1 hw hR hE hd (fun _ D hD=>bW hB hD)) ?_);rintro ex a' w' ⟨g',e',σ',r1,r2,r3,r4,r5⟩;cases ex with
     | normal=>exact vU d1 g' w' σ' e' a' h2 r5 r2 r3 r1 (bW hB r4.size) (eH.trans r4)
     | exit id=>exact r5.elim
     | goto l=>exact r5.elim
     | ret=>exact base g w σ .ret a' w' ⟨g',e',σ',r1,r2,r3,r4,r5⟩ eH
     | panic ch=>exact base g w σ (.panic ch) a' w' ⟨g',e',σ',r1,r2,r3,r4,r5⟩ eH
     | outgrown=>exact r5.elim
    ·cases hc
 | _=>intro dc g w σ e a hc;cases hc
def dZ.afs {f : FuncId} {fn : Func} {h : Hints} {df : N8} {args : List AV} {σ : ae} {R : Out → ae → Prop} (hf : P.funcs[f]? = some fn) (hn : (fn.name == "runtime.NumGoroutine") = false) (hc : zp P h fn = some df)
    (hl:args.length<=df.nt) (hw:df.body.wp P (GY df.results R) (abh P df.results R) (kC args) σ):dZ P f args σ R:=by
 unfold zp at hc;split at hc
 ·rename_i c hb;split at hc
  ·rename_i b rs h1 h2;cases hc;refine⟨⟨fn,hf,by simp[hb],hn⟩,fun g w vs hR hlen hv=>?_⟩;refine Fi.1 (callsIn_of_wp_marks (F:=WF none) (n:=0) hf hb trivial (Sc h2 c b g w σ (kC args) _ h1 hw hR ⟨?_,fun t ht=>?_⟩ (jq.nil _ _ _ _ _) (Nat.le_refl _) (.refl _ _ _)))
   ·simp only at hl;simp;omega
   ·by_cases h:t<args.length
    ·have h3:t<vs.size:=by omega
     have:=hv t h;simp only[kC];rw[dX,dI h3];simpa using this
    ·have:kC args t = .undef:=by simp[kC,gw (fF h)]
     rw[this];exact .undef _
  ·cases hc
 ·cases hc
