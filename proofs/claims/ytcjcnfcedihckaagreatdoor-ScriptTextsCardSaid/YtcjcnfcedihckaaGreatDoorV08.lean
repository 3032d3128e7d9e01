/- Part. -/
import Derived.Test.YtcjcnfcedihckaaGreatDoorV07
set_option linter.all false
namespace Go.AM
inductive aa4 where
 | normal
 | exit (id:Nat)
 | goto (l:Nat)
 | ret
 | panic (v:AV)
structure b_ where
 op:br
 dst:Option Nat
 guard:Option (Nat × Bool)
abbrev AQ:=aa4->Env->ae->Prop
def eD(P:Program)(Q:AQ): List b_->Env->ae->Prop
 | [],e,σ=>Q .normal e σ
 |⟨o,d,none⟩::r,e,σ=>o.run P e σ (fun v σ'=>eD P Q r (eC e d v) σ') (fun v σ'=>Q (.panic v) e σ')
 | ⟨o, d, some (k, b)⟩ :: r, e, σ => match e k with
   | .bool t => (t = b -> o.run P (eC e (some k) (.bool b)) σ (fun v σ' => eD P Q r (eC (eC e (some k) (.bool b)) d v) σ') (fun v σ' => Q (.panic v) (eC e (some k) (.bool b)) σ')) /\
      (t = !b->eD P Q r (eC (eC e (some k) (.bool (!b))) d (.bJ [])) σ)
   | .bJ []=>eD P Q r (eC e d (.bJ [])) σ
   | _=>False
inductive cI where
 | skip
 | region (ops:List b_)
 | draw (ops:List b_) (jo:List (AX × AX))
 | seq (a b:cI)
 | cond (c:AX) (thn els:cI)
 | block (id:Nat) (body:cI)
 | loop (body:cI)
 | exit (id:Nat)
 | ret
 | scope (l:Nat) (body rest:cI)
 | label (l:Nat)
 | goto (l:Nat)
 | jv (f:AX) (nt:Nat) (ps:List Nat) (ca cb:Code) (WK body:cI)
 | stop
def cI.lK: cI->Bool
 | .seq a b=>a.lK || b.lK
 | .cond _ a b=>a.lK || b.lK
 | .block _ a=>a.lK
 | .loop a=>a.lK
 | .scope _ a _=>a.lK
 | .jv ..=>true
 | _=>false
def z_(ac:cI)(B:Nat->Prop)(w:World): Prop:=ac.lK=true-> ∀ D,w.heap.size<=D->B D
def z_.size{ac:cI}{B:Nat->Prop}{w w':World}(h:z_ ac B w)(hs:w.heap.size<=w'.heap.size): z_ ac B w':=fun hr D hD=>h hr D (bY hs hD)
def z_.sub{ac ad:cI}{B:Nat->Prop}{w:World}(h:z_ ac B w)(hs:ad.lK=true->ac.lK=true): z_ ad B w:=fun hr=>h (hs hr)
def z_.at(ac:cI)(w:World): z_ ac (fun D=>w.heap.size<=D) w:=fun _ _ h=>h
def qX(K:Env->ae->Prop)(Q:AQ): AQ
 | .normal,e,σ=>K e σ
 | x,e,σ=>Q x e σ
def qY(id:Nat)(Q:AQ): AQ
 | .exit i,e,σ=>if i=id then Q .normal e σ else Q (.exit i) e σ
 | x,e,σ=>Q x e σ
def og: List (AX × AX)->Env->Prop
 | [],_=>True
 |(x,y)::r,e=>pP (x.ev e) (y.ev e)/\og r e
def SW: AX × AX->Bool
 |(.c .mg,.c .mg)=>true
 | _=>false
def CV(jo:List (AX × AX)): Bool:=jo.any SW
def jC(jo:List (AX × AX))(Q:AQ): AQ
 | .normal,e,σ=>og jo e/\Q .normal e σ
 | .panic v,e,σ=>if CV jo then ∀ e',Q (.panic v) e' σ else Q (.panic v) e σ
 | x,e,σ=>Q x e σ
def Vj{jo:List (AX × AX)}{Q:AQ}: ∀ {ex e σ},jC jo Q ex e σ->Q ex e σ:=fun {ex e σ} h=>by
 cases ex<;>first|exact h.2|exact h|skip
 simp only[jC]at h;split at h
 ·exact h e
 ·exact h
def SX{jo:List (AX × AX)}{Q:AQ}(h:CV jo=true){v:AV}{e e':Env}{σ : ae}: jC jo Q (.panic v) e σ->jC jo Q (.panic v) e' σ:=by
 simp only[jC,h,if_true];exact id
def WL(body:AQ->Env->ae->Prop)(Q:AQ)(e:Env)(σ : ae): Prop :=
 ∃(I:Nat->Env->ae->Prop),(∃ n,I n e σ)/\ ∀ n e σ,I n e σ->body (qX (fun e' σ'=> ∃ m,m<n/\I m e' σ') Q) e σ
def qZ(l:Nat)(J:Env->ae->Prop)(Q:AQ): AQ
 | .goto l',e,σ=>l'=l/\J e σ
 | x,e,σ=>Q x e σ
def SY(l:Nat)(body rest:AQ->Env->ae->Prop)(Q:AQ)(e:Env)(σ : ae): Prop :=
 ∃(J:Nat->Env->ae->Prop),body (qZ l (fun e σ=> ∃ n,J n e σ) Q) e σ/\ ∀ n e σ,J n e σ->rest (qZ l (fun e' σ'=> ∃ m,m<n/\J m e' σ') Q) e σ
def PE: List Nat->List AV->Env->Env
 | p::ps,a::az,e=>PE ps az (eC e (some p) a)
 | _,_,e=>e
def acH(l:Nat)(o o':bx)(B:Env->ae->Prop): AQ
 | .normal,e,σ=>σ[l]? = some o/\B e (σ.set l o')
 | _,_,_=>False
def acI(l:Nat)(o:LoopState->Option Code->bx)(R:Out->ae->Prop): AQ
 | .normal,_,σ=>σ[l]? = some (o .busy none)/\R (.ret (.bool true)) (σ.set l (o .ready none))
 | .ret,_,σ=>σ[l]? = some (o .busy none)/\R (.ret (.bool false)) (σ.set l (o .done (some .ret)))
 | .exit i,_,σ=>σ[l]? = some (o .busy none)/\R (.ret (.bool false)) (σ.set l (o .done (some (.exit i))))
 | .goto i,_,σ=>σ[l]? = some (o .busy none)/\R (.ret (.bool false)) (σ.set l (o .done (some (.goto i))))
 | .panic _,_,_=>False
def acJ(l:Nat)(o:LoopState->Option Code->bx)(Q:AQ)(e:Env): Out->ae->Prop
 | .ret _, σ => ∃ st pe, σ[l]? = some (o st pe) /\ st ≠ .busy /\ match pe with
    | none=>Q .normal e (σ.set l .dead)
    | some .ret=>Q .ret e (σ.set l .dead)
    | some (.exit i)=>Q (.exit i) e (σ.set l .dead)
    | some (.goto i)=>Q (.goto i) e (σ.set l .dead)
    | _=>False
 | .panic v,σ=>Q (.panic v) e σ
def Q7(P:Program)(nt:Nat)(ps:List Nat)(ca cb:Code)(f:AV)(WK body:AQ->Env->ae->Prop)(Q:AQ)(e:Env)(σ : ae): Prop :=
 match f with
 | .fn (.func n) first cap => ∀ o : LoopState -> Option Code -> bx, (∀ st pe, o st pe = .loop nt e ps.toArray ca cb st pe) ->
    (∀ σ' args R, σ'[σ.length]? = some (o .ready none) -> args.length = ps.length ->
      WK (acH σ.length (o .ready none) (o .busy none) (body (acI σ.length o R))) (PE ps args e) σ'->tE P σ.length args σ' R) ->
    dK P n (first++[.si σ.length]++cap) (σ++[o .ready none]) (acJ σ.length o Q e)
 | _=>False
def iU(P:Program): cI->AQ->Env->ae->Prop
 | .skip,Q,e,σ=>Q .normal e σ
 | .region ops,Q,e,σ=>eD P Q ops e σ
 | .draw ops jo,Q,e,σ=>eD P (jC jo Q) ops e σ
 | .seq a b,Q,e,σ=>iU P a (qX (iU P b Q) Q) e σ
 | .cond c a b, Q, e, σ => match c.ev e with
   | .bool t=>(t=true->iU P a Q e σ)/\(t=false->iU P b Q e σ)
   | _=>False
 | .block id c,Q,e,σ=>iU P c (qY id Q) e σ
 | .loop c,Q,e,σ=>WL (iU P c) Q e σ
 | .exit id,Q,e,σ=>Q (.exit id) e σ
 | .ret,Q,e,σ=>Q .ret e σ
 | .scope l c r,Q,e,σ=>SY l (iU P c) (iU P r) Q e σ
 | .label _,Q,e,σ=>Q .normal e σ
 | .goto l,Q,e,σ=>Q (.goto l) e σ
 | .jv f nt ps ca cb WK body,Q,e,σ=>Q7 P nt ps ca cb (f.ev e) (iU P WK) (iU P body) Q e σ
 | .stop,_,_,_=>False
structure Bc (B:Nat->Prop) (σ : ae) (g:aM) (w:World) (ds:List Deferred):Prop where
 nodup:ds.Nodup
 mark:∀ d ∈ ds,∃ D,d = { target:= .collected D,args:= #[] }/\B D/\w.heap[D]? = some (.deferred (some []))/\¬ lO σ g D/\¬ g.fH D
def Bc.step{B:Nat->Prop}{σ σ':ae}{g g':aM}{w w':World}{ds:List Deferred}(h:Bc B σ g w ds)(hev:ik σ g w σ' g' w'): Bc B σ' g' w' ds:=by
 refine⟨h.nodup,fun d hd=>?_⟩;obtain⟨D,h1,h2,h3,h4,h5⟩:=h.mark d hd;have hlt:D<w.heap.size:=(dG.1 h3).1;exact⟨D,h1,h2,(hev.frame D hlt h4).trans h3,fun ht=>h4 (hev.Jp D hlt ht),fun hi=>(hev.xL D hlt hi).elim h5 h4⟩
def lU(X:List Deferred)(B:Nat->Prop)(σ : ae)(g:aM)(w:World)(ds:List Deferred): Prop:= ∃ ms,ds=ms++X/\Bc B σ g w ms
def lU.nil(X:List Deferred)(B:Nat->Prop)(σ : ae)(g:aM)(w:World): lU X B σ g w X:=⟨[],rfl,List.nodup_nil,fun _ h=>by cases h⟩
def lU.step{X:List Deferred}{B:Nat->Prop}{σ σ':ae}{g g':aM}{w w':World}{ds:List Deferred}(h:lU X B σ g w ds)(hev:ik σ g w σ' g' w'): lU X B σ' g' w' ds :=
 let ⟨ms,h1,h2⟩:=h;⟨ms,h1,h2.step hev⟩
def QR(X:List Deferred)(nt:Nat)(B:Nat->Prop)(g:aM)(w:World)(σ : ae)(Q:AQ)(ex:Exit)(a:Act)(w':World): Prop :=
 ∃ g' e' σ', lU X B σ' g' w' a.defers /\ Rel g' w' σ' /\ ic nt g' w' e' a.tmps /\ ik σ g w σ' g' w' /\
   match ex with
   | .normal=>Q .normal e' σ'
   | .exit id=>Q (.exit id) e' σ'
   | .goto l=>Q (.goto l) e' σ'
   | .ret=>Q .ret e' σ'
   | .panic chain=> ∃ v av,chain=[{ v,recovered:=false }]/\VR g' w' av v/\Q (.panic av) e' σ'
   | .outgrown=>False
section
variable {P:Program}
def Oper.L2 {F : Fence} {wn : Nat} {o : Oper} {a : Act} {w : World} {K K' : Act -> World -> Prop} {Q Q' : Exit -> Act -> World -> Prop} (h : ∀ a w, K a w -> K' a w) (hq : ∀ e a w, Q e a w -> Q' e a w)
    (hh:o.wpIn F wn P a w K Q):o.wpIn F wn P a w K' Q':=by
 unfold Oper.wpIn at *;refine⟨hh.1,?_⟩
 replace hh:=hh.2
 generalize (o.semAt F.round a.eval).run P w=r at *;cases r with
 | ok n w' =>
   cases n<;>simp only[Oper.uponIn]at hh ⊢ <;>
    first
     | exact h _ _ hh
     | exact ⟨hh.1, CallsIn.mono hh.2 (fun e w'' he => by
        cases e<;>first
         | exact h _ _ he
         | exact hq _ _ _ he
         |(obtain⟨a0,w0,he⟩:=he;exact⟨a0,w0,hq _ _ _ he⟩))⟩
     | exact ⟨hh.1, RoundIn.mono hh.2 (fun e w'' he => by
        cases e<;>first
         | exact h _ _ he
         | exact hq _ _ _ he
         |(obtain⟨a0,w0,he⟩:=he;exact⟨a0,w0,hq _ _ _ he⟩))⟩
     | exact⟨hh.1,RowsIn.mono hh.2 (fun _ _ he=>h _ _ he)⟩
 | halt x w' =>
   cases x<;>simp only[Oper.uponIn]at hh ⊢<;>first
    | exact hq _ _ _ hh
    | exact hh
def put_defers(a:Act)(d:Option Tmp)(v:Value): (a.put d v).defers=a.defers:=by cases d<;>rfl
def JM {nt : Nat} {g : aM} {w : World} {e : Env} {a : Act} {ops : Array Oper} {o : Oper} {k : Nat} {j : Nat} {b : Bool} (hE : ic nt g w e a.tmps) (hg : o.guard = some (j, b)) (hd : (ops[j]?).bind (·.dst) = some k) (hk : k < nt) :
    (∀ t,e k = .bool t->Region.wanted o (yielded ops a.tmps)=(t==b))/\(e k = .bJ []->Region.wanted o (yielded ops a.tmps)=false):=by
 have hv:=hE.rel k hk;have hlt:k<a.tmps.size:=by rw[hE.size];exact hk
 have qu:a.tmps[k]? = some (a.tmps.getD k Go.undef):=by simp[hlt]
 constructor
 ·intro t ht;rw[ht]at hv;generalize a.tmps.getD k Go.undef=v at hv qu;cases hv;simp only[Region.wanted,hg,yielded,hd,gk,qu];cases t<;>cases b<;>rfl
 ·intro ht;rw[ht]at hv;generalize a.tmps.getD k Go.undef=v at hv qu;cases hv;simp[Region.wanted,hg,yielded,hd,qu]
def ic.congr{nt:Nat}{g:aM}{w:World}{e:Env}{tmps:Array Value}(h:ic nt g w e tmps){k:Nat}{x:AV}(hx:e k=x): ic nt g w (eC e (some k) x) tmps :=
 ⟨h.size, fun t ht => by
   simp only[eC];split
   ·rename_i e1;subst e1;subst hx;exact h.rel _ ht
   ·exact h.rel t ht⟩
def kL(P:Program)(nt:Nat)(h:Hints)(dr:Bool)(all:Array Oper): List Oper->Option (List b_)
 | []=>some []
 | o :: r => match tH P nt h dr o, kL P nt h dr all r with
   | some ao, some gs => match o.guard with
     | none=>some (⟨ao,o.dst,none⟩::gs)
     | some (j, b) => match (all[j]?).bind (·.dst) with
       | some k=>if k<nt then some (⟨ao,o.dst,some (k,b)⟩::gs)else none
       | none=>none
   | _,_=>none
def SZ {X : List Deferred} {ro : Option Nat} {wn : Nat} {nt : Nat} {h : Hints} {dr : Bool} {ops : Array Oper} {B : Nat -> Prop} {Q : AQ} {g0 : aM} {w0 : World} {qC : ae} : ∀ (l : List Oper) (i : Nat) (gs : List b_) (g : aM) (w : World) (σ : ae) (e : Env) (a : Act),
    kL P nt h dr ops l=some gs->(∀ j,j<l.length->ops[i+j]? = l[j]?)->eD P Q gs e σ->Rel g w σ->ic nt g w e a.tmps->lU X B σ g w a.defers->ik qC g0 w0 σ g w ->
    Go.wpOpsIn (WF ro) wn P ops (QR X nt B g0 w0 qC Q) (List.range' i l.length) a w:=by
 intro l
 induction l with
 | nil =>
   intro i gs g w σ e a hc _ hw hR hE hd hev;cases hc;exact⟨g,e,σ,hd,hR,hE,hev,hw⟩
 | cons o l ih =>
   intro i gs g w σ e a hc hidx hw hR hE hd hev;have h0:ops[i]? = some o:=by simpa using hidx 0 (by simp)
   have WM:∀ j,j<l.length->ops[i+1+j]? = l[j]?:=fun j hj=>by
    have:=hidx (j+1) (by simpa using hj);simpa[c8,Nat.add_comm 1 j]using this
   simp only[kL]at hc;split at hc
   ·rename_i ao gs' h1 h2
    have go:∀ (e1:Env),ic nt g w e1 a.tmps->ao.run P e1 σ (fun v σ'=>eD P Q gs' (eC e1 o.dst v) σ') (fun v σ'=>Q (.panic v) e1 σ') ->
     o.wpIn (WF ro) wn P a w (Go.wpOpsIn (WF ro) wn P ops (QR X nt B g0 w0 qC Q) (List.range' (i+1) l.length)) (QR X nt B g0 w0 qC Q):=fun e1 vy hrun=>by
     refine Oper.L2 ?_ ?_ (L1 h1 hR vy hrun)
     ·rintro a' w' ⟨v,g',av,σ',rfl,r1,r2,r3,r4⟩;exact ih (i+1) gs' g' w' σ' (eC e1 o.dst av) (a.put o.dst v) h2 WM r4 r1 ((vy.mono r2.mono).put o.dst r3) (by rw[put_defers];exact hd.step r2) (hev.trans r2)
     ·rintro ex a' w' ⟨rfl,v,g',av,σ',rfl,r1,r2,r3,r4⟩;exact⟨g',e1,σ',hd.step r2,r1,vy.mono r2.mono,hev.trans r2,v,av,rfl,r3,r4⟩
    have pass:∀ (e1:Env),ic nt g w e1 a.tmps->eD P Q gs' (eC e1 o.dst (.bJ [])) σ->Go.wpOpsIn (WF ro) wn P ops (QR X nt B g0 w0 qC Q) (List.range' (i+1) l.length) (a.put o.dst Go.undef) w:=fun e1 vy hrun =>
     ih (i+1) gs' g w σ (eC e1 o.dst (.bJ [])) (a.put o.dst Go.undef) h2 WM hrun hR (vy.put o.dst (.bJ [] #[] rfl (fun i hi=>absurd hi (dL _)))) (by rw[put_defers];exact hd) hev
    rw[List.length_cons,List.range'_succ,wpOpsIn_cons];unfold wpOpIn;simp only[h0];split at hc
    ·rename_i hg;cases hc;have Q8:Region.wanted o (yielded ops a.tmps)=true:=by simp[Region.wanted,hg]
     rw[if_pos Q8];exact go e hE hw
    ·rename_i j b hg;split at hc
     ·rename_i k hk;split at hc
      ·rename_i hlt;cases hc;obtain⟨w1,w2⟩:=JM (ops:=ops) hE hg hk hlt;simp only[eD]at hw;split at hw
       ·rename_i t ht;have hwn:=w1 t ht;by_cases htb:t=b
        ·subst htb;rw[hwn,if_pos (by simp)];exact go _ (hE.congr ht) (hw.1 rfl)
        ·have:t = !b:=by cases t<;>cases b<;>simp_all
         rw[hwn,if_neg (by simpa using htb)];refine⟨fun _ _=>trivial,pass _ (hE.congr ?_) (hw.2 this)⟩;rw[ht,this]
       ·rename_i ht;rw[w2 ht,if_neg (by simp)];exact⟨fun _ _=>trivial,pass e hE hw⟩
       ·exact hw.elim
      ·cases hc
     ·cases hc
   ·cases hc
end
