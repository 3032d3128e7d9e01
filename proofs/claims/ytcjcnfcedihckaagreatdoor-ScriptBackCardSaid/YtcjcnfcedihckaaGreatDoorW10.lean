/- Part. -/
import Derived.Test.YtcjcnfcedihckaaGreatDoorW09
set_option linter.all false
namespace Go.AM
inductive Yp where
 | normal
 | exit (id:Nat)
 | goto (l:Nat)
 | ret
 | panic (v:AV)
structure cK where
 op:bp
 dst:Option Nat
 guard:Option (Nat × Bool)
abbrev AQ:=Yp->Env->ae->Prop
def eT(P:Program)(Q:AQ): List cK->Env->ae->Prop
 | [],e,σ=>Q .normal e σ
 |⟨o,d,none⟩::r,e,σ=>o.run P e σ (fun v σ'=>eT P Q r (eX e d v) σ') (fun v σ'=>Q (.panic v) e σ')
 | ⟨o, d, some (k, b)⟩ :: r, e, σ => match e k with
   | .bool t => (t = b -> o.run P (eX e (some k) (.bool b)) σ (fun v σ' => eT P Q r (eX (eX e (some k) (.bool b)) d v) σ') (fun v σ' => Q (.panic v) (eX e (some k) (.bool b)) σ')) /\
      (t = !b->eT P Q r (eX (eX e (some k) (.bool (!b))) d (.bO [])) σ)
   | .bO []=>eT P Q r (eX e d (.bO [])) σ
   | _=>False
inductive de where
 | skip
 | region (ops:List cK)
 | draw (ops:List cK) (jn:List (AX × AX))
 | seq (a b:de)
 | cond (c:AX) (thn els:de)
 | block (id:Nat) (body:de)
 | loop (body:de)
 | exit (id:Nat)
 | ret
 | scope (l:Nat) (body rest:de)
 | label (l:Nat)
 | goto (l:Nat)
 | iE (f:AX) (nt:Nat) (ps:List Nat) (ca cb:Code) (Yq body:de)
 | stop
def de.mj: de->Bool
 | .seq a b=>a.mj || b.mj
 | .cond _ a b=>a.mj || b.mj
 | .block _ a=>a.mj
 | .loop a=>a.mj
 | .scope _ a _=>a.mj
 | .iE ..=>true
 | _=>false
def AL(ac:de)(B:Nat->Prop)(w:World): Prop:=ac.mj=true-> ∀ D,w.heap.size<=D->B D
def AL.size{ac:de}{B:Nat->Prop}{w w':World}(h:AL ac B w)(hs:w.heap.size<=w'.heap.size): AL ac B w':=fun hr D hD=>h hr D (cB hs hD)
def AL.sub{ac ad:de}{B:Nat->Prop}{w:World}(h:AL ac B w)(hs:ad.mj=true->ac.mj=true): AL ad B w:=fun hr=>h (hs hr)
def AL.at(ac:de)(w:World): AL ac (fun D=>w.heap.size<=D) w:=fun _ _ h=>h
def sn(K:Env->ae->Prop)(Q:AQ): AQ
 | .normal,e,σ=>K e σ
 | x,e,σ=>Q x e σ
def sr(id:Nat)(Q:AQ): AQ
 | .exit i,e,σ=>if i=id then Q .normal e σ else Q (.exit i) e σ
 | x,e,σ=>Q x e σ
def oY: List (AX × AX)->Env->Prop
 | [],_=>True
 |(x,y)::r,e=>qx (x.ev e) (y.ev e)/\oY r e
def TG: AX × AX->Bool
 |(.c .k_,.c .k_)=>true
 | _=>false
def Dg(jn:List (AX × AX)): Bool:=jn.any TG
def jM(jn:List (AX × AX))(Q:AQ): AQ
 | .normal,e,σ=>oY jn e/\Q .normal e σ
 | .panic v,e,σ=>if Dg jn then ∀ e',Q (.panic v) e' σ else Q (.panic v) e σ
 | x,e,σ=>Q x e σ
def WA{jn:List (AX × AX)}{Q:AQ}: ∀ {ex e σ},jM jn Q ex e σ->Q ex e σ:=fun {ex e σ} h=>by
 cases ex<;>first|exact h.2|exact h|skip
 simp only[jM]at h;split at h
 ·exact h e
 ·exact h
def TH{jn:List (AX × AX)}{Q:AQ}(h:Dg jn=true){v:AV}{e e':Env}{σ : ae}: jM jn Q (.panic v) e σ->jM jn Q (.panic v) e' σ:=by
 simp only[jM,h,if_true];exact id
def Yr(body:AQ->Env->ae->Prop)(Q:AQ)(e:Env)(σ : ae): Prop :=
 ∃(I:Nat->Env->ae->Prop),(∃ n,I n e σ)/\ ∀ n e σ,I n e σ->body (sn (fun e' σ'=> ∃ m,m<n/\I m e' σ') Q) e σ
def sv(l:Nat)(J:Env->ae->Prop)(Q:AQ): AQ
 | .goto l',e,σ=>l'=l/\J e σ
 | x,e,σ=>Q x e σ
def TI(l:Nat)(body rest:AQ->Env->ae->Prop)(Q:AQ)(e:Env)(σ : ae): Prop :=
 ∃(J:Nat->Env->ae->Prop),body (sv l (fun e σ=> ∃ n,J n e σ) Q) e σ/\ ∀ n e σ,J n e σ->rest (sv l (fun e' σ'=> ∃ m,m<n/\J m e' σ') Q) e σ
def tG: List Nat->List AV->Env->Env
 | p::ps,a::az,e=>tG ps az (eX e (some p) a)
 | _,_,e=>e
def aaF(l:Nat)(o o':aY)(B:Env->ae->Prop): AQ
 | .normal,e,σ=>σ[l]? = some o/\B e (σ.set l o')
 | _,_,_=>False
def aaG(l:Nat)(o:LoopState->Option Code->aY)(R:Out->ae->Prop): AQ
 | .normal,_,σ=>σ[l]? = some (o .busy none)/\R (.ret (.bool true)) (σ.set l (o .ready none))
 | .ret,_,σ=>σ[l]? = some (o .busy none)/\R (.ret (.bool false)) (σ.set l (o .done (some .ret)))
 | .exit i,_,σ=>σ[l]? = some (o .busy none)/\R (.ret (.bool false)) (σ.set l (o .done (some (.exit i))))
 | .goto i,_,σ=>σ[l]? = some (o .busy none)/\R (.ret (.bool false)) (σ.set l (o .done (some (.goto i))))
 | .panic _,_,_=>False
def aei(l:Nat)(o:LoopState->Option Code->aY)(Q:AQ)(e:Env): Out->ae->Prop
 | .ret _, σ => ∃ st pe, σ[l]? = some (o st pe) /\ st ≠ .busy /\ match pe with
    | none=>Q .normal e (σ.set l .dead)
    | some .ret=>Q .ret e (σ.set l .dead)
    | some (.exit i)=>Q (.exit i) e (σ.set l .dead)
    | some (.goto i)=>Q (.goto i) e (σ.set l .dead)
    | _=>False
 | .panic v,σ=>Q (.panic v) e σ
def LU(P:Program)(nt:Nat)(ps:List Nat)(ca cb:Code)(f:AV)(Yq body:AQ->Env->ae->Prop)(Q:AQ)(e:Env)(σ : ae): Prop :=
 match f with
 | .fn (.func n) first cap => ∀ o : LoopState -> Option Code -> aY, (∀ st pe, o st pe = .loop nt e ps.toArray ca cb st pe) ->
    (∀ σ' args R, σ'[σ.length]? = some (o .ready none) -> args.length = ps.length ->
      Yq (aaF σ.length (o .ready none) (o .busy none) (body (aaG σ.length o R))) (tG ps args e) σ'->rY P σ.length args σ' R) ->
    cN P n (first++[.qv σ.length]++cap) (σ++[o .ready none]) (aei σ.length o Q e)
 | _=>False
def i_(P:Program): de->AQ->Env->ae->Prop
 | .skip,Q,e,σ=>Q .normal e σ
 | .region ops,Q,e,σ=>eT P Q ops e σ
 | .draw ops jn,Q,e,σ=>eT P (jM jn Q) ops e σ
 | .seq a b,Q,e,σ=>i_ P a (sn (i_ P b Q) Q) e σ
 | .cond c a b, Q, e, σ => match c.ev e with
   | .bool t=>(t=true->i_ P a Q e σ)/\(t=false->i_ P b Q e σ)
   | _=>False
 | .block id c,Q,e,σ=>i_ P c (sr id Q) e σ
 | .loop c,Q,e,σ=>Yr (i_ P c) Q e σ
 | .exit id,Q,e,σ=>Q (.exit id) e σ
 | .ret,Q,e,σ=>Q .ret e σ
 | .scope l c r,Q,e,σ=>TI l (i_ P c) (i_ P r) Q e σ
 | .label _,Q,e,σ=>Q .normal e σ
 | .goto l,Q,e,σ=>Q (.goto l) e σ
 | .iE f nt ps ca cb Yq body,Q,e,σ=>LU P nt ps ca cb (f.ev e) (i_ P Yq) (i_ P body) Q e σ
 | .stop,_,_,_=>False
structure BD (B:Nat->Prop) (σ : ae) (g:aJ) (w:World) (ds:List Deferred):Prop where
 nodup:ds.Nodup
 mark:∀ d ∈ ds,∃ D,d = { target:= .collected D,args:= #[] }/\B D/\w.heap[D]? = some (.deferred (some []))/\¬ lT σ g D/\¬ g.fC D
def BD.step{B:Nat->Prop}{σ σ':ae}{g g':aJ}{w w':World}{ds:List Deferred}(h:BD B σ g w ds)(hev:fg σ g w σ' g' w'): BD B σ' g' w' ds:=by
 refine⟨h.nodup,fun d hd=>?_⟩;obtain⟨D,h1,h2,h3,h4,h5⟩:=h.mark d hd;have hlt:D<w.heap.size:=(dh.1 h3).1;exact⟨D,h1,h2,(hev.frame D hlt h4).trans h3,fun ht=>h4 (hev.I2 D hlt ht),fun hi=>(hev.yD D hlt hi).elim h5 h4⟩
def j6(X:List Deferred)(B:Nat->Prop)(σ : ae)(g:aJ)(w:World)(ds:List Deferred): Prop:= ∃ ms,ds=ms++X/\BD B σ g w ms
def j6.nil(X:List Deferred)(B:Nat->Prop)(σ : ae)(g:aJ)(w:World): j6 X B σ g w X:=⟨[],rfl,List.nodup_nil,fun _ h=>by cases h⟩
def j6.step{X:List Deferred}{B:Nat->Prop}{σ σ':ae}{g g':aJ}{w w':World}{ds:List Deferred}(h:j6 X B σ g w ds)(hev:fg σ g w σ' g' w'): j6 X B σ' g' w' ds :=
 let ⟨ms,h1,h2⟩:=h;⟨ms,h1,h2.step hev⟩
def QR(X:List Deferred)(nt:Nat)(B:Nat->Prop)(g:aJ)(w:World)(σ : ae)(Q:AQ)(ex:Exit)(a:Act)(w':World): Prop :=
 ∃ g' e' σ', j6 X B σ' g' w' a.defers /\ Rel g' w' σ' /\ fR nt g' w' e' a.tmps /\ fg σ g w σ' g' w' /\
   match ex with
   | .normal=>Q .normal e' σ'
   | .exit id=>Q (.exit id) e' σ'
   | .goto l=>Q (.goto l) e' σ'
   | .ret=>Q .ret e' σ'
   | .panic chain=> ∃ v av,chain=[{ v,recovered:=false }]/\VR g' w' av v/\Q (.panic av) e' σ'
   | .outgrown=>False
section
variable {P:Program}
def Oper.LV {F : Fence} {wn : Nat} {o : Oper} {a : Act} {w : World} {K K' : Act -> World -> Prop} {Q Q' : Exit -> Act -> World -> Prop} (h : ∀ a w, K a w -> K' a w) (hq : ∀ e a w, Q e a w -> Q' e a w)
    (hh:o.wpIn F wn P a w K Q):o.wpIn F wn P a w K' Q':=by
 unfold Oper.wpIn at *;refine⟨hh.1,?_⟩
 replace hh:=hh.2
 generalize (o.semAt F.round a.eval).run P w=r at *;cases r with
 | ok n w' =>
   cases n<;>simp only[Oper.uponIn]at hh ⊢ <;>
    first
     | exact h _ _ hh
     | exact ⟨hh.1, CallsIn.mono hh.2 (fun e w'' he => by
        cases e<;>first
         | exact h _ _ he
         | exact hq _ _ _ he
         |(obtain⟨a0,w0,he⟩:=he;exact⟨a0,w0,hq _ _ _ he⟩))⟩
     | exact ⟨hh.1, RoundIn.mono hh.2 (fun e w'' he => by
        cases e<;>first
         | exact h _ _ he
         | exact hq _ _ _ he
         |(obtain⟨a0,w0,he⟩:=he;exact⟨a0,w0,hq _ _ _ he⟩))⟩
     | exact⟨hh.1,RowsIn.mono hh.2 (fun _ _ he=>h _ _ he)⟩
 | halt x w' =>
   cases x<;>simp only[Oper.uponIn]at hh ⊢<;>first
    | exact hq _ _ _ hh
    | exact hh
def put_defers(a:Act)(d:Option Tmp)(v:Value): (a.put d v).defers=a.defers:=by cases d<;>rfl
def Jy {nt : Nat} {g : aJ} {w : World} {e : Env} {a : Act} {ops : Array Oper} {o : Oper} {k : Nat} {j : Nat} {b : Bool} (hE : fR nt g w e a.tmps) (hg : o.guard = some (j, b)) (hd : (ops[j]?).bind (·.dst) = some k) (hk : k < nt) :
    (∀ t,e k = .bool t->Region.wanted o (yielded ops a.tmps)=(t==b))/\(e k = .bO []->Region.wanted o (yielded ops a.tmps)=false):=by
 have hv:=hE.rel k hk;have hlt:k<a.tmps.size:=by rw[hE.size];exact hk
 have mS:a.tmps[k]? = some (a.tmps.getD k Go.undef):=by simp[hlt]
 constructor
 ·intro t ht;rw[ht]at hv;generalize a.tmps.getD k Go.undef=v at hv mS;cases hv;simp only[Region.wanted,hg,yielded,hd,gC,mS];cases t<;>cases b<;>rfl
 ·intro ht;rw[ht]at hv;generalize a.tmps.getD k Go.undef=v at hv mS;cases hv;simp[Region.wanted,hg,yielded,hd,mS]
def fR.congr{nt:Nat}{g:aJ}{w:World}{e:Env}{tmps:Array Value}(h:fR nt g w e tmps){k:Nat}{x:AV}(hx:e k=x): fR nt g w (eX e (some k) x) tmps :=
 ⟨h.size, fun t ht => by
   simp only[eX];split
   ·rename_i e1;subst e1;subst hx;exact h.rel _ ht
   ·exact h.rel t ht⟩
def lE(P:Program)(nt:Nat)(h:Hints)(dr:Bool)(all:Array Oper): List Oper->Option (List cK)
 | []=>some []
 | o :: r => match uB P nt h dr o, lE P nt h dr all r with
   | some ao, some gs => match o.guard with
     | none=>some (⟨ao,o.dst,none⟩::gs)
     | some (j, b) => match (all[j]?).bind (·.dst) with
       | some k=>if k<nt then some (⟨ao,o.dst,some (k,b)⟩::gs)else none
       | none=>none
   | _,_=>none
def TJ {X : List Deferred} {ro : Option Nat} {wn : Nat} {nt : Nat} {h : Hints} {dr : Bool} {ops : Array Oper} {B : Nat -> Prop} {Q : AQ} {g0 : aJ} {w0 : World} {rF : ae} : ∀ (l : List Oper) (i : Nat) (gs : List cK) (g : aJ) (w : World) (σ : ae) (e : Env) (a : Act),
    lE P nt h dr ops l=some gs->(∀ j,j<l.length->ops[i+j]? = l[j]?)->eT P Q gs e σ->Rel g w σ->fR nt g w e a.tmps->j6 X B σ g w a.defers->fg rF g0 w0 σ g w ->
    Go.wpOpsIn (WF ro) wn P ops (QR X nt B g0 w0 rF Q) (List.range' i l.length) a w:=by
 intro l
 induction l with
 | nil =>
   intro i gs g w σ e a hc _ hw hR hE hd hev;cases hc;exact⟨g,e,σ,hd,hR,hE,hev,hw⟩
 | cons o l ih =>
   intro i gs g w σ e a hc hidx hw hR hE hd hev;have h0:ops[i]? = some o:=by simpa using hidx 0 (by simp)
   have Ys:∀ j,j<l.length->ops[i+1+j]? = l[j]?:=fun j hj=>by
    have:=hidx (j+1) (by simpa using hj);simpa[Nat.add_assoc,Nat.add_comm 1 j]using this
   simp only[lE]at hc;split at hc
   ·rename_i ao gs' h1 h2
    have go:∀ (e1:Env),fR nt g w e1 a.tmps->ao.run P e1 σ (fun v σ'=>eT P Q gs' (eX e1 o.dst v) σ') (fun v σ'=>Q (.panic v) e1 σ') ->
     o.wpIn (WF ro) wn P a w (Go.wpOpsIn (WF ro) wn P ops (QR X nt B g0 w0 rF Q) (List.range' (i+1) l.length)) (QR X nt B g0 w0 rF Q):=fun e1 wB hrun=>by
     refine Oper.LV ?_ ?_ (LQ h1 hR wB hrun)
     ·rintro a' w' ⟨v,g',av,σ',rfl,r1,r2,r3,r4⟩;exact ih (i+1) gs' g' w' σ' (eX e1 o.dst av) (a.put o.dst v) h2 Ys r4 r1 ((wB.mono r2.mono).put o.dst r3) (by rw[put_defers];exact hd.step r2) (hev.trans r2)
     ·rintro ex a' w' ⟨rfl,v,g',av,σ',rfl,r1,r2,r3,r4⟩;exact⟨g',e1,σ',hd.step r2,r1,wB.mono r2.mono,hev.trans r2,v,av,rfl,r3,r4⟩
    have pass:∀ (e1:Env),fR nt g w e1 a.tmps->eT P Q gs' (eX e1 o.dst (.bO [])) σ->Go.wpOpsIn (WF ro) wn P ops (QR X nt B g0 w0 rF Q) (List.range' (i+1) l.length) (a.put o.dst Go.undef) w:=fun e1 wB hrun =>
     ih (i+1) gs' g w σ (eX e1 o.dst (.bO [])) (a.put o.dst Go.undef) h2 Ys hrun hR (wB.put o.dst (.bO [] #[] rfl (fun i hi=>absurd hi (cE _)))) (by rw[put_defers];exact hd) hev
    rw[List.length_cons,List.range'_succ,wpOpsIn_cons];unfold wpOpIn;simp only[h0];split at hc
    ·rename_i hg;cases hc;have Rm:Region.wanted o (yielded ops a.tmps)=true:=by simp[Region.wanted,hg]
     rw[if_pos Rm];exact go e hE hw
    ·rename_i j b hg;split at hc
     ·rename_i k hk;split at hc
      ·rename_i hlt;cases hc;obtain⟨w1,w2⟩:=Jy (ops:=ops) hE hg hk hlt;simp only[eT]at hw;split at hw
       ·rename_i t ht;have hwn:=w1 t ht;by_cases htb:t=b
        ·subst htb;rw[hwn,if_pos (by simp)];exact go _ (hE.congr ht) (hw.1 rfl)
        ·have:t = !b:=by cases t<;>cases b<;>simp_all
         rw[hwn,if_neg (by simpa using htb)];refine⟨fun _ _=>trivial,pass _ (hE.congr ?_) (hw.2 this)⟩;rw[ht,this]
       ·rename_i ht;rw[w2 ht,if_neg (by simp)];exact⟨fun _ _=>trivial,pass e hE hw⟩
       ·exact hw.elim
      ·cases hc
     ·cases hc
   ·cases hc
end
