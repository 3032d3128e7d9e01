/- Part. -/
import Derived.Test.YtcjcnfcedihckaaGreatDoorW09
set_option linter.all false
namespace Go.AM
inductive Zx where
 | normal
 | exit (id:Nat)
 | goto (l:Nat)
 | ret
 | panic (v:AV)
structure cL where
 op:br
 dst:Option Nat
 guard:Option (Nat × Bool)
abbrev AQ:=Zx->Env->ae->Prop
def ff(P:Program)(Q:AQ): List cL->Env->ae->Prop
 | [],e,σ=>Q .normal e σ
 |⟨o,d,none⟩::r,e,σ=>o.run P e σ (fun v σ'=>ff P Q r (fm e d v) σ') (fun v σ'=>Q (.panic v) e σ')
 | ⟨o, d, some (k, b)⟩ :: r, e, σ => match e k with
   | .bool t => (t = b -> o.run P (fm e (some k) (.bool b)) σ (fun v σ' => ff P Q r (fm (fm e (some k) (.bool b)) d v) σ') (fun v σ' => Q (.panic v) (fm e (some k) (.bool b)) σ')) /\
      (t = !b->ff P Q r (fm (fm e (some k) (.bool (!b))) d (.bU [])) σ)
   | .bU []=>ff P Q r (fm e d (.bU [])) σ
   | _=>False
inductive dy where
 | skip
 | region (ops:List cL)
 | draw (ops:List cL) (jK:List (AX × AX))
 | seq (a b:dy)
 | cond (c:AX) (thn els:dy)
 | block (id:Nat) (body:dy)
 | loop (body:dy)
 | exit (id:Nat)
 | ret
 | scope (l:Nat) (body rest:dy)
 | label (l:Nat)
 | goto (l:Nat)
 | iu (f:AX) (nt:Nat) (ps:List Nat) (ca cb:Code) (Zy body:dy)
 | stop
def dy.mH: dy->Bool
 | .seq a b=>a.mH || b.mH
 | .cond _ a b=>a.mH || b.mH
 | .block _ a=>a.mH
 | .loop a=>a.mH
 | .scope _ a _=>a.mH
 | .iu ..=>true
 | _=>false
def Bk(ac:dy)(B:Nat->Prop)(w:World): Prop:=ac.mH=true-> ∀ D,w.heap.size<=D->B D
def Bk.size{ac:dy}{B:Nat->Prop}{w w':World}(h:Bk ac B w)(hs:w.heap.size<=w'.heap.size): Bk ac B w':=fun hr D hD=>h hr D (cE hs hD)
def Bk.sub{ac ad:dy}{B:Nat->Prop}{w:World}(h:Bk ac B w)(hs:ad.mH=true->ac.mH=true): Bk ad B w:=fun hr=>h (hs hr)
def Bk.at(ac:dy)(w:World): Bk ac (fun D=>w.heap.size<=D) w:=fun _ _ h=>h
def sV(K:Env->ae->Prop)(Q:AQ): AQ
 | .normal,e,σ=>K e σ
 | x,e,σ=>Q x e σ
def sW(id:Nat)(Q:AQ): AQ
 | .exit i,e,σ=>if i=id then Q .normal e σ else Q (.exit i) e σ
 | x,e,σ=>Q x e σ
def pK: List (AX × AX)->Env->Prop
 | [],_=>True
 |(x,y)::r,e=>qU (x.ev e) (y.ev e)/\pK r e
def UX: AX × AX->Bool
 |(.c .lG,.c .lG)=>true
 | _=>false
def DS(jK:List (AX × AX)): Bool:=jK.any UX
def j4(jK:List (AX × AX))(Q:AQ): AQ
 | .normal,e,σ=>pK jK e/\Q .normal e σ
 | .panic v,e,σ=>if DS jK then ∀ e',Q (.panic v) e' σ else Q (.panic v) e σ
 | x,e,σ=>Q x e σ
def XJ{jK:List (AX × AX)}{Q:AQ}: ∀ {ex e σ},j4 jK Q ex e σ->Q ex e σ:=fun {ex e σ} h=>by
 cases ex<;>first|exact h.2|exact h|skip
 simp only[j4]at h;split at h
 ·exact h e
 ·exact h
def UY{jK:List (AX × AX)}{Q:AQ}(h:DS jK=true){v:AV}{e e':Env}{σ : ae}: j4 jK Q (.panic v) e σ->j4 jK Q (.panic v) e' σ:=by
 simp only[j4,h,if_true];exact id
def Zz(body:AQ->Env->ae->Prop)(Q:AQ)(e:Env)(σ : ae): Prop :=
 ∃(I:Nat->Env->ae->Prop),(∃ n,I n e σ)/\ ∀ n e σ,I n e σ->body (sV (fun e' σ'=> ∃ m,m<n/\I m e' σ') Q) e σ
def sX(l:Nat)(J:Env->ae->Prop)(Q:AQ): AQ
 | .goto l',e,σ=>l'=l/\J e σ
 | x,e,σ=>Q x e σ
def UZ(l:Nat)(body rest:AQ->Env->ae->Prop)(Q:AQ)(e:Env)(σ : ae): Prop :=
 ∃(J:Nat->Env->ae->Prop),body (sX l (fun e σ=> ∃ n,J n e σ) Q) e σ/\ ∀ n e σ,J n e σ->rest (sX l (fun e' σ'=> ∃ m,m<n/\J m e' σ') Q) e σ
def uj: List Nat->List AV->Env->Env
 | p::ps,a::az,e=>uj ps az (fm e (some p) a)
 | _,_,e=>e
def abQ(l:Nat)(o o':aZ)(B:Env->ae->Prop): AQ
 | .normal,e,σ=>σ[l]? = some o/\B e (σ.set l o')
 | _,_,_=>False
def abR(l:Nat)(o:LoopState->Option Code->aZ)(R:Out->ae->Prop): AQ
 | .normal,_,σ=>σ[l]? = some (o .busy none)/\R (.ret (.bool true)) (σ.set l (o .ready none))
 | .ret,_,σ=>σ[l]? = some (o .busy none)/\R (.ret (.bool false)) (σ.set l (o .done (some .ret)))
 | .exit i,_,σ=>σ[l]? = some (o .busy none)/\R (.ret (.bool false)) (σ.set l (o .done (some (.exit i))))
 | .goto i,_,σ=>σ[l]? = some (o .busy none)/\R (.ret (.bool false)) (σ.set l (o .done (some (.goto i))))
 | .panic _,_,_=>False
def afw(l:Nat)(o:LoopState->Option Code->aZ)(Q:AQ)(e:Env): Out->ae->Prop
 | .ret _, σ => ∃ st pe, σ[l]? = some (o st pe) /\ st ≠ .busy /\ match pe with
    | none=>Q .normal e (σ.set l .dead)
    | some .ret=>Q .ret e (σ.set l .dead)
    | some (.exit i)=>Q (.exit i) e (σ.set l .dead)
    | some (.goto i)=>Q (.goto i) e (σ.set l .dead)
    | _=>False
 | .panic v,σ=>Q (.panic v) e σ
def M6(P:Program)(nt:Nat)(ps:List Nat)(ca cb:Code)(f:AV)(Zy body:AQ->Env->ae->Prop)(Q:AQ)(e:Env)(σ : ae): Prop :=
 match f with
 | .fn (.func n) first cap => ∀ o : LoopState -> Option Code -> aZ, (∀ st pe, o st pe = .loop nt e ps.toArray ca cb st pe) ->
    (∀ σ' args R, σ'[σ.length]? = some (o .ready none) -> args.length = ps.length ->
      Zy (abQ σ.length (o .ready none) (o .busy none) (body (abR σ.length o R))) (uj ps args e) σ'->sM P σ.length args σ' R) ->
    cR P n (first++[.qS σ.length]++cap) (σ++[o .ready none]) (afw σ.length o Q e)
 | _=>False
def jm(P:Program): dy->AQ->Env->ae->Prop
 | .skip,Q,e,σ=>Q .normal e σ
 | .region ops,Q,e,σ=>ff P Q ops e σ
 | .draw ops jK,Q,e,σ=>ff P (j4 jK Q) ops e σ
 | .seq a b,Q,e,σ=>jm P a (sV (jm P b Q) Q) e σ
 | .cond c a b, Q, e, σ => match c.ev e with
   | .bool t=>(t=true->jm P a Q e σ)/\(t=false->jm P b Q e σ)
   | _=>False
 | .block id c,Q,e,σ=>jm P c (sW id Q) e σ
 | .loop c,Q,e,σ=>Zz (jm P c) Q e σ
 | .exit id,Q,e,σ=>Q (.exit id) e σ
 | .ret,Q,e,σ=>Q .ret e σ
 | .scope l c r,Q,e,σ=>UZ l (jm P c) (jm P r) Q e σ
 | .label _,Q,e,σ=>Q .normal e σ
 | .goto l,Q,e,σ=>Q (.goto l) e σ
 | .iu f nt ps ca cb Zy body,Q,e,σ=>M6 P nt ps ca cb (f.ev e) (jm P Zy) (jm P body) Q e σ
 | .stop,_,_,_=>False
structure Cb (B:Nat->Prop) (σ : ae) (g:aJ) (w:World) (ds:List Deferred):Prop where
 nodup:ds.Nodup
 mark:∀ d ∈ ds,∃ D,d = { target:= .collected D,args:= #[] }/\B D/\w.heap[D]? = some (.deferred (some []))/\¬ mh σ g D/\¬ g.fL D
def Cb.step{B:Nat->Prop}{σ σ':ae}{g g':aJ}{w w':World}{ds:List Deferred}(h:Cb B σ g w ds)(hev:fC σ g w σ' g' w'): Cb B σ' g' w' ds:=by
 refine⟨h.nodup,fun d hd=>?_⟩;obtain⟨D,h1,h2,h3,h4,h5⟩:=h.mark d hd;have hlt:D<w.heap.size:=(dz.1 h3).1;exact⟨D,h1,h2,(hev.frame D hlt h4).trans h3,fun ht=>h4 (hev.J6 D hlt ht),fun hi=>(hev.y7 D hlt hi).elim h5 h4⟩
def kC(X:List Deferred)(B:Nat->Prop)(σ : ae)(g:aJ)(w:World)(ds:List Deferred): Prop:= ∃ ms,ds=ms++X/\Cb B σ g w ms
def kC.nil(X:List Deferred)(B:Nat->Prop)(σ : ae)(g:aJ)(w:World): kC X B σ g w X:=⟨[],rfl,List.nodup_nil,fun _ h=>by cases h⟩
def kC.step{X:List Deferred}{B:Nat->Prop}{σ σ':ae}{g g':aJ}{w w':World}{ds:List Deferred}(h:kC X B σ g w ds)(hev:fC σ g w σ' g' w'): kC X B σ' g' w' ds :=
 let ⟨ms,h1,h2⟩:=h;⟨ms,h1,h2.step hev⟩
def QR(X:List Deferred)(nt:Nat)(B:Nat->Prop)(g:aJ)(w:World)(σ : ae)(Q:AQ)(ex:Exit)(a:Act)(w':World): Prop :=
 ∃ g' e' σ', kC X B σ' g' w' a.defers /\ Rel g' w' σ' /\ fY nt g' w' e' a.tmps /\ fC σ g w σ' g' w' /\
   match ex with
   | .normal=>Q .normal e' σ'
   | .exit id=>Q (.exit id) e' σ'
   | .goto l=>Q (.goto l) e' σ'
   | .ret=>Q .ret e' σ'
   | .panic chain=> ∃ v av,chain=[{ v,recovered:=false }]/\VR g' w' av v/\Q (.panic av) e' σ'
   | .outgrown=>False
section
variable {P:Program}
def Oper.M7 {F : Fence} {wn : Nat} {o : Oper} {a : Act} {w : World} {K K' : Act -> World -> Prop} {Q Q' : Exit -> Act -> World -> Prop} (h : ∀ a w, K a w -> K' a w) (hq : ∀ e a w, Q e a w -> Q' e a w)
    (hh:o.wpIn F wn P a w K Q):o.wpIn F wn P a w K' Q':=by
 unfold Oper.wpIn at *;refine⟨hh.1,?_⟩
 replace hh:=hh.2
 generalize (o.semAt F.round a.eval).run P w=r at *;cases r with
 | ok n w' =>
   cases n<;>simp only[Oper.uponIn]at hh ⊢ <;>
    first
     | exact h _ _ hh
     | exact ⟨hh.1, CallsIn.mono hh.2 (fun e w'' he => by
        cases e<;>first
         | exact h _ _ he
         | exact hq _ _ _ he
         |(obtain⟨a0,w0,he⟩:=he;exact⟨a0,w0,hq _ _ _ he⟩))⟩
     | exact ⟨hh.1, RoundIn.mono hh.2 (fun e w'' he => by
        cases e<;>first
         | exact h _ _ he
         | exact hq _ _ _ he
         |(obtain⟨a0,w0,he⟩:=he;exact⟨a0,w0,hq _ _ _ he⟩))⟩
     | exact⟨hh.1,RowsIn.mono hh.2 (fun _ _ he=>h _ _ he)⟩
 | halt x w' =>
   cases x<;>simp only[Oper.uponIn]at hh ⊢<;>first
    | exact hq _ _ _ hh
    | exact hh
def put_defers(a:Act)(d:Option Tmp)(v:Value): (a.put d v).defers=a.defers:=by cases d<;>rfl
def KG {nt : Nat} {g : aJ} {w : World} {e : Env} {a : Act} {ops : Array Oper} {o : Oper} {k : Nat} {j : Nat} {b : Bool} (hE : fY nt g w e a.tmps) (hg : o.guard = some (j, b)) (hd : (ops[j]?).bind (·.dst) = some k) (hk : k < nt) :
    (∀ t,e k = .bool t->Region.wanted o (yielded ops a.tmps)=(t==b))/\(e k = .bU []->Region.wanted o (yielded ops a.tmps)=false):=by
 have hv:=hE.rel k hk;have hlt:k<a.tmps.size:=by rw[hE.size];exact hk
 have nx:a.tmps[k]? = some (a.tmps.getD k Go.undef):=by simp[hlt]
 constructor
 ·intro t ht;rw[ht]at hv;generalize a.tmps.getD k Go.undef=v at hv nx;cases hv;simp only[Region.wanted,hg,yielded,hd,gW,nx];cases t<;>cases b<;>rfl
 ·intro ht;rw[ht]at hv;generalize a.tmps.getD k Go.undef=v at hv nx;cases hv;simp[Region.wanted,hg,yielded,hd,nx]
def fY.congr{nt:Nat}{g:aJ}{w:World}{e:Env}{tmps:Array Value}(h:fY nt g w e tmps){k:Nat}{x:AV}(hx:e k=x): fY nt g w (fm e (some k) x) tmps :=
 ⟨h.size, fun t ht => by
   simp only[fm];split
   ·rename_i e1;subst e1;subst hx;exact h.rel _ ht
   ·exact h.rel t ht⟩
def lQ(P:Program)(nt:Nat)(h:Hints)(dr:Bool)(all:Array Oper): List Oper->Option (List cL)
 | []=>some []
 | o :: r => match u7 P nt h dr o, lQ P nt h dr all r with
   | some ao, some gs => match o.guard with
     | none=>some (⟨ao,o.dst,none⟩::gs)
     | some (j, b) => match (all[j]?).bind (·.dst) with
       | some k=>if k<nt then some (⟨ao,o.dst,some (k,b)⟩::gs)else none
       | none=>none
   | _,_=>none
def U0 {X : List Deferred} {ro : Option Nat} {wn : Nat} {nt : Nat} {h : Hints} {dr : Bool} {ops : Array Oper} {B : Nat -> Prop} {Q : AQ} {g0 : aJ} {w0 : World} {r9 : ae} : ∀ (l : List Oper) (i : Nat) (gs : List cL) (g : aJ) (w : World) (σ : ae) (e : Env) (a : Act),
    lQ P nt h dr ops l=some gs->(∀ j,j<l.length->ops[i+j]? = l[j]?)->ff P Q gs e σ->Rel g w σ->fY nt g w e a.tmps->kC X B σ g w a.defers->fC r9 g0 w0 σ g w ->
    Go.wpOpsIn (WF ro) wn P ops (QR X nt B g0 w0 r9 Q) (List.range' i l.length) a w:=by
 intro l
 induction l with
 | nil =>
   intro i gs g w σ e a hc _ hw hR hE hd hev;cases hc;exact⟨g,e,σ,hd,hR,hE,hev,hw⟩
 | cons o l ih =>
   intro i gs g w σ e a hc hidx hw hR hE hd hev;have h0:ops[i]? = some o:=by simpa using hidx 0 (by simp)
   have ZA:∀ j,j<l.length->ops[i+1+j]? = l[j]?:=fun j hj=>by
    have:=hidx (j+1) (by simpa using hj);simpa[Nat.add_assoc,Nat.add_comm 1 j]using this
   simp only[lQ]at hc;split at hc
   ·rename_i ao gs' h1 h2
    have go:∀ (e1:Env),fY nt g w e1 a.tmps->ao.run P e1 σ (fun v σ'=>ff P Q gs' (fm e1 o.dst v) σ') (fun v σ'=>Q (.panic v) e1 σ') ->
     o.wpIn (WF ro) wn P a w (Go.wpOpsIn (WF ro) wn P ops (QR X nt B g0 w0 r9 Q) (List.range' (i+1) l.length)) (QR X nt B g0 w0 r9 Q):=fun e1 wZ hrun=>by
     refine Oper.M7 ?_ ?_ (M3 h1 hR wZ hrun)
     ·rintro a' w' ⟨v,g',av,σ',rfl,r1,r2,r3,r4⟩;exact ih (i+1) gs' g' w' σ' (fm e1 o.dst av) (a.put o.dst v) h2 ZA r4 r1 ((wZ.mono r2.mono).put o.dst r3) (by rw[put_defers];exact hd.step r2) (hev.trans r2)
     ·rintro ex a' w' ⟨rfl,v,g',av,σ',rfl,r1,r2,r3,r4⟩;exact⟨g',e1,σ',hd.step r2,r1,wZ.mono r2.mono,hev.trans r2,v,av,rfl,r3,r4⟩
    have pass:∀ (e1:Env),fY nt g w e1 a.tmps->ff P Q gs' (fm e1 o.dst (.bU [])) σ->Go.wpOpsIn (WF ro) wn P ops (QR X nt B g0 w0 r9 Q) (List.range' (i+1) l.length) (a.put o.dst Go.undef) w:=fun e1 wZ hrun =>
     ih (i+1) gs' g w σ (fm e1 o.dst (.bU [])) (a.put o.dst Go.undef) h2 ZA hrun hR (wZ.put o.dst (.bU [] #[] rfl (fun i hi=>absurd hi (cG _)))) (by rw[put_defers];exact hd) hev
    rw[List.length_cons,List.range'_succ,wpOpsIn_cons];unfold wpOpIn;simp only[h0];split at hc
    ·rename_i hg;cases hc;have Sz:Region.wanted o (yielded ops a.tmps)=true:=by simp[Region.wanted,hg]
     rw[if_pos Sz];exact go e hE hw
    ·rename_i j b hg;split at hc
     ·rename_i k hk;split at hc
      ·rename_i hlt;cases hc;obtain⟨w1,w2⟩:=KG (ops:=ops) hE hg hk hlt;simp only[ff]at hw;split at hw
       ·rename_i t ht;have hwn:=w1 t ht;by_cases htb:t=b
        ·subst htb;rw[hwn,if_pos (by simp)];exact go _ (hE.congr ht) (hw.1 rfl)
        ·have:t = !b:=by cases t<;>cases b<;>simp_all
         rw[hwn,if_neg (by simpa using htb)];refine⟨fun _ _=>trivial,pass _ (hE.congr ?_) (hw.2 this)⟩;rw[ht,this]
       ·rename_i ht;rw[w2 ht,if_neg (by simp)];exact⟨fun _ _=>trivial,pass e hE hw⟩
       ·exact hw.elim
      ·cases hc
     ·cases hc
   ·cases hc
end
