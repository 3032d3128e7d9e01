/- Part of a proof: see Root. -/
import Derived.Test.YtmbgnaoilncbnaaGreatDoorZ18
set_option linter.unnecessarySimpa false
set_option linter.unusedSimpArgs false
set_option linter.unusedVariables false
namespace Go.Proofs.YtmbgnaoilncbnaaGreatDoor
open Go.AM
set_option maxRecDepth 4000
def dU(T:List Tok)(r:RS)(k:Int)(s:aH): RS:=⟨r.x,kX T r.p r.bad k s,r.bad || !(cn T r.p r.bad k s)⟩
def mV(rd:Nat→Nat→RS)(lvl p:Nat)(b:Bool): RS:=if b then⟨x0,p,true⟩else rd lvl p
def v_(v:dy)(p:Nat): RS:=⟨.mk 1 v [] [],p,false⟩
def fE(rd:Nat→Nat→RS)(T:List Tok)(p:Nat): RS :=
 if dO T p 4 [40]then dU T (rd 0 (p+1)) 4 [41]
 else if(T.getD p default).kind=2 then v_ ⟨1,(T.getD p default).n,[]⟩ (p+1)
 else if(T.getD p default).kind=3 then v_ ⟨2,0,(T.getD p default).s⟩ (p+1)
 else if(T.getD p default).kind=1 then
  (match mJ (T.getD p default).s with
  | some v=>v_ v (p+1)
  | none=>if eK (T.getD p default).s then⟨.mk 2 v0 (T.getD p default).s [],p+1,false⟩else ⟨x0,p,true⟩)
 else⟨x0,p,true⟩
def thenS: aH:=[116,104,101,110]
def wF: aH:=[101,108,115,101]
def gA(rd:Nat→Nat→RS)(T:List Tok)(p:Nat): RS:=dU T (rd 0 p) 1 thenS
def n9(rd:Nat→Nat→RS)(T:List Tok)(p:Nat): RS:=dU T (mV rd 0 (gA rd T p).p (gA rd T p).bad) 1 wF
def xh(rd:Nat→Nat→RS)(T:List Tok)(p:Nat): RS:=mV rd 0 (n9 rd T p).p (n9 rd T p).bad
def Bx(rd:Nat→Nat→RS)(T:List Tok)(p:Nat): RS:=⟨.mk 16 v0 [] [(gA rd T p).x,(n9 rd T p).x,(xh rd T p).x],(xh rd T p).p,(xh rd T p).bad⟩
def bh(T:List Tok): Nat→Option Expr→Nat→Nat→RS
 | 0,_,_,p=>⟨x0,p,true⟩
 | f + 1, none, lvl, p =>
   if lvl=0 then(if dO T p 1 [105,102]then Bx (fun l q=>bh T f none l q) T (p+1)else bh T f none 1 p)
   else if lvl=6∧dO T p 4 [45]=true then⟨.mk 3 v0 [] [(bh T f none 6 (p+1)).x],(bh T f none 6 (p+1)).p,(bh T f none 6 (p+1)).bad⟩
   else if 6≤lvl then fE (fun l q=>bh T f none l q) T p
   else if(bh T f none (lvl+1) p).bad then bh T f none (lvl+1) p
   else bh T f (some (bh T f none (lvl+1) p).x) lvl (bh T f none (lvl+1) p).p
 | f + 1, some x, lvl, p =>
   match nu T p false lvl with
   | none=>⟨x,p,false⟩
   | some o =>
     if lvl=3∨(bh T f none (lvl+1) (p+1)).bad=true then⟨.mk o.op v0 [] [x,(bh T f none (lvl+1) (p+1)).x],(bh T f none (lvl+1) (p+1)).p,(bh T f none (lvl+1) (p+1)).bad⟩
     else bh T f (some (.mk o.op v0 [] [x,(bh T f none (lvl+1) (p+1)).x])) lvl (bh T f none (lvl+1) (p+1)).p
theorem iJ{T:List Tok}{p:Nat}{k:Int}{s:aH}(h:dO T p k s=true): p<T.length:=by
 simp only[dO,Bool.and_eq_true,decide_eq_true_eq]at h;exact h.1
theorem iK{T:List Tok}{p:Nat}{b:Bool}{k:Int}{s:aH}(h:cn T p b k s=true): p<T.length∧b=false:=by
 simp only[cn,Bool.and_eq_true,Bool.not_eq_true']at h;exact⟨iJ h.2,h.1⟩
theorem Dc{T:List Tok}{p:Nat}{b:Bool}{lvl:Int}{o:yu}(h:nu T p b lvl=some o): p<T.length∧b=false∧o ∈ dL∧o.level=lvl:=by
 have h1:=List.find?_some h
 simp only[Bool.and_eq_true,beq_iff_eq]at h1
 exact⟨(iK h1.2).1,(iK h1.2).2,List.mem_of_find?_eq_some h,h1.1⟩
def gh(n p:Nat)(r:RS): Prop:=p≤r.p∧r.p≤n∧(r.bad=false→p<r.p)
theorem xj{T:List Tok}{p:Nat}{r:RS}(k:Int)(s:aH)(h:gh T.length p r): gh T.length p (dU T r k s):=by
 obtain⟨h1,h2,h3⟩:=h
 unfold dU gh kX
 dsimp only
 by_cases ho:cn T r.p r.bad k s=true
 ·have:=iK ho
  have h4:=h3 this.2
  rw[if_pos ho];refine⟨by omega,by omega,fun _=>by omega⟩
 ·rw[if_neg ho]
  refine⟨h1,h2,fun h=>?_⟩
  simp only[Bool.not_eq_true]at ho
  rw[ho]at h;simp at h
theorem Eg{T:List Tok}{rd:Nat→Nat→RS}(hrd:∀ l q,q≤T.length→gh T.length q (rd l q)){l q:Nat}{b:Bool}(hq:q≤T.length): gh T.length q (mV rd l q b):=by
 unfold mV
 split
 ·exact⟨Nat.le_refl _,hq,fun h=>by cases h⟩
 ·exact hrd l q hq
theorem gh.from{n p q:Nat}{r:RS}(h:gh n q r)(hpq:p≤q): gh n p r:=⟨Nat.le_trans hpq h.1,h.2.1,fun hb=>Nat.lt_of_le_of_lt hpq (h.2.2 hb)⟩
theorem Az{T:List Tok}{rd:Nat→Nat→RS}(hrd:∀ l q,q≤T.length→gh T.length q (rd l q)){p:Nat}(hp:p≤T.length): gh T.length p (gA rd T p):=xj _ _ (hrd 0 p hp)
theorem AA{T:List Tok}{rd:Nat→Nat→RS}(hrd:∀ l q,q≤T.length→gh T.length q (rd l q)){p:Nat}(hp:p≤T.length): gh T.length (gA rd T p).p (n9 rd T p):=xj _ _ (Eg hrd (Az hrd hp).2.1)
theorem Zd{T:List Tok}{rd:Nat→Nat→RS}(hrd:∀ l q,q≤T.length→gh T.length q (rd l q)){p:Nat}(hp:p≤T.length): gh T.length (n9 rd T p).p (xh rd T p):=Eg hrd (AA hrd hp).2.1
theorem XE{T:List Tok}{rd:Nat→Nat→RS}(hrd:∀ l q,q≤T.length→gh T.length q (rd l q)){p:Nat}(hp:p≤T.length): gh T.length p (fE rd T p):=by
 have stay:∀ x,gh T.length p ⟨x,p,true⟩:=fun x=>⟨Nat.le_refl _,hp,fun h=>by cases h⟩
 have k0:¬ p<T.length→(T.getD p default).kind=0:=fun h=>by rw[nM (by omega)];rfl
 have step:(T.getD p default).kind≠0→ ∀ x,gh T.length p ⟨x,p+1,false⟩:=fun hk x=>by
  have:p<T.length:=by
   by_cases h:p<T.length
   ·exact h
   ·exact absurd (k0 h) hk
  exact⟨Nat.le_succ _,this,fun _=>Nat.lt_succ_self _⟩
 unfold fE
 split
 ·rename_i h
  exact xj _ _ ((hrd 0 (p+1) (iJ h)).from (Nat.le_succ _))
 ·split
  ·exact step (by omega) _
  ·split
   ·exact step (by omega) _
   ·split
    ·split
     ·exact step (by omega) _
     ·split
      ·exact step (by omega) _
      ·exact stay _
    ·exact stay _
theorem mW(T:List Tok)(f:Nat): ∀(m:Option Expr) (lvl p:Nat),p≤T.length→(m=none→gh T.length p (bh T f m lvl p))∧p≤(bh T f m lvl p).p∧(bh T f m lvl p).p≤T.length:=by
 induction f with
 | zero =>
   intro m lvl p hp
   simp only[bh]
   exact⟨fun _=>⟨Nat.le_refl _,hp,fun h=>by cases h⟩,Nat.le_refl _,hp⟩
 | succ f ih =>
   intro m lvl p hp
   have hrd:∀ l q,q≤T.length→gh T.length q (bh T f none l q):=fun l q hq=>(ih none l q hq).1 rfl
   cases m with
   | none =>
     have:gh T.length p (bh T (f+1) none lvl p):=by
      simp only[bh]
      split
      ·split
       ·rename_i h
        have h1:=iJ h
        have a:=Az hrd (p:=p+1) h1
        have b:=AA hrd (p:=p+1) h1
        have c:=Zd hrd (p:=p+1) h1
        exact(show gh T.length (n9 (fun l q=>bh T f none l q) T (p+1)).p (Bx (fun l q=>bh T f none l q) T (p+1)) from⟨c.1,c.2.1,c.2.2⟩).from (Nat.le_trans (Nat.le_succ _) (Nat.le_trans a.1 b.1))
       ·exact hrd 1 p hp
      ·split
       ·rename_i h
        have h1:=iJ h.2
        have c:=hrd 6 (p+1) h1
        exact(show gh T.length (p+1) ⟨_,_,_⟩ from⟨c.1,c.2.1,c.2.2⟩).from (Nat.le_succ _)
       ·split
        ·exact XE hrd hp
        ·split
         ·exact hrd _ _ hp
         ·rename_i hb
          have a:=hrd (lvl+1) p hp
          have b:=ih (some (bh T f none (lvl+1) p).x) lvl _ a.2.1
          have:=a.2.2 (by simpa using hb)
          exact⟨by omega,b.2.2,fun _=>by omega⟩
     exact⟨fun _=>this,this.1,this.2.1⟩
   | some x =>
     refine⟨fun h=>(by cases h),?_⟩
     simp only[bh]
     split
     ·exact⟨Nat.le_refl _,hp⟩
     ·rename_i o ho
      have h1:=(Dc ho).1
      have a:=hrd (lvl+1) (p+1) h1
      split
      ·exact⟨by have:=a.1;dsimp only;omega,a.2.1⟩
      ·have b:=ih (some (.mk o.op v0 [] [x,(bh T f none (lvl+1) (p+1)).x])) lvl _ a.2.1
       exact⟨by have:=a.1;omega,b.2.2⟩
theorem fW{σ : ai}{op vk vn:Int}{vs s:aH}{L:AV}{l:List Expr}(hL:View σ L (.aG false EX (l.map aJ))): View σ (.agg [I op,I vk,I vn,.str vs,.str s,L]) (aJ (.mk op ⟨vk,vn,vs⟩ s l)):=by
 rw[aN]
 refine View.mq (.cons (.refl _ rfl) (.cons (.refl _ rfl) (.cons (.refl _ rfl) (.cons (.refl _ rfl) (.cons (.refl _ rfl) (.cons ?_ (.nil _)))))))
 exact hL
def mX(T:List Tok)(n:FuncId)(rd:Nat→Nat→RS)(l q:Nat): Prop:=aV Tryz.prog n 0 [I l] (bn T q false) (bn T (rd l q).p (rd l q).bad) (aJ (rd l q).x)
theorem pX(T:List Tok)(p:Nat)(k:Int)(s:aH)(o:Bool)(hk:k≠0)(hp:p≤2 ^ 61)(h:dO T p k s=o): aV Tryz.prog fo 0 [I k,.str s] (bn T p false) (bn T (if o then p+1 else p) false) (.bool o):=by
 have:=Hz T p false k s hk hp
 unfold kX at this
 rw[show cn T p false k s=o from h]at this
 cases o
 ·simpa using this
 ·simpa using this
theorem TE(T:List Tok)(p:Nat)(rd:Nat→Nat→RS)(hp:p≤T.length)(hT:T.length≤2 ^ 60)(hs:∀ q,(T.getD q default).s.length≤2 ^ 62)
 (hrd:dO T p 4 [40]=true→mX T bO rd 0 (p+1)∧(rd 0 (p+1)).p≤T.length) :
 aV Tryz.prog nK 0 [] (bn T p false) (bn T (fE rd T p).p (fE rd T p).bad) (aJ (fE rd T p).x):=by
 have nj:=fun o (ho:dO T p 4 [40]=o)=>pX T p 4 [40] o (by decide) (by omega) ho
 have L_:=L9 T p false
 have hsp:=hs p
 simp only[Hx,Bool.false_eq_true,if_false]at L_
 by_cases uF:dO T p 4 [40]=true
 ·have ha:fE rd T p=dU T (rd 0 (p+1)) 4 [41]:=by unfold fE;rw[if_pos uF]
  obtain⟨hr,hb⟩:=hrd uF
  unfold mX at hr
  rw[ha]
  have nj:=nj true uF
  generalize rd 0 (p+1)=r at *
  have hm:=Cf T r.p r.bad 4 [41] (by decide) (by omega)
  rw[aN]at hr
  simp only[bn,if_true]at nj hr hm
  generalize hE:aJ _=E
  refine aV.bH (eZ (by simp) ?_) rfl (aO _ _ _)
  unfold ew aM
  intro Q aC aD aE
  repeat' first|refine aB ?_|refine aS nj ?_|refine aS hr ?_|refine aS hm ?_|refine aA (fun hw=>?_) (fun hw=>?_)<;>try omega|fail
  exact bE (View.eqv (by rw[← hE];exact(aN _).symm) (by rw[← hE];exact cD _)) (aQ.refl (aO _ _ _))
 have QD:dO T p 4 [40]=false:=by simpa using uF
 have nj:=nj false QD
 simp only[bn,Bool.false_eq_true,if_false]at nj L_
 have ha:fE rd T p=(if(T.getD p default).kind=2 then v_ ⟨1,(T.getD p default).n,[]⟩ (p+1)
 else if(T.getD p default).kind=3 then v_ ⟨2,0,(T.getD p default).s⟩ (p+1)
 else if(T.getD p default).kind=1 then
  (match mJ (T.getD p default).s with
  | some v=>v_ v (p+1)
  | none=>if eK (T.getD p default).s then⟨.mk 2 v0 (T.getD p default).s [],p+1,false⟩else ⟨x0,p,true⟩)
 else⟨x0,p,true⟩:RS):=by unfold fE;rw[if_neg uF]<;>rfl
 rw[ha]
 clear ha hrd hs uF QD
 generalize T.getD p default=t at *
 obtain⟨tk,ts,tn,tp⟩:=t
 simp only[j3]at L_ hsp ⊢
 have hname:=Ea ts hsp
 have hword:=RO ts
 by_cases h2:tk=2
 ·rw[if_pos h2]
  generalize hE:aJ _=E
  refine aV.bH (eZ (by simp) ?_) rfl (aO _ _ _)
  unfold ew aM
  intro Q aC aD aE
  repeat' first|refine aB ?_|refine aS nj ?_|refine aS L_ ?_|refine aA (fun hw=>?_) (fun hw=>?_)<;>try omega|fail
  exact bE (by rw[← hE];exact fW (.ae _)) (aQ.eqv rfl (aO T (p+1) false))
 rw[if_neg h2]
 by_cases h3:tk=3
 ·rw[if_pos h3]
  generalize hE:aJ _=E
  refine aV.bH (eZ (by simp) ?_) rfl (aO _ _ _)
  unfold ew aM
  intro Q aC aD aE
  repeat' first|refine aB ?_|refine aS nj ?_|refine aS L_ ?_|refine aA (fun hw=>?_) (fun hw=>?_)<;>try omega|fail
  exact bE (by rw[← hE];exact fW (.ae _)) (aQ.eqv rfl (aO T (p+1) false))
 rw[if_neg h3]
 by_cases h1:tk=1
 case neg =>
  rw[if_neg h1]
  generalize hE:aJ _=E
  refine aV.bH (eZ (by simp) ?_) rfl (aO _ _ _)
  unfold ew aM
  intro Q aC aD aE
  repeat' first|refine aB ?_|refine aS nj ?_|refine aS L_ ?_|refine aA (fun hw=>?_) (fun hw=>?_)<;>try omega|fail
  exact bE (by rw[← hE];exact fW (.ae _)) (aQ.eqv rfl (aO T p true))
 rw[if_pos h1]
 cases hw:mJ ts with
 | some v =>
   rw[hw]at hword
   simp only[Option.getD_some,Option.isSome_some,gO]at hword
   dsimp only
   generalize hE:aJ _=E
   refine aV.bH (eZ (by simp) ?_) rfl (aO _ _ _)
   unfold ew aM
   intro Q aC aD aE
   repeat' first|refine aB ?_|refine aS nj ?_|refine aS L_ ?_|refine aF hword ?_|refine aF hname ?_|refine aA (fun hw=>?_) (fun hw=>?_)<;>try omega|fail
   exact bE (by rw[← hE];exact fW (.ae _)) (aQ.eqv rfl (aO T (p+1) false))
 | none =>
   rw[hw]at hword
   simp only[Option.getD_none,Option.isSome_none,gO,v0]at hword
   dsimp only
   cases hn:eK ts with
   | true =>
     rw[hn]at hname
     simp only[if_true]
     generalize hE:aJ _=E
     refine aV.bH (eZ (by simp) ?_) rfl (aO _ _ _)
     unfold ew aM
     intro Q aC aD aE
     repeat' first|refine aB ?_|refine aS nj ?_|refine aS L_ ?_|refine aF hword ?_|refine aF hname ?_|refine aA (fun hw=>?_) (fun hw=>?_)<;>try omega|fail
     exact bE (by rw[← hE];exact fW (.ae _)) (aQ.eqv rfl (aO T (p+1) false))
   | false =>
     rw[hn]at hname
     simp only[Bool.false_eq_true,if_false]
     generalize hE:aJ _=E
     refine aV.bH (eZ (by simp) ?_) rfl (aO _ _ _)
     unfold ew aM
     intro Q aC aD aE
     repeat' first|refine aB ?_|refine aS nj ?_|refine aS L_ ?_|refine aF hword ?_|refine aF hname ?_|refine aA (fun hw=>?_) (fun hw=>?_)<;>try omega|fail
     exact bE (by rw[← hE];exact fW (.ae _)) (aQ.eqv rfl (aO T p true))
theorem Eh{T:List Tok}{n:FuncId}{rd:Nat→Nat→RS}{l q:Nat}{b:Bool}(h:b=false→mX T n rd l q)(VT:aV Tryz.prog n 0 [I l] (bn T q true) (bn T q true) (aJ x0)):
 aV Tryz.prog n 0 [I l] (bn T q b) (bn T (mV rd l q b).p (mV rd l q b).bad) (aJ (mV rd l q b).x):=by
 cases b with
 | true=>exact VT
 | false=>exact h rfl
theorem Qo(T:List Tok)(p:Nat)(rd:Nat→Nat→RS)(hp:p≤T.length)(hT:T.length≤2 ^ 60)(hgo:∀ l q,q≤T.length→gh T.length q (rd l q))
 (VT:∀ q,aV Tryz.prog bO 0 [I 0] (bn T q true) (bn T q true) (aJ x0)) (hrd:∀ q,p≤q→q≤T.length→mX T bO rd 0 q) :
 aV Tryz.prog mu 0 [] (bn T p false) (bn T (Bx rd T p).p (Bx rd T p).bad) (aJ (Bx rd T p).x):=by
 have ga:=Az hgo hp
 have gb:=AA hgo hp
 have g0:=hgo 0 p hp
 have g1:=Eg hgo (l:=0) (b:=(gA rd T p).bad) ga.2.1
 have c1:=hrd p (Nat.le_refl _) hp
 have m1:=Cf T (rd 0 p).p (rd 0 p).bad 1 thenS (by decide) (by have:=g0.2.1;omega)
 have c2:=Eh (l:=0) (q:=(gA rd T p).p) (b:=(gA rd T p).bad) (fun _=>hrd _ ga.1 ga.2.1) (VT _)
 have m2:=Cf T (mV rd 0 (gA rd T p).p (gA rd T p).bad).p (mV rd 0 (gA rd T p).p (gA rd T p).bad).bad 1 wF (by decide) (by have:=g1.2.1;omega)
 have c3:=Eh (l:=0) (q:=(n9 rd T p).p) (b:=(n9 rd T p).bad) (fun _=>hrd _ (Nat.le_trans ga.1 gb.1) gb.2.1) (VT _)
 change aV _ _ _ _ _ (bn T (gA rd T p).p (gA rd T p).bad) _ at m1
 change aV _ _ _ _ _ (bn T (n9 rd T p).p (n9 rd T p).bad) _ at m2
 change aV _ _ _ _ _ (bn T (xh rd T p).p (xh rd T p).bad) (aJ (xh rd T p).x)at c3
 unfold mX at c1
 simp only[Bx]
 have xa:(gA rd T p).x=(rd 0 p).x:=rfl
 have xb:(n9 rd T p).x=(mV rd 0 (gA rd T p).p (gA rd T p).bad).x:=rfl
 rw[xa,xb]
 generalize mV rd 0 (gA rd T p).p (gA rd T p).bad=rb at *
 generalize gA rd T p=ra at *
 generalize n9 rd T p=rb2 at *
 generalize xh rd T p=rc at *
 generalize rd 0 p=r1 at *
 rw[aN]at c1 c2 c3
 simp only[bn,thenS,wF]at c1 m1 c2 m2 c3
 generalize hE:aJ _=E
 refine aV.bH (AY (by simp) ?_) rfl (aO _ _ _)
 unfold rL aM
 intro Q aC aD aE
 repeat' first|refine aB ?_|refine aS c1 ?_|refine aS m1 ?_|refine aS c2 ?_|refine aS m2 ?_|refine aS c3 ?_|refine aA (fun hw=>?_) (fun hw=>?_)<;>try omega|fail
 refine bE ?_ (aQ.refl (aO _ _ _))
 rw[← hE]
 refine fW ?_
 rw[List.map_cons,List.map_cons,List.map_cons,List.map_nil,aN,aN,aN]
 refine View.weak _ _ _ ?_
 simp
@[go_sem ↓] theorem ad3 (l:Nat) (J:Env→ai→Prop) (Q:AQ) (e:Env) (σ : ai):qx l J Q (.goto l) e σ = J e σ:=by simp[qx]
theorem N2{e':Env}: ∀(l:List (Nat × AV)),At l e'→tN l e'=e'
 | [],_=>rfl
 | (d, v) :: l, h => by
   simp only[tN]
   rw[N2 l (fun p hp=>h p (List.mem_cons_of_mem _ hp))]
   exact vB (h (d,v) (by simp))
theorem aaR{P:Program}{l:Nat}{c r:aI}{Q:AQ}{e:Env}{σ : ai}{α : Type}(cs : α→List (Nat × AV))(S : α→ai)(A : α→Prop)(μ : α→Nat)
 (hb:fH P c (qx l (fun e' σ'=> ∃ x,A x∧σ'=S x∧At (cs x) e') Q) e σ)
 (hr:∀ x r0,A x→fH P r (qx l (fun e' σ'=> ∃ x',A x'∧ μ x' < μ x∧σ'=S x'∧At (cs x') e') Q) (tN (cs x) r0) (S x)):Rj P (.mk:Tg (l,c,r,Q,e,σ)):=by
 refine⟨fun n e' σ'=> ∃ x,A x∧At (cs x) e'∧σ'=S x∧ μ x=n,DR (fun ex e2 σ2 hq=>?_) _ _ hb,?_⟩
 ·cases ex<;>try exact hq
  obtain⟨h1,x,a,hs,ht⟩:=hq
  exact⟨h1,_,x,a,ht,hs,rfl⟩
 ·rintro n e' σ' ⟨x1,a1,t1,rfl,rfl⟩
  have h:=hr x1 e' a1
  rw[N2 _ t1]at h
  refine DR (fun ex e2 σ2 hq=>?_) _ _ h
  cases ex<;>try exact hq
  obtain⟨h1,x',a',hm,hs,ht⟩:=hq
  exact⟨h1,_,hm,x',a',ht,hs,rfl⟩
def pY(op:Int)(zs:List AV): List AV:=[I op,I 0,I 0,.str [],.str [],.aG true EX zs]
theorem By{σ : ai}{op:Int}{zs:List AV}{l:List Expr}(h:aQ [] zs (l.map aJ)): View σ (.agg (pY op zs)) (aJ (.mk op v0 [] l)) :=
 View.mono (σ:=[]) (fun _ _ h=>by simp at h) (fW (View.abQ h))
theorem HD{a b:AV}{x y:Expr}(h:View [] a (aJ x))(h2:View [] b (aJ y)): aQ [] [a,b] ([x,y].map aJ):= .cons h (.cons h2 (.nil _))
theorem VU{op:Int}{zs:List AV}(h:AV.bW zs=true): AV.bW (pY op zs)=true:=by simp[pY,AV.cF,AV.bW,h]
structure Lp where
 op:Int
 l:List Expr
 zs:List AV
 p:Nat
 f:Nat
theorem Ma(T:List Tok)(lvl:Int)(p:Nat): aV Tryz.prog bO 0 [I lvl] (bn T p true) (bn T p true) (aJ x0):=by
 generalize hE:aJ x0=E
 refine aV.bH (dF (by simp) ?_) rfl (aO _ _ _)
 unfold dm aM
 intro Q aC aD aE
 repeat' first|refine aB ?_|refine aA (fun hw=>?_) (fun hw=>?_)<;>try omega|fail
 exact bE (by rw[← hE];exact fW (.ae _)) (aQ.refl (aO T p true))
theorem N3(T:List Tok)(hT:T.length≤2 ^ 60)(rd:Nat→Nat→RS)(f lvl p:Nat)(h1:1≤lvl)(h5:lvl≤5)(hp:p≤T.length)(hf:8*(T.length-p)+(8-lvl)≤f)(hrd:rd=fun l q=>bh T f none l q)
 (ih:∀ j,j≤f→ ∀ l q,l≤7→q≤T.length→8*(T.length-q)+(8-l)<j→mX T bO (fun l q=>bh T j none l q) l q) :
 aV Tryz.prog bO 0 [I lvl] (bn T p false) (bn T (bh T (f+1) none lvl p).p (bh T (f+1) none lvl p).bad) (aJ (bh T (f+1) none lvl p).x):=by
 have ga:=(mW T f none (lvl+1) p hp).1 rfl
 have ca:=ih f (Nat.le_refl _) (lvl+1) p (by omega) hp (by omega)
 simp only[mX]at ca
 obtain⟨ga1,ga2,ga3⟩:=ga
 have hR:bh T (f+1) none lvl p=if(bh T f none (lvl+1) p).bad then bh T f none (lvl+1) p else bh T f (some (bh T f none (lvl+1) p).x) lvl (bh T f none (lvl+1) p).p:=by
  rw[bh]
  rw[if_neg (by omega),if_neg (by omega),if_neg (by omega)]
 generalize bh T (f+1) none lvl p=R at *
 generalize bh T f none (lvl+1) p=a at *
 obtain⟨ax,ap,ab⟩:=a
 dsimp only at *
 have cb:=FE T ap ab lvl (by omega)
 rw[aN]at ca
 cases ab with
 | true =>
   simp only[if_true]at hR
   subst hR
   dsimp only
   have hn:nu T ap true lvl=none:=by
    cases ho:nu T ap true lvl with
    | none=>rfl
    | some o=>have:=(Dc ho).2.1;cases this
   simp only[O4,hn,Hy,Option.isSome_none,Bool.false_eq_true,if_false]at cb
   generalize hE:aJ ax=E
   simp only[bn,Int.natCast_add,Int.cast_ofNat_Int]at ca cb
   refine aV.bH (dF (by simp) ?_) rfl (aO _ _ _)
   unfold dm aM
   intro Q aC aD aE
   repeat' first|simp (disch:=omega) only[go_sem,aC,aD,aE,aj,au,ak,Nat.reduceAdd,Nat.reduceBEq,↓reduceIte,Int.natCast_add,Int.cast_ofNat_Int]|refine aB ?_|refine aS ca ?_|refine aS cb ?_|refine aA (fun hw=>?_) (fun hw=>?_)<;>try omega|fail
   exact bE (by rw[← hE];exact View.eqv (aN _).symm (cD _)) (aQ.refl (aO _ _ _))
 | false =>
   simp only[Bool.false_eq_true,if_false]at hR
   have gp:=ga3 rfl
   obtain⟨f,rfl⟩:∃ f',f=f'+1:=⟨f-1,by omega⟩
   rw[bh]at hR
   have e0:∀ σ : ai,View σ (.agg [I ax.op,I ax.v.kind,I ax.v.n,.str ax.v.s,.str ax.s,.aG false EX (ax.l.map aJ)]) (aJ ax):=fun σ=>View.eqv (aN _).symm (cD _)
   cases ho:nu T ap false lvl with
   | none =>
     rw[ho]at hR
     dsimp only at hR
     subst hR
     dsimp only
     simp only[O4,ho,Hy,Option.isSome_none,Bool.false_eq_true,if_false]at cb
     generalize hE:aJ ax=E at *
     simp only[bn,Int.natCast_add,Int.cast_ofNat_Int]at ca cb
     refine aV.bH (dF (by simp) ?_) rfl (aO _ _ _)
     unfold dm aM
     intro Q aC aD aE
     repeat' first|simp (disch:=omega) only[go_sem,aC,aD,aE,aj,au,ak,Nat.reduceAdd,Nat.reduceBEq,↓reduceIte,Int.natCast_add,Int.cast_ofNat_Int]|refine aB ?_|refine aS ca ?_|refine aS cb ?_|refine aA (fun hw=>?_) (fun hw=>?_)<;>try omega|fail
     exact bE (e0 _) (aQ.refl (aO _ _ _))
   | some o =>
     rw[ho]at hR
     dsimp only at hR
     obtain⟨FF,_,Bz,HE⟩:=Dc ho
     have hop:o.op≠0:=by
      intro h
      simp only[dL,List.mem_cons,List.not_mem_nil,or_false]at Bz
      rcases Bz with rfl|rfl|rfl|rfl|rfl|rfl|rfl|rfl|rfl|rfl|rfl|rfl<;>simp at h
     have cc:=ih f (by omega) (lvl+1) (ap+1) (by omega) (by omega) (by omega)
     have gc:=(mW T f none (lvl+1) (ap+1) (by omega)).1 rfl
     obtain⟨gc1,gc2,gc3⟩:=gc
     simp only[mX]at cc
     simp only[O4,ho,Hy,Option.isSome_some,if_true]at cb
     generalize bh T f none (lvl+1) (ap+1)=c at *
     obtain⟨cx,cp,VV⟩:=c
     dsimp only at *
     by_cases hend:lvl=3∨VV=true
     ·rw[if_pos hend]at hR
      subst hR
      dsimp only
      have e1:∀ σ : ai,View σ (.agg (pY o.op [.agg [I ax.op,I ax.v.kind,I ax.v.n,.str ax.v.s,.str ax.s,.aG false EX (ax.l.map aJ)],aJ cx])) (aJ (.mk o.op v0 [] [ax,cx])):=fun σ=>By (HD (e0 _) (.refl _ (cD _)))
      rw[aN cx]at e1 cc
      generalize hE:aJ (.mk o.op v0 [] [ax,cx])=E at *
      simp only[bn,Int.natCast_add,Int.cast_ofNat_Int]at ca cb cc
      have h3:¬ (¬ lvl=3∧VV=false):=by rcases hend with h|h<;>simp[h]
      refine aV.bH (dF (by simp) ?_) rfl (aO _ _ _)
      unfold dm aM
      intro Q aC aD aE
      rcases hend with hend|hend
      ·subst hend
       repeat' first|simp (disch:=omega) only[go_sem,aC,aD,aE,aj,au,ak,Nat.reduceAdd,Nat.reduceBEq,↓reduceIte,Int.natCast_add,Int.cast_ofNat_Int]|refine aB ?_|refine aS ca ?_|refine aS cb ?_|refine aS cc ?_|refine aA (fun hw=>?_) (fun hw=>?_)<;>try omega|fail
       all_goals first|exact bE (e1 _) (aQ.refl (aO _ _ _))|(exfalso;omega)
      ·subst hend
       repeat' first|simp (disch:=omega) only[go_sem,aC,aD,aE,aj,au,ak,Nat.reduceAdd,Nat.reduceBEq,↓reduceIte,Int.natCast_add,Int.cast_ofNat_Int]|refine aB ?_|refine aS ca ?_|refine aS cb ?_|refine aS cc ?_|refine aA (fun hw=>?_) (fun hw=>?_)<;>try omega|fail
       all_goals first|exact bE (e1 _) (aQ.refl (aO _ _ _))|(exfalso;omega)
     ·rw[if_neg hend]at hR
      have O5:lvl≠3:=fun h=>hend (.inl h)
      have hcb:VV=false:=by cases VV with
       | false=>rfl
       | true=>exact absurd (.inr rfl) hend
      subst hcb
      have e2:=e0 []
      rw[aN cx]at cc
      simp only[bn,Int.natCast_add,Int.cast_ofNat_Int]at ca cb cc
      have gq:=gc3 rfl
      refine aV.bH (dF (by simp) ?_) rfl (aO _ _ _)
      unfold dm aM
      intro Q aC aD aE
      repeat' first|refine gn_ ?_|refine aA (fun hw=>?_) (fun hw=>?_)<;>try omega|fail
      with_reducible refine aaR (fun x:Lp=>[(0,.ref 0 0),(1,I lvl),(4,.ref 1 0),(5,.ref 2 0)]) (fun x=>[.cells [.aG false ET (T.map j3),I x.p,.bool false],.cells [I 0,I 0,I 0,.str [],.str [],.ae],.cells [I x.op,I 0,I 0,.str [],.str [],.aG true EX x.zs]]) (fun x=>(aQ [] x.zs (x.l.map aJ)∧AV.bW x.zs=true)∧x.p≤T.length∧8*(T.length-x.p)+8≤x.f∧x.f≤f∧R=bh T x.f (some (.mk x.op v0 [] x.l)) lvl x.p) (fun x=>x.f) ?_ ?_
      ·repeat' first|simp (disch:=omega) only[go_sem,aC,aD,aE,aj,au,ak,Nat.reduceAdd,Nat.reduceBEq,↓reduceIte,Int.natCast_add,Int.cast_ofNat_Int]|refine aB ?_|refine aS ca ?_|refine aS cb ?_|refine aS cc ?_|refine aA (fun hw=>?_) (fun hw=>?_)<;>try omega|fail
       refine⟨⟨o.op,[ax,cx],[.agg [I ax.op,I ax.v.kind,I ax.v.n,.str ax.v.s,.str ax.s,.aG false EX (ax.l.map aJ)],aJ cx],cp,f⟩,⟨⟨HD e2 (.refl _ (cD _)),by simp⟩,gc2,by dsimp only;omega,Nat.le_refl _,hR⟩,?_,at_⟩
       rw[aN cx]
      ·clear ca cb cc
       rintro⟨Dd,xl,xz,xp,xf⟩ r0 ⟨⟨a1,a2⟩,a3,a4,a5,a6⟩
       dsimp only at a1 a2 a3 a4 a5 a6
       obtain⟨j,rfl⟩:∃ j,xf=j+1:=⟨xf-1,by omega⟩
       have cb:=FE T xp false lvl (by omega)
       rw[bh]at a6
       clear hR
       cases hq:nu T xp false lvl with
       | none =>
         rw[hq]at a6
         dsimp only at a6
         subst a6
         dsimp only at aC aD aE
         simp only[O4,hq,Hy,Option.isSome_none,Bool.false_eq_true,if_false,bn,Int.natCast_add,Int.cast_ofNat_Int]at cb
         have ev:∀ σ : ai,View σ (.agg (pY Dd xz)) (aJ (.mk Dd v0 [] xl)):=fun σ=>By a1
         generalize hE:aJ (.mk Dd v0 [] xl)=E at *
         repeat' first|simp (disch:=omega) only[go_sem,aC,aD,aE,aj,au,ak,Nat.reduceAdd,Nat.reduceBEq,↓reduceIte,Int.natCast_add,Int.cast_ofNat_Int]|refine aB ?_|refine aS cb ?_|refine aA (fun hw=>?_) (fun hw=>?_)<;>try omega|fail
         exact bE (ev _) (aQ.refl (aO _ _ _))
       | some o2 =>
         rw[hq]at a6
         dsimp only at a6
         obtain⟨zq,_,Q_,hp3⟩:=Dc hq
         have N4:o2.op≠0:=by
          intro h
          simp only[dL,List.mem_cons,List.not_mem_nil,or_false]at Q_
          rcases Q_ with rfl|rfl|rfl|rfl|rfl|rfl|rfl|rfl|rfl|rfl|rfl|rfl<;>simp at h
         have cc:=ih j (by omega) (lvl+1) (xp+1) (by omega) (by omega) (by omega)
         obtain⟨gd1,gd2,gd3⟩:=(mW T j none (lvl+1) (xp+1) (by omega)).1 rfl
         simp only[mX]at cc
         simp only[O4,hq,Hy,Option.isSome_some,if_true,bn,Int.natCast_add,Int.cast_ofNat_Int]at cb
         generalize bh T j none (lvl+1) (xp+1)=d at *
         obtain⟨dx,dp,db⟩:=d
         dsimp only at *
         have e1:∀ σ : ai,View σ (.agg (pY o2.op [.agg (pY Dd xz),aJ dx])) (aJ (.mk o2.op v0 [] [.mk Dd v0 [] xl,dx])):=fun σ=>By (HD (By a1) (.refl _ (cD _)))
         rw[aN dx]at cc e1
         simp only[bn,Int.natCast_add,Int.cast_ofNat_Int]at cc
         cases db with
         | true =>
           rw[if_pos (.inr rfl)]at a6
           subst a6
           dsimp only at aC aD aE
           generalize hE:aJ (.mk o2.op v0 [] [.mk Dd v0 [] xl,dx])=E at *
           repeat' first|simp (disch:=omega) only[go_sem,aC,aD,aE,aj,au,ak,Nat.reduceAdd,Nat.reduceBEq,↓reduceIte,Int.natCast_add,Int.cast_ofNat_Int]|refine aB ?_|refine aS cb ?_|refine aS cc ?_|refine aA (fun hw=>?_) (fun hw=>?_)<;>try omega|fail
           all_goals first|exact bE (e1 _) (aQ.refl (aO _ _ _))|(exfalso;omega)
         | false =>
           rw[if_neg (by simp[O5])]at a6
           have gr:=gd3 rfl
           repeat' first|simp (disch:=omega) only[go_sem,aC,aD,aE,aj,au,ak,Nat.reduceAdd,Nat.reduceBEq,↓reduceIte,Int.natCast_add,Int.cast_ofNat_Int]|refine aB ?_|refine aS cb ?_|refine aS cc ?_|refine aA (fun hw=>?_) (fun hw=>?_)<;>try omega|fail
           refine⟨⟨o2.op,[.mk Dd v0 [] xl,dx],[.agg (pY Dd xz),aJ dx],dp,j⟩,⟨⟨HD (By a1) (.refl _ (cD _)),by simp[AV.cF,AV.bW,VU a2,cD]⟩,gd2,by dsimp only;omega,by dsimp only;omega,a6⟩,by dsimp only;omega,?_,at_⟩
           rw[aN dx];rfl
theorem TF(T:List Tok)(hT:T.length≤2 ^ 60)(hs:∀ q,(T.getD q default).s.length≤2 ^ 62): ∀ f,∀ lvl p,lvl≤7→p≤T.length→8*(T.length-p)+(8-lvl)<f→mX T bO (fun l q=>bh T f none l q) lvl p:=by
 intro f
 induction f using Nat.strongRecOn with
 | ind f ih =>
 intro lvl p hl hp hf
 obtain⟨f,rfl⟩:∃ f',f=f'+1:=⟨f-1,by omega⟩
 have Mb:=ih f (Nat.lt_succ_self _)
 have hgo:∀ l q,q≤T.length→gh T.length q (bh T f none l q):=fun l q hq=>(mW T f none l q hq).1 rfl
 simp only[mX]
 by_cases h5:1≤lvl∧lvl≤5
 ·exact N3 T hT _ f lvl p h5.1 h5.2 hp (by omega) rfl (fun j hj l q h1 h2 h3=>ih j (by omega) l q h1 h2 h3)
 by_cases h0:lvl=0
 ·subst h0
  have hR:bh T (f+1) none 0 p=if dO T p 1 [105,102]then Bx (fun l q=>bh T f none l q) T (p+1)else bh T f none 1 p:=by
   rw[bh,if_pos rfl]
  by_cases hi:dO T p 1 [105,102]=true
  ·rw[if_pos hi]at hR
   have zq:=iJ hi
   have co:=pX T p 1 [105,102] true (by decide) (by omega) hi
   have cb:=Qo T (p+1) (fun l q=>bh T f none l q) zq hT hgo (fun q=>Ma T 0 q) (fun q h1 h2=>Mb 0 q (by omega) h2 (by omega))
   rw[hR]
   generalize Bx (fun l q=>bh T f none l q) T (p+1)=R at *
   simp only[if_true]at co
   generalize hE:aJ R.x=E at *
   have hEc:∃ cs,E = .agg cs:=⟨_,by rw[← hE,aN]⟩
   have hEp:E.cF=true:=by rw[← hE];exact cD _
   rw[← hE,aN]at cb
   simp only[bn,Int.natCast_add,Int.cast_ofNat_Int]at co cb
   refine aV.bH (dF (by simp) ?_) rfl (aO _ _ _)
   unfold dm aM
   intro Q aC aD aE
   repeat' first|simp (disch:=omega) only[go_sem,aC,aD,aE,aj,au,ak,Nat.reduceAdd,Nat.reduceBEq,↓reduceIte,Int.natCast_add,Int.cast_ofNat_Int]|refine aB ?_|refine aS co ?_|refine aS cb ?_|refine aA (fun hw=>?_) (fun hw=>?_)<;>try omega|fail
   exact bE (by rw[← hE];exact View.eqv (aN _).symm (cD _)) (aQ.refl (aO _ _ _))
  ·rw[if_neg hi]at hR
   have hi':dO T p 1 [105,102]=false:=by simpa using hi
   have co:=pX T p 1 [105,102] false (by decide) (by omega) hi'
   have cr:=Mb 1 p (by omega) hp (by omega)
   rw[hR]
   simp only[mX]at cr
   generalize bh T f none 1 p=R at *
   generalize hE:aJ R.x=E at *
   rw[← hE,aN]at cr
   simp only[Bool.false_eq_true,if_false]at co
   simp only[bn,Int.natCast_add,Int.cast_ofNat_Int]at co cr
   refine aV.bH (dF (by simp) ?_) rfl (aO _ _ _)
   unfold dm aM
   intro Q aC aD aE
   repeat' first|simp (disch:=omega) only[go_sem,aC,aD,aE,aj,au,ak,Nat.reduceAdd,Nat.reduceBEq,↓reduceIte,Int.natCast_add,Int.cast_ofNat_Int]|refine aB ?_|refine aS co ?_|refine aS cr ?_|refine aA (fun hw=>?_) (fun hw=>?_)<;>try omega|fail
   exact bE (by rw[← hE];exact View.eqv (aN _).symm (cD _)) (aQ.refl (aO _ _ _))
 by_cases h6:lvl=6∧dO T p 4 [45]=true
 ·obtain⟨rfl,hi⟩:=h6
  have zq:=iJ hi
  have hR:bh T (f+1) none 6 p=⟨.mk 3 v0 [] [(bh T f none 6 (p+1)).x],(bh T f none 6 (p+1)).p,(bh T f none 6 (p+1)).bad⟩:=by
   rw[bh,if_neg h0,if_pos ⟨rfl,hi⟩]
  have co:=pX T p 4 [45] true (by decide) (by omega) hi
  have cr:=Mb 6 (p+1) (by omega) zq (by omega)
  rw[hR]
  simp only[mX]at cr
  generalize bh T f none 6 (p+1)=R at *
  obtain⟨rx,rp,rb⟩:=R
  dsimp only at *
  have e1:∀ σ : ai,View σ (.agg (pY 3 [aJ rx])) (aJ (.mk 3 v0 [] [rx])):=fun σ=>By (.cons (.refl _ (cD _)) (.nil _))
  rw[aN rx]at e1 cr
  generalize hE:aJ (.mk 3 v0 [] [rx])=E at *
  simp only[if_true]at co
  simp only[bn,Int.natCast_add,Int.cast_ofNat_Int]at co cr
  refine aV.bH (dF (by simp) ?_) rfl (aO _ _ _)
  unfold dm aM
  intro Q aC aD aE
  repeat' first|simp (disch:=omega) only[go_sem,aC,aD,aE,aj,au,ak,Nat.reduceAdd,Nat.reduceBEq,↓reduceIte,Int.natCast_add,Int.cast_ofNat_Int]|refine aB ?_|refine aS co ?_|refine aS cr ?_|refine aA (fun hw=>?_) (fun hw=>?_)<;>try omega|fail
  exact bE (e1 _) (aQ.refl (aO _ _ _))
 have h67:6≤lvl:=by omega
 have hR:bh T (f+1) none lvl p=fE (fun l q=>bh T f none l q) T p:=by
  rw[bh,if_neg h0,if_neg h6,if_pos h67]
 have ca:=TE T p (fun l q=>bh T f none l q) hp hT hs (fun h=>⟨Mb 0 (p+1) (by omega) (iJ h) (by have:=iJ h;omega),(hgo 0 (p+1) (iJ h)).2.1⟩)
 rw[hR]
 have co:=fun h=>pX T p 4 [45] false (by decide) (by omega) h
 have hno:lvl=6→dO T p 4 [45]=false:=fun h=>by
  cases hq:dO T p 4 [45]with
  | false=>rfl
  | true=>exact absurd ⟨h,hq⟩ h6
 generalize fE (fun l q=>bh T f none l q) T p=R at *
 generalize hE:aJ R.x=E at *
 rw[← hE,aN]at ca
 simp only[Bool.false_eq_true,if_false]at co
 simp only[bn,Int.natCast_add,Int.cast_ofNat_Int]at co ca
 refine aV.bH (dF (by simp) ?_) rfl (aO _ _ _)
 unfold dm aM
 intro Q aC aD aE
 by_cases RP:lvl=6
 ·have co:=co (hno RP)
  subst RP
  repeat' first|simp (disch:=omega) only[go_sem,aC,aD,aE,aj,au,ak,Nat.reduceAdd,Nat.reduceBEq,↓reduceIte,Int.natCast_add,Int.cast_ofNat_Int]|refine aB ?_|refine aS co ?_|refine aS ca ?_|refine aA (fun hw=>?_) (fun hw=>?_)<;>try omega|fail
  exact bE (by rw[← hE];exact View.eqv (aN _).symm (cD _)) (aQ.refl (aO _ _ _))
 ·obtain rfl:lvl=7:=by omega
  repeat' first|simp (disch:=omega) only[go_sem,aC,aD,aE,aj,au,ak,Nat.reduceAdd,Nat.reduceBEq,↓reduceIte,Int.natCast_add,Int.cast_ofNat_Int]|refine aB ?_|refine aS ca ?_|refine aA (fun hw=>?_) (fun hw=>?_)<;>try omega|fail
  exact bE (by rw[← hE];exact View.eqv (aN _).symm (cD _)) (aQ.refl (aO _ _ _))
end Go.Proofs.YtmbgnaoilncbnaaGreatDoor
