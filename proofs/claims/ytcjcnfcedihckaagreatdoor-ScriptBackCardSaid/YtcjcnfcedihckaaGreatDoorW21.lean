/- Part. -/
import Derived.Test.YtcjcnfcedihckaaGreatDoorW20
set_option linter.all false
namespace Go.Proofs.YtcjcnfcedihckaaGreatDoor
open Go.AM
set_option maxRecDepth 4000
def j7(T:List Tok)(r:RS)(k:Int)(s:aI): RS:=⟨r.x,sM T r.p r.bad k s,r.bad || !(gD T r.p r.bad k s)⟩
def qI(rd:Nat->Nat->RS)(lvl p:Nat)(b:Bool): RS:=if b then⟨x0,p,true⟩else rd lvl p
def yu(v:eu)(p:Nat): RS:=⟨.mk 1 v [] [],p,false⟩
def nq(rd:Nat->Nat->RS)(T:List Tok)(p:Nat): RS :=
 if ni T p 4 [40]then j7 T (rd 0 (p+1)) 4 [41]
 else if(T.getD p default).kind=2 then yu ⟨1,(T.getD p default).n,[]⟩ (p+1)
 else if(T.getD p default).kind=3 then yu ⟨2,0,(T.getD p default).s⟩ (p+1)
 else if(T.getD p default).kind=1 then
  (match xO (T.getD p default).s with
  | some v=>yu v (p+1)
  | none=>if eV (T.getD p default).s then⟨.mk 2 v0 (T.getD p default).s [],p+1,false⟩else ⟨x0,p,true⟩)
 else⟨x0,p,true⟩
def thenS: aI:=[116,104,101,110]
def Dn: aI:=[101,108,115,101]
def nJ(rd:Nat->Nat->RS)(T:List Tok)(p:Nat): RS:=j7 T (rd 0 p) 1 thenS
def uJ(rd:Nat->Nat->RS)(T:List Tok)(p:Nat): RS:=j7 T (qI rd 0 (nJ rd T p).p (nJ rd T p).bad) 1 Dn
def Cg(rd:Nat->Nat->RS)(T:List Tok)(p:Nat): RS:=qI rd 0 (uJ rd T p).p (uJ rd T p).bad
def JO(rd:Nat->Nat->RS)(T:List Tok)(p:Nat): RS:=⟨.mk 16 v0 [] [(nJ rd T p).x,(uJ rd T p).x,(Cg rd T p).x],(Cg rd T p).p,(Cg rd T p).bad⟩
def cM(T:List Tok): Nat->Option Expr->Nat->Nat->RS
 | 0,_,_,p=>⟨x0,p,true⟩
 | f + 1, none, lvl, p =>
   if lvl=0 then(if ni T p 1 [105,102]then JO (fun l q=>cM T f none l q) T (p+1)else cM T f none 1 p)
   else if lvl=6/\ni T p 4 [45]=true then⟨.mk 3 v0 [] [(cM T f none 6 (p+1)).x],(cM T f none 6 (p+1)).p,(cM T f none 6 (p+1)).bad⟩
   else if 6<=lvl then nq (fun l q=>cM T f none l q) T p
   else if(cM T f none (lvl+1) p).bad then cM T f none (lvl+1) p
   else cM T f (some (cM T f none (lvl+1) p).x) lvl (cM T f none (lvl+1) p).p
 | f + 1, some x, lvl, p =>
   match wQ T p false lvl with
   | none=>⟨x,p,false⟩
   | some o =>
     if lvl=3\/(cM T f none (lvl+1) (p+1)).bad=true then⟨.mk o.op v0 [] [x,(cM T f none (lvl+1) (p+1)).x],(cM T f none (lvl+1) (p+1)).p,(cM T f none (lvl+1) (p+1)).bad⟩
     else cM T f (some (.mk o.op v0 [] [x,(cM T f none (lvl+1) (p+1)).x])) lvl (cM T f none (lvl+1) (p+1)).p
def ot{T:List Tok}{p:Nat}{k:Int}{s:aI}(h:ni T p k s=true): p<T.length:=by
 simp only[ni,aq,decide_eq_true_eq]at h;exact h.1
def nK{T:List Tok}{p:Nat}{b:Bool}{k:Int}{s:aI}(h:gD T p b k s=true): p<T.length/\b=false:=by
 simp only[gD,aq,cD]at h;exact⟨ot h.2,h.1⟩
def Ch{T:List Tok}{p:Nat}{b:Bool}{lvl:Int}{o:AY}(h:wQ T p b lvl=some o): p<T.length/\b=false/\o ∈ jq/\o.level=lvl:=by
 have h1:=dN h;simp only[aq,beq_iff_eq]at h1;exact⟨(nK h1.2).1,(nK h1.2).2,fL h,h1.1⟩
def jr(n p:Nat)(r:RS): Prop:=p<=r.p/\r.p<=n/\(r.bad=false->p<r.p)
def uK{T:List Tok}{p:Nat}{r:RS}(k:Int)(s:aI)(h:jr T.length p r): jr T.length p (j7 T r k s):=by
 obtain⟨h1,h2,h3⟩:=h;unfold j7 jr sM;dsimp only;by_cases ho:gD T r.p r.bad k s=true
 ·have:=nK ho;have h4:=h3 this.2;rw[if_pos ho];refine⟨by omega,by omega,fun _=>by omega⟩
 ·rw[if_neg ho];refine⟨h1,h2,fun h=>?_⟩;simp only[Bool.not_eq_true]at ho;rw[ho]at h;simp at h
def E_{T:List Tok}{rd:Nat->Nat->RS}(hrd:∀ l q,q<=T.length->jr T.length q (rd l q)){l q:Nat}{b:Bool}(hq:q<=T.length): jr T.length q (qI rd l q b):=by
 unfold qI;split
 ·exact⟨Nat.le_refl _,hq,fun h=>by cases h⟩
 ·exact hrd l q hq
def jr.from{n p q:Nat}{r:RS}(h:jr n q r)(hpq:p<=q): jr n p r:=⟨cB hpq h.1,h.2.1,fun hb=>Nat.lt_of_le_of_lt hpq (h.2.2 hb)⟩
def zZ{T:List Tok}{rd:Nat->Nat->RS}(hrd:∀ l q,q<=T.length->jr T.length q (rd l q)){p:Nat}(hp:p<=T.length): jr T.length p (nJ rd T p):=uK _ _ (hrd 0 p hp)
def z6{T:List Tok}{rd:Nat->Nat->RS}(hrd:∀ l q,q<=T.length->jr T.length q (rd l q)){p:Nat}(hp:p<=T.length): jr T.length (nJ rd T p).p (uJ rd T p):=uK _ _ (E_ hrd (zZ hrd hp).2.1)
def W7{T:List Tok}{rd:Nat->Nat->RS}(hrd:∀ l q,q<=T.length->jr T.length q (rd l q)){p:Nat}(hp:p<=T.length): jr T.length (uJ rd T p).p (Cg rd T p):=E_ hrd (z6 hrd hp).2.1
def Ul{T:List Tok}{rd:Nat->Nat->RS}(hrd:∀ l q,q<=T.length->jr T.length q (rd l q)){p:Nat}(hp:p<=T.length): jr T.length p (nq rd T p):=by
 have stay:∀ x,jr T.length p ⟨x,p,true⟩:=fun x=>⟨Nat.le_refl _,hp,fun h=>by cases h⟩;have k0:¬ p<T.length->(T.getD p default).kind=0:=fun h=>by rw[n5 (by omega)];rfl
 have step:(T.getD p default).kind≠0-> ∀ x,jr T.length p ⟨x,p+1,false⟩:=fun hk x=>by
  have:p<T.length:=by
   by_cases h:p<T.length
   ·exact h
   ·exact absurd (k0 h) hk
  exact⟨Nat.le_succ _,this,fun _=>Nat.lt_succ_self _⟩
 unfold nq;split
 ·rename_i h;exact uK _ _ ((hrd 0 (p+1) (ot h)).from (Nat.le_succ _))
 ·split
  ·exact step (by omega) _
  ·split
   ·exact step (by omega) _
   ·split
    ·split
     ·exact step (by omega) _
     ·split
      ·exact step (by omega) _
      ·exact stay _
    ·exact stay _
def rO(T:List Tok)(f:Nat): ∀(m:Option Expr) (lvl p:Nat),p<=T.length->(m=none->jr T.length p (cM T f m lvl p))/\p<=(cM T f m lvl p).p/\(cM T f m lvl p).p<=T.length:=by
 induction f with
 | zero =>
   intro m lvl p hp;simp only[cM];exact⟨fun _=>⟨Nat.le_refl _,hp,fun h=>by cases h⟩,Nat.le_refl _,hp⟩
 | succ f ih =>
   intro m lvl p hp;have hrd:∀ l q,q<=T.length->jr T.length q (cM T f none l q):=fun l q hq=>(ih none l q hq).1 rfl;cases m with
   | none =>
     have:jr T.length p (cM T (f+1) none lvl p):=by
      simp only[cM];split
      ·split
       ·rename_i h;have h1:=ot h;have a:=zZ hrd (p:=p+1) h1;have b:=z6 hrd (p:=p+1) h1;have c:=W7 hrd (p:=p+1) h1;exact(show jr T.length (uJ (fun l q=>cM T f none l q) T (p+1)).p (JO (fun l q=>cM T f none l q) T (p+1)) from⟨c.1,c.2.1,c.2.2⟩).from (cB (Nat.le_succ _) (cB a.1 b.1))
       ·exact hrd 1 p hp
      ·split
       ·rename_i h;have h1:=ot h.2;have c:=hrd 6 (p+1) h1;exact(show jr T.length (p+1) ⟨_,_,_⟩ from⟨c.1,c.2.1,c.2.2⟩).from (Nat.le_succ _)
       ·split
        ·exact Ul hrd hp
        ·split
         ·exact hrd _ _ hp
         ·rename_i hb;have a:=hrd (lvl+1) p hp;have b:=ih (some (cM T f none (lvl+1) p).x) lvl _ a.2.1;have:=a.2.2 (by simpa using hb);exact⟨by omega,b.2.2,fun _=>by omega⟩
     exact⟨fun _=>this,this.1,this.2.1⟩
   | some x =>
     refine⟨fun h=>(by cases h),?_⟩;simp only[cM];split
     ·exact⟨Nat.le_refl _,hp⟩
     ·rename_i o ho;have h1:=(Ch ho).1;have a:=hrd (lvl+1) (p+1) h1;split
      ·exact⟨by have:=a.1;dsimp only;omega,a.2.1⟩
      ·have b:=ih (some (.mk o.op v0 [] [x,(cM T f none (lvl+1) (p+1)).x])) lvl _ a.2.1;exact⟨by have:=a.1;omega,b.2.2⟩
def pT{σ : ae}{op vk vn:Int}{vs s:aI}{L:AV}{l:List Expr}(hL:View σ L (.aO false EX (l.map bf))): View σ (.agg [I op,I vk,I vn,.str vs,.str s,L]) (bf (.mk op ⟨vk,vn,vs⟩ s l)):=by
 rw[bB];refine View.sC (.cons (.refl _ rfl) (.cons (.refl _ rfl) (.cons (.refl _ rfl) (.cons (.refl _ rfl) (.cons (.refl _ rfl) (.cons ?_ (.nil _)))))));exact hL
def xP(T:List Tok)(n:FuncId)(rd:Nat->Nat->RS)(l q:Nat): Prop:=cY aK n 0 [I l] (dI T q false) (dI T (rd l q).p (rd l q).bad) (bf (rd l q).x)
def po(T:List Tok)(p:Nat)(k:Int)(s:aI)(o:Bool)(hk:k≠0)(hp:p<=2 ^ 61)(h:ni T p k s=o): cY aK 310 0 [I k,.str s] (dI T p false) (dI T (if o then p+1 else p) false) (.bool o):=by
 have:=Cf T p false k s hk hp;unfold sM at this;rw[show gD T p false k s=o from h]at this;cases o
 ·simpa using this
 ·simpa using this
def OG (T : List Tok) (p : Nat) (rd : Nat -> Nat -> RS) (hp : p <= T.length) (hT : T.length <= 2 ^ 60) (hs : ∀ q, (T.getD q default).s.length <= 2 ^ 62)
    (hrd:ni T p 4 [40]=true->xP T 292 rd 0 (p+1)/\(rd 0 (p+1)).p<=T.length) :
    cY aK 312 0 [] (dI T p false) (dI T (nq rd T p).p (nq rd T p).bad) (bf (nq rd T p).x):=by
 have rK:=fun o (ho:ni T p 4 [40]=o)=>po T p 4 [40] o (by decide) (by omega) ho;have Gx:=Gw T p false;have hsp:=hs p;simp only[Ce,aB,if_false]at Gx;by_cases Il:ni T p 4 [40]=true
 ·have ha:nq rd T p=j7 T (rd 0 (p+1)) 4 [41]:=by unfold nq;rw[if_pos Il]
  obtain⟨hr,hb⟩:=hrd Il;unfold xP at hr;rw[ha];have rK:=rK true Il;generalize rd 0 (p+1)=r at *;have hm:=yq T r.p r.bad 4 [41] (by decide) (by omega);rw[bB]at hr;simp only[dI,if_true]at rK hr hm;generalize hE:bf _=E;refine cY.fU (gQ.go ?_) rfl (bP _ _ _);unfold eP;intro Q aF aG aH;repeat' first|refine aE ?_|refine cW rK ?_|refine cW hr ?_|refine cW hm ?_|refine aD ?_ ?_<;>intro hw<;>try omega|fail
  exact fH (View.eqv (by rw[<-hE];exact(bB _).symm) (by rw[<-hE];exact fQ _)) (bL.refl (bP _ _ _))
 have YI:ni T p 4 [40]=false:=by simpa using Il
 have rK:=rK false YI;simp only[dI,aB,if_false]at rK Gx;have ha:nq rd T p=(if(T.getD p default).kind=2 then yu ⟨1,(T.getD p default).n,[]⟩ (p+1)
 else if(T.getD p default).kind=3 then yu ⟨2,0,(T.getD p default).s⟩ (p+1)
 else if(T.getD p default).kind=1 then
  (match xO (T.getD p default).s with
  | some v=>yu v (p+1)
  | none=>if eV (T.getD p default).s then⟨.mk 2 v0 (T.getD p default).s [],p+1,false⟩else ⟨x0,p,true⟩)
 else⟨x0,p,true⟩:RS):=by unfold nq;rw[if_neg Il]<;>rfl
 rw[ha];clear ha hrd hs Il YI;generalize T.getD p default=t at *;obtain⟨tk,ts,tn,tp⟩:=t;simp only[oH]at Gx hsp ⊢;have hname:=tQ ts hsp;have hword:=ME ts;by_cases h2:tk=2
 ·rw[if_pos h2];generalize hE:bf _=E;refine cY.fU (gQ.go ?_) rfl (bP _ _ _);unfold eP;intro Q aF aG aH;repeat' first|refine aE ?_|refine cW rK ?_|refine cW Gx ?_|refine aD ?_ ?_<;>intro hw<;>try omega|fail
  exact fH (by rw[<-hE];exact pT (.au _)) (bL.eqv rfl (bP T (p+1) false))
 rw[if_neg h2];by_cases h3:tk=3
 ·rw[if_pos h3];generalize hE:bf _=E;refine cY.fU (gQ.go ?_) rfl (bP _ _ _);unfold eP;intro Q aF aG aH;repeat' first|refine aE ?_|refine cW rK ?_|refine cW Gx ?_|refine aD ?_ ?_<;>intro hw<;>try omega|fail
  exact fH (by rw[<-hE];exact pT (.au _)) (bL.eqv rfl (bP T (p+1) false))
 rw[if_neg h3];by_cases h1:tk=1
 case neg =>
  rw[if_neg h1];generalize hE:bf _=E;refine cY.fU (gQ.go ?_) rfl (bP _ _ _);unfold eP;intro Q aF aG aH;repeat' first|refine aE ?_|refine cW rK ?_|refine cW Gx ?_|refine aD ?_ ?_<;>intro hw<;>try omega|fail
  exact fH (by rw[<-hE];exact pT (.au _)) (bL.eqv rfl (bP T p true))
 rw[if_pos h1];cases hw:xO ts with
 | some v =>
   rw[hw]at hword;simp only[bu,Option.isSome_some,fF]at hword;dsimp only;generalize hE:bf _=E;refine cY.fU (gQ.go ?_) rfl (bP _ _ _);unfold eP;intro Q aF aG aH;repeat' first|refine aE ?_|refine cW rK ?_|refine cW Gx ?_|refine aD ?_ ?_<;>intro hw<;>try omega|fail
   exact fH (by rw[<-hE];exact pT (.au _)) (bL.eqv rfl (bP T (p+1) false))
 | none =>
   rw[hw]at hword;simp only[Option.getD_none,Option.isSome_none,fF,v0]at hword;dsimp only;cases hn:eV ts with
   | true =>
     rw[hn]at hname;simp only[if_true];generalize hE:bf _=E;refine cY.fU (gQ.go ?_) rfl (bP _ _ _);unfold eP;intro Q aF aG aH;repeat' first|refine aE ?_|refine cW rK ?_|refine cW Gx ?_|refine aD ?_ ?_<;>intro hw<;>try omega|fail
     exact fH (by rw[<-hE];exact pT (.au _)) (bL.eqv rfl (bP T (p+1) false))
   | false =>
     rw[hn]at hname;simp only[aB,if_false];generalize hE:bf _=E;refine cY.fU (gQ.go ?_) rfl (bP _ _ _);unfold eP;intro Q aF aG aH;repeat' first|refine aE ?_|refine cW rK ?_|refine cW Gx ?_|refine aD ?_ ?_<;>intro hw<;>try omega|fail
     exact fH (by rw[<-hE];exact pT (.au _)) (bL.eqv rfl (bP T p true))
def MG {T : List Tok} {n : FuncId} {rd : Nat -> Nat -> RS} {l q : Nat} {b : Bool} (h : b = false -> xP T n rd l q) (Fa : cY aK n 0 [I l] (dI T q true) (dI T q true) (bf x0)) :
    cY aK n 0 [I l] (dI T q b) (dI T (qI rd l q b).p (qI rd l q b).bad) (bf (qI rd l q b).x):=by
 cases b with
 | true=>exact Fa
 | false=>exact h rfl
def Lb (T : List Tok) (p : Nat) (rd : Nat -> Nat -> RS) (hp : p <= T.length) (hT : T.length <= 2 ^ 60) (uL : ∀ l q, q <= T.length -> jr T.length q (rd l q))
    (Fa:∀ q,cY aK 292 0 [I 0] (dI T q true) (dI T q true) (bf x0)) (hrd:∀ q,p<=q->q<=T.length->xP T 292 rd 0 q) :
    cY aK 311 0 [] (dI T p false) (dI T (JO rd T p).p (JO rd T p).bad) (bf (JO rd T p).x):=by
 have ga:=zZ uL hp;have gb:=z6 uL hp;have g0:=uL 0 p hp;have g1:=E_ uL (l:=0) (b:=(nJ rd T p).bad) ga.2.1;have c1:=hrd p (Nat.le_refl _) hp;have m1:=yq T (rd 0 p).p (rd 0 p).bad 1 thenS (by decide) (by have:=g0.2.1;omega);have c2:=MG (l:=0) (q:=(nJ rd T p).p) (b:=(nJ rd T p).bad) (fun _=>hrd _ ga.1 ga.2.1) (Fa _);have m2:=yq T (qI rd 0 (nJ rd T p).p (nJ rd T p).bad).p (qI rd 0 (nJ rd T p).p (nJ rd T p).bad).bad 1 Dn (by decide) (by have:=g1.2.1;omega);have c3:=MG (l:=0) (q:=(uJ rd T p).p) (b:=(uJ rd T p).bad) (fun _=>hrd _ (cB ga.1 gb.1) gb.2.1) (Fa _)
 change cY _ _ _ _ _ (dI T (nJ rd T p).p (nJ rd T p).bad) _ at m1
 change cY _ _ _ _ _ (dI T (uJ rd T p).p (uJ rd T p).bad) _ at m2
 change cY _ _ _ _ _ (dI T (Cg rd T p).p (Cg rd T p).bad) (bf (Cg rd T p).x)at c3
 unfold xP at c1;simp only[JO];have xa:(nJ rd T p).x=(rd 0 p).x:=rfl;have xb:(uJ rd T p).x=(qI rd 0 (nJ rd T p).p (nJ rd T p).bad).x:=rfl;rw[xa,xb];generalize qI rd 0 (nJ rd T p).p (nJ rd T p).bad=rb at *;generalize nJ rd T p=ra at *;generalize uJ rd T p=rb2 at *;generalize Cg rd T p=rc at *;generalize rd 0 p=r1 at *;rw[bB]at c1 c2 c3;simp only[dI,thenS,Dn]at c1 m1 c2 m2 c3;generalize hE:bf _=E;refine cY.fU (xe.go ?_) rfl (bP _ _ _);unfold eP;intro Q aF aG aH;repeat' first|refine aE ?_|refine cW c1 ?_|refine cW m1 ?_|refine cW c2 ?_|refine cW m2 ?_|refine cW c3 ?_|refine aD ?_ ?_<;>intro hw<;>try omega|fail
 refine fH ?_ (bL.refl (bP _ _ _));rw[<-hE];refine pT ?_;rw[aZ,aZ,aZ,br,bB,bB,bB];refine View.weak _ _ _ ?_;simp
@[go_sem ↓] def adf (l:Nat) (J:Env->ae->Prop) (Q:AQ) (e:Env) (σ : ae):sv l J Q (.goto l) e σ = J e σ:=by simp[sv]
def PZ{e':Env}: ∀(l:List (Nat × AV)),At l e'->puts l e'=e'
 | [],_=>rfl
 | (d, v) :: l, h => by
   simp only[puts];rw[PZ l (fun p hp=>h p (bF _ hp))];exact mV (h (d,v) (by simp))
def ZC {P : Program} {l : Nat} {c r : de} {Q : AQ} {e : Env} {σ : ae} {α : Type} (cs : α -> List (Nat × AV)) (S : α -> ae) (A : α -> Prop) (μ : α -> Nat)
    (hb:i_ P c (sv l (fun e' σ'=> ∃ x,A x/\σ'=S x/\At (cs x) e') Q) e σ)
    (hr:∀ x r0,A x->i_ P r (sv l (fun e' σ'=> ∃ x',A x'/\ μ x' < μ x/\σ'=S x'/\At (cs x') e') Q) (puts (cs x) r0) (S x)):L9 P (.mk:Tg (l,c,r,Q,e,σ)):=by
 refine⟨fun n e' σ'=> ∃ x,A x/\At (cs x) e'/\σ'=S x/\ μ x=n,zM (fun ex e2 σ2 hq=>?_) _ _ hb,?_⟩
 ·cases ex<;>try exact hq
  obtain⟨h1,x,a,hs,ht⟩:=hq;exact⟨h1,_,x,a,ht,hs,rfl⟩
 ·rintro n e' σ' ⟨x1,a1,t1,rfl,rfl⟩;have h:=hr x1 e' a1;rw[PZ _ t1]at h;refine zM (fun ex e2 σ2 hq=>?_) _ _ h;cases ex<;>try exact hq
  obtain⟨h1,x',a',hm,hs,ht⟩:=hq;exact⟨h1,_,hm,x',a',ht,hs,rfl⟩
def sN(op:Int)(zs:List AV): List AV:=[I op,I 0,I 0,.str [],.str [],.aO true EX zs]
def Dp{σ : ae}{op:Int}{zs:List AV}{l:List Expr}(h:bL [] zs (l.map bf)): View σ (.agg (sN op zs)) (bf (.mk op v0 [] l)) :=
 View.mono (σ:=[]) (fun _ _ h=>by simp at h) (pT (View.aa4 h))
def Gy{a b:AV}{x y:Expr}(h:View [] a (bf x))(h2:View [] b (bf y)): bL [] [a,b] ([x,y].map bf):= .cons h (.cons h2 (.nil _))
def RL{op:Int}{zs:List AV}(h:AV.cA zs=true): AV.cA (sN op zs)=true:=by simp[sN,AV.dz,AV.cA,h]
structure Lp where
 op:Int
 l:List Expr
 zs:List AV
 p:Nat
 f:Nat
def Gz(T:List Tok)(lvl:Int)(p:Nat): cY aK 292 0 [I lvl] (dI T p true) (dI T p true) (bf x0):=by
 generalize hE:bf x0=E;refine cY.fU (fj.go ?_) rfl (bP _ _ _);unfold eP;intro Q aF aG aH;repeat' first|refine aE ?_|refine aD ?_ ?_<;>intro hw<;>try omega|fail
 exact fH (by rw[<-hE];exact pT (.au _)) (bL.refl (bP T p true))
def Im (T : List Tok) (hT : T.length <= 2 ^ 60) (rd : Nat -> Nat -> RS) (f lvl p : Nat) (h1 : 1 <= lvl) (h5 : lvl <= 5) (hp : p <= T.length) (hf : 8 * (T.length - p) + (8 - lvl) <= f) (hrd : rd = fun l q => cM T f none l q)
    (ih:∀ j,j<=f-> ∀ l q,l<=7->q<=T.length->8*(T.length-q)+(8-l)<j->xP T 292 (fun l q=>cM T j none l q) l q) :
    cY aK 292 0 [I lvl] (dI T p false) (dI T (cM T (f+1) none lvl p).p (cM T (f+1) none lvl p).bad) (bf (cM T (f+1) none lvl p).x):=by
 have ga:=(rO T f none (lvl+1) p hp).1 rfl;have ca:=ih f (Nat.le_refl _) (lvl+1) p (by omega) hp (by omega);simp only[xP]at ca;obtain⟨ga1,ga2,ga3⟩:=ga
 have hR:cM T (f+1) none lvl p=if(cM T f none (lvl+1) p).bad then cM T f none (lvl+1) p else cM T f (some (cM T f none (lvl+1) p).x) lvl (cM T f none (lvl+1) p).p:=by
  rw[cM];rw[if_neg (by omega),if_neg (by omega),if_neg (by omega)]
 generalize cM T (f+1) none lvl p=R at *;generalize cM T f none (lvl+1) p=a at *;obtain⟨ax,ap,ab⟩:=a;dsimp only at *;have cb:=AZ T ap ab lvl (by omega);rw[bB]at ca;cases ab with
 | true =>
   simp only[if_true]at hR;subst hR;dsimp only
   have hn:wQ T ap true lvl=none:=by
    cases ho:wQ T ap true lvl with
    | none=>rfl
    | some o=>have:=(Ch ho).2.1;cases this
   simp only[JN,hn,MD,Option.isSome_none,aB,if_false]at cb;generalize hE:bf ax=E;simp only[dI,Int.natCast_add,Int.cast_ofNat_Int]at ca cb;refine cY.fU (fj.go ?_) rfl (bP _ _ _);unfold eP;intro Q aF aG aH;repeat' first|simp (disch:=omega) only[go_sem,aF,aG,aH,Int.natCast_add,Int.cast_ofNat_Int]|refine aE ?_|refine cW ca ?_|refine cW cb ?_|refine aD ?_ ?_<;>intro hw<;>try omega|fail
   exact fH (by rw[<-hE];exact View.eqv (bB _).symm (fQ _)) (bL.refl (bP _ _ _))
 | false =>
   simp only[aB,if_false]at hR;have gp:=ga3 rfl;obtain⟨f,rfl⟩:∃ f',f=f'+1:=⟨f-1,by omega⟩;rw[cM]at hR;have e0:∀ σ : ae,View σ (.agg [I ax.op,I ax.v.kind,I ax.v.n,.str ax.v.s,.str ax.s,.aO false EX (ax.l.map bf)]) (bf ax):=fun σ=>View.eqv (bB _).symm (fQ _);cases ho:wQ T ap false lvl with
   | none =>
     rw[ho]at hR;dsimp only at hR;subst hR;dsimp only;simp only[JN,ho,MD,Option.isSome_none,aB,if_false]at cb;generalize hE:bf ax=E at *;simp only[dI,Int.natCast_add,Int.cast_ofNat_Int]at ca cb;refine cY.fU (fj.go ?_) rfl (bP _ _ _);unfold eP;intro Q aF aG aH;repeat' first|simp (disch:=omega) only[go_sem,aF,aG,aH,Int.natCast_add,Int.cast_ofNat_Int]|refine aE ?_|refine cW ca ?_|refine cW cb ?_|refine aD ?_ ?_<;>intro hw<;>try omega|fail
     exact fH (e0 _) (bL.refl (bP _ _ _))
   | some o =>
     rw[ho]at hR;dsimp only at hR;obtain⟨P2,_,GA,Um⟩:=Ch ho
     have hop:o.op≠0:=by
      intro h;simp only[jq,List.mem_cons,List.not_mem_nil,or_false]at GA;rcases GA with rfl|rfl|rfl|rfl|rfl|rfl|rfl|rfl|rfl|rfl|rfl|rfl<;>simp at h
     have cc:=ih f (by omega) (lvl+1) (ap+1) (by omega) (by omega) (by omega);have gc:=(rO T f none (lvl+1) (ap+1) (by omega)).1 rfl;obtain⟨gc1,gc2,gc3⟩:=gc;simp only[xP]at cc;simp only[JN,ho,MD,Option.isSome_some,if_true]at cb;generalize cM T f none (lvl+1) (ap+1)=c at *;obtain⟨cx,cp,RM⟩:=c;dsimp only at *;by_cases hend:lvl=3\/RM=true
     ·rw[if_pos hend]at hR;subst hR;dsimp only;have e1:∀ σ : ae,View σ (.agg (sN o.op [.agg [I ax.op,I ax.v.kind,I ax.v.n,.str ax.v.s,.str ax.s,.aO false EX (ax.l.map bf)],bf cx])) (bf (.mk o.op v0 [] [ax,cx])):=fun σ=>Dp (Gy (e0 _) (.refl _ (fQ _)));rw[bB cx]at e1 cc;generalize hE:bf (.mk o.op v0 [] [ax,cx])=E at *;simp only[dI,Int.natCast_add,Int.cast_ofNat_Int]at ca cb cc;have h3:¬ (¬ lvl=3/\RM=false):=by rcases hend with h|h<;>simp[h]
      refine cY.fU (fj.go ?_) rfl (bP _ _ _);unfold eP;intro Q aF aG aH;rcases hend with hend|hend
      ·subst hend;repeat' first|simp (disch:=omega) only[go_sem,aF,aG,aH,Int.natCast_add,Int.cast_ofNat_Int]|refine aE ?_|refine cW ca ?_|refine cW cb ?_|refine cW cc ?_|refine aD ?_ ?_<;>intro hw<;>try omega|fail
       all_goals first|exact fH (e1 _) (bL.refl (bP _ _ _))|(exfalso;omega)
      ·subst hend;repeat' first|simp (disch:=omega) only[go_sem,aF,aG,aH,Int.natCast_add,Int.cast_ofNat_Int]|refine aE ?_|refine cW ca ?_|refine cW cb ?_|refine cW cc ?_|refine aD ?_ ?_<;>intro hw<;>try omega|fail
       all_goals first|exact fH (e1 _) (bL.refl (bP _ _ _))|(exfalso;omega)
     ·rw[if_neg hend]at hR;have hl3:lvl≠3:=fun h=>hend (.inl h)
      have hcb:RM=false:=by cases RM with
       | false=>rfl
       | true=>exact absurd (.inr rfl) hend
      subst hcb;have e2:=e0 [];rw[bB cx]at cc;simp only[dI,Int.natCast_add,Int.cast_ofNat_Int]at ca cb cc;have gq:=gc3 rfl;refine cY.fU (fj.go ?_) rfl (bP _ _ _);unfold eP;intro Q aF aG aH;repeat' first|refine gn_ ?_|refine aD ?_ ?_<;>intro hw<;>try omega|fail
      with_reducible refine ZC (fun x:Lp=>[(0,.ref 0 0),(1,I lvl),(4,.ref 1 0),(5,.ref 2 0)]) (fun x=>[.cells [.aO false ET (T.map oH),I x.p,.bool false],.cells [I 0,I 0,I 0,.str [],.str [],.au],.cells [I x.op,I 0,I 0,.str [],.str [],.aO true EX x.zs]]) (fun x=>(bL [] x.zs (x.l.map bf)/\AV.cA x.zs=true)/\x.p<=T.length/\8*(T.length-x.p)+8<=x.f/\x.f<=f/\R=cM T x.f (some (.mk x.op v0 [] x.l)) lvl x.p) (fun x=>x.f) ?_ ?_
      ·repeat' first|simp (disch:=omega) only[go_sem,aF,aG,aH,Int.natCast_add,Int.cast_ofNat_Int]|refine aE ?_|refine cW ca ?_|refine cW cb ?_|refine cW cc ?_|refine aD ?_ ?_<;>intro hw<;>try omega|fail
       refine⟨⟨o.op,[ax,cx],[.agg [I ax.op,I ax.v.kind,I ax.v.n,.str ax.v.s,.str ax.s,.aO false EX (ax.l.map bf)],bf cx],cp,f⟩,⟨⟨Gy e2 (.refl _ (fQ _)),by simp⟩,gc2,by dsimp only;omega,Nat.le_refl _,hR⟩,?_,at_⟩;rw[bB cx]
      ·clear ca cb cc;rintro⟨JQ,xl,xz,xp,xf⟩ r0 ⟨⟨a1,a2⟩,a3,a4,a5,a6⟩;dsimp only at a1 a2 a3 a4 a5 a6;obtain⟨j,rfl⟩:∃ j,xf=j+1:=⟨xf-1,by omega⟩;have cb:=AZ T xp false lvl (by omega);rw[cM]at a6;clear hR;cases hq:wQ T xp false lvl with
       | none =>
         rw[hq]at a6;dsimp only at a6;subst a6;dsimp only at aF aG aH;simp only[JN,hq,MD,Option.isSome_none,aB,if_false,dI,Int.natCast_add,Int.cast_ofNat_Int]at cb;have ev:∀ σ : ae,View σ (.agg (sN JQ xz)) (bf (.mk JQ v0 [] xl)):=fun σ=>Dp a1;generalize hE:bf (.mk JQ v0 [] xl)=E at *;repeat' first|simp (disch:=omega) only[go_sem,aF,aG,aH,Int.natCast_add,Int.cast_ofNat_Int]|refine aE ?_|refine cW cb ?_|refine aD ?_ ?_<;>intro hw<;>try omega|fail
         exact fH (ev _) (bL.refl (bP _ _ _))
       | some o2 =>
         rw[hq]at a6;dsimp only at a6;obtain⟨BH,_,L1,hp3⟩:=Ch hq
         have agB:o2.op≠0:=by
          intro h;simp only[jq,List.mem_cons,List.not_mem_nil,or_false]at L1;rcases L1 with rfl|rfl|rfl|rfl|rfl|rfl|rfl|rfl|rfl|rfl|rfl|rfl<;>simp at h
         have cc:=ih j (by omega) (lvl+1) (xp+1) (by omega) (by omega) (by omega);obtain⟨gd1,gd2,gd3⟩:=(rO T j none (lvl+1) (xp+1) (by omega)).1 rfl;simp only[xP]at cc;simp only[JN,hq,MD,Option.isSome_some,if_true,dI,Int.natCast_add,Int.cast_ofNat_Int]at cb;generalize cM T j none (lvl+1) (xp+1)=d at *;obtain⟨dx,dp,db⟩:=d;dsimp only at *;have e1:∀ σ : ae,View σ (.agg (sN o2.op [.agg (sN JQ xz),bf dx])) (bf (.mk o2.op v0 [] [.mk JQ v0 [] xl,dx])):=fun σ=>Dp (Gy (Dp a1) (.refl _ (fQ _)));rw[bB dx]at cc e1;simp only[dI,Int.natCast_add,Int.cast_ofNat_Int]at cc;cases db with
         | true =>
           rw[if_pos (.inr rfl)]at a6;subst a6;dsimp only at aF aG aH;generalize hE:bf (.mk o2.op v0 [] [.mk JQ v0 [] xl,dx])=E at *;repeat' first|simp (disch:=omega) only[go_sem,aF,aG,aH,Int.natCast_add,Int.cast_ofNat_Int]|refine aE ?_|refine cW cb ?_|refine cW cc ?_|refine aD ?_ ?_<;>intro hw<;>try omega|fail
           all_goals first|exact fH (e1 _) (bL.refl (bP _ _ _))|(exfalso;omega)
         | false =>
           rw[if_neg (by simp[hl3])]at a6;have gr:=gd3 rfl;repeat' first|simp (disch:=omega) only[go_sem,aF,aG,aH,Int.natCast_add,Int.cast_ofNat_Int]|refine aE ?_|refine cW cb ?_|refine cW cc ?_|refine aD ?_ ?_<;>intro hw<;>try omega|fail
           refine⟨⟨o2.op,[.mk JQ v0 [] xl,dx],[.agg (sN JQ xz),bf dx],dp,j⟩,⟨⟨Gy (Dp a1) (.refl _ (fQ _)),by simp[AV.dz,AV.cA,RL a2,fQ]⟩,gd2,by dsimp only;omega,by dsimp only;omega,a6⟩,by dsimp only;omega,?_,at_⟩;rw[bB dx];rfl
def OH(T:List Tok)(hT:T.length<=2 ^ 60)(hs:∀ q,(T.getD q default).s.length<=2 ^ 62): ∀ f,∀ lvl p,lvl<=7->p<=T.length->8*(T.length-p)+(8-lvl)<f->xP T 292 (fun l q=>cM T f none l q) lvl p:=by
 intro f
 induction f using Nat.strongRecOn with
 | ind f ih =>
 intro lvl p hl hp hf;obtain⟨f,rfl⟩:∃ f',f=f'+1:=⟨f-1,by omega⟩;have YJ:=ih f (Nat.lt_succ_self _);have uL:∀ l q,q<=T.length->jr T.length q (cM T f none l q):=fun l q hq=>(rO T f none l q hq).1 rfl;simp only[xP];by_cases h5:1<=lvl/\lvl<=5
 ·exact Im T hT _ f lvl p h5.1 h5.2 hp (by omega) rfl (fun j hj l q h1 h2 h3=>ih j (by omega) l q h1 h2 h3)
 by_cases h0:lvl=0
 ·subst h0
  have hR:cM T (f+1) none 0 p=if ni T p 1 [105,102]then JO (fun l q=>cM T f none l q) T (p+1)else cM T f none 1 p:=by
   rw[cM,if_pos rfl]
  by_cases hi:ni T p 1 [105,102]=true
  ·rw[if_pos hi]at hR;have BH:=ot hi;have co:=po T p 1 [105,102] true (by decide) (by omega) hi;have cb:=Lb T (p+1) (fun l q=>cM T f none l q) BH hT uL (fun q=>Gz T 0 q) (fun q h1 h2=>YJ 0 q (by omega) h2 (by omega));rw[hR];generalize JO (fun l q=>cM T f none l q) T (p+1)=R at *;simp only[if_true]at co;generalize hE:bf R.x=E at *;have hEc:∃ cs,E = .agg cs:=⟨_,by rw[<-hE,bB]⟩;have hEp:E.dz=true:=by rw[<-hE];exact fQ _
   rw[<-hE,bB]at cb;simp only[dI,Int.natCast_add,Int.cast_ofNat_Int]at co cb;refine cY.fU (fj.go ?_) rfl (bP _ _ _);unfold eP;intro Q aF aG aH;repeat' first|simp (disch:=omega) only[go_sem,aF,aG,aH,Int.natCast_add,Int.cast_ofNat_Int]|refine aE ?_|refine cW co ?_|refine cW cb ?_|refine aD ?_ ?_<;>intro hw<;>try omega|fail
   exact fH (by rw[<-hE];exact View.eqv (bB _).symm (fQ _)) (bL.refl (bP _ _ _))
  ·rw[if_neg hi]at hR;have hi':ni T p 1 [105,102]=false:=by simpa using hi
   have co:=po T p 1 [105,102] false (by decide) (by omega) hi';have cr:=YJ 1 p (by omega) hp (by omega);rw[hR];simp only[xP]at cr;generalize cM T f none 1 p=R at *;generalize hE:bf R.x=E at *;rw[<-hE,bB]at cr;simp only[aB,if_false]at co;simp only[dI,Int.natCast_add,Int.cast_ofNat_Int]at co cr;refine cY.fU (fj.go ?_) rfl (bP _ _ _);unfold eP;intro Q aF aG aH;repeat' first|simp (disch:=omega) only[go_sem,aF,aG,aH,Int.natCast_add,Int.cast_ofNat_Int]|refine aE ?_|refine cW co ?_|refine cW cr ?_|refine aD ?_ ?_<;>intro hw<;>try omega|fail
   exact fH (by rw[<-hE];exact View.eqv (bB _).symm (fQ _)) (bL.refl (bP _ _ _))
 by_cases h6:lvl=6/\ni T p 4 [45]=true
 ·obtain⟨rfl,hi⟩:=h6;have BH:=ot hi
  have hR:cM T (f+1) none 6 p=⟨.mk 3 v0 [] [(cM T f none 6 (p+1)).x],(cM T f none 6 (p+1)).p,(cM T f none 6 (p+1)).bad⟩:=by
   rw[cM,if_neg h0,if_pos ⟨rfl,hi⟩]
  have co:=po T p 4 [45] true (by decide) (by omega) hi;have cr:=YJ 6 (p+1) (by omega) BH (by omega);rw[hR];simp only[xP]at cr;generalize cM T f none 6 (p+1)=R at *;obtain⟨rx,rp,rb⟩:=R;dsimp only at *;have e1:∀ σ : ae,View σ (.agg (sN 3 [bf rx])) (bf (.mk 3 v0 [] [rx])):=fun σ=>Dp (.cons (.refl _ (fQ _)) (.nil _));rw[bB rx]at e1 cr;generalize hE:bf (.mk 3 v0 [] [rx])=E at *;simp only[if_true]at co;simp only[dI,Int.natCast_add,Int.cast_ofNat_Int]at co cr;refine cY.fU (fj.go ?_) rfl (bP _ _ _);unfold eP;intro Q aF aG aH;repeat' first|simp (disch:=omega) only[go_sem,aF,aG,aH,Int.natCast_add,Int.cast_ofNat_Int]|refine aE ?_|refine cW co ?_|refine cW cr ?_|refine aD ?_ ?_<;>intro hw<;>try omega|fail
  exact fH (e1 _) (bL.refl (bP _ _ _))
 have h67:6<=lvl:=by omega
 have hR:cM T (f+1) none lvl p=nq (fun l q=>cM T f none l q) T p:=by
  rw[cM,if_neg h0,if_neg h6,if_pos h67]
 have ca:=OG T p (fun l q=>cM T f none l q) hp hT hs (fun h=>⟨YJ 0 (p+1) (by omega) (ot h) (by have:=ot h;omega),(uL 0 (p+1) (ot h)).2.1⟩);rw[hR];have co:=fun h=>po T p 4 [45] false (by decide) (by omega) h
 have hno:lvl=6->ni T p 4 [45]=false:=fun h=>by
  cases hq:ni T p 4 [45]with
  | false=>rfl
  | true=>exact absurd ⟨h,hq⟩ h6
 generalize nq (fun l q=>cM T f none l q) T p=R at *;generalize hE:bf R.x=E at *;rw[<-hE,bB]at ca;simp only[aB,if_false]at co;simp only[dI,Int.natCast_add,Int.cast_ofNat_Int]at co ca;refine cY.fU (fj.go ?_) rfl (bP _ _ _);unfold eP;intro Q aF aG aH;by_cases hl6:lvl=6
 ·have co:=co (hno hl6);subst hl6;repeat' first|simp (disch:=omega) only[go_sem,aF,aG,aH,Int.natCast_add,Int.cast_ofNat_Int]|refine aE ?_|refine cW co ?_|refine cW ca ?_|refine aD ?_ ?_<;>intro hw<;>try omega|fail
  exact fH (by rw[<-hE];exact View.eqv (bB _).symm (fQ _)) (bL.refl (bP _ _ _))
 ·obtain rfl:lvl=7:=by omega
  repeat' first|simp (disch:=omega) only[go_sem,aF,aG,aH,Int.natCast_add,Int.cast_ofNat_Int]|refine aE ?_|refine cW ca ?_|refine aD ?_ ?_<;>intro hw<;>try omega|fail
  exact fH (by rw[<-hE];exact View.eqv (bB _).symm (fQ _)) (bL.refl (bP _ _ _))
