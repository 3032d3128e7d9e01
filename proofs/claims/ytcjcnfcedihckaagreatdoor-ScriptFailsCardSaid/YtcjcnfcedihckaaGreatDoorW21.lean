/- Part. -/
import Derived.Test.YtcjcnfcedihckaaGreatDoorW20
set_option linter.all false
namespace Go.Proofs.YtcjcnfcedihckaaGreatDoor
open Go.AM
set_option maxRecDepth 4000
def kD(T:List Tok)(r:RS)(k:Int)(s:aI): RS:=⟨r.x,tC T r.p r.bad k s,r.bad || !(gX T r.p r.bad k s)⟩
def rh(rd:Nat->Nat->RS)(lvl p:Nat)(b:Bool): RS:=if b then⟨x0,p,true⟩else rd lvl p
def yV(v:ez)(p:Nat): RS:=⟨.mk 1 v [] [],p,false⟩
def nM(rd:Nat->Nat->RS)(T:List Tok)(p:Nat): RS :=
 if nI T p 4 [40]then kD T (rd 0 (p+1)) 4 [41]
 else if(T.getD p default).kind=2 then yV ⟨1,(T.getD p default).n,[]⟩ (p+1)
 else if(T.getD p default).kind=3 then yV ⟨2,0,(T.getD p default).s⟩ (p+1)
 else if(T.getD p default).kind=1 then
  (match yj (T.getD p default).s with
  | some v=>yV v (p+1)
  | none=>if fh (T.getD p default).s then⟨.mk 2 v0 (T.getD p default).s [],p+1,false⟩else ⟨x0,p,true⟩)
 else⟨x0,p,true⟩
def thenS: aI:=[116,104,101,110]
def D2: aI:=[101,108,115,101]
def n7(rd:Nat->Nat->RS)(T:List Tok)(p:Nat): RS:=kD T (rd 0 p) 1 thenS
def vo(rd:Nat->Nat->RS)(T:List Tok)(p:Nat): RS:=kD T (rh rd 0 (n7 rd T p).p (n7 rd T p).bad) 1 D2
def CQ(rd:Nat->Nat->RS)(T:List Tok)(p:Nat): RS:=rh rd 0 (vo rd T p).p (vo rd T p).bad
def KW(rd:Nat->Nat->RS)(T:List Tok)(p:Nat): RS:=⟨.mk 16 v0 [] [(n7 rd T p).x,(vo rd T p).x,(CQ rd T p).x],(CQ rd T p).p,(CQ rd T p).bad⟩
def cN(T:List Tok): Nat->Option Expr->Nat->Nat->RS
 | 0,_,_,p=>⟨x0,p,true⟩
 | f + 1, none, lvl, p =>
   if lvl=0 then(if nI T p 1 [105,102]then KW (fun l q=>cN T f none l q) T (p+1)else cN T f none 1 p)
   else if lvl=6/\nI T p 4 [45]=true then⟨.mk 3 v0 [] [(cN T f none 6 (p+1)).x],(cN T f none 6 (p+1)).p,(cN T f none 6 (p+1)).bad⟩
   else if 6<=lvl then nM (fun l q=>cN T f none l q) T p
   else if(cN T f none (lvl+1) p).bad then cN T f none (lvl+1) p
   else cN T f (some (cN T f none (lvl+1) p).x) lvl (cN T f none (lvl+1) p).p
 | f + 1, some x, lvl, p =>
   match xo T p false lvl with
   | none=>⟨x,p,false⟩
   | some o =>
     if lvl=3\/(cN T f none (lvl+1) (p+1)).bad=true then⟨.mk o.op v0 [] [x,(cN T f none (lvl+1) (p+1)).x],(cN T f none (lvl+1) (p+1)).p,(cN T f none (lvl+1) (p+1)).bad⟩
     else cN T f (some (.mk o.op v0 [] [x,(cN T f none (lvl+1) (p+1)).x])) lvl (cN T f none (lvl+1) (p+1)).p
def oP{T:List Tok}{p:Nat}{k:Int}{s:aI}(h:nI T p k s=true): p<T.length:=by
 simp only[nI,aq,decide_eq_true_eq]at h;exact h.1
def n8{T:List Tok}{p:Nat}{b:Bool}{k:Int}{s:aI}(h:gX T p b k s=true): p<T.length/\b=false:=by
 simp only[gX,aq,cF]at h;exact⟨oP h.2,h.1⟩
def CU{T:List Tok}{p:Nat}{b:Bool}{lvl:Int}{o:Bq}(h:xo T p b lvl=some o): p<T.length/\b=false/\o ∈ jM/\o.level=lvl:=by
 have h1:=dW h;simp only[aq,beq_iff_eq]at h1;exact⟨(n8 h1.2).1,(n8 h1.2).2,fS h,h1.1⟩
def jN(n p:Nat)(r:RS): Prop:=p<=r.p/\r.p<=n/\(r.bad=false->p<r.p)
def vp{T:List Tok}{p:Nat}{r:RS}(k:Int)(s:aI)(h:jN T.length p r): jN T.length p (kD T r k s):=by
 obtain⟨h1,h2,h3⟩:=h;unfold kD jN tC;dsimp only;by_cases ho:gX T r.p r.bad k s=true
 ·have:=n8 ho;have h4:=h3 this.2;rw[if_pos ho];refine⟨by omega,by omega,fun _=>by omega⟩
 ·rw[if_neg ho];refine⟨h1,h2,fun h=>?_⟩;simp only[Bool.not_eq_true]at ho;rw[ho]at h;simp at h
def FU{T:List Tok}{rd:Nat->Nat->RS}(hrd:∀ l q,q<=T.length->jN T.length q (rd l q)){l q:Nat}{b:Bool}(hq:q<=T.length): jN T.length q (rh rd l q b):=by
 unfold rh;split
 ·exact⟨Nat.le_refl _,hq,fun h=>by cases h⟩
 ·exact hrd l q hq
def jN.from{n p q:Nat}{r:RS}(h:jN n q r)(hpq:p<=q): jN n p r:=⟨cE hpq h.1,h.2.1,fun hb=>Nat.lt_of_le_of_lt hpq (h.2.2 hb)⟩
def AA{T:List Tok}{rd:Nat->Nat->RS}(hrd:∀ l q,q<=T.length->jN T.length q (rd l q)){p:Nat}(hp:p<=T.length): jN T.length p (n7 rd T p):=vp _ _ (hrd 0 p hp)
def AB{T:List Tok}{rd:Nat->Nat->RS}(hrd:∀ l q,q<=T.length->jN T.length q (rd l q)){p:Nat}(hp:p<=T.length): jN T.length (n7 rd T p).p (vo rd T p):=vp _ _ (FU hrd (AA hrd hp).2.1)
def Ye{T:List Tok}{rd:Nat->Nat->RS}(hrd:∀ l q,q<=T.length->jN T.length q (rd l q)){p:Nat}(hp:p<=T.length): jN T.length (vo rd T p).p (CQ rd T p):=FU hrd (AB hrd hp).2.1
def Vv{T:List Tok}{rd:Nat->Nat->RS}(hrd:∀ l q,q<=T.length->jN T.length q (rd l q)){p:Nat}(hp:p<=T.length): jN T.length p (nM rd T p):=by
 have stay:∀ x,jN T.length p ⟨x,p,true⟩:=fun x=>⟨Nat.le_refl _,hp,fun h=>by cases h⟩;have k0:¬ p<T.length->(T.getD p default).kind=0:=fun h=>by rw[oA (by omega)];rfl
 have step:(T.getD p default).kind≠0-> ∀ x,jN T.length p ⟨x,p+1,false⟩:=fun hk x=>by
  have:p<T.length:=by
   by_cases h:p<T.length
   ·exact h
   ·exact absurd (k0 h) hk
  exact⟨Nat.le_succ _,this,fun _=>Nat.lt_succ_self _⟩
 unfold nM;split
 ·rename_i h;exact vp _ _ ((hrd 0 (p+1) (oP h)).from (Nat.le_succ _))
 ·split
  ·exact step (by omega) _
  ·split
   ·exact step (by omega) _
   ·split
    ·split
     ·exact step (by omega) _
     ·split
      ·exact step (by omega) _
      ·exact stay _
    ·exact stay _
def sy(T:List Tok)(f:Nat): ∀(m:Option Expr) (lvl p:Nat),p<=T.length->(m=none->jN T.length p (cN T f m lvl p))/\p<=(cN T f m lvl p).p/\(cN T f m lvl p).p<=T.length:=by
 induction f with
 | zero =>
   intro m lvl p hp;simp only[cN];exact⟨fun _=>⟨Nat.le_refl _,hp,fun h=>by cases h⟩,Nat.le_refl _,hp⟩
 | succ f ih =>
   intro m lvl p hp;have hrd:∀ l q,q<=T.length->jN T.length q (cN T f none l q):=fun l q hq=>(ih none l q hq).1 rfl;cases m with
   | none =>
     have:jN T.length p (cN T (f+1) none lvl p):=by
      simp only[cN];split
      ·split
       ·rename_i h;have h1:=oP h;have a:=AA hrd (p:=p+1) h1;have b:=AB hrd (p:=p+1) h1;have c:=Ye hrd (p:=p+1) h1;exact(show jN T.length (vo (fun l q=>cN T f none l q) T (p+1)).p (KW (fun l q=>cN T f none l q) T (p+1)) from⟨c.1,c.2.1,c.2.2⟩).from (cE (Nat.le_succ _) (cE a.1 b.1))
       ·exact hrd 1 p hp
      ·split
       ·rename_i h;have h1:=oP h.2;have c:=hrd 6 (p+1) h1;exact(show jN T.length (p+1) ⟨_,_,_⟩ from⟨c.1,c.2.1,c.2.2⟩).from (Nat.le_succ _)
       ·split
        ·exact Vv hrd hp
        ·split
         ·exact hrd _ _ hp
         ·rename_i hb;have a:=hrd (lvl+1) p hp;have b:=ih (some (cN T f none (lvl+1) p).x) lvl _ a.2.1;have:=a.2.2 (by simpa using hb);exact⟨by omega,b.2.2,fun _=>by omega⟩
     exact⟨fun _=>this,this.1,this.2.1⟩
   | some x =>
     refine⟨fun h=>(by cases h),?_⟩;simp only[cN];split
     ·exact⟨Nat.le_refl _,hp⟩
     ·rename_i o ho;have h1:=(CU ho).1;have a:=hrd (lvl+1) (p+1) h1;split
      ·exact⟨by have:=a.1;dsimp only;omega,a.2.1⟩
      ·have b:=ih (some (.mk o.op v0 [] [x,(cN T f none (lvl+1) (p+1)).x])) lvl _ a.2.1;exact⟨by have:=a.1;omega,b.2.2⟩
def qu{σ : ae}{op vk vn:Int}{vs s:aI}{L:AV}{l:List Expr}(hL:View σ L (.aO false EX (l.map bg))): View σ (.agg [I op,I vk,I vn,.str vs,.str s,L]) (bg (.mk op ⟨vk,vn,vs⟩ s l)):=by
 rw[bG];refine View.s5 (.cons (.refl _ rfl) (.cons (.refl _ rfl) (.cons (.refl _ rfl) (.cons (.refl _ rfl) (.cons (.refl _ rfl) (.cons ?_ (.nil _)))))));exact hL
def yl(T:List Tok)(n:FuncId)(rd:Nat->Nat->RS)(l q:Nat): Prop:=c_ aK n 0 [I l] (dM T q false) (dM T (rd l q).p (rd l q).bad) (bg (rd l q).x)
def pS(T:List Tok)(p:Nat)(k:Int)(s:aI)(o:Bool)(hk:k≠0)(hp:p<=2 ^ 61)(h:nI T p k s=o): c_ aK 310 0 [I k,.str s] (dM T p false) (dM T (if o then p+1 else p) false) (.bool o):=by
 have:=CP T p false k s hk hp;unfold tC at this;rw[show gX T p false k s=o from h]at this;cases o
 ·simpa using this
 ·simpa using this
def PZ (T : List Tok) (p : Nat) (rd : Nat -> Nat -> RS) (hp : p <= T.length) (hT : T.length <= 2 ^ 60) (hs : ∀ q, (T.getD q default).s.length <= 2 ^ 62)
    (hrd:nI T p 4 [40]=true->yl T 292 rd 0 (p+1)/\(rd 0 (p+1)).p<=T.length) :
    c_ aK 312 0 [] (dM T p false) (dM T (nM rd T p).p (nM rd T p).bad) (bg (nM rd T p).x):=by
 have sr:=fun o (ho:nI T p 4 [40]=o)=>pS T p 4 [40] o (by decide) (by omega) ho;have Hq:=Hp T p false;have hsp:=hs p;simp only[CO,aB,if_false]at Hq;by_cases Jw:nI T p 4 [40]=true
 ·have ha:nM rd T p=kD T (rd 0 (p+1)) 4 [41]:=by unfold nM;rw[if_pos Jw]
  obtain⟨hr,hb⟩:=hrd Jw;unfold yl at hr;rw[ha];have sr:=sr true Jw;generalize rd 0 (p+1)=r at *;have hm:=yU T r.p r.bad 4 [41] (by decide) (by omega);rw[bG]at hr;simp only[dM,if_true]at sr hr hm;generalize hE:bg _=E;refine c_.gj (ik.go ?_) rfl (bW _ _ _);unfold eY;intro Q aC aD aE;repeat' first|refine aG ?_|refine c8 sr ?_|refine c8 hr ?_|refine c8 hm ?_|refine aF ?_ ?_<;>intro hw<;>try omega|fail
  exact fQ (View.eqv (by rw[<-hE];exact(bG _).symm) (by rw[<-hE];exact fX _)) (bS.refl (bW _ _ _))
 have ZR:nI T p 4 [40]=false:=by simpa using Jw
 have sr:=sr false ZR;simp only[dM,aB,if_false]at sr Hq;have ha:nM rd T p=(if(T.getD p default).kind=2 then yV ⟨1,(T.getD p default).n,[]⟩ (p+1)
 else if(T.getD p default).kind=3 then yV ⟨2,0,(T.getD p default).s⟩ (p+1)
 else if(T.getD p default).kind=1 then
  (match yj (T.getD p default).s with
  | some v=>yV v (p+1)
  | none=>if fh (T.getD p default).s then⟨.mk 2 v0 (T.getD p default).s [],p+1,false⟩else ⟨x0,p,true⟩)
 else⟨x0,p,true⟩:RS):=by unfold nM;rw[if_neg Jw]<;>rfl
 rw[ha];clear ha hrd hs Jw ZR;generalize T.getD p default=t at *;obtain⟨tk,ts,tn,tp⟩:=t;simp only[o8]at Hq hsp ⊢;have hname:=uy ts hsp;have hword:=NU ts;by_cases h2:tk=2
 ·rw[if_pos h2];generalize hE:bg _=E;refine c_.gj (ik.go ?_) rfl (bW _ _ _);unfold eY;intro Q aC aD aE;repeat' first|refine aG ?_|refine c8 sr ?_|refine c8 Hq ?_|refine aF ?_ ?_<;>intro hw<;>try omega|fail
  exact fQ (by rw[<-hE];exact qu (.au _)) (bS.eqv rfl (bW T (p+1) false))
 rw[if_neg h2];by_cases h3:tk=3
 ·rw[if_pos h3];generalize hE:bg _=E;refine c_.gj (ik.go ?_) rfl (bW _ _ _);unfold eY;intro Q aC aD aE;repeat' first|refine aG ?_|refine c8 sr ?_|refine c8 Hq ?_|refine aF ?_ ?_<;>intro hw<;>try omega|fail
  exact fQ (by rw[<-hE];exact qu (.au _)) (bS.eqv rfl (bW T (p+1) false))
 rw[if_neg h3];by_cases h1:tk=1
 case neg =>
  rw[if_neg h1];generalize hE:bg _=E;refine c_.gj (ik.go ?_) rfl (bW _ _ _);unfold eY;intro Q aC aD aE;repeat' first|refine aG ?_|refine c8 sr ?_|refine c8 Hq ?_|refine aF ?_ ?_<;>intro hw<;>try omega|fail
  exact fQ (by rw[<-hE];exact qu (.au _)) (bS.eqv rfl (bW T p true))
 rw[if_pos h1];cases hw:yj ts with
 | some v =>
   rw[hw]at hword;simp only[bA,Option.isSome_some,fD]at hword;dsimp only;generalize hE:bg _=E;refine c_.gj (ik.go ?_) rfl (bW _ _ _);unfold eY;intro Q aC aD aE;repeat' first|refine aG ?_|refine c8 sr ?_|refine c8 Hq ?_|refine aF ?_ ?_<;>intro hw<;>try omega|fail
   exact fQ (by rw[<-hE];exact qu (.au _)) (bS.eqv rfl (bW T (p+1) false))
 | none =>
   rw[hw]at hword;simp only[Option.getD_none,Option.isSome_none,fD,v0]at hword;dsimp only;cases hn:fh ts with
   | true =>
     rw[hn]at hname;simp only[if_true];generalize hE:bg _=E;refine c_.gj (ik.go ?_) rfl (bW _ _ _);unfold eY;intro Q aC aD aE;repeat' first|refine aG ?_|refine c8 sr ?_|refine c8 Hq ?_|refine aF ?_ ?_<;>intro hw<;>try omega|fail
     exact fQ (by rw[<-hE];exact qu (.au _)) (bS.eqv rfl (bW T (p+1) false))
   | false =>
     rw[hn]at hname;simp only[aB,if_false];generalize hE:bg _=E;refine c_.gj (ik.go ?_) rfl (bW _ _ _);unfold eY;intro Q aC aD aE;repeat' first|refine aG ?_|refine c8 sr ?_|refine c8 Hq ?_|refine aF ?_ ?_<;>intro hw<;>try omega|fail
     exact fQ (by rw[<-hE];exact qu (.au _)) (bS.eqv rfl (bW T p true))
def NV {T : List Tok} {n : FuncId} {rd : Nat -> Nat -> RS} {l q : Nat} {b : Bool} (h : b = false -> yl T n rd l q) (CV : c_ aK n 0 [I l] (dM T q true) (dM T q true) (bg x0)) :
    c_ aK n 0 [I l] (dM T q b) (dM T (rh rd l q b).p (rh rd l q b).bad) (bg (rh rd l q b).x):=by
 cases b with
 | true=>exact CV
 | false=>exact h rfl
def Mu (T : List Tok) (p : Nat) (rd : Nat -> Nat -> RS) (hp : p <= T.length) (hT : T.length <= 2 ^ 60) (tW : ∀ l q, q <= T.length -> jN T.length q (rd l q))
    (CV:∀ q,c_ aK 292 0 [I 0] (dM T q true) (dM T q true) (bg x0)) (hrd:∀ q,p<=q->q<=T.length->yl T 292 rd 0 q) :
    c_ aK 311 0 [] (dM T p false) (dM T (KW rd T p).p (KW rd T p).bad) (bg (KW rd T p).x):=by
 have ga:=AA tW hp;have gb:=AB tW hp;have g0:=tW 0 p hp;have g1:=FU tW (l:=0) (b:=(n7 rd T p).bad) ga.2.1;have c1:=hrd p (Nat.le_refl _) hp;have m1:=yU T (rd 0 p).p (rd 0 p).bad 1 thenS (by decide) (by have:=g0.2.1;omega);have c2:=NV (l:=0) (q:=(n7 rd T p).p) (b:=(n7 rd T p).bad) (fun _=>hrd _ ga.1 ga.2.1) (CV _);have m2:=yU T (rh rd 0 (n7 rd T p).p (n7 rd T p).bad).p (rh rd 0 (n7 rd T p).p (n7 rd T p).bad).bad 1 D2 (by decide) (by have:=g1.2.1;omega);have c3:=NV (l:=0) (q:=(vo rd T p).p) (b:=(vo rd T p).bad) (fun _=>hrd _ (cE ga.1 gb.1) gb.2.1) (CV _)
 change c_ _ _ _ _ _ (dM T (n7 rd T p).p (n7 rd T p).bad) _ at m1
 change c_ _ _ _ _ _ (dM T (vo rd T p).p (vo rd T p).bad) _ at m2
 change c_ _ _ _ _ _ (dM T (CQ rd T p).p (CQ rd T p).bad) (bg (CQ rd T p).x)at c3
 unfold yl at c1;simp only[KW];have xa:(n7 rd T p).x=(rd 0 p).x:=rfl;have xb:(vo rd T p).x=(rh rd 0 (n7 rd T p).p (n7 rd T p).bad).x:=rfl;rw[xa,xb];generalize rh rd 0 (n7 rd T p).p (n7 rd T p).bad=rb at *;generalize n7 rd T p=ra at *;generalize vo rd T p=rb2 at *;generalize CQ rd T p=rc at *;generalize rd 0 p=r1 at *;rw[bG]at c1 c2 c3;simp only[dM,thenS,D2]at c1 m1 c2 m2 c3;generalize hE:bg _=E;refine c_.gj (xN.go ?_) rfl (bW _ _ _);unfold eY;intro Q aC aD aE;repeat' first|refine aG ?_|refine c8 c1 ?_|refine c8 m1 ?_|refine c8 c2 ?_|refine c8 m2 ?_|refine c8 c3 ?_|refine aF ?_ ?_<;>intro hw<;>try omega|fail
 refine fQ ?_ (bS.refl (bW _ _ _));rw[<-hE];refine qu ?_;rw[aU,aU,aU,bf,bG,bG,bG];refine View.weak _ _ _ ?_;simp
@[go_sem ↓] def aer (l:Nat) (J:Env->ae->Prop) (Q:AQ) (e:Env) (σ : ae):sX l J Q (.goto l) e σ = J e σ:=by simp[sX]
def Rh{e':Env}: ∀(l:List (Nat × AV)),At l e'->puts l e'=e'
 | [],_=>rfl
 | (d, v) :: l, h => by
   simp only[puts];rw[Rh l (fun p hp=>h p (bI _ hp))];exact nB (h (d,v) (by simp))
def aaP {P : Program} {l : Nat} {c r : dy} {Q : AQ} {e : Env} {σ : ae} {α : Type} (cs : α -> List (Nat × AV)) (S : α -> ae) (A : α -> Prop) (μ : α -> Nat)
    (hb:jm P c (sX l (fun e' σ'=> ∃ x,A x/\σ'=S x/\At (cs x) e') Q) e σ)
    (hr:∀ x r0,A x->jm P r (sX l (fun e' σ'=> ∃ x',A x'/\ μ x' < μ x/\σ'=S x'/\At (cs x') e') Q) (puts (cs x) r0) (S x)):Nk P (.mk:Tg (l,c,r,Q,e,σ)):=by
 refine⟨fun n e' σ'=> ∃ x,A x/\At (cs x) e'/\σ'=S x/\ μ x=n,Al (fun ex e2 σ2 hq=>?_) _ _ hb,?_⟩
 ·cases ex<;>try exact hq
  obtain⟨h1,x,a,hs,ht⟩:=hq;exact⟨h1,_,x,a,ht,hs,rfl⟩
 ·rintro n e' σ' ⟨x1,a1,t1,rfl,rfl⟩;have h:=hr x1 e' a1;rw[Rh _ t1]at h;refine Al (fun ex e2 σ2 hq=>?_) _ _ h;cases ex<;>try exact hq
  obtain⟨h1,x',a',hm,hs,ht⟩:=hq;exact⟨h1,_,hm,x',a',ht,hs,rfl⟩
def tD(op:Int)(zs:List AV): List AV:=[I op,I 0,I 0,.str [],.str [],.aO true EX zs]
def D3{σ : ae}{op:Int}{zs:List AV}{l:List Expr}(h:bS [] zs (l.map bg)): View σ (.agg (tD op zs)) (bg (.mk op v0 [] l)) :=
 View.mono (σ:=[]) (fun _ _ h=>by simp at h) (qu (View.aci h))
def Hr{a b:AV}{x y:Expr}(h:View [] a (bg x))(h2:View [] b (bg y)): bS [] [a,b] ([x,y].map bg):= .cons h (.cons h2 (.nil _))
def S4{op:Int}{zs:List AV}(h:AV.cB zs=true): AV.cB (tD op zs)=true:=by simp[tD,AV.dF,AV.cB,h]
structure Lp where
 op:Int
 l:List Expr
 zs:List AV
 p:Nat
 f:Nat
def Hs(T:List Tok)(lvl:Int)(p:Nat): c_ aK 292 0 [I lvl] (dM T p true) (dM T p true) (bg x0):=by
 generalize hE:bg x0=E;refine c_.gj (fF.go ?_) rfl (bW _ _ _);unfold eY;intro Q aC aD aE;repeat' first|refine aG ?_|refine aF ?_ ?_<;>intro hw<;>try omega|fail
 exact fQ (by rw[<-hE];exact qu (.au _)) (bS.refl (bW T p true))
def Jx (T : List Tok) (hT : T.length <= 2 ^ 60) (rd : Nat -> Nat -> RS) (f lvl p : Nat) (h1 : 1 <= lvl) (h5 : lvl <= 5) (hp : p <= T.length) (hf : 8 * (T.length - p) + (8 - lvl) <= f) (hrd : rd = fun l q => cN T f none l q)
    (ih:∀ j,j<=f-> ∀ l q,l<=7->q<=T.length->8*(T.length-q)+(8-l)<j->yl T 292 (fun l q=>cN T j none l q) l q) :
    c_ aK 292 0 [I lvl] (dM T p false) (dM T (cN T (f+1) none lvl p).p (cN T (f+1) none lvl p).bad) (bg (cN T (f+1) none lvl p).x):=by
 have ga:=(sy T f none (lvl+1) p hp).1 rfl;have ca:=ih f (Nat.le_refl _) (lvl+1) p (by omega) hp (by omega);simp only[yl]at ca;obtain⟨ga1,ga2,ga3⟩:=ga
 have hR:cN T (f+1) none lvl p=if(cN T f none (lvl+1) p).bad then cN T f none (lvl+1) p else cN T f (some (cN T f none (lvl+1) p).x) lvl (cN T f none (lvl+1) p).p:=by
  rw[cN];rw[if_neg (by omega),if_neg (by omega),if_neg (by omega)]
 generalize cN T (f+1) none lvl p=R at *;generalize cN T f none (lvl+1) p=a at *;obtain⟨ax,ap,ab⟩:=a;dsimp only at *;have cb:=Br T ap ab lvl (by omega);rw[bG]at ca;cases ab with
 | true =>
   simp only[if_true]at hR;subst hR;dsimp only
   have hn:xo T ap true lvl=none:=by
    cases ho:xo T ap true lvl with
    | none=>rfl
    | some o=>have:=(CU ho).2.1;cases this
   simp only[KV,hn,NS,Option.isSome_none,aB,if_false]at cb;generalize hE:bg ax=E;simp only[dM,Int.natCast_add,Int.cast_ofNat_Int]at ca cb;refine c_.gj (fF.go ?_) rfl (bW _ _ _);unfold eY;intro Q aC aD aE;repeat' first|simp (disch:=omega) only[go_sem,aC,aD,aE,Int.natCast_add,Int.cast_ofNat_Int]|refine aG ?_|refine c8 ca ?_|refine c8 cb ?_|refine aF ?_ ?_<;>intro hw<;>try omega|fail
   exact fQ (by rw[<-hE];exact View.eqv (bG _).symm (fX _)) (bS.refl (bW _ _ _))
 | false =>
   simp only[aB,if_false]at hR;have gp:=ga3 rfl;obtain⟨f,rfl⟩:∃ f',f=f'+1:=⟨f-1,by omega⟩;rw[cN]at hR;have e0:∀ σ : ae,View σ (.agg [I ax.op,I ax.v.kind,I ax.v.n,.str ax.v.s,.str ax.s,.aO false EX (ax.l.map bg)]) (bg ax):=fun σ=>View.eqv (bG _).symm (fX _);cases ho:xo T ap false lvl with
   | none =>
     rw[ho]at hR;dsimp only at hR;subst hR;dsimp only;simp only[KV,ho,NS,Option.isSome_none,aB,if_false]at cb;generalize hE:bg ax=E at *;simp only[dM,Int.natCast_add,Int.cast_ofNat_Int]at ca cb;refine c_.gj (fF.go ?_) rfl (bW _ _ _);unfold eY;intro Q aC aD aE;repeat' first|simp (disch:=omega) only[go_sem,aC,aD,aE,Int.natCast_add,Int.cast_ofNat_Int]|refine aG ?_|refine c8 ca ?_|refine c8 cb ?_|refine aF ?_ ?_<;>intro hw<;>try omega|fail
     exact fQ (e0 _) (bS.refl (bW _ _ _))
   | some o =>
     rw[ho]at hR;dsimp only at hR;obtain⟨KX,_,Ht,Vw⟩:=CU ho
     have hop:o.op≠0:=by
      intro h;simp only[jM,List.mem_cons,List.not_mem_nil,or_false]at Ht;rcases Ht with rfl|rfl|rfl|rfl|rfl|rfl|rfl|rfl|rfl|rfl|rfl|rfl<;>simp at h
     have cc:=ih f (by omega) (lvl+1) (ap+1) (by omega) (by omega) (by omega);have gc:=(sy T f none (lvl+1) (ap+1) (by omega)).1 rfl;obtain⟨gc1,gc2,gc3⟩:=gc;simp only[yl]at cc;simp only[KV,ho,NS,Option.isSome_some,if_true]at cb;generalize cN T f none (lvl+1) (ap+1)=c at *;obtain⟨cx,cp,S5⟩:=c;dsimp only at *;by_cases hend:lvl=3\/S5=true
     ·rw[if_pos hend]at hR;subst hR;dsimp only;have e1:∀ σ : ae,View σ (.agg (tD o.op [.agg [I ax.op,I ax.v.kind,I ax.v.n,.str ax.v.s,.str ax.s,.aO false EX (ax.l.map bg)],bg cx])) (bg (.mk o.op v0 [] [ax,cx])):=fun σ=>D3 (Hr (e0 _) (.refl _ (fX _)));rw[bG cx]at e1 cc;generalize hE:bg (.mk o.op v0 [] [ax,cx])=E at *;simp only[dM,Int.natCast_add,Int.cast_ofNat_Int]at ca cb cc;have h3:¬ (¬ lvl=3/\S5=false):=by rcases hend with h|h<;>simp[h]
      refine c_.gj (fF.go ?_) rfl (bW _ _ _);unfold eY;intro Q aC aD aE;rcases hend with hend|hend
      ·subst hend;repeat' first|simp (disch:=omega) only[go_sem,aC,aD,aE,Int.natCast_add,Int.cast_ofNat_Int]|refine aG ?_|refine c8 ca ?_|refine c8 cb ?_|refine c8 cc ?_|refine aF ?_ ?_<;>intro hw<;>try omega|fail
       all_goals first|exact fQ (e1 _) (bS.refl (bW _ _ _))|(exfalso;omega)
      ·subst hend;repeat' first|simp (disch:=omega) only[go_sem,aC,aD,aE,Int.natCast_add,Int.cast_ofNat_Int]|refine aG ?_|refine c8 ca ?_|refine c8 cb ?_|refine c8 cc ?_|refine aF ?_ ?_<;>intro hw<;>try omega|fail
       all_goals first|exact fQ (e1 _) (bS.refl (bW _ _ _))|(exfalso;omega)
     ·rw[if_neg hend]at hR;have hl3:lvl≠3:=fun h=>hend (.inl h)
      have hcb:S5=false:=by cases S5 with
       | false=>rfl
       | true=>exact absurd (.inr rfl) hend
      subst hcb;have e2:=e0 [];rw[bG cx]at cc;simp only[dM,Int.natCast_add,Int.cast_ofNat_Int]at ca cb cc;have gq:=gc3 rfl;refine c_.gj (fF.go ?_) rfl (bW _ _ _);unfold eY;intro Q aC aD aE;repeat' first|refine gn_ ?_|refine aF ?_ ?_<;>intro hw<;>try omega|fail
      with_reducible refine aaP (fun x:Lp=>[(0,.ref 0 0),(1,I lvl),(4,.ref 1 0),(5,.ref 2 0)]) (fun x=>[.cells [.aO false ET (T.map o8),I x.p,.bool false],.cells [I 0,I 0,I 0,.str [],.str [],.au],.cells [I x.op,I 0,I 0,.str [],.str [],.aO true EX x.zs]]) (fun x=>(bS [] x.zs (x.l.map bg)/\AV.cB x.zs=true)/\x.p<=T.length/\8*(T.length-x.p)+8<=x.f/\x.f<=f/\R=cN T x.f (some (.mk x.op v0 [] x.l)) lvl x.p) (fun x=>x.f) ?_ ?_
      ·repeat' first|simp (disch:=omega) only[go_sem,aC,aD,aE,Int.natCast_add,Int.cast_ofNat_Int]|refine aG ?_|refine c8 ca ?_|refine c8 cb ?_|refine c8 cc ?_|refine aF ?_ ?_<;>intro hw<;>try omega|fail
       refine⟨⟨o.op,[ax,cx],[.agg [I ax.op,I ax.v.kind,I ax.v.n,.str ax.v.s,.str ax.s,.aO false EX (ax.l.map bg)],bg cx],cp,f⟩,⟨⟨Hr e2 (.refl _ (fX _)),by simp⟩,gc2,by dsimp only;omega,Nat.le_refl _,hR⟩,?_,at_⟩;rw[bG cx]
      ·clear ca cb cc;rintro⟨KY,xl,xz,xp,xf⟩ r0 ⟨⟨a1,a2⟩,a3,a4,a5,a6⟩;dsimp only at a1 a2 a3 a4 a5 a6;obtain⟨j,rfl⟩:∃ j,xf=j+1:=⟨xf-1,by omega⟩;have cb:=Br T xp false lvl (by omega);rw[cN]at a6;clear hR;cases hq:xo T xp false lvl with
       | none =>
         rw[hq]at a6;dsimp only at a6;subst a6;dsimp only at aC aD aE;simp only[KV,hq,NS,Option.isSome_none,aB,if_false,dM,Int.natCast_add,Int.cast_ofNat_Int]at cb;have ev:∀ σ : ae,View σ (.agg (tD KY xz)) (bg (.mk KY v0 [] xl)):=fun σ=>D3 a1;generalize hE:bg (.mk KY v0 [] xl)=E at *;repeat' first|simp (disch:=omega) only[go_sem,aC,aD,aE,Int.natCast_add,Int.cast_ofNat_Int]|refine aG ?_|refine c8 cb ?_|refine aF ?_ ?_<;>intro hw<;>try omega|fail
         exact fQ (ev _) (bS.refl (bW _ _ _))
       | some o2 =>
         rw[hq]at a6;dsimp only at a6;obtain⟨zb,_,Nc,hp3⟩:=CU hq
         have ahR:o2.op≠0:=by
          intro h;simp only[jM,List.mem_cons,List.not_mem_nil,or_false]at Nc;rcases Nc with rfl|rfl|rfl|rfl|rfl|rfl|rfl|rfl|rfl|rfl|rfl|rfl<;>simp at h
         have cc:=ih j (by omega) (lvl+1) (xp+1) (by omega) (by omega) (by omega);obtain⟨gd1,gd2,gd3⟩:=(sy T j none (lvl+1) (xp+1) (by omega)).1 rfl;simp only[yl]at cc;simp only[KV,hq,NS,Option.isSome_some,if_true,dM,Int.natCast_add,Int.cast_ofNat_Int]at cb;generalize cN T j none (lvl+1) (xp+1)=d at *;obtain⟨dx,dp,db⟩:=d;dsimp only at *;have e1:∀ σ : ae,View σ (.agg (tD o2.op [.agg (tD KY xz),bg dx])) (bg (.mk o2.op v0 [] [.mk KY v0 [] xl,dx])):=fun σ=>D3 (Hr (D3 a1) (.refl _ (fX _)));rw[bG dx]at cc e1;simp only[dM,Int.natCast_add,Int.cast_ofNat_Int]at cc;cases db with
         | true =>
           rw[if_pos (.inr rfl)]at a6;subst a6;dsimp only at aC aD aE;generalize hE:bg (.mk o2.op v0 [] [.mk KY v0 [] xl,dx])=E at *;repeat' first|simp (disch:=omega) only[go_sem,aC,aD,aE,Int.natCast_add,Int.cast_ofNat_Int]|refine aG ?_|refine c8 cb ?_|refine c8 cc ?_|refine aF ?_ ?_<;>intro hw<;>try omega|fail
           all_goals first|exact fQ (e1 _) (bS.refl (bW _ _ _))|(exfalso;omega)
         | false =>
           rw[if_neg (by simp[hl3])]at a6;have gr:=gd3 rfl;repeat' first|simp (disch:=omega) only[go_sem,aC,aD,aE,Int.natCast_add,Int.cast_ofNat_Int]|refine aG ?_|refine c8 cb ?_|refine c8 cc ?_|refine aF ?_ ?_<;>intro hw<;>try omega|fail
           refine⟨⟨o2.op,[.mk KY v0 [] xl,dx],[.agg (tD KY xz),bg dx],dp,j⟩,⟨⟨Hr (D3 a1) (.refl _ (fX _)),by simp[AV.dF,AV.cB,S4 a2,fX]⟩,gd2,by dsimp only;omega,by dsimp only;omega,a6⟩,by dsimp only;omega,?_,at_⟩;rw[bG dx];rfl
def P2(T:List Tok)(hT:T.length<=2 ^ 60)(hs:∀ q,(T.getD q default).s.length<=2 ^ 62): ∀ f,∀ lvl p,lvl<=7->p<=T.length->8*(T.length-p)+(8-lvl)<f->yl T 292 (fun l q=>cN T f none l q) lvl p:=by
 intro f
 induction f using Nat.strongRecOn with
 | ind f ih =>
 intro lvl p hl hp hf;obtain⟨f,rfl⟩:∃ f',f=f'+1:=⟨f-1,by omega⟩;have ZS:=ih f (Nat.lt_succ_self _);have tW:∀ l q,q<=T.length->jN T.length q (cN T f none l q):=fun l q hq=>(sy T f none l q hq).1 rfl;simp only[yl];by_cases h5:1<=lvl/\lvl<=5
 ·exact Jx T hT _ f lvl p h5.1 h5.2 hp (by omega) rfl (fun j hj l q h1 h2 h3=>ih j (by omega) l q h1 h2 h3)
 by_cases h0:lvl=0
 ·subst h0
  have hR:cN T (f+1) none 0 p=if nI T p 1 [105,102]then KW (fun l q=>cN T f none l q) T (p+1)else cN T f none 1 p:=by
   rw[cN,if_pos rfl]
  by_cases hi:nI T p 1 [105,102]=true
  ·rw[if_pos hi]at hR;have zb:=oP hi;have co:=pS T p 1 [105,102] true (by decide) (by omega) hi;have cb:=Mu T (p+1) (fun l q=>cN T f none l q) zb hT tW (fun q=>Hs T 0 q) (fun q h1 h2=>ZS 0 q (by omega) h2 (by omega));rw[hR];generalize KW (fun l q=>cN T f none l q) T (p+1)=R at *;simp only[if_true]at co;generalize hE:bg R.x=E at *;have hEc:∃ cs,E = .agg cs:=⟨_,by rw[<-hE,bG]⟩;have hEp:E.dF=true:=by rw[<-hE];exact fX _
   rw[<-hE,bG]at cb;simp only[dM,Int.natCast_add,Int.cast_ofNat_Int]at co cb;refine c_.gj (fF.go ?_) rfl (bW _ _ _);unfold eY;intro Q aC aD aE;repeat' first|simp (disch:=omega) only[go_sem,aC,aD,aE,Int.natCast_add,Int.cast_ofNat_Int]|refine aG ?_|refine c8 co ?_|refine c8 cb ?_|refine aF ?_ ?_<;>intro hw<;>try omega|fail
   exact fQ (by rw[<-hE];exact View.eqv (bG _).symm (fX _)) (bS.refl (bW _ _ _))
  ·rw[if_neg hi]at hR;have hi':nI T p 1 [105,102]=false:=by simpa using hi
   have co:=pS T p 1 [105,102] false (by decide) (by omega) hi';have cr:=ZS 1 p (by omega) hp (by omega);rw[hR];simp only[yl]at cr;generalize cN T f none 1 p=R at *;generalize hE:bg R.x=E at *;rw[<-hE,bG]at cr;simp only[aB,if_false]at co;simp only[dM,Int.natCast_add,Int.cast_ofNat_Int]at co cr;refine c_.gj (fF.go ?_) rfl (bW _ _ _);unfold eY;intro Q aC aD aE;repeat' first|simp (disch:=omega) only[go_sem,aC,aD,aE,Int.natCast_add,Int.cast_ofNat_Int]|refine aG ?_|refine c8 co ?_|refine c8 cr ?_|refine aF ?_ ?_<;>intro hw<;>try omega|fail
   exact fQ (by rw[<-hE];exact View.eqv (bG _).symm (fX _)) (bS.refl (bW _ _ _))
 by_cases h6:lvl=6/\nI T p 4 [45]=true
 ·obtain⟨rfl,hi⟩:=h6;have zb:=oP hi
  have hR:cN T (f+1) none 6 p=⟨.mk 3 v0 [] [(cN T f none 6 (p+1)).x],(cN T f none 6 (p+1)).p,(cN T f none 6 (p+1)).bad⟩:=by
   rw[cN,if_neg h0,if_pos ⟨rfl,hi⟩]
  have co:=pS T p 4 [45] true (by decide) (by omega) hi;have cr:=ZS 6 (p+1) (by omega) zb (by omega);rw[hR];simp only[yl]at cr;generalize cN T f none 6 (p+1)=R at *;obtain⟨rx,rp,rb⟩:=R;dsimp only at *;have e1:∀ σ : ae,View σ (.agg (tD 3 [bg rx])) (bg (.mk 3 v0 [] [rx])):=fun σ=>D3 (.cons (.refl _ (fX _)) (.nil _));rw[bG rx]at e1 cr;generalize hE:bg (.mk 3 v0 [] [rx])=E at *;simp only[if_true]at co;simp only[dM,Int.natCast_add,Int.cast_ofNat_Int]at co cr;refine c_.gj (fF.go ?_) rfl (bW _ _ _);unfold eY;intro Q aC aD aE;repeat' first|simp (disch:=omega) only[go_sem,aC,aD,aE,Int.natCast_add,Int.cast_ofNat_Int]|refine aG ?_|refine c8 co ?_|refine c8 cr ?_|refine aF ?_ ?_<;>intro hw<;>try omega|fail
  exact fQ (e1 _) (bS.refl (bW _ _ _))
 have h67:6<=lvl:=by omega
 have hR:cN T (f+1) none lvl p=nM (fun l q=>cN T f none l q) T p:=by
  rw[cN,if_neg h0,if_neg h6,if_pos h67]
 have ca:=PZ T p (fun l q=>cN T f none l q) hp hT hs (fun h=>⟨ZS 0 (p+1) (by omega) (oP h) (by have:=oP h;omega),(tW 0 (p+1) (oP h)).2.1⟩);rw[hR];have co:=fun h=>pS T p 4 [45] false (by decide) (by omega) h
 have hno:lvl=6->nI T p 4 [45]=false:=fun h=>by
  cases hq:nI T p 4 [45]with
  | false=>rfl
  | true=>exact absurd ⟨h,hq⟩ h6
 generalize nM (fun l q=>cN T f none l q) T p=R at *;generalize hE:bg R.x=E at *;rw[<-hE,bG]at ca;simp only[aB,if_false]at co;simp only[dM,Int.natCast_add,Int.cast_ofNat_Int]at co ca;refine c_.gj (fF.go ?_) rfl (bW _ _ _);unfold eY;intro Q aC aD aE;by_cases hl6:lvl=6
 ·have co:=co (hno hl6);subst hl6;repeat' first|simp (disch:=omega) only[go_sem,aC,aD,aE,Int.natCast_add,Int.cast_ofNat_Int]|refine aG ?_|refine c8 co ?_|refine c8 ca ?_|refine aF ?_ ?_<;>intro hw<;>try omega|fail
  exact fQ (by rw[<-hE];exact View.eqv (bG _).symm (fX _)) (bS.refl (bW _ _ _))
 ·obtain rfl:lvl=7:=by omega
  repeat' first|simp (disch:=omega) only[go_sem,aC,aD,aE,Int.natCast_add,Int.cast_ofNat_Int]|refine aG ?_|refine c8 ca ?_|refine aF ?_ ?_<;>intro hw<;>try omega|fail
  exact fQ (by rw[<-hE];exact View.eqv (bG _).symm (fX _)) (bS.refl (bW _ _ _))
