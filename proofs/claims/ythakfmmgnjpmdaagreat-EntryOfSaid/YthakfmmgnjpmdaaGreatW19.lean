/- Part. -/
import Derived.Test.YthakfmmgnjpmdaaGreatW18
set_option linter.all false
namespace Go.Proofs.YthakfmmgnjpmdaaGreat
open Go.AM
set_option maxRecDepth 4000
def iH(T:List cg)(r:RS)(k:Int)(s:aS): RS:=⟨r.x,oS T r.p r.bad k s,r.bad || !(eG T r.p r.bad k s)⟩
def oT(rd:Nat->Nat->RS)(lvl p:Nat)(b:Bool): RS:=if b then⟨x0,p,true⟩else rd lvl p
def uG(v:aH)(p:Nat): RS:=⟨.mk 1 v [] [],p,false⟩
def jq(rd:Nat->Nat->RS)(T:List cg)(p:Nat): RS :=
 if jA T p 4 [40]then iH T (rd 0 (p+1)) 4 [41]
 else if(T.getD p default).kind=2 then uG ⟨1,(T.getD p default).n,[]⟩ (p+1)
 else if(T.getD p default).kind=3 then uG ⟨2,0,(T.getD p default).s⟩ (p+1)
 else if(T.getD p default).kind=1 then
  (match qS (T.getD p default).s with
  | some v=>uG v (p+1)
  | none=>if jH (T.getD p default).s then⟨.mk 2 v0 (T.getD p default).s [],p+1,false⟩else ⟨x0,p,true⟩)
 else⟨x0,p,true⟩
def thenS: aS:=[116,104,101,110]
def Bv: aS:=[101,108,115,101]
def j3(rd:Nat->Nat->RS)(T:List cg)(p:Nat): RS:=iH T (rd 0 p) 1 thenS
def qi(rd:Nat->Nat->RS)(T:List cg)(p:Nat): RS:=iH T (oT rd 0 (j3 rd T p).p (j3 rd T p).bad) 1 Bv
def xM(rd:Nat->Nat->RS)(T:List cg)(p:Nat): RS:=oT rd 0 (qi rd T p).p (qi rd T p).bad
def Ak(rd:Nat->Nat->RS)(T:List cg)(p:Nat): RS:=⟨.mk 16 v0 [] [(j3 rd T p).x,(qi rd T p).x,(xM rd T p).x],(xM rd T p).p,(xM rd T p).bad⟩
def bV(T:List cg): Nat->Option Expr->Nat->Nat->RS
 | 0,_,_,p=>⟨x0,p,true⟩
 | f + 1, none, lvl, p =>
   if lvl=0 then(if jA T p 1 [105,102]then Ak (fun l q=>bV T f none l q) T (p+1)else bV T f none 1 p)
   else if lvl=6/\jA T p 4 [45]=true then⟨.mk 3 v0 [] [(bV T f none 6 (p+1)).x],(bV T f none 6 (p+1)).p,(bV T f none 6 (p+1)).bad⟩
   else if 6<=lvl then jq (fun l q=>bV T f none l q) T p
   else if(bV T f none (lvl+1) p).bad then bV T f none (lvl+1) p
   else bV T f (some (bV T f none (lvl+1) p).x) lvl (bV T f none (lvl+1) p).p
 | f + 1, some x, lvl, p =>
   match uf T p false lvl with
   | none=>⟨x,p,false⟩
   | some o =>
     if lvl=3\/(bV T f none (lvl+1) (p+1)).bad=true then⟨.mk o.op v0 [] [x,(bV T f none (lvl+1) (p+1)).x],(bV T f none (lvl+1) (p+1)).p,(bV T f none (lvl+1) (p+1)).bad⟩
     else bV T f (some (.mk o.op v0 [] [x,(bV T f none (lvl+1) (p+1)).x])) lvl (bV T f none (lvl+1) (p+1)).p
def kC{T:List cg}{p:Nat}{k:Int}{s:aS}(h:jA T p k s=true): p<T.length:=by
 simp only[jA,aC,decide_eq_true_eq]at h;exact h.1
def kD{T:List cg}{p:Nat}{b:Bool}{k:Int}{s:aS}(h:eG T p b k s=true): p<T.length/\b=false:=by
 simp only[eG,aC,cy]at h;exact⟨kC h.2,h.1⟩
def Al{T:List cg}{p:Nat}{b:Bool}{lvl:Int}{o:Ah}(h:uf T p b lvl=some o): p<T.length/\b=false/\o ∈ jz/\o.level=lvl:=by
 have h1:=List.find?_some h;simp only[aC,beq_iff_eq]at h1;exact⟨(kD h1.2).1,(kD h1.2).2,List.mem_of_find?_eq_some h,h1.1⟩
def Goes(n p:Nat)(r:RS): Prop:=p<=r.p/\r.p<=n/\(r.bad=false->p<r.p)
def vt{T:List cg}{p:Nat}{r:RS}(k:Int)(s:aS)(h:Goes T.length p r): Goes T.length p (iH T r k s):=by
 obtain⟨h1,h2,h3⟩:=h;unfold iH Goes oS;dsimp only;by_cases ho:eG T r.p r.bad k s=true
 ·have:=kD ho;have h4:=h3 this.2;rw[if_pos ho];refine⟨by omega,by omega,fun _=>by omega⟩
 ·rw[if_neg ho];refine⟨h1,h2,fun h=>?_⟩;simp only[Bool.not_eq_true]at ho;rw[ho]at h;simp at h
def Bw{T:List cg}{rd:Nat->Nat->RS}(hrd:∀ l q,q<=T.length->Goes T.length q (rd l q)){l q:Nat}{b:Bool}(hq:q<=T.length): Goes T.length q (oT rd l q b):=by
 unfold oT;split
 ·exact⟨Nat.le_refl _,hq,fun h=>by cases h⟩
 ·exact hrd l q hq
def Goes.from{n p q:Nat}{r:RS}(h:Goes n q r)(hpq:p<=q): Goes n p r:=⟨c_ hpq h.1,h.2.1,fun hb=>Nat.lt_of_le_of_lt hpq (h.2.2 hb)⟩
def xN{T:List cg}{rd:Nat->Nat->RS}(hrd:∀ l q,q<=T.length->Goes T.length q (rd l q)){p:Nat}(hp:p<=T.length): Goes T.length p (j3 rd T p):=vt _ _ (hrd 0 p hp)
def xO{T:List cg}{rd:Nat->Nat->RS}(hrd:∀ l q,q<=T.length->Goes T.length q (rd l q)){p:Nat}(hp:p<=T.length): Goes T.length (j3 rd T p).p (qi rd T p):=vt _ _ (Bw hrd (xN hrd hp).2.1)
def Zf{T:List cg}{rd:Nat->Nat->RS}(hrd:∀ l q,q<=T.length->Goes T.length q (rd l q)){p:Nat}(hp:p<=T.length): Goes T.length (qi rd T p).p (xM rd T p):=Bw hrd (xO hrd hp).2.1
def W6{T:List cg}{rd:Nat->Nat->RS}(hrd:∀ l q,q<=T.length->Goes T.length q (rd l q)){p:Nat}(hp:p<=T.length): Goes T.length p (jq rd T p):=by
 have stay:∀ x,Goes T.length p ⟨x,p,true⟩:=fun x=>⟨Nat.le_refl _,hp,fun h=>by cases h⟩;have k0:¬ p<T.length->(T.getD p default).kind=0:=fun h=>by rw[qh (by omega)];rfl
 have step:(T.getD p default).kind≠0-> ∀ x,Goes T.length p ⟨x,p+1,false⟩:=fun hk x=>by
  have:p<T.length:=by
   by_cases h:p<T.length
   ·exact h
   ·exact absurd (k0 h) hk
  exact⟨Nat.le_succ _,this,fun _=>Nat.lt_succ_self _⟩
 unfold jq;split
 ·rename_i h;exact vt _ _ ((hrd 0 (p+1) (kC h)).from (Nat.le_succ _))
 ·split
  ·exact step (by omega) _
  ·split
   ·exact step (by omega) _
   ·split
    ·split
     ·exact step (by omega) _
     ·split
      ·exact step (by omega) _
      ·exact stay _
    ·exact stay _
def oa(T:List cg)(f:Nat): ∀(m:Option Expr) (lvl p:Nat),p<=T.length->(m=none->Goes T.length p (bV T f m lvl p))/\p<=(bV T f m lvl p).p/\(bV T f m lvl p).p<=T.length:=by
 induction f with
 | zero =>
   intro m lvl p hp;simp only[bV];exact⟨fun _=>⟨Nat.le_refl _,hp,fun h=>by cases h⟩,Nat.le_refl _,hp⟩
 | succ f ih =>
   intro m lvl p hp;have hrd:∀ l q,q<=T.length->Goes T.length q (bV T f none l q):=fun l q hq=>(ih none l q hq).1 rfl;cases m with
   | none =>
     have:Goes T.length p (bV T (f+1) none lvl p):=by
      simp only[bV];split
      ·split
       ·rename_i h;have h1:=kC h;have a:=xN hrd (p:=p+1) h1;have b:=xO hrd (p:=p+1) h1;have c:=Zf hrd (p:=p+1) h1;exact(show Goes T.length (qi (fun l q=>bV T f none l q) T (p+1)).p (Ak (fun l q=>bV T f none l q) T (p+1)) from⟨c.1,c.2.1,c.2.2⟩).from (c_ (Nat.le_succ _) (c_ a.1 b.1))
       ·exact hrd 1 p hp
      ·split
       ·rename_i h;have h1:=kC h.2;have c:=hrd 6 (p+1) h1;exact(show Goes T.length (p+1) ⟨_,_,_⟩ from⟨c.1,c.2.1,c.2.2⟩).from (Nat.le_succ _)
       ·split
        ·exact W6 hrd hp
        ·split
         ·exact hrd _ _ hp
         ·rename_i hb;have a:=hrd (lvl+1) p hp;have b:=ih (some (bV T f none (lvl+1) p).x) lvl _ a.2.1;have:=a.2.2 (by simpa using hb);exact⟨by omega,b.2.2,fun _=>by omega⟩
     exact⟨fun _=>this,this.1,this.2.1⟩
   | some x =>
     refine⟨fun h=>(by cases h),?_⟩;simp only[bV];split
     ·exact⟨Nat.le_refl _,hp⟩
     ·rename_i o ho;have h1:=(Al ho).1;have a:=hrd (lvl+1) (p+1) h1;split
      ·exact⟨by have:=a.1;dsimp only;omega,a.2.1⟩
      ·have b:=ih (some (.mk o.op v0 [] [x,(bV T f none (lvl+1) (p+1)).x])) lvl _ a.2.1;exact⟨by have:=a.1;omega,b.2.2⟩
def jr{σ : ae}{op vk vn:Int}{vs s:aS}{L:AV}{l:List Expr}(hL:View σ L (.aG false EX (l.map aJ))): View σ (.agg [I op,I vk,I vn,.str vs,.str s,L]) (aJ (.mk op ⟨vk,vn,vs⟩ s l)):=by
 rw[aU];refine View.n9 (.cons (.refl _ rfl) (.cons (.refl _ rfl) (.cons (.refl _ rfl) (.cons (.refl _ rfl) (.cons (.refl _ rfl) (.cons ?_ (.nil _)))))));exact hL
def oc(T:List cg)(n:FuncId)(rd:Nat->Nat->RS)(l q:Nat): Prop:=br aD n 0 [I l] (bN T q false) (bN T (rd l q).p (rd l q).bad) (aJ (rd l q).x)
def qj(T:List cg)(p:Nat)(k:Int)(s:aS)(o:Bool)(hk:k≠0)(hp:p<=2 ^ 61)(h:jA T p k s=o): br aD 254 0 [I k,.str s] (bN T p false) (bN T (if o then p+1 else p) false) (.bool o):=by
 have:=D8 T p false k s hk hp;unfold oS at this;rw[show eG T p false k s=o from h]at this;cases o
 ·simpa using this
 ·simpa using this
def RT (T : List cg) (p : Nat) (rd : Nat -> Nat -> RS) (hp : p <= T.length) (hT : T.length <= 2 ^ 60) (hs : ∀ q, (T.getD q default).s.length <= 2 ^ 62)
    (hrd:jA T p 4 [40]=true->oc T 214 rd 0 (p+1)/\(rd 0 (p+1)).p<=T.length) :
    br aD 256 0 [] (bN T p false) (bN T (jq rd T p).p (jq rd T p).bad) (aJ (jq rd T p).x):=by
 have oA:=fun o (ho:jA T p 4 [40]=o)=>qj T p 4 [40] o (by decide) (by omega) ho;have Jj:=Ji T p false;have hsp:=hs p;simp only[D6,aI,if_false]at Jj;by_cases tF:jA T p 4 [40]=true
 ·have ha:jq rd T p=iH T (rd 0 (p+1)) 4 [41]:=by unfold jq;rw[if_pos tF]
  obtain⟨hr,hb⟩:=hrd tF;unfold oc at hr;rw[ha];have oA:=oA true tF;generalize rd 0 (p+1)=r at *;have hm:=zi T r.p r.bad 4 [41] (by decide) (by omega);rw[aU]at hr;simp only[bN,if_true]at oA hr hm;generalize hE:aJ _=E;refine br.bM (iy.go ?_) rfl (aT _ _ _);unfold cj;intro Q aq au aA;repeat' first|refine ak ?_|refine bh oA ?_|refine bh hr ?_|refine bh hm ?_|refine aj ?_ ?_<;>intro hw<;>try omega|fail
  exact bZ (View.eqv (by rw[<-hE];exact(aU _).symm) (by rw[<-hE];exact dR _)) (bn.refl (aT _ _ _))
 have Oq:jA T p 4 [40]=false:=by simpa using tF
 have oA:=oA false Oq;simp only[bN,aI,if_false]at oA Jj;have ha:jq rd T p=(if(T.getD p default).kind=2 then uG ⟨1,(T.getD p default).n,[]⟩ (p+1)
 else if(T.getD p default).kind=3 then uG ⟨2,0,(T.getD p default).s⟩ (p+1)
 else if(T.getD p default).kind=1 then
  (match qS (T.getD p default).s with
  | some v=>uG v (p+1)
  | none=>if jH (T.getD p default).s then⟨.mk 2 v0 (T.getD p default).s [],p+1,false⟩else ⟨x0,p,true⟩)
 else⟨x0,p,true⟩:RS):=by unfold jq;rw[if_neg tF]<;>rfl
 rw[ha];clear ha hrd hs tF Oq;generalize T.getD p default=t at *;obtain⟨tk,ts,tn,tp⟩:=t;simp only[lT]at Jj hsp ⊢;have hname:=xF ts hsp;have Ot:=PE ts;by_cases h2:tk=2
 ·rw[if_pos h2];generalize hE:aJ _=E;refine br.bM (iy.go ?_) rfl (aT _ _ _);unfold cj;intro Q aq au aA;repeat' first|refine ak ?_|refine bh oA ?_|refine bh Jj ?_|refine aj ?_ ?_<;>intro hw<;>try omega|fail
  exact bZ (by rw[<-hE];exact jr (.ai _)) (bn.eqv rfl (aT T (p+1) false))
 rw[if_neg h2];by_cases h3:tk=3
 ·rw[if_pos h3];generalize hE:aJ _=E;refine br.bM (iy.go ?_) rfl (aT _ _ _);unfold cj;intro Q aq au aA;repeat' first|refine ak ?_|refine bh oA ?_|refine bh Jj ?_|refine aj ?_ ?_<;>intro hw<;>try omega|fail
  exact bZ (by rw[<-hE];exact jr (.ai _)) (bn.eqv rfl (aT T (p+1) false))
 rw[if_neg h3];by_cases h1:tk=1
 case neg =>
  rw[if_neg h1];generalize hE:aJ _=E;refine br.bM (iy.go ?_) rfl (aT _ _ _);unfold cj;intro Q aq au aA;repeat' first|refine ak ?_|refine bh oA ?_|refine bh Jj ?_|refine aj ?_ ?_<;>intro hw<;>try omega|fail
  exact bZ (by rw[<-hE];exact jr (.ai _)) (bn.eqv rfl (aT T p true))
 rw[if_pos h1];cases hw:qS ts with
 | some v =>
   rw[hw]at Ot;simp only[bC,Option.isSome_some,bD]at Ot;dsimp only;generalize hE:aJ _=E;refine br.bM (iy.go ?_) rfl (aT _ _ _);unfold cj;intro Q aq au aA;repeat' first|refine ak ?_|refine bh oA ?_|refine bh Jj ?_|refine aj ?_ ?_<;>intro hw<;>try omega|fail
   exact bZ (by rw[<-hE];exact jr (.ai _)) (bn.eqv rfl (aT T (p+1) false))
 | none =>
   rw[hw]at Ot;simp only[Option.getD_none,Option.isSome_none,bD,v0]at Ot;dsimp only;cases hn:jH ts with
   | true =>
     rw[hn]at hname;simp only[if_true];generalize hE:aJ _=E;refine br.bM (iy.go ?_) rfl (aT _ _ _);unfold cj;intro Q aq au aA;repeat' first|refine ak ?_|refine bh oA ?_|refine bh Jj ?_|refine aj ?_ ?_<;>intro hw<;>try omega|fail
     exact bZ (by rw[<-hE];exact jr (.ai _)) (bn.eqv rfl (aT T (p+1) false))
   | false =>
     rw[hn]at hname;simp only[aI,if_false];generalize hE:aJ _=E;refine br.bM (iy.go ?_) rfl (aT _ _ _);unfold cj;intro Q aq au aA;repeat' first|refine ak ?_|refine bh oA ?_|refine bh Jj ?_|refine aj ?_ ?_<;>intro hw<;>try omega|fail
     exact bZ (by rw[<-hE];exact jr (.ai _)) (bn.eqv rfl (aT T p true))
def Bx {T : List cg} {n : FuncId} {rd : Nat -> Nat -> RS} {l q : Nat} {b : Bool} (h : b = false -> oc T n rd l q) (UO : br aD n 0 [I l] (bN T q true) (bN T q true) (aJ x0)) :
    br aD n 0 [I l] (bN T q b) (bN T (oT rd l q b).p (oT rd l q b).bad) (aJ (oT rd l q b).x):=by
 cases b with
 | true=>exact UO
 | false=>exact h rfl
def N0 (T : List cg) (p : Nat) (rd : Nat -> Nat -> RS) (hp : p <= T.length) (hT : T.length <= 2 ^ 60) (m_ : ∀ l q, q <= T.length -> Goes T.length q (rd l q))
    (UO:∀ q,br aD 214 0 [I 0] (bN T q true) (bN T q true) (aJ x0)) (hrd:∀ q,p<=q->q<=T.length->oc T 214 rd 0 q) :
    br aD 255 0 [] (bN T p false) (bN T (Ak rd T p).p (Ak rd T p).bad) (aJ (Ak rd T p).x):=by
 have ga:=xN m_ hp;have gb:=xO m_ hp;have g0:=m_ 0 p hp;have g1:=Bw m_ (l:=0) (b:=(j3 rd T p).bad) ga.2.1;have c1:=hrd p (Nat.le_refl _) hp;have m1:=zi T (rd 0 p).p (rd 0 p).bad 1 thenS (by decide) (by have:=g0.2.1;omega);have c2:=Bx (l:=0) (q:=(j3 rd T p).p) (b:=(j3 rd T p).bad) (fun _=>hrd _ ga.1 ga.2.1) (UO _);have m2:=zi T (oT rd 0 (j3 rd T p).p (j3 rd T p).bad).p (oT rd 0 (j3 rd T p).p (j3 rd T p).bad).bad 1 Bv (by decide) (by have:=g1.2.1;omega);have c3:=Bx (l:=0) (q:=(qi rd T p).p) (b:=(qi rd T p).bad) (fun _=>hrd _ (c_ ga.1 gb.1) gb.2.1) (UO _)
 change br _ _ _ _ _ (bN T (j3 rd T p).p (j3 rd T p).bad) _ at m1
 change br _ _ _ _ _ (bN T (qi rd T p).p (qi rd T p).bad) _ at m2
 change br _ _ _ _ _ (bN T (xM rd T p).p (xM rd T p).bad) (aJ (xM rd T p).x)at c3
 unfold oc at c1;simp only[Ak];have xa:(j3 rd T p).x=(rd 0 p).x:=rfl;have xb:(qi rd T p).x=(oT rd 0 (j3 rd T p).p (j3 rd T p).bad).x:=rfl;rw[xa,xb];generalize oT rd 0 (j3 rd T p).p (j3 rd T p).bad=rb at *;generalize j3 rd T p=ra at *;generalize qi rd T p=rb2 at *;generalize xM rd T p=rc at *;generalize rd 0 p=r1 at *;rw[aU]at c1 c2 c3;simp only[bN,thenS,Bv]at c1 m1 c2 m2 c3;generalize hE:aJ _=E;refine br.bM (yg.go ?_) rfl (aT _ _ _);unfold cj;intro Q aq au aA;repeat' first|refine ak ?_|refine bh c1 ?_|refine bh m1 ?_|refine bh c2 ?_|refine bh m2 ?_|refine bh c3 ?_|refine aj ?_ ?_<;>intro hw<;>try omega|fail
 refine bZ ?_ (bn.refl (aT _ _ _));rw[<-hE];refine jr ?_;rw[bf,bf,bf,b_,aU,aU,aU];refine View.weak _ _ _ ?_;simp
@[go_sem ↓] def aeq (l:Nat) (J:Env->ae->Prop) (Q:AQ) (e:Env) (σ : ae):uQ l J Q (.goto l) e σ = J e σ:=by simp[uQ]
def Li{e':Env}: ∀(l:List (Nat × AV)),At l e'->puts l e'=e'
 | [],_=>rfl
 | (d, v) :: l, h => by
   simp only[puts];rw[Li l (fun p hp=>h p (da _ hp))];exact upd_same (h (d,v) (by simp))
def abj {P : Program} {l : Nat} {c r : cY} {Q : AQ} {e : Env} {σ : ae} {α : Type} (cs : α -> List (Nat × AV)) (S : α -> ae) (A : α -> Prop) (μ : α -> Nat)
    (hb:iu P c (uQ l (fun e' σ'=> ∃ x,A x/\σ'=S x/\At (cs x) e') Q) e σ)
    (hr:∀ x r0,A x->iu P r (uQ l (fun e' σ'=> ∃ x',A x'/\ μ x' < μ x/\σ'=S x'/\At (cs x') e') Q) (puts (cs x) r0) (S x)):O8 P (.mk:Tg (l,c,r,Q,e,σ)):=by
 refine⟨fun n e' σ'=> ∃ x,A x/\At (cs x) e'/\σ'=S x/\ μ x=n,Bg (fun ex e2 σ2 hq=>?_) _ _ hb,?_⟩
 ·cases ex<;>try exact hq
  obtain⟨h1,x,a,hs,ht⟩:=hq;exact⟨h1,_,x,a,ht,hs,rfl⟩
 ·rintro n e' σ' ⟨x1,a1,t1,rfl,rfl⟩;have h:=hr x1 e' a1;rw[Li _ t1]at h;refine Bg (fun ex e2 σ2 hq=>?_) _ _ h;cases ex<;>try exact hq
  obtain⟨h1,x',a',hm,hs,ht⟩:=hq;exact⟨h1,_,hm,x',a',ht,hs,rfl⟩
def qo(op:Int)(zs:List AV): List AV:=[I op,I 0,I 0,.str [],.str [],.aG true EX zs]
def yL{σ : ae}{op:Int}{zs:List AV}{l:List Expr}(h:bn [] zs (l.map aJ)): View σ (.agg (qo op zs)) (aJ (.mk op v0 [] l)) :=
 View.mono (σ:=[]) (fun _ _ h=>by simp at h) (jr (View.Ky h))
def D9{a b:AV}{x y:Expr}(h:View [] a (aJ x))(h2:View [] b (aJ y)): bn [] [a,b] ([x,y].map aJ):= .cons h (.cons h2 (.nil _))
def UP{op:Int}{zs:List AV}(h:AV.bG zs=true): AV.bG (qo op zs)=true:=by simp[qo,AV.cQ,AV.bG,h]
structure Lp where
 op:Int
 l:List Expr
 zs:List AV
 p:Nat
 f:Nat
def Jk(T:List cg)(lvl:Int)(p:Nat): br aD 214 0 [I lvl] (bN T p true) (bN T p true) (aJ x0):=by
 generalize hE:aJ x0=E;refine br.bM (fA.go ?_) rfl (aT _ _ _);unfold cj;intro Q aq au aA;repeat' first|refine ak ?_|refine aj ?_ ?_<;>intro hw<;>try omega|fail
 exact bZ (by rw[<-hE];exact jr (.ai _)) (bn.refl (aT T p true))
def Lj (T : List cg) (hT : T.length <= 2 ^ 60) (rd : Nat -> Nat -> RS) (f lvl p : Nat) (h1 : 1 <= lvl) (h5 : lvl <= 5) (hp : p <= T.length) (hf : 8 * (T.length - p) + (8 - lvl) <= f) (hrd : rd = fun l q => bV T f none l q)
    (ih:∀ j,j<=f-> ∀ l q,l<=7->q<=T.length->8*(T.length-q)+(8-l)<j->oc T 214 (fun l q=>bV T j none l q) l q) :
    br aD 214 0 [I lvl] (bN T p false) (bN T (bV T (f+1) none lvl p).p (bV T (f+1) none lvl p).bad) (aJ (bV T (f+1) none lvl p).x):=by
 have ga:=(oa T f none (lvl+1) p hp).1 rfl;have ca:=ih f (Nat.le_refl _) (lvl+1) p (by omega) hp (by omega);simp only[oc]at ca;obtain⟨ga1,ga2,ga3⟩:=ga
 have hR:bV T (f+1) none lvl p=if(bV T f none (lvl+1) p).bad then bV T f none (lvl+1) p else bV T f (some (bV T f none (lvl+1) p).x) lvl (bV T f none (lvl+1) p).p:=by
  rw[bV];rw[if_neg (by omega),if_neg (by omega),if_neg (by omega)]
 generalize bV T (f+1) none lvl p=R at *;generalize bV T f none (lvl+1) p=a at *;obtain⟨ax,ap,ab⟩:=a;dsimp only at *;have cb:=Cz T ap ab lvl (by omega);rw[aU]at ca;cases ab with
 | true =>
   simp only[if_true]at hR;subst hR;dsimp only
   have hn:uf T ap true lvl=none:=by
    cases ho:uf T ap true lvl with
    | none=>rfl
    | some o=>have:=(Al ho).2.1;cases this
   simp only[Mr,hn,D7,Option.isSome_none,aI,if_false]at cb;generalize hE:aJ ax=E;simp only[bN,Int.natCast_add,Int.cast_ofNat_Int]at ca cb;refine br.bM (fA.go ?_) rfl (aT _ _ _);unfold cj;intro Q aq au aA;repeat' first|simp (disch:=omega) only[go_sem,aq,au,aA,Int.natCast_add,Int.cast_ofNat_Int]|refine ak ?_|refine bh ca ?_|refine bh cb ?_|refine aj ?_ ?_<;>intro hw<;>try omega|fail
   exact bZ (by rw[<-hE];exact View.eqv (aU _).symm (dR _)) (bn.refl (aT _ _ _))
 | false =>
   simp only[aI,if_false]at hR;have gp:=ga3 rfl;obtain⟨f,rfl⟩:∃ f',f=f'+1:=⟨f-1,by omega⟩;rw[bV]at hR;have e0:∀ σ : ae,View σ (.agg [I ax.op,I ax.v.kind,I ax.v.n,.str ax.v.s,.str ax.s,.aG false EX (ax.l.map aJ)]) (aJ ax):=fun σ=>View.eqv (aU _).symm (dR _);cases ho:uf T ap false lvl with
   | none =>
     rw[ho]at hR;dsimp only at hR;subst hR;dsimp only;simp only[Mr,ho,D7,Option.isSome_none,aI,if_false]at cb;generalize hE:aJ ax=E at *;simp only[bN,Int.natCast_add,Int.cast_ofNat_Int]at ca cb;refine br.bM (fA.go ?_) rfl (aT _ _ _);unfold cj;intro Q aq au aA;repeat' first|simp (disch:=omega) only[go_sem,aq,au,aA,Int.natCast_add,Int.cast_ofNat_Int]|refine ak ?_|refine bh ca ?_|refine bh cb ?_|refine aj ?_ ?_<;>intro hw<;>try omega|fail
     exact bZ (e0 _) (bn.refl (aT _ _ _))
   | some o =>
     rw[ho]at hR;dsimp only at hR;obtain⟨CA,_,pV,D_⟩:=Al ho
     have hop:o.op≠0:=by
      intro h;simp only[jz,List.mem_cons,List.not_mem_nil,or_false]at pV;rcases pV with rfl|rfl|rfl|rfl|rfl|rfl|rfl|rfl|rfl|rfl|rfl|rfl<;>simp at h
     have cc:=ih f (by omega) (lvl+1) (ap+1) (by omega) (by omega) (by omega);have gc:=(oa T f none (lvl+1) (ap+1) (by omega)).1 rfl;obtain⟨gc1,gc2,gc3⟩:=gc;simp only[oc]at cc;simp only[Mr,ho,D7,Option.isSome_some,if_true]at cb;generalize bV T f none (lvl+1) (ap+1)=c at *;obtain⟨cx,cp,UQ⟩:=c;dsimp only at *;by_cases hend:lvl=3\/UQ=true
     ·rw[if_pos hend]at hR;subst hR;dsimp only;have e1:∀ σ : ae,View σ (.agg (qo o.op [.agg [I ax.op,I ax.v.kind,I ax.v.n,.str ax.v.s,.str ax.s,.aG false EX (ax.l.map aJ)],aJ cx])) (aJ (.mk o.op v0 [] [ax,cx])):=fun σ=>yL (D9 (e0 _) (.refl _ (dR _)));rw[aU cx]at e1 cc;generalize hE:aJ (.mk o.op v0 [] [ax,cx])=E at *;simp only[bN,Int.natCast_add,Int.cast_ofNat_Int]at ca cb cc;have h3:¬ (¬ lvl=3/\UQ=false):=by rcases hend with h|h<;>simp[h]
      refine br.bM (fA.go ?_) rfl (aT _ _ _);unfold cj;intro Q aq au aA;rcases hend with hend|hend
      ·subst hend;repeat' first|simp (disch:=omega) only[go_sem,aq,au,aA,Int.natCast_add,Int.cast_ofNat_Int]|refine ak ?_|refine bh ca ?_|refine bh cb ?_|refine bh cc ?_|refine aj ?_ ?_<;>intro hw<;>try omega|fail
       all_goals first|exact bZ (e1 _) (bn.refl (aT _ _ _))|(exfalso;omega)
      ·subst hend;repeat' first|simp (disch:=omega) only[go_sem,aq,au,aA,Int.natCast_add,Int.cast_ofNat_Int]|refine ak ?_|refine bh ca ?_|refine bh cb ?_|refine bh cc ?_|refine aj ?_ ?_<;>intro hw<;>try omega|fail
       all_goals first|exact bZ (e1 _) (bn.refl (aT _ _ _))|(exfalso;omega)
     ·rw[if_neg hend]at hR;have Tc:lvl≠3:=fun h=>hend (.inl h)
      have hcb:UQ=false:=by cases UQ with
       | false=>rfl
       | true=>exact absurd (.inr rfl) hend
      subst hcb;have e2:=e0 [];rw[aU cx]at cc;simp only[bN,Int.natCast_add,Int.cast_ofNat_Int]at ca cb cc;have gq:=gc3 rfl;refine br.bM (fA.go ?_) rfl (aT _ _ _);unfold cj;intro Q aq au aA;repeat' first|refine gn_ ?_|refine aj ?_ ?_<;>intro hw<;>try omega|fail
      with_reducible refine abj (fun x:Lp=>[(0,.ref 0 0),(1,I lvl),(4,.ref 1 0),(5,.ref 2 0)]) (fun x=>[.cells [.aG false ET (T.map lT),I x.p,.bool false],.cells [I 0,I 0,I 0,.str [],.str [],.ai],.cells [I x.op,I 0,I 0,.str [],.str [],.aG true EX x.zs]]) (fun x=>(bn [] x.zs (x.l.map aJ)/\AV.bG x.zs=true)/\x.p<=T.length/\8*(T.length-x.p)+8<=x.f/\x.f<=f/\R=bV T x.f (some (.mk x.op v0 [] x.l)) lvl x.p) (fun x=>x.f) ?_ ?_
      ·repeat' first|simp (disch:=omega) only[go_sem,aq,au,aA,Int.natCast_add,Int.cast_ofNat_Int]|refine ak ?_|refine bh ca ?_|refine bh cb ?_|refine bh cc ?_|refine aj ?_ ?_<;>intro hw<;>try omega|fail
       refine⟨⟨o.op,[ax,cx],[.agg [I ax.op,I ax.v.kind,I ax.v.n,.str ax.v.s,.str ax.s,.aG false EX (ax.l.map aJ)],aJ cx],cp,f⟩,⟨⟨D9 e2 (.refl _ (dR _)),by simp⟩,gc2,by dsimp only;omega,Nat.le_refl _,hR⟩,?_,at_⟩;rw[aU cx]
      ·clear ca cb cc;rintro⟨Am,xl,xz,xp,xf⟩ r0 ⟨⟨a1,a2⟩,a3,a4,a5,a6⟩;dsimp only at a1 a2 a3 a4 a5 a6;obtain⟨j,rfl⟩:∃ j,xf=j+1:=⟨xf-1,by omega⟩;have cb:=Cz T xp false lvl (by omega);rw[bV]at a6;clear hR;cases hq:uf T xp false lvl with
       | none =>
         rw[hq]at a6;dsimp only at a6;subst a6;dsimp only at aq au aA;simp only[Mr,hq,D7,Option.isSome_none,aI,if_false,bN,Int.natCast_add,Int.cast_ofNat_Int]at cb;have ev:∀ σ : ae,View σ (.agg (qo Am xz)) (aJ (.mk Am v0 [] xl)):=fun σ=>yL a1;generalize hE:aJ (.mk Am v0 [] xl)=E at *;repeat' first|simp (disch:=omega) only[go_sem,aq,au,aA,Int.natCast_add,Int.cast_ofNat_Int]|refine ak ?_|refine bh cb ?_|refine aj ?_ ?_<;>intro hw<;>try omega|fail
         exact bZ (ev _) (bn.refl (aT _ _ _))
       | some o2 =>
         rw[hq]at a6;dsimp only at a6;obtain⟨s8,_,Ds,Du⟩:=Al hq
         have agf:o2.op≠0:=by
          intro h;simp only[jz,List.mem_cons,List.not_mem_nil,or_false]at Ds;rcases Ds with rfl|rfl|rfl|rfl|rfl|rfl|rfl|rfl|rfl|rfl|rfl|rfl<;>simp at h
         have cc:=ih j (by omega) (lvl+1) (xp+1) (by omega) (by omega) (by omega);obtain⟨gd1,gd2,gd3⟩:=(oa T j none (lvl+1) (xp+1) (by omega)).1 rfl;simp only[oc]at cc;simp only[Mr,hq,D7,Option.isSome_some,if_true,bN,Int.natCast_add,Int.cast_ofNat_Int]at cb;generalize bV T j none (lvl+1) (xp+1)=d at *;obtain⟨dx,dp,db⟩:=d;dsimp only at *;have e1:∀ σ : ae,View σ (.agg (qo o2.op [.agg (qo Am xz),aJ dx])) (aJ (.mk o2.op v0 [] [.mk Am v0 [] xl,dx])):=fun σ=>yL (D9 (yL a1) (.refl _ (dR _)));rw[aU dx]at cc e1;simp only[bN,Int.natCast_add,Int.cast_ofNat_Int]at cc;cases db with
         | true =>
           rw[if_pos (.inr rfl)]at a6;subst a6;dsimp only at aq au aA;generalize hE:aJ (.mk o2.op v0 [] [.mk Am v0 [] xl,dx])=E at *;repeat' first|simp (disch:=omega) only[go_sem,aq,au,aA,Int.natCast_add,Int.cast_ofNat_Int]|refine ak ?_|refine bh cb ?_|refine bh cc ?_|refine aj ?_ ?_<;>intro hw<;>try omega|fail
           all_goals first|exact bZ (e1 _) (bn.refl (aT _ _ _))|(exfalso;omega)
         | false =>
           rw[if_neg (by simp[Tc])]at a6;have gr:=gd3 rfl;repeat' first|simp (disch:=omega) only[go_sem,aq,au,aA,Int.natCast_add,Int.cast_ofNat_Int]|refine ak ?_|refine bh cb ?_|refine bh cc ?_|refine aj ?_ ?_<;>intro hw<;>try omega|fail
           refine⟨⟨o2.op,[.mk Am v0 [] xl,dx],[.agg (qo Am xz),aJ dx],dp,j⟩,⟨⟨D9 (yL a1) (.refl _ (dR _)),by simp[AV.cQ,AV.bG,UP a2,dR]⟩,gd2,by dsimp only;omega,by dsimp only;omega,a6⟩,by dsimp only;omega,?_,at_⟩;rw[aU dx];rfl
def RU(T:List cg)(hT:T.length<=2 ^ 60)(hs:∀ q,(T.getD q default).s.length<=2 ^ 62): ∀ f,∀ lvl p,lvl<=7->p<=T.length->8*(T.length-p)+(8-lvl)<f->oc T 214 (fun l q=>bV T f none l q) lvl p:=by
 intro f
 induction f using Nat.strongRecOn with
 | ind f ih =>
 intro lvl p hl hp hf;obtain⟨f,rfl⟩:∃ f',f=f'+1:=⟨f-1,by omega⟩;have Jl:=ih f (Nat.lt_succ_self _);have m_:∀ l q,q<=T.length->Goes T.length q (bV T f none l q):=fun l q hq=>(oa T f none l q hq).1 rfl;simp only[oc];by_cases h5:1<=lvl/\lvl<=5
 ·exact Lj T hT _ f lvl p h5.1 h5.2 hp (by omega) rfl (fun j hj l q h1 h2 h3=>ih j (by omega) l q h1 h2 h3)
 by_cases h0:lvl=0
 ·subst h0
  have hR:bV T (f+1) none 0 p=if jA T p 1 [105,102]then Ak (fun l q=>bV T f none l q) T (p+1)else bV T f none 1 p:=by
   rw[bV,if_pos rfl]
  by_cases hi:jA T p 1 [105,102]=true
  ·rw[if_pos hi]at hR;have s8:=kC hi;have co:=qj T p 1 [105,102] true (by decide) (by omega) hi;have cb:=N0 T (p+1) (fun l q=>bV T f none l q) s8 hT m_ (fun q=>Jk T 0 q) (fun q h1 h2=>Jl 0 q (by omega) h2 (by omega));rw[hR];generalize Ak (fun l q=>bV T f none l q) T (p+1)=R at *;simp only[if_true]at co;generalize hE:aJ R.x=E at *;have hEc:∃ cs,E = .agg cs:=⟨_,by rw[<-hE,aU]⟩;have hEp:E.cQ=true:=by rw[<-hE];exact dR _
   rw[<-hE,aU]at cb;simp only[bN,Int.natCast_add,Int.cast_ofNat_Int]at co cb;refine br.bM (fA.go ?_) rfl (aT _ _ _);unfold cj;intro Q aq au aA;repeat' first|simp (disch:=omega) only[go_sem,aq,au,aA,Int.natCast_add,Int.cast_ofNat_Int]|refine ak ?_|refine bh co ?_|refine bh cb ?_|refine aj ?_ ?_<;>intro hw<;>try omega|fail
   exact bZ (by rw[<-hE];exact View.eqv (aU _).symm (dR _)) (bn.refl (aT _ _ _))
  ·rw[if_neg hi]at hR;have hi':jA T p 1 [105,102]=false:=by simpa using hi
   have co:=qj T p 1 [105,102] false (by decide) (by omega) hi';have cr:=Jl 1 p (by omega) hp (by omega);rw[hR];simp only[oc]at cr;generalize bV T f none 1 p=R at *;generalize hE:aJ R.x=E at *;rw[<-hE,aU]at cr;simp only[aI,if_false]at co;simp only[bN,Int.natCast_add,Int.cast_ofNat_Int]at co cr;refine br.bM (fA.go ?_) rfl (aT _ _ _);unfold cj;intro Q aq au aA;repeat' first|simp (disch:=omega) only[go_sem,aq,au,aA,Int.natCast_add,Int.cast_ofNat_Int]|refine ak ?_|refine bh co ?_|refine bh cr ?_|refine aj ?_ ?_<;>intro hw<;>try omega|fail
   exact bZ (by rw[<-hE];exact View.eqv (aU _).symm (dR _)) (bn.refl (aT _ _ _))
 by_cases h6:lvl=6/\jA T p 4 [45]=true
 ·obtain⟨rfl,hi⟩:=h6;have s8:=kC hi
  have hR:bV T (f+1) none 6 p=⟨.mk 3 v0 [] [(bV T f none 6 (p+1)).x],(bV T f none 6 (p+1)).p,(bV T f none 6 (p+1)).bad⟩:=by
   rw[bV,if_neg h0,if_pos ⟨rfl,hi⟩]
  have co:=qj T p 4 [45] true (by decide) (by omega) hi;have cr:=Jl 6 (p+1) (by omega) s8 (by omega);rw[hR];simp only[oc]at cr;generalize bV T f none 6 (p+1)=R at *;obtain⟨rx,rp,rb⟩:=R;dsimp only at *;have e1:∀ σ : ae,View σ (.agg (qo 3 [aJ rx])) (aJ (.mk 3 v0 [] [rx])):=fun σ=>yL (.cons (.refl _ (dR _)) (.nil _));rw[aU rx]at e1 cr;generalize hE:aJ (.mk 3 v0 [] [rx])=E at *;simp only[if_true]at co;simp only[bN,Int.natCast_add,Int.cast_ofNat_Int]at co cr;refine br.bM (fA.go ?_) rfl (aT _ _ _);unfold cj;intro Q aq au aA;repeat' first|simp (disch:=omega) only[go_sem,aq,au,aA,Int.natCast_add,Int.cast_ofNat_Int]|refine ak ?_|refine bh co ?_|refine bh cr ?_|refine aj ?_ ?_<;>intro hw<;>try omega|fail
  exact bZ (e1 _) (bn.refl (aT _ _ _))
 have h67:6<=lvl:=by omega
 have hR:bV T (f+1) none lvl p=jq (fun l q=>bV T f none l q) T p:=by
  rw[bV,if_neg h0,if_neg h6,if_pos h67]
 have ca:=RT T p (fun l q=>bV T f none l q) hp hT hs (fun h=>⟨Jl 0 (p+1) (by omega) (kC h) (by have:=kC h;omega),(m_ 0 (p+1) (kC h)).2.1⟩);rw[hR];have co:=fun h=>qj T p 4 [45] false (by decide) (by omega) h
 have hno:lvl=6->jA T p 4 [45]=false:=fun h=>by
  cases hq:jA T p 4 [45]with
  | false=>rfl
  | true=>exact absurd ⟨h,hq⟩ h6
 generalize jq (fun l q=>bV T f none l q) T p=R at *;generalize hE:aJ R.x=E at *;rw[<-hE,aU]at ca;simp only[aI,if_false]at co;simp only[bN,Int.natCast_add,Int.cast_ofNat_Int]at co ca;refine br.bM (fA.go ?_) rfl (aT _ _ _);unfold cj;intro Q aq au aA;by_cases W7:lvl=6
 ·have co:=co (hno W7);subst W7;repeat' first|simp (disch:=omega) only[go_sem,aq,au,aA,Int.natCast_add,Int.cast_ofNat_Int]|refine ak ?_|refine bh co ?_|refine bh ca ?_|refine aj ?_ ?_<;>intro hw<;>try omega|fail
  exact bZ (by rw[<-hE];exact View.eqv (aU _).symm (dR _)) (bn.refl (aT _ _ _))
 ·obtain rfl:lvl=7:=by omega
  repeat' first|simp (disch:=omega) only[go_sem,aq,au,aA,Int.natCast_add,Int.cast_ofNat_Int]|refine ak ?_|refine bh ca ?_|refine aj ?_ ?_<;>intro hw<;>try omega|fail
  exact bZ (by rw[<-hE];exact View.eqv (aU _).symm (dR _)) (bn.refl (aT _ _ _))
