/- Part. -/
import Derived.Test.YthakfmmgnjpmdaaGreatDoorW19
set_option linter.all false
set_option maxHeartbeats 4000000
namespace Go.Proofs.YthakfmmgnjpmdaaGreatDoor
open Go.AM
set_option maxRecDepth 4000
def fE {v r : AV} {sR ds : List AV} {τ : ae} (hv : View (.dead :: τ) v r) (hd : bN (.dead :: τ) sR ds) :
    ∃ r0 St OX,Out.ret (oneOf [v])=Out.ret r0/\bj.cells sR:: τ = bj.cells St::OX/\View (.dead::OX) r0 r/\bN (.dead::OX) St ds:=⟨_,_,_,rfl,rfl,hv,hd⟩
def x0: Expr:= .mk 0 v0 [] []
def D5(T:List Tok)(p:Nat)(b:Bool): Tok:=if b then default else T.getD p default
def kA(T:List Tok)(p:Nat)(k:Int)(s:aO): Bool:=decide (p<T.length) && (decide ((T.getD p default).kind=k) && decide ((T.getD p default).s=s))
def fc(T:List Tok)(p:Nat)(b:Bool)(k:Int)(s:aO): Bool:= !b && kA T p k s
def nG(x:zg): Int:=if x.level<3 then 1 else 4
def tj(T:List Tok)(p:Nat)(b:Bool)(lvl:Int): Option zg:=jh.find? fun x=>x.level==lvl && fc T p b (nG x) x.sign
def L8(T:List Tok)(p:Nat)(b:Bool)(lvl:Int): Nat:=if(tj T p b lvl).isSome then p+1 else p
def Pt(o:Option zg): Int:=match o with
 | some x=>x.op
 | none=>0
def bN.eqv{σ : ae}{a b:List AV}(h:a=b)(hp:AV.cg b=true): bN σ a b:=by subst h;exact bN.refl hp
def t_(s:aO): Option aL:=if s=[110,117,108,108]then some v0 else if s=[102,97,108,115,101]then some ⟨3,0,[]⟩else if s=[116,114,117,101]then some ⟨3,1,[]⟩else none
structure RS where
 x:Expr
 p:Nat
 bad:Bool
deriving Inhabited
def ei(T:List Tok)(p:Nat)(b:Bool): List AV:=[.aN false ET (T.map sJ),I p,.bool b]
attribute [go_sem] ei
def bL(T:List Tok)(p:Nat)(b:Bool): AV.cg (ei T p b)=true:=by simp[ei,AV.dz,AV.cg,Pc]
def qE{α : Type}[Inhabited α]{l:List α}{i:Nat}(h:l.length<=i): l.getD i default=default:=by
 rw[ai,gw h];rfl
def U2: (default:Tok)=⟨0,[],0,0⟩:=rfl
def ac6(T:List Tok)(p:Nat)(b:Bool)(k:Int)(s:aO)(hk:k≠0): fc T p b k s=(decide ((D5 T p b).kind=k) && decide ((D5 T p b).s=s)):=by
 unfold fc D5 kA;cases b with
 | true=>simp[U2];intro h;exact absurd h.symm hk
 | false =>
   by_cases hp:p<T.length
   ·simp[hp]
   ·rw[qE (by omega)];simp[hp,U2];intro h;exact absurd h.symm hk
def I5(T:List Tok)(p:Nat)(b:Bool): dh aH 220 0 [] (ei T p b) (ei T p b) (sJ (D5 T p b)):=by
 refine dh.fS (BK.go ?_) rfl (bL _ _ _);unfold dO;intro Q aB aC aD;cases b with
 | true =>
   repeat' first|refine au ?_|refine aq ?_ ?_<;>intro hw<;>try omega|fail
   exact fE (View.eqv rfl rfl) (bN.refl (bL T p true))
 | false =>
   by_cases hp:p<T.length
   ·repeat' first|refine au ?_|refine aq ?_ ?_<;>intro hw<;>try omega|fail
    refine fE (View.eqv ?_ rfl) (bN.refl (bL T p false));simp only[D5];rfl
   ·repeat' first|refine au ?_|refine aq ?_ ?_<;>intro hw<;>try omega|fail
    refine fE (View.eqv ?_ rfl) (bN.refl (bL T p false));simp only[D5];rw[qE (by omega)];rfl
def qh(T:List Tok)(p:Nat)(b:Bool)(k:Int)(s:aO): Nat:=if fc T p b k s then p+1 else p
def D6(T:List Tok)(p:Nat)(b:Bool)(k:Int)(s:aO)(hk:k≠0)(hp:p<=2 ^ 61): dh aH 199 0 [I k,.str s] (ei T p b) (ei T (qh T p b k s) b) (.bool (fc T p b k s)):=by
 have hn:=I5 T p b;unfold qh;rw[ac6 T p b k s hk];generalize D5 T p b=t at hn ⊢;obtain⟨tk,ts,tn,tp⟩:=t;simp only[ei,sJ]at hn;refine dh.fS (C7.go ?_) rfl (bL _ _ _);unfold dO;intro Q aB aC aD;repeat' first|refine au ?_|refine da hn ?_|refine aq ?_ ?_<;>intro hw<;>try omega|fail
 all_goals first
  |(refine fE (View.eqv ?_ rfl) (bN.eqv ?_ (bL _ _ _))<;>simp_all[ei];done)
def zQ(T:List Tok)(p:Nat)(b:Bool)(k:Int)(s:aO)(hk:k≠0)(hp:p<=2 ^ 61): dh aH 221 0 [I k,.str s] (ei T p b) (ei T (qh T p b k s) (b || !(fc T p b k s))) (.bH []):=by
 have hn:=D6 T p b k s hk hp;generalize fc T p b k s=o at hn ⊢;simp only[ei]at hn;refine dh.fS (AB.go ?_) rfl (bL _ _ _);unfold dO;intro Q aB aC aD;cases o
 ·repeat' first|refine au ?_|refine da hn ?_|refine aq ?_ ?_<;>intro hw<;>try omega|fail
  refine IE rfl (bN.eqv ?_ (bL _ _ _));simp[ei]
 ·repeat' first|refine au ?_|refine da hn ?_|refine aq ?_ ?_<;>intro hw<;>try omega|fail
  refine IE rfl (bN.eqv ?_ (bL _ _ _));simp[ei]
def Pu(s:aO): aM aH 222 [.str s] (.bH [bX ((t_ s).getD v0),.bool (t_ s).isSome]):=by
 refine aR Kz ?_;intro Q aB aC aD;repeat' first|refine au ?_|refine aq ?_ ?_<;>intro hw<;>try omega|fail
 all_goals refine bx ?_ rfl
 all_goals simp_all[t_,bX,v0]
def CN(T:List Tok)(p:Nat)(b:Bool)(lvl:Int)(hp:p<=2 ^ 61): dh aH 202 0 [I lvl] (ei T p b) (ei T (L8 T p b lvl) b) (I (Pt (tj T p b lvl))):=by
 refine dh.fS (yQ.go ?_) rfl (bL _ _ _);unfold dO;intro Q aB aC aD;have hl:jh.length=12:=rfl;have ho:=fun k s (hk:k≠0)=>D6 T p b k s hk hp;simp only[ei]at ho;repeat' first|refine au ?_|refine eZ zh ?_|refine aq ?_ ?_<;>intro hw<;>try omega|fail
 with_reducible refine bE [4,6,7,10,11,12,13,14,15,16,17,18,19,20,21,22,23,24,25,26,27,28,29,30] (fun q:Nat × List bj=>[(10,I q.1)]) (fun q=> .cells [.aN false ET (T.map sJ),I p,.bool b]::q.2) (fun q=>q.1<=12/\ ∀ k,k<q.1->((jh.getD k default).level==lvl && fc T p b (nG (jh.getD k default)) (jh.getD k default).sign)=false) (fun q=>12-q.1) (0,[]) ?_ ?_ ?_ ?_
 ·simp
 ·rfl
 ·exact at_
 rintro⟨i,τ⟩ r ⟨h1,h2⟩;dsimp only at h1 h2;by_cases hi:i<12
 ·obtain⟨x,hx⟩:∃ x,jh.getD i default=x:=⟨_,rfl⟩
  have hyes:(x.level==lvl && fc T p b (nG x) x.sign)=true->tj T p b lvl=some x:=fun h=>by
   unfold tj;rw[xH (p:=fun y:zg=>y.level==lvl && fc T p b (nG y) y.sign) hi h2 (by rw[hx];exact h),hx]
  have aan:(x.level==lvl && fc T p b (nG x) x.sign)=false-> ∀ k,k<i+1->((jh.getD k default).level==lvl && fc T p b (nG (jh.getD k default)) (jh.getD k default).sign)=false:=fun h=>bQ h2 (by rw[hx];exact h);have kR:(x.level<3/\nG x=1)\/(¬ x.level<3/\nG x=4):=by unfold nG;split<;>simp_all
  clear h2;rcases kR with⟨hlv,hkb⟩|⟨hlv,hkb⟩;all_goals rw[hkb]at hyes aan
  all_goals (
   repeat' first|simp (disch:=omega) only[go_sem,aB,aC,aD,hx]|refine au ?_|with_reducible refine Ke (ho 1 _ (by decide)) rfl ?_|with_reducible refine Kh (ho 1 _ (by decide)) rfl ?_|with_reducible refine Ki (ho 1 _ (by decide)) rfl ?_|with_reducible refine Ke (ho 4 _ (by decide)) rfl ?_|with_reducible refine Kh (ho 4 _ (by decide)) rfl ?_|with_reducible refine Ki (ho 4 _ (by decide)) rfl ?_|refine aq ?_ ?_<;>intro hw<;>try omega|fail
   ·rename_i _ hlq;have hy:=hyes (by rw[hlq,hw];simp);refine fE (View.eqv ?_ rfl) (bN.eqv ?_ (bL _ _ _))
    ·rw[hy];rfl
    ·simp[ei,L8,hy,qh,hw]
   ·rename_i hlq;refine⟨(i+1,τ++[.cells [I x.op,.str x.sign,I x.level]]),?_,?_,?_,cZ,at_⟩<;>(try dsimp only)
    ·exact⟨by omega,aan (by rw[hw];simp)⟩
    ·omega
    ·simp[qh,hw]
   ·refine⟨(i+1,τ++[.cells [I x.op,.str x.sign,I x.level]]),?_,?_,?_,cZ,at_⟩<;>(try dsimp only)
    ·exact⟨by omega,aan (by rw[beq_eq_false_iff_ne.2 hw];rfl)⟩
    ·omega)
 ·have hno : tj T p b lvl = none := by
   unfold tj;rw[vp (p:=fun y:zg=>y.level==lvl && fc T p b (nG y) y.sign) (fun k hk=>h2 k (by omega))]
  repeat' first|refine au ?_|refine aq ?_ ?_<;>intro hw<;>try omega|fail
  refine fE (View.eqv ?_ rfl) (bN.eqv ?_ (bL _ _ _))<;>simp_all[ei,Pt,L8]
def jO(T:List Tok)(r:RS)(k:Int)(s:aO): RS:=⟨r.x,qh T r.p r.bad k s,r.bad || !(fc T r.p r.bad k s)⟩
def qF(rd:Nat->Nat->RS)(lvl p:Nat)(b:Bool): RS:=if b then⟨x0,p,true⟩else rd lvl p
def zR(v:aL)(p:Nat): RS:=⟨.mk 1 v [] [],p,false⟩
def nh(rd:Nat->Nat->RS)(T:List Tok)(p:Nat): RS :=
 if kA T p 4 [40]then jO T (rd 0 (p+1)) 4 [41]
 else if(T.getD p default).kind=2 then zR ⟨1,(T.getD p default).n,[]⟩ (p+1)
 else if(T.getD p default).kind=3 then zR ⟨2,0,(T.getD p default).s⟩ (p+1)
 else if(T.getD p default).kind=1 then
  (match t_ (T.getD p default).s with
  | some v=>zR v (p+1)
  | none=>if jU (T.getD p default).s then⟨.mk 2 v0 (T.getD p default).s [],p+1,false⟩else ⟨x0,p,true⟩)
 else⟨x0,p,true⟩
def thenS: aO:=[116,104,101,110]
def zi: aO:=[101,108,115,101]
def nH(rd:Nat->Nat->RS)(T:List Tok)(p:Nat): RS:=jO T (rd 0 p) 1 thenS
def ua(rd:Nat->Nat->RS)(T:List Tok)(p:Nat): RS:=jO T (qF rd 0 (nH rd T p).p (nH rd T p).bad) 1 zi
def AJ(rd:Nat->Nat->RS)(T:List Tok)(p:Nat): RS:=qF rd 0 (ua rd T p).p (ua rd T p).bad
def I6(rd:Nat->Nat->RS)(T:List Tok)(p:Nat): RS:=⟨.mk 16 v0 [] [(nH rd T p).x,(ua rd T p).x,(AJ rd T p).x],(AJ rd T p).p,(AJ rd T p).bad⟩
def bY(T:List Tok): Nat->Option Expr->Nat->Nat->RS
 | 0,_,_,p=>⟨x0,p,true⟩
 | f + 1, none, lvl, p =>
   if lvl=0 then(if kA T p 1 [105,102]then I6 (fun l q=>bY T f none l q) T (p+1)else bY T f none 1 p)
   else if lvl=6/\kA T p 4 [45]=true then⟨.mk 3 v0 [] [(bY T f none 6 (p+1)).x],(bY T f none 6 (p+1)).p,(bY T f none 6 (p+1)).bad⟩
   else if 6<=lvl then nh (fun l q=>bY T f none l q) T p
   else if(bY T f none (lvl+1) p).bad then bY T f none (lvl+1) p
   else bY T f (some (bY T f none (lvl+1) p).x) lvl (bY T f none (lvl+1) p).p
 | f + 1, some x, lvl, p =>
   match tj T p false lvl with
   | none=>⟨x,p,false⟩
   | some o =>
     if lvl=3\/(bY T f none (lvl+1) (p+1)).bad=true then⟨.mk o.op v0 [] [x,(bY T f none (lvl+1) (p+1)).x],(bY T f none (lvl+1) (p+1)).p,(bY T f none (lvl+1) (p+1)).bad⟩
     else bY T f (some (.mk o.op v0 [] [x,(bY T f none (lvl+1) (p+1)).x])) lvl (bY T f none (lvl+1) (p+1)).p
def pg{T:List Tok}{p:Nat}{k:Int}{s:aO}(h:kA T p k s=true): p<T.length:=by
 simp only[kA,aj,decide_eq_true_eq]at h;exact h.1
def oq{T:List Tok}{p:Nat}{b:Bool}{k:Int}{s:aO}(h:fc T p b k s=true): p<T.length/\b=false:=by
 simp only[fc,aj,cy]at h;exact⟨pg h.2,h.1⟩
def D7{T:List Tok}{p:Nat}{b:Bool}{lvl:Int}{o:zg}(h:tj T p b lvl=some o): p<T.length/\b=false/\o ∈ jh/\o.level=lvl:=by
 have h1:=eG h;simp only[aj,beq_iff_eq]at h1;exact⟨(oq h1.2).1,(oq h1.2).2,f_ h,h1.1⟩
def Goes(n p:Nat)(r:RS): Prop:=p<=r.p/\r.p<=n/\(r.bad=false->p<r.p)
def wg{T:List Tok}{p:Nat}{r:RS}(k:Int)(s:aO)(h:Goes T.length p r): Goes T.length p (jO T r k s):=by
 obtain⟨h1,h2,h3⟩:=h;unfold jO Goes qh;dsimp only;by_cases ho:fc T r.p r.bad k s=true
 ·have:=oq ho;have h4:=h3 this.2;rw[if_pos ho];refine⟨by omega,by omega,fun _=>by omega⟩
 ·rw[if_neg ho];refine⟨h1,h2,fun h=>?_⟩;simp only[Bool.not_eq_true]at ho;rw[ho]at h;simp at h
def Hq{T:List Tok}{rd:Nat->Nat->RS}(hrd:∀ l q,q<=T.length->Goes T.length q (rd l q)){l q:Nat}{b:Bool}(hq:q<=T.length): Goes T.length q (qF rd l q b):=by
 unfold qF;split
 ·exact⟨Nat.le_refl _,hq,fun h=>by cases h⟩
 ·exact hrd l q hq
def Goes.from{n p q:Nat}{r:RS}(h:Goes n q r)(hpq:p<=q): Goes n p r:=⟨bW hpq h.1,h.2.1,fun hb=>Nat.lt_of_le_of_lt hpq (h.2.2 hb)⟩
def BV{T:List Tok}{rd:Nat->Nat->RS}(hrd:∀ l q,q<=T.length->Goes T.length q (rd l q)){p:Nat}(hp:p<=T.length): Goes T.length p (nH rd T p):=wg _ _ (hrd 0 p hp)
def BW{T:List Tok}{rd:Nat->Nat->RS}(hrd:∀ l q,q<=T.length->Goes T.length q (rd l q)){p:Nat}(hp:p<=T.length): Goes T.length (nH rd T p).p (ua rd T p):=wg _ _ (Hq hrd (BV hrd hp).2.1)
def aao{T:List Tok}{rd:Nat->Nat->RS}(hrd:∀ l q,q<=T.length->Goes T.length q (rd l q)){p:Nat}(hp:p<=T.length): Goes T.length (ua rd T p).p (AJ rd T p):=Hq hrd (BW hrd hp).2.1
def XE{T:List Tok}{rd:Nat->Nat->RS}(hrd:∀ l q,q<=T.length->Goes T.length q (rd l q)){p:Nat}(hp:p<=T.length): Goes T.length p (nh rd T p):=by
 have stay:∀ x,Goes T.length p ⟨x,p,true⟩:=fun x=>⟨Nat.le_refl _,hp,fun h=>by cases h⟩;have k0:¬ p<T.length->(T.getD p default).kind=0:=fun h=>by rw[qE (by omega)];rfl
 have step:(T.getD p default).kind≠0-> ∀ x,Goes T.length p ⟨x,p+1,false⟩:=fun hk x=>by
  have:p<T.length:=by
   by_cases h:p<T.length
   ·exact h
   ·exact absurd (k0 h) hk
  exact⟨Nat.le_succ _,this,fun _=>Nat.lt_succ_self _⟩
 unfold nh;split
 ·rename_i h;exact wg _ _ ((hrd 0 (p+1) (pg h)).from (Nat.le_succ _))
 ·split
  ·exact step (by omega) _
  ·split
   ·exact step (by omega) _
   ·split
    ·split
     ·exact step (by omega) _
     ·split
      ·exact step (by omega) _
      ·exact stay _
    ·exact stay _
def tq(T:List Tok)(f:Nat): ∀(m:Option Expr) (lvl p:Nat),p<=T.length->(m=none->Goes T.length p (bY T f m lvl p))/\p<=(bY T f m lvl p).p/\(bY T f m lvl p).p<=T.length:=by
 induction f with
 | zero =>
   intro m lvl p hp;simp only[bY];exact⟨fun _=>⟨Nat.le_refl _,hp,fun h=>by cases h⟩,Nat.le_refl _,hp⟩
 | succ f ih =>
   intro m lvl p hp;have hrd:∀ l q,q<=T.length->Goes T.length q (bY T f none l q):=fun l q hq=>(ih none l q hq).1 rfl;cases m with
   | none =>
     have:Goes T.length p (bY T (f+1) none lvl p):=by
      simp only[bY];split
      ·split
       ·rename_i h;have h1:=pg h;have a:=BV hrd (p:=p+1) h1;have b:=BW hrd (p:=p+1) h1;have c:=aao hrd (p:=p+1) h1;exact(show Goes T.length (ua (fun l q=>bY T f none l q) T (p+1)).p (I6 (fun l q=>bY T f none l q) T (p+1)) from⟨c.1,c.2.1,c.2.2⟩).from (bW (Nat.le_succ _) (bW a.1 b.1))
       ·exact hrd 1 p hp
      ·split
       ·rename_i h;have h1:=pg h.2;have c:=hrd 6 (p+1) h1;exact(show Goes T.length (p+1) ⟨_,_,_⟩ from⟨c.1,c.2.1,c.2.2⟩).from (Nat.le_succ _)
       ·split
        ·exact XE hrd hp
        ·split
         ·exact hrd _ _ hp
         ·rename_i hb;have a:=hrd (lvl+1) p hp;have b:=ih (some (bY T f none (lvl+1) p).x) lvl _ a.2.1;have:=a.2.2 (by simpa using hb);exact⟨by omega,b.2.2,fun _=>by omega⟩
     exact⟨fun _=>this,this.1,this.2.1⟩
   | some x =>
     refine⟨fun h=>(by cases h),?_⟩;simp only[bY];split
     ·exact⟨Nat.le_refl _,hp⟩
     ·rename_i o ho;have h1:=(D7 ho).1;have a:=hrd (lvl+1) (p+1) h1;split
      ·exact⟨by have:=a.1;dsimp only;omega,a.2.1⟩
      ·have b:=ih (some (.mk o.op v0 [] [x,(bY T f none (lvl+1) (p+1)).x])) lvl _ a.2.1;exact⟨by have:=a.1;omega,b.2.2⟩
def ri{σ : ae}{op vk vn:Int}{vs s:aO}{L:AV}{l:List Expr}(hL:View σ L (.aN false EX (l.map aT))): View σ (.agg [I op,I vk,I vn,.str vs,.str s,L]) (aT (.mk op ⟨vk,vn,vs⟩ s l)):=by
 rw[bq];refine View.nV (.cons (.refl _ rfl) (.cons (.refl _ rfl) (.cons (.refl _ rfl) (.cons (.refl _ rfl) (.cons (.refl _ rfl) (.cons ?_ (.nil _)))))));exact hL
def zj(T:List Tok)(n:FuncId)(rd:Nat->Nat->RS)(l q:Nat): Prop:=dh aH n 0 [I l] (ei T q false) (ei T (rd l q).p (rd l q).bad) (aT (rd l q).x)
def qG(T:List Tok)(p:Nat)(k:Int)(s:aO)(o:Bool)(hk:k≠0)(hp:p<=2 ^ 61)(h:kA T p k s=o): dh aH 199 0 [I k,.str s] (ei T p false) (ei T (if o then p+1 else p) false) (.bool o):=by
 have:=D6 T p false k s hk hp;unfold qh at this;rw[show fc T p false k s=o from h]at this;cases o
 ·simpa using this
 ·simpa using this
def RH (T : List Tok) (p : Nat) (rd : Nat -> Nat -> RS) (hp : p <= T.length) (hT : T.length <= 2 ^ 60) (hs : ∀ q, (T.getD q default).s.length <= 2 ^ 62)
    (hrd:kA T p 4 [40]=true->zj T 180 rd 0 (p+1)/\(rd 0 (p+1)).p<=T.length) :
    dh aH 201 0 [] (ei T p false) (ei T (nh rd T p).p (nh rd T p).bad) (aT (nh rd T p).x):=by
 have sZ:=fun o (ho:kA T p 4 [40]=o)=>qG T p 4 [40] o (by decide) (by omega) ho;have I7:=I5 T p false;have hsp:=hs p;simp only[D5,aG,if_false]at I7;by_cases KB:kA T p 4 [40]=true
 ·have ha:nh rd T p=jO T (rd 0 (p+1)) 4 [41]:=by unfold nh;rw[if_pos KB]
  obtain⟨hr,hb⟩:=hrd KB;unfold zj at hr;rw[ha];have sZ:=sZ true KB;generalize rd 0 (p+1)=r at *;have hm:=zQ T r.p r.bad 4 [41] (by decide) (by omega);rw[bq]at hr;simp only[ei,if_true]at sZ hr hm;generalize hE:aT _=E;refine dh.fS (iG.go ?_) rfl (bL _ _ _);unfold dO;intro Q aB aC aD;repeat' first|refine au ?_|refine da sZ ?_|refine da hr ?_|refine da hm ?_|refine aq ?_ ?_<;>intro hw<;>try omega|fail
  exact fE (View.eqv (by rw[<-hE];exact(bq _).symm) (by rw[<-hE];exact gH _)) (bN.refl (bL _ _ _))
 have ace:kA T p 4 [40]=false:=by simpa using KB
 have sZ:=sZ false ace;simp only[ei,aG,if_false]at sZ I7;have ha:nh rd T p=(if(T.getD p default).kind=2 then zR ⟨1,(T.getD p default).n,[]⟩ (p+1)
 else if(T.getD p default).kind=3 then zR ⟨2,0,(T.getD p default).s⟩ (p+1)
 else if(T.getD p default).kind=1 then
  (match t_ (T.getD p default).s with
  | some v=>zR v (p+1)
  | none=>if jU (T.getD p default).s then⟨.mk 2 v0 (T.getD p default).s [],p+1,false⟩else ⟨x0,p,true⟩)
 else⟨x0,p,true⟩:RS):=by unfold nh;rw[if_neg KB]<;>rfl
 rw[ha];clear ha hrd hs KB ace;generalize T.getD p default=t at *;obtain⟨tk,ts,tn,tp⟩:=t;simp only[sJ]at I7 hsp ⊢;have hname:=yj ts hsp;have hword:=Pu ts;by_cases h2:tk=2
 ·rw[if_pos h2];generalize hE:aT _=E;refine dh.fS (iG.go ?_) rfl (bL _ _ _);unfold dO;intro Q aB aC aD;repeat' first|refine au ?_|refine da sZ ?_|refine da I7 ?_|refine aq ?_ ?_<;>intro hw<;>try omega|fail
  exact fE (by rw[<-hE];exact ri (.aA _)) (bN.eqv rfl (bL T (p+1) false))
 rw[if_neg h2];by_cases h3:tk=3
 ·rw[if_pos h3];generalize hE:aT _=E;refine dh.fS (iG.go ?_) rfl (bL _ _ _);unfold dO;intro Q aB aC aD;repeat' first|refine au ?_|refine da sZ ?_|refine da I7 ?_|refine aq ?_ ?_<;>intro hw<;>try omega|fail
  exact fE (by rw[<-hE];exact ri (.aA _)) (bN.eqv rfl (bL T (p+1) false))
 rw[if_neg h3];by_cases h1:tk=1
 case neg =>
  rw[if_neg h1];generalize hE:aT _=E;refine dh.fS (iG.go ?_) rfl (bL _ _ _);unfold dO;intro Q aB aC aD;repeat' first|refine au ?_|refine da sZ ?_|refine da I7 ?_|refine aq ?_ ?_<;>intro hw<;>try omega|fail
  exact fE (by rw[<-hE];exact ri (.aA _)) (bN.eqv rfl (bL T p true))
 rw[if_pos h1];cases hw:t_ ts with
 | some v =>
   rw[hw]at hword;simp only[bw,Option.isSome_some,bX]at hword;dsimp only;generalize hE:aT _=E;refine dh.fS (iG.go ?_) rfl (bL _ _ _);unfold dO;intro Q aB aC aD;repeat' first|refine au ?_|refine da sZ ?_|refine da I7 ?_|refine aq ?_ ?_<;>intro hw<;>try omega|fail
   exact fE (by rw[<-hE];exact ri (.aA _)) (bN.eqv rfl (bL T (p+1) false))
 | none =>
   rw[hw]at hword;simp only[Option.getD_none,Option.isSome_none,bX,v0]at hword;dsimp only;cases hn:jU ts with
   | true =>
     rw[hn]at hname;simp only[if_true];generalize hE:aT _=E;refine dh.fS (iG.go ?_) rfl (bL _ _ _);unfold dO;intro Q aB aC aD;repeat' first|refine au ?_|refine da sZ ?_|refine da I7 ?_|refine aq ?_ ?_<;>intro hw<;>try omega|fail
     exact fE (by rw[<-hE];exact ri (.aA _)) (bN.eqv rfl (bL T (p+1) false))
   | false =>
     rw[hn]at hname;simp only[aG,if_false];generalize hE:aT _=E;refine dh.fS (iG.go ?_) rfl (bL _ _ _);unfold dO;intro Q aB aC aD;repeat' first|refine au ?_|refine da sZ ?_|refine da I7 ?_|refine aq ?_ ?_<;>intro hw<;>try omega|fail
     exact fE (by rw[<-hE];exact ri (.aA _)) (bN.eqv rfl (bL T p true))
def Pv {T : List Tok} {n : FuncId} {rd : Nat -> Nat -> RS} {l q : Nat} {b : Bool} (h : b = false -> zj T n rd l q) (U3 : dh aH n 0 [I l] (ei T q true) (ei T q true) (aT x0)) :
    dh aH n 0 [I l] (ei T q b) (ei T (qF rd l q b).p (qF rd l q b).bad) (aT (qF rd l q b).x):=by
 cases b with
 | true=>exact U3
 | false=>exact h rfl
def ND (T : List Tok) (p : Nat) (rd : Nat -> Nat -> RS) (hp : p <= T.length) (hT : T.length <= 2 ^ 60) (pn : ∀ l q, q <= T.length -> Goes T.length q (rd l q))
    (U3:∀ q,dh aH 180 0 [I 0] (ei T q true) (ei T q true) (aT x0)) (hrd:∀ q,p<=q->q<=T.length->zj T 180 rd 0 q) :
    dh aH 200 0 [] (ei T p false) (ei T (I6 rd T p).p (I6 rd T p).bad) (aT (I6 rd T p).x):=by
 have ga:=BV pn hp;have gb:=BW pn hp;have g0:=pn 0 p hp;have g1:=Hq pn (l:=0) (b:=(nH rd T p).bad) ga.2.1;have c1:=hrd p (Nat.le_refl _) hp;have m1:=zQ T (rd 0 p).p (rd 0 p).bad 1 thenS (by decide) (by have:=g0.2.1;omega);have c2:=Pv (l:=0) (q:=(nH rd T p).p) (b:=(nH rd T p).bad) (fun _=>hrd _ ga.1 ga.2.1) (U3 _);have m2:=zQ T (qF rd 0 (nH rd T p).p (nH rd T p).bad).p (qF rd 0 (nH rd T p).p (nH rd T p).bad).bad 1 zi (by decide) (by have:=g1.2.1;omega);have c3:=Pv (l:=0) (q:=(ua rd T p).p) (b:=(ua rd T p).bad) (fun _=>hrd _ (bW ga.1 gb.1) gb.2.1) (U3 _)
 change dh _ _ _ _ _ (ei T (nH rd T p).p (nH rd T p).bad) _ at m1
 change dh _ _ _ _ _ (ei T (ua rd T p).p (ua rd T p).bad) _ at m2
 change dh _ _ _ _ _ (ei T (AJ rd T p).p (AJ rd T p).bad) (aT (AJ rd T p).x)at c3
 unfold zj at c1;simp only[I6];have xa:(nH rd T p).x=(rd 0 p).x:=rfl;have xb:(ua rd T p).x=(qF rd 0 (nH rd T p).p (nH rd T p).bad).x:=rfl;rw[xa,xb];generalize qF rd 0 (nH rd T p).p (nH rd T p).bad=rb at *;generalize nH rd T p=ra at *;generalize ua rd T p=rb2 at *;generalize AJ rd T p=rc at *;generalize rd 0 p=r1 at *;rw[bq]at c1 c2 c3;simp only[ei,thenS,zi]at c1 m1 c2 m2 c3;generalize hE:aT _=E;refine dh.fS (yP.go ?_) rfl (bL _ _ _);unfold dO;intro Q aB aC aD;repeat' first|refine au ?_|refine da c1 ?_|refine da m1 ?_|refine da c2 ?_|refine da m2 ?_|refine da c3 ?_|refine aq ?_ ?_<;>intro hw<;>try omega|fail
 refine fE ?_ (bN.refl (bL _ _ _));rw[<-hE];refine ri ?_;rw[bf,bf,bf,cJ,bq,bq,bq];refine View.weak _ _ _ ?_;simp
@[go_sem ↓] def agC (l:Nat) (J:Env->ae->Prop) (Q:AQ) (e:Env) (σ : ae):tQ l J Q (.goto l) e σ = J e σ:=by simp[tQ]
def S4{e':Env}: ∀(l:List (Nat × AV)),At l e'->puts l e'=e'
 | [],_=>rfl
 | (d, v) :: l, h => by
   simp only[puts];rw[S4 l (fun p hp=>h p (bJ _ hp))];exact upd_same (h (d,v) (by simp))
def ac7 {P : Program} {l : Nat} {c r : cY} {Q : AQ} {e : Env} {σ : ae} {α : Type} (cs : α -> List (Nat × AV)) (S : α -> ae) (A : α -> Prop) (μ : α -> Nat)
    (hb:iJ P c (tQ l (fun e' σ'=> ∃ x,A x/\σ'=S x/\At (cs x) e') Q) e σ)
    (hr:∀ x r0,A x->iJ P r (tQ l (fun e' σ'=> ∃ x',A x'/\ μ x' < μ x/\σ'=S x'/\At (cs x') e') Q) (puts (cs x) r0) (S x)):OQ P (.mk:Tg (l,c,r,Q,e,σ)):=by
 refine⟨fun n e' σ'=> ∃ x,A x/\At (cs x) e'/\σ'=S x/\ μ x=n,BH (fun ex e2 σ2 hq=>?_) _ _ hb,?_⟩
 ·cases ex<;>try exact hq
  obtain⟨h1,x,a,hs,ht⟩:=hq;exact⟨h1,_,x,a,ht,hs,rfl⟩
 ·rintro n e' σ' ⟨x1,a1,t1,rfl,rfl⟩;have h:=hr x1 e' a1;rw[S4 _ t1]at h;refine BH (fun ex e2 σ2 hq=>?_) _ _ h;cases ex<;>try exact hq
  obtain⟨h1,x',a',hm,hs,ht⟩:=hq;exact⟨h1,_,hm,x',a',ht,hs,rfl⟩
def uc(op:Int)(zs:List AV): List AV:=[I op,I 0,I 0,.str [],.str [],.aN true EX zs]
def Fs{σ : ae}{op:Int}{zs:List AV}{l:List Expr}(h:bN [] zs (l.map aT)): View σ (.agg (uc op zs)) (aT (.mk op v0 [] l)) :=
 View.mono (σ:=[]) (fun _ _ h=>by simp at h) (ri (View.Kc h))
def I8{a b:AV}{x y:Expr}(h:View [] a (aT x))(h2:View [] b (aT y)): bN [] [a,b] ([x,y].map aT):= .cons h (.cons h2 (.nil _))
def U4{op:Int}{zs:List AV}(h:AV.cg zs=true): AV.cg (uc op zs)=true:=by simp[uc,AV.dz,AV.cg,h]
structure Lp where
 op:Int
 l:List Expr
 zs:List AV
 p:Nat
 f:Nat
def I9(T:List Tok)(lvl:Int)(p:Nat): dh aH 180 0 [I lvl] (ei T p true) (ei T p true) (aT x0):=by
 generalize hE:aT x0=E;refine dh.fS (fT.go ?_) rfl (bL _ _ _);unfold dO;intro Q aB aC aD;repeat' first|refine au ?_|refine aq ?_ ?_<;>intro hw<;>try omega|fail
 exact fE (by rw[<-hE];exact ri (.aA _)) (bN.refl (bL T p true))
def KC (T : List Tok) (hT : T.length <= 2 ^ 60) (rd : Nat -> Nat -> RS) (f lvl p : Nat) (h1 : 1 <= lvl) (h5 : lvl <= 5) (hp : p <= T.length) (hf : 8 * (T.length - p) + (8 - lvl) <= f) (hrd : rd = fun l q => bY T f none l q)
    (ih:∀ j,j<=f-> ∀ l q,l<=7->q<=T.length->8*(T.length-q)+(8-l)<j->zj T 180 (fun l q=>bY T j none l q) l q) :
    dh aH 180 0 [I lvl] (ei T p false) (ei T (bY T (f+1) none lvl p).p (bY T (f+1) none lvl p).bad) (aT (bY T (f+1) none lvl p).x):=by
 have ga:=(tq T f none (lvl+1) p hp).1 rfl;have ca:=ih f (Nat.le_refl _) (lvl+1) p (by omega) hp (by omega);simp only[zj]at ca;obtain⟨ga1,ga2,ga3⟩:=ga
 have hR:bY T (f+1) none lvl p=if(bY T f none (lvl+1) p).bad then bY T f none (lvl+1) p else bY T f (some (bY T f none (lvl+1) p).x) lvl (bY T f none (lvl+1) p).p:=by
  rw[bY];rw[if_neg (by omega),if_neg (by omega),if_neg (by omega)]
 generalize bY T (f+1) none lvl p=R at *;generalize bY T f none (lvl+1) p=a at *;obtain⟨ax,ap,ab⟩:=a;dsimp only at *;have cb:=CN T ap ab lvl (by omega);rw[bq]at ca;cases ab with
 | true =>
   simp only[if_true]at hR;subst hR;dsimp only
   have hn:tj T ap true lvl=none:=by
    cases ho:tj T ap true lvl with
    | none=>rfl
    | some o=>have:=(D7 ho).2.1;cases this
   simp only[L8,hn,Pt,Option.isSome_none,aG,if_false]at cb;generalize hE:aT ax=E;simp only[ei,Int.natCast_add,Int.cast_ofNat_Int]at ca cb;refine dh.fS (fT.go ?_) rfl (bL _ _ _);unfold dO;intro Q aB aC aD;repeat' first|simp (disch:=omega) only[go_sem,aB,aC,aD,Int.natCast_add,Int.cast_ofNat_Int]|refine au ?_|refine da ca ?_|refine da cb ?_|refine aq ?_ ?_<;>intro hw<;>try omega|fail
   exact fE (by rw[<-hE];exact View.eqv (bq _).symm (gH _)) (bN.refl (bL _ _ _))
 | false =>
   simp only[aG,if_false]at hR;have gp:=ga3 rfl;obtain⟨f,rfl⟩:∃ f',f=f'+1:=⟨f-1,by omega⟩;rw[bY]at hR;have e0:∀ σ : ae,View σ (.agg [I ax.op,I ax.v.kind,I ax.v.n,.str ax.v.s,.str ax.s,.aN false EX (ax.l.map aT)]) (aT ax):=fun σ=>View.eqv (bq _).symm (gH _);cases ho:tj T ap false lvl with
   | none =>
     rw[ho]at hR;dsimp only at hR;subst hR;dsimp only;simp only[L8,ho,Pt,Option.isSome_none,aG,if_false]at cb;generalize hE:aT ax=E at *;simp only[ei,Int.natCast_add,Int.cast_ofNat_Int]at ca cb;refine dh.fS (fT.go ?_) rfl (bL _ _ _);unfold dO;intro Q aB aC aD;repeat' first|simp (disch:=omega) only[go_sem,aB,aC,aD,Int.natCast_add,Int.cast_ofNat_Int]|refine au ?_|refine da ca ?_|refine da cb ?_|refine aq ?_ ?_<;>intro hw<;>try omega|fail
     exact fE (e0 _) (bN.refl (bL _ _ _))
   | some o =>
     rw[ho]at hR;dsimp only at hR;obtain⟨S5,_,L9,XF⟩:=D7 ho
     have hop:o.op≠0:=by
      intro h;simp only[jh,List.mem_cons,List.not_mem_nil,or_false]at L9;rcases L9 with rfl|rfl|rfl|rfl|rfl|rfl|rfl|rfl|rfl|rfl|rfl|rfl<;>simp at h
     have cc:=ih f (by omega) (lvl+1) (ap+1) (by omega) (by omega) (by omega);have gc:=(tq T f none (lvl+1) (ap+1) (by omega)).1 rfl;obtain⟨gc1,gc2,gc3⟩:=gc;simp only[zj]at cc;simp only[L8,ho,Pt,Option.isSome_some,if_true]at cb;generalize bY T f none (lvl+1) (ap+1)=c at *;obtain⟨cx,cp,U5⟩:=c;dsimp only at *;by_cases hend:lvl=3\/U5=true
     ·rw[if_pos hend]at hR;subst hR;dsimp only;have e1:∀ σ : ae,View σ (.agg (uc o.op [.agg [I ax.op,I ax.v.kind,I ax.v.n,.str ax.v.s,.str ax.s,.aN false EX (ax.l.map aT)],aT cx])) (aT (.mk o.op v0 [] [ax,cx])):=fun σ=>Fs (I8 (e0 _) (.refl _ (gH _)));rw[bq cx]at e1 cc;generalize hE:aT (.mk o.op v0 [] [ax,cx])=E at *;simp only[ei,Int.natCast_add,Int.cast_ofNat_Int]at ca cb cc;have h3:¬ (¬ lvl=3/\U5=false):=by rcases hend with h|h<;>simp[h]
      refine dh.fS (fT.go ?_) rfl (bL _ _ _);unfold dO;intro Q aB aC aD;rcases hend with hend|hend
      ·subst hend;repeat' first|simp (disch:=omega) only[go_sem,aB,aC,aD,Int.natCast_add,Int.cast_ofNat_Int]|refine au ?_|refine da ca ?_|refine da cb ?_|refine da cc ?_|refine aq ?_ ?_<;>intro hw<;>try omega|fail
       all_goals first|exact fE (e1 _) (bN.refl (bL _ _ _))|(exfalso;omega)
      ·subst hend;repeat' first|simp (disch:=omega) only[go_sem,aB,aC,aD,Int.natCast_add,Int.cast_ofNat_Int]|refine au ?_|refine da ca ?_|refine da cb ?_|refine da cc ?_|refine aq ?_ ?_<;>intro hw<;>try omega|fail
       all_goals first|exact fE (e1 _) (bN.refl (bL _ _ _))|(exfalso;omega)
     ·rw[if_neg hend]at hR;have hl3:lvl≠3:=fun h=>hend (.inl h)
      have hcb:U5=false:=by cases U5 with
       | false=>rfl
       | true=>exact absurd (.inr rfl) hend
      subst hcb;have e2:=e0 [];rw[bq cx]at cc;simp only[ei,Int.natCast_add,Int.cast_ofNat_Int]at ca cb cc;have gq:=gc3 rfl;refine dh.fS (fT.go ?_) rfl (bL _ _ _);unfold dO;intro Q aB aC aD;repeat' first|refine gn_ ?_|refine aq ?_ ?_<;>intro hw<;>try omega|fail
      with_reducible refine ac7 (fun x:Lp=>[(0,.ref 0 0),(1,I lvl),(4,.ref 1 0),(5,.ref 2 0)]) (fun x=>[.cells [.aN false ET (T.map sJ),I x.p,.bool false],.cells [I 0,I 0,I 0,.str [],.str [],.aA],.cells [I x.op,I 0,I 0,.str [],.str [],.aN true EX x.zs]]) (fun x=>(bN [] x.zs (x.l.map aT)/\AV.cg x.zs=true)/\x.p<=T.length/\8*(T.length-x.p)+8<=x.f/\x.f<=f/\R=bY T x.f (some (.mk x.op v0 [] x.l)) lvl x.p) (fun x=>x.f) ?_ ?_
      ·repeat' first|simp (disch:=omega) only[go_sem,aB,aC,aD,Int.natCast_add,Int.cast_ofNat_Int]|refine au ?_|refine da ca ?_|refine da cb ?_|refine da cc ?_|refine aq ?_ ?_<;>intro hw<;>try omega|fail
       refine⟨⟨o.op,[ax,cx],[.agg [I ax.op,I ax.v.kind,I ax.v.n,.str ax.v.s,.str ax.s,.aN false EX (ax.l.map aT)],aT cx],cp,f⟩,⟨⟨I8 e2 (.refl _ (gH _)),by simp⟩,gc2,by dsimp only;omega,Nat.le_refl _,hR⟩,?_,at_⟩;rw[bq cx]
      ·clear ca cb cc;rintro⟨L_,xl,xz,xp,xf⟩ r0 ⟨⟨a1,a2⟩,a3,a4,a5,a6⟩;dsimp only at a1 a2 a3 a4 a5 a6;obtain⟨j,rfl⟩:∃ j,xf=j+1:=⟨xf-1,by omega⟩;have cb:=CN T xp false lvl (by omega);rw[bY]at a6;clear hR;cases hq:tj T xp false lvl with
       | none =>
         rw[hq]at a6;dsimp only at a6;subst a6;dsimp only at aB aC aD;simp only[L8,hq,Pt,Option.isSome_none,aG,if_false,ei,Int.natCast_add,Int.cast_ofNat_Int]at cb;have ev:∀ σ : ae,View σ (.agg (uc L_ xz)) (aT (.mk L_ v0 [] xl)):=fun σ=>Fs a1;generalize hE:aT (.mk L_ v0 [] xl)=E at *;repeat' first|simp (disch:=omega) only[go_sem,aB,aC,aD,Int.natCast_add,Int.cast_ofNat_Int]|refine au ?_|refine da cb ?_|refine aq ?_ ?_<;>intro hw<;>try omega|fail
         exact fE (ev _) (bN.refl (bL _ _ _))
       | some o2 =>
         rw[hq]at a6;dsimp only at a6;obtain⟨Dt,_,LP,OM⟩:=D7 hq
         have Pw:o2.op≠0:=by
          intro h;simp only[jh,List.mem_cons,List.not_mem_nil,or_false]at LP;rcases LP with rfl|rfl|rfl|rfl|rfl|rfl|rfl|rfl|rfl|rfl|rfl|rfl<;>simp at h
         have cc:=ih j (by omega) (lvl+1) (xp+1) (by omega) (by omega) (by omega);obtain⟨gd1,gd2,gd3⟩:=(tq T j none (lvl+1) (xp+1) (by omega)).1 rfl;simp only[zj]at cc;simp only[L8,hq,Pt,Option.isSome_some,if_true,ei,Int.natCast_add,Int.cast_ofNat_Int]at cb;generalize bY T j none (lvl+1) (xp+1)=d at *;obtain⟨dx,dp,db⟩:=d;dsimp only at *;have e1:∀ σ : ae,View σ (.agg (uc o2.op [.agg (uc L_ xz),aT dx])) (aT (.mk o2.op v0 [] [.mk L_ v0 [] xl,dx])):=fun σ=>Fs (I8 (Fs a1) (.refl _ (gH _)));rw[bq dx]at cc e1;simp only[ei,Int.natCast_add,Int.cast_ofNat_Int]at cc;cases db with
         | true =>
           rw[if_pos (.inr rfl)]at a6;subst a6;dsimp only at aB aC aD;generalize hE:aT (.mk o2.op v0 [] [.mk L_ v0 [] xl,dx])=E at *;repeat' first|simp (disch:=omega) only[go_sem,aB,aC,aD,Int.natCast_add,Int.cast_ofNat_Int]|refine au ?_|refine da cb ?_|refine da cc ?_|refine aq ?_ ?_<;>intro hw<;>try omega|fail
           all_goals first|exact fE (e1 _) (bN.refl (bL _ _ _))|(exfalso;omega)
         | false =>
           rw[if_neg (by simp[hl3])]at a6;have gr:=gd3 rfl;repeat' first|simp (disch:=omega) only[go_sem,aB,aC,aD,Int.natCast_add,Int.cast_ofNat_Int]|refine au ?_|refine da cb ?_|refine da cc ?_|refine aq ?_ ?_<;>intro hw<;>try omega|fail
           refine⟨⟨o2.op,[.mk L_ v0 [] xl,dx],[.agg (uc L_ xz),aT dx],dp,j⟩,⟨⟨I8 (Fs a1) (.refl _ (gH _)),by simp[AV.dz,AV.cg,U4 a2,gH]⟩,gd2,by dsimp only;omega,by dsimp only;omega,a6⟩,by dsimp only;omega,?_,at_⟩;rw[bq dx];rfl
def RI(T:List Tok)(hT:T.length<=2 ^ 60)(hs:∀ q,(T.getD q default).s.length<=2 ^ 62): ∀ f,∀ lvl p,lvl<=7->p<=T.length->8*(T.length-p)+(8-lvl)<f->zj T 180 (fun l q=>bY T f none l q) lvl p:=by
 intro f
 induction f using Nat.strongRecOn with
 | ind f ih =>
 intro lvl p hl hp hf;obtain⟨f,rfl⟩:∃ f',f=f'+1:=⟨f-1,by omega⟩;have ihf:=ih f (Nat.lt_succ_self _);have pn:∀ l q,q<=T.length->Goes T.length q (bY T f none l q):=fun l q hq=>(tq T f none l q hq).1 rfl;simp only[zj];by_cases h5:1<=lvl/\lvl<=5
 ·exact KC T hT _ f lvl p h5.1 h5.2 hp (by omega) rfl (fun j hj l q h1 h2 h3=>ih j (by omega) l q h1 h2 h3)
 by_cases h0:lvl=0
 ·subst h0
  have hR:bY T (f+1) none 0 p=if kA T p 1 [105,102]then I6 (fun l q=>bY T f none l q) T (p+1)else bY T f none 1 p:=by
   rw[bY,if_pos rfl]
  by_cases hi:kA T p 1 [105,102]=true
  ·rw[if_pos hi]at hR;have Dt:=pg hi;have co:=qG T p 1 [105,102] true (by decide) (by omega) hi;have cb:=ND T (p+1) (fun l q=>bY T f none l q) Dt hT pn (fun q=>I9 T 0 q) (fun q h1 h2=>ihf 0 q (by omega) h2 (by omega));rw[hR];generalize I6 (fun l q=>bY T f none l q) T (p+1)=R at *;simp only[if_true]at co;generalize hE:aT R.x=E at *;have hEc:∃ cs,E = .agg cs:=⟨_,by rw[<-hE,bq]⟩;have hEp:E.dz=true:=by rw[<-hE];exact gH _
   rw[<-hE,bq]at cb;simp only[ei,Int.natCast_add,Int.cast_ofNat_Int]at co cb;refine dh.fS (fT.go ?_) rfl (bL _ _ _);unfold dO;intro Q aB aC aD;repeat' first|simp (disch:=omega) only[go_sem,aB,aC,aD,Int.natCast_add,Int.cast_ofNat_Int]|refine au ?_|refine da co ?_|refine da cb ?_|refine aq ?_ ?_<;>intro hw<;>try omega|fail
   exact fE (by rw[<-hE];exact View.eqv (bq _).symm (gH _)) (bN.refl (bL _ _ _))
  ·rw[if_neg hi]at hR;have hi':kA T p 1 [105,102]=false:=by simpa using hi
   have co:=qG T p 1 [105,102] false (by decide) (by omega) hi';have cr:=ihf 1 p (by omega) hp (by omega);rw[hR];simp only[zj]at cr;generalize bY T f none 1 p=R at *;generalize hE:aT R.x=E at *;rw[<-hE,bq]at cr;simp only[aG,if_false]at co;simp only[ei,Int.natCast_add,Int.cast_ofNat_Int]at co cr;refine dh.fS (fT.go ?_) rfl (bL _ _ _);unfold dO;intro Q aB aC aD;repeat' first|simp (disch:=omega) only[go_sem,aB,aC,aD,Int.natCast_add,Int.cast_ofNat_Int]|refine au ?_|refine da co ?_|refine da cr ?_|refine aq ?_ ?_<;>intro hw<;>try omega|fail
   exact fE (by rw[<-hE];exact View.eqv (bq _).symm (gH _)) (bN.refl (bL _ _ _))
 by_cases h6:lvl=6/\kA T p 4 [45]=true
 ·obtain⟨rfl,hi⟩:=h6;have Dt:=pg hi
  have hR:bY T (f+1) none 6 p=⟨.mk 3 v0 [] [(bY T f none 6 (p+1)).x],(bY T f none 6 (p+1)).p,(bY T f none 6 (p+1)).bad⟩:=by
   rw[bY,if_neg h0,if_pos ⟨rfl,hi⟩]
  have co:=qG T p 4 [45] true (by decide) (by omega) hi;have cr:=ihf 6 (p+1) (by omega) Dt (by omega);rw[hR];simp only[zj]at cr;generalize bY T f none 6 (p+1)=R at *;obtain⟨rx,rp,rb⟩:=R;dsimp only at *;have e1:∀ σ : ae,View σ (.agg (uc 3 [aT rx])) (aT (.mk 3 v0 [] [rx])):=fun σ=>Fs (.cons (.refl _ (gH _)) (.nil _));rw[bq rx]at e1 cr;generalize hE:aT (.mk 3 v0 [] [rx])=E at *;simp only[if_true]at co;simp only[ei,Int.natCast_add,Int.cast_ofNat_Int]at co cr;refine dh.fS (fT.go ?_) rfl (bL _ _ _);unfold dO;intro Q aB aC aD;repeat' first|simp (disch:=omega) only[go_sem,aB,aC,aD,Int.natCast_add,Int.cast_ofNat_Int]|refine au ?_|refine da co ?_|refine da cr ?_|refine aq ?_ ?_<;>intro hw<;>try omega|fail
  exact fE (e1 _) (bN.refl (bL _ _ _))
 have h67:6<=lvl:=by omega
 have hR:bY T (f+1) none lvl p=nh (fun l q=>bY T f none l q) T p:=by
  rw[bY,if_neg h0,if_neg h6,if_pos h67]
 have ca:=RH T p (fun l q=>bY T f none l q) hp hT hs (fun h=>⟨ihf 0 (p+1) (by omega) (pg h) (by have:=pg h;omega),(pn 0 (p+1) (pg h)).2.1⟩);rw[hR];have co:=fun h=>qG T p 4 [45] false (by decide) (by omega) h
 have hno:lvl=6->kA T p 4 [45]=false:=fun h=>by
  cases hq:kA T p 4 [45]with
  | false=>rfl
  | true=>exact absurd ⟨h,hq⟩ h6
 generalize nh (fun l q=>bY T f none l q) T p=R at *;generalize hE:aT R.x=E at *;rw[<-hE,bq]at ca;simp only[aG,if_false]at co;simp only[ei,Int.natCast_add,Int.cast_ofNat_Int]at co ca;refine dh.fS (fT.go ?_) rfl (bL _ _ _);unfold dO;intro Q aB aC aD;by_cases hl6:lvl=6
 ·have co:=co (hno hl6);subst hl6;repeat' first|simp (disch:=omega) only[go_sem,aB,aC,aD,Int.natCast_add,Int.cast_ofNat_Int]|refine au ?_|refine da co ?_|refine da ca ?_|refine aq ?_ ?_<;>intro hw<;>try omega|fail
  exact fE (by rw[<-hE];exact View.eqv (bq _).symm (gH _)) (bN.refl (bL _ _ _))
 ·obtain rfl:lvl=7:=by omega
  repeat' first|simp (disch:=omega) only[go_sem,aB,aC,aD,Int.natCast_add,Int.cast_ofNat_Int]|refine au ?_|refine da ca ?_|refine aq ?_ ?_<;>intro hw<;>try omega|fail
  exact fE (by rw[<-hE];exact View.eqv (bq _).symm (gH _)) (bN.refl (bL _ _ _))
