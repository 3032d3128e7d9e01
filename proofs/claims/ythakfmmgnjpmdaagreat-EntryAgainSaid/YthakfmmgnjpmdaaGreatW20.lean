/- Part. -/
import Derived.Test.YthakfmmgnjpmdaaGreatW19
set_option linter.all false
set_option maxHeartbeats 1000000
namespace Go.Proofs.YthakfmmgnjpmdaaGreat
open Go.AM
set_option maxRecDepth 4000
def Ao(op:Int)(v:aH)(s:aS)(l:List Expr): fE (.mk op v s l)=nY l+1:=by simp only[fE]
def Ms: Option Expr->Nat
 | none=>1
 | some x=>fE x
def Lk{T:List cg}{r:RS}{k:Int}{s:aS}: (iH T r k s).x=r.x/\r.p<=(iH T r k s).p:=by
 refine⟨rfl,?_⟩;simp only[iH,oS];split<;>omega
def W8{rd:Nat->Nat->RS}{l q:Nat}{b:Bool}(h:fE (rd l q).x+4*q<=1+4*(rd l q).p): fE (oT rd l q b).x+4*q<=1+4*(oT rd l q b).p:=by
 unfold oT;split
 ·simp[x0,fE,nY]
 ·exact h
def aer(T:List cg)(f:Nat): ∀(m:Option Expr) (lvl p:Nat),p<=T.length->fE (bV T f m lvl p).x+4*p<=Ms m+4*(bV T f m lvl p).p:=by
 induction f with
 | zero =>
   intro m lvl p hp
   have:1<=Ms m:=by
    cases m with
    | none=>exact Nat.le_refl _
    | some x=>cases x;simp[Ms,fE]
   simp only[bV,x0,fE,nY];omega
 | succ f ih =>
   intro m lvl p hp;have hrd:∀ l q,q<=T.length->fE (bV T f none l q).x+4*q<=1+4*(bV T f none l q).p:=fun l q hq=>ih none l q hq;have m_:∀ l q,q<=T.length->Goes T.length q (bV T f none l q):=fun l q hq=>(oa T f none l q hq).1 rfl;cases m with
   | none =>
     simp only[bV,Ms];split
     ·split
      ·rename_i h;have h1:=kC h;have ga:=xN m_ (p:=p+1) h1;have gb:=xO m_ (p:=p+1) h1;have a:=hrd 0 (p+1) h1;have b:=W8 (b:=(j3 (bV T f none) T (p+1)).bad) (hrd 0 _ ga.2.1);have c:=W8 (b:=(qi (bV T f none) T (p+1)).bad) (hrd 0 _ gb.2.1);have a2:=Lk (T:=T) (r:=bV T f none 0 (p+1)) (k:=1) (s:=thenS);have b2:=Lk (T:=T) (r:=oT (bV T f none) 0 (j3 (bV T f none) T (p+1)).p (j3 (bV T f none) T (p+1)).bad) (k:=1) (s:=Bv);have ea:(j3 (bV T f none) T (p+1))=iH T (bV T f none 0 (p+1)) 1 thenS:=rfl;have eb:(qi (bV T f none) T (p+1))=iH T (oT (bV T f none) 0 (j3 (bV T f none) T (p+1)).p (j3 (bV T f none) T (p+1)).bad) 1 Bv:=rfl;have ec:(xM (bV T f none) T (p+1))=oT (bV T f none) 0 (qi (bV T f none) T (p+1)).p (qi (bV T f none) T (p+1)).bad:=rfl;show fE (.mk 16 v0 [] [(j3 (bV T f none) T (p+1)).x,(qi (bV T f none) T (p+1)).x,(xM (bV T f none) T (p+1)).x])+4*p<=1+4*(xM (bV T f none) T (p+1)).p;rw[<-ea]at a2;rw[<-eb]at b2;rw[<-ec]at c;simp only[Ao,nY];rw[a2.1,b2.1];omega
      ·exact hrd 1 p hp
     ·split
      ·rename_i h;have h1:=kC h.2;have c:=hrd 6 (p+1) h1;simp only[Ao,nY];omega
      ·split
       ·have ok:∀ v s,fE (.mk 1 v s [])+4*p<=1+4*(p+1):=fun v s=>by simp only[Ao,nY];omega
        unfold jq;split
        ·rename_i h;have c:=hrd 0 (p+1) (kC h);have a2:=Lk (T:=T) (r:=bV T f none 0 (p+1)) (k:=4) (s:=[41]);show fE (iH T (bV T f none 0 (p+1)) 4 [41]).x+4*p<=1+4*(iH T (bV T f none 0 (p+1)) 4 [41]).p;rw[a2.1];omega
        ·repeat' split
         all_goals simp only[uG,x0,Ao,nY]
         all_goals omega
       ·split
        ·exact hrd _ _ hp
        ·have a:=hrd (lvl+1) p hp;have b:=ih (some (bV T f none (lvl+1) p).x) lvl _ (m_ (lvl+1) p hp).2.1;simp only[Ms]at b;omega
   | some x =>
     simp only[bV,Ms];split
     ·exact Nat.le_refl _
     ·rename_i o ho;have h1:=(Al ho).1;have a:=hrd (lvl+1) (p+1) h1;have g:=m_ (lvl+1) (p+1) h1;split
      ·simp only[Ao,nY];omega
      ·have b:=ih (some (.mk o.op v0 [] [x,(bV T f none (lvl+1) (p+1)).x])) lvl _ g.2.1;simp only[Ms,Ao,nY]at b;omega
def ez(T:List cg)(fr lvl:Int): Expr × Int × Int :=
 if fr<0\/(T.length:Int)<fr\/lvl<0\/7<lvl then(x0,0,2)
 else if(bV T (8*T.length+9) none lvl.toNat fr.toNat).bad then(x0,(bV T (8*T.length+9) none lvl.toNat fr.toNat).p,11)
 else((bV T (8*T.length+9) none lvl.toNat fr.toNat).x,(bV T (8*T.length+9) none lvl.toNat fr.toNat).p,0)
def vu(r:Expr × Int × Int): AV:= .bJ [aJ r.1,I r.2.1,I r.2.2]
def iU{σ : ae}{a E:AV}{n m:Int}(h:View σ a E): bn σ [a,I n,I m] [E,I n,I m]:= .cons h (.cons (.refl _ rfl) (.cons (.refl _ rfl) (.nil _)))
def F4(T:List cg)(fr lvl:Int)(hT:T.length<=2 ^ 50)(hs:∀ q,(T.getD q default).s.length<=2 ^ 62): aF aD 163 [pT T,I fr,I lvl] (vu (ez T fr lvl)):=by
 by_cases hg:fr<0\/(T.length:Int)<fr\/lvl<0\/7<lvl
 ·have e:ez T fr lvl=(x0,0,2):=by unfold ez;rw[if_pos hg]
  rw[e];have e1:∀ σ : ae,View σ (.agg [I 0,I 0,I 0,.str [],.str [],.ai]) (aJ x0):=fun σ=>jr (.ai _);simp only[vu];generalize aJ x0=E at *;refine aK uA ?_;intro Q aq au aA;repeat' first|refine ak ?_|refine aj ?_ ?_<;>intro hw<;>try omega|fail
  all_goals first|exact cN (iU (e1 _))|(exfalso;omega)
 ·obtain⟨p,rfl⟩:∃ p:Nat,fr=p:=⟨fr.toNat,by omega⟩;obtain⟨l,rfl⟩:∃ l:Nat,lvl=l:=⟨lvl.toNat,by omega⟩;have cr:=RU T (by omega) hs (8*T.length+9) l p (by omega) (by omega) (by omega)
  have e:ez T p l=if(bV T (8*T.length+9) none l p).bad then(x0,((bV T (8*T.length+9) none l p).p:Int),11)else ((bV T (8*T.length+9) none l p).x,((bV T (8*T.length+9) none l p).p:Int),0):=by
   unfold ez;rw[if_neg hg,Int.toNat_natCast,Int.toNat_natCast]
  rw[e];simp only[oc]at cr;generalize bV T (8*T.length+9) none l p=r at *;obtain⟨rx,rp,rb⟩:=r;dsimp only at *;have e1:∀ σ : ae,View σ (.agg [I 0,I 0,I 0,.str [],.str [],.ai]) (aJ x0):=fun σ=>jr (.ai _);have e2:∀ σ : ae,View σ (.agg [I rx.op,I rx.v.kind,I rx.v.n,.str rx.v.s,.str rx.s,.aG false EX (rx.l.map aJ)]) (aJ rx):=fun σ=>View.eqv (aU _).symm (dR _);rw[aU]at cr;simp only[bN]at cr;cases rb with
  | true =>
    simp only[if_true,vu];generalize aJ x0=E at *;refine aK uA ?_;intro Q aq au aA;repeat' first|refine ak ?_|refine bh cr ?_|refine aj ?_ ?_<;>intro hw<;>try omega|fail
    all_goals first|exact cN (iU (e1 _))|(exfalso;omega)
  | false =>
    simp only[aI,if_false,vu];generalize aJ rx=E at *;refine aK uA ?_;intro Q aq au aA;repeat' first|refine ak ?_|refine bh cr ?_|refine aj ?_ ?_<;>intro hw<;>try omega|fail
    all_goals first|exact cN (iU (e2 _))|(exfalso;omega)
def abk(r b:aS)(i:Nat): (kj r b i).s.length<=b.length+r.length:=by
 fun_induction kj r b i<;>simp_all[PR.err]<;>omega
def ac1(s:aS): (i_ s).s.length<=s.length+2:=by
 unfold i_;simp only;split
 ·unfold yI;split<;>simp[PR.err];omega
 ·split
  ·unfold nr;simp only;split
   ·simp[PR.err]
   ·split<;>simp[PR.err]
  ·split
   ·have:=abk (s.drop 1) [] 1;rw[List.length_drop]at this;simp only[List.length_nil]at this;omega
   ·unfold rZ;split
    ·rename_i m hm;have h2:=List.mem_of_find?_eq_some hm;simp only[oR,List.mem_cons,List.not_mem_nil,or_false]at h2;rcases h2 with h|h|h|h|h|h|h|h|h|h|h|h|h|h|h|h<;>subst h<;>simp
    ·simp[PR.err]
def UR(f:Nat): ∀(s:aS) (pos:Nat) (acc:List cg),(∀ t ∈ acc,t.s.length<=1000)->s.length<=900->(su f s pos acc).1.length<=acc.length+s.length/\ ∀ t ∈ (su f s pos acc).1,t.s.length<=1000:=by
 induction f with
 | zero=>intro s pos acc h _;exact⟨Nat.le_add_right _ _,h⟩
 | succ f ih =>
   intro s pos acc h hs;cases s with
   | nil=>exact⟨Nat.le_add_right _ _,h⟩
   | cons c r =>
     rw[yJ];simp only[List.length_cons]at hs ⊢;split
     ·have:=ih r (pos+1) acc h (by omega);exact⟨by omega,this.2⟩
     ·split
      ·rename_i he;have h1:=Hr (s:=c::r) (by simp) he;have h2:=ac1 (c::r);simp only[List.length_cons]at h1 h2
       have:=ih ((c::r).drop (i_ (c::r)).len) (pos+(i_ (c::r)).len) (acc++[⟨(i_ (c::r)).kind,(i_ (c::r)).s,(i_ (c::r)).n,pos⟩]) (fun t ht=>by
        rcases List.mem_append.1 ht with ht|ht
        ·exact h t ht
        ·simp only[List.mem_cons,List.not_mem_nil,or_false]at ht;subst ht;dsimp only;omega) (by rw[List.length_drop,List.length_cons];omega)
       rw[List.length_drop,List.length_append,List.length_cons]at this;simp only[List.length_cons,List.length_nil]at this;exact⟨by omega,this.2⟩
      ·exact⟨Nat.zero_le _,fun t ht=>by cases ht⟩
def nH(s:aS): (bF s).1.length<=200/\ ∀ q,((bF s).1.getD q default).s.length<=1000:=by
 have h:(bF s).1.length<=200/\ ∀ t ∈ (bF s).1,t.s.length<=1000:=by
  unfold bF;split
  ·exact⟨Nat.zero_le _,fun t ht=>by cases ht⟩
  ·have:=UR (s.length+1) s 0 [] (fun t ht=>by cases ht) (by omega);simp only[List.length_nil]at this;exact⟨by omega,this.2⟩
 refine⟨h.1,fun q=>?_⟩;by_cases hq:q<(bF s).1.length
 ·exact h.2 _ (aO hq)
 ·rw[qh (by omega)];exact fx _
def Bz(T:List cg)(fr lvl:Int): fE (ez T fr lvl).1<=1+4*T.length:=by
 have h0:fE x0=1:=by simp[x0,fE,nY]
 unfold ez;split
 ·dsimp only;omega
 ·rename_i hg;split
  ·dsimp only;omega
  ·have:=aer T (8*T.length+9) none lvl.toNat fr.toNat (by omega);have g:=(oa T (8*T.length+9) none lvl.toNat fr.toNat (by omega)).2.2;simp only[Ms]at this;dsimp only;omega
def dK(s:aS): Expr × Int × Int :=
 if(bF s).2.2≠0 then(x0,(bF s).2.1,(bF s).2.2)
 else if(ez (bF s).1 0 0).2.1<(bF s).1.length then(x0,((bF s).1.getD (ez (bF s).1 0 0).2.1.toNat default).pos,11)
 else if(ez (bF s).1 0 0).2.2≠0 then(x0,s.length,(ez (bF s).1 0 0).2.2)
 else if 12<kA (ez (bF s).1 0 0).1 then(x0,0,12)
 else((ez (bF s).1 0 0).1,0,0)
def Fl(T:List cg)(fr lvl:Int): 0<=(ez T fr lvl).2.1/\(ez T fr lvl).2.1<=T.length:=by
 unfold ez;split
 ·exact⟨Int.le_refl _,by dsimp only;omega⟩
 ·rename_i hg;have g:=(oa T (8*T.length+9) none lvl.toNat fr.toNat (by omega)).2.2;split<;>(dsimp only;omega)
def PG(s:aS)(hs:s.length<=2 ^ 30): aF aD 112 [.str s] (vu (dK s)):=by
 have cl:=Ta s hs;obtain⟨f1,f2⟩:=nH s;have cr:=F4 (bF s).1 0 0 (by omega) (fun q=>by have:=f2 q;omega);have hz:=Bz (bF s).1 0 0;obtain⟨Jm,s8⟩:=Fl (bF s).1 0 0
 have hP:dK s=if(bF s).2.2≠0 then(x0,(bF s).2.1,(bF s).2.2)
  else if(ez (bF s).1 0 0).2.1<(bF s).1.length then(x0,((bF s).1.getD (ez (bF s).1 0 0).2.1.toNat default).pos,11)
  else if(ez (bF s).1 0 0).2.2≠0 then(x0,(s.length:Int),(ez (bF s).1 0 0).2.2)
  else if 12<kA (ez (bF s).1 0 0).1 then(x0,0,12)
  else((ez (bF s).1 0 0).1,0,0):=rfl
 rw[hP];clear hP f2;generalize ez (bF s).1 0 0=r at *;generalize bF s=L at *;obtain⟨T,la,le⟩:=L;obtain⟨rx,rn,re⟩:=r;dsimp only at *;have cd:=F1 rx (by omega);obtain⟨n,rfl⟩:∃ n:Nat,rn=n:=⟨rn.toNat,by omega⟩;have e1:∀ σ : ae,View σ (.agg [I 0,I 0,I 0,.str [],.str [],.ai]) (aJ x0):=fun σ=>jr (.ai _);have e2:∀ σ : ae,View σ (.agg [I rx.op,I rx.v.kind,I rx.v.n,.str rx.v.s,.str rx.s,.aG false EX (rx.l.map aJ)]) (aJ rx):=fun σ=>View.eqv (aU _).symm (dR _);simp only[vu]at cr ⊢;rw[aU]at cr cd;simp only[Hs,pT]at cl cr;by_cases h1:le≠0
 ·rw[if_pos h1];generalize aJ x0=E at *;refine aK nE ?_;intro Q aq au aA;repeat' first|refine ak ?_|refine aj ?_ ?_<;>intro hw<;>try omega|fail
  all_goals exact cN (iU (e1 _))
 rw[if_neg h1];by_cases h2:(n:Int)<T.length
 ·rw[if_pos h2,ff];generalize aJ x0=E at *;have hn:n<T.length:=by omega
  refine aK nE ?_;intro Q aq au aA;repeat' first|refine ak ?_|refine aj ?_ ?_<;>intro hw<;>try omega|fail
  all_goals exact cN (iU (e1 _))
 rw[if_neg h2];by_cases h3:re≠0
 ·rw[if_pos h3];generalize aJ x0=E at *;refine aK nE ?_;intro Q aq au aA;repeat' first|refine ak ?_|refine aj ?_ ?_<;>intro hw<;>try omega|fail
  all_goals exact cN (iU (e1 _))
 rw[if_neg h3];by_cases h4:12<kA rx
 ·rw[if_pos h4];generalize aJ x0=E at *;refine aK nE ?_;intro Q aq au aA;repeat' first|refine ak ?_|refine aj ?_ ?_<;>intro hw<;>try omega|fail
  all_goals exact cN (iU (e1 _))
 ·rw[if_neg h4];generalize aJ rx=E at *;refine aK nE ?_;intro Q aq au aA;repeat' first|refine ak ?_|refine aj ?_ ?_<;>intro hw<;>try omega|fail
  all_goals exact cN (iU (e2 _))
def Hw(T:List cg)(p:Nat)(b:Bool)(k:Int)(s:aS): br aD 236 0 [I k,.str s] (bN T p b) (bN T p b) (.bool (jA T p k s)):=by
 unfold jA;refine br.bM (DM.go ?_) rfl (aT _ _ _);unfold cj;intro Q aq au aA;by_cases hp:p<T.length
 ·repeat' first|refine ak ?_|refine aj ?_ ?_<;>intro hw<;>try omega|fail
  all_goals refine bZ (View.eqv ?_ (by rfl)) (bn.refl (aT T p b))
  all_goals (clear aq au aA;refine congrArg AV.bool ?_;rw[aW];simp_all)
 ·repeat' first|refine ak ?_|refine aj ?_ ?_<;>intro hw<;>try omega|fail
  refine bZ (View.eqv ?_ (by rfl)) (bn.refl (aT T p b));rw[decide_eq_false hp];rfl
def rL(T:List cg)(p:Nat)(b:Bool)(k:Int)(s:aS)(o:Bool)(h:jA T p k s=o): br aD 236 0 [I k,.str s] (bN T p b) (bN T p b) (.bool o):=by
 have:=Hw T p b k s;rwa[h]at this
def BA(T:List cg)(p:Nat)(b:Bool)(k:Int)(s:aS)(hp:p<=2 ^ 61): br aD 237 0 [I k,.str s] (bN T p b) (bN T (oS T p b k s) (b || !(eG T p b k s))) (.bJ []):=by
 unfold oS eG;cases b with
 | true =>
   refine br.bM (tw.go ?_) rfl (aT _ _ _);unfold cj;intro Q aq au aA;repeat' first|refine ak ?_|refine aj ?_ ?_<;>intro hw<;>try omega|fail
   refine tj rfl (bn.eqv ?_ (aT _ _ _));simp[bN]
 | false =>
   have hn:=Hw T p false k s;generalize jA T p k s=o at hn ⊢;simp only[bN]at hn;refine br.bM (tw.go ?_) rfl (aT _ _ _);unfold cj;intro Q aq au aA;cases o
   ·repeat' first|refine ak ?_|refine bh hn ?_|refine aj ?_ ?_<;>intro hw<;>try omega|fail
    refine tj rfl (bn.eqv ?_ (aT _ _ _));simp[bN]
   ·repeat' first|refine ak ?_|refine bh hn ?_|refine aj ?_ ?_<;>intro hw<;>try omega|fail
    refine tj rfl (bn.eqv ?_ (aT _ _ _));simp[bN]
def ac2: ∀ i:Nat,i<12->oH ((i:Int)+4)=jz.getD i default/\PA ((i:Int)+4)=(jz.getD i default).level/\(jz.getD i default).op=(i:Int)+4/\mj (jz.getD i default)=(if(i:Int)+4=14\/(i:Int)+4=15 then 1 else 4):=by decide
def Zg(T:List cg)(p:Nat)(lvl:Int): br aD 238 0 [I lvl] (bN T p false) (bN T p false) (I (D7 (uf T p false lvl))):=by
 refine br.bM (DN.go ?_) rfl (aT _ _ _);unfold cj;intro Q aq au aA;have hi:=fun k s=>Hw T p false k s;simp only[bN]at hi;repeat' first|refine ak ?_|refine aj ?_ ?_<;>intro hw<;>try omega|fail
 with_reducible refine aX [4,5,6,7,8,9,10,11,12,13,14,15,16,17,18,19,20,21,22,23,24,25,26,27,28] (fun i:Nat=>[(5,I ((i:Int)+4))]) (fun _=>[.cells [.aG false ET (T.map lT),I p,.bool false]]) (fun i=>i<=12/\ ∀ k,k<i->((jz.getD k default).level==lvl && eG T p false (mj (jz.getD k default)) (jz.getD k default).sign)=false) (fun i=>12-i) (0) ?_ ?_ ?_ ?_
 ·simp
 ·rfl
 ·exact at_
 rintro i r ⟨h1,h2⟩;by_cases ac3:i<12
 ·obtain⟨b1,b2,b3,b4⟩:=ac2 i ac3;obtain⟨x,hx⟩:∃ x,jz.getD i default=x:=⟨_,rfl⟩;rw[hx]at b1 b2 b3 b4
  have hyes:(x.level==lvl && jA T p (mj x) x.sign)=true->uf T p false lvl=some x:=fun h=>by
   unfold uf;rw[sO (p:=fun y:Ah=>y.level==lvl && eG T p false (mj y) y.sign) (by exact ac3) h2 (by rw[hx];exact h),hx]
  have Lh:(x.level==lvl && jA T p (mj x) x.sign)=false-> ∀ k,k<i+1->((jz.getD k default).level==lvl && eG T p false (mj (jz.getD k default)) (jz.getD k default).sign)=false:=fun h=>bx h2 (by rw[hx];exact h);clear h2;have hl:=RP ((i:Int)+4);have hs:=Jf ((i:Int)+4);rw[b2]at hl;rw[b1]at hs
  have iX:(((i:Int)+4=14\/(i:Int)+4=15)/\mj x=1)\/(¬ ((i:Int)+4=14\/(i:Int)+4=15)/\mj x=4):=by
   rw[b4];split<;>simp_all
  clear b1 b2 b4;rcases iX with⟨hlv,W5⟩|⟨hlv,W5⟩;all_goals rw[W5]at hyes Lh
  all_goals (
   repeat' first|refine ak ?_|refine bh (hi 1 _) ?_|refine bh (hi 4 _) ?_|refine aj ?_ ?_<;>intro hw<;>try omega|fail
   all_goals first
    | (have hy := hyes (by simp_all)
       refine bZ (View.eqv ?_ rfl) (bn.refl (aT T p false));rw[hy];simp only[D7,b3];done)
    | (refine ⟨i + 1, ?_, ?_, by first | rfl | (simp [go_sem]; done), bK, at_⟩ <;> (try dsimp only)
       ·exact⟨by omega,Lh (by simp_all)⟩
       ·omega))
 ·have hno : uf T p false lvl = none := by
   unfold uf;rw[qg (p:=fun y:Ah=>y.level==lvl && eG T p false (mj y) y.sign) (fun k hk=>h2 k (by have:jz.length=12:=rfl;omega))]
  repeat' first|refine ak ?_|refine aj ?_ ?_<;>intro hw<;>try omega|fail
  refine bZ (View.eqv ?_ rfl) (bn.refl (aT T p false));rw[hno];rfl
def tG: aS:=[110,117,108,108]
def uU: aS:=[116,114,117,101]
def tH: aS:=[102,97,108,115,101]
def Jn(T:List cg)(p:Nat): br aD 235 0 [] (bN T p true) (bN T p true) (aJ x0):=by
 generalize hE:aJ x0=E;refine br.bM (eu.go ?_) rfl (aT _ _ _);unfold cj;intro Q aq au aA;repeat' first|refine ak ?_|refine aj ?_ ?_<;>intro hw<;>try omega|fail
 exact bZ (by rw[<-hE];exact jr (.ai _)) (bn.refl (aT T p true))
def RV (T : List cg) (p : Nat) (rd : Nat -> Nat -> RS) (hp : p <= T.length) (hT : T.length <= 2 ^ 60) (hs : ∀ q, (T.getD q default).s.length <= 2 ^ 62)
    (hrd:jA T p 4 [40]=true->oc T 194 rd 0 (p+1)/\(rd 0 (p+1)).p<=T.length) :
    br aD 235 0 [] (bN T p false) (bN T (jq rd T p).p (jq rd T p).bad) (aJ (jq rd T p).x):=by
 by_cases hlt:p<T.length
 case neg =>
  have hno:jA T p 4 [40]=false:=by
   cases h:jA T p 4 [40]with
   | false=>rfl
   | true=>exact absurd (kC h) hlt
  have ha:jq rd T p=⟨x0,p,true⟩:=by
   unfold jq;rw[hno,qh (by omega)];rfl
  rw[ha];dsimp only;generalize hE:aJ x0=E;refine br.bM (eu.go ?_) rfl (aT _ _ _);unfold cj;intro Q aq au aA;repeat' first|refine ak ?_|refine aj ?_ ?_<;>intro hw<;>try omega|fail
  exact bZ (by rw[<-hE];exact jr (.ai _)) (bn.refl (aT T p true))
 have hsp:=hs p
 have his:∀ k s,jA T p k s=(decide ((T.getD p default).kind=k) && decide ((T.getD p default).s=s)):=fun k s=>by
  unfold jA;rw[decide_eq_true hlt,Bool.true_and]
 have ci:=fun k s o h=>rL T p false k s o h;simp only[his]at hrd ci
 have ha:jq rd T p=if(decide ((T.getD p default).kind=4) && decide ((T.getD p default).s=[40]))=true then iH T (rd 0 (p+1)) 4 [41]else
  (if(T.getD p default).kind=2 then uG ⟨1,(T.getD p default).n,[]⟩ (p+1)
  else if(T.getD p default).kind=3 then uG ⟨2,0,(T.getD p default).s⟩ (p+1)
  else if(T.getD p default).kind=1 then
   (match qS (T.getD p default).s with
   | some v=>uG v (p+1)
   | none=>if jH (T.getD p default).s then⟨.mk 2 v0 (T.getD p default).s [],p+1,false⟩else ⟨x0,p,true⟩)
  else⟨x0,p,true⟩:RS):=by unfold jq;rw[his]<;>rfl
 rw[ha];clear ha hs his;obtain⟨t,ht⟩:∃ t,T.getD p default=t:=⟨_,rfl⟩;rw[ht]at hrd ci hsp ⊢;obtain⟨tk,ts,tn,tp⟩:=t;simp only at hrd ci hsp ⊢;have hname:=wC ts hsp;by_cases tF:(decide (tk=4) && decide (ts=[40]))=true
 ·rw[if_pos tF];obtain⟨hr,hb⟩:=hrd tF;simp only[aC,decide_eq_true_eq]at tF;obtain⟨rfl,rfl⟩:=tF;have c1:=ci 1 tG false (by simp);have c2:=ci 1 uU false (by simp);have c3:=ci 1 tH false (by simp);have c4:=ci 4 [40] true (by simp);unfold oc at hr;generalize rd 0 (p+1)=r at *;have hm:=BA T r.p r.bad 4 [41] (by omega);generalize hE:aJ (iH T r 4 [41]).x=E;have Mc:aJ r.x=E:=hE;rw[aU]at hr Mc;simp only[bN,tG,uU,tH,Int.natCast_add,Int.cast_ofNat_Int]at c1 c2 c3 c4 hr hm;refine br.bM (eu.go ?_) rfl (aT _ _ _);unfold cj;intro Q aq au aA;repeat' first|simp (disch:=omega) only[go_sem,aq,au,aA,ht,Int.natCast_add,Int.cast_ofNat_Int]|refine ak ?_|refine bh c1 ?_|refine bh c2 ?_|refine bh c3 ?_|refine bh c4 ?_|refine bh hr ?_|refine bh hm ?_|refine aj ?_ ?_<;>intro hw<;>try omega|fail
  exact bZ (by rw[<-Mc];exact View.refl _ (by simp)) (bn.refl (aT _ _ _))
 rw[if_neg tF];have Oq:(decide (tk=4) && decide (ts=[40]))=false:=by simpa using tF
 have c4:=ci 4 [40] false Oq;clear hrd tF;by_cases h2:tk=2
 ·rw[if_pos h2];generalize hE:aJ _=E;refine br.bM (eu.go ?_) rfl (aT _ _ _);unfold cj;intro Q aq au aA;repeat' first|simp (disch:=omega) only[go_sem,aq,au,aA,ht]|refine ak ?_|refine aj ?_ ?_<;>intro hw<;>try omega|fail
  exact bZ (by rw[<-hE];exact jr (.ai _)) (bn.eqv rfl (aT T (p+1) false))
 rw[if_neg h2];by_cases h3:tk=3
 ·rw[if_pos h3];generalize hE:aJ _=E;refine br.bM (eu.go ?_) rfl (aT _ _ _);unfold cj;intro Q aq au aA;repeat' first|simp (disch:=omega) only[go_sem,aq,au,aA,ht]|refine ak ?_|refine aj ?_ ?_<;>intro hw<;>try omega|fail
  exact bZ (by rw[<-hE];exact jr (.ai _)) (bn.eqv rfl (aT T (p+1) false))
 rw[if_neg h3];by_cases h1:tk=1
 case neg =>
  rw[if_neg h1];have c1:=ci 1 tG false (by simp[h1]);have c2:=ci 1 uU false (by simp[h1]);have c3:=ci 1 tH false (by simp[h1]);simp only[bN,tG,uU,tH]at c1 c2 c3 c4;generalize hE:aJ _=E;refine br.bM (eu.go ?_) rfl (aT _ _ _);unfold cj;intro Q aq au aA;repeat' first|simp (disch:=omega) only[go_sem,aq,au,aA,ht]|refine ak ?_|refine bh c1 ?_|refine bh c2 ?_|refine bh c3 ?_|refine bh c4 ?_|refine aj ?_ ?_<;>intro hw<;>try omega|fail
  exact bZ (by rw[<-hE];exact jr (.ai _)) (bn.eqv rfl (aT T p true))
 rw[if_pos h1];have cb:∀ s b,decide (ts=s)=b->(decide (tk=1) && decide (ts=s))=b:=fun s b h=>by rw[decide_eq_true h1,dG,h]
 by_cases w1:ts=tG
 ·have hw:qS ts=some v0:=by rw[w1];rfl
  rw[hw];dsimp only;have c1:=ci 1 tG true (cb _ _ (decide_eq_true w1));simp only[bN,tG]at c1;generalize hE:aJ _=E;refine br.bM (eu.go ?_) rfl (aT _ _ _);unfold cj;intro Q aq au aA;repeat' first|simp (disch:=omega) only[go_sem,aq,au,aA,ht]|refine ak ?_|refine bh c1 ?_|refine aj ?_ ?_<;>intro hw<;>try omega|fail
  exact bZ (by rw[<-hE];exact jr (.ai _)) (bn.eqv rfl (aT T (p+1) false))
 have c1:=ci 1 tG false (cb _ _ (decide_eq_false w1));by_cases w2:ts=uU
 ·have hw:qS ts=some ⟨3,1,[]⟩:=by rw[w2];rfl
  rw[hw];dsimp only;have c2:=ci 1 uU true (cb _ _ (decide_eq_true w2));simp only[bN,tG,uU]at c1 c2;generalize hE:aJ _=E;refine br.bM (eu.go ?_) rfl (aT _ _ _);unfold cj;intro Q aq au aA;repeat' first|simp (disch:=omega) only[go_sem,aq,au,aA,ht]|refine ak ?_|refine bh c1 ?_|refine bh c2 ?_|refine aj ?_ ?_<;>intro hw<;>try omega|fail
  exact bZ (by rw[<-hE];exact jr (.ai _)) (bn.eqv rfl (aT T (p+1) false))
 have c2:=ci 1 uU false (cb _ _ (decide_eq_false w2));by_cases w3:ts=tH
 ·have hw:qS ts=some ⟨3,0,[]⟩:=by rw[w3];rfl
  rw[hw];dsimp only;have c3:=ci 1 tH true (cb _ _ (decide_eq_true w3));simp only[bN,tG,uU,tH]at c1 c2 c3;generalize hE:aJ _=E;refine br.bM (eu.go ?_) rfl (aT _ _ _);unfold cj;intro Q aq au aA;repeat' first|simp (disch:=omega) only[go_sem,aq,au,aA,ht]|refine ak ?_|refine bh c1 ?_|refine bh c2 ?_|refine bh c3 ?_|refine aj ?_ ?_<;>intro hw<;>try omega|fail
  exact bZ (by rw[<-hE];exact jr (.ai _)) (bn.eqv rfl (aT T (p+1) false))
 have c3:=ci 1 tH false (cb _ _ (decide_eq_false w3))
 have hw:qS ts=none:=by
  exact(if_neg w1).trans ((if_neg w3).trans (if_neg w2))
 rw[hw];dsimp only;clear w1 w2 w3 hw cb ci;simp only[bN,tG,uU,tH]at c1 c2 c3 c4;cases hn:jH ts with
 | true =>
   rw[hn]at hname;simp only[if_true];generalize hE:aJ _=E;refine br.bM (eu.go ?_) rfl (aT _ _ _);unfold cj;intro Q aq au aA;repeat' first|simp (disch:=omega) only[go_sem,aq,au,aA,ht]|refine ak ?_|refine bh c1 ?_|refine bh c2 ?_|refine bh c3 ?_|refine bh c4 ?_|refine aj ?_ ?_<;>intro hw<;>try omega|fail
   exact bZ (by rw[<-hE];exact jr (.ai _)) (bn.eqv rfl (aT T (p+1) false))
 | false =>
   rw[hn]at hname;simp only[aI,if_false];generalize hE:aJ _=E;refine br.bM (eu.go ?_) rfl (aT _ _ _);unfold cj;intro Q aq au aA;repeat' first|simp (disch:=omega) only[go_sem,aq,au,aA,ht]|refine ak ?_|refine bh c1 ?_|refine bh c2 ?_|refine bh c3 ?_|refine bh c4 ?_|refine aj ?_ ?_<;>intro hw<;>try omega|fail
   exact bZ (by rw[<-hE];exact jr (.ai _)) (bn.eqv rfl (aT T p true))
def Ap(T:List cg)(lvl:Int)(p:Nat): br aD 194 0 [I lvl] (bN T p true) (bN T p true) (aJ x0):=by
 have hf:=Jn T p;generalize hE:aJ x0=E;rw[aU]at hf;simp only[bN]at hf;refine br.bM (iS.go ?_) rfl (aT _ _ _);unfold cj;intro Q aq au aA;repeat' first|refine ak ?_|refine bh hf ?_|refine aj ?_ ?_<;>intro hw<;>try omega|fail
 exact bZ (by rw[<-hE];exact View.eqv (aU _).symm (dR _)) (bn.refl (aT T p true))
structure Lq where
 op:Int
 vk:Int
 vn:Int
 vs:aS
 s:aS
 fl:Bool
 zs:List AV
 x:Expr
 p:Nat
 b:Bool
 f:Nat
def Lq.cs(q:Lq): List AV:=[I q.op,I q.vk,I q.vn,.str q.vs,.str q.s,.aG q.fl EX q.zs]
def Lq.seen(q:Lq): Prop:=View [] (.agg q.cs) (aJ q.x)
def N1 (T : List cg) (hT : T.length <= 2 ^ 60) (f lvl p : Nat) (h1 : 1 <= lvl) (h5 : lvl <= 5) (hp : p <= T.length) (hf : 8 * (T.length - p) + (8 - lvl) <= f)
    (ih:∀ j,j<=f-> ∀ l q,l<=7->q<=T.length->8*(T.length-q)+(8-l)<j->oc T 194 (fun l q=>bV T j none l q) l q) :
    br aD 194 0 [I lvl] (bN T p false) (bN T (bV T (f+1) none lvl p).p (bV T (f+1) none lvl p).bad) (aJ (bV T (f+1) none lvl p).x):=by
 have ga:=(oa T f none (lvl+1) p hp).1 rfl;have ca:=ih f (Nat.le_refl _) (lvl+1) p (by omega) hp (by omega);simp only[oc]at ca;obtain⟨ga1,ga2,ga3⟩:=ga
 have hR:bV T (f+1) none lvl p=if(bV T f none (lvl+1) p).bad then bV T f none (lvl+1) p else bV T f (some (bV T f none (lvl+1) p).x) lvl (bV T f none (lvl+1) p).p:=by
  rw[bV];rw[if_neg (by omega),if_neg (by omega),if_neg (by omega)]
 generalize bV T (f+1) none lvl p=R at *;generalize bV T f none (lvl+1) p=a at *;obtain⟨ax,ap,ab⟩:=a;dsimp only at *;have e0:∀ σ : ae,View σ (.agg [I ax.op,I ax.v.kind,I ax.v.n,.str ax.v.s,.str ax.s,.aG false EX (ax.l.map aJ)]) (aJ ax):=fun σ=>View.eqv (aU _).symm (dR _)
 have hfp:ab=true\/8*(T.length-ap)+8<=f:=by
  cases ab with
  | true=>exact .inl rfl
  | false=>have:=ga3 rfl;exact .inr (by omega)
 rw[aU]at ca;simp only[bN,Int.natCast_add,Int.cast_ofNat_Int]at ca;refine br.bM (iS.go ?_) rfl (aT _ _ _);unfold cj;intro Q aq au aA;repeat' first|refine ak ?_|refine bh ca ?_|refine aj ?_ ?_<;>intro hw<;>try omega|fail
 clear ca;with_reducible refine aX [9,83,84,85,86,87,88,89,90,91,92,93,94,95,96,97,98,99,100,101,102,103,104,105,106,107,108,109,110,111] (fun _:Lq=>[]) (fun q=>[.cells [.aG false ET (T.map lT),I q.p,.bool q.b],.cells [I 0,I 0,I 0,.str [],.str [],.ai],.cells [I q.op,I q.vk,I q.vn,.str q.vs,.str q.s,.aG q.fl EX q.zs]]) (fun q=>(q.seen/\AV.bG q.zs=true)/\q.p<=T.length/\q.f<=f/\(q.b=true->R=⟨q.x,q.p,true⟩)/\(q.b=false->8*(T.length-q.p)+8<=q.f/\R=bV T q.f (some q.x) lvl q.p)) (fun q=>q.f) (⟨ax.op,ax.v.kind,ax.v.n,ax.v.s,ax.s,false,ax.l.map aJ,ax,ap,ab,f⟩) ?_ ?_ ?_ ?_
 ·refine⟨⟨e0 [],vq _⟩,ga2,Nat.le_refl _,fun h=>?_,fun h=>?_⟩
  ·dsimp only at h;subst h;exact hR
  ·dsimp only at h;subst h;refine⟨?_,hR⟩;rcases hfp with h|h
   ·cases h
   ·exact h
 ·rfl
 ·exact at_
 clear hR e0;rintro⟨Am,xvk,xvn,xvs,xs,xfl,xz,X,xp,xb,xf⟩ r0 ⟨⟨a1,a2⟩,a3,a4,a5,a6⟩;dsimp only at a3 a4 a5 a6;have ev:∀ σ : ae,View σ (.agg [I Am,I xvk,I xvn,.str xvs,.str xs,.aG xfl EX xz]) (aJ X):=fun σ=>View.mono (σ:=[]) (fun _ _ h=>by simp at h) a1;clear a1;cases xb with
 | true =>
   have a5:=a5 rfl;subst a5;dsimp only at aq au aA;generalize aJ X=E at *;repeat' first|refine ak ?_|refine aj ?_ ?_<;>intro hw<;>try omega|fail
   exact bZ (ev _) (bn.refl (aT _ _ _))
 | false =>
   obtain⟨a7,a8⟩:=a6 rfl;clear a5 a6;obtain⟨j,rfl⟩:∃ j,xf=j+1:=⟨xf-1,by omega⟩;have cb:=Zg T xp lvl;rw[bV]at a8;cases hq:uf T xp false lvl with
   | none =>
     rw[hq]at a8 cb;dsimp only at a8;subst a8;dsimp only at aq au aA;simp only[D7,bN]at cb;generalize aJ X=E at *;repeat' first|refine ak ?_|refine bh cb ?_|refine aj ?_ ?_<;>intro hw<;>try omega|fail
     exact bZ (ev _) (bn.refl (aT _ _ _))
   | some o2 =>
     rw[hq]at a8 cb;dsimp only at a8;obtain⟨s8,_,Ds,Du⟩:=Al hq
     have agf:o2.op≠0:=by
      intro h;simp only[jz,List.mem_cons,List.not_mem_nil,or_false]at Ds;rcases Ds with rfl|rfl|rfl|rfl|rfl|rfl|rfl|rfl|rfl|rfl|rfl|rfl<;>simp at h
     have cc:=ih j (by omega) (lvl+1) (xp+1) (by omega) (by omega) (by omega);obtain⟨gd1,gd2,gd3⟩:=(oa T j none (lvl+1) (xp+1) (by omega)).1 rfl;simp only[oc]at cc;simp only[D7,bN]at cb;generalize bV T j none (lvl+1) (xp+1)=d at *;obtain⟨dx,dp,db⟩:=d;dsimp only at *;have e1:∀ σ : ae,View σ (.agg (qo o2.op [.agg [I Am,I xvk,I xvn,.str xvs,.str xs,.aG xfl EX xz],aJ dx])) (aJ (.mk o2.op v0 [] [X,dx])):=fun σ=>yL (D9 (ev _) (.refl _ (dR _)));have hpz:AV.bG [.agg [I Am,I xvk,I xvn,.str xvs,.str xs,.aG xfl EX xz],aJ dx]=true:=by simp[AV.cQ,AV.bG,a2,dR]
     rw[aU dx]at cc e1 hpz;simp only[bN,Int.natCast_add,Int.cast_ofNat_Int]at cc;by_cases Tc:lvl=3
     ·rw[if_pos (.inl Tc)]at a8;subst a8;dsimp only at aq au aA;generalize hE:aJ (.mk o2.op v0 [] [X,dx])=E at *;repeat' first|simp (disch:=omega) only[go_sem,aq,au,aA,Int.natCast_add,Int.cast_ofNat_Int]|refine ak ?_|refine bh cb ?_|refine bh cc ?_|refine aj ?_ ?_<;>intro hw<;>try omega|fail
      all_goals first|exact bZ (e1 _) (bn.refl (aT _ _ _))|(exfalso;omega)
     ·repeat' first|simp (disch:=omega) only[go_sem,aq,au,aA,Int.natCast_add,Int.cast_ofNat_Int]|refine ak ?_|refine bh cb ?_|refine bh cc ?_|refine aj ?_ ?_<;>intro hw<;>try omega|fail
      refine⟨⟨o2.op,0,0,[],[],true,[.agg [I Am,I xvk,I xvn,.str xvs,.str xs,.aG xfl EX xz],.agg [I dx.op,I dx.v.kind,I dx.v.n,.str dx.v.s,.str dx.s,.aG false EX (dx.l.map aJ)]],.mk o2.op v0 [] [X,dx],dp,db,j⟩,⟨⟨e1 [],hpz⟩,gd2,by dsimp only;omega,fun h=>?_,fun h=>?_⟩,by dsimp only;omega,rfl,bK,at_⟩
      ·dsimp only at h ⊢;subst h;rw[if_pos (.inr rfl)]at a8;exact a8
      ·dsimp only at h ⊢;subst h;rw[if_neg (by simp[Tc])]at a8;have:=gd3 rfl;exact⟨by omega,a8⟩
def RX (T : List cg) (p : Nat) (rd : Nat -> Nat -> RS) (hp : p <= T.length) (hT : T.length <= 2 ^ 60) (hs : ∀ q, (T.getD q default).s.length <= 2 ^ 62)
    (hrd:jA T p 4 [40]=true->oc T 194 rd 0 (p+1)/\(rd 0 (p+1)).p<=T.length) :
    br aD 194 0 [I 7] (bN T p false) (bN T (jq rd T p).p (jq rd T p).bad) (aJ (jq rd T p).x):=by
 have hf:=RV T p rd hp hT hs hrd;generalize jq rd T p=R at *;generalize hE:aJ R.x=E at *;rw[<-hE,aU]at hf;simp only[bN]at hf;refine br.bM (iS.go ?_) rfl (aT _ _ _);unfold cj;intro Q aq au aA;repeat' first|refine ak ?_|refine bh hf ?_|refine aj ?_ ?_<;>intro hw<;>try omega|fail
 exact bZ (by rw[<-hE];exact View.eqv (aU _).symm (dR _)) (bn.refl (aT _ _ _))
def Zh (T : List cg) (p : Nat) (rd : Nat -> Nat -> RS) (hi : jA T p 1 [105, 102] = true) (hT : T.length <= 2 ^ 60) (m_ : ∀ l q, q <= T.length -> Goes T.length q (rd l q))
    (hrd:∀ q,p+1<=q->q<=T.length->oc T 194 rd 0 q) :
    br aD 194 0 [I 0] (bN T p false) (bN T (Ak rd T (p+1)).p (Ak rd T (p+1)).bad) (aJ (Ak rd T (p+1)).x):=by
 have hp:p+1<=T.length:=kC hi;have co:=rL T p false 1 [105,102] true hi;have ga:=xN m_ hp;have gb:=xO m_ hp;have g0:=m_ 0 (p+1) hp;have g1:=Bw m_ (l:=0) (b:=(j3 rd T (p+1)).bad) ga.2.1;have c1:=hrd (p+1) (Nat.le_refl _) hp;have m1:=BA T (rd 0 (p+1)).p (rd 0 (p+1)).bad 1 thenS (by have:=g0.2.1;omega);have c2:=Bx (l:=0) (q:=(j3 rd T (p+1)).p) (b:=(j3 rd T (p+1)).bad) (fun _=>hrd _ ga.1 ga.2.1) (Ap T _ _);have m2:=BA T (oT rd 0 (j3 rd T (p+1)).p (j3 rd T (p+1)).bad).p (oT rd 0 (j3 rd T (p+1)).p (j3 rd T (p+1)).bad).bad 1 Bv (by have:=g1.2.1;omega);have c3:=Bx (l:=0) (q:=(qi rd T (p+1)).p) (b:=(qi rd T (p+1)).bad) (fun _=>hrd _ (c_ ga.1 gb.1) gb.2.1) (Ap T _ _)
 change br _ _ _ _ _ (bN T (j3 rd T (p+1)).p (j3 rd T (p+1)).bad) _ at m1
 change br _ _ _ _ _ (bN T (qi rd T (p+1)).p (qi rd T (p+1)).bad) _ at m2
 change br _ _ _ _ _ (bN T (xM rd T (p+1)).p (xM rd T (p+1)).bad) (aJ (xM rd T (p+1)).x)at c3
 unfold oc at c1;simp only[Ak];have xa:(j3 rd T (p+1)).x=(rd 0 (p+1)).x:=rfl;have xb:(qi rd T (p+1)).x=(oT rd 0 (j3 rd T (p+1)).p (j3 rd T (p+1)).bad).x:=rfl;rw[xa,xb];generalize oT rd 0 (j3 rd T (p+1)).p (j3 rd T (p+1)).bad=rb at *;generalize j3 rd T (p+1)=ra at *;generalize qi rd T (p+1)=rb2 at *;generalize xM rd T (p+1)=rc at *;generalize rd 0 (p+1)=r1 at *;rw[aU]at c1 c2 c3;simp only[bN,thenS,Bv,Int.natCast_add,Int.cast_ofNat_Int]at co c1 m1 c2 m2 c3;generalize hE:aJ _=E;refine br.bM (iS.go ?_) rfl (aT _ _ _);unfold cj;intro Q aq au aA;repeat' first|simp (disch:=omega) only[go_sem,aq,au,aA,Int.natCast_add,Int.cast_ofNat_Int]|refine ak ?_|refine bh co ?_|refine bh c1 ?_|refine bh m1 ?_|refine bh c2 ?_|refine bh m2 ?_|refine bh c3 ?_|refine aj ?_ ?_<;>intro hw<;>try omega|fail
 refine bZ ?_ (bn.refl (aT _ _ _));rw[<-hE];refine jr ?_;rw[bf,bf,bf,b_,aU,aU,aU];refine View.weak _ _ _ ?_;simp
def US(T:List cg)(hT:T.length<=2 ^ 60)(hs:∀ q,(T.getD q default).s.length<=2 ^ 62): ∀ f,∀ lvl p,lvl<=7->p<=T.length->8*(T.length-p)+(8-lvl)<f->oc T 194 (fun l q=>bV T f none l q) lvl p:=by
 intro f
 induction f using Nat.strongRecOn with
 | ind f ih =>
 intro lvl p hl hp hf;obtain⟨f,rfl⟩:∃ f',f=f'+1:=⟨f-1,by omega⟩;have Jl:=ih f (Nat.lt_succ_self _);have m_:∀ l q,q<=T.length->Goes T.length q (bV T f none l q):=fun l q hq=>(oa T f none l q hq).1 rfl;simp only[oc];by_cases h5:1<=lvl/\lvl<=5
 ·exact N1 T hT f lvl p h5.1 h5.2 hp (by omega) (fun j hj l q h1 h2 h3=>ih j (by omega) l q h1 h2 h3)
 by_cases h0:lvl=0
 ·subst h0
  have hR:bV T (f+1) none 0 p=if jA T p 1 [105,102]then Ak (fun l q=>bV T f none l q) T (p+1)else bV T f none 1 p:=by
   rw[bV,if_pos rfl]
  by_cases hi:jA T p 1 [105,102]=true
  ·rw[if_pos hi]at hR;have s8:=kC hi;rw[hR];exact Zh T p (fun l q=>bV T f none l q) hi hT m_ (fun q h1 h2=>Jl 0 q (by omega) h2 (by omega))
  ·rw[if_neg hi]at hR;have hi':jA T p 1 [105,102]=false:=by simpa using hi
   have co:=rL T p false 1 [105,102] false hi';have cr:=Jl 1 p (by omega) hp (by omega);rw[hR];simp only[oc]at cr;generalize bV T f none 1 p=R at *;generalize hE:aJ R.x=E at *;rw[<-hE,aU]at cr;simp only[bN,Int.natCast_add,Int.cast_ofNat_Int]at co cr;refine br.bM (iS.go ?_) rfl (aT _ _ _);unfold cj;intro Q aq au aA;repeat' first|simp (disch:=omega) only[go_sem,aq,au,aA,Int.natCast_add,Int.cast_ofNat_Int,Int.reduceAdd]|refine ak ?_|refine bh co ?_|refine bh cr ?_|refine aj ?_ ?_<;>intro hw<;>try omega|fail
   exact bZ (by rw[<-hE];exact View.eqv (aU _).symm (dR _)) (bn.refl (aT _ _ _))
 by_cases h6:lvl=6/\jA T p 4 [45]=true
 ·obtain⟨rfl,hi⟩:=h6;have s8:=kC hi
  have hR:bV T (f+1) none 6 p=⟨.mk 3 v0 [] [(bV T f none 6 (p+1)).x],(bV T f none 6 (p+1)).p,(bV T f none 6 (p+1)).bad⟩:=by
   rw[bV,if_neg h0,if_pos ⟨rfl,hi⟩]
  have co:=rL T p false 4 [45] true hi;have cr:=Jl 6 (p+1) (by omega) s8 (by omega);rw[hR];simp only[oc]at cr;generalize bV T f none 6 (p+1)=R at *;obtain⟨rx,rp,rb⟩:=R;dsimp only at *;have e1:∀ σ : ae,View σ (.agg (qo 3 [aJ rx])) (aJ (.mk 3 v0 [] [rx])):=fun σ=>yL (.cons (.refl _ (dR _)) (.nil _));rw[aU rx]at e1 cr;generalize hE:aJ (.mk 3 v0 [] [rx])=E at *;simp only[bN,Int.natCast_add,Int.cast_ofNat_Int]at co cr;refine br.bM (iS.go ?_) rfl (aT _ _ _);unfold cj;intro Q aq au aA;repeat' first|simp (disch:=omega) only[go_sem,aq,au,aA,Int.natCast_add,Int.cast_ofNat_Int]|refine ak ?_|refine bh co ?_|refine bh cr ?_|refine aj ?_ ?_<;>intro hw<;>try omega|fail
  exact bZ (e1 _) (bn.refl (aT _ _ _))
 have h67:6<=lvl:=by omega
 have hR:bV T (f+1) none lvl p=jq (fun l q=>bV T f none l q) T p:=by
  rw[bV,if_neg h0,if_neg h6,if_pos h67]
 have ca:=RX T p (fun l q=>bV T f none l q) hp hT hs (fun h=>⟨Jl 0 (p+1) (by omega) (kC h) (by have:=kC h;omega),(m_ 0 (p+1) (kC h)).2.1⟩);rw[hR];by_cases W7:lvl=6
 ·have hno : jA T p 4 [45] = false := by
   cases hq:jA T p 4 [45]with
   | false=>rfl
   | true=>exact absurd ⟨W7,hq⟩ h6
  have co:=rL T p false 4 [45] false hno;subst W7;generalize jq (fun l q=>bV T f none l q) T p=R at *;generalize hE:aJ R.x=E at *;rw[<-hE,aU]at ca;simp only[bN,Int.natCast_add,Int.cast_ofNat_Int]at co ca;refine br.bM (iS.go ?_) rfl (aT _ _ _);unfold cj;intro Q aq au aA;repeat' first|simp (disch:=omega) only[go_sem,aq,au,aA,Int.natCast_add,Int.cast_ofNat_Int,Int.reduceAdd]|refine ak ?_|refine bh co ?_|refine bh ca ?_|refine aj ?_ ?_<;>intro hw<;>try omega|fail
  exact bZ (by rw[<-hE];exact View.eqv (aU _).symm (dR _)) (bn.refl (aT _ _ _))
 ·obtain rfl:lvl=7:=by omega
  exact ca
