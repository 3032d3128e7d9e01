/- Part. -/
import Derived.Test.YthakfmmgnjpmdaaGreatW34
set_option linter.all false
set_option maxHeartbeats 4000000
namespace Go.Proofs.YthakfmmgnjpmdaaGreat
open Go.AM
set_option maxRecDepth 4000
def XP(c:bQ)(v:aH)(hl:c.order.length<=2 ^ 60): aF aD 127 [bW c,bD v] (I (iM c v)):=by
 have h:=qu c.order v hl;unfold iM;generalize iT (fun x=>x==v) c.order=i at *;obtain⟨R,hR⟩:∃ R,(if i<0 then(c.order.length:Int)else i)=R:=⟨_,rfl⟩;rw[hR];simp only[aL,c9,bW]at h ⊢;refine aK Pn ?_;intro Q aq au aA;repeat' first|refine ak ?_|refine aj ?_ ?_<;>intro hw<;>try omega|fail
 all_goals first
  | exact lq (by rw[<-hR,if_neg (by omega)])
  | exact lq (by rw[<-hR,if_pos (by omega)])
  | exact aP
  | skip
def Sq(c:bQ)(v:aH)(hl:c.order.length<=2 ^ 60): aF aD 149 [bW c,bD v] (I (iM c v)):=by
 have hyes:=fun i (hi:i<c.order.length) h1 h2=>lK (p:=fun x=>x==v) hi h1 h2;have hno:=fun h=>kQ (p:=fun x=>x==v) (l:=c.order) h;unfold iM;generalize iT (fun x=>x==v) c.order=j at *;obtain⟨R,hR⟩:∃ R,(if j<0 then(c.order.length:Int)else j)=R:=⟨_,rfl⟩;rw[hR];simp only[aL,c9,bW];refine aK KZ ?_;intro Q aq au aA;repeat' first|refine ak ?_|refine aj ?_ ?_<;>intro hw<;>try omega|fail
 with_reducible refine aX [4,5,6,7,8,9,10,11,12,13,14,15,16,17,18,19,20] (fun q:Nat=>[(5,I q)]) (fun q=>[.cells [.str c.name,I c.kind,.aG false EV (c.order.map bD)],.cells [I v.kind,I v.n,.str v.s]]) (fun q=>q<=c.order.length/\ ∀ k,k<q->(c.order.getD k default==v)=false) (fun q=>c.order.length-q) 0 ?_ ?_ ?_ ?_
 ·simp
 ·rfl
 ·exact at_
 rintro i u ⟨g1,g2⟩;by_cases hi:i<c.order.length
 ·have hb:=hyes i hi g2;have dD:=bx (q:=fun k=>(c.order.getD k default==v)=false) g2 (i:=i);obtain⟨w,lf⟩:∃ w,c.order.getD i default=w:=⟨_,rfl⟩;rw[lf]at hb dD;have hD:=nw w v;have hD2:(w==v)=decide (w=v):=by rw[aW];simp
  rw[hD2]at hb dD;rw[hD]at hb dD;clear hyes hno hD hD2;repeat' first|simp (disch:=omega) only[go_sem,aq,au,aA,lf]|refine ak ?_|refine aj ?_ ?_<;>intro hw<;>try omega|fail
  all_goals first
   | exact aP
   | exact lq (by rw[<-hR,hb (by simp_all),if_neg (by omega)])
   | (refine ⟨i + 1, ?_, ?_, by first | rfl | (simp [go_sem]; done), bK, at_⟩ <;> (try dsimp only)
      ·exact⟨by omega,dD (by simp_all)⟩
      ·omega)
   | skip
 ·have:=hno fun k hk=>g2 k (by omega);repeat' first|refine ak ?_|refine aj ?_ ?_<;>intro hw<;>try omega|fail
  all_goals first|exact lq (by rw[<-hR,if_pos (by omega)])|exact aP|skip
def jB: List bQ->List aH->List aH->Int
 | c::cs,a::r,b::t=>if iW (iM c a) (iM c b)≠0 then iW (iM c a) (iM c b)else jB cs r t
 | _,_,_=>0
def TQ(a b:Int): (iW a b≠0↔a≠b)/\(iW a b<0↔a<b):=by
 unfold iW;constructor
 ·constructor
  ·intro h e;subst e;simp at h
  ·intro h;split
   ·decide
   ·split
    ·decide
    ·omega
 ·constructor
  ·intro h;split at h
   ·assumption
   ·split at h<;>simp at h
  ·intro h;rw[if_pos h];decide
def B5: ∀(cs:List bQ) (a b:List aH),tM cs a b=decide (jB cs a b<0)
 | c :: cs, a :: r, b :: t => by
   have h:=TQ (iM c a) (iM c b);unfold tM jB;by_cases e:iM c a=iM c b
   ·rw[if_neg (by simpa using e),if_neg (fun h'=>h.1.1 h' e)];exact B5 cs r t
   ·rw[if_pos e,if_pos (h.1.2 e),aW,decide_eq_true_eq,decide_eq_true_eq];exact h.2.symm
 | [],_,_=>by unfold tM jB;rfl
 | _::_,[],_=>by unfold tM jB;rfl
 | _::_,_::_,[]=>by unfold tM jB;rfl
def MR{cs:List bQ}{a b:List aH}{k:Nat}(h1:k<cs.length)(h2:k<a.length)(h3:k<b.length): jB (cs.drop k) (a.drop k) (b.drop k)=if iW (iM (cs.getD k default) (a.getD k default)) (iM (cs.getD k default) (b.getD k default))≠0 then iW (iM (cs.getD k default) (a.getD k default)) (iM (cs.getD k default) (b.getD k default))else jB (cs.drop (k+1)) (a.drop (k+1)) (b.drop (k+1)):=by
 rw[fZ h1,fZ h2,fZ h3];rfl
def JV{cs:List bQ}{a b:List aH}{k:Nat}(h1:cs.length<=k): jB (cs.drop k) (a.drop k) (b.drop k)=0:=by
 rw[List.drop_of_length_le h1];unfold jB;rfl
def Sr(cs:List bQ)(a b:List aH)(hc:∀ c ∈ cs,c.order.length<=2 ^ 60)(ha:a.length=cs.length)(hb:b.length=cs.length)(hl:cs.length<=2 ^ 30): aF aD 95 [aY cs,aL a,aL b] (.bool (tM cs a b)):=by
 rw[B5];have hp:=fun k (hk:k<cs.length) v=>Sq (cs.getD k default) v (hc _ (aO hk));have gV:=fun k (hk:k<cs.length)=>MR (cs:=cs) (a:=a) (b:=b) hk (by omega) (by omega);have jn:=fun k (hk:cs.length<=k)=>JV (a:=a) (b:=b) hk;clear hc;obtain⟨N,hN⟩:∃ N,jB cs a b=N:=⟨_,rfl⟩;rw[hN];simp only[aY,aL];refine aK KR ?_;intro Q aq au aA;repeat' first|refine ak ?_|refine aj ?_ ?_<;>intro hw<;>try omega|fail
 with_reducible refine aX [6,7,8,9,10,11,12,13,14,15,16,17,18,19,20,21,22,23,24,25,26,27,28,29,30,31,32,33,34,35,36,37,38,39] (fun q:Nat=>[(7,I q)]) (fun q=>[]) (fun q=>q<=cs.length/\jB (cs.drop q) (a.drop q) (b.drop q)=N) (fun q=>cs.length-q) 0 ?_ ?_ ?_ ?_
 ·exact⟨by simp,by simpa using hN⟩
 ·rfl
 ·exact at_
 rintro i u ⟨g1,g2⟩;clear hN;by_cases hi:i<cs.length
 ·have c1:=hp i hi (a.getD i default);have c2:=hp i hi (b.getD i default);rw[gV i hi]at g2;obtain⟨c,hc0⟩:∃ c,cs.getD i default=c:=⟨_,rfl⟩;obtain⟨x,hx0⟩:∃ x,a.getD i default=x:=⟨_,rfl⟩;obtain⟨y,hy0⟩:∃ y,b.getD i default=y:=⟨_,rfl⟩;rw[hc0,hx0,hy0]at g2;rw[hc0,hx0]at c1;rw[hc0,hy0]at c2;have hI:=TQ (iM c x) (iM c y);generalize iM c x=m1 at *;generalize iM c y=m2 at *;generalize iW m1 m2=m3 at *;clear hp gV jn;simp only[bW,aL,c9]at c1 c2;by_cases he:m1=m2
  ·subst he;rw[if_neg (fun h=>hI.1.1 h rfl)]at g2;repeat' first|simp (disch:=omega) only[go_sem,aq,au,aA,hc0,hx0,hy0]|refine ak ?_|refine cW c1 ?_|refine cW c2 ?_|refine aj ?_ ?_<;>intro hw<;>try omega|fail
   all_goals first
    | exact aP
    | (refine ⟨i + 1, ?_, ?_, by first | rfl | (simp [go_sem]; done), bK, at_⟩ <;> (try dsimp only)
       ·exact⟨by omega,g2⟩
       ·omega)
    | skip
  ·rw[if_pos (hI.1.2 he)]at g2;subst g2;repeat' first|simp (disch:=omega) only[go_sem,aq,au,aA,hc0,hx0,hy0]|refine ak ?_|refine cW c1 ?_|refine cW c2 ?_|refine aj ?_ ?_<;>intro hw<;>try omega|fail
   all_goals first
    | exact aP
    |(refine oN rfl ?_;rw[aW,decide_eq_true_eq,decide_eq_true_eq];exact hI.2.symm)
    | skip
 ·rw[jn i (by omega)]at g2;subst g2;clear hp gV jn;repeat' first|refine ak ?_|refine aj ?_ ?_<;>intro hw<;>try omega|fail
  all_goals first|exact oN rfl rfl|exact aP|skip
def cu(l:List (List aH)): AV:= .aG false E1 (l.map aL)
def MS(l:List (List aH)): (cu l).cQ=true:=by simp only[cu,AV.cQ];exact gk _ _ sL
def AK(l:List (List aH)): AV.bG (l.map aL)=true:=gk _ _ sL
attribute [simp] MS AK
def yZ{outs:List bQ}{rows:List (List aH)}: ∀ {l:List (List aH)} {i b:Nat},i+l.length=rows.length->b<rows.length->j_ outs rows l i b<rows.length
 | [],_,_,_,h=>h
 | a :: r, i, b, hl, h => by
   unfold j_;simp only[List.length_cons]at hl;refine yZ (by omega) ?_;split
   ·omega
   ·exact h
def zA(outs:List bQ)(rows:List (List aH))(a:List aH)(r:List (List aH))(i b:Nat): j_ outs rows (a::r) i b=j_ outs rows r (i+1) (if jB outs a (rows.getD b default)<0 then i else b):=by
 show j_ outs rows r (i+1) (if tM outs a (rows.getD b default)then i else b)=_;rw[B5]
 congr 1
 by_cases h:jB outs a (rows.getD b default)<0
 ·rw[if_pos h,if_pos (by simpa using h)]
 ·rw[if_neg h,if_neg (by simpa using h)]
def XQ(cs:List bQ)(rows:List (List aH))(hc:∀ c ∈ cs,c.order.length<=2 ^ 60)(hl:cs.length<=2 ^ 30)(hr:rows.length<=2 ^ 30)(hw:∀ a ∈ rows,a.length=cs.length): aF aD 76 [aY cs,cu rows] (I (j_ cs rows rows 0 0)):=by
 have hp:=fun k (hk:k<cs.length) v=>XP (cs.getD k default) v (hc _ (aO hk));have XR:=cmp_Compare_int;have hgl:=fun i (hi:i<rows.length)=>hw _ (aO hi);clear hc hw;obtain⟨B,hB⟩:∃ B,j_ cs rows rows 0 0=B:=⟨_,rfl⟩;rw[hB];simp only[aY,cu];refine aK Pm ?_;intro Q aq au aA;repeat' first|refine ak ?_|refine aj ?_ ?_<;>intro hw<;>try omega|fail
 with_reducible refine aX [5,6,7,8,9,12,13,14,15,16,17,18,19,20,21,22,23,24,25,26,27,28,29,30,31,32,33,34,35,36,37,38,39,40,41,42,43,44,45,46,47] (fun q:(Nat × Nat) × List bE=>[(5,I q.1.2),(12,I q.1.1)]) (fun q=>q.2) (fun q=>q.1.1<=rows.length/\(q.1.1<rows.length->q.1.2<rows.length)/\j_ cs rows (rows.drop q.1.1) q.1.1 q.1.2=B) (fun q=>rows.length-q.1.1) ((0,0),[]) ?_ ?_ ?_ ?_
 ·exact⟨by simp,fun h=>h,by simpa using hB⟩
 ·rfl
 ·exact at_
 rintro⟨⟨i,b⟩,τ⟩ u ⟨g1,g2,g3⟩;dsimp only at g1 g2 g3;clear hB;by_cases hi:i<rows.length
 ·rw[fZ hi,zA]at g3;have gb:=g2 hi;have la:=hgl i hi;have lb:=hgl b gb;obtain⟨x,hx⟩:∃ x,rows.getD i default=x:=⟨_,rfl⟩;obtain⟨y,hy⟩:∃ y,rows.getD b default=y:=⟨_,rfl⟩;rw[hx]at la;rw[hy]at lb;rw[hx,hy]at g3;have gV:=fun k (hk:k<cs.length)=>MR (cs:=cs) (a:=x) (b:=y) hk (by omega) (by omega);have jn:=fun k (hk:cs.length<=k)=>JV (a:=x) (b:=y) hk;have hN:jB cs x y=jB cs x y:=rfl;generalize hNe:jB cs x y=N at g3 hN;clear hN hgl;repeat' first|simp (disch:=omega) only[go_sem,aq,au,aA,hx,hy]|refine ak ?_|refine aj ?_ ?_<;>intro hw<;>try omega|fail
  with_reducible refine aX [7,8,9,17,18,19,20,21,22,23,24,25,26,27,28,29,30,31,32,33,34,35,36,37,38,39,40,41,42,43] (fun q:(Nat × Int) × List bE=>[(7,I q.1.2),(17,I q.1.1)]) (fun q=>q.2) (fun q=>q.1.1<=cs.length/\(if q.1.2≠0 then q.1.2 else jB (cs.drop q.1.1) (x.drop q.1.1) (y.drop q.1.1))=N) (fun q=>cs.length-q.1.1) ((0,0),τ) ?_ ?_ ?_ ?_
  ·exact⟨by simp,by simpa using hNe⟩
  ·rfl
  ·exact at_
  rintro⟨⟨k,n⟩,kr⟩ u' ⟨k1,k2⟩;dsimp only at k1 k2;clear hNe;by_cases hk:k<cs.length
  ·by_cases hn:n=0
   ·subst hn;rw[if_neg (by simp),gV k hk]at k2;have c1:=hp k hk (x.getD k default);have c2:=hp k hk (y.getD k default);obtain⟨c,hc0⟩:∃ c,cs.getD k default=c:=⟨_,rfl⟩;obtain⟨v,kp⟩:∃ v,x.getD k default=v:=⟨_,rfl⟩;obtain⟨w,lf⟩:∃ w,y.getD k default=w:=⟨_,rfl⟩;rw[hc0,kp,lf]at k2;rw[hc0,kp]at c1;rw[hc0,lf]at c2;generalize iM c v=m1 at *;generalize iM c w=m2 at *;have c3:=XR m1 m2;generalize iW m1 m2=m3 at *;clear hp gV jn XR;simp only[bW,aL,c9]at c1 c2;repeat' first|simp (disch:=omega) only[go_sem,aq,au,aA,hc0,kp,lf,hx,hy]|refine ak ?_|refine aj ?_ ?_<;>intro hw<;>try omega|fail
    all_goals first
     | exact aP
     |(refine⟨((k+1,m3),kr++[.cells [.str c.name,I c.kind,.aG false EV (c.order.map bD)]]),⟨by dsimp only;omega,k2⟩,by dsimp only;omega,by first|rfl|(simp[go_sem];done),bK,at_⟩)
     | skip
   ·rw[if_pos hn]at k2;subst k2;obtain⟨c,hc0⟩:∃ c,cs.getD k default=c:=⟨_,rfl⟩;clear hp gV jn XR;repeat' first|simp (disch:=omega) only[go_sem,aq,au,aA,hc0]|refine ak ?_|refine aj ?_ ?_<;>intro hw<;>try omega|fail
    all_goals first
     | exact aP
     |(refine⟨((k+1,n),kr++[.cells [.str c.name,I c.kind,.aG false EV (c.order.map bD)]]),⟨by dsimp only;omega,if_pos hn⟩,by dsimp only;omega,by first|rfl|(simp[go_sem];done),bK,at_⟩)
     | skip
  ·have hnN : n = N := by
    rw[jn k (by omega)]at k2;split at k2
    ·exact k2
    ·omega
   subst hnN;clear hp gV jn XR;by_cases h0:n<0
   ·rw[if_pos h0]at g3;repeat' first|refine ak ?_|refine aj ?_ ?_<;>intro hw<;>try omega|fail
    all_goals first
     | exact aP
     |(refine⟨((i+1,i),kr),⟨by dsimp only;omega,fun h=>hi,g3⟩,by dsimp only;omega,by first|rfl|(simp[go_sem];done),bK,at_⟩)
     | skip
   ·rw[if_neg h0]at g3;repeat' first|refine ak ?_|refine aj ?_ ?_<;>intro hw<;>try omega|fail
    all_goals first
     | exact aP
     |(refine⟨((i+1,b),kr),⟨by dsimp only;omega,fun h=>gb,g3⟩,by dsimp only;omega,by first|rfl|(simp[go_sem];done),bK,at_⟩)
     | skip
 ·rw[a_ (by omega)]at g3;have g3:b=B:=g3;subst g3;clear hp XR hgl;repeat' first|refine ak ?_|refine aj ?_ ?_<;>intro hw<;>try omega|fail
  all_goals first|exact lq rfl|exact aP|skip
def TR{a b:List aH}{k:Nat}(h2:k<a.length)(h3:k<b.length): eY (a.drop k) (b.drop k)=if e7 (a.getD k default) (b.getD k default)≠0 then e7 (a.getD k default) (b.getD k default)else eY (a.drop (k+1)) (b.drop (k+1)):=by
 rw[fZ h2,fZ h3];rfl
def XS{a b:List aH}{k:Nat}(h2:k<a.length)(h3:b.length<=k): eY (a.drop k) (b.drop k)=1:=by
 rw[fZ h2,a_ h3];rfl
def XT{a b:List aH}{k:Nat}(h2:a.length<=k)(h3:k<b.length): eY (a.drop k) (b.drop k) = -1:=by
 rw[fZ h3,a_ h2];rfl
def QA{a b:List aH}{k:Nat}(h2:a.length<=k)(h3:b.length<=k): eY (a.drop k) (b.drop k)=0:=by
 rw[a_ h2,a_ h3];rfl
def Vp(a b:List aH)(hab:b.length=a.length)(hl:a.length<=2 ^ 30): aF aD 94 [aL a,aL b] (.bool (decide (eY a b<0))):=by
 have hc:=fun k=>o8 (a.getD k default) (b.getD k default);have gV:=fun k (hk:k<a.length)=>TR (a:=a) (b:=b) hk (by omega);have jn:=fun k (hk:a.length<=k)=>QA (a:=a) (b:=b) hk (by omega);obtain⟨N,hN⟩:∃ N,eY a b=N:=⟨_,rfl⟩;rw[hN];simp only[aL];refine aK Nx ?_;intro Q aq au aA;repeat' first|refine ak ?_|refine aj ?_ ?_<;>intro hw<;>try omega|fail
 with_reducible refine aX [4,5,6,7,8,9,10,11,12,13,14,15,16,17,18,19,20,21,22,23,24,25] (fun q:Nat=>[(5,I q)]) (fun q=>[]) (fun q=>q<=a.length/\eY (a.drop q) (b.drop q)=N) (fun q=>a.length-q) 0 ?_ ?_ ?_ ?_
 ·exact⟨by simp,by simpa using hN⟩
 ·rfl
 ·exact at_
 rintro i u ⟨g1,g2⟩;clear hN;by_cases hi:i<a.length
 ·have c1:=hc i;rw[gV i hi]at g2;obtain⟨x,hx0⟩:∃ x,a.getD i default=x:=⟨_,rfl⟩;obtain⟨y,hy0⟩:∃ y,b.getD i default=y:=⟨_,rfl⟩;rw[hx0,hy0]at g2 c1;generalize e7 x y=m at *;clear hc gV jn;simp only[c9]at c1;by_cases he:m=0
  ·rw[if_neg (by simpa using he)]at g2;repeat' first|simp (disch:=omega) only[go_sem,aq,au,aA,hx0,hy0]|refine ak ?_|refine cW c1 ?_|refine aj ?_ ?_<;>intro hw<;>try omega|fail
   all_goals first
    | exact aP
    | (refine ⟨i + 1, ?_, ?_, by first | rfl | (simp [go_sem]; done), bK, at_⟩ <;> (try dsimp only)
       ·exact⟨by omega,g2⟩
       ·omega)
    | skip
  ·rw[if_pos he]at g2;subst g2;repeat' first|simp (disch:=omega) only[go_sem,aq,au,aA,hx0,hy0]|refine ak ?_|refine cW c1 ?_|refine aj ?_ ?_<;>intro hw<;>try omega|fail
   all_goals first|exact oN rfl rfl|exact aP|skip
 ·rw[jn i (by omega)]at g2;subst g2;clear hc gV jn;repeat' first|refine ak ?_|refine aj ?_ ?_<;>intro hw<;>try omega|fail
  all_goals first|exact oN rfl rfl|exact aP|skip
def N8(a b:List aH)(ha:a.length<=2 ^ 30)(hb:b.length<=2 ^ 30): aF aD 121 [aL a,aL b] (I (eY a b)):=by
 have c:aF aD 122 [aL a,aL b,.fn (.func 123) [] []] (I (eY a b)):=by
  have hc:=fun k=>nu (a.getD k default) (b.getD k default);have gV:=fun k (hk:k<a.length) (iX:k<b.length)=>TR (a:=a) (b:=b) hk iX;have JW:=fun k (hk:k<a.length) iX=>XS (a:=a) (b:=b) hk iX;have JX:=fun k hk (iX:k<b.length)=>XT (a:=a) (b:=b) hk iX;have jn:=fun k hk iX=>QA (a:=a) (b:=b) (k:=k) hk iX;obtain⟨N,hN⟩:∃ N,eY a b=N:=⟨_,rfl⟩;rw[hN];simp only[aL];refine aK vm ?_;intro Q aq au aA;repeat' first|refine ak ?_|refine aj ?_ ?_<;>intro hw<;>try omega|fail
  with_reducible refine aX [6,7,8,9,10,13,14,15,16,17,18,19,20,21,22,23,24,25,26,27,28,29,30,31,32,33] (fun q:Nat × List bE=>[(13,I q.1)]) (fun q=>q.2) (fun q=>q.1<=a.length/\(q.1<=b.length)/\eY (a.drop q.1) (b.drop q.1)=N) (fun q=>a.length-q.1) (0,[]) ?_ ?_ ?_ ?_
  ·exact⟨by simp,by simp,by simpa using hN⟩
  ·rfl
  ·exact at_
  rintro⟨i,τ⟩ u ⟨g1,g3,g2⟩;dsimp only at g1 g2 g3;clear hN;by_cases hi:i<a.length
  ·obtain⟨x,hx0⟩:∃ x,a.getD i default=x:=⟨_,rfl⟩;by_cases hj:i<b.length
   ·have c1:=hc i;rw[gV i hi hj]at g2;obtain⟨y,hy0⟩:∃ y,b.getD i default=y:=⟨_,rfl⟩;rw[hx0,hy0]at g2 c1;generalize e7 x y=m at *;clear hc gV jn JW JX;simp only[c9]at c1;by_cases he:m=0
    ·rw[if_neg (by simpa using he)]at g2;repeat' first|simp (disch:=omega) only[go_sem,aq,au,aA,hx0,hy0]|refine ak ?_|refine aj ?_ ?_<;>intro hw<;>try omega|fail
     all_goals first
      | exact aP
      |(refine⟨(i+1,τ++[.cells [I x.kind,I x.n,.str x.s]]++[.cells [I y.kind,I y.n,.str y.s]]),⟨by dsimp only;omega,by dsimp only;omega,g2⟩,by dsimp only;omega,by first|rfl|(simp[go_sem];done),bK,at_⟩)
      | skip
    ·rw[if_pos he]at g2;subst g2;repeat' first|simp (disch:=omega) only[go_sem,aq,au,aA,hx0,hy0]|refine ak ?_|refine aj ?_ ?_<;>intro hw<;>try omega|fail
     all_goals first|exact lq rfl|exact aP|skip
   ·rw[JW i hi (by omega)]at g2;clear hc gV jn JW JX;repeat' first|simp (disch:=omega) only[go_sem,aq,au,aA,hx0]|refine ak ?_|refine aj ?_ ?_<;>intro hw<;>try omega|fail
    all_goals first|exact lq g2.symm|exact aP|skip
  ·by_cases hj:i<b.length
   ·rw[JX i (by omega) hj]at g2;clear hc gV jn JW JX;repeat' first|refine ak ?_|refine aj ?_ ?_<;>intro hw<;>try omega|fail
    all_goals first|exact lq g2.symm|exact aP|skip
   ·rw[jn i (by omega) (by omega)]at g2;clear hc gV jn JW JX;repeat' first|refine ak ?_|refine aj ?_ ?_<;>intro hw<;>try omega|fail
    all_goals first|exact lq g2.symm|exact aP|skip
 simp only[aL]at c ⊢;refine aK Hi ?_;intro Q aq au aA;repeat' first|refine ak ?_|refine cW c ?_|refine aj ?_ ?_<;>intro hw<;>try omega|fail
 all_goals first|exact lq rfl|exact aP|skip
def ym (fn : FuncId) (cap : List AV) (hcap : AV.bG cap = true) (p : List aH -> Bool) (l : List (List aH)) (h : ∀ k, k < l.length -> aF aD fn (aL (l.getD k default) :: cap) (.bool (p (l.getD k default)))) (hl : l.length <= 2 ^ 62) :
    aF aD 130 [cu l,.fn (.func fn) [] cap] (I (iT p l)):=by
 refine aK vK ?_ (by simp[AV.cQ,AV.bG,hcap]);intro Q aq au aA;simp only[cu];repeat' first|refine ak ?_|refine aj ?_ ?_<;>intro hw<;>try omega|fail
 with_reducible refine aX [4,5,8,9,10,11,12,13,14,15,16,17,18] (fun i:Nat=>[(8,I i)]) (fun _=>[]) (fun i=>i<=l.length/\ ∀ k,k<i->p (l.getD k default)=false) (fun i=>l.length-i) (0) ?_ ?_ ?_ ?_
 ·simp
 ·rfl
 ·exact at_
 ·rintro i r ⟨hi,hp⟩;by_cases hin:i<l.length
  ·have hx:=h i hin;simp only[aL]at hx;repeat' first|refine ak ?_|refine aj ?_ ?_<;>intro hw<;>try omega|fail
   ·refine aN ?_ rfl;refine congrArg I ?_;exact(lK hin hp hw).symm
   ·refine⟨i+1,?_,?_,by first|rfl|(simp[go_sem];done),bK,at_⟩<;>(try dsimp only)
    ·exact⟨by omega,bx hp hw⟩
    ·omega
  ·repeat' first|refine ak ?_|refine aj ?_ ?_<;>intro hw<;>try omega|fail
   refine aN ?_ rfl;refine congrArg I ?_;exact(kQ fun k hk=>hp k (by omega)).symm
def o9 (fn : FuncId) (cap : List AV) (hcap : AV.bG cap = true) (p : List aH -> Bool) (l : List (List aH)) (h : ∀ k, k < l.length -> aF aD fn (aL (l.getD k default) :: cap) (.bool (p (l.getD k default)))) (hl : l.length <= 2 ^ 62) :
    aF aD 79 [cu l,.fn (.func fn) [] cap] (.bool (l.any p)):=by
 refine aK tX ?_ (by simp[AV.cQ,AV.bG,hcap]);intro Q aq au aA;have hc:=ym fn cap hcap p l h hl;repeat' first|refine ak ?_|refine aj ?_ ?_<;>intro hw<;>try omega|fail
 all_goals refine aN ?_ rfl
 all_goals rw[<-uF]
def QB(r:List aH)(rows:List (List aH))(h0:0<rows.length)(hr:r.length<=2 ^ 60)(VT:(rows.getD 0 default).length<=2 ^ 60): aF aD 125 [aL r,.eL ⟨false,1⟩ (cu rows) 0] (.bool (!(fm (fun a b=>a==b) r (rows.getD 0 default)))):=by
 have c:=qv r (rows.getD 0 default) hr VT;generalize fm (fun a b=>a==b) r (rows.getD 0 default)=B at *;obtain⟨y,hy⟩:∃ y,rows.getD 0 default=y:=⟨_,rfl⟩;rw[hy]at c;simp only[cu,aL]at c ⊢;refine aK I0 ?_;intro Q aq au aA;repeat' first|simp (disch:=omega) only[go_sem,aq,au,aA,hy,aL]|refine ak ?_|refine cW c ?_|refine aj ?_ ?_<;>intro hw<;>try omega|fail
 all_goals first|exact oN rfl rfl|exact aP|skip
def Vq(rows:List (List aH))(hr:rows.length<=2 ^ 30)(hw:∀ a ∈ rows,a.length<=2 ^ 30): aF aD 75 [cu rows] (.bool (pE rows)):=by
 have c:=o9 125 [.eL ⟨false,1⟩ (cu rows) 0] (by simp[AV.bG,AV.cQ]) (fun r=> !(fm (fun a b=>a==b) r (rows.getD 0 default))) rows (fun k hk=>QB _ rows (by omega) (by have:=hw _ (aO hk);omega) (by have:=hw _ (aO (i:=0) (l:=rows) (by omega));omega)) (by omega);have hu:(rows.any fun r=> !(fm (fun a b=>a==b) r (rows.getD 0 default)))=pE rows:=rfl;rw[hu]at c;generalize pE rows=B at *;refine aK Nt ?_;intro Q aq au aA;simp only[cu]at c ⊢;repeat' first|refine ak ?_|refine Cx c ?_|refine aj ?_ ?_<;>intro hw<;>try omega|fail
 all_goals first|exact oN rfl rfl|exact aP|skip
def zB(v:aH)(r:List aH)(m:aH): nL (v::r) m=nL r (if e7 v m<0 then v else m):=rfl
def B6(v:aH)(r:List aH)(m:aH): qU (v::r) m=qU r (if 0<e7 v m then v else m):=rfl
def B7(m:aH)(l:List aH)(hl:l.length<=2 ^ 30): aF aD 183 [aL (m::l),.fn (.func 123) [] []] (bD (nL l m)):=by
 have hc:=nu;obtain⟨L,hL⟩:∃ L,m::l=L:=⟨_,rfl⟩;have hlen:L.length=l.length+1:=by rw[<-hL];rfl
 have h0:L.getD 0 default=m:=by rw[<-hL];rfl
 have hd:L.drop 1=l:=by rw[<-hL];rfl
 obtain⟨R,hR⟩:∃ R,nL l m=R:=⟨_,rfl⟩;rw[hR,hL];simp only[aL];refine aK yd ?_;intro Q aq au aA;repeat' first|simp (disch:=omega) only[go_sem,aq,au,aA,h0]|refine ak ?_|refine aj ?_ ?_<;>intro hw<;>try omega|fail
 with_reducible refine aX [6,14,15,16,17,18,19,20,21,22,23,24,25,26,27,28,29,30,31] (fun q:Nat × aH=>[(6,I q.1)]) (fun q=>[.cells [I 0,I 0,.str []],.cells [I q.2.kind,I q.2.n,.str q.2.s]]) (fun q=>1<=q.1/\q.1<=L.length/\nL (L.drop q.1) q.2=R) (fun q=>L.length-q.1) (1,m) ?_ ?_ ?_ ?_
 ·exact⟨by simp,by dsimp only;omega,by dsimp only;rw[hd];exact hR⟩
 ·rfl
 ·exact at_
 rintro⟨i,b⟩ u ⟨g1,g2,g3⟩;dsimp only at g1 g2 g3;by_cases hi:i<L.length
 ·rw[fZ hi,zB]at g3;obtain⟨v,hv⟩:∃ v,L.getD i default=v:=⟨_,rfl⟩;rw[hv]at g3;have c:=hc v b;generalize e7 v b=n at *;clear hc;simp only[c9]at c;by_cases hn:n<0
  ·rw[if_pos hn]at g3;repeat' first|simp (disch:=omega) only[go_sem,aq,au,aA,hv]|refine ak ?_|refine cW c ?_|refine aj ?_ ?_<;>intro hw<;>try omega|fail
   all_goals first
    | exact aP
    | (refine ⟨(i + 1, v), ?_, ?_, by first | rfl | (simp [go_sem]; done), bK, at_⟩ <;> (try dsimp only)
       ·exact⟨by omega,by omega,g3⟩
       ·omega)
    | skip
  ·rw[if_neg hn]at g3;repeat' first|simp (disch:=omega) only[go_sem,aq,au,aA,hv]|refine ak ?_|refine cW c ?_|refine aj ?_ ?_<;>intro hw<;>try omega|fail
   all_goals first
    | exact aP
    | (refine ⟨(i + 1, b), ?_, ?_, by first | rfl | (simp [go_sem]; done), bK, at_⟩ <;> (try dsimp only)
       ·exact⟨by omega,by omega,g3⟩
       ·omega)
    | skip
 ·rw[a_ (by omega)]at g3;have g3:b=R:=g3;subst g3;clear hc;repeat' first|refine ak ?_|refine aj ?_ ?_<;>intro hw<;>try omega|fail
  all_goals first|exact aN rfl rfl|exact aP|skip
def B8(m:aH)(l:List aH)(hl:l.length<=2 ^ 30): aF aD 184 [aL (m::l),.fn (.func 123) [] []] (bD (qU l m)):=by
 have hc:=nu;obtain⟨L,hL⟩:∃ L,m::l=L:=⟨_,rfl⟩;have hlen:L.length=l.length+1:=by rw[<-hL];rfl
 have h0:L.getD 0 default=m:=by rw[<-hL];rfl
 have hd:L.drop 1=l:=by rw[<-hL];rfl
 obtain⟨R,hR⟩:∃ R,qU l m=R:=⟨_,rfl⟩;rw[hR,hL];simp only[aL];refine aK ye ?_;intro Q aq au aA;repeat' first|simp (disch:=omega) only[go_sem,aq,au,aA,h0]|refine ak ?_|refine aj ?_ ?_<;>intro hw<;>try omega|fail
 with_reducible refine aX [6,14,15,16,17,18,19,20,21,22,23,24,25,26,27,28,29,30,31] (fun q:Nat × aH=>[(6,I q.1)]) (fun q=>[.cells [I 0,I 0,.str []],.cells [I q.2.kind,I q.2.n,.str q.2.s]]) (fun q=>1<=q.1/\q.1<=L.length/\qU (L.drop q.1) q.2=R) (fun q=>L.length-q.1) (1,m) ?_ ?_ ?_ ?_
 ·exact⟨by simp,by dsimp only;omega,by dsimp only;rw[hd];exact hR⟩
 ·rfl
 ·exact at_
 rintro⟨i,b⟩ u ⟨g1,g2,g3⟩;dsimp only at g1 g2 g3;by_cases hi:i<L.length
 ·rw[fZ hi,B6]at g3;obtain⟨v,hv⟩:∃ v,L.getD i default=v:=⟨_,rfl⟩;rw[hv]at g3;have c:=hc v b;generalize e7 v b=n at *;clear hc;simp only[c9]at c;by_cases hn:0<n
  ·rw[if_pos hn]at g3;repeat' first|simp (disch:=omega) only[go_sem,aq,au,aA,hv]|refine ak ?_|refine cW c ?_|refine aj ?_ ?_<;>intro hw<;>try omega|fail
   all_goals first
    | exact aP
    | (refine ⟨(i + 1, v), ?_, ?_, by first | rfl | (simp [go_sem]; done), bK, at_⟩ <;> (try dsimp only)
       ·exact⟨by omega,by omega,g3⟩
       ·omega)
    | skip
  ·rw[if_neg hn]at g3;repeat' first|simp (disch:=omega) only[go_sem,aq,au,aA,hv]|refine ak ?_|refine cW c ?_|refine aj ?_ ?_<;>intro hw<;>try omega|fail
   all_goals first
    | exact aP
    | (refine ⟨(i + 1, b), ?_, ?_, by first | rfl | (simp [go_sem]; done), bK, at_⟩ <;> (try dsimp only)
       ·exact⟨by omega,by omega,g3⟩
       ·omega)
    | skip
 ·rw[a_ (by omega)]at g3;have g3:b=R:=g3;subst g3;clear hc;repeat' first|refine ak ?_|refine aj ?_ ?_<;>intro hw<;>try omega|fail
  all_goals first|exact aN rfl rfl|exact aP|skip
def sS{σ : ae}{v:aH}{e:Int}{r:g_}(h1:valOf r=v)(h2:fH r=e): ∃ r0,Out.ret (oneOf [.agg [I v.kind,I v.n,.str v.s],I e])=Out.ret r0/\View σ r0 (vT r):=by
 have:AV.bJ [bD v,I e]=vT r:=by
  cases r with
  | ok w=>rw[qX];rw[<-h1,<-h2];rfl
  | err e'=>rw[lV];rw[<-h1,<-h2];rfl
 rw[<-this];exact bt rfl rfl
def vD (v : aH) (r : List aH) (n : Int) : vR (v :: r) n = match ew (n + v.n) with
    | .err e=> .err e
    | .ok w=>vR r w.n:=rfl
def tQ(n:Int): (ew n = .ok ⟨1,n,[]⟩/\dJ n)\/ew n = .err 15:=by
 unfold ew;split
 ·rename_i h;exact .inl ⟨rfl,h⟩
 ·exact .inr rfl
def abF(l:List aH)(hl:l.length<=2 ^ 30)(hr:∀ v ∈ l,dJ v.n): aF aD 182 [aL l] (vT (if l=[]then .ok v0 else vR l 0)):=by
 have hc:=fun n (hn:dJ n) k (hk:k<l.length)=>Qd n (l.getD k default).n hn (hr _ (aO hk));clear hr;by_cases h0:l=[]
 ·subst h0;rw[if_pos rfl];simp only[aL];refine aK I4 ?_;intro Q aq au aA;repeat' first|refine ak ?_|refine aj ?_ ?_<;>intro hw<;>try omega|fail
  all_goals first|exact sS (v:=v0) (r:= .ok v0) rfl rfl|exact aP|skip
 rw[if_neg h0];have hpos:0<l.length:=List.length_pos_iff.2 h0;obtain⟨R,hR⟩:∃ R,vR l 0=R:=⟨_,rfl⟩;rw[hR];simp only[aL];refine aK I4 ?_;intro Q aq au aA;repeat' first|refine ak ?_|refine aj ?_ ?_<;>intro hw<;>try omega|fail
 with_reducible refine aX [3,4,6,7,14,15,16,17,18,19,20,21,22,23,24,25,26,27,28,29] (fun q:(Nat × Int) × List bE=>[(4,I q.1.2),(14,I q.1.1)]) (fun q=> .cells [I 0,I 0,.str []]::q.2) (fun q=>q.1.1<=l.length/\dJ q.1.2/\vR (l.drop q.1.1) q.1.2=R) (fun q=>l.length-q.1.1) ((0,0),[]) ?_ ?_ ?_ ?_
 ·exact⟨by simp,by dsimp only;unfold dJ;omega,hR⟩
 ·rfl
 ·exact at_
 rintro⟨⟨i,n⟩,τ⟩ u ⟨g1,g2,g3⟩;dsimp only at g1 g2 g3;clear hR;by_cases hi:i<l.length
 ·rw[fZ hi,vD]at g3;have c:=hc n g2 i hi;obtain⟨v,hv⟩:∃ v,l.getD i default=v:=⟨_,rfl⟩;rw[hv]at g3 c;clear hc;rcases tQ (n+v.n)with ⟨e,hrg⟩|e
  ·rw[e]at g3 c;dsimp only at g3;have e1:numOf (.ok ⟨1,n+v.n,[]⟩)=n+v.n:=rfl;have e2:fH (.ok ⟨1,n+v.n,[]⟩)=0:=rfl;rw[e1,e2]at c;repeat' first|simp (disch:=omega) only[go_sem,aq,au,aA,hv]|refine ak ?_|refine cW c ?_|refine aj ?_ ?_<;>intro hw<;>try omega|fail
   all_goals first
    | exact aP
    |(refine⟨((i+1,n+v.n),τ++[.cells [I v.kind,I v.n,.str v.s]]),⟨by dsimp only;omega,hrg,g3⟩,by dsimp only;omega,by first|rfl|(simp[go_sem];done),bK,at_⟩)
    | skip
  ·rw[e]at g3 c;dsimp only at g3;subst g3;have e1:numOf (.err 15)=0:=rfl;have e2:fH (.err 15)=15:=rfl;rw[e1,e2]at c;repeat' first|simp (disch:=omega) only[go_sem,aq,au,aA,hv]|refine ak ?_|refine cW c ?_|refine aj ?_ ?_<;>intro hw<;>try omega|fail
   all_goals first|exact sS (v:=v0) (r:= .err 15) rfl rfl|exact aP|skip
 ·rw[a_ (by omega)]at g3;have g3:g_.ok ⟨1,n,[]⟩=R:=g3;subst g3;clear hc;repeat' first|refine ak ?_|refine aj ?_ ?_<;>intro hw<;>try omega|fail
  all_goals first|exact sS (v:=⟨1,n,[]⟩) (r:= .ok ⟨1,n,[]⟩) rfl rfl|exact aP|skip
def Ss(l:List (List aH))(a:List aH): jU (l++[a])=jU l++(if bU (a.getD 0 default)then []else [a.getD 0 default]):=by
 unfold jU;rw[iJ,List.filter_append]
 congr 1
 simp only[bf,b_,ia,List.filter_nil];cases bU (a.getD 0 default)<;>rfl
def XU{α : Type}[Inhabited α]{l:List α}{k:Nat}(h:k<l.length): l.take (k+1)=l.take k++[l.getD k default]:=by
 rw[iO,aB,aE h];rfl
def Vr(l:List (List aH)): (jU l).length<=l.length:=by
 unfold jU;exact c_ (List.length_filter_le _ _) (by simp)
def JY{l:List (List aH)}{v:aH}(h:v ∈ jU l): ∃ a ∈ l,v=a.getD 0 default:=by
 unfold jU at h;obtain⟨a,ha,rfl⟩:=eZ.1 (List.mem_filter.1 h).1;exact⟨a,ha,rfl⟩
def LC(rows:List (List aH)): kK 4 rows = .ok ⟨1,rows.length,[]⟩:=by unfold kK;exact if_pos rfl
def TT(rows:List (List aH)): kK 1 rows=if jU rows=[]then .ok v0 else vR (jU rows) 0:=by
 unfold kK;rw[if_neg (by decide)];split
 ·rename_i h;rw[h,if_pos rfl]
 ·rename_i m l h;rw[h];exact(if_pos rfl).trans (if_neg (by simp)).symm
def MU{agg:Int}{rows:List (List aH)}(h4:agg≠4)(h:jU rows=[]): kK agg rows = .ok v0:=by
 unfold kK;rw[if_neg h4,h]
def TU{rows:List (List aH)}{m:aH}{l:List aH}(h:jU rows=m::l): kK 2 rows = .ok (nL l m):=by
 unfold kK;rw[if_neg (by decide),h];rfl
def TV{agg:Int}{rows:List (List aH)}{m:aH}{l:List aH}(h4:agg≠4)(h1:agg≠1)(h2:agg≠2)(h:jU rows=m::l): kK agg rows = .ok (qU l m):=by
 unfold kK;rw[if_neg h4,h];dsimp only;rw[if_neg h1,if_neg h2]
def ZZ(v:aH): bU v=decide (v.kind=0):=rfl
def Z0(agg:Int)(rows:List (List aH))(hr:rows.length<=2 ^ 30)(hw:∀ a ∈ rows,0<a.length/\ ∀ v ∈ a,dJ v.n): aF aD 124 [I agg,cu rows] (vT (kK agg rows)):=by
 have hpos:=fun i (hi:i<rows.length)=>(hw _ (aO hi)).1;have TW:=Vr rows
 have cS:=abF (jU rows) (by omega) (fun v hv=>by
  obtain⟨a,ha,rfl⟩:=JY hv;exact(hw a ha).2 _ (aO (hw a ha).1))
 rw[<-TT]at cS
 have cL:∀ m l,jU rows=m::l->aF aD 183 [aL (jU rows),.fn (.func 123) [] []] (bD (nL l m)):=fun m l h=>by
  rw[h];exact B7 m l (by rw[h]at TW;simp at TW;omega)
 have cM:∀ m l,jU rows=m::l->aF aD 184 [aL (jU rows),.fn (.func 123) [] []] (bD (qU l m)):=fun m l h=>by
  rw[h];exact B8 m l (by rw[h]at TW;simp at TW;omega)
 clear hw;obtain⟨R,hR⟩:∃ R,kK agg rows=R:=⟨_,rfl⟩;rw[hR];simp only[cu];refine aK Rw ?_;intro Q aq au aA;repeat' first|refine ak ?_|refine aj ?_ ?_<;>intro hw<;>try omega|fail
 with_reducible refine aX [6,8,11,12,13,14,15,16,17,18,19,20,21,22,23,24,25,26] (fun q:Nat × List aH=>[(6,.own EV 1 q.2.length 0 q.2.length),(11,I q.1)]) (fun q=>[.cells [I 0,I 0,.str []],.vec EV (q.2.map bD)]) (fun q=>q.1<=rows.length/\q.2.length<=q.1/\q.2=jU (rows.take q.1)) (fun q=>rows.length-q.1) (0,[]) ?_ ?_ ?_ ?_
 ·exact⟨by simp,by simp,rfl⟩
 ·rfl
 ·exact at_
 rintro⟨i,L⟩ u ⟨g1,g2,g3⟩;dsimp only at g1 g2 g3;by_cases hi:i<rows.length
 ·have hp:=hpos i hi;have hs:=Ss (rows.take i) (rows.getD i default);rw[<-XU hi,<-g3,ZZ]at hs;obtain⟨a,ha⟩:∃ a,rows.getD i default=a:=⟨_,rfl⟩;rw[ha]at hp hs;obtain⟨v,hv⟩:∃ v,a.getD 0 default=v:=⟨_,rfl⟩;rw[hv]at hs;clear cS cL cM hpos TW g3 hR;have z0:(0:Int).toNat=0:=rfl;by_cases hk:v.kind=0
  ·rw[if_pos (by simpa using hk),bH]at hs;repeat' first|simp (disch:=omega) only[go_sem,aq,au,aA,ha,aL,z0,hv]|refine ak ?_|refine aj ?_ ?_<;>intro hw<;>try omega|fail
   all_goals first
    | exact aP
    | (refine ⟨(i + 1, L), ?_, ?_, by first | rfl | (simp [go_sem]; done), bK, at_⟩ <;> (try dsimp only)
       ·exact⟨by omega,by omega,hs.symm⟩
       ·omega)
    | skip
  ·rw[if_neg (by simpa using hk)]at hs;repeat' first|simp (disch:=omega) only[go_sem,aq,au,aA,ha,aL,z0,hv]|refine ak ?_|refine aj ?_ ?_<;>intro hw<;>try omega|fail
   all_goals first
    | exact aP
    | (refine ⟨(i + 1, L ++ [v]), ?_, ?_, by first | rfl | (simp [go_sem]; done), bK, at_⟩ <;> (try dsimp only)
       ·exact⟨by omega,by simp only[List.length_append,List.length_cons,List.length_nil];omega,hs.symm⟩
       ·omega)
    | skip
 ·rw[bX (by omega)]at g3;clear hpos;have vZ:agg=4->R = .ok ⟨1,rows.length,[]⟩:=fun h=>by rw[<-hR,h];exact LC rows
  rw[<-g3]at cS cL cM TW;have EI:agg=1->R=kK 1 rows:=fun h=>by rw[<-hR,h]
  have jn:=fun(h4:agg≠4) (h:L=[])=>hR.symm.trans (MU h4 (by rw[<-g3];exact h));have h2:∀ m l,L=m::l->agg=2->R = .ok (nL l m):=fun m l h h'=>by rw[<-hR,h'];exact TU (by rw[<-g3];exact h)
  have ho:=fun m l (h:L=m::l) h4 h1 h2=>hR.symm.trans (TV h4 h1 h2 (by rw[<-g3];exact h));clear hR;simp only[aL]at cS cL cM;by_cases e4:agg=4
  ·have vZ:=vZ e4;subst vZ;subst e4;clear cS cL cM EI jn h2 ho;repeat' first|refine ak ?_|refine aj ?_ ?_<;>intro hw<;>try omega|fail
   all_goals first|exact sS (v:=⟨1,rows.length,[]⟩) (r:= .ok ⟨1,rows.length,[]⟩) rfl rfl|exact aP|skip
  by_cases e1:agg=1
  ·have EI:=EI e1;rw[<-EI]at cS;subst e1;clear cL cM jn h2 ho vZ EI;have hRr:vT R = .bJ [.agg [I (valOf R).kind,I (valOf R).n,.str (valOf R).s],I (fH R)]:=by cases R<;>rfl
   rw[hRr]at cS;repeat' first|refine ak ?_|refine Cx cS ?_|refine aj ?_ ?_<;>intro hw<;>try omega|fail
   all_goals first|exact sS (v:=valOf R) (r:=R) rfl rfl|exact aP|skip
  cases hL:L with
  | nil =>
    have jn:=jn e4 hL;subst jn;subst hL;clear cS cL cM h2 ho vZ EI;repeat' first|refine ak ?_|refine aj ?_ ?_<;>intro hw<;>try omega|fail
    all_goals first|exact sS (v:=v0) (r:= .ok v0) rfl rfl|exact aP|skip
  | cons m l =>
    have cL:=cL m l hL;have cM:=cM m l hL;have hm:(m::l).length=l.length+1:=rfl;rw[hL]at cL cM;by_cases e2:agg=2
    ·have h2:=h2 m l hL e2;subst h2;subst e2;subst hL;clear cS cM jn ho vZ EI;generalize nL l m=b at *;simp only[c9 b]at cL;repeat' first|refine ak ?_|refine Cx cL ?_|refine aj ?_ ?_<;>intro hw<;>try omega|fail
     all_goals first|exact sS (v:=b) (r:= .ok b) rfl rfl|exact aP|skip
    ·have ho:=ho m l hL e4 e1 e2;subst ho;subst hL;clear cS cL jn h2 vZ EI;generalize qU l m=b at *;simp only[c9 b]at cM;repeat' first|refine ak ?_|refine Cx cM ?_|refine aj ?_ ?_<;>intro hw<;>try omega|fail
     all_goals first|exact sS (v:=b) (r:= .ok b) rfl rfl|exact aP|skip
