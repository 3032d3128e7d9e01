/- Part. -/
import Derived.Test.YthakfmmgnjpmdaaGreatDoorW34
set_option linter.all false
set_option maxHeartbeats 4000000
namespace Go.Proofs.YthakfmmgnjpmdaaGreatDoor
open Go.AM
set_option maxRecDepth 4000
def Cm(ins:List cN)(row:List aL)(i:Nat): Bool:=br (row.getD i default) && bT (row.getD i default).kind (ins.getD i default).kind
def YG{ins:List cN}{row:List aL}{i:Nat}(hi:i<row.length)(h:Cm ins row i=false): lN ins row=false:=by
 unfold lN;rw[Bool.and_eq_false_iff];refine .inr ?_;rw[List.all_eq_false];exact⟨i,List.mem_range.2 hi,by unfold Cm at h;simpa using h⟩
def VZ{ins:List cN}{row:List aL}(hl:row.length=ins.length)(h:∀ k,k<row.length->Cm ins row k=true): lN ins row=true:=by
 unfold lN;rw[aj];exact⟨decide_eq_true hl,aV.2 fun k hk=>h k (cV.1 hk)⟩
def Gn(ins:List cN)(row:List aL): Int:=if lN ins row then 0 else 21
def adA{ins:List cN}{row:List aL}(h:row.length≠ins.length): Gn ins row=21:=by
 unfold Gn lN;rw[decide_eq_false h];rfl
def YH(r:Ready)(row:List aL)(hr:row.length<=2 ^ 40)(hrow:∀ w ∈ row,tC w): aM aH 70 [kZ r,aW row] (I (Gn r.table.ins row)):=by
 have cv:=fun k (hk:k<row.length)=>(show aM aH 83 [.agg [I (row.getD k default).kind,I (row.getD k default).n,.str (row.getD k default).s]] (I (ie (br (row.getD k default)))) from jM _ _ _ (hrow _ (bn hk)).1.1 (hrow _ (bn hk)).1.2);clear hrow;by_cases hl:row.length=r.table.ins.length
 case neg =>
  rw[adA hl];simp only[kZ,bV,fj,o_,aW];refine aR DK ?_;intro Q aB aC aD;repeat' first|refine au ?_|refine aq ?_ ?_<;>intro hw<;>try omega|fail
  all_goals first|exact oU rfl|exact a_|skip
 obtain⟨R,hR⟩:∃ R,Gn r.table.ins row=R:=⟨_,rfl⟩;rw[hR];have hno:∀ i,i<row.length->Cm r.table.ins row i=false->R=21:=fun i hi h=>by rw[<-hR];unfold Gn;rw[YG hi h];rfl
 have hyes:(∀ k,k<row.length->Cm r.table.ins row k=true)->R=0:=fun h=>by rw[<-hR];unfold Gn;rw[VZ hl h];rfl
 clear hR;simp only[kZ,bV,fj,o_,aW];refine aR DK ?_;intro Q aB aC aD;repeat' first|refine au ?_|refine aq ?_ ?_<;>intro hw<;>try omega|fail
 with_reducible refine bE [4,5,6,16,17,18,19,20,21,22,23,24,25,26,27,28,29,30,31,32,33,34,35,36,37] (fun q:Nat × List bj=>[(16,I q.1)]) (fun q=> .cells [.str r.table.name,.aN false EC (r.table.ins.map ew),.aN false EC (r.table.outs.map ew),I r.table.bZ,I r.table.agg,.aN false ER (r.table.rules.map ia),.aN false ER (r.lines.map m_)]::q.2) (fun q=>q.1<=row.length/\ ∀ k,k<q.1->Cm r.table.ins row k=true) (fun q=>row.length-q.1) (0,[]) ?_ ?_ ?_ ?_
 ·simp
 ·rfl
 ·exact at_
 rintro⟨i,τ⟩ u ⟨g1,g2⟩;dsimp only at g1 g2;by_cases hi:i<row.length
 ·have c1:=cv i hi;have hn:=hno i hi;have dV:=bQ (q:=fun k=>Cm r.table.ins row k=true) g2 (i:=i);have hf:Cm r.table.ins row i=(br (row.getD i default) && bT (row.getD i default).kind (r.table.ins.getD i default).kind):=rfl;have c2:=nW (row.getD i default).kind (r.table.ins.getD i default).kind;obtain⟨w,rG⟩:∃ w,row.getD i default=w:=⟨_,rfl⟩;obtain⟨c,hc0⟩:∃ c,r.table.ins.getD i default=c:=⟨_,rfl⟩;rw[rG]at c1;rw[rG,hc0]at hf c2;generalize br w=b1 at *;generalize bT w.kind c.kind=b2 at *;clear cv hno hyes;cases b1 with
  | false =>
    have hn:=hn (by rw[hf];rfl);clear dV;have z:ie false=2:=rfl;rw[z]at c1;repeat' first|simp (disch:=omega) only[go_sem,aB,aC,aD,rG,hc0]|refine au ?_|refine aq ?_ ?_<;>intro hw<;>try omega|fail
    all_goals first|exact oU hn|exact a_|skip
  | true =>
    have z:ie true=0:=rfl;rw[z]at c1;cases b2 with
    | false =>
      have hn:=hn (by rw[hf];rfl);clear dV;repeat' first|simp (disch:=omega) only[go_sem,aB,aC,aD,rG,hc0]|refine au ?_|refine aq ?_ ?_<;>intro hw<;>try omega|fail
      all_goals first|exact oU hn|exact a_|skip
    | true =>
      have dV:=dV (by show Cm r.table.ins row i=true;rw[hf];rfl);clear hn;repeat' first|simp (disch:=omega) only[go_sem,aB,aC,aD,rG,hc0]|refine au ?_|refine aq ?_ ?_<;>intro hw<;>try omega|fail
      all_goals first
       |(refine⟨(i+1,τ++[.cells [I w.kind,I w.n,.str w.s]]),⟨by dsimp only;omega,dV⟩,by dsimp only;omega,by first|rfl|(simp[go_sem];done),cZ,at_⟩)
       | exact a_
       | skip
 ·have:=hyes fun k hk=>g2 k (by omega);repeat' first|refine au ?_|refine aq ?_ ?_<;>intro hw<;>try omega|fail
  all_goals first|exact oU this|exact a_|skip
def pY(n:Int): AV:=I n
def dL(l:List Int): AV:= .aN false E1 (l.map pY)
@[simp] def aiT (n:Int):(pY n).dz=true:=rfl
def MH(l:List Int): (dL l).dz=true:=by simp only[dL,AV.dz];exact gV _ _ (fun _=>rfl)
def adB(l:List Int): AV.cg (l.map pY)=true:=gV _ _ (fun _=>rfl)
attribute [simp] MH adB
attribute [go_sem] pY
structure Fy (r:Ready):Prop where
 ins:r.table.ins.length<=2 ^ 30
 outs:r.table.outs.length<=2 ^ 30
 lines:r.lines.length<=24
 line:∀ l ∈ r.lines,(l.cells.length=r.table.ins.length/\ ∀ c ∈ l.cells,oA c)/\l.outs.length=r.table.outs.length/\ ∀ x ∈ l.outs,ig x/\fW x<=2 ^ 30
def qo(row:List aL): Prop:=row.length<=2 ^ 30/\ ∀ w ∈ row,tC w
def Gp(cs:List cN)(row:List aL)(c:Cell)(r:List Cell)(k:Nat): mY cs row (c::r) k=if(mX c (row.getD k default) cs row).2≠0\/(mX c (row.getD k default) cs row).1=false then(false,(mX c (row.getD k default) cs row).2)else mY cs row r (k+1):=rfl
def YI(r:Ready)(hr:Fy r)(row:List aL)(hrow:qo row)(j:Nat)(hj:j<r.lines.length)(hl:r.table.ins.length<=row.length): aM aH 71 [kZ r,I j,aW row] (MG (mY r.table.ins row (r.lines.getD j default).cells 0)):=by
 have AZ:=(hr.line _ (bn hj)).1;obtain⟨ln,afy⟩:∃ ln,r.lines.getD j default=ln:=⟨_,rfl⟩;rw[afy]at AZ ⊢;obtain⟨L,hL⟩:∃ L,ln.cells=L:=⟨_,rfl⟩;rw[hL]at AZ ⊢;have hA:=fun k (hk:k<L.length)=>VY (L.getD k default) (row.getD k default) r.table.ins row (AZ.2 _ (bn hk)) (hrow.2 _ (bn (by omega))) (by have:=hr.ins;omega) (by have:=hrow.1;omega) hrow.2;have hlen:L.length<=row.length:=by omega
 have aj2:L.length<=2 ^ 30:=by have:=hr.ins;omega
 have D8:=hrow.1;clear AZ hrow hr hl;obtain⟨R,hR⟩:∃ R,mY r.table.ins row L 0=R:=⟨_,rfl⟩;rw[hR];simp only[kZ,bV,fj,o_,aW]at hA ⊢;refine aR O2 ?_;intro Q aB aC aD;repeat' first|simp (disch:=omega) only[go_sem,aB,aC,aD,afy,hL]|refine au ?_|refine aq ?_ ?_<;>intro hw<;>try omega|fail
 with_reducible refine bE [6,7,8,9,10,11,19,20,21,22,23,24,25,26,27,28,29,30,31,32,33,34,35,36,37,38,39,40,41,42,43,44] (fun q:Nat × List bj=>[(19,I q.1)]) (fun q=> .cells [.str r.table.name,.aN false EC (r.table.ins.map ew),.aN false EC (r.table.outs.map ew),I r.table.bZ,I r.table.agg,.aN false ER (r.table.rules.map ia),.aN false ER (r.lines.map m_)]::q.2) (fun q=>q.1<=L.length/\mY r.table.ins row (L.drop q.1) q.1=R) (fun q=>L.length-q.1) (0,[]) ?_ ?_ ?_ ?_
 ·exact⟨by simp,by rw[gK];exact hR⟩
 ·rfl
 ·exact at_
 rintro⟨i,τ⟩ u ⟨g1,g2⟩;dsimp only at g1 g2;clear hR;by_cases hi:i<L.length
 ·have cA:=hA i hi;clear hA;rw[jW hi,Gp]at g2;obtain⟨c,hc0⟩:∃ c,L.getD i default=c:=⟨_,rfl⟩;obtain⟨w,rG⟩:∃ w,row.getD i default=w:=⟨_,rfl⟩;rw[hc0,rG]at g2 cA;generalize mX c w r.table.ins row=p at *;obtain⟨p1,p2⟩:=p;dsimp only at g2;simp only[dG,jj,gi,MG]at cA;by_cases he:p2=0
  ·subst he;cases p1 with
   | true =>
     rw[if_neg (by simp)]at g2;repeat' first|simp (disch:=omega) only[go_sem,aB,aC,aD,hc0,rG]|refine au ?_|refine aq ?_ ?_<;>intro hw<;>try omega|fail
     all_goals first
      |(refine⟨(i+1,τ++[.cells [.bool c.any,.bool c.neg,.aN false ES (c.tests.map dA)]]),⟨by dsimp only;omega,g2⟩,by dsimp only;omega,by first|rfl|(simp[go_sem];done),cZ,at_⟩)
      | exact a_
      | skip
   | false =>
     rw[if_pos (by simp)]at g2;repeat' first|simp (disch:=omega) only[go_sem,aB,aC,aD,hc0,rG]|refine au ?_|refine aq ?_ ?_<;>intro hw<;>try omega|fail
     all_goals first|exact r9 g2.symm|exact a_|skip
  ·rw[if_pos (.inl he)]at g2;repeat' first|simp (disch:=omega) only[go_sem,aB,aC,aD,hc0,rG]|refine au ?_|refine aq ?_ ?_<;>intro hw<;>try omega|fail
   all_goals first|exact r9 g2.symm|exact a_|skip
 ·rw[bK (by omega)]at g2;have g2:(true,0)=R:=g2;repeat' first|refine au ?_|refine aq ?_ ?_<;>intro hw<;>try omega|fail
  all_goals first|exact r9 g2.symm|exact a_|skip
def eRu(p:List Int × Int × Int): AV:= .bH [dL p.1,I p.2.1,I p.2.2]
def Jt{σ : ae}{v:AV}{l:List Int}{n e:Int}{p:List Int × Int × Int}(h:p=(l,n,e))(hv:View σ v (dL l)): ∃ r0,Out.ret (oneOf [v,I n,I e])=Out.ret r0/\View σ r0 (eRu p):=by
 subst h;exact fD (.cons hv (.cons (.refl _ rfl) (.cons (.refl _ rfl) (.nil _))))
def nM{σ : ae}{f:Bool}{l:List Int}: View σ (.aN f E1 (l.map pY)) (dL l):=View.weak _ _ _ (by simp)
def uB{σ : ae}{f:Bool}{n:Int}: View σ (.aN f E1 [I n]) (dL [n]):=View.weak _ _ _ (by simp)
def Gq (Ep : Int) (cs : List cN) (row : List aL) (l : jn) (r : List jn) (k : Nat) (acc : List Int) : rZ Ep cs row (l :: r) k acc = if (mY cs row l.cells 0).2 ≠ 0 then ([], (k : Int), (mY cs row l.cells 0).2)
    else if(mY cs row l.cells 0).1 then(if Ep=2 then([(k:Int)],0,0)else rZ Ep cs row r (k+1) (acc++[(k:Int)]))
    else rZ Ep cs row r (k+1) acc:=rfl
def HM{ins:List cN}{row:List aL}(h:lN ins row=true): row.length=ins.length:=by
 unfold lN at h;rw[aj,decide_eq_true_eq]at h;exact h.1
def YJ(r:Ready)(hr:Fy r)(row:List aL)(hrow:qo row): aM aH 38 [kZ r,aW row] (eRu (dS r row)):=by
 have c1:=YH r row (by have:=hrow.1;omega) hrow.2;unfold dS;cases hin:lN r.table.ins row with
 | false =>
   have:Gn r.table.ins row=21:=by unfold Gn;rw[hin];rfl
   rw[this]at c1;rw[if_neg (by decide)];simp only[kZ,bV,fj,o_,aW]at c1 ⊢;refine aR DJ ?_;intro Q aB aC aD;repeat' first|refine au ?_|refine aq ?_ ?_<;>intro hw<;>try omega|fail
   all_goals first|exact Jt rfl (.aA _)|exact a_|skip
 | true =>
 have:Gn r.table.ins row=0:=by unfold Gn;rw[hin];rfl
 rw[this]at c1;rw[if_pos rfl];clear this;have hin:=HM hin;have cA:=fun j hj=>YI r hr row hrow j hj (by omega);have h24:=hr.lines;clear hr hrow hin;obtain⟨R,hR⟩:∃ R,rZ r.table.bZ r.table.ins row r.lines 0 []=R:=⟨_,rfl⟩;rw[hR];simp only[kZ,bV,fj,o_,aW]at c1 cA ⊢;refine aR DJ ?_;intro Q aB aC aD;repeat' first|refine au ?_|refine aq ?_ ?_<;>intro hw<;>try omega|fail
 with_reducible refine bE [4,5,6,8,9,10,11,21,22,23,24,25,26,27,28,29,30,31,32,33,34,35,36,37,38,39,40,41,42,43,44,45,46,47,48,49,50,51,52] (fun q:Nat × List Int=>[(21,I q.1),(8,.own E1 1 q.2.length 0 q.2.length)]) (fun q=>[.cells [.str r.table.name,.aN false EC (r.table.ins.map ew),.aN false EC (r.table.outs.map ew),I r.table.bZ,I r.table.agg,.aN false ER (r.table.rules.map ia),.aN false ER (r.lines.map m_)],.vec E1 (q.2.map pY)]) (fun q=>q.1<=r.lines.length/\q.2.length<=q.1/\rZ r.table.bZ r.table.ins row (r.lines.drop q.1) q.1 q.2=R) (fun q=>r.lines.length-q.1) (0,[]) ?_ ?_ ?_ ?_
 ·exact⟨by simp,by simp,by rw[gK];exact hR⟩
 ·rfl
 ·exact at_
 rintro⟨i,acc⟩ u ⟨g1,g3,g2⟩;dsimp only at g1 g2 g3;clear hR;by_cases hi:i<r.lines.length
 ·have cA:=cA i hi;rw[jW hi,Gq]at g2;generalize mY r.table.ins row (r.lines.getD i default).cells 0=p at *;obtain⟨p1,p2⟩:=p;dsimp only at g2;simp only[MG]at cA;by_cases he:p2=0
  ·subst he;rw[if_neg (by simp)]at g2;cases p1 with
   | true =>
     rw[if_pos rfl]at g2;by_cases hp:r.table.bZ=2
     ·rw[if_pos hp]at g2;repeat' first|refine au ?_|refine aq ?_ ?_<;>intro hw<;>try omega|fail
      all_goals first|exact Jt g2.symm uB|exact a_|skip
     ·rw[if_neg hp]at g2;repeat' first|refine au ?_|refine aq ?_ ?_<;>intro hw<;>try omega|fail
      all_goals first
       |(refine⟨(i+1,acc++[(i:Int)]),⟨by dsimp only;omega,by dsimp only;simp only[List.length_append,List.length_cons,List.length_nil];omega,g2⟩,by dsimp only;omega,by first|rfl|(simp[go_sem];done),cZ,at_⟩)
       | exact a_
       | skip
   | false =>
     rw[if_neg (by decide)]at g2;repeat' first|refine au ?_|refine aq ?_ ?_<;>intro hw<;>try omega|fail
     all_goals first
      |(refine⟨(i+1,acc),⟨by dsimp only;omega,by dsimp only;omega,g2⟩,by dsimp only;omega,by first|rfl|(simp[go_sem];done),cZ,at_⟩)
      | exact a_
      | skip
  ·rw[if_pos he]at g2;repeat' first|refine au ?_|refine aq ?_ ?_<;>intro hw<;>try omega|fail
   all_goals first|exact Jt g2.symm (.aA _)|exact a_|skip
 ·rw[bK (by omega)]at g2;have g2:(acc,(0:Int),(0:Int))=R:=g2;clear cA;repeat' first|refine au ?_|refine aq ?_ ?_<;>intro hw<;>try omega|fail
  all_goals first|exact Jt g2.symm (by exact DR)|exact a_|skip
def YK(c:cN)(v:aL)(hl:c.order.length<=2 ^ 60): aM aH 122 [ew c,bX v] (I (kB c v)):=by
 have h:=qM c.order v hl;unfold kB;generalize kr (fun x=>x==v) c.order=i at *;obtain⟨R,hR⟩:∃ R,(if i<0 then(c.order.length:Int)else i)=R:=⟨_,rfl⟩;rw[hR];simp only[aW,gi,ew]at h ⊢;refine aR O6 ?_;intro Q aB aC aD;repeat' first|refine au ?_|refine aq ?_ ?_<;>intro hw<;>try omega|fail
 all_goals first
  | exact oU (by rw[<-hR,if_neg (by omega)])
  | exact oU (by rw[<-hR,if_pos (by omega)])
  | exact a_
  | skip
def mg: List cN->List aL->List aL->Int
 | c::cs,a::r,b::t=>if jJ (kB c a) (kB c b)≠0 then jJ (kB c a) (kB c b)else mg cs r t
 | _,_,_=>0
def adC(a b:Int): (jJ a b≠0↔a≠b)/\(jJ a b<0↔a<b):=by
 unfold jJ;constructor
 ·constructor
  ·intro h e;subst e;simp at h
  ·intro h;split
   ·decide
   ·split
    ·decide
    ·omega
 ·constructor
  ·intro h;split at h
   ·assumption
   ·split at h<;>simp at h
  ·intro h;rw[if_pos h];decide
def Qt: ∀(cs:List cN) (a b:List aL),wv cs a b=decide (mg cs a b<0)
 | c :: cs, a :: r, b :: t => by
   have h:=adC (kB c a) (kB c b);unfold wv mg;by_cases e:kB c a=kB c b
   ·rw[if_neg (by simpa using e),if_neg (fun h'=>h.1.1 h' e)];exact Qt cs r t
   ·rw[if_pos e,if_pos (h.1.2 e),cG,decide_eq_true_eq,decide_eq_true_eq];exact h.2.symm
 | [],_,_=>by unfold wv mg;rfl
 | _::_,[],_=>by unfold wv mg;rfl
 | _::_,_::_,[]=>by unfold wv mg;rfl
def YL{cs:List cN}{a b:List aL}{k:Nat}(h1:k<cs.length)(h2:k<a.length)(h3:k<b.length): mg (cs.drop k) (a.drop k) (b.drop k)=if jJ (kB (cs.getD k default) (a.getD k default)) (kB (cs.getD k default) (b.getD k default))≠0 then jJ (kB (cs.getD k default) (a.getD k default)) (kB (cs.getD k default) (b.getD k default))else mg (cs.drop (k+1)) (a.drop (k+1)) (b.drop (k+1)):=by
 rw[jW h1,jW h2,jW h3];rfl
def V5{cs:List cN}{a b:List aL}{k:Nat}(h1:cs.length<=k): mg (cs.drop k) (a.drop k) (b.drop k)=0:=by
 rw[List.drop_of_length_le h1];unfold mg;rfl
def dU(l:List (List aL)): AV:= .aN false E1 (l.map aW)
def MI(l:List (List aL)): (dU l).dz=true:=by simp only[dU,AV.dz];exact gV _ _ s8
def Ju(l:List (List aL)): AV.cg (l.map aW)=true:=gV _ _ s8
attribute [simp] MI Ju
def EL{outs:List cN}{rows:List (List aL)}: ∀ {l:List (List aL)} {i b:Nat},i+l.length=rows.length->b<rows.length->pB outs rows l i b<rows.length
 | [],_,_,_,h=>h
 | a :: r, i, b, hl, h => by
   unfold pB;simp only[List.length_cons]at hl;refine EL (by omega) ?_;split
   ·omega
   ·exact h
def Sf(outs:List cN)(rows:List (List aL))(a:List aL)(r:List (List aL))(i b:Nat): pB outs rows (a::r) i b=pB outs rows r (i+1) (if mg outs a (rows.getD b default)<0 then i else b):=by
 show pB outs rows r (i+1) (if wv outs a (rows.getD b default)then i else b)=_;rw[Qt]
 congr 1
 by_cases h:mg outs a (rows.getD b default)<0
 ·rw[if_pos h,if_pos (by simpa using h)]
 ·rw[if_neg h,if_neg (by simpa using h)]
def YM(cs:List cN)(rows:List (List aL))(hc:∀ c ∈ cs,c.order.length<=2 ^ 60)(hl:cs.length<=2 ^ 30)(hr:rows.length<=2 ^ 30)(hw:∀ a ∈ rows,a.length=cs.length): aM aH 75 [bV cs,dU rows] (I (pB cs rows rows 0 0)):=by
 have hp:=fun k (hk:k<cs.length) v=>YK (cs.getD k default) v (hc _ (bn hk));have YN:=cmp_Compare_int;have hgl:=fun i (hi:i<rows.length)=>hw _ (bn hi);clear hc hw;obtain⟨B,hB⟩:∃ B,pB cs rows rows 0 0=B:=⟨_,rfl⟩;rw[hB];simp only[bV,dU];refine aR O4 ?_;intro Q aB aC aD;repeat' first|refine au ?_|refine aq ?_ ?_<;>intro hw<;>try omega|fail
 with_reducible refine bE [5,6,7,8,9,12,13,14,15,16,17,18,19,20,21,22,23,24,25,26,27,28,29,30,31,32,33,34,35,36,37,38,39,40,41,42,43,44,45,46,47] (fun q:(Nat × Nat) × List bj=>[(5,I q.1.2),(12,I q.1.1)]) (fun q=>q.2) (fun q=>q.1.1<=rows.length/\(q.1.1<rows.length->q.1.2<rows.length)/\pB cs rows (rows.drop q.1.1) q.1.1 q.1.2=B) (fun q=>rows.length-q.1.1) ((0,0),[]) ?_ ?_ ?_ ?_
 ·exact⟨by simp,fun h=>h,by simpa using hB⟩
 ·rfl
 ·exact at_
 rintro⟨⟨i,b⟩,τ⟩ u ⟨g1,g2,g3⟩;dsimp only at g1 g2 g3;clear hB;by_cases hi:i<rows.length
 ·rw[jW hi,Sf]at g3;have gb:=g2 hi;have la:=hgl i hi;have lb:=hgl b gb;obtain⟨x,hx⟩:∃ x,rows.getD i default=x:=⟨_,rfl⟩;obtain⟨y,hy⟩:∃ y,rows.getD b default=y:=⟨_,rfl⟩;rw[hx]at la;rw[hy]at lb;rw[hx,hy]at g3;have bR:=fun k (hk:k<cs.length)=>YL (cs:=cs) (a:=x) (b:=y) hk (by omega) (by omega);have kT:=fun k (hk:cs.length<=k)=>V5 (a:=x) (b:=y) hk;have hN:mg cs x y=mg cs x y:=rfl;generalize hNe:mg cs x y=N at g3 hN;clear hN hgl;repeat' first|simp (disch:=omega) only[go_sem,aB,aC,aD,hx,hy]|refine au ?_|refine aq ?_ ?_<;>intro hw<;>try omega|fail
  with_reducible refine bE [7,8,9,17,18,19,20,21,22,23,24,25,26,27,28,29,30,31,32,33,34,35,36,37,38,39,40,41,42,43] (fun q:(Nat × Int) × List bj=>[(7,I q.1.2),(17,I q.1.1)]) (fun q=>q.2) (fun q=>q.1.1<=cs.length/\(if q.1.2≠0 then q.1.2 else mg (cs.drop q.1.1) (x.drop q.1.1) (y.drop q.1.1))=N) (fun q=>cs.length-q.1.1) ((0,0),τ) ?_ ?_ ?_ ?_
  ·exact⟨by simp,by simpa using hNe⟩
  ·rfl
  ·exact at_
  rintro⟨⟨k,n⟩,kM⟩ u' ⟨k1,k2⟩;dsimp only at k1 k2;clear hNe;by_cases hk:k<cs.length
  ·by_cases hn:n=0
   ·subst hn;rw[if_neg (by simp),bR k hk]at k2;have c1:=hp k hk (x.getD k default);have c2:=hp k hk (y.getD k default);obtain⟨c,hc0⟩:∃ c,cs.getD k default=c:=⟨_,rfl⟩;obtain⟨v,kH⟩:∃ v,x.getD k default=v:=⟨_,rfl⟩;obtain⟨w,rG⟩:∃ w,y.getD k default=w:=⟨_,rfl⟩;rw[hc0,kH,rG]at k2;rw[hc0,kH]at c1;rw[hc0,rG]at c2;generalize kB c v=m1 at *;generalize kB c w=m2 at *;have c3:=YN m1 m2;generalize jJ m1 m2=m3 at *;clear hp bR kT YN;simp only[ew,aW,gi]at c1 c2;repeat' first|simp (disch:=omega) only[go_sem,aB,aC,aD,hc0,kH,rG,hx,hy]|refine au ?_|refine aq ?_ ?_<;>intro hw<;>try omega|fail
    all_goals first
     | exact a_
     |(refine⟨((k+1,m3),kM++[.cells [.str c.name,I c.kind,.aN false EV (c.order.map bX)]]),⟨by dsimp only;omega,k2⟩,by dsimp only;omega,by first|rfl|(simp[go_sem];done),cZ,at_⟩)
     | skip
   ·rw[if_pos hn]at k2;subst k2;obtain⟨c,hc0⟩:∃ c,cs.getD k default=c:=⟨_,rfl⟩;clear hp bR kT YN;repeat' first|simp (disch:=omega) only[go_sem,aB,aC,aD,hc0]|refine au ?_|refine aq ?_ ?_<;>intro hw<;>try omega|fail
    all_goals first
     | exact a_
     |(refine⟨((k+1,n),kM++[.cells [.str c.name,I c.kind,.aN false EV (c.order.map bX)]]),⟨by dsimp only;omega,if_pos hn⟩,by dsimp only;omega,by first|rfl|(simp[go_sem];done),cZ,at_⟩)
     | skip
  ·have hnN : n = N := by
    rw[kT k (by omega)]at k2;split at k2
    ·exact k2
    ·omega
   subst hnN;clear hp bR kT YN;by_cases h0:n<0
   ·rw[if_pos h0]at g3;repeat' first|refine au ?_|refine aq ?_ ?_<;>intro hw<;>try omega|fail
    all_goals first
     | exact a_
     |(refine⟨((i+1,i),kM),⟨by dsimp only;omega,fun h=>hi,g3⟩,by dsimp only;omega,by first|rfl|(simp[go_sem];done),cZ,at_⟩)
     | skip
   ·rw[if_neg h0]at g3;repeat' first|refine au ?_|refine aq ?_ ?_<;>intro hw<;>try omega|fail
    all_goals first
     | exact a_
     |(refine⟨((i+1,b),kM),⟨by dsimp only;omega,fun h=>gb,g3⟩,by dsimp only;omega,by first|rfl|(simp[go_sem];done),cZ,at_⟩)
     | skip
 ·rw[bK (by omega)]at g3;have g3:b=B:=g3;subst g3;clear hp YN hgl;repeat' first|refine au ?_|refine aq ?_ ?_<;>intro hw<;>try omega|fail
  all_goals first|exact oU rfl|exact a_|skip
def adD{a b:List aL}{k:Nat}(h2:k<a.length)(h3:k<b.length): iu (a.drop k) (b.drop k)=if iM (a.getD k default) (b.getD k default)≠0 then iM (a.getD k default) (b.getD k default)else iu (a.drop (k+1)) (b.drop (k+1)):=by
 rw[jW h2,jW h3];rfl
def YO{a b:List aL}{k:Nat}(h2:k<a.length)(h3:b.length<=k): iu (a.drop k) (b.drop k)=1:=by
 rw[jW h2,bK h3];rfl
def YP{a b:List aL}{k:Nat}(h2:a.length<=k)(h3:k<b.length): iu (a.drop k) (b.drop k) = -1:=by
 rw[jW h3,bK h2];rfl
def abp{a b:List aL}{k:Nat}(h2:a.length<=k)(h3:b.length<=k): iu (a.drop k) (b.drop k)=0:=by
 rw[bK h2,bK h3];rfl
def NL(a b:List aL)(ha:a.length<=2 ^ 30)(hb:b.length<=2 ^ 30): aM aH 116 [aW a,aW b] (I (iu a b)):=by
 have c:aM aH 117 [aW a,aW b,.fn (.func 118) [] []] (I (iu a b)):=by
  have hc:=fun k=>nq (a.getD k default) (b.getD k default);have bR:=fun k (hk:k<a.length) (kR:k<b.length)=>adD (a:=a) (b:=b) hk kR;have Jv:=fun k (hk:k<a.length) kR=>YO (a:=a) (b:=b) hk kR;have Jw:=fun k hk (kR:k<b.length)=>YP (a:=a) (b:=b) hk kR;have kT:=fun k hk kR=>abp (a:=a) (b:=b) (k:=k) hk kR;obtain⟨N,hN⟩:∃ N,iu a b=N:=⟨_,rfl⟩;rw[hN];simp only[aW];refine aR vY ?_;intro Q aB aC aD;repeat' first|refine au ?_|refine aq ?_ ?_<;>intro hw<;>try omega|fail
  with_reducible refine bE [6,7,8,9,10,13,14,15,16,17,18,19,20,21,22,23,24,25,26,27,28,29,30,31,32,33] (fun q:Nat × List bj=>[(13,I q.1)]) (fun q=>q.2) (fun q=>q.1<=a.length/\(q.1<=b.length)/\iu (a.drop q.1) (b.drop q.1)=N) (fun q=>a.length-q.1) (0,[]) ?_ ?_ ?_ ?_
  ·exact⟨by simp,by simp,by simpa using hN⟩
  ·rfl
  ·exact at_
  rintro⟨i,τ⟩ u ⟨g1,g3,g2⟩;dsimp only at g1 g2 g3;clear hN;by_cases hi:i<a.length
  ·obtain⟨x,hx0⟩:∃ x,a.getD i default=x:=⟨_,rfl⟩;by_cases hj:i<b.length
   ·have c1:=hc i;rw[bR i hi hj]at g2;obtain⟨y,hy0⟩:∃ y,b.getD i default=y:=⟨_,rfl⟩;rw[hx0,hy0]at g2 c1;generalize iM x y=m at *;clear hc bR kT Jv Jw;simp only[gi]at c1;by_cases he:m=0
    ·rw[if_neg (by simpa using he)]at g2;repeat' first|simp (disch:=omega) only[go_sem,aB,aC,aD,hx0,hy0]|refine au ?_|refine aq ?_ ?_<;>intro hw<;>try omega|fail
     all_goals first
      | exact a_
      |(refine⟨(i+1,τ++[.cells [I x.kind,I x.n,.str x.s]]++[.cells [I y.kind,I y.n,.str y.s]]),⟨by dsimp only;omega,by dsimp only;omega,g2⟩,by dsimp only;omega,by first|rfl|(simp[go_sem];done),cZ,at_⟩)
      | skip
    ·rw[if_pos he]at g2;subst g2;repeat' first|simp (disch:=omega) only[go_sem,aB,aC,aD,hx0,hy0]|refine au ?_|refine aq ?_ ?_<;>intro hw<;>try omega|fail
     all_goals first|exact oU rfl|exact a_|skip
   ·rw[Jv i hi (by omega)]at g2;clear hc bR kT Jv Jw;repeat' first|simp (disch:=omega) only[go_sem,aB,aC,aD,hx0]|refine au ?_|refine aq ?_ ?_<;>intro hw<;>try omega|fail
    all_goals first|exact oU g2.symm|exact a_|skip
  ·by_cases hj:i<b.length
   ·rw[Jw i (by omega) hj]at g2;clear hc bR kT Jv Jw;repeat' first|refine au ?_|refine aq ?_ ?_<;>intro hw<;>try omega|fail
    all_goals first|exact oU g2.symm|exact a_|skip
   ·rw[kT i (by omega) (by omega)]at g2;clear hc bR kT Jv Jw;repeat' first|refine au ?_|refine aq ?_ ?_<;>intro hw<;>try omega|fail
    all_goals first|exact oU g2.symm|exact a_|skip
 simp only[aW]at c ⊢;refine aR Hh ?_;intro Q aB aC aD;repeat' first|refine au ?_|refine eZ c ?_|refine aq ?_ ?_<;>intro hw<;>try omega|fail
 all_goals first|exact oU rfl|exact a_|skip
def yT (fn : FuncId) (cap : List AV) (hcap : AV.cg cap = true) (p : List aL -> Bool) (l : List (List aL)) (h : ∀ k, k < l.length -> aM aH fn (aW (l.getD k default) :: cap) (.bool (p (l.getD k default)))) (hl : l.length <= 2 ^ 62) :
    aM aH 84 [dU l,.fn (.func fn) [] cap] (I (kr p l)):=by
 refine aR wE ?_ (by simp[AV.dz,AV.cg,hcap]);intro Q aB aC aD;simp only[dU];repeat' first|refine au ?_|refine aq ?_ ?_<;>intro hw<;>try omega|fail
 with_reducible refine bE [4,5,8,9,10,11,12,13,14,15,16,17,18] (fun i:Nat=>[(8,I i)]) (fun _=>[]) (fun i=>i<=l.length/\ ∀ k,k<i->p (l.getD k default)=false) (fun i=>l.length-i) (0) ?_ ?_ ?_ ?_
 ·simp
 ·rfl
 ·exact at_
 ·rintro i r ⟨hi,hp⟩;by_cases hin:i<l.length
  ·have hx:=h i hin;simp only[aW]at hx;repeat' first|refine au ?_|refine aq ?_ ?_<;>intro hw<;>try omega|fail
   ·refine aU ?_ rfl;refine congrArg I ?_;exact(pO hin hp hw).symm
   ·refine⟨i+1,?_,?_,by first|rfl|(simp[go_sem];done),cZ,at_⟩<;>(try dsimp only)
    ·exact⟨by omega,bQ hp hw⟩
    ·omega
  ·repeat' first|refine au ?_|refine aq ?_ ?_<;>intro hw<;>try omega|fail
   refine aU ?_ rfl;refine congrArg I ?_;exact(mH fun k hk=>hp k (by omega)).symm
def pF (fn : FuncId) (cap : List AV) (hcap : AV.cg cap = true) (p : List aL -> Bool) (l : List (List aL)) (h : ∀ k, k < l.length -> aM aH fn (aW (l.getD k default) :: cap) (.bool (p (l.getD k default)))) (hl : l.length <= 2 ^ 62) :
    aM aH 50 [dU l,.fn (.func fn) [] cap] (.bool (l.any p)):=by
 refine aR uH ?_ (by simp[AV.dz,AV.cg,hcap]);intro Q aB aC aD;have hc:=yT fn cap hcap p l h hl;repeat' first|refine au ?_|refine aq ?_ ?_<;>intro hw<;>try omega|fail
 all_goals refine aU ?_ rfl
 all_goals rw[<-vq]
def Qu(r:List aL)(rows:List (List aL))(h0:0<rows.length)(hr:r.length<=2 ^ 60)(hr0:(rows.getD 0 default).length<=2 ^ 60): aM aH 120 [aW r,.eK ⟨false,1⟩ (dU rows) 0] (.bool (!(fO (fun a b=>a==b) r (rows.getD 0 default)))):=by
 have c:=qN r (rows.getD 0 default) hr hr0;generalize fO (fun a b=>a==b) r (rows.getD 0 default)=B at *;obtain⟨y,hy⟩:∃ y,rows.getD 0 default=y:=⟨_,rfl⟩;rw[hy]at c;simp only[dU,aW]at c ⊢;refine aR IW ?_;intro Q aB aC aD;repeat' first|simp (disch:=omega) only[go_sem,aB,aC,aD,hy,aW]|refine au ?_|refine eZ c ?_|refine aq ?_ ?_<;>intro hw<;>try omega|fail
 all_goals first|exact uA rfl rfl|exact a_|skip
def V6(rows:List (List aL))(hr:rows.length<=2 ^ 30)(hw:∀ a ∈ rows,a.length<=2 ^ 30): aM aH 74 [dU rows] (.bool (A2 rows)):=by
 have c:=pF 120 [.eK ⟨false,1⟩ (dU rows) 0] (by simp[AV.cg,AV.dz]) (fun r=> !(fO (fun a b=>a==b) r (rows.getD 0 default))) rows (fun k hk=>Qu _ rows (by omega) (by have:=hw _ (bn hk);omega) (by have:=hw _ (bn (i:=0) (l:=rows) (by omega));omega)) (by omega);have hu:(rows.any fun r=> !(fO (fun a b=>a==b) r (rows.getD 0 default)))=A2 rows:=rfl;rw[hu]at c;generalize A2 rows=B at *;refine aR Ns ?_;intro Q aB aC aD;simp only[dU]at c ⊢;repeat' first|refine au ?_|refine F9 c ?_|refine aq ?_ ?_<;>intro hw<;>try omega|fail
 all_goals first|exact uA rfl rfl|exact a_|skip
def Gr(v:aL)(r:List aL)(m:aL): pC (v::r) m=pC r (if iM v m<0 then v else m):=rfl
def Jx(v:aL)(r:List aL)(m:aL): uw (v::r) m=uw r (if 0<iM v m then v else m):=rfl
def Cn(m:aL)(l:List aL)(hl:l.length<=2 ^ 30): aM aH 165 [aW (m::l),.fn (.func 118) [] []] (bX (pC l m)):=by
 have hc:=nq;obtain⟨L,hL⟩:∃ L,m::l=L:=⟨_,rfl⟩;have hlen:L.length=l.length+1:=by rw[<-hL];rfl
 have h0:L.getD 0 default=m:=by rw[<-hL];rfl
 have hd:L.drop 1=l:=by rw[<-hL];rfl
 obtain⟨R,hR⟩:∃ R,pC l m=R:=⟨_,rfl⟩;rw[hR,hL];simp only[aW];refine aR yN ?_;intro Q aB aC aD;repeat' first|simp (disch:=omega) only[go_sem,aB,aC,aD,h0]|refine au ?_|refine aq ?_ ?_<;>intro hw<;>try omega|fail
 with_reducible refine bE [6,14,15,16,17,18,19,20,21,22,23,24,25,26,27,28,29,30,31] (fun q:Nat × aL=>[(6,I q.1)]) (fun q=>[.cells [I 0,I 0,.str []],.cells [I q.2.kind,I q.2.n,.str q.2.s]]) (fun q=>1<=q.1/\q.1<=L.length/\pC (L.drop q.1) q.2=R) (fun q=>L.length-q.1) (1,m) ?_ ?_ ?_ ?_
 ·exact⟨by simp,by dsimp only;omega,by dsimp only;rw[hd];exact hR⟩
 ·rfl
 ·exact at_
 rintro⟨i,b⟩ u ⟨g1,g2,g3⟩;dsimp only at g1 g2 g3;by_cases hi:i<L.length
 ·rw[jW hi,Gr]at g3;obtain⟨v,hv⟩:∃ v,L.getD i default=v:=⟨_,rfl⟩;rw[hv]at g3;have c:=hc v b;generalize iM v b=n at *;clear hc;simp only[gi]at c;by_cases hn:n<0
  ·rw[if_pos hn]at g3;repeat' first|simp (disch:=omega) only[go_sem,aB,aC,aD,hv]|refine au ?_|refine eZ c ?_|refine aq ?_ ?_<;>intro hw<;>try omega|fail
   all_goals first
    | exact a_
    | (refine ⟨(i + 1, v), ?_, ?_, by first | rfl | (simp [go_sem]; done), cZ, at_⟩ <;> (try dsimp only)
       ·exact⟨by omega,by omega,g3⟩
       ·omega)
    | skip
  ·rw[if_neg hn]at g3;repeat' first|simp (disch:=omega) only[go_sem,aB,aC,aD,hv]|refine au ?_|refine eZ c ?_|refine aq ?_ ?_<;>intro hw<;>try omega|fail
   all_goals first
    | exact a_
    | (refine ⟨(i + 1, b), ?_, ?_, by first | rfl | (simp [go_sem]; done), cZ, at_⟩ <;> (try dsimp only)
       ·exact⟨by omega,by omega,g3⟩
       ·omega)
    | skip
 ·rw[bK (by omega)]at g3;have g3:b=R:=g3;subst g3;clear hc;repeat' first|refine au ?_|refine aq ?_ ?_<;>intro hw<;>try omega|fail
  all_goals first|exact aU rfl rfl|exact a_|skip
def Co(m:aL)(l:List aL)(hl:l.length<=2 ^ 30): aM aH 166 [aW (m::l),.fn (.func 118) [] []] (bX (uw l m)):=by
 have hc:=nq;obtain⟨L,hL⟩:∃ L,m::l=L:=⟨_,rfl⟩;have hlen:L.length=l.length+1:=by rw[<-hL];rfl
 have h0:L.getD 0 default=m:=by rw[<-hL];rfl
 have hd:L.drop 1=l:=by rw[<-hL];rfl
 obtain⟨R,hR⟩:∃ R,uw l m=R:=⟨_,rfl⟩;rw[hR,hL];simp only[aW];refine aR yO ?_;intro Q aB aC aD;repeat' first|simp (disch:=omega) only[go_sem,aB,aC,aD,h0]|refine au ?_|refine aq ?_ ?_<;>intro hw<;>try omega|fail
 with_reducible refine bE [6,14,15,16,17,18,19,20,21,22,23,24,25,26,27,28,29,30,31] (fun q:Nat × aL=>[(6,I q.1)]) (fun q=>[.cells [I 0,I 0,.str []],.cells [I q.2.kind,I q.2.n,.str q.2.s]]) (fun q=>1<=q.1/\q.1<=L.length/\uw (L.drop q.1) q.2=R) (fun q=>L.length-q.1) (1,m) ?_ ?_ ?_ ?_
 ·exact⟨by simp,by dsimp only;omega,by dsimp only;rw[hd];exact hR⟩
 ·rfl
 ·exact at_
 rintro⟨i,b⟩ u ⟨g1,g2,g3⟩;dsimp only at g1 g2 g3;by_cases hi:i<L.length
 ·rw[jW hi,Jx]at g3;obtain⟨v,hv⟩:∃ v,L.getD i default=v:=⟨_,rfl⟩;rw[hv]at g3;have c:=hc v b;generalize iM v b=n at *;clear hc;simp only[gi]at c;by_cases hn:0<n
  ·rw[if_pos hn]at g3;repeat' first|simp (disch:=omega) only[go_sem,aB,aC,aD,hv]|refine au ?_|refine eZ c ?_|refine aq ?_ ?_<;>intro hw<;>try omega|fail
   all_goals first
    | exact a_
    | (refine ⟨(i + 1, v), ?_, ?_, by first | rfl | (simp [go_sem]; done), cZ, at_⟩ <;> (try dsimp only)
       ·exact⟨by omega,by omega,g3⟩
       ·omega)
    | skip
  ·rw[if_neg hn]at g3;repeat' first|simp (disch:=omega) only[go_sem,aB,aC,aD,hv]|refine au ?_|refine eZ c ?_|refine aq ?_ ?_<;>intro hw<;>try omega|fail
   all_goals first
    | exact a_
    | (refine ⟨(i + 1, b), ?_, ?_, by first | rfl | (simp [go_sem]; done), cZ, at_⟩ <;> (try dsimp only)
       ·exact⟨by omega,by omega,g3⟩
       ·omega)
    | skip
 ·rw[bK (by omega)]at g3;have g3:b=R:=g3;subst g3;clear hc;repeat' first|refine au ?_|refine aq ?_ ?_<;>intro hw<;>try omega|fail
  all_goals first|exact aU rfl rfl|exact a_|skip
def tD{σ : ae}{v:aL}{e:Int}{r:iW}(h1:valOf r=v)(h2:oS r=e): ∃ r0,Out.ret (oneOf [.agg [I v.kind,I v.n,.str v.s],I e])=Out.ret r0/\View σ r0 (zX r):=by
 have:AV.bH [bX v,I e]=zX r:=by
  cases r with
  | ok w=>rw[Bb];rw[<-h1,<-h2];rfl
  | err e'=>rw[sO];rw[<-h1,<-h2];rfl
 rw[<-this];exact bx rfl rfl
def EM (v : aL) (r : List aL) (n : Int) : zV (v :: r) n = match jR (n + v.n) with
    | .err e=> .err e
    | .ok w=>zV r w.n:=rfl
def Cp(n:Int): (jR n = .ok ⟨1,n,[]⟩/\ku n)\/jR n = .err 15:=by
 unfold jR;split
 ·rename_i h;exact .inl ⟨rfl,h⟩
 ·exact .inr rfl
def adE(l:List aL)(hl:l.length<=2 ^ 30)(hr:∀ v ∈ l,ku v.n): aM aH 164 [aW l] (zX (if l=[]then .ok v0 else zV l 0)):=by
 have hc:=fun n (hn:ku n) k (hk:k<l.length)=>Qf n (l.getD k default).n hn (hr _ (bn hk));clear hr;by_cases h0:l=[]
 ·subst h0;rw[if_pos rfl];simp only[aW];refine aR IZ ?_;intro Q aB aC aD;repeat' first|refine au ?_|refine aq ?_ ?_<;>intro hw<;>try omega|fail
  all_goals first|exact tD (v:=v0) (r:= .ok v0) rfl rfl|exact a_|skip
 rw[if_neg h0];have hpos:0<l.length:=ik.2 h0;obtain⟨R,hR⟩:∃ R,zV l 0=R:=⟨_,rfl⟩;rw[hR];simp only[aW];refine aR IZ ?_;intro Q aB aC aD;repeat' first|refine au ?_|refine aq ?_ ?_<;>intro hw<;>try omega|fail
 with_reducible refine bE [3,4,6,7,14,15,16,17,18,19,20,21,22,23,24,25,26,27,28,29] (fun q:(Nat × Int) × List bj=>[(4,I q.1.2),(14,I q.1.1)]) (fun q=> .cells [I 0,I 0,.str []]::q.2) (fun q=>q.1.1<=l.length/\ku q.1.2/\zV (l.drop q.1.1) q.1.2=R) (fun q=>l.length-q.1.1) ((0,0),[]) ?_ ?_ ?_ ?_
 ·exact⟨by simp,by dsimp only;unfold ku;omega,hR⟩
 ·rfl
 ·exact at_
 rintro⟨⟨i,n⟩,τ⟩ u ⟨g1,g2,g3⟩;dsimp only at g1 g2 g3;clear hR;by_cases hi:i<l.length
 ·rw[jW hi,EM]at g3;have c:=hc n g2 i hi;obtain⟨v,hv⟩:∃ v,l.getD i default=v:=⟨_,rfl⟩;rw[hv]at g3 c;clear hc;rcases Cp (n+v.n)with ⟨e,hrg⟩|e
  ·rw[e]at g3 c;dsimp only at g3;have e1:numOf (.ok ⟨1,n+v.n,[]⟩)=n+v.n:=rfl;have e2:oS (.ok ⟨1,n+v.n,[]⟩)=0:=rfl;rw[e1,e2]at c;repeat' first|simp (disch:=omega) only[go_sem,aB,aC,aD,hv]|refine au ?_|refine eZ c ?_|refine aq ?_ ?_<;>intro hw<;>try omega|fail
   all_goals first
    | exact a_
    |(refine⟨((i+1,n+v.n),τ++[.cells [I v.kind,I v.n,.str v.s]]),⟨by dsimp only;omega,hrg,g3⟩,by dsimp only;omega,by first|rfl|(simp[go_sem];done),cZ,at_⟩)
    | skip
  ·rw[e]at g3 c;dsimp only at g3;subst g3;have e1:numOf (.err 15)=0:=rfl;have e2:oS (.err 15)=15:=rfl;rw[e1,e2]at c;repeat' first|simp (disch:=omega) only[go_sem,aB,aC,aD,hv]|refine au ?_|refine eZ c ?_|refine aq ?_ ?_<;>intro hw<;>try omega|fail
   all_goals first|exact tD (v:=v0) (r:= .err 15) rfl rfl|exact a_|skip
 ·rw[bK (by omega)]at g3;have g3:iW.ok ⟨1,n,[]⟩=R:=g3;subst g3;clear hc;repeat' first|refine au ?_|refine aq ?_ ?_<;>intro hw<;>try omega|fail
  all_goals first|exact tD (v:=⟨1,n,[]⟩) (r:= .ok ⟨1,n,[]⟩) rfl rfl|exact a_|skip
