/- Part. -/
import Derived.Test.YthakfmmgnjpmdaaGreatDoorW24
set_option linter.all false
set_option maxHeartbeats 2000000
namespace Go.Proofs.YthakfmmgnjpmdaaGreatDoor
open Go.AM
set_option maxRecDepth 4000
def CP(t:Test): aO:=if t.lo then [93]else [91]
def wU(t:Test): aO:=if t.hi then [91]else [93]
def testW(t:Test): aO:=if t.kind=1 then kS t.a 4 else if t.kind=6 then CP t++kS t.a 4++[46,46]++kS t.b 4++wU t else kf t.kind++[32]++kS t.a 4
def pX(t:Test): Bool:=ow t.a ||(decide (t.kind=6) && ow t.b)
def wK: aO:=[44,32]
def sr(l:List Test): aO:=Lib.join (l.map testW) wK
def yx(n:Bool)(s:aO): aO:=if n then [110,111,116,40]++s++[41]else s
def n8(c:Cell): aO × Int:=if gP c=false then([],2)else if c.any=true then([45],0)else if c.tests.any pX=true then([],5)
 else if 200<(yx c.neg (sr c.tests)).length then([],5)else (yx c.neg (sr c.tests),0)
def uj(t:Test): Prop:=(ig t.a/\fW t.a<=2 ^ 30)/\ig t.b/\fW t.b<=2 ^ 30
def oA(c:Cell): Prop:=c.tests.length<=2 ^ 30/\ ∀ t ∈ c.tests,uj t
def oA.ok{c:Cell}(h:oA c): Mf c:=⟨by have:=h.1;omega,fun t ht=>by
 obtain⟨⟨a,b⟩,c,d⟩:=h.2 t ht;exact⟨⟨a,by omega⟩,c,by omega⟩⟩
def afb{x:Expr}(h:cq x=true): ef x.op<4↔8<=x.op/\x.op<=16:=by
 obtain⟨op,v,s,l⟩:=x;rcases mI h with⟨rfl,_⟩|⟨rfl,_⟩|⟨rfl,_⟩|⟨rfl,_⟩|⟨_,_,_,_,_,_,h1,h2,h3,_⟩
 ·show ef 1<4↔8<=(1:Int)/\(1:Int)<=16;decide
 ·show ef 2<4↔8<=(2:Int)/\(2:Int)<=16;decide
 ·show ef 3<4↔8<=(3:Int)/\(3:Int)<=16;decide
 ·show ef 16<4↔8<=(16:Int)/\(16:Int)<=16;decide
 ·show ef op<4↔8<=op/\op<=16;rw[h1];generalize cn op=b at *;simp only[jh,List.mem_cons,List.not_mem_nil,or_false]at h3;rcases h3 with rfl|rfl|rfl|rfl|rfl|rfl|rfl|rfl|rfl|rfl|rfl|rfl<;>(dsimp only at h2 ⊢;omega)
def X4{x:Expr}(h:nJ x=true): cq x=true/\nK x=if ow x=true then([],5)else (dR x,0):=by
 simp only[nJ,aj,decide_eq_true_eq]at h;refine⟨h.1,?_⟩;unfold nK;rw[if_neg (by simp[h.1]),if_neg (by omega)]
def wk{x:Expr}(h:ow x=false)(lv:Int): (kS x lv).length<=202:=by
 simp only[ow,decide_eq_false_iff_not]at h;have:=Jg (ef x.op,dR x) lv;dsimp only at this;unfold kS;omega
def Jh(x:Expr)(hp:nJ x=true)(hx:ig x)(hz:fW x<=2 ^ 30): aM aH 88 [aT x] (.bH [.str (if ow x=true then []else kS x 4),I (if ow x=true then 5 else 0)]):=by
 obtain⟨hr,ht⟩:=X4 hp;have h1:=Gg x hx hz;have h4:=afb hr;have X5:=fun h=>wk (x:=x) h 4;rw[ht]at h1;cases hb:ow x with
 | true =>
   rw[hb]at h1;simp only[if_true]at h1 ⊢;rw[bq]at h1 ⊢;refine aR wF ?_;intro Q aB aC aD;repeat' first|refine au ?_|refine aq ?_ ?_<;>intro hw<;>try omega|fail
   all_goals exact bx rfl rfl
 | false =>
   have X5:=X5 hb;rw[hb]at h1;simp only[aG,if_false]at h1 ⊢;by_cases hl:ef x.op<4
   ·have ho:=h4.1 hl;rw[PO hl]at X5 ⊢;rw[List.length_cons,List.length_append]at X5;generalize dR x=t at *;rw[bq]at h1 ⊢;refine aR wF ?_;intro Q aB aC aD;repeat' first|refine au ?_|refine aq ?_ ?_<;>intro hw<;>try omega|fail
    all_goals first|(refine bx ?_ rfl;simp;done)|exact a_
   ·have ho:¬ (8<=x.op/\x.op<=16):=fun h=>hl (h4.2 h);rw[Hu hl]at X5 ⊢;generalize dR x=t at *;rw[bq]at h1 ⊢;refine aR wF ?_;intro Q aB aC aD;repeat' first|refine au ?_|refine aq ?_ ?_<;>intro hw<;>try omega|fail
    all_goals first|(refine bx ?_ rfl;simp;done)|exact a_
def RR{t:Test}(h:jH t=true): nJ t.a=true/\1<=t.kind/\t.kind<=6/\(t.kind=6->nJ t.b=true):=by
 unfold jH at h;split at h
 ·rename_i h6;simp only[aj]at h;exact⟨h.1,by omega,by omega,fun _=>h.2⟩
 ·rename_i h6;simp only[aj,decide_eq_true_eq]at h;exact⟨h.1.1.1.2,h.1.1.1.1.1,by omega,fun h=>absurd h h6⟩
def Mk{t:Test}(h:pX t=false): (testW t).length<=420:=by
 simp only[pX,gQ,Bool.and_eq_false_iff,decide_eq_false_iff_not]at h;have ha:=wk h.1 4;have hs:(kf t.kind).length<=2:=by unfold kf;split;simp;split;simp;split;simp;split<;>simp
 unfold testW;split
 ·omega
 split
 ·rename_i h6;have hb:=wk (x:=t.b) (by rcases h.2 with h|h;exact absurd h6 h;exact h) 4;have l1:(CP t).length=1:=by unfold CP;split<;>rfl
  have l2:(wU t).length=1:=by unfold wU;split<;>rfl
  simp only[List.length_append,List.length_cons,List.length_nil];omega
 ·simp only[List.length_append,List.length_cons,List.length_nil];omega
def X6(t:Test)(hs:jH t=true)(h:uj t): aM aH 53 [dA t] (.bH [.str (if pX t=true then []else testW t),I (if pX t=true then 5 else 0)]):=by
 obtain⟨p1,k1,k6,p2⟩:=RR hs;have wa:=Jh t.a p1 h.1.1 h.1.2;have hsg:=Mg t.kind;have la:=fun hb=>wk (x:=t.a) hb 4;have lb:=fun hb=>wk (x:=t.b) hb 4;by_cases h6:t.kind=6
 ·have wb:=Jh t.b (p2 h6) h.2.1 h.2.2;have hW:testW t=CP t++kS t.a 4++[46,46]++kS t.b 4++wU t:=by unfold testW;rw[if_neg (by omega),if_pos h6]
  have hB:pX t=(ow t.a || ow t.b):=by unfold pX;rw[decide_eq_true h6,Bool.true_and]
  rw[hW,hB];unfold CP wU;clear hW hB p1 p2 hs;generalize kS t.a 4=ta at *;generalize kS t.b 4=tb at *;generalize ow t.a=ba at *;generalize ow t.b=bb at *;rw[bq]at wa wb;simp only[dA,dQ];cases ba<;>simp only[Bool.false_eq_true,if_false,if_true,Bool.true_or,Bool.false_or]at wa la ⊢
  ·have la:=la trivial;cases bb<;>simp only[Bool.false_eq_true,if_false,if_true]at wb lb ⊢
   ·have lb:=lb trivial;refine aR qD ?_;intro Q aB aC aD;repeat' first|refine au ?_|refine aq ?_ ?_<;>intro hw<;>try omega|fail
    all_goals first|(refine bx ?_ rfl;simp_all;done)|exact a_
   ·refine aR qD ?_;intro Q aB aC aD;repeat' first|refine au ?_|refine aq ?_ ?_<;>intro hw<;>try omega|fail
    all_goals first|(refine bx ?_ rfl;simp_all;done)|exact a_
  ·refine aR qD ?_;intro Q aB aC aD;repeat' first|refine au ?_|refine aq ?_ ?_<;>intro hw<;>try omega|fail
   all_goals first|(refine bx ?_ rfl;simp_all;done)|exact a_
 ·have hW:testW t=if t.kind=1 then kS t.a 4 else kf t.kind++[32]++kS t.a 4:=by unfold testW;rw[if_neg h6]
  have hB:pX t=ow t.a:=by unfold pX;rw[decide_eq_false h6,Bool.false_and,Bool.or_false]
  have hsl:(kf t.kind).length<=2:=by unfold kf;split;simp;split;simp;split;simp;split<;>simp
  rw[hW,hB];clear hW hB p1 p2 hs;generalize kS t.a 4=ta at *;generalize ow t.a=ba at *;generalize kf t.kind=sg at *;rw[bq]at wa;simp only[dA,dQ];cases ba<;>simp only[Bool.false_eq_true,if_false,if_true]at wa la ⊢
  ·have la:=la trivial;refine aR qD ?_;intro Q aB aC aD;repeat' first|refine au ?_|refine aq ?_ ?_<;>intro hw<;>try omega|fail
   all_goals first|(refine bx ?_ rfl;simp_all;done)|exact a_
  ·refine aR qD ?_;intro Q aB aC aD;repeat' first|refine au ?_|refine aq ?_ ?_<;>intro hw<;>try omega|fail
   all_goals first|(refine bx ?_ rfl;simp_all;done)|exact a_
def Ef{sep:aO}{B:Nat}: ∀(r:List aO),(∀ x ∈ r,x.length<=B)->(Lib.joinTail sep r).length<=r.length*(B+sep.length)
 | [],_=>by simp[Lib.joinTail]
 | x :: r, h => by
   have h1:=h x (by simp);have h2:=Ef (sep:=sep) r (fun y hy=>h y (bJ _ hy));have e:Lib.joinTail sep (x::r)=sep++x++Lib.joinTail sep r:=by simp[Lib.joinTail]
   rw[e,List.length_append,List.length_append,List.length_cons,bC];omega
def aaF{sep:aO}{B:Nat}(l:List aO)(h:∀ x ∈ l,x.length<=B): (Lib.join l sep).length<=l.length*(B+sep.length):=by
 cases l with
 | nil=>simp[Lib.join_nil]
 | cons x r =>
   have h1:=h x (by simp);have h2:=Ef (sep:=sep) r (fun y hy=>h y (bJ _ hy));rw[Lib.join_cons,List.length_append,List.length_cons,bC];omega
def afc{l:List Test}{i:Nat}(h:i<l.length): (l.map testW).take (i+1)=(l.map testW).take i++[testW (l.getD i default)]:=by
 rw[List.take_succ_eq_append_getElem (by simpa using h)];simp[h]
def adh{l:List Test}{n:Nat}(h:∀ k,k<n->k<l.length->pX (l.getD k default)=false): ∀ x ∈ (l.map testW).take n,x.length<=420:=by
 intro x hx;obtain⟨k,hk,rfl⟩:=bP hx;simp only[List.length_take,List.length_map]at hk;have:=Mk (h k (by omega) (by omega));have e:l.getD k default=l[k]'(by omega):=by simp[ai,show k<l.length by omega]
 rw[e]at this;simpa using this
def X7(c:Cell)(h:oA c): aM aH 26 [dG c] (.bH [.str (n8 c).1,I (n8 c).2]):=by
 have PW:=xu c h.ok
 have hT:n8 c=if gP c=false then([],2)else if c.any=true then([45],0)else if c.tests.any pX=true then([],5)
  else if 200<(yx c.neg (sr c.tests)).length then([],5)else (yx c.neg (sr c.tests),0):=rfl
 rw[hT];clear hT;cases hr:gP c with
 | false =>
   rw[hr]at PW;simp only[ie,aG,if_false]at PW;rw[if_pos rfl];simp only[dG,jj]at PW ⊢;refine aR yd ?_;intro Q aB aC aD;repeat' first|refine au ?_|refine aq ?_ ?_<;>intro hw<;>try omega|fail
   all_goals exact bx rfl rfl
 | true =>
   rw[hr]at PW;simp only[ie,if_true]at PW;rw[if_neg (by simp)];cases ha:c.any with
   | true =>
     rw[if_pos rfl];simp only[dG,jj,ha]at PW ⊢;refine aR yd ?_;intro Q aB aC aD;repeat' first|refine au ?_|refine aq ?_ ?_<;>intro hw<;>try omega|fail
     all_goals exact bx rfl rfl
   | false =>
     rw[if_neg (by simp)];have sS:=hr;unfold gP at sS;rw[if_neg (by simp[ha])]at sS;simp only[aj,decide_eq_true_eq,cy,iQ]at sS;obtain⟨⟨l1,l12⟩,Tj⟩:=sS;have Tj:∀ t ∈ c.tests,jH t=true:=fun t ht=>by have:=Tj t ht;simpa using this
     simp only[dG,jj,ha]at PW ⊢;refine aR yd ?_;intro Q aB aC aD;repeat' first|refine au ?_|refine aq ?_ ?_<;>intro hw<;>try omega|fail
     with_reducible refine bE [2,3,5,7,8,9,21,22,23,24,25,26,27,28,29,30,31,32,33,34,35,36,37] (fun q:Nat × List bj=>[(21,I q.1),(5,.own E1 1 q.1 0 q.1)]) (fun q=> .cells [.bool false,.bool c.neg,.aN false ES (c.tests.map dA)]:: .vec E1 (((c.tests.map testW).take q.1).map gW)::q.2) (fun q=>q.1<=c.tests.length/\ ∀ k,k<q.1->pX (c.tests.getD k default)=false) (fun q=>c.tests.length-q.1) (0,[]) ?_ ?_ ?_ ?_
     ·simp
     ·simp
     ·exact at_
     rintro⟨i,τ⟩ r ⟨h1,h2⟩;dsimp only at h1 h2;by_cases hi:i<c.tests.length
     ·have hmem:=bn hi;have ht:=X6 _ (Tj _ hmem) (h.2 _ hmem);have uJ:=afc hi;have dV:=fun he=>bQ h2 (i:=i) he;have B7:=fun hb=>XB (p:=pX) hi hb;have hwl:=fun hb=>Mk (t:=c.tests.getD i default) hb;have hvl:((c.tests.map testW).take i).length=i:=by rw[List.length_take,List.length_map];omega
      generalize hVV:(c.tests.map testW).take i=V at *;obtain⟨t,Ht⟩:∃ t,c.tests.getD i default=t:=⟨_,rfl⟩;rw[Ht]at ht uJ dV B7 hwl;simp only[dA,dQ]at ht;generalize testW t=tw at *;cases hb:pX t with
      | true =>
        rw[hb]at ht;simp only[if_true]at ht;have B7:=B7 hb;simp only[B7,if_true]at aB aC aD;repeat' first|simp (disch:=omega) only[go_sem,aB,aC,aD,Ht]|refine au ?_|refine aq ?_ ?_<;>intro hw<;>try omega|fail
        all_goals first|exact bx rfl rfl|exact a_
      | false =>
        rw[hb]at ht;simp only[aG,if_false]at ht;have dV:=dV hb;repeat' first|simp (disch:=omega) only[go_sem,aB,aC,aD,Ht,hvl]|refine au ?_|refine aq ?_ ?_<;>intro hw<;>try omega|fail
        all_goals first
         | (refine ⟨(i + 1, τ ++ [.cells [I t.kind, I t.a.op, I t.a.v.kind, I t.a.v.n, .str t.a.v.s, .str t.a.s, .aN false EX (t.a.l.map aT), I t.b.op, I t.b.v.kind, I t.b.v.n, .str t.b.v.s, .str t.b.s, .aN false EX (t.b.l.map aT), .bool t.lo, .bool t.hi]]), ?_, ?_, ?_, cZ, at_⟩ <;> (try dsimp only)
            ·exact⟨by omega,dV⟩
            ·omega
            all_goals (rw[uJ];simp[gW]))
         | exact a_
     ·have y3:(c.tests.map testW).take i=c.tests.map testW:=b_ (by simp;omega);have SL:i=c.tests.length:=by omega
      have hnb:c.tests.any pX=false:=S0 (p:=pX) (fun k hk=>h2 k (by omega));have hws:=adh (l:=c.tests) (n:=i) (fun k hk _=>h2 k hk);rw[y3]at hws ⊢;have rD:=aaF (sep:=wK) _ hws;rw[List.length_map]at rD;have hj:=strings_Join (c.tests.map testW) wK (by simp;omega) (by simp only[wK,List.length_cons,List.length_nil]at rD;have:c.tests.length*(420+(0+1+1))<=12*422:=Nat.mul_le_mul l12 (Nat.le_refl _);unfold wK;omega)
      have aiG:(Lib.join (c.tests.map testW) wK).length<=12*422:=by
       simp only[wK,List.length_cons,List.length_nil]at rD;have:c.tests.length*(420+(0+1+1))<=12*422:=Nat.mul_le_mul l12 (Nat.le_refl _);unfold wK;omega
      have hlw:(c.tests.map testW).length=i:=by rw[List.length_map];omega
      simp only[hnb,aG,if_false,sr]at aB aC aD;clear rD;obtain⟨J,hJ⟩:∃ J,Lib.join (c.tests.map testW) wK=J:=⟨_,rfl⟩;rw[hJ]at hj aiG;simp only[hJ]at aB aC aD;clear hJ;simp only[lC,wK]at hj;have hvw:∀ σ : ae,σ[1]? = some (.vec E1 ((c.tests.map testW).map gW))->bN σ [.own E1 1 i 0 i,.str [44,32]] [.aN false E1 ((c.tests.map testW).map gW),.str [44,32]]:=fun σ gO=> .cons (View.vec gO (by rw[List.length_map,hlw]) (by rw[List.length_map,hlw]) (Pd _)) (.cons (.refl _ rfl) (.nil _));cases hn:c.neg with
      | true =>
        simp only[hn,yx,if_true]at aB aC aD;by_cases hbig:200<([110,111,116,40]++J++[41]:aO).length
        ·simp only[if_pos hbig]at aB aC aD;simp only[List.length_append,List.length_cons,List.length_nil]at hbig;repeat' first|refine au ?_|(with_reducible refine xG hj (hvw _ rfl) rfl ?_)|refine aq ?_ ?_<;>intro hw<;>try omega|fail
         all_goals first|exact bx rfl rfl|exact a_
        ·simp only[if_neg hbig]at aB aC aD;simp only[List.length_append,List.length_cons,List.length_nil]at hbig;repeat' first|refine au ?_|(with_reducible refine xG hj (hvw _ rfl) rfl ?_)|refine aq ?_ ?_<;>intro hw<;>try omega|fail
         all_goals first|(refine bx ?_ rfl;simp;done)|exact a_
      | false =>
        simp only[hn,yx,aG,if_false]at aB aC aD;by_cases hbig:200<J.length
        ·simp only[if_pos hbig]at aB aC aD;repeat' first|refine au ?_|(with_reducible refine xG hj (hvw _ rfl) rfl ?_)|refine aq ?_ ?_<;>intro hw<;>try omega|fail
         all_goals first|exact bx rfl rfl|exact a_
        ·simp only[if_neg hbig]at aB aC aD;repeat' first|refine au ?_|(with_reducible refine xG hj (hvw _ rfl) rfl ?_)|refine aq ?_ ?_<;>intro hw<;>try omega|fail
         all_goals first|exact bx rfl rfl|exact a_
def wL (fn : FuncId) (cap : List AV) (hcap : AV.cg cap = true) (p : cN -> Bool) (l : List cN) (h : ∀ k, k < l.length -> aM aH fn (ew (l.getD k default) :: cap) (.bool (p (l.getD k default)))) (hl : l.length <= 2 ^ 62) :
    aM aH 103 [bV l,.fn (.func fn) [] cap] (.bool (l.any p)):=by
 refine aR uI ?_ (by simp[AV.dz,AV.cg,hcap,kz]);intro Q aB aC aD;have hc:=rF fn cap hcap p l h hl;simp only[bV]at hc;repeat' first|refine au ?_|refine aq ?_ ?_<;>intro hw<;>try omega|fail
 all_goals refine aU ?_ rfl
 all_goals rw[<-vq]
def KJ(v u:aL): (v==u)=((v.kind==u.kind) && (v.n==u.n) && (v.s==u.s)):=by
 obtain⟨a,b,c⟩:=v;obtain⟨d,e,f⟩:=u;rw[cG];simp[and_assoc]
def qM(l:List aL)(v:aL)(hl:l.length<=2 ^ 60): aM aH 142 [aW l,bX v] (I (kr (fun x=>x==v) l)):=by
 simp only[aW,bX];refine aR Ax ?_;intro Q aB aC aD;repeat' first|refine au ?_|refine aq ?_ ?_<;>intro hw<;>try omega|fail
 with_reducible refine bE [4,5,8,9,10,11,12,13,14,15,16,17,18] (fun i:Nat=>[(8,I i)]) (fun _=>[.cells [I v.kind,I v.n,.str v.s]]) (fun i=>i<=l.length/\ ∀ k,k<i->(l.getD k default==v)=false) (fun i=>l.length-i) (0) ?_ ?_ ?_ ?_
 ·simp
 ·rfl
 ·exact at_
 rintro i r ⟨h1,h2⟩;by_cases hi:i<l.length
 ·obtain⟨u,hu⟩:∃ u,l.getD i default=u:=⟨_,rfl⟩;have hb:=KJ u v;repeat' first|simp (disch:=omega) only[go_sem,aB,aC,aD,hu]|refine au ?_|refine aq ?_ ?_<;>intro hw<;>try omega|fail
  ·refine aU ?_ rfl;refine congrArg I ?_;exact(pO (p:=fun x=>x==v) hi h2 (by rw[hu,hb];simp_all)).symm
  ·refine⟨i+1,?_,?_,by first|rfl|(simp[go_sem];done),cZ,at_⟩<;>(try dsimp only)
   ·exact⟨by omega,bQ h2 (by rw[hu,hb,<-Bool.not_eq_true];simp only[<-Bool.not_eq_true,aj,beq_iff_eq,not_and]at hw ⊢;intro c;exact fun d=>hw ⟨c.1.symm,c.2.symm⟩ d.symm)⟩
   ·omega
 ·repeat' first|refine au ?_|refine aq ?_ ?_<;>intro hw<;>try omega|fail
  refine aU ?_ rfl;refine congrArg I ?_;exact(mH (p:=fun x=>x==v) fun k hk=>h2 k (by omega)).symm
def qN(l m:List aL)(hl:l.length<=2 ^ 60)(hm:m.length<=2 ^ 60): aM aH 28 [aW l,aW m] (.bool (fO (fun a b=>a==b) l m)):=by
 simp only[aW];refine aR As ?_;intro Q aB aC aD;repeat' first|refine au ?_|refine aq ?_ ?_<;>intro hw<;>try omega|fail
 ·refine aU ?_ rfl;rw[s_ (by omega)]
 have wc:l.length=m.length:=by omega
 with_reducible refine bE [4,5,13,14,15,16,17,18,19,20,21,22,23,24,25] (fun i:Nat=>[(13,I i)]) (fun _=>[]) (fun i=>i<=l.length/\ ∀ k,k<i->(l.getD k default==m.getD k default)=true) (fun i=>l.length-i) (0) ?_ ?_ ?_ ?_
 ·simp
 ·rfl
 ·exact at_
 rintro i r ⟨h1,h2⟩;by_cases hi:i<l.length
 ·have hb:=KJ (l.getD i default) (m.getD i default);repeat' first|refine au ?_|refine aq ?_ ?_<;>intro hw<;>try omega|fail
  ·refine aU ?_ rfl;rw[v8 (p:=fun a b=>a==b) hi (by rw[hb,<-Bool.not_eq_true];simp_all) (by omega)]
  ·refine⟨i+1,?_,?_,by first|rfl|(simp[go_sem];done),cZ,at_⟩<;>(try dsimp only)
   ·exact⟨by omega,bQ h2 (by rw[hb];simp_all)⟩
   ·omega
 ·repeat' first|refine au ?_|refine aq ?_ ?_<;>intro hw<;>try omega|fail
  refine aU ?_ rfl;rw[td (p:=fun a b=>a==b) wc (fun k hk=>h2 k (by omega))]
def CQ(l m:List aL)(hl:l.length<=2 ^ 60)(hm:m.length<=2 ^ 60): aM aH 21 [aW l,aW m] (.bool (fO (fun a b=>a==b) l m)):=by
 simp only[aW];refine aR G7 ?_;intro Q aB aC aD;repeat' first|refine au ?_|refine aq ?_ ?_<;>intro hw<;>try omega|fail
 ·refine aU ?_ rfl;rw[s_ (by omega)]
 have wc:l.length=m.length:=by omega
 with_reducible refine bE [4,5,11,12,13,14,15,16,17,18,19,20,21,22,23,24,25] (fun i:Nat=>[(5,I i)]) (fun _=>[]) (fun i=>i<=l.length/\ ∀ k,k<i->(l.getD k default==m.getD k default)=true) (fun i=>l.length-i) (0) ?_ ?_ ?_ ?_
 ·simp
 ·rfl
 ·exact at_
 rintro i r ⟨h1,h2⟩;by_cases hi:i<l.length
 ·have hb:=KJ (l.getD i default) (m.getD i default);repeat' first|refine au ?_|refine aq ?_ ?_<;>intro hw<;>try omega|fail
  ·refine aU ?_ rfl;rw[v8 (p:=fun a b=>a==b) hi (by rw[hb,<-Bool.not_eq_true];simp_all) (by omega)]
  ·refine⟨i+1,?_,?_,by first|rfl|(simp[go_sem];done),cZ,at_⟩<;>(try dsimp only)
   ·exact⟨by omega,bQ h2 (by rw[hb];simp_all)⟩
   ·omega
 ·repeat' first|refine au ?_|refine aq ?_ ?_<;>intro hw<;>try omega|fail
  refine aU ?_ rfl;rw[td (p:=fun a b=>a==b) wc (fun k hk=>h2 k (by omega))]
def Hv(c:cN)(k:Nat): Bool:=br (c.order.getD k default) && decide ((c.order.getD k default).kind=c.kind) && decide (kr (fun x=>x==c.order.getD k default) c.order=k)
def pq(c:cN)(asked:Bool): Bool :=
 if asked then(List.range c.order.length).all (Hv c) && decide (1<=c.order.length/\c.order.length<=8)else decide (c.order.length=0)
def Fu(c:cN): Prop:=c.name.length<=2 ^ 62/\c.order.length<=2 ^ 60/\ ∀ v ∈ c.order,(-9223372036854775808<=v.n/\v.n<=9223372036854775807)/\v.s.length<=2 ^ 62
def Ml{c:cN}{i:Nat}(hi:i<c.order.length)(h:Hv c i=false): pq c true=false:=by
 unfold pq;rw[if_pos rfl]
 have:(List.range c.order.length).all (Hv c)=false:=by
  rw[List.all_eq_false];exact⟨i,by simpa using hi,by simp[h]⟩
 rw[this];rfl
def Vm{c:cN}(h:∀ k,k<c.order.length->Hv c k=true): pq c true=decide (1<=c.order.length/\c.order.length<=8):=by
 unfold pq;rw[if_pos rfl]
 have:(List.range c.order.length).all (Hv c)=true:=by
  rw[aV];intro k hk;exact h k (by simpa using hk)
 rw[this];rfl
def PX(c:cN)(b:Bool)(h:Fu c): aM aH 105 [ew c,.bool b] (.bool (pq c b)):=by
 obtain⟨_,hl,hv⟩:=h;simp only[ew,aW];cases b with
 | false =>
   have hS:pq c false=decide (c.order.length=0):=rfl;rw[hS];refine aR zc ?_;intro Q aB aC aD;repeat' first|refine au ?_|refine aq ?_ ?_<;>intro hw<;>try omega|fail
   refine aU ?_ rfl;refine congrArg AV.bool ?_;rw[cG];simp_all
 | true =>
   refine aR zc ?_;intro Q aB aC aD;repeat' first|refine au ?_|refine aq ?_ ?_<;>intro hw<;>try omega|fail
   with_reducible refine bE [4,5,6,16,17,18,19,20,21,22,23,24,25,26,27,28,29,30,31,32,33,34,35,36,37,38,39] (fun q:Nat × List bj=>[(16,I q.1)]) (fun q=> .cells [.str c.name,I c.kind,.aN false EV (c.order.map bX)]::q.2) (fun q=>q.1<=c.order.length/\ ∀ k,k<q.1->Hv c k=true) (fun q=>c.order.length-q.1) (0,[]) ?_ ?_ ?_ ?_
   ·simp
   ·rfl
   ·exact at_
   rintro⟨i,τ⟩ r ⟨h1,h2⟩;dsimp only at h1 h2;by_cases hi:i<c.order.length
   ·have hvi:=hv _ (bn hi);have hO:Hv c i=(br (c.order.getD i default) && decide ((c.order.getD i default).kind=c.kind) && decide (kr (fun x=>x==c.order.getD i default) c.order=i)):=rfl;obtain⟨v,aaG⟩:∃ v,c.order.getD i default=v:=⟨_,rfl⟩;rw[aaG]at hvi hO;have c1:=jM v.kind v.n v.s hvi.1.1 hvi.1.2;have c2:=qM c.order v hl;rw[show (⟨v.kind,v.n,v.s⟩:aL)=v from rfl]at c1;simp only[aW,bX]at c2;generalize kr (fun x=>x==v) c.order=ix at *;cases PY:br v;all_goals (rw[PY]at c1 hO;simp only[ie,aG,if_false,if_true]at c1)
    ·repeat' first|simp (disch:=omega) only[go_sem,aB,aC,aD,aaG]|refine au ?_|refine aq ?_ ?_<;>intro hw<;>try omega|fail
     all_goals (refine aU ?_ rfl;rw[Ml hi (by rw[hO];rfl)])
    ·repeat' first|simp (disch:=omega) only[go_sem,aB,aC,aD,aaG]|refine au ?_|refine aq ?_ ?_<;>intro hw<;>try omega|fail
     all_goals first
      |(refine aU ?_ rfl;rw[Ml hi (by rw[hO];simp_all;done)])
      | (refine ⟨(i + 1, τ ++ [.cells [I v.kind, I v.n, .str v.s]]), ?_, ?_, by first | rfl | (simp [go_sem]; done), cZ, at_⟩ <;> (try dsimp only)
         ·exact⟨by omega,bQ h2 (by rw[hO];simp_all)⟩
         ·omega)
   ·repeat' first|refine au ?_|refine aq ?_ ?_<;>intro hw<;>try omega|fail
    all_goals (refine aU ?_ rfl;rw[Vm (fun k hk=>h2 k (by omega))];refine congrArg AV.bool ?_;rw[cG];simp_all)
    all_goals (try omega)
def oB(l:List cN)(b:Bool): Int:=if mw l≠0 then mw l else if l.length=0\/(l.any fun c=> !(pq c b))=true then 17 else 0
def Hw(c:cN)(b:Bool)(h:Fu c): aM aH 104 [ew c,.eK E1 (.bool b) 0] (.bool (!(pq c b))):=by
 have h1:=PX c b h;simp only[ew,aW]at h1 ⊢;generalize pq c b=o at *;refine aR C1 ?_;intro Q aB aC aD;repeat' first|refine au ?_|refine aq ?_ ?_<;>intro hw<;>try omega|fail
 all_goals exact aU rfl rfl
def AU(l:List cN)(b:Bool)(hl:l.length<=2 ^ 60)(h:∀ c ∈ l,Fu c): aM aH 66 [bV l,.bool b] (I (oB l b)):=by
 have h1:=KG l (fun k hk=>(h _ (bn hk)).1);have h2:=wL 104 [.eK E1 (.bool b) 0] rfl (fun c=> !(pq c b)) l (fun k hk=>Hw _ b (h _ (bn hk))) (by omega);have hS:oB l b=if mw l≠0 then mw l else if l.length=0\/(l.any fun c=> !(pq c b))=true then 17 else 0:=rfl
 rw[hS];clear hS;simp only[bV]at h1 h2 ⊢;generalize (l.any fun c=> !(pq c b))=an at *;generalize mw l=cs at *;refine aR FP ?_;intro Q aB aC aD;repeat' first|refine au ?_|refine F9 h2 ?_|refine aq ?_ ?_<;>intro hw<;>try omega|fail
 all_goals (refine aU ?_ rfl;refine congrArg I ?_;simp_all[<-List.length_eq_zero_iff])
 all_goals (try omega)
def pR(t:Table): Bool :=
 if t.bZ<1\/6<t.bZ then false else if t.agg=0 then true
 else if t.bZ≠5\/t.agg<1\/4<t.agg\/t.outs.length≠1 then false
 else decide (t.agg=4\/(t.outs.getD 0 default).kind=1\/(t.outs.getD 0 default).kind=2/\t.agg≠1)
def jQ(t:Table): Int :=
 if jU t.name=false then 13 else if oB t.ins false≠0 then oB t.ins false
 else if oB t.outs (decide (t.bZ=3))≠0 then oB t.outs (decide (t.bZ=3))
 else if pR t=false then 17 else if 24<t.rules.length then 24 else 0
def oP(t:Table): Prop:=t.name.length<=2 ^ 30/\(t.ins.length<=2 ^ 30/\ ∀ c ∈ t.ins,Fu c)/\(t.outs.length<=2 ^ 30/\ ∀ c ∈ t.outs,Fu c) /\
 t.rules.length<=2 ^ 30/\ ∀ r ∈ t.rules,(r.cells.length<=2 ^ 30/\ ∀ s ∈ r.cells,s.length<=2 ^ 30)/\r.outs.length<=2 ^ 30/\ ∀ s ∈ r.outs,s.length<=2 ^ 30
def Ji{l:List cN}(h:mw l=0){i:Nat}(hi:i<l.length): 1<=(l.getD i default).kind/\(l.getD i default).kind<=3:=by
 by_cases h6:6<l.length
 ·unfold mw at h;rw[if_pos h6]at h;omega
 ·by_cases hc:∀ k,k<l.length->yn l k=0
  ·have:=hc i hi;unfold yn at this;split at this
   ·omega
   ·split at this
    ·omega
    ·omega
  ·exfalso;unfold mw at h;rw[if_neg h6]at h;split at h
   ·rename_i j hj;have:=eG hj;simp[h]at this
   ·rename_i hn;apply hc;intro k hk;have:=d_.1 hn k (by simpa using hk);simpa using this
def tu{l:List cN}{b:Bool}(h:oB l b=0): mw l=0/\0<l.length:=by
 unfold oB at h;split at h
 ·omega
 ·split at h
  ·omega
  ·rename_i h1 h2;refine⟨by omega,?_⟩;rcases Nat.eq_zero_or_pos l.length with h3|h3
   ·exact absurd (.inl h3) h2
   ·exact h3
def NH(t:Table)(ho:mw t.outs=0): aM aH 67 [dP t] (.bool (pR t)):=by
 have hk:=fun h=>Ji ho (i:=0) h;have hS:pR t=if t.bZ<1\/6<t.bZ then false else if t.agg=0 then true else if t.bZ≠5\/t.agg<1\/4<t.agg\/t.outs.length≠1 then false else decide (t.agg=4\/(t.outs.getD 0 default).kind=1\/(t.outs.getD 0 default).kind=2/\t.agg≠1):=rfl
 rw[hS];clear hS ho;simp only[dP,ic,bV,fj];obtain⟨c,afd⟩:∃ c,t.outs.getD 0 default=c:=⟨_,rfl⟩;rw[afd]at hk ⊢;refine aR He ?_;intro Q aB aC aD;repeat' first|simp (disch:=omega) only[go_sem,aB,aC,aD,afd]|refine au ?_|refine aq ?_ ?_<;>intro hw<;>try omega|fail
 all_goals (refine aU ?_ rfl;refine congrArg AV.bool ?_;rw[cG];simp_all)
 all_goals (try omega)
def PZ(t:Table)(h:oP t): aM aH 36 [dP t] (I (jQ t)):=by
 obtain⟨h1,h2,h3,h4,_⟩:=h;have c1:=yj t.name (by omega);have c2:=AU t.ins false (by omega) h2.2;have c3:=AU t.outs (decide (t.bZ=3)) (by omega) h3.2;have c4:oB t.outs (decide (t.bZ=3))=0->aM aH 67 [dP t] (.bool (pR t)):=fun hb=>NH t (tu hb).1;have hS:jQ t=if jU t.name=false then 13 else if oB t.ins false≠0 then oB t.ins false else if oB t.outs (decide (t.bZ=3))≠0 then oB t.outs (decide (t.bZ=3))else if pR t=false then 17 else if 24<t.rules.length then 24 else 0:=rfl
 rw[hS];clear hS;simp only[dP,ic,bV,fj]at c2 c3 c4 ⊢;generalize jU t.name=n at *;generalize oB t.ins false=a at *;generalize oB t.outs (decide (t.bZ=3))=b at *;generalize pR t=p at *;by_cases hb:b=0
 ·have c5:=c4 hb;clear c4;refine aR zb ?_;intro Q aB aC aD;repeat' first|refine au ?_|refine aq ?_ ?_<;>intro hw<;>try omega|fail
  all_goals (refine aU ?_ rfl;refine congrArg I ?_;simp_all)
  all_goals (try omega)
 ·clear c4;refine aR zb ?_;intro Q aB aC aD;repeat' first|refine au ?_|refine aq ?_ ?_<;>intro hw<;>try omega|fail
  all_goals first
   | exact a_
   |(refine aU ?_ rfl;refine congrArg I ?_;simp_all;done)
   |(refine aU ?_ rfl;refine congrArg I ?_;simp_all;omega)
def X8{T:List Tok}(hT:zT T)(hl:T.length<=2 ^ 20)(p:Nat)(b:Bool): uj (fP T p b).t:=by
 have hx:∀ p b,ig (jb T p b).x/\fW (jb T p b).x<=2 ^ 30:=fun p b=>⟨(B4 hT p b).1,by have:=(B4 hT p b).2;omega⟩;have h0:ig x0/\fW x0<=2 ^ 30:=⟨rW,by simp[x0,fW,mT]⟩;have h1:∀ k p b,uj (qI k (jb T p b)).t:=fun k p b=>⟨hx p b,h0⟩;have h2:∀ lo,uj (Gd T p lo).t:=fun lo=>⟨hx _ _,hx _ _⟩;unfold fP;split
 ·exact h1 _ _ _
 split
 ·exact h1 _ _ _
 split
 ·exact h1 _ _ _
 split
 ·exact h1 _ _ _
 split
 ·exact h2 _
 split
 ·exact h2 _
 ·exact h1 _ _ _
def X9{T:List Tok}(hT:zT T)(hl:T.length<=2 ^ 20)(f:Nat): ∀(acc:List Test) (p:Nat) (b:Bool),(∀ t ∈ acc,uj t)->(∀ t ∈ (qJ T f acc p b).ts,uj t)/\(qJ T f acc p b).ts.length<=acc.length+f:=by
 induction f with
 | zero=>intro acc p b h;exact⟨h,Nat.le_refl _⟩
 | succ f ih =>
   intro acc p b h
   have h2:∀ t ∈ acc++[(fP T p b).t],uj t:=fun t ht=>by
    rcases List.mem_append.1 ht with ht|ht
    ·exact h t ht
    ·simp only[List.mem_cons,List.not_mem_nil,or_false]at ht;subst ht;exact X8 hT hl p b
   rw[pP];split
   ·have:=ih _ ((fP T p b).p+1) (fP T p b).bad h2;rw[List.length_append,List.length_cons,List.length_nil]at this;exact⟨this.1,by omega⟩
   ·exact⟨h2,by rw[List.length_append,List.length_cons,List.length_nil];omega⟩
def B8(s:aO): oA (i_ s).1:=by
 have h:oA ⟨false,ot (de s).1,(jt (de s).1).ts⟩:=by
  have hf:=(rj s).1;have:=X9 (Ft s) (by omega) ((de s).1.length+1) [] (Mi (de s).1) false (fun t ht=>by cases ht);unfold jt oA;rw[Tc];exact⟨by have:=this.2;simp only[List.length_nil]at this;dsimp only;omega,this.1⟩
 have h0:oA c0:=⟨Nat.zero_le _,fun t ht=>by cases ht⟩;have h1:oA Hs:=⟨Nat.zero_le _,fun t ht=>by cases ht⟩;unfold i_;repeat' split
 all_goals first|exact h0|exact h1|exact h
def wm(s:aO): ig (iH s).1/\fW (iH s).1<=2 ^ 30:=by
 have h:ig (iw (de s).1 0 0).1/\fW (iw (de s).1 0 0).1<=2 ^ 30:=by
  have hf:=(rj s).1;have:=Hr (de s).1 0 0;exact⟨PG (Ft s) _ _,by omega⟩
 have h0:ig x0/\fW x0<=2 ^ 30:=⟨rW,by simp[x0,fW,mT]⟩;unfold iH;repeat' split
 all_goals first|exact h0|exact h
def Hx(t:Table)(k:Nat)(s:aO): Cell × Int:=((i_ s).1,if(i_ s).2.2=0 then yq t.ins (t.ins.getD k default).kind (i_ s).1 else(i_ s).2.2)
def su(t:Table)(k:Nat)(s:aO): Expr × Int:=((iH s).1,if(iH s).2.2≠0 then(iH s).2.2 else if(jk t.ins (iH s).1).2=0/\bT (jk t.ins (iH s).1).1 (t.outs.getD k default).kind=false then 14 else(jk t.ins (iH s).1).2)
def Vn(t:Table)(k:Nat)(s:aO)(ht:t.ins.length<=2 ^ 30)(hk:k<t.ins.length)(hs:s.length<=2 ^ 30): aM aH 68 [dP t,I k,.str s] (.bH [dG (Hx t k s).1,I (Hx t k s).2]):=by
 have c1:=Ve s hs;have c2:=Vf t.ins (by omega) (t.ins.getD k default).kind (i_ s).1 (XU s);have hS:Hx t k s=((i_ s).1,if(i_ s).2.2=0 then yq t.ins (t.ins.getD k default).kind (i_ s).1 else(i_ s).2.2):=rfl;rw[hS];clear hS;dsimp only;obtain⟨cc,fY⟩:∃ c,t.ins.getD k default=c:=⟨_,rfl⟩;rw[fY]at c2 ⊢;generalize yq t.ins cc.kind (i_ s).1=ty at *;generalize i_ s=P at *;obtain⟨c,n,e⟩:=P;dsimp only at c1 c2 ⊢;simp only[eC3]at c1;obtain⟨C,hC⟩:∃ C,dG c=C:=⟨_,rfl⟩;have hC2:C = .agg [.bool c.any,.bool c.neg,.aN false ES (c.tests.map dA)]:=by rw[<-hC];rfl
 simp only[dG,jj,dP,ic,bV,fj]at c1 c2 ⊢;refine aR Nr ?_;intro Q aB aC aD;repeat' first|simp (disch:=omega) only[go_sem,aB,aC,aD,fY]|refine au ?_|refine aq ?_ ?_<;>intro hw<;>try omega|fail
 all_goals (refine bx ?_ (by simp);simp_all)
def RT(t:Table)(k:Nat)(s:aO)(ht:t.ins.length<=2 ^ 30)(ho:t.outs.length<=2 ^ 30)(hk:k<t.outs.length)(hs:s.length<=2 ^ 30): aM aH 69 [dP t,I k,.str s] (.bH [aT (su t k s).1,I (su t k s).2]):=by
 have c1:=Px s hs;have hp:=wm s;have c2:=yp t.ins (by omega) (iH s).1 hp.1 (by have:=hp.2;omega);have c3:=nW (jk t.ins (iH s).1).1 (t.outs.getD k default).kind;have hS:su t k s=((iH s).1,if(iH s).2.2≠0 then(iH s).2.2 else if(jk t.ins (iH s).1).2=0/\bT (jk t.ins (iH s).1).1 (t.outs.getD k default).kind=false then 14 else(jk t.ins (iH s).1).2):=rfl;rw[hS];clear hS hp;dsimp only;obtain⟨cc,fY⟩:∃ c,t.outs.getD k default=c:=⟨_,rfl⟩;rw[fY]at c3 ⊢;generalize bT (jk t.ins (iH s).1).1 cc.kind=fi at *;generalize jk t.ins (iH s).1=ki at *;generalize iH s=P at *;obtain⟨x,n,e⟩:=P;dsimp only at c1 c2 ⊢;simp only[Mb]at c1;rw[bq]at c1 c2 ⊢;simp only[dQ,dP,ic,bV,fj]at c1 c2 ⊢;refine aR Kr ?_;intro Q aB aC aD;repeat' first|simp (disch:=omega) only[go_sem,aB,aC,aD,fY]|refine au ?_|refine aq ?_ ?_<;>intro hw<;>try omega|fail
 all_goals (refine bx ?_ (by simp);simp_all)
