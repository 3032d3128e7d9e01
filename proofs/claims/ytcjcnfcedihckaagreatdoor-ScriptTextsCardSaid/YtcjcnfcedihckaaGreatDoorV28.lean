/- Part. -/
import Derived.Test.YtcjcnfcedihckaaGreatDoorV27
set_option linter.all false
set_option maxHeartbeats 4000000
namespace Go.Proofs.YtcjcnfcedihckaaGreatDoor
open Go.AM
set_option maxRecDepth 4000
def RV(c:Cell): aG × Bool:=if c.any=true then([45],true)else if c.tests.any jH=true then([],false)else (rQ c.neg (qj c.tests),true)
def RW{l:List Test}{i:Nat}(h:i<l.length): Lib.join ((l.map testW).take (i+1)) jf=if i=0 then testW (l.getD i default)else Lib.join ((l.map testW).take i) jf++jf++testW (l.getD i default):=by
 rw[T4 h,Ka];by_cases h0:i=0
 ·subst h0;simp
 ·rw[if_neg h0,if_neg];intro h1;have:=congrArg List.length h1;rw[eY,bS,List.length_nil]at this;omega
def OZ{c:Cell}(hr:iX c=true)(ha:c.any=false): 1<=c.tests.length/\c.tests.length<=12/\ ∀ t ∈ c.tests,jP t=true:=by
 unfold iX at hr;rw[if_neg (by simp[ha])]at hr;simp only[aD,decide_eq_true_eq,bW,fS]at hr;exact⟨hr.1.1,hr.1.2,fun t ht=>by have:=hr.2 t ht;simpa using this⟩
def Kc{l:List Test}{i:Nat}(h12:l.length<=12)(h:∀ k,k<i->jH (l.getD k default)=false): (Lib.join ((l.map testW).take i) jf).length<=12*422:=by
 have h1:=Ni (sep:=jf) _ (Qh (l:=l) (n:=i) (fun k hk _=>h k hk));have h2:((l.map testW).take i).length<=12:=by rw[eY,bS];omega
 simp only[jf,List.length_cons,List.length_nil]at h1;have:((l.map testW).take i).length*(420+(0+1+1))<=12*422:=Nat.mul_le_mul h2 (Nat.le_refl _);unfold jf;omega
def Lm(c:Cell)(h:tZ c)(hr:iX c=true): aH aE 173 [bK c] (.bJ [.str (RV c).1,.bool (RV c).2]):=by
 have hT:RV c=if c.any=true then([45],true)else if c.tests.any jH=true then([],false)else (rQ c.neg (qj c.tests),true):=rfl
 rw[hT];clear hT;cases ha:c.any with
 | true =>
   rw[if_pos rfl];simp only[bK,eV,ha];refine aJ vF ?_;intro Q au aA aB;repeat' first|refine aq ?_|refine ak ?_ ?_<;>intro hw<;>try omega|fail
   all_goals exact bp rfl rfl
 | false =>
   rw[if_neg (by simp)];obtain⟨l1,T6,T7⟩:=OZ hr ha;simp only[bK,eV,ha];refine aJ vF ?_;intro Q au aA aB;repeat' first|refine aq ?_|refine ak ?_ ?_<;>intro hw<;>try omega|fail
   with_reducible refine bn [2,3,4,5,6,7,8,9,10,11,12,13,14,17,18,19,20,21,22,23,24,25,26,27,28,29,30,31,32,33,34,35,36,37,38,39,40,41,42,43,44,45,46,47,48,49,50,51,52,53,54,55,56,57,58,59,60,61,62,63,64,65,66,67,68,69,70,71,72,73,74,75,76,77,78,79,80,81,82,83,84,85,86,87,88,89,90] (fun q:Nat × List bx=>[(5,I q.1),(4,.str (Lib.join ((c.tests.map testW).take q.1) jf))]) (fun q=> .cells [.bool false,.bool c.neg,.aF false ES (c.tests.map bO)]::q.2) (fun q=>q.1<=c.tests.length/\ ∀ k,k<q.1->jH (c.tests.getD k default)=false) (fun q=>c.tests.length-q.1) (0,[]) ?_ ?_ ?_ ?_
   ·simp
   ·rfl
   ·simp[dm,dU,Lib.join_nil,eC]
   rintro⟨i,τ⟩ r ⟨h1,h2⟩;dsimp only at h1 h2;by_cases hi:i<c.tests.length
   ·have hmem:=aV hi;obtain⟨p1,k1,k6,p2⟩:=DQ (T7 _ hmem);have hok:=h.2 _ hmem;have JZ:=RW hi;have mX:=Kc T6 h2;have bV:=fun he=>aY h2 (i:=i) he;have mR:=fun hb=>vO (p:=jH) hi hb;have hJ0:i=0->Lib.join ((c.tests.map testW).take i) jf=[]:=fun h=>by subst h;rw[ff];exact Lib.join_nil _
    generalize Lib.join ((c.tests.map testW).take i) jf=J at *;obtain⟨t,oE⟩:∃ t,c.tests.getD i default=t:=⟨_,rfl⟩;rw[oE]at JZ bV mR hok p1 p2 k1 k6;have wa:=As t.a (qN p1).1 hok.1.1 hok.1.2 4;have ta:=zG t.a hok.1.1 hok.1.2;rw[(qN p1).2]at ta;have la:=Qe t.a (qN p1).1 hok.1.1 4;have Qi:=fun hb=>oH (x:=t.a) hb 4;have W8:=GK t.kind;have hsl:(iI t.kind).length<=2:=by unfold iI;split;simp;split;simp;split;simp;split<;>simp
    have hzz:=hok.1.2;by_cases h6:t.kind=6
    ·have wb:=As t.b (qN (p2 h6)).1 hok.2.1 hok.2.2 4;have tb:=zG t.b hok.2.1 hok.2.2;rw[(qN (p2 h6)).2]at tb;have lb2:=fun hb=>oH (x:=t.b) hb 4;have hW:testW t=Ng t++eX t.a 4++[46,46]++eX t.b 4++Nh t:=by unfold testW;rw[if_neg (by omega),if_pos h6]
     have hB:jH t=(kj t.a || kj t.b):=by unfold jH;rw[decide_eq_true h6,Bool.true_and]
     rw[hW]at JZ;rw[hB]at bV mR;unfold Ng Nh at JZ;clear hW hB p1 p2 W8 hsl hok;generalize eX t.a 4=sa at *;generalize eX t.b 4=sb at *;generalize cA t.a=xa at *;generalize cA t.b=xb at *;generalize kj t.a=ba at *;generalize kj t.b=bb at *;rw[aO]at wa wb ta tb;cases ba<;>simp only[Bool.false_eq_true,if_false,if_true,Bool.true_or,Bool.false_or]at ta Qi bV mR
     ·have Qi:=Qi trivial;cases bb<;>simp only[Bool.false_eq_true,if_false,if_true]at tb lb2 bV mR
      ·have lb2:=lb2 trivial;have bV:=bV trivial;repeat' first|simp (disch:=omega) only[go_sem,au,aA,aB,oE]|refine aq ?_|refine ak ?_ ?_<;>intro hw<;>try omega|fail
       all_goals first
        | (refine ⟨(i + 1, τ ++ [.cells [I t.kind, I t.a.op, I t.a.v.kind, I t.a.v.n, .str t.a.v.s, .str t.a.s, .aF false EX (t.a.l.map aI), I t.b.op, I t.b.v.kind, I t.b.v.n, .str t.b.v.s, .str t.b.s, .aF false EX (t.b.l.map aI), .bool t.lo, .bool t.hi]]), ⟨by dsimp only; omega, bV⟩, by dsimp only; omega, by first | rfl | (simp [go_sem]; done), bL, ?_⟩
           dsimp only;rw[JZ];first|(rw[if_pos (by omega)];obtain rfl:=hJ0 (by omega))|rw[if_neg (by omega)]
           simp (disch:=omega) only[dU,dm,and_true,go_sem,au,aA,aB,Int.natCast_add,Int.cast_ofNat_Int]<;>(try trivial)<;>(try omega)<;>(try (repeat (first|trivial|(refine And.intro ?_ ?_)|(congr 1;omega))));all_goals (clear au aA aB;simp_all[jf];done))
        |(exfalso;omega)
      ·have mR:=mR trivial;simp only[mR,if_true]at au aA aB;repeat' first|simp (disch:=omega) only[go_sem,au,aA,aB,oE]|refine aq ?_|refine ak ?_ ?_<;>intro hw<;>try omega|fail
       all_goals first|exact bp rfl rfl|exact bh
     ·have mR:=mR trivial;simp only[mR,if_true]at au aA aB;repeat' first|simp (disch:=omega) only[go_sem,au,aA,aB,oE]|refine aq ?_|refine ak ?_ ?_<;>intro hw<;>try omega|fail
      all_goals first|exact bp rfl rfl|exact bh
    ·have hW:testW t=if t.kind=1 then eX t.a 4 else iI t.kind++[32]++eX t.a 4:=by unfold testW;rw[if_neg h6]
     have hB:jH t=kj t.a:=by unfold jH;rw[decide_eq_false h6,Bool.false_and,Bool.or_false]
     rw[hW]at JZ;rw[hB]at bV mR;clear hW hB p1 p2 hok;generalize eX t.a 4=sa at *;generalize cA t.a=xa at *;generalize kj t.a=ba at *;generalize iI t.kind=sg at *;rw[aO]at wa ta;cases ba<;>simp only[Bool.false_eq_true,if_false,if_true]at ta Qi bV mR
     ·have Qi:=Qi trivial;have bV:=bV trivial;repeat' first|simp (disch:=omega) only[go_sem,au,aA,aB,oE]|refine aq ?_|refine ak ?_ ?_<;>intro hw<;>try omega|fail
      all_goals first
       | (refine ⟨(i + 1, τ ++ [.cells [I t.kind, I t.a.op, I t.a.v.kind, I t.a.v.n, .str t.a.v.s, .str t.a.s, .aF false EX (t.a.l.map aI), I t.b.op, I t.b.v.kind, I t.b.v.n, .str t.b.v.s, .str t.b.s, .aF false EX (t.b.l.map aI), .bool t.lo, .bool t.hi]]), ⟨by dsimp only; omega, bV⟩, by dsimp only; omega, by first | rfl | (simp [go_sem]; done), bL, ?_⟩
          dsimp only;rw[JZ];first|(rw[if_pos (by omega)];obtain rfl:=hJ0 (by omega))|rw[if_neg (by omega)]
          simp (disch:=omega) only[dU,dm,and_true,go_sem,au,aA,aB,Int.natCast_add,Int.cast_ofNat_Int]<;>(try trivial)<;>(try omega)<;>(try (repeat (first|trivial|(refine And.intro ?_ ?_)|(congr 1;omega))));all_goals (clear au aA aB;simp_all[jf];done))
       |(exfalso;omega)
     ·have mR:=mR trivial;simp only[mR,if_true]at au aA aB;repeat' first|simp (disch:=omega) only[go_sem,au,aA,aB,oE]|refine aq ?_|refine ak ?_ ?_<;>intro hw<;>try omega|fail
      all_goals first|exact bp rfl rfl|exact bh
   ·have n5:(c.tests.map testW).take i=c.tests.map testW:=aT (by simp;omega);have hnb:c.tests.any jH=false:=sO (p:=jH) (fun k hk=>h2 k (by omega));have mX:=Kc T6 h2;rw[n5]at mX ⊢;simp only[hnb,Bool.false_eq_true,if_false,qj]at au aA aB;obtain⟨J,hJ⟩:∃ J,Lib.join (c.tests.map testW) jf=J:=⟨_,rfl⟩;rw[hJ]at mX ⊢;simp only[hJ]at au aA aB;clear hJ;cases hn:c.neg with
    | true =>
      simp only[hn,rQ,if_true]at au aA aB;repeat' first|refine aq ?_|refine ak ?_ ?_<;>intro hw<;>try omega|fail
      all_goals first|(refine bp ?_ rfl;simp;done)|exact bh
    | false =>
      simp only[hn,rQ,Bool.false_eq_true,if_false]at au aA aB;repeat' first|refine aq ?_|refine ak ?_ ?_<;>intro hw<;>try omega|fail
      all_goals first|exact bp rfl rfl|exact bh
def RX(c:Cell)(h:tZ c): aH aE 134 [bK c] (.bJ [.str (uM c).1,I (uM c).2]):=by
 have wX:=xA c h.ok
 have hT:uM c=if iX c=false then([],2)else if c.any=true then([45],0)else if c.tests.any jH=true then([],5)
  else if 200<(rQ c.neg (qj c.tests)).length then([],5)else (rQ c.neg (qj c.tests),0):=rfl
 rw[hT];clear hT;have hw:=fun hr=>Lm c h hr;have hWT:RV c=if c.any=true then([45],true)else if c.tests.any jH=true then([],false)else (rQ c.neg (qj c.tests),true):=rfl
 rw[hWT]at hw;clear hWT;generalize rQ c.neg (qj c.tests)=s at *;generalize c.tests.any jH=bg at *;cases hr:iX c with
 | false =>
   rw[hr]at wX;rw[if_pos rfl];simp only[bK,eV]at wX ⊢;refine aJ nE ?_;intro Q au aA aB;repeat' first|refine aq ?_|refine ak ?_ ?_<;>intro hw<;>try omega|fail
   all_goals exact bp rfl rfl
 | true =>
   have hw:=hw hr;rw[hr]at wX;rw[if_neg (by simp)];cases ha:c.any with
   | true =>
     rw[ha]at hw;simp only[if_true]at hw ⊢;simp only[bK,eV,ha]at wX hw ⊢;refine aJ nE ?_;intro Q au aA aB;repeat' first|refine aq ?_|refine ak ?_ ?_<;>intro hw<;>try omega|fail
     all_goals first|exact bp rfl rfl|exact bh
   | false =>
     rw[ha]at hw;simp only[Bool.false_eq_true,if_false]at hw ⊢;cases bg with
     | true =>
       simp only[if_true]at hw ⊢;simp only[bK,eV,ha]at wX hw ⊢;refine aJ nE ?_;intro Q au aA aB;repeat' first|refine aq ?_|refine ak ?_ ?_<;>intro hw<;>try omega|fail
       all_goals first|exact bp rfl rfl|exact bh
     | false =>
       simp only[Bool.false_eq_true,if_false]at hw ⊢;simp only[bK,eV,ha]at wX hw ⊢;by_cases hb:200<s.length
       ·rw[if_pos hb];refine aJ nE ?_;intro Q au aA aB;repeat' first|refine aq ?_|refine ak ?_ ?_<;>intro hw<;>try omega|fail
        all_goals first|exact bp rfl rfl|exact bh
       ·rw[if_neg hb];refine aJ nE ?_;intro Q au aA aB;repeat' first|refine aq ?_|refine ak ?_ ?_<;>intro hw<;>try omega|fail
        all_goals first|exact bp rfl rfl|exact bh
def t_ (fn : FuncId) (cap : List AV) (hcap : AV.bX cap = true) (p : cL -> Bool) (l : List cL) (h : ∀ k, k < l.length -> aH aE fn (bF (l.getD k default) :: cap) (.bool (p (l.getD k default)))) (hl : l.length <= 2 ^ 62) :
    aH aE 228 [bP l,.fn (.func fn) [] cap] (.bool (l.any p)):=by
 refine aJ r_ ?_ (by simp[AV.dh,AV.bX,hcap,e8]);intro Q au aA aB;have hc:=pE fn cap hcap p l h hl;simp only[bP]at hc;repeat' first|refine aq ?_|refine ak ?_ ?_<;>intro hw<;>try omega|fail
 all_goals refine aL ?_ rfl
 all_goals rw[<-zo]
def pF (fn : FuncId) (cap : List AV) (hcap : AV.bX cap = true) (p : cL -> cL -> Bool) (l m : List cL)
    (h:∀ k,k<l.length->k<m.length->aH aE fn (bF (l.getD k default)::bF (m.getD k default)::cap) (.bool (p (l.getD k default) (m.getD k default)))) (hl:l.length<=2 ^ 62) (hm:m.length<=2 ^ 62) :
    aH aE 117 [bP l,bP m,.fn (.func fn) [] cap] (.bool (fL p l m)):=by
 refine aJ tS ?_ (by simp[AV.dh,AV.bX,hcap,e8]);intro Q au aA aB;repeat' first|refine aq ?_|refine ak ?_ ?_<;>intro hw<;>try omega|fail
 ·refine aL ?_ rfl;rw[lQ (by omega)]
 have kG:l.length=m.length:=by omega
 with_reducible refine bn [6,7,8,9,17,18,19,20,21,22,23,24,25,26,27,28,29,30,31] (fun p:Nat × List bx=>[(17,I p.1)]) (fun p=>p.2) (fun q=>q.1<=l.length/\ ∀ k,k<q.1->p (l.getD k default) (m.getD k default)=true) (fun p=>l.length-p.1) (0,[]) ?_ ?_ ?_ ?_
 ·simp
 ·rfl
 ·exact at_
 rintro⟨i,τ⟩ r ⟨h1,h2⟩;dsimp only at h1 h2;by_cases hi:i<l.length
 ·have hy:=h i hi (by omega);simp only[bO,bF,cn,kN,bK,cg,eV,cU,bI,nF]at hy;repeat' first|refine aq ?_|refine ak ?_ ?_<;>intro hw<;>try omega|fail
  ·refine aL ?_ rfl;rw[nH hi hw (by omega)]
  ·refine⟨(i+1,τ++[.cells [.str (l.getD i default).name,I (l.getD i default).kind,.aF false EV ((l.getD i default).order.map eR)]]++[.cells [.str (m.getD i default).name,I (m.getD i default).kind,.aF false EV ((m.getD i default).order.map eR)]]),?_,?_,by first|rfl|(simp[go_sem];done),bL,at_⟩<;>(try dsimp only)
   ·exact⟨by omega,aY h2 hw⟩
   ·omega
 ·repeat' first|refine aq ?_|refine ak ?_ ?_<;>intro hw<;>try omega|fail
  refine aL ?_ rfl;rw[lR kG (fun k hk=>h2 k (by omega))]
def yy (fn : FuncId) (cap : List AV) (hcap : AV.bX cap = true) (p : eO -> eO -> Bool) (l m : List eO)
    (h:∀ k,k<l.length->k<m.length->aH aE fn (cn (l.getD k default)::cn (m.getD k default)::cap) (.bool (p (l.getD k default) (m.getD k default)))) (hl:l.length<=2 ^ 62) (hm:m.length<=2 ^ 62) :
    aH aE 119 [dV l,dV m,.fn (.func fn) [] cap] (.bool (fL p l m)):=by
 refine aJ vE ?_ (by simp[AV.dh,AV.bX,hcap,o9]);intro Q au aA aB;repeat' first|refine aq ?_|refine ak ?_ ?_<;>intro hw<;>try omega|fail
 ·refine aL ?_ rfl;rw[lQ (by omega)]
 have kG:l.length=m.length:=by omega
 with_reducible refine bn [6,7,8,9,17,18,19,20,21,22,23,24,25,26,27,28,29,30,31] (fun p:Nat × List bx=>[(17,I p.1)]) (fun p=>p.2) (fun q=>q.1<=l.length/\ ∀ k,k<q.1->p (l.getD k default) (m.getD k default)=true) (fun p=>l.length-p.1) (0,[]) ?_ ?_ ?_ ?_
 ·simp
 ·rfl
 ·exact at_
 rintro⟨i,τ⟩ r ⟨h1,h2⟩;dsimp only at h1 h2;by_cases hi:i<l.length
 ·have hy:=h i hi (by omega);simp only[bO,bF,cn,kN,bK,cg,eV,cU,bI,nF]at hy;repeat' first|refine aq ?_|refine ak ?_ ?_<;>intro hw<;>try omega|fail
  ·refine aL ?_ rfl;rw[nH hi hw (by omega)]
  ·refine⟨(i+1,τ++[.cells [.aF false E1 ((l.getD i default).cells.map bj),.aF false E1 ((l.getD i default).outs.map bj)]]++[.cells [.aF false E1 ((m.getD i default).cells.map bj),.aF false E1 ((m.getD i default).outs.map bj)]]),?_,?_,by first|rfl|(simp[go_sem];done),bL,at_⟩<;>(try dsimp only)
   ·exact⟨by omega,aY h2 hw⟩
   ·omega
 ·repeat' first|refine aq ?_|refine ak ?_ ?_<;>intro hw<;>try omega|fail
  refine aL ?_ rfl;rw[lR kG (fun k hk=>h2 k (by omega))]
def C2(v u:eu): (v==u)=((v.kind==u.kind) && (v.n==u.n) && (v.s==u.s)):=by
 obtain⟨a,b,c⟩:=v;obtain⟨d,e,f⟩:=u;rw[aS];simp[and_assoc]
def B8(l:List eu)(v:eu)(hl:l.length<=2 ^ 60): aH aE 263 [cU l,eR v] (I (gN (fun x=>x==v) l)):=by
 simp only[cU,eR];refine aJ yc ?_;intro Q au aA aB;repeat' first|refine aq ?_|refine ak ?_ ?_<;>intro hw<;>try omega|fail
 with_reducible refine bn [4,5,8,9,10,11,12,13,14,15,16,17,18] (fun i:Nat=>[(8,I i)]) (fun _=>[.cells [I v.kind,I v.n,.str v.s]]) (fun i=>i<=l.length/\ ∀ k,k<i->(l.getD k default==v)=false) (fun i=>l.length-i) (0) ?_ ?_ ?_ ?_
 ·simp
 ·rfl
 ·exact at_
 rintro i r ⟨h1,h2⟩;by_cases hi:i<l.length
 ·obtain⟨u,hu⟩:∃ u,l.getD i default=u:=⟨_,rfl⟩;have hb:=C2 u v;repeat' first|simp (disch:=omega) only[go_sem,au,aA,aB,hu]|refine aq ?_|refine ak ?_ ?_<;>intro hw<;>try omega|fail
  ·refine aL ?_ rfl;refine congrArg I ?_;exact(lP (p:=fun x=>x==v) hi h2 (by rw[hu,hb];simp_all)).symm
  ·refine⟨i+1,?_,?_,by first|rfl|(simp[go_sem];done),bL,at_⟩<;>(try dsimp only)
   ·exact⟨by omega,aY h2 (by rw[hu,hb,<-Bool.not_eq_true];simp only[<-Bool.not_eq_true,aD,beq_iff_eq,not_and]at hw ⊢;intro c;exact fun d=>hw ⟨c.1.symm,c.2.symm⟩ d.symm)⟩
   ·omega
 ·repeat' first|refine aq ?_|refine ak ?_ ?_<;>intro hw<;>try omega|fail
  refine aL ?_ rfl;refine congrArg I ?_;exact(kT (p:=fun x=>x==v) fun k hk=>h2 k (by omega)).symm
def B9(l m:List eu)(hl:l.length<=2 ^ 60)(hm:m.length<=2 ^ 60): aH aE 160 [cU l,cU m] (.bool (fL (fun a b=>a==b) l m)):=by
 simp only[cU];refine aJ x6 ?_;intro Q au aA aB;repeat' first|refine aq ?_|refine ak ?_ ?_<;>intro hw<;>try omega|fail
 ·refine aL ?_ rfl;rw[lQ (by omega)]
 have kG:l.length=m.length:=by omega
 with_reducible refine bn [4,5,13,14,15,16,17,18,19,20,21,22,23,24,25] (fun i:Nat=>[(13,I i)]) (fun _=>[]) (fun i=>i<=l.length/\ ∀ k,k<i->(l.getD k default==m.getD k default)=true) (fun i=>l.length-i) (0) ?_ ?_ ?_ ?_
 ·simp
 ·rfl
 ·exact at_
 rintro i r ⟨h1,h2⟩;by_cases hi:i<l.length
 ·have hb:=C2 (l.getD i default) (m.getD i default);repeat' first|refine aq ?_|refine ak ?_ ?_<;>intro hw<;>try omega|fail
  ·refine aL ?_ rfl;rw[nH (p:=fun a b=>a==b) hi (by rw[hb,<-Bool.not_eq_true];simp_all) (by omega)]
  ·refine⟨i+1,?_,?_,by first|rfl|(simp[go_sem];done),bL,at_⟩<;>(try dsimp only)
   ·exact⟨by omega,aY h2 (by rw[hb];simp_all)⟩
   ·omega
 ·repeat' first|refine aq ?_|refine ak ?_ ?_<;>intro hw<;>try omega|fail
  refine aL ?_ rfl;rw[lR (p:=fun a b=>a==b) kG (fun k hk=>h2 k (by omega))]
def su(l m:List aG)(hl:l.length<=2 ^ 60)(hm:m.length<=2 ^ 60): aH aE 161 [bI l,bI m] (.bool (fL (fun a b=>a==b) l m)):=by
 simp only[bI];refine aJ xm ?_;intro Q au aA aB;repeat' first|refine aq ?_|refine ak ?_ ?_<;>intro hw<;>try omega|fail
 ·refine aL ?_ rfl;rw[lQ (by omega)]
 have kG:l.length=m.length:=by omega
 with_reducible refine bn [4,5,13,14,15,16,17,18,19,20,21,22,23,24,25] (fun i:Nat=>[(13,I i)]) (fun _=>[]) (fun i=>i<=l.length/\ ∀ k,k<i->(l.getD k default==m.getD k default)=true) (fun i=>l.length-i) (0) ?_ ?_ ?_ ?_
 ·simp
 ·rfl
 ·exact at_
 rintro i r ⟨h1,h2⟩;by_cases hi:i<l.length
 ·repeat' first|refine aq ?_|refine ak ?_ ?_<;>intro hw<;>try omega|fail
  ·refine aL ?_ rfl;rw[nH (p:=fun a b=>a==b) hi (by rw[<-Bool.not_eq_true];simp_all) (by omega)]
  ·refine⟨i+1,?_,?_,by first|rfl|(simp[go_sem];done),bL,at_⟩<;>(try dsimp only)
   ·exact⟨by omega,aY h2 (by simp_all)⟩
   ·omega
 ·repeat' first|refine aq ?_|refine ak ?_ ?_<;>intro hw<;>try omega|fail
  refine aL ?_ rfl;rw[lR (p:=fun a b=>a==b) kG (fun k hk=>h2 k (by omega))]
def rR(l m:List aG)(hl:l.length<=2 ^ 60)(hm:m.length<=2 ^ 60): aH aE 11 [bI l,bI m] (.bool (fL (fun a b=>a==b) l m)):=by
 simp only[bI];refine aJ Bt ?_;intro Q au aA aB;repeat' first|refine aq ?_|refine ak ?_ ?_<;>intro hw<;>try omega|fail
 ·refine aL ?_ rfl;rw[lQ (by omega)]
 have kG:l.length=m.length:=by omega
 with_reducible refine bn [4,5,11,12,13,14,15,16,17,18,19,20,21,22,23,24,25] (fun i:Nat=>[(5,I i)]) (fun _=>[]) (fun i=>i<=l.length/\ ∀ k,k<i->(l.getD k default==m.getD k default)=true) (fun i=>l.length-i) (0) ?_ ?_ ?_ ?_
 ·simp
 ·rfl
 ·exact at_
 rintro i r ⟨h1,h2⟩;by_cases hi:i<l.length
 ·repeat' first|refine aq ?_|refine ak ?_ ?_<;>intro hw<;>try omega|fail
  ·refine aL ?_ rfl;rw[nH (p:=fun a b=>a==b) hi (by rw[<-Bool.not_eq_true];simp_all) (by omega)]
  ·refine⟨i+1,?_,?_,by first|rfl|(simp[go_sem];done),bL,at_⟩<;>(try dsimp only)
   ·exact⟨by omega,aY h2 (by simp_all)⟩
   ·omega
 ·repeat' first|refine aq ?_|refine ak ?_ ?_<;>intro hw<;>try omega|fail
  refine aL ?_ rfl;rw[lR (p:=fun a b=>a==b) kG (fun k hk=>h2 k (by omega))]
def Au(l m:List eu)(hl:l.length<=2 ^ 60)(hm:m.length<=2 ^ 60): aH aE 66 [cU l,cU m] (.bool (fL (fun a b=>a==b) l m)):=by
 simp only[cU];refine aJ Ev ?_;intro Q au aA aB;repeat' first|refine aq ?_|refine ak ?_ ?_<;>intro hw<;>try omega|fail
 ·refine aL ?_ rfl;rw[lQ (by omega)]
 have kG:l.length=m.length:=by omega
 with_reducible refine bn [4,5,11,12,13,14,15,16,17,18,19,20,21,22,23,24,25] (fun i:Nat=>[(5,I i)]) (fun _=>[]) (fun i=>i<=l.length/\ ∀ k,k<i->(l.getD k default==m.getD k default)=true) (fun i=>l.length-i) (0) ?_ ?_ ?_ ?_
 ·simp
 ·rfl
 ·exact at_
 rintro i r ⟨h1,h2⟩;by_cases hi:i<l.length
 ·have hb:=C2 (l.getD i default) (m.getD i default);repeat' first|refine aq ?_|refine ak ?_ ?_<;>intro hw<;>try omega|fail
  ·refine aL ?_ rfl;rw[nH (p:=fun a b=>a==b) hi (by rw[hb,<-Bool.not_eq_true];simp_all) (by omega)]
  ·refine⟨i+1,?_,?_,by first|rfl|(simp[go_sem];done),bL,at_⟩<;>(try dsimp only)
   ·exact⟨by omega,aY h2 (by rw[hb];simp_all)⟩
   ·omega
 ·repeat' first|refine aq ?_|refine ak ?_ ?_<;>intro hw<;>try omega|fail
  refine aL ?_ rfl;rw[lR (p:=fun a b=>a==b) kG (fun k hk=>h2 k (by omega))]
def pJ(c:cL)(k:Nat): Bool:=bT (c.order.getD k default) && decide ((c.order.getD k default).kind=c.kind) && decide (gN (fun x=>x==c.order.getD k default) c.order=k)
def gO(c:cL)(asked:Bool): Bool :=
 if asked then(List.range c.order.length).all (pJ c) && decide (1<=c.order.length/\c.order.length<=8)else decide (c.order.length=0)
def rS(c:cL): Prop:=c.name.length<=2 ^ 62/\c.order.length<=2 ^ 60/\ ∀ v ∈ c.order,(-9223372036854775808<=v.n/\v.n<=9223372036854775807)/\v.s.length<=2 ^ 62
def wY{c:cL}{i:Nat}(hi:i<c.order.length)(h:pJ c i=false): gO c true=false:=by
 unfold gO;rw[if_pos rfl]
 have:(List.range c.order.length).all (pJ c)=false:=by
  rw[List.all_eq_false];exact⟨i,by simpa using hi,by simp[h]⟩
 rw[this];rfl
def G1{c:cL}(h:∀ k,k<c.order.length->pJ c k=true): gO c true=decide (1<=c.order.length/\c.order.length<=8):=by
 unfold gO;rw[if_pos rfl]
 have:(List.range c.order.length).all (pJ c)=true:=by
  rw[bq];intro k hk;exact h k (by simpa using hk)
 rw[this];rfl
def Nj(c:cL)(b:Bool)(h:rS c): aH aE 230 [bF c,.bool b] (.bool (gO c b)):=by
 obtain⟨_,hl,hv⟩:=h;simp only[bF,cU];cases b with
 | false =>
   have hS:gO c false=decide (c.order.length=0):=rfl;rw[hS];refine aJ wM ?_;intro Q au aA aB;repeat' first|refine aq ?_|refine ak ?_ ?_<;>intro hw<;>try omega|fail
   refine aL ?_ rfl;refine congrArg AV.bool ?_;rw[aS];simp_all
 | true =>
   refine aJ wM ?_;intro Q au aA aB;repeat' first|refine aq ?_|refine ak ?_ ?_<;>intro hw<;>try omega|fail
   with_reducible refine bn [4,5,6,16,17,18,19,20,21,22,23,24,25,26,27,28,29,30,31,32,33,34,35,36,37,38,39] (fun q:Nat × List bx=>[(16,I q.1)]) (fun q=> .cells [.str c.name,I c.kind,.aF false EV (c.order.map eR)]::q.2) (fun q=>q.1<=c.order.length/\ ∀ k,k<q.1->pJ c k=true) (fun q=>c.order.length-q.1) (0,[]) ?_ ?_ ?_ ?_
   ·simp
   ·rfl
   ·exact at_
   rintro⟨i,τ⟩ r ⟨h1,h2⟩;dsimp only at h1 h2;by_cases hi:i<c.order.length
   ·have Qj:=hv _ (aV hi);have hO:pJ c i=(bT (c.order.getD i default) && decide ((c.order.getD i default).kind=c.kind) && decide (gN (fun x=>x==c.order.getD i default) c.order=i)):=rfl;obtain⟨v,B_⟩:∃ v,c.order.getD i default=v:=⟨_,rfl⟩;rw[B_]at Qj hO;have c1:=pW v.kind v.n v.s Qj.1.1 Qj.1.2;have c2:=B8 c.order v hl;rw[show (⟨v.kind,v.n,v.s⟩:eu)=v from rfl]at c1;simp only[cU,eR]at c2;generalize gN (fun x=>x==v) c.order=ix at *;cases Ca:bT v;all_goals (rw[Ca]at c1 hO;simp only[mw,Bool.false_eq_true,if_false,if_true]at c1)
    ·repeat' first|simp (disch:=omega) only[go_sem,au,aA,aB,B_]|refine aq ?_|refine ak ?_ ?_<;>intro hw<;>try omega|fail
     all_goals (refine aL ?_ rfl;rw[wY hi (by rw[hO];rfl)])
    ·repeat' first|simp (disch:=omega) only[go_sem,au,aA,aB,B_]|refine aq ?_|refine ak ?_ ?_<;>intro hw<;>try omega|fail
     all_goals first
      |(refine aL ?_ rfl;rw[wY hi (by rw[hO];simp_all;done)])
      | (refine ⟨(i + 1, τ ++ [.cells [I v.kind, I v.n, .str v.s]]), ?_, ?_, by first | rfl | (simp [go_sem]; done), bL, at_⟩ <;> (try dsimp only)
         ·exact⟨by omega,aY h2 (by rw[hO];simp_all)⟩
         ·omega)
   ·repeat' first|refine aq ?_|refine ak ?_ ?_<;>intro hw<;>try omega|fail
    all_goals (refine aL ?_ rfl;rw[G1 (fun k hk=>h2 k (by omega))];refine congrArg AV.bool ?_;rw[aS];simp_all)
    all_goals (try omega)
def X_{α : Type}[Inhabited α]{p : α->Bool}{l:List α}: ∀ {k:Nat},k<l.length->p (l.getD k default)=true->gN p l<=k:=by
 intro k
 induction k using Nat.strongRecOn with
 | _ k ih =>
   intro hk h;by_cases ha:∀ j,j<k->p (l.getD j default)=false
   ·rw[lP hk ha h];exact Int.le_refl _
   ·simp only[Classical.not_forall]at ha;obtain⟨j,hj,hn⟩:=ha;have:=ih j hj (by omega) (by simpa using hn);omega
def V6{c:cL}{k i:Nat}(hk:k<i)(hi:i<c.order.length)(h:(c.order.getD k default==c.order.getD i default)=true): pJ c i=false:=by
 have:=X_ (p:=fun x=>x==c.order.getD i default) (l:=c.order) (k:=k) (by omega) h;unfold pJ;rw[Bool.and_eq_false_iff];exact .inr (decide_eq_false (by omega))
def Ya{c:cL}{i:Nat}(hi:i<c.order.length)(h:∀ k,k<i->(c.order.getD k default==c.order.getD i default)=false)(hr:bT (c.order.getD i default)=true)(hk:(c.order.getD i default).kind=c.kind): pJ c i=true:=by
 have:=lP (p:=fun x=>x==c.order.getD i default) (l:=c.order) hi h (by simp);unfold pJ;rw[this,hr,hk];simp
def Yb{c:cL}{i:Nat}(h:bT (c.order.getD i default)=false\/(c.order.getD i default).kind≠c.kind): pJ c i=false:=by
 unfold pJ;rcases h with h|h
 ·rw[h];rfl
 ·rw[decide_eq_false h,dJ];rfl
def O1(c:cL)(b:Bool)(h:rS c): aH aE 246 [bF c,.bool b] (.bool (gO c b)):=by
 obtain⟨_,hl,hv⟩:=h;simp only[bF,cU];cases b with
 | false =>
   have hS:gO c false=decide (c.order.length=0):=rfl;rw[hS];refine aJ yb ?_;intro Q au aA aB;repeat' first|refine aq ?_|refine ak ?_ ?_<;>intro hw<;>try omega|fail
   refine aL ?_ rfl;refine congrArg AV.bool ?_;rw[aS];simp_all
 | true =>
   refine aJ yb ?_;intro Q au aA aB;repeat' first|refine aq ?_|refine ak ?_ ?_<;>intro hw<;>try omega|fail
   with_reducible refine bn [4,5,6,13,14,15,16,17,18,19,20,21,22,23,24,25,26,27,28,29,30,31,32,33,34,35,36,37,38,39,40,41,42,43,44,45,46,47,48,49,50,51,52,53] (fun i:Nat=>[(5,I i)]) (fun _=>[.cells [.str c.name,I c.kind,.aF false EV (c.order.map eR)]]) (fun i=>i<=c.order.length/\ ∀ k,k<i->pJ c k=true) (fun i=>c.order.length-i) (0) ?_ ?_ ?_ ?_
   ·simp
   ·rfl
   ·exact at_
   rintro i r ⟨h1,h2⟩;by_cases hi:i<c.order.length
   ·have Qj:=hv _ (aV hi);have hno:=fun h=>wY hi (Yb (c:=c) (i:=i) h);have aah:=fun k hk h=>wY hi (V6 (c:=c) (k:=k) (i:=i) hk hi h);have hok:=fun h hr hk=>aY h2 (Ya (c:=c) hi h hr hk);obtain⟨v,B_⟩:∃ v,c.order.getD i default=v:=⟨_,rfl⟩;rw[B_]at Qj hno aah hok;have c1:=xq v.kind v.n v.s Qj.2;rw[show (⟨v.kind,v.n,v.s⟩:eu)=v from rfl]at c1;cases Ca:bT v;all_goals rw[Ca]at c1
    ·repeat' first|simp (disch:=omega) only[go_sem,au,aA,aB,B_]|refine aq ?_|refine ak ?_ ?_<;>intro hw<;>try omega|fail
     all_goals (refine aL ?_ rfl;rw[hno (.inl Ca)])
    ·repeat' first|simp (disch:=omega) only[go_sem,au,aA,aB,B_]|refine aq ?_|refine ak ?_ ?_<;>intro hw<;>try omega|fail
     ·refine aL ?_ rfl;rw[hno (.inr (by simp_all))]
     with_reducible refine bn [4,6,38,39,40,41,42,43,44,45,46,47,48,49,50,51,52,53] (fun k:Nat=>[(6,I k)]) (fun _=>[.cells [.str c.name,I c.kind,.aF false EV (c.order.map eR)]]) (fun k=>k<=i/\ ∀ j,j<k->(c.order.getD j default==v)=false) (fun k=>i-k) (0) ?_ ?_ ?_ ?_
     ·simp
     ·rfl
     ·exact at_
     rintro k r2 ⟨g1,g2⟩;by_cases hk:k<i
     ·have hdk:=aah k hk;have S4:=aY (i:=k) g2;obtain⟨u,aai⟩:∃ u,c.order.getD k default=u:=⟨_,rfl⟩;rw[aai]at hdk S4;have hb:=C2 u v;repeat' first|simp (disch:=omega) only[go_sem,au,aA,aB,B_,aai]|refine aq ?_|refine ak ?_ ?_<;>intro hw<;>try omega|fail
      ·refine aL ?_ rfl;rw[hdk (by rw[hb];simp_all)]
      ·refine⟨k+1,?_,?_,by first|rfl|(simp[go_sem];done),bL,at_⟩<;>(try dsimp only)
       ·exact⟨by omega,S4 (by rw[hb,<-Bool.not_eq_true];simp_all)⟩
       ·omega
     ·repeat' first|refine aq ?_|refine ak ?_ ?_<;>intro hw<;>try omega|fail
      refine⟨i+1,?_,?_,by first|rfl|(simp[go_sem];done),bL,at_⟩<;>(try dsimp only)
      ·exact⟨by omega,hok (fun j hj=>g2 j (by omega)) Ca (by simp_all)⟩
      ·omega
   ·repeat' first|refine aq ?_|refine ak ?_ ?_<;>intro hw<;>try omega|fail
    all_goals (refine aL ?_ rfl;rw[G1 (fun k hk=>h2 k (by omega))];refine congrArg AV.bool ?_;rw[aS];simp_all)
    all_goals (try omega)
def jk(l:List cL)(b:Bool): Int:=if iy l≠0 then iy l else if l.length=0\/(l.any fun c=> !(gO c b))=true then 17 else 0
def E9(c:cL)(b:Bool)(h:rS c): aH aE 229 [bF c,.eA E1 (.bool b) 0] (.bool (!(gO c b))):=by
 have h1:=Nj c b h;simp only[bF,cU]at h1 ⊢;generalize gO c b=o at *;refine aJ AE ?_;intro Q au aA aB;repeat' first|refine aq ?_|refine ak ?_ ?_<;>intro hw<;>try omega|fail
 all_goals exact aL rfl rfl
def yz(l:List cL)(b:Bool)(hl:l.length<=2 ^ 60)(h:∀ c ∈ l,rS c): aH aE 186 [bP l,.bool b] (I (jk l b)):=by
 have h1:=I2 l (fun k hk=>(h _ (aV hk)).1);have h2:=t_ 229 [.eA E1 (.bool b) 0] rfl (fun c=> !(gO c b)) l (fun k hk=>E9 _ b (h _ (aV hk))) (by omega);have hS:jk l b=if iy l≠0 then iy l else if l.length=0\/(l.any fun c=> !(gO c b))=true then 17 else 0:=rfl
 rw[hS];clear hS;simp only[bP]at h1 h2 ⊢;generalize (l.any fun c=> !(gO c b))=an at *;generalize iy l=cs at *;refine aJ Dg ?_;intro Q au aA aB;repeat' first|refine aq ?_|refine tN h2 ?_|refine ak ?_ ?_<;>intro hw<;>try omega|fail
 all_goals (refine aL ?_ rfl;refine congrArg I ?_;simp_all[<-List.length_eq_zero_iff])
 all_goals (try omega)
def Av(l:List cL)(b:Bool)(hl:l.length<=2 ^ 60)(h:∀ c ∈ l,rS c): aH aE 208 [bP l,.bool b] (I (jk l b)):=by
 have h1:=Lj l (fun k hk=>(h _ (aV hk)).1);have hS:jk l b=if iy l≠0 then iy l else if l.length=0\/(l.any fun c=> !(gO c b))=true then 17 else 0:=rfl
 rw[hS];clear hS;simp only[bP]at h1 ⊢;generalize iy l=cs at *;refine aJ EA ?_;intro Q au aA aB;repeat' first|refine aq ?_|refine ak ?_ ?_<;>intro hw<;>try omega|fail
 ·refine aL ?_ rfl;refine congrArg I ?_;rw[if_pos (by omega)]
 have hcs:¬ cs≠0:=by omega
 rw[if_neg hcs]at au;with_reducible refine bn [4,6,12,13,14,15,16,17,18,19,20,21,22,23,24] (fun i:Nat=>[(6,I i)]) (fun _=>[]) (fun i=>i<=l.length/\ ∀ k,k<i->(!(gO (l.getD k default) b))=false) (fun i=>l.length-i) (0) ?_ ?_ ?_ ?_
 ·simp
 ·rfl
 ·exact at_
 rintro i r ⟨h1,h2⟩;by_cases hi:i<l.length
 ·have h3:=O1 _ b (h _ (aV hi));simp only[bF,cU]at h3;repeat' first|refine aq ?_|refine ak ?_ ?_<;>intro hw<;>try omega|fail
  ·refine aL ?_ rfl;refine congrArg I ?_;rw[vO (p:=fun c=> !(gO c b)) hi (by simpa using hw)];simp
  ·refine⟨i+1,?_,?_,by first|rfl|(simp[go_sem];done),bL,at_⟩<;>(try dsimp only)
   ·exact⟨by omega,aY h2 (by simpa using hw)⟩
   ·omega
 ·repeat' first|refine aq ?_|refine ak ?_ ?_<;>intro hw<;>try omega|fail
  all_goals (refine aL ?_ rfl;rw[sO (p:=fun c=> !(gO c b)) (fun k hk=>h2 k (by omega))];refine congrArg I ?_;simp_all[<-List.length_eq_zero_iff])
  all_goals (try omega)
def jA(t:Table): Bool :=
 if t.aZ<1\/6<t.aZ then false else if t.agg=0 then true
 else if t.aZ≠5\/t.agg<1\/4<t.agg\/t.outs.length≠1 then false
 else decide (t.agg=4\/(t.outs.getD 0 default).kind=1\/(t.outs.getD 0 default).kind=2/\t.agg≠1)
def iu(t:Table): Int :=
 if fc t.name=false then 13 else if jk t.ins false≠0 then jk t.ins false
 else if jk t.outs (decide (t.aZ=3))≠0 then jk t.outs (decide (t.aZ=3))
 else if jA t=false then 17 else if 24<t.rules.length then 24 else 0
def l7(t:Table): Prop:=t.name.length<=2 ^ 30/\(t.ins.length<=2 ^ 30/\ ∀ c ∈ t.ins,rS c)/\(t.outs.length<=2 ^ 30/\ ∀ c ∈ t.outs,rS c) /\
 t.rules.length<=2 ^ 30/\ ∀ r ∈ t.rules,(r.cells.length<=2 ^ 30/\ ∀ s ∈ r.cells,s.length<=2 ^ 30)/\r.outs.length<=2 ^ 30/\ ∀ s ∈ r.outs,s.length<=2 ^ 30
def G2{l:List cL}(h:iy l=0){i:Nat}(hi:i<l.length): 1<=(l.getD i default).kind/\(l.getD i default).kind<=3:=by
 by_cases h6:6<l.length
 ·unfold iy at h;rw[if_pos h6]at h;omega
 ·by_cases hc:∀ k,k<l.length->nV l k=0
  ·have:=hc i hi;unfold nV at this;split at this
   ·omega
   ·split at this
    ·omega
    ·omega
  ·exfalso;unfold iy at h;rw[if_neg h6]at h;split at h
   ·rename_i j hj;have:=eL hj;simp[h]at this
   ·rename_i hn;apply hc;intro k hk;have:=dy.1 hn k (by simpa using hk);simpa using this
def wZ{l:List cL}{b:Bool}(h:jk l b=0): iy l=0/\0<l.length:=by
 unfold jk at h;split at h
 ·omega
 ·split at h
  ·omega
  ·rename_i h1 h2;refine⟨by omega,?_⟩;rcases Nat.eq_zero_or_pos l.length with h3|h3
   ·exact absurd (.inl h3) h2
   ·exact h3
def Ln(t:Table)(ho:iy t.outs=0): aH aE 187 [cD t] (.bool (jA t)):=by
 have hk:=fun h=>G2 ho (i:=0) h;have hS:jA t=if t.aZ<1\/6<t.aZ then false else if t.agg=0 then true else if t.aZ≠5\/t.agg<1\/4<t.agg\/t.outs.length≠1 then false else decide (t.agg=4\/(t.outs.getD 0 default).kind=1\/(t.outs.getD 0 default).kind=2/\t.agg≠1):=rfl
 rw[hS];clear hS ho;simp only[cD,fg,bP,dV];obtain⟨c,Nk⟩:∃ c,t.outs.getD 0 default=c:=⟨_,rfl⟩;rw[Nk]at hk ⊢;refine aJ Ez ?_;intro Q au aA aB;repeat' first|simp (disch:=omega) only[go_sem,au,aA,aB,Nk]|refine aq ?_|refine ak ?_ ?_<;>intro hw<;>try omega|fail
 all_goals (refine aL ?_ rfl;refine congrArg AV.bool ?_;rw[aS];simp_all)
 all_goals (try omega)
def Nl(t:Table): aH aE 209 [cD t] (.bool (jA t)):=by
 have hS:jA t=if t.aZ<1\/6<t.aZ then false else if t.agg=0 then true else if t.aZ≠5\/t.agg<1\/4<t.agg\/t.outs.length≠1 then false else decide (t.agg=4\/(t.outs.getD 0 default).kind=1\/(t.outs.getD 0 default).kind=2/\t.agg≠1):=rfl
 rw[hS];clear hS;simp only[cD,fg,bP,dV];obtain⟨c,Nk⟩:∃ c,t.outs.getD 0 default=c:=⟨_,rfl⟩;rw[Nk];refine aJ Gn ?_;intro Q au aA aB;repeat' first|simp (disch:=omega) only[go_sem,au,aA,aB,Nk]|refine aq ?_|refine ak ?_ ?_<;>intro hw<;>try omega|fail
 all_goals (refine aL ?_ rfl;refine congrArg AV.bool ?_;rw[aS];simp_all)
 all_goals (try omega)
def Nn(t:Table)(h:l7 t): aH aE 152 [cD t] (I (iu t)):=by
 obtain⟨h1,h2,h3,h4,_⟩:=h;have c1:=vM t.name (by omega);have c2:=yz t.ins false (by omega) h2.2;have c3:=yz t.outs (decide (t.aZ=3)) (by omega) h3.2;have c4:jk t.outs (decide (t.aZ=3))=0->aH aE 187 [cD t] (.bool (jA t)):=fun hb=>Ln t (wZ hb).1;have hS:iu t=if fc t.name=false then 13 else if jk t.ins false≠0 then jk t.ins false else if jk t.outs (decide (t.aZ=3))≠0 then jk t.outs (decide (t.aZ=3))else if jA t=false then 17 else if 24<t.rules.length then 24 else 0:=rfl
 rw[hS];clear hS;simp only[cD,fg,bP,dV]at c2 c3 c4 ⊢;generalize fc t.name=n at *;generalize jk t.ins false=a at *;generalize jk t.outs (decide (t.aZ=3))=b at *;generalize jA t=p at *;by_cases hb:b=0
 ·have c5:=c4 hb;clear c4;refine aJ wL ?_;intro Q au aA aB;repeat' first|refine aq ?_|refine ak ?_ ?_<;>intro hw<;>try omega|fail
  all_goals (refine aL ?_ rfl;refine congrArg I ?_;simp_all)
  all_goals (try omega)
 ·clear c4;refine aJ wL ?_;intro Q au aA aB;repeat' first|refine aq ?_|refine ak ?_ ?_<;>intro hw<;>try omega|fail
  all_goals first
   | exact bh
   |(refine aL ?_ rfl;refine congrArg I ?_;simp_all;done)
   |(refine aL ?_ rfl;refine congrArg I ?_;simp_all;omega)
def O2(t:Table)(h:l7 t): aH aE 170 [cD t] (I (iu t)):=by
 obtain⟨h1,h2,h3,h4,_⟩:=h;have c1:=rG t.name (by omega);have c2:=Av t.ins false (by omega) h2.2;have c3:=Av t.outs (decide (t.aZ=3)) (by omega) h3.2;have c4:jk t.outs (decide (t.aZ=3))=0->aH aE 209 [cD t] (.bool (jA t)):=fun hb=>Nl t;have hS:iu t=if fc t.name=false then 13 else if jk t.ins false≠0 then jk t.ins false else if jk t.outs (decide (t.aZ=3))≠0 then jk t.outs (decide (t.aZ=3))else if jA t=false then 17 else if 24<t.rules.length then 24 else 0:=rfl
 rw[hS];clear hS;simp only[cD,fg,bP,dV]at c2 c3 c4 ⊢;generalize fc t.name=n at *;generalize jk t.ins false=a at *;generalize jk t.outs (decide (t.aZ=3))=b at *;generalize jA t=p at *;by_cases hb:b=0
 ·have c5:=c4 hb;clear c4;refine aJ x8 ?_;intro Q au aA aB;repeat' first|refine aq ?_|refine ak ?_ ?_<;>intro hw<;>try omega|fail
  all_goals (refine aL ?_ rfl;refine congrArg I ?_;simp_all)
  all_goals (try omega)
 ·clear c4;refine aJ x8 ?_;intro Q au aA aB;repeat' first|refine aq ?_|refine ak ?_ ?_<;>intro hw<;>try omega|fail
  all_goals first
   | exact bh
   |(refine aL ?_ rfl;refine congrArg I ?_;simp_all;done)
   |(refine aL ?_ rfl;refine congrArg I ?_;simp_all;omega)
