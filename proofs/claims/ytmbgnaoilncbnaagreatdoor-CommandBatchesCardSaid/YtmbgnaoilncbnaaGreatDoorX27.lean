/- Part. -/
import Derived.Test.YtmbgnaoilncbnaaGreatDoorX26
set_option linter.all false
namespace Go.Proofs.YtmbgnaoilncbnaaGreatDoor
open Go.AM
set_option maxRecDepth 4000
def aaE(c:Cell): aJ × Bool:=if c.any=true then([45],true)else if c.tests.any j9=true then([],false)else (yh c.neg (vW c.tests),true)
def aaF{l:List Test}{i:Nat}(h:i<l.length): Lib.join ((l.map testW).take (i+1)) nG=if i=0 then testW (l.getD i default)else Lib.join ((l.map testW).take i) nG++nG++testW (l.getD i default):=by
 rw[abW h,abV];by_cases h0:i=0
 ·subst h0;simp
 ·rw[if_neg h0,if_neg];intro h1;have:=congrArg List.length h1;rw[List.length_take,cE,List.length_nil]at this;omega
def X2{c:Cell}(hr:jf c=true)(ha:c.any=false): 1<=c.tests.length/\c.tests.length<=12/\ ∀ t ∈ c.tests,kF t=true:=by
 unfold jf at hr;rw[if_neg (by simp[ha])]at hr;simp only[aF,decide_eq_true_eq,bZ,List.any_eq_false]at hr;exact⟨hr.1.1,hr.1.2,fun t ht=>by have:=hr.2 t ht;simpa using this⟩
def Tx{l:List Test}{i:Nat}(h12:l.length<=12)(h:∀ k,k<i->j9 (l.getD k default)=false): (Lib.join ((l.map testW).take i) nG).length<=12*422:=by
 have h1:=WB (sep:=nG) _ (Y8 (l:=l) (n:=i) (fun k hk _=>h k hk));have h2:((l.map testW).take i).length<=12:=by rw[List.length_take,cE];omega
 simp only[nG,List.length_cons,List.length_nil]at h1;have:((l.map testW).take i).length*(420+(0+1+1))<=12*422:=Nat.mul_le_mul h2 (Nat.le_refl _);unfold nG;omega
set_option maxHeartbeats 4000000 in
def UL(c:Cell)(h:Bn c)(hr:jf c=true): ai Tryz.prog xo [bH c] (.bX [.str (aaE c).1,.bool (aaE c).2]):=by
 have hT:aaE c=if c.any=true then([45],true)else if c.tests.any j9=true then([],false)else (yh c.neg (vW c.tests),true):=rfl
 rw[hT];clear hT;cases ha:c.any with
 | true =>
   rw[if_pos rfl];simp only[bH,fo,ha];refine ai.aG (Dp (by simp) ?_) (by simp);unfold xO aP;intro Q au aA aB;repeat' first|refine aq ?_|refine ak ?_ ?_<;>intro hw<;>try omega|fail
   all_goals exact aT rfl rfl
 | false =>
   rw[if_neg (by simp)];obtain⟨l1,l12,hsd⟩:=X2 hr ha;simp only[bH,fo,ha];refine ai.aG (Dp (by simp) ?_) (by simp);unfold xO aP;intro Q au aA aB;repeat' first|refine aq ?_|refine ak ?_ ?_<;>intro hw<;>try omega|fail
   with_reducible refine bn [2,3,4,5,6,7,8,9,10,11,12,13,14,17,18,19,20,21,22,23,24,25,26,27,28,29,30,31,32,33,34,35,36,37,38,39,40,41,42,43,44,45,46,47,48,49,50,51,52,53,54,55,56,57,58,59,60,61,62,63,64,65,66,67,68,69,70,71,72,73,74,75,76,77,78,79,80,81,82,83,84,85,86,87,88,89,90] (fun q:Nat × List aX=>[(5,I q.1),(4,.str (Lib.join ((c.tests.map testW).take q.1) nG))]) (fun q=> .cells [.bool false,.bool c.neg,.aK false ES (c.tests.map bO)]::q.2) (fun q=>q.1<=c.tests.length/\ ∀ k,k<q.1->j9 (c.tests.getD k default)=false) (fun q=>c.tests.length-q.1) (0,[]) ?_ ?_ ?_ ?_
   ·simp
   ·rfl
   ·simp[cK,dm,Lib.join_nil,fC]
   rintro⟨i,τ⟩ r ⟨h1,h2⟩;dsimp only at h1 h2;by_cases hi:i<c.tests.length
   ·have hmem:=a_ hi;obtain⟨p1,k1,k6,p2⟩:=NI (hsd _ hmem);have hok:=h.2 _ hmem;have Nj:=aaF hi;have hjl:=Tx l12 h2;have bY:=fun he=>bf h2 (i:=i) he;have pW:=fun hb=>DI (p:=j9) hi hb;have hJ0:i=0->Lib.join ((c.tests.map testW).take i) nG=[]:=fun h=>by subst h;rw[eU];exact Lib.join_nil _
    generalize Lib.join ((c.tests.map testW).take i) nG=J at *;obtain⟨t,tE⟩:∃ t,c.tests.getD i default=t:=⟨_,rfl⟩;rw[tE]at Nj bY pW hok p1 p2 k1 k6;have wa:=Jx t.a (wQ p1).1 hok.1.1 hok.1.2 4;have ta:=Ih t.a hok.1.1 hok.1.2;rw[(wQ p1).2]at ta;have la:=Y5 t.a (wQ p1).1 hok.1.1 4;have Y_:=fun hb=>tI (x:=t.a) hb 4;have ND:=Qz t.kind;have o9:(iQ t.kind).length<=2:=by unfold iQ;split;simp;split;simp;split;simp;split<;>simp
    have hzz:=hok.1.2;by_cases h6:t.kind=6
    ·have wb:=Jx t.b (wQ (p2 h6)).1 hok.2.1 hok.2.2 4;have tb:=Ih t.b hok.2.1 hok.2.2;rw[(wQ (p2 h6)).2]at tb;have lb2:=fun hb=>tI (x:=t.b) hb 4;have hW:testW t=Wz t++fq t.a 4++[46,46]++fq t.b 4++WA t:=by unfold testW;rw[if_neg (by omega),if_pos h6]
     have hB:j9 t=(mG t.a || mG t.b):=by unfold j9;rw[decide_eq_true h6,Bool.true_and]
     rw[hW]at Nj;rw[hB]at bY pW;unfold Wz WA at Nj;clear hW hB p1 p2 ND o9 hok;generalize fq t.a 4=sa at *;generalize fq t.b 4=sb at *;generalize cJ t.a=xa at *;generalize cJ t.b=xb at *;generalize mG t.a=ba at *;generalize mG t.b=bb at *;rw[aR]at wa wb ta tb;cases ba<;>simp only[Bool.false_eq_true,if_false,if_true,Bool.true_or,Bool.false_or]at ta Y_ bY pW
     ·have Y_:=Y_ trivial;cases bb<;>simp only[Bool.false_eq_true,if_false,if_true]at tb lb2 bY pW
      ·have lb2:=lb2 trivial;have bY:=bY trivial;repeat' first|simp (disch:=omega) only[go_sem,au,aA,aB,tE]|refine aq ?_|refine aC wa ?_|refine aC ta ?_|refine aC wb ?_|refine aC tb ?_|refine ak ?_ ?_<;>intro hw<;>try omega|fail
       all_goals first
        | (refine ⟨(i + 1, τ ++ [.cells [I t.kind, I t.a.op, I t.a.v.kind, I t.a.v.n, .str t.a.v.s, .str t.a.s, .aK false EX (t.a.l.map aL), I t.b.op, I t.b.v.kind, I t.b.v.n, .str t.b.v.s, .str t.b.s, .aK false EX (t.b.l.map aL), .bool t.lo, .bool t.hi]]), ⟨by dsimp only; omega, bY⟩, by dsimp only; omega, by first | rfl | (simp [go_sem]; done), bJ, ?_⟩
           dsimp only;rw[Nj];first|(rw[if_pos (by omega)];obtain rfl:=hJ0 (by omega))|rw[if_neg (by omega)]
           simp (disch:=omega) only[dm,cK,and_true,go_sem,au,aA,aB,Int.natCast_add,Int.cast_ofNat_Int]<;>(try trivial)<;>(try omega)<;>(try (repeat (first|trivial|(refine And.intro ?_ ?_)|(congr 1;omega))));all_goals (clear au aA aB;simp_all[nG];done))
        |(exfalso;omega)
      ·have pW:=pW trivial;simp only[pW,if_true]at au aA aB;repeat' first|simp (disch:=omega) only[go_sem,au,aA,aB,tE]|refine aq ?_|refine aC wa ?_|refine aC ta ?_|refine aC wb ?_|refine aC tb ?_|refine ak ?_ ?_<;>intro hw<;>try omega|fail
       all_goals first|exact aT rfl rfl|exact aY
     ·have pW:=pW trivial;simp only[pW,if_true]at au aA aB;repeat' first|simp (disch:=omega) only[go_sem,au,aA,aB,tE]|refine aq ?_|refine aC wa ?_|refine aC ta ?_|refine aC wb ?_|refine aC tb ?_|refine ak ?_ ?_<;>intro hw<;>try omega|fail
      all_goals first|exact aT rfl rfl|exact aY
    ·have hW:testW t=if t.kind=1 then fq t.a 4 else iQ t.kind++[32]++fq t.a 4:=by unfold testW;rw[if_neg h6]
     have hB:j9 t=mG t.a:=by unfold j9;rw[decide_eq_false h6,Bool.false_and,Bool.or_false]
     rw[hW]at Nj;rw[hB]at bY pW;clear hW hB p1 p2 hok;generalize fq t.a 4=sa at *;generalize cJ t.a=xa at *;generalize mG t.a=ba at *;generalize iQ t.kind=sg at *;rw[aR]at wa ta;cases ba<;>simp only[Bool.false_eq_true,if_false,if_true]at ta Y_ bY pW
     ·have Y_:=Y_ trivial;have bY:=bY trivial;repeat' first|simp (disch:=omega) only[go_sem,au,aA,aB,tE]|refine aq ?_|refine aC wa ?_|refine aC ta ?_|refine aC ND ?_|refine ak ?_ ?_<;>intro hw<;>try omega|fail
      all_goals first
       | (refine ⟨(i + 1, τ ++ [.cells [I t.kind, I t.a.op, I t.a.v.kind, I t.a.v.n, .str t.a.v.s, .str t.a.s, .aK false EX (t.a.l.map aL), I t.b.op, I t.b.v.kind, I t.b.v.n, .str t.b.v.s, .str t.b.s, .aK false EX (t.b.l.map aL), .bool t.lo, .bool t.hi]]), ⟨by dsimp only; omega, bY⟩, by dsimp only; omega, by first | rfl | (simp [go_sem]; done), bJ, ?_⟩
          dsimp only;rw[Nj];first|(rw[if_pos (by omega)];obtain rfl:=hJ0 (by omega))|rw[if_neg (by omega)]
          simp (disch:=omega) only[dm,cK,and_true,go_sem,au,aA,aB,Int.natCast_add,Int.cast_ofNat_Int]<;>(try trivial)<;>(try omega)<;>(try (repeat (first|trivial|(refine And.intro ?_ ?_)|(congr 1;omega))));all_goals (clear au aA aB;simp_all[nG];done))
       |(exfalso;omega)
     ·have pW:=pW trivial;simp only[pW,if_true]at au aA aB;repeat' first|simp (disch:=omega) only[go_sem,au,aA,aB,tE]|refine aq ?_|refine aC wa ?_|refine aC ta ?_|refine aC ND ?_|refine ak ?_ ?_<;>intro hw<;>try omega|fail
      all_goals first|exact aT rfl rfl|exact aY
   ·have uz:(c.tests.map testW).take i=c.tests.map testW:=br (by simp;omega);have hnb:c.tests.any j9=false:=zj (p:=j9) (fun k hk=>h2 k (by omega));have hjl:=Tx l12 h2;rw[uz]at hjl ⊢;simp only[hnb,Bool.false_eq_true,if_false,vW]at au aA aB;obtain⟨J,hJ⟩:∃ J,Lib.join (c.tests.map testW) nG=J:=⟨_,rfl⟩;rw[hJ]at hjl ⊢;simp only[hJ]at au aA aB;clear hJ;cases hn:c.neg with
    | true =>
      simp only[hn,yh,if_true]at au aA aB;repeat' first|refine aq ?_|refine ak ?_ ?_<;>intro hw<;>try omega|fail
      all_goals first|(refine aT ?_ rfl;simp;done)|exact aY
    | false =>
      simp only[hn,yh,Bool.false_eq_true,if_false]at au aA aB;repeat' first|refine aq ?_|refine ak ?_ ?_<;>intro hw<;>try omega|fail
      all_goals first|exact aT rfl rfl|exact aY
def aaG(c:Cell)(h:Bn c): ai Tryz.prog xm [bH c] (.bX [.str (Ij c).1,I (Ij c).2]):=by
 have uI:=FB c h.ok
 have hT:Ij c=if jf c=false then([],2)else if c.any=true then([45],0)else if c.tests.any j9=true then([],5)
  else if 200<(yh c.neg (vW c.tests)).length then([],5)else (yh c.neg (vW c.tests),0):=rfl
 rw[hT];clear hT;have hw:=fun hr=>UL c h hr;have hWT:aaE c=if c.any=true then([45],true)else if c.tests.any j9=true then([],false)else (yh c.neg (vW c.tests),true):=rfl
 rw[hWT]at hw;clear hWT;generalize yh c.neg (vW c.tests)=s at *;generalize c.tests.any j9=bg at *;cases hr:jf c with
 | false =>
   rw[hr]at uI;rw[if_pos rfl];simp only[bH,fo]at uI ⊢;refine ai.aG (q_ (by simp) ?_) (by simp);unfold pO aP;intro Q au aA aB;repeat' first|refine aq ?_|refine aC uI ?_|refine ak ?_ ?_<;>intro hw<;>try omega|fail
   all_goals exact aT rfl rfl
 | true =>
   have hw:=hw hr;rw[hr]at uI;rw[if_neg (by simp)];cases ha:c.any with
   | true =>
     rw[ha]at hw;simp only[if_true]at hw ⊢;simp only[bH,fo,ha]at uI hw ⊢;refine ai.aG (q_ (by simp) ?_) (by simp);unfold pO aP;intro Q au aA aB;repeat' first|refine aq ?_|refine aC uI ?_|refine aC hw ?_|refine ak ?_ ?_<;>intro hw<;>try omega|fail
     all_goals first|exact aT rfl rfl|exact aY
   | false =>
     rw[ha]at hw;simp only[Bool.false_eq_true,if_false]at hw ⊢;cases bg with
     | true =>
       simp only[if_true]at hw ⊢;simp only[bH,fo,ha]at uI hw ⊢;refine ai.aG (q_ (by simp) ?_) (by simp);unfold pO aP;intro Q au aA aB;repeat' first|refine aq ?_|refine aC uI ?_|refine aC hw ?_|refine ak ?_ ?_<;>intro hw<;>try omega|fail
       all_goals first|exact aT rfl rfl|exact aY
     | false =>
       simp only[Bool.false_eq_true,if_false]at hw ⊢;simp only[bH,fo,ha]at uI hw ⊢;by_cases hb:200<s.length
       ·rw[if_pos hb];refine ai.aG (q_ (by simp) ?_) (by simp);unfold pO aP;intro Q au aA aB;repeat' first|refine aq ?_|refine aC uI ?_|refine aC hw ?_|refine ak ?_ ?_<;>intro hw<;>try omega|fail
        all_goals first|exact aT rfl rfl|exact aY
       ·rw[if_neg hb];refine ai.aG (q_ (by simp) ?_) (by simp);unfold pO aP;intro Q au aA aB;repeat' first|refine aq ?_|refine aC uI ?_|refine aC hw ?_|refine ak ?_ ?_<;>intro hw<;>try omega|fail
        all_goals first|exact aT rfl rfl|exact aY
def Bo (fn : FuncId) (cap : List AV) (hcap : AV.cy cap = true) (p : cI -> Bool) (l : List cI) (h : ∀ k, k < l.length -> ai Tryz.prog fn (bE (l.getD k default) :: cap) (.bool (p (l.getD k default)))) (hl : l.length <= 2 ^ 62) :
    ai Tryz.prog lg [bB l,.fn (.func fn) [] cap] (.bool (l.any p)):=by
 refine ai.aG (yo (by simp) ?_) (by simp[AV.dn,AV.cy,hcap,eT]);unfold pQ aP;intro Q au aA aB;have hc:=uH fn cap hcap p l h hl;simp only[bB]at hc;repeat' first|refine aq ?_|refine aC hc ?_|refine ak ?_ ?_<;>intro hw<;>try omega|fail
 all_goals refine aM ?_ rfl
 all_goals rw[<-HV]
def uJ (fn : FuncId) (cap : List AV) (hcap : AV.cy cap = true) (p : cI -> cI -> Bool) (l m : List cI)
    (h:∀ k,k<l.length->k<m.length->ai Tryz.prog fn (bE (l.getD k default)::bE (m.getD k default)::cap) (.bool (p (l.getD k default) (m.getD k default)))) (hl:l.length<=2 ^ 62) (hm:m.length<=2 ^ 62) :
    ai Tryz.prog j4 [bB l,bB m,.fn (.func fn) [] cap] (.bool (gx p l m)):=by
 refine ai.aG (Ba (by simp) ?_) (by simp[AV.dn,AV.cy,hcap,eT]);unfold sx aP;intro Q au aA aB;repeat' first|refine aq ?_|refine ak ?_ ?_<;>intro hw<;>try omega|fail
 ·refine aM ?_ rfl;rw[ou (by omega)]
 have hlm:l.length=m.length:=by omega
 with_reducible refine bn [6,7,8,9,17,18,19,20,21,22,23,24,25,26,27,28,29,30,31] (fun p:Nat × List aX=>[(17,I p.1)]) (fun p=>p.2) (fun q=>q.1<=l.length/\ ∀ k,k<q.1->p (l.getD k default) (m.getD k default)=true) (fun p=>l.length-p.1) (0,[]) ?_ ?_ ?_ ?_
 ·simp
 ·rfl
 ·exact at_
 rintro⟨i,τ⟩ r ⟨h1,h2⟩;dsimp only at h1 h2;by_cases hi:i<l.length
 ·have hy:=h i hi (by omega);simp only[bO,bE,cN,mV,bH,cw,fo,cH,eR,rj]at hy;repeat' first|refine aq ?_|refine aC hy ?_|refine ak ?_ ?_<;>intro hw<;>try omega|fail
  ·refine aM ?_ rfl;rw[rq hi hw (by omega)]
  ·refine⟨(i+1,τ++[.cells [.str (l.getD i default).name,I (l.getD i default).kind,.aK false EV ((l.getD i default).order.map iJ)]]++[.cells [.str (m.getD i default).name,I (m.getD i default).kind,.aK false EV ((m.getD i default).order.map iJ)]]),?_,?_,by first|rfl|(simp[go_sem];done),bJ,at_⟩<;>(try dsimp only)
   ·exact⟨by omega,bf h2 hw⟩
   ·omega
 ·repeat' first|refine aq ?_|refine ak ?_ ?_<;>intro hw<;>try omega|fail
  refine aM ?_ rfl;rw[ow hlm (fun k hk=>h2 k (by omega))]
def GX (fn : FuncId) (cap : List AV) (hcap : AV.cy cap = true) (p : dO -> dO -> Bool) (l m : List dO)
    (h:∀ k,k<l.length->k<m.length->ai Tryz.prog fn (cN (l.getD k default)::cN (m.getD k default)::cap) (.bool (p (l.getD k default) (m.getD k default)))) (hl:l.length<=2 ^ 62) (hm:m.length<=2 ^ 62) :
    ai Tryz.prog nV [cW l,cW m,.fn (.func fn) [] cap] (.bool (gx p l m)):=by
 refine ai.aG (Dj (by simp) ?_) (by simp[AV.dn,AV.cy,hcap,oM]);unfold uD aP;intro Q au aA aB;repeat' first|refine aq ?_|refine ak ?_ ?_<;>intro hw<;>try omega|fail
 ·refine aM ?_ rfl;rw[ou (by omega)]
 have hlm:l.length=m.length:=by omega
 with_reducible refine bn [6,7,8,9,17,18,19,20,21,22,23,24,25,26,27,28,29,30,31] (fun p:Nat × List aX=>[(17,I p.1)]) (fun p=>p.2) (fun q=>q.1<=l.length/\ ∀ k,k<q.1->p (l.getD k default) (m.getD k default)=true) (fun p=>l.length-p.1) (0,[]) ?_ ?_ ?_ ?_
 ·simp
 ·rfl
 ·exact at_
 rintro⟨i,τ⟩ r ⟨h1,h2⟩;dsimp only at h1 h2;by_cases hi:i<l.length
 ·have hy:=h i hi (by omega);simp only[bO,bE,cN,mV,bH,cw,fo,cH,eR,rj]at hy;repeat' first|refine aq ?_|refine aC hy ?_|refine ak ?_ ?_<;>intro hw<;>try omega|fail
  ·refine aM ?_ rfl;rw[rq hi hw (by omega)]
  ·refine⟨(i+1,τ++[.cells [.aK false E1 ((l.getD i default).cells.map cS),.aK false E1 ((l.getD i default).outs.map cS)]]++[.cells [.aK false E1 ((m.getD i default).cells.map cS),.aK false E1 ((m.getD i default).outs.map cS)]]),?_,?_,by first|rfl|(simp[go_sem];done),bJ,at_⟩<;>(try dsimp only)
   ·exact⟨by omega,bf h2 hw⟩
   ·omega
 ·repeat' first|refine aq ?_|refine ak ?_ ?_<;>intro hw<;>try omega|fail
  refine aM ?_ rfl;rw[ow hlm (fun k hk=>h2 k (by omega))]
def Mr(v u:eg): (v==u)=((v.kind==u.kind) && (v.n==u.n) && (v.s==u.s)):=by
 obtain⟨a,b,c⟩:=v;obtain⟨d,e,f⟩:=u;rw[aV];simp[and_assoc]
def LG(l:List eg)(v:eg)(hl:l.length<=2 ^ 60): ai Tryz.prog qE [cH l,iJ v] (I (jI (fun x=>x==v) l)):=by
 simp only[cH,iJ];refine ai.aG (GB (by simp) ?_) (by simp);unfold xU aP;intro Q au aA aB;repeat' first|refine aq ?_|refine ak ?_ ?_<;>intro hw<;>try omega|fail
 with_reducible refine bn [4,5,8,9,10,11,12,13,14,15,16,17,18] (fun i:Nat=>[(8,I i)]) (fun _=>[.cells [I v.kind,I v.n,.str v.s]]) (fun i=>i<=l.length/\ ∀ k,k<i->(l.getD k default==v)=false) (fun i=>l.length-i) (0) ?_ ?_ ?_ ?_
 ·simp
 ·rfl
 ·exact at_
 rintro i r ⟨h1,h2⟩;by_cases hi:i<l.length
 ·obtain⟨u,hu⟩:∃ u,l.getD i default=u:=⟨_,rfl⟩;have hb:=Mr u v;repeat' first|simp (disch:=omega) only[go_sem,au,aA,aB,hu]|refine aq ?_|refine ak ?_ ?_<;>intro hw<;>try omega|fail
  ·refine aM ?_ rfl;refine congrArg I ?_;exact(pR (p:=fun x=>x==v) hi h2 (by rw[hu,hb];simp_all)).symm
  ·refine⟨i+1,?_,?_,by first|rfl|(simp[go_sem];done),bJ,at_⟩<;>(try dsimp only)
   ·exact⟨by omega,bf h2 (by rw[hu,hb,<-Bool.not_eq_true];simp only[<-Bool.not_eq_true,aF,beq_iff_eq,not_and]at hw ⊢;intro c;exact fun d=>hw ⟨c.1.symm,c.2.symm⟩ d.symm)⟩
   ·omega
 ·repeat' first|refine aq ?_|refine ak ?_ ?_<;>intro hw<;>try omega|fail
  refine aM ?_ rfl;refine congrArg I ?_;exact(oN (p:=fun x=>x==v) fun k hk=>h2 k (by omega)).symm
def Ai(l m:List eg)(hl:l.length<=2 ^ 60)(hm:m.length<=2 ^ 60): ai Tryz.prog mQ [cH l,cH m] (.bool (gx (fun a b=>a==b) l m)):=by
 simp only[cH];refine ai.aG (Gj (by simp) ?_) (by simp);unfold xN aP;intro Q au aA aB;repeat' first|refine aq ?_|refine ak ?_ ?_<;>intro hw<;>try omega|fail
 ·refine aM ?_ rfl;rw[ou (by omega)]
 have hlm:l.length=m.length:=by omega
 with_reducible refine bn [4,5,13,14,15,16,17,18,19,20,21,22,23,24,25] (fun i:Nat=>[(13,I i)]) (fun _=>[]) (fun i=>i<=l.length/\ ∀ k,k<i->(l.getD k default==m.getD k default)=true) (fun i=>l.length-i) (0) ?_ ?_ ?_ ?_
 ·simp
 ·rfl
 ·exact at_
 rintro i r ⟨h1,h2⟩;by_cases hi:i<l.length
 ·have hb:=Mr (l.getD i default) (m.getD i default);repeat' first|refine aq ?_|refine ak ?_ ?_<;>intro hw<;>try omega|fail
  ·refine aM ?_ rfl;rw[rq (p:=fun a b=>a==b) hi (by rw[hb,<-Bool.not_eq_true];simp_all) (by omega)]
  ·refine⟨i+1,?_,?_,by first|rfl|(simp[go_sem];done),bJ,at_⟩<;>(try dsimp only)
   ·exact⟨by omega,bf h2 (by rw[hb];simp_all)⟩
   ·omega
 ·repeat' first|refine aq ?_|refine ak ?_ ?_<;>intro hw<;>try omega|fail
  refine aM ?_ rfl;rw[ow (p:=fun a b=>a==b) hlm (fun k hk=>h2 k (by omega))]
def yK(l m:List aJ)(hl:l.length<=2 ^ 60)(hm:m.length<=2 ^ 60): ai Tryz.prog mb [eR l,eR m] (.bool (gx (fun a b=>a==b) l m)):=by
 simp only[eR];refine ai.aG (Ft (by simp) ?_) (by simp);unfold wI aP;intro Q au aA aB;repeat' first|refine aq ?_|refine ak ?_ ?_<;>intro hw<;>try omega|fail
 ·refine aM ?_ rfl;rw[ou (by omega)]
 have hlm:l.length=m.length:=by omega
 with_reducible refine bn [4,5,13,14,15,16,17,18,19,20,21,22,23,24,25] (fun i:Nat=>[(13,I i)]) (fun _=>[]) (fun i=>i<=l.length/\ ∀ k,k<i->(l.getD k default==m.getD k default)=true) (fun i=>l.length-i) (0) ?_ ?_ ?_ ?_
 ·simp
 ·rfl
 ·exact at_
 rintro i r ⟨h1,h2⟩;by_cases hi:i<l.length
 ·repeat' first|refine aq ?_|refine ak ?_ ?_<;>intro hw<;>try omega|fail
  ·refine aM ?_ rfl;rw[rq (p:=fun a b=>a==b) hi (by rw[<-Bool.not_eq_true];simp_all) (by omega)]
  ·refine⟨i+1,?_,?_,by first|rfl|(simp[go_sem];done),bJ,at_⟩<;>(try dsimp only)
   ·exact⟨by omega,bf h2 (by simp_all)⟩
   ·omega
 ·repeat' first|refine aq ?_|refine ak ?_ ?_<;>intro hw<;>try omega|fail
  refine aM ?_ rfl;rw[ow (p:=fun a b=>a==b) hlm (fun k hk=>h2 k (by omega))]
def E9(l m:List aJ)(hl:l.length<=2 ^ 60)(hm:m.length<=2 ^ 60): ai Tryz.prog pq [eR l,eR m] (.bool (gx (fun a b=>a==b) l m)):=by
 simp only[eR];refine ai.aG (Ku (by simp) ?_) (by simp);unfold Bt aP;intro Q au aA aB;repeat' first|refine aq ?_|refine ak ?_ ?_<;>intro hw<;>try omega|fail
 ·refine aM ?_ rfl;rw[ou (by omega)]
 have hlm:l.length=m.length:=by omega
 with_reducible refine bn [4,5,11,12,13,14,15,16,17,18,19,20,21,22,23,24,25] (fun i:Nat=>[(5,I i)]) (fun _=>[]) (fun i=>i<=l.length/\ ∀ k,k<i->(l.getD k default==m.getD k default)=true) (fun i=>l.length-i) (0) ?_ ?_ ?_ ?_
 ·simp
 ·rfl
 ·exact at_
 rintro i r ⟨h1,h2⟩;by_cases hi:i<l.length
 ·repeat' first|refine aq ?_|refine ak ?_ ?_<;>intro hw<;>try omega|fail
  ·refine aM ?_ rfl;rw[rq (p:=fun a b=>a==b) hi (by rw[<-Bool.not_eq_true];simp_all) (by omega)]
  ·refine⟨i+1,?_,?_,by first|rfl|(simp[go_sem];done),bJ,at_⟩<;>(try dsimp only)
   ·exact⟨by omega,bf h2 (by simp_all)⟩
   ·omega
 ·repeat' first|refine aq ?_|refine ak ?_ ?_<;>intro hw<;>try omega|fail
  refine aM ?_ rfl;rw[ow (p:=fun a b=>a==b) hlm (fun k hk=>h2 k (by omega))]
def Jy(l m:List eg)(hl:l.length<=2 ^ 60)(hm:m.length<=2 ^ 60): ai Tryz.prog sn [cH l,cH m] (.bool (gx (fun a b=>a==b) l m)):=by
 simp only[cH];refine ai.aG (Om (by simp) ?_) (by simp);unfold EF aP;intro Q au aA aB;repeat' first|refine aq ?_|refine ak ?_ ?_<;>intro hw<;>try omega|fail
 ·refine aM ?_ rfl;rw[ou (by omega)]
 have hlm:l.length=m.length:=by omega
 with_reducible refine bn [4,5,11,12,13,14,15,16,17,18,19,20,21,22,23,24,25] (fun i:Nat=>[(5,I i)]) (fun _=>[]) (fun i=>i<=l.length/\ ∀ k,k<i->(l.getD k default==m.getD k default)=true) (fun i=>l.length-i) (0) ?_ ?_ ?_ ?_
 ·simp
 ·rfl
 ·exact at_
 rintro i r ⟨h1,h2⟩;by_cases hi:i<l.length
 ·have hb:=Mr (l.getD i default) (m.getD i default);repeat' first|refine aq ?_|refine ak ?_ ?_<;>intro hw<;>try omega|fail
  ·refine aM ?_ rfl;rw[rq (p:=fun a b=>a==b) hi (by rw[hb,<-Bool.not_eq_true];simp_all) (by omega)]
  ·refine⟨i+1,?_,?_,by first|rfl|(simp[go_sem];done),bJ,at_⟩<;>(try dsimp only)
   ·exact⟨by omega,bf h2 (by rw[hb];simp_all)⟩
   ·omega
 ·repeat' first|refine aq ?_|refine ak ?_ ?_<;>intro hw<;>try omega|fail
  refine aM ?_ rfl;rw[ow (p:=fun a b=>a==b) hlm (fun k hk=>h2 k (by omega))]
def wq(c:cI)(k:Nat): Bool:=bL (c.order.getD k default) && decide ((c.order.getD k default).kind=c.kind) && decide (jI (fun x=>x==c.order.getD k default) c.order=k)
def iR(c:cI)(asked:Bool): Bool :=
 if asked then(List.range c.order.length).all (wq c) && decide (1<=c.order.length/\c.order.length<=8)else decide (c.order.length=0)
def uq(c:cI): Prop:=c.name.length<=2 ^ 62/\c.order.length<=2 ^ 60/\ ∀ v ∈ c.order,(-9223372036854775808<=v.n/\v.n<=9223372036854775807)/\v.s.length<=2 ^ 62
def E_{c:cI}{i:Nat}(hi:i<c.order.length)(h:wq c i=false): iR c true=false:=by
 unfold iR;rw[if_pos rfl]
 have:(List.range c.order.length).all (wq c)=false:=by
  rw[List.all_eq_false];exact⟨i,by simpa using hi,by simp[h]⟩
 rw[this];rfl
def QO{c:cI}(h:∀ k,k<c.order.length->wq c k=true): iR c true=decide (1<=c.order.length/\c.order.length<=8):=by
 unfold iR;rw[if_pos rfl]
 have:(List.range c.order.length).all (wq c)=true:=by
  rw[bx];intro k hk;exact h k (by simpa using hk)
 rw[this];rfl
def WC(c:cI)(b:Bool)(h:uq c): ai Tryz.prog y4 [bE c,.bool b] (.bool (iR c b)):=by
 obtain⟨_,hl,hv⟩:=h;simp only[bE,cH];cases b with
 | false =>
   have hS:iR c false=decide (c.order.length=0):=rfl;rw[hS];refine ai.aG (EP (by simp) ?_) (by simp);unfold zc aP;intro Q au aA aB;repeat' first|refine aq ?_|refine ak ?_ ?_<;>intro hw<;>try omega|fail
   refine aM ?_ rfl;refine congrArg AV.bool ?_;rw[aV];simp_all
 | true =>
   refine ai.aG (EP (by simp) ?_) (by simp);unfold zc aP;intro Q au aA aB;repeat' first|refine aq ?_|refine ak ?_ ?_<;>intro hw<;>try omega|fail
   with_reducible refine bn [4,5,6,16,17,18,19,20,21,22,23,24,25,26,27,28,29,30,31,32,33,34,35,36,37,38,39] (fun q:Nat × List aX=>[(16,I q.1)]) (fun q=> .cells [.str c.name,I c.kind,.aK false EV (c.order.map iJ)]::q.2) (fun q=>q.1<=c.order.length/\ ∀ k,k<q.1->wq c k=true) (fun q=>c.order.length-q.1) (0,[]) ?_ ?_ ?_ ?_
   ·simp
   ·rfl
   ·exact at_
   rintro⟨i,τ⟩ r ⟨h1,h2⟩;dsimp only at h1 h2;by_cases hi:i<c.order.length
   ·have Za:=hv _ (a_ hi);have hO:wq c i=(bL (c.order.getD i default) && decide ((c.order.getD i default).kind=c.kind) && decide (jI (fun x=>x==c.order.getD i default) c.order=i)):=rfl;obtain⟨v,LH⟩:∃ v,c.order.getD i default=v:=⟨_,rfl⟩;rw[LH]at Za hO;have c1:=nc v.kind v.n v.s Za.1.1 Za.1.2;have c2:=LG c.order v hl;rw[show (⟨v.kind,v.n,v.s⟩:eg)=v from rfl]at c1;simp only[cH,iJ]at c2;generalize jI (fun x=>x==v) c.order=ix at *;cases Aj:bL v;all_goals (rw[Aj]at c1 hO;simp only[mX,Bool.false_eq_true,if_false,if_true]at c1)
    ·repeat' first|simp (disch:=omega) only[go_sem,au,aA,aB,LH]|refine aq ?_|refine aC c1 ?_|refine aC c2 ?_|refine ak ?_ ?_<;>intro hw<;>try omega|fail
     all_goals (refine aM ?_ rfl;rw[E_ hi (by rw[hO];rfl)])
    ·repeat' first|simp (disch:=omega) only[go_sem,au,aA,aB,LH]|refine aq ?_|refine aC c1 ?_|refine aC c2 ?_|refine ak ?_ ?_<;>intro hw<;>try omega|fail
     all_goals first
      |(refine aM ?_ rfl;rw[E_ hi (by rw[hO];simp_all;done)])
      | (refine ⟨(i + 1, τ ++ [.cells [I v.kind, I v.n, .str v.s]]), ?_, ?_, by first | rfl | (simp [go_sem]; done), bJ, at_⟩ <;> (try dsimp only)
         ·exact⟨by omega,bf h2 (by rw[hO];simp_all)⟩
         ·omega)
   ·repeat' first|refine aq ?_|refine ak ?_ ?_<;>intro hw<;>try omega|fail
    all_goals (refine aM ?_ rfl;rw[QO (fun k hk=>h2 k (by omega))];refine congrArg AV.bool ?_;rw[aV];simp_all)
    all_goals (try omega)
def aeM{α : Type}[Inhabited α]{p : α->Bool}{l:List α}: ∀ {k:Nat},k<l.length->p (l.getD k default)=true->jI p l<=k:=by
 intro k
 induction k using Nat.strongRecOn with
 | _ k ih =>
   intro hk h;by_cases ha:∀ j,j<k->p (l.getD j default)=false
   ·rw[pR hk ha h];exact Int.le_refl _
   ·simp only[Classical.not_forall]at ha;obtain⟨j,hj,hn⟩:=ha;have:=ih j hj (by omega) (by simpa using hn);omega
def adx{c:cI}{k i:Nat}(hk:k<i)(hi:i<c.order.length)(h:(c.order.getD k default==c.order.getD i default)=true): wq c i=false:=by
 have:=aeM (p:=fun x=>x==c.order.getD i default) (l:=c.order) (k:=k) (by omega) h;unfold wq;rw[Bool.and_eq_false_iff];exact .inr (decide_eq_false (by omega))
def aeN{c:cI}{i:Nat}(hi:i<c.order.length)(h:∀ k,k<i->(c.order.getD k default==c.order.getD i default)=false)(hr:bL (c.order.getD i default)=true)(hk:(c.order.getD i default).kind=c.kind): wq c i=true:=by
 have:=pR (p:=fun x=>x==c.order.getD i default) (l:=c.order) hi h (by simp);unfold wq;rw[this,hr,hk];simp
def aeO{c:cI}{i:Nat}(h:bL (c.order.getD i default)=false\/(c.order.getD i default).kind≠c.kind): wq c i=false:=by
 unfold wq;rcases h with h|h
 ·rw[h];rfl
 ·rw[decide_eq_false h,eA];rfl
def X3(c:cI)(b:Bool)(h:uq c): ai Tryz.prog A2 [bE c,.bool b] (.bool (iR c b)):=by
 obtain⟨_,hl,hv⟩:=h;simp only[bE,cH];cases b with
 | false =>
   have hS:iR c false=decide (c.order.length=0):=rfl;rw[hS];refine ai.aG (GA (by simp) ?_) (by simp);unfold Bh aP;intro Q au aA aB;repeat' first|refine aq ?_|refine ak ?_ ?_<;>intro hw<;>try omega|fail
   refine aM ?_ rfl;refine congrArg AV.bool ?_;rw[aV];simp_all
 | true =>
   refine ai.aG (GA (by simp) ?_) (by simp);unfold Bh aP;intro Q au aA aB;repeat' first|refine aq ?_|refine ak ?_ ?_<;>intro hw<;>try omega|fail
   with_reducible refine bn [4,5,6,13,14,15,16,17,18,19,20,21,22,23,24,25,26,27,28,29,30,31,32,33,34,35,36,37,38,39,40,41,42,43,44,45,46,47,48,49,50,51,52,53] (fun i:Nat=>[(5,I i)]) (fun _=>[.cells [.str c.name,I c.kind,.aK false EV (c.order.map iJ)]]) (fun i=>i<=c.order.length/\ ∀ k,k<i->wq c k=true) (fun i=>c.order.length-i) (0) ?_ ?_ ?_ ?_
   ·simp
   ·rfl
   ·exact at_
   rintro i r ⟨h1,h2⟩;by_cases hi:i<c.order.length
   ·have Za:=hv _ (a_ hi);have hno:=fun h=>E_ hi (aeO (c:=c) (i:=i) h);have agn:=fun k hk h=>E_ hi (adx (c:=c) (k:=k) (i:=i) hk hi h);have hok:=fun h hr hk=>bf h2 (aeN (c:=c) hi h hr hk);obtain⟨v,LH⟩:∃ v,c.order.getD i default=v:=⟨_,rfl⟩;rw[LH]at Za hno agn hok;have c1:=rN v.kind v.n v.s Za.2;rw[show (⟨v.kind,v.n,v.s⟩:eg)=v from rfl]at c1;cases Aj:bL v;all_goals rw[Aj]at c1
    ·repeat' first|simp (disch:=omega) only[go_sem,au,aA,aB,LH]|refine aq ?_|refine aC c1 ?_|refine ak ?_ ?_<;>intro hw<;>try omega|fail
     all_goals (refine aM ?_ rfl;rw[hno (.inl Aj)])
    ·repeat' first|simp (disch:=omega) only[go_sem,au,aA,aB,LH]|refine aq ?_|refine aC c1 ?_|refine ak ?_ ?_<;>intro hw<;>try omega|fail
     ·refine aM ?_ rfl;rw[hno (.inr (by simp_all))]
     with_reducible refine bn [4,6,38,39,40,41,42,43,44,45,46,47,48,49,50,51,52,53] (fun k:Nat=>[(6,I k)]) (fun _=>[.cells [.str c.name,I c.kind,.aK false EV (c.order.map iJ)]]) (fun k=>k<=i/\ ∀ j,j<k->(c.order.getD j default==v)=false) (fun k=>i-k) (0) ?_ ?_ ?_ ?_
     ·simp
     ·rfl
     ·exact at_
     rintro k r2 ⟨g1,g2⟩;by_cases hk:k<i
     ·have hdk:=agn k hk;have hgk:=bf (i:=k) g2;obtain⟨u,ago⟩:∃ u,c.order.getD k default=u:=⟨_,rfl⟩;rw[ago]at hdk hgk;have hb:=Mr u v;repeat' first|simp (disch:=omega) only[go_sem,au,aA,aB,LH,ago]|refine aq ?_|refine ak ?_ ?_<;>intro hw<;>try omega|fail
      ·refine aM ?_ rfl;rw[hdk (by rw[hb];simp_all)]
      ·refine⟨k+1,?_,?_,by first|rfl|(simp[go_sem];done),bJ,at_⟩<;>(try dsimp only)
       ·exact⟨by omega,hgk (by rw[hb,<-Bool.not_eq_true];simp_all)⟩
       ·omega
     ·repeat' first|refine aq ?_|refine ak ?_ ?_<;>intro hw<;>try omega|fail
      refine⟨i+1,?_,?_,by first|rfl|(simp[go_sem];done),bJ,at_⟩<;>(try dsimp only)
      ·exact⟨by omega,hok (fun j hj=>g2 j (by omega)) Aj (by simp_all)⟩
      ·omega
   ·repeat' first|refine aq ?_|refine ak ?_ ?_<;>intro hw<;>try omega|fail
    all_goals (refine aM ?_ rfl;rw[QO (fun k hk=>h2 k (by omega))];refine congrArg AV.bool ?_;rw[aV];simp_all)
    all_goals (try omega)
def jS(l:List cI)(b:Bool): Int:=if jn l≠0 then jn l else if l.length=0\/(l.any fun c=> !(iR c b))=true then 17 else 0
def OV(c:cI)(b:Bool)(h:uq c): ai Tryz.prog oI [bE c,.fR E1 (.bool b) 0] (.bool (!(iR c b))):=by
 have h1:=WC c b h;simp only[bE,cH]at h1 ⊢;generalize iR c b=o at *;refine ai.aG (JM (by simp) ?_) (by simp);unfold zY aP;intro Q au aA aB;repeat' first|refine aq ?_|refine aC h1 ?_|refine ak ?_ ?_<;>intro hw<;>try omega|fail
 all_goals exact aM rfl rfl
def GY(l:List cI)(b:Bool)(hl:l.length<=2 ^ 60)(h:∀ c ∈ l,uq c): ai Tryz.prog qC [bB l,.bool b] (I (jS l b)):=by
 have h1:=So l (fun k hk=>(h _ (a_ hk)).1);have h2:=Bo oI [.fR E1 (.bool b) 0] rfl (fun c=> !(iR c b)) l (fun k hk=>OV _ b (h _ (a_ hk))) (by omega);have hS:jS l b=if jn l≠0 then jn l else if l.length=0\/(l.any fun c=> !(iR c b))=true then 17 else 0:=rfl
 rw[hS];clear hS;simp only[bB]at h1 h2 ⊢;generalize (l.any fun c=> !(iR c b))=an at *;generalize jn l=cs at *;refine ai.aG (MQ (by simp) ?_) (by simp);unfold Dq aP;intro Q au aA aB;repeat' first|refine aq ?_|refine aC h1 ?_|refine Td h2 ?_|refine ak ?_ ?_<;>intro hw<;>try omega|fail
 all_goals (refine aM ?_ rfl;refine congrArg I ?_;simp_all[<-List.length_eq_zero_iff])
 all_goals (try omega)
def Jz(l:List cI)(b:Bool)(hl:l.length<=2 ^ 60)(h:∀ c ∈ l,uq c): ai Tryz.prog sv [bB l,.bool b] (I (jS l b)):=by
 have h1:=UI l (fun k hk=>(h _ (a_ hk)).1);have hS:jS l b=if jn l≠0 then jn l else if l.length=0\/(l.any fun c=> !(iR c b))=true then 17 else 0:=rfl
 rw[hS];clear hS;simp only[bB]at h1 ⊢;generalize jn l=cs at *;refine ai.aG (Ow (by simp) ?_) (by simp);unfold EN aP;intro Q au aA aB;repeat' first|refine aq ?_|refine aC h1 ?_|refine ak ?_ ?_<;>intro hw<;>try omega|fail
 ·refine aM ?_ rfl;refine congrArg I ?_;rw[if_pos (by omega)]
 have hcs:¬ cs≠0:=by omega
 rw[if_neg hcs]at au;with_reducible refine bn [4,6,12,13,14,15,16,17,18,19,20,21,22,23,24] (fun i:Nat=>[(6,I i)]) (fun _=>[]) (fun i=>i<=l.length/\ ∀ k,k<i->(!(iR (l.getD k default) b))=false) (fun i=>l.length-i) (0) ?_ ?_ ?_ ?_
 ·simp
 ·rfl
 ·exact at_
 rintro i r ⟨h1,h2⟩;by_cases hi:i<l.length
 ·have h3:=X3 _ b (h _ (a_ hi));simp only[bE,cH]at h3;repeat' first|refine aq ?_|refine aC h3 ?_|refine ak ?_ ?_<;>intro hw<;>try omega|fail
  ·refine aM ?_ rfl;refine congrArg I ?_;rw[DI (p:=fun c=> !(iR c b)) hi (by simpa using hw)];simp
  ·refine⟨i+1,?_,?_,by first|rfl|(simp[go_sem];done),bJ,at_⟩<;>(try dsimp only)
   ·exact⟨by omega,bf h2 (by simpa using hw)⟩
   ·omega
 ·repeat' first|refine aq ?_|refine ak ?_ ?_<;>intro hw<;>try omega|fail
  all_goals (refine aM ?_ rfl;rw[zj (p:=fun c=> !(iR c b)) (fun k hk=>h2 k (by omega))];refine congrArg I ?_;simp_all[<-List.length_eq_zero_iff])
  all_goals (try omega)
def lz(t:Table): Bool :=
 if t.bA<1\/6<t.bA then false else if t.agg=0 then true
 else if t.bA≠5\/t.agg<1\/4<t.agg\/t.outs.length≠1 then false
 else decide (t.agg=4\/(t.outs.getD 0 default).kind=1\/(t.outs.getD 0 default).kind=2/\t.agg≠1)
def iS(t:Table): Int :=
 if gE t.name=false then 13 else if jS t.ins false≠0 then jS t.ins false
 else if jS t.outs (decide (t.bA=3))≠0 then jS t.outs (decide (t.bA=3))
 else if lz t=false then 17 else if 24<t.rules.length then 24 else 0
def mh(t:Table): Prop:=t.name.length<=2 ^ 30/\(t.ins.length<=2 ^ 30/\ ∀ c ∈ t.ins,uq c)/\(t.outs.length<=2 ^ 30/\ ∀ c ∈ t.outs,uq c) /\
 t.rules.length<=2 ^ 30/\ ∀ r ∈ t.rules,(r.cells.length<=2 ^ 30/\ ∀ s ∈ r.cells,s.length<=2 ^ 30)/\r.outs.length<=2 ^ 30/\ ∀ s ∈ r.outs,s.length<=2 ^ 30
def QS{l:List cI}(h:jn l=0){i:Nat}(hi:i<l.length): 1<=(l.getD i default).kind/\(l.getD i default).kind<=3:=by
 by_cases h6:6<l.length
 ·unfold jn at h;rw[if_pos h6]at h;omega
 ·by_cases hc:∀ k,k<l.length->wm l k=0
  ·have:=hc i hi;unfold wm at this;split at this
   ·omega
   ·split at this
    ·omega
    ·omega
  ·exfalso;unfold jn at h;rw[if_neg h6]at h;split at h
   ·rename_i j hj;have:=eX hj;simp[h]at this
   ·rename_i hn;apply hc;intro k hk;have:=dG.1 hn k (by simpa using hk);simpa using this
def LI{l:List cI}{b:Bool}(h:jS l b=0): jn l=0/\0<l.length:=by
 unfold jS at h;split at h
 ·omega
 ·split at h
  ·omega
  ·rename_i h1 h2;refine⟨by omega,?_⟩;rcases Nat.eq_zero_or_pos l.length with h3|h3
   ·exact absurd (.inl h3) h2
   ·exact h3
def UM(t:Table)(ho:jn t.outs=0): ai Tryz.prog su [bS t] (.bool (lz t)):=by
 have hk:=fun h=>QS ho (i:=0) h;have hS:lz t=if t.bA<1\/6<t.bA then false else if t.agg=0 then true else if t.bA≠5\/t.agg<1\/4<t.agg\/t.outs.length≠1 then false else decide (t.agg=4\/(t.outs.getD 0 default).kind=1\/(t.outs.getD 0 default).kind=2/\t.agg≠1):=rfl
 rw[hS];clear hS ho;simp only[bS,dy,bB,cW];obtain⟨c,WD⟩:∃ c,t.outs.getD 0 default=c:=⟨_,rfl⟩;rw[WD]at hk ⊢;refine ai.aG (Ov (by simp) ?_) (by simp);unfold EL aP;intro Q au aA aB;repeat' first|simp (disch:=omega) only[go_sem,au,aA,aB,WD]|refine aq ?_|refine ak ?_ ?_<;>intro hw<;>try omega|fail
 all_goals (refine aM ?_ rfl;refine congrArg AV.bool ?_;rw[aV];simp_all)
 all_goals (try omega)
def WE(t:Table): ai Tryz.prog t_ [bS t] (.bool (lz t)):=by
 have hS:lz t=if t.bA<1\/6<t.bA then false else if t.agg=0 then true else if t.bA≠5\/t.agg<1\/4<t.agg\/t.outs.length≠1 then false else decide (t.agg=4\/(t.outs.getD 0 default).kind=1\/(t.outs.getD 0 default).kind=2/\t.agg≠1):=rfl
 rw[hS];clear hS;simp only[bS,dy,bB,cW];obtain⟨c,WD⟩:∃ c,t.outs.getD 0 default=c:=⟨_,rfl⟩;rw[WD];refine ai.aG (P8 (by simp) ?_) (by simp);unfold Gw aP;intro Q au aA aB;repeat' first|simp (disch:=omega) only[go_sem,au,aA,aB,WD]|refine aq ?_|refine ak ?_ ?_<;>intro hw<;>try omega|fail
 all_goals (refine aM ?_ rfl;refine congrArg AV.bool ?_;rw[aV];simp_all)
 all_goals (try omega)
def WG(t:Table)(h:mh t): ai Tryz.prog yW [bS t] (I (iS t)):=by
 obtain⟨h1,h2,h3,h4,_⟩:=h;have c1:=DG t.name (by omega);have c2:=GY t.ins false (by omega) h2.2;have c3:=GY t.outs (decide (t.bA=3)) (by omega) h3.2;have c4:jS t.outs (decide (t.bA=3))=0->ai Tryz.prog su [bS t] (.bool (lz t)):=fun hb=>UM t (LI hb).1;have hS:iS t=if gE t.name=false then 13 else if jS t.ins false≠0 then jS t.ins false else if jS t.outs (decide (t.bA=3))≠0 then jS t.outs (decide (t.bA=3))else if lz t=false then 17 else if 24<t.rules.length then 24 else 0:=rfl
 rw[hS];clear hS;simp only[bS,dy,bB,cW]at c2 c3 c4 ⊢;generalize gE t.name=n at *;generalize jS t.ins false=a at *;generalize jS t.outs (decide (t.bA=3))=b at *;generalize lz t=p at *;by_cases hb:b=0
 ·have c5:=c4 hb;clear c4;refine ai.aG (EJ (by simp) ?_) (by simp);unfold y9 aP;intro Q au aA aB;repeat' first|refine aq ?_|refine aC c1 ?_|refine aC c2 ?_|refine aC c3 ?_|refine aC c5 ?_|refine ak ?_ ?_<;>intro hw<;>try omega|fail
  all_goals (refine aM ?_ rfl;refine congrArg I ?_;simp_all)
  all_goals (try omega)
 ·clear c4;refine ai.aG (EJ (by simp) ?_) (by simp);unfold y9 aP;intro Q au aA aB;repeat' first|refine aq ?_|refine aC c1 ?_|refine aC c2 ?_|refine aC c3 ?_|refine ak ?_ ?_<;>intro hw<;>try omega|fail
  all_goals first
   | exact aY
   |(refine aM ?_ rfl;refine congrArg I ?_;simp_all;done)
   |(refine aM ?_ rfl;refine congrArg I ?_;simp_all;omega)
def X4(t:Table)(h:mh t): ai Tryz.prog AL [bS t] (I (iS t)):=by
 obtain⟨h1,h2,h3,h4,_⟩:=h;have c1:=x7 t.name (by omega);have c2:=Jz t.ins false (by omega) h2.2;have c3:=Jz t.outs (decide (t.bA=3)) (by omega) h3.2;have c4:jS t.outs (decide (t.bA=3))=0->ai Tryz.prog t_ [bS t] (.bool (lz t)):=fun hb=>WE t;have hS:iS t=if gE t.name=false then 13 else if jS t.ins false≠0 then jS t.ins false else if jS t.outs (decide (t.bA=3))≠0 then jS t.outs (decide (t.bA=3))else if lz t=false then 17 else if 24<t.rules.length then 24 else 0:=rfl
 rw[hS];clear hS;simp only[bS,dy,bB,cW]at c2 c3 c4 ⊢;generalize gE t.name=n at *;generalize jS t.ins false=a at *;generalize jS t.outs (decide (t.bA=3))=b at *;generalize lz t=p at *;by_cases hb:b=0
 ·have c5:=c4 hb;clear c4;refine ai.aG (Gr (by simp) ?_) (by simp);unfold Bd aP;intro Q au aA aB;repeat' first|refine aq ?_|refine aC c1 ?_|refine aC c2 ?_|refine aC c3 ?_|refine aC c5 ?_|refine ak ?_ ?_<;>intro hw<;>try omega|fail
  all_goals (refine aM ?_ rfl;refine congrArg I ?_;simp_all)
  all_goals (try omega)
 ·clear c4;refine ai.aG (Gr (by simp) ?_) (by simp);unfold Bd aP;intro Q au aA aB;repeat' first|refine aq ?_|refine aC c1 ?_|refine aC c2 ?_|refine aC c3 ?_|refine ak ?_ ?_<;>intro hw<;>try omega|fail
  all_goals first
   | exact aY
   |(refine aM ?_ rfl;refine congrArg I ?_;simp_all;done)
   |(refine aM ?_ rfl;refine congrArg I ?_;simp_all;omega)
end Go.Proofs.YtmbgnaoilncbnaaGreatDoor
