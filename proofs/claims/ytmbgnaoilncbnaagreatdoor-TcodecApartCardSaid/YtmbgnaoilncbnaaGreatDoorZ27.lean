/- Part of a proof: see Root. -/
import Derived.Test.YtmbgnaoilncbnaaGreatDoorZ26
set_option linter.unnecessarySimpa false
set_option linter.unusedSimpArgs false
set_option linter.unusedVariables false
namespace Go.Proofs.YtmbgnaoilncbnaaGreatDoor
open Go.AM
set_option maxRecDepth 4000
def Wk(c:Cell): aH × Bool:=if c.any=true then([45],true)else if c.tests.any gQ=true then([],false)else (nP c.neg (kx c.tests),true)
theorem Wl{l:List Test}{i:Nat}(h:i<l.length): Lib.join ((l.map testW).take (i+1)) j5=if i=0 then testW (l.getD i default)else Lib.join ((l.map testW).take i) j5++j5++testW (l.getD i default):=by
 rw[XW h,XV]
 by_cases h0:i=0
 ·subst h0;simp
 ·rw[if_neg h0,if_neg]
  intro h1
  have:=congrArg List.length h1
  rw[List.length_take,List.length_map,List.length_nil]at this
  omega
theorem TR{c:Cell}(hr:eO c=true)(ha:c.any=false): 1≤c.tests.length∧c.tests.length≤12∧ ∀ t ∈ c.tests,ez t=true:=by
 unfold eO at hr
 rw[if_neg (by simp[ha])]at hr
 simp only[Bool.and_eq_true,decide_eq_true_eq,Bool.not_eq_true',List.any_eq_false]at hr
 exact⟨hr.1.1,hr.1.2,fun t ht=>by have:=hr.2 t ht;simpa using this⟩
theorem Pj{l:List Test}{i:Nat}(h12:l.length≤12)(h:∀ k,k<i→gQ (l.getD k default)=false): (Lib.join ((l.map testW).take i) j5).length≤12*422:=by
 have h1:=Sm (sep:=j5) _ (UQ (l:=l) (n:=i) (fun k hk _=>h k hk))
 have h2:((l.map testW).take i).length≤12:=by rw[List.length_take,List.length_map];omega
 simp only[j5,List.length_cons,List.length_nil]at h1
 have:((l.map testW).take i).length*(420+(0+1+1))≤12*422:=Nat.mul_le_mul h2 (Nat.le_refl _)
 unfold j5;omega
set_option maxHeartbeats 4000000 in
theorem Qt(c:Cell)(h:wm c)(hr:eO c=true): aq Tryz.prog tU [br c] (.bJ [.str (Wk c).1,.bool (Wk c).2]):=by
 have hT:Wk c=if c.any=true then([45],true)else if c.tests.any gQ=true then([],false)else (nP c.neg (kx c.tests),true):=rfl
 rw[hT]
 clear hT
 cases ha:c.any with
 | true =>
   rw[if_pos rfl]
   simp only[br,dG,ha]
   refine aq.of_nil (Ae (by simp) ?_) (by simp)
   unfold uq aM
   intro Q aC aD aE
   repeat' first|refine aB ?_|refine aA (fun hw=>?_) (fun hw=>?_)<;>try omega|fail
   all_goals exact aP rfl rfl
 | false =>
   rw[if_neg (by simp)]
   obtain⟨l1,XY,Ph⟩:=TR hr ha
   simp only[br,dG,ha]
   refine aq.of_nil (Ae (by simp) ?_) (by simp)
   unfold uq aM
   intro Q aC aD aE
   repeat' first|refine aB ?_|refine aA (fun hw=>?_) (fun hw=>?_)<;>try omega|fail
   with_reducible refine a_ [2,3,4,5,6,7,8,9,10,11,12,13,14,17,18,19,20,21,22,23,24,25,26,27,28,29,30,31,32,33,34,35,36,37,38,39,40,41,42,43,44,45,46,47,48,49,50,51,52,53,54,55,56,57,58,59,60,61,62,63,64,65,66,67,68,69,70,71,72,73,74,75,76,77,78,79,80,81,82,83,84,85,86,87,88,89,90] (fun q:Nat × List aR=>[(5,I q.1),(4,.str (Lib.join ((c.tests.map testW).take q.1) j5))]) (fun q=> .cells [.bool false,.bool c.neg,.aG false ES (c.tests.map bx)]::q.2) (fun q=>q.1≤c.tests.length∧ ∀ k,k<q.1→gQ (c.tests.getD k default)=false) (fun q=>c.tests.length-q.1) (0,[]) ?_ ?_ ?_ ?_
   ·simp
   ·rfl
   ·simp[cE,cU,Lib.join_nil,dJ]
   rintro⟨i,τ⟩ r ⟨h1,h2⟩
   dsimp only at h1 h2
   by_cases hi:i<c.tests.length
   ·have hmem:=aY hi
    obtain⟨p1,k1,k6,p2⟩:=JK (Ph _ hmem)
    have hok:=h.2 _ hmem
    have Jr:=Wl hi
    have hjl:=Pj XY h2
    have cu:=fun he=>aW h2 (i:=i) he
    have lH:=fun hb=>Ax (p:=gQ) hi hb
    have hJ0:i=0→Lib.join ((c.tests.map testW).take i) j5=[]:=fun h=>by subst h;rw[List.take_zero];exact Lib.join_nil _
    generalize Lib.join ((c.tests.map testW).take i) j5=J at *
    obtain⟨t,p_⟩:∃ t,c.tests.getD i default=t:=⟨_,rfl⟩
    rw[p_]at Jr cu lH hok p1 p2 k1 k6
    have wa:=FK t.a (tq p1).1 hok.1.1 hok.1.2 4
    have ta:=Ev t.a hok.1.1 hok.1.2
    rw[(tq p1).2]at ta
    have la:=UO t.a (tq p1).1 hok.1.1 4
    have US:=fun hb=>qb (x:=t.a) hb 4
    have JH:=Mh t.kind
    have pC:(eL t.kind).length≤2:=by unfold eL;split;simp;split;simp;split;simp;split<;>simp
    have hzz:=hok.1.2
    by_cases h6:t.kind=6
    ·have wb:=FK t.b (tq (p2 h6)).1 hok.2.1 hok.2.2 4
     have tb:=Ev t.b hok.2.1 hok.2.2
     rw[(tq (p2 h6)).2]at tb
     have lb2:=fun hb=>qb (x:=t.b) hb 4
     have hW:testW t=BE t++dB t.a 4++[46,46]++dB t.b 4++vt t:=by unfold testW;rw[if_neg (by omega),if_pos h6]
     have hB:gQ t=(iS t.a || iS t.b):=by unfold gQ;rw[decide_eq_true h6,Bool.true_and]
     rw[hW]at Jr
     rw[hB]at cu lH
     unfold BE vt at Jr
     clear hW hB p1 p2 JH pC hok
     generalize dB t.a 4=sa at *
     generalize dB t.b 4=sb at *
     generalize bF t.a=xa at *
     generalize bF t.b=xb at *
     generalize iS t.a=ba at *
     generalize iS t.b=bb at *
     rw[aN]at wa wb ta tb
     cases ba<;>simp only[Bool.false_eq_true,if_false,if_true,Bool.true_or,Bool.false_or]at ta US cu lH
     ·have US:=US trivial
      cases bb<;>simp only[Bool.false_eq_true,if_false,if_true]at tb lb2 cu lH
      ·have lb2:=lb2 trivial
       have cu:=cu trivial
       repeat' first|simp (disch:=omega) only[go_sem,aC,aD,aE,aj,au,ak,Nat.reduceAdd,Nat.reduceBEq,↓reduceIte,p_]|refine aB ?_|refine aF wa ?_|refine aF ta ?_|refine aF wb ?_|refine aF tb ?_|refine aA (fun hw=>?_) (fun hw=>?_)<;>try omega|fail
       all_goals first
        | (refine ⟨(i + 1, τ ++ [.cells [I t.kind, I t.a.op, I t.a.v.kind, I t.a.v.n, .str t.a.v.s, .str t.a.s, .aG false EX (t.a.l.map aJ), I t.b.op, I t.b.v.kind, I t.b.v.n, .str t.b.v.s, .str t.b.s, .aG false EX (t.b.l.map aJ), .bool t.lo, .bool t.hi]]), ⟨by dsimp only; omega, cu⟩, by dsimp only; omega, by first | rfl | (simp [go_sem]; done), bG, ?_⟩
           dsimp only
           rw[Jr]
           first|(rw[if_pos (by omega)];obtain rfl:=hJ0 (by omega))|rw[if_neg (by omega)]
           simp (disch:=omega) only[cU,cE,and_true,go_sem,aC,aD,aE,aj,au,ak,Nat.reduceAdd,Nat.reduceBEq,↓reduceIte,Int.natCast_add,Int.cast_ofNat_Int]<;>(try trivial)<;>(try omega)<;>(try (repeat (first|trivial|(refine And.intro ?_ ?_)|(congr 1;omega))))
           all_goals (clear aC aD aE;simp_all[j5];done))
        |(exfalso;omega)
      ·have lH:=lH trivial
       simp only[lH,if_true]at aC aD aE
       repeat' first|simp (disch:=omega) only[go_sem,aC,aD,aE,aj,au,ak,Nat.reduceAdd,Nat.reduceBEq,↓reduceIte,p_]|refine aB ?_|refine aF wa ?_|refine aF ta ?_|refine aF wb ?_|refine aF tb ?_|refine aA (fun hw=>?_) (fun hw=>?_)<;>try omega|fail
       all_goals first|exact aP rfl rfl|exact aZ
     ·have lH:=lH trivial
      simp only[lH,if_true]at aC aD aE
      repeat' first|simp (disch:=omega) only[go_sem,aC,aD,aE,aj,au,ak,Nat.reduceAdd,Nat.reduceBEq,↓reduceIte,p_]|refine aB ?_|refine aF wa ?_|refine aF ta ?_|refine aF wb ?_|refine aF tb ?_|refine aA (fun hw=>?_) (fun hw=>?_)<;>try omega|fail
      all_goals first|exact aP rfl rfl|exact aZ
    ·have hW:testW t=if t.kind=1 then dB t.a 4 else eL t.kind++[32]++dB t.a 4:=by unfold testW;rw[if_neg h6]
     have hB:gQ t=iS t.a:=by unfold gQ;rw[decide_eq_false h6,Bool.false_and,Bool.or_false]
     rw[hW]at Jr
     rw[hB]at cu lH
     clear hW hB p1 p2 hok
     generalize dB t.a 4=sa at *
     generalize bF t.a=xa at *
     generalize iS t.a=ba at *
     generalize eL t.kind=sg at *
     rw[aN]at wa ta
     cases ba<;>simp only[Bool.false_eq_true,if_false,if_true]at ta US cu lH
     ·have US:=US trivial
      have cu:=cu trivial
      repeat' first|simp (disch:=omega) only[go_sem,aC,aD,aE,aj,au,ak,Nat.reduceAdd,Nat.reduceBEq,↓reduceIte,p_]|refine aB ?_|refine aF wa ?_|refine aF ta ?_|refine aF JH ?_|refine aA (fun hw=>?_) (fun hw=>?_)<;>try omega|fail
      all_goals first
       | (refine ⟨(i + 1, τ ++ [.cells [I t.kind, I t.a.op, I t.a.v.kind, I t.a.v.n, .str t.a.v.s, .str t.a.s, .aG false EX (t.a.l.map aJ), I t.b.op, I t.b.v.kind, I t.b.v.n, .str t.b.v.s, .str t.b.s, .aG false EX (t.b.l.map aJ), .bool t.lo, .bool t.hi]]), ⟨by dsimp only; omega, cu⟩, by dsimp only; omega, by first | rfl | (simp [go_sem]; done), bG, ?_⟩
          dsimp only
          rw[Jr]
          first|(rw[if_pos (by omega)];obtain rfl:=hJ0 (by omega))|rw[if_neg (by omega)]
          simp (disch:=omega) only[cU,cE,and_true,go_sem,aC,aD,aE,aj,au,ak,Nat.reduceAdd,Nat.reduceBEq,↓reduceIte,Int.natCast_add,Int.cast_ofNat_Int]<;>(try trivial)<;>(try omega)<;>(try (repeat (first|trivial|(refine And.intro ?_ ?_)|(congr 1;omega))))
          all_goals (clear aC aD aE;simp_all[j5];done))
       |(exfalso;omega)
     ·have lH:=lH trivial
      simp only[lH,if_true]at aC aD aE
      repeat' first|simp (disch:=omega) only[go_sem,aC,aD,aE,aj,au,ak,Nat.reduceAdd,Nat.reduceBEq,↓reduceIte,p_]|refine aB ?_|refine aF wa ?_|refine aF ta ?_|refine aF JH ?_|refine aA (fun hw=>?_) (fun hw=>?_)<;>try omega|fail
      all_goals first|exact aP rfl rfl|exact aZ
   ·have qU:(c.tests.map testW).take i=c.tests.map testW:=List.take_of_length_le (by simp;omega)
    have hnb:c.tests.any gQ=false:=vZ (p:=gQ) (fun k hk=>h2 k (by omega))
    have hjl:=Pj XY h2
    rw[qU]at hjl ⊢
    simp only[hnb,Bool.false_eq_true,if_false,kx]at aC aD aE
    obtain⟨J,hJ⟩:∃ J,Lib.join (c.tests.map testW) j5=J:=⟨_,rfl⟩
    rw[hJ]at hjl ⊢
    simp only[hJ]at aC aD aE
    clear hJ
    cases hn:c.neg with
    | true =>
      simp only[hn,nP,if_true]at aC aD aE
      repeat' first|refine aB ?_|refine aA (fun hw=>?_) (fun hw=>?_)<;>try omega|fail
      all_goals first|(refine aP ?_ rfl;simp;done)|exact aZ
    | false =>
      simp only[hn,nP,Bool.false_eq_true,if_false]at aC aD aE
      repeat' first|refine aB ?_|refine aA (fun hw=>?_) (fun hw=>?_)<;>try omega|fail
      all_goals first|exact aP rfl rfl|exact aZ
theorem Wm(c:Cell)(h:wm c): aq Tryz.prog tS [br c] (.bJ [.str (kz c).1,I (kz c).2]):=by
 have q_:=Cg c h.ok
 have hT:kz c=if eO c=false then([],2)else if c.any=true then([45],0)else if c.tests.any gQ=true then([],5)
  else if 200<(nP c.neg (kx c.tests)).length then([],5)else (nP c.neg (kx c.tests),0):=rfl
 rw[hT]
 clear hT
 have hw:=fun hr=>Qt c h hr
 have hWT:Wk c=if c.any=true then([45],true)else if c.tests.any gQ=true then([],false)else (nP c.neg (kx c.tests),true):=rfl
 rw[hWT]at hw
 clear hWT
 generalize nP c.neg (kx c.tests)=s at *
 generalize c.tests.any gQ=bg at *
 cases hr:eO c with
 | false =>
   rw[hr]at q_
   rw[if_pos rfl]
   simp only[br,dG]at q_ ⊢
   refine aq.of_nil (nZ (by simp) ?_) (by simp)
   unfold mQ aM
   intro Q aC aD aE
   repeat' first|refine aB ?_|refine aF q_ ?_|refine aA (fun hw=>?_) (fun hw=>?_)<;>try omega|fail
   all_goals exact aP rfl rfl
 | true =>
   have hw:=hw hr
   rw[hr]at q_
   rw[if_neg (by simp)]
   cases ha:c.any with
   | true =>
     rw[ha]at hw
     simp only[if_true]at hw ⊢
     simp only[br,dG,ha]at q_ hw ⊢
     refine aq.of_nil (nZ (by simp) ?_) (by simp)
     unfold mQ aM
     intro Q aC aD aE
     repeat' first|refine aB ?_|refine aF q_ ?_|refine aF hw ?_|refine aA (fun hw=>?_) (fun hw=>?_)<;>try omega|fail
     all_goals first|exact aP rfl rfl|exact aZ
   | false =>
     rw[ha]at hw
     simp only[Bool.false_eq_true,if_false]at hw ⊢
     cases bg with
     | true =>
       simp only[if_true]at hw ⊢
       simp only[br,dG,ha]at q_ hw ⊢
       refine aq.of_nil (nZ (by simp) ?_) (by simp)
       unfold mQ aM
       intro Q aC aD aE
       repeat' first|refine aB ?_|refine aF q_ ?_|refine aF hw ?_|refine aA (fun hw=>?_) (fun hw=>?_)<;>try omega|fail
       all_goals first|exact aP rfl rfl|exact aZ
     | false =>
       simp only[Bool.false_eq_true,if_false]at hw ⊢
       simp only[br,dG,ha]at q_ hw ⊢
       by_cases hb:200<s.length
       ·rw[if_pos hb]
        refine aq.of_nil (nZ (by simp) ?_) (by simp)
        unfold mQ aM
        intro Q aC aD aE
        repeat' first|refine aB ?_|refine aF q_ ?_|refine aF hw ?_|refine aA (fun hw=>?_) (fun hw=>?_)<;>try omega|fail
        all_goals first|exact aP rfl rfl|exact aZ
       ·rw[if_neg hb]
        refine aq.of_nil (nZ (by simp) ?_) (by simp)
        unfold mQ aM
        intro Q aC aD aE
        repeat' first|refine aB ?_|refine aF q_ ?_|refine aF hw ?_|refine aA (fun hw=>?_) (fun hw=>?_)<;>try omega|fail
        all_goals first|exact aP rfl rfl|exact aZ
theorem yf(fn:FuncId)(cap:List AV)(hcap:AV.bW cap=true)(p:bV→Bool)(l:List bV)(h:∀ k,k<l.length→aq Tryz.prog fn (bp (l.getD k default)::cap) (.bool (p (l.getD k default))))(hl:l.length≤2 ^ 62):
 aq Tryz.prog je [bq l,.fn (.func fn) [] cap] (.bool (l.any p)):=by
 refine aq.of_nil (uT (by simp) ?_) (by simp[AV.cF,AV.bW,hcap,dh])
 unfold mS aM
 intro Q aC aD aE
 have hc:=q9 fn cap hcap p l h hl
 simp only[bq]at hc
 repeat' first|refine aB ?_|refine aF hc ?_|refine aA (fun hw=>?_) (fun hw=>?_)<;>try omega|fail
 all_goals refine aL ?_ rfl
 all_goals rw[← Kt]
theorem rf(fn:FuncId)(cap:List AV)(hcap:AV.bW cap=true)(p:bV→bV→Bool)(l m:List bV)
 (h:∀ k,k<l.length→k<m.length→aq Tryz.prog fn (bp (l.getD k default)::bp (m.getD k default)::cap) (.bool (p (l.getD k default) (m.getD k default)))) (hl:l.length≤2 ^ 62) (hm:m.length≤2 ^ 62) :
 aq Tryz.prog iq [bq l,bq m,.fn (.func fn) [] cap] (.bool (fh p l m)):=by
 refine aq.of_nil (xZ (by simp) ?_) (by simp[AV.cF,AV.bW,hcap,dh])
 unfold oV aM
 intro Q aC aD aE
 repeat' first|refine aB ?_|refine aA (fun hw=>?_) (fun hw=>?_)<;>try omega|fail
 ·refine aL ?_ rfl
  rw[mT (by omega)]
 have hlm:l.length=m.length:=by omega
 with_reducible refine a_ [6,7,8,9,17,18,19,20,21,22,23,24,25,26,27,28,29,30,31] (fun p:Nat × List aR=>[(17,I p.1)]) (fun p=>p.2) (fun q=>q.1≤l.length∧ ∀ k,k<q.1→p (l.getD k default) (m.getD k default)=true) (fun p=>l.length-p.1) (0,[]) ?_ ?_ ?_ ?_
 ·simp
 ·rfl
 ·exact at_
 rintro⟨i,τ⟩ r ⟨h1,h2⟩
 dsimp only at h1 h2
 by_cases hi:i<l.length
 ·have hy:=h i hi (by omega)
  simp only[bx,bp,cj,ku,br,bP,dG,dH,dS,n8]at hy
  repeat' first|refine aB ?_|refine aF hy ?_|refine aA (fun hw=>?_) (fun hw=>?_)<;>try omega|fail
  ·refine aL ?_ rfl
   rw[pV hi hw (by omega)]
  ·refine⟨(i+1,τ++[.cells [.str (l.getD i default).name,I (l.getD i default).kind,.aG false EV ((l.getD i default).order.map gO)]]++[.cells [.str (m.getD i default).name,I (m.getD i default).kind,.aG false EV ((m.getD i default).order.map gO)]]),?_,?_,by first|rfl|(simp[go_sem];done),bG,at_⟩<;>(try dsimp only)
   ·exact⟨by omega,aW h2 hw⟩
   ·omega
 ·repeat' first|refine aB ?_|refine aA (fun hw=>?_) (fun hw=>?_)<;>try omega|fail
  refine aL ?_ rfl
  rw[mU hlm (fun k hk=>h2 k (by omega))]
theorem Dl(fn:FuncId)(cap:List AV)(hcap:AV.bW cap=true)(p:cK→cK→Bool)(l m:List cK)
 (h:∀ k,k<l.length→k<m.length→aq Tryz.prog fn (cj (l.getD k default)::cj (m.getD k default)::cap) (.bool (p (l.getD k default) (m.getD k default)))) (hl:l.length≤2 ^ 62) (hm:m.length≤2 ^ 62) :
 aq Tryz.prog lC [cQ l,cQ m,.fn (.func fn) [] cap] (.bool (fh p l m)):=by
 refine aq.of_nil (Aa (by simp) ?_) (by simp[AV.cF,AV.bW,hcap,l8])
 unfold qX aM
 intro Q aC aD aE
 repeat' first|refine aB ?_|refine aA (fun hw=>?_) (fun hw=>?_)<;>try omega|fail
 ·refine aL ?_ rfl
  rw[mT (by omega)]
 have hlm:l.length=m.length:=by omega
 with_reducible refine a_ [6,7,8,9,17,18,19,20,21,22,23,24,25,26,27,28,29,30,31] (fun p:Nat × List aR=>[(17,I p.1)]) (fun p=>p.2) (fun q=>q.1≤l.length∧ ∀ k,k<q.1→p (l.getD k default) (m.getD k default)=true) (fun p=>l.length-p.1) (0,[]) ?_ ?_ ?_ ?_
 ·simp
 ·rfl
 ·exact at_
 rintro⟨i,τ⟩ r ⟨h1,h2⟩
 dsimp only at h1 h2
 by_cases hi:i<l.length
 ·have hy:=h i hi (by omega)
  simp only[bx,bp,cj,ku,br,bP,dG,dH,dS,n8]at hy
  repeat' first|refine aB ?_|refine aF hy ?_|refine aA (fun hw=>?_) (fun hw=>?_)<;>try omega|fail
  ·refine aL ?_ rfl
   rw[pV hi hw (by omega)]
  ·refine⟨(i+1,τ++[.cells [.aG false E1 ((l.getD i default).cells.map cy),.aG false E1 ((l.getD i default).outs.map cy)]]++[.cells [.aG false E1 ((m.getD i default).cells.map cy),.aG false E1 ((m.getD i default).outs.map cy)]]),?_,?_,by first|rfl|(simp[go_sem];done),bG,at_⟩<;>(try dsimp only)
   ·exact⟨by omega,aW h2 hw⟩
   ·omega
 ·repeat' first|refine aB ?_|refine aA (fun hw=>?_) (fun hw=>?_)<;>try omega|fail
  refine aL ?_ rfl
  rw[mU hlm (fun k hk=>h2 k (by omega))]
theorem IC(v u:dy): (v==u)=((v.kind==u.kind) && (v.n==u.n) && (v.s==u.s)):=by
 obtain⟨a,b,c⟩:=v
 obtain⟨d,e,f⟩:=u
 rw[Bool.eq_iff_iff];simp[and_assoc]
theorem HR(l:List dy)(v:dy)(hl:l.length≤2 ^ 60): aq Tryz.prog nJ [dH l,gO v] (I (gZ (fun x=>x==v) l)):=by
 simp only[dH,gO]
 refine aq.of_nil (C6 (by simp) ?_) (by simp)
 unfold ux aM
 intro Q aC aD aE
 repeat' first|refine aB ?_|refine aA (fun hw=>?_) (fun hw=>?_)<;>try omega|fail
 with_reducible refine a_ [4,5,8,9,10,11,12,13,14,15,16,17,18] (fun i:Nat=>[(8,I i)]) (fun _=>[.cells [I v.kind,I v.n,.str v.s]]) (fun i=>i≤l.length∧ ∀ k,k<i→(l.getD k default==v)=false) (fun i=>l.length-i) (0) ?_ ?_ ?_ ?_
 ·simp
 ·rfl
 ·exact at_
 rintro i r ⟨h1,h2⟩
 by_cases hi:i<l.length
 ·obtain⟨u,hu⟩:∃ u,l.getD i default=u:=⟨_,rfl⟩
  have hb:=IC u v
  repeat' first|simp (disch:=omega) only[go_sem,aC,aD,aE,aj,au,ak,Nat.reduceAdd,Nat.reduceBEq,↓reduceIte,hu]|refine aB ?_|refine aA (fun hw=>?_) (fun hw=>?_)<;>try omega|fail
  ·refine aL ?_ rfl
   refine congrArg I ?_
   exact(oz (p:=fun x=>x==v) hi h2 (by rw[hu,hb];simp_all)).symm
  ·refine⟨i+1,?_,?_,by first|rfl|(simp[go_sem];done),bG,at_⟩<;>(try dsimp only)
   ·exact⟨by omega,aW h2 (by rw[hu,hb,← Bool.not_eq_true];simp only[← Bool.not_eq_true,Bool.and_eq_true,beq_iff_eq,not_and]at hw ⊢;intro c;exact fun d=>hw ⟨c.1.symm,c.2.symm⟩ d.symm)⟩
   ·omega
 ·repeat' first|refine aB ?_|refine aA (fun hw=>?_) (fun hw=>?_)<;>try omega|fail
  refine aL ?_ rfl
  refine congrArg I ?_
  exact(nr (p:=fun x=>x==v) fun k hk=>h2 k (by omega)).symm
theorem HS(l m:List dy)(hl:l.length≤2 ^ 60)(hm:m.length≤2 ^ 60): aq Tryz.prog nF [dH l,dH m] (.bool (fh (fun a b=>a==b) l m)):=by
 simp only[dH]
 refine aq.of_nil (CO (by simp) ?_) (by simp)
 unfold uo aM
 intro Q aC aD aE
 repeat' first|refine aB ?_|refine aA (fun hw=>?_) (fun hw=>?_)<;>try omega|fail
 ·refine aL ?_ rfl
  rw[mT (by omega)]
 have hlm:l.length=m.length:=by omega
 with_reducible refine a_ [4,5,13,14,15,16,17,18,19,20,21,22,23,24,25] (fun i:Nat=>[(13,I i)]) (fun _=>[]) (fun i=>i≤l.length∧ ∀ k,k<i→(l.getD k default==m.getD k default)=true) (fun i=>l.length-i) (0) ?_ ?_ ?_ ?_
 ·simp
 ·rfl
 ·exact at_
 rintro i r ⟨h1,h2⟩
 by_cases hi:i<l.length
 ·have hb:=IC (l.getD i default) (m.getD i default)
  repeat' first|refine aB ?_|refine aA (fun hw=>?_) (fun hw=>?_)<;>try omega|fail
  ·refine aL ?_ rfl
   rw[pV (p:=fun a b=>a==b) hi (by rw[hb,← Bool.not_eq_true];simp_all) (by omega)]
  ·refine⟨i+1,?_,?_,by first|rfl|(simp[go_sem];done),bG,at_⟩<;>(try dsimp only)
   ·exact⟨by omega,aW h2 (by rw[hb];simp_all)⟩
   ·omega
 ·repeat' first|refine aB ?_|refine aA (fun hw=>?_) (fun hw=>?_)<;>try omega|fail
  refine aL ?_ rfl
  rw[mU (p:=fun a b=>a==b) hlm (fun k hk=>h2 k (by omega))]
theorem vu(l m:List aH)(hl:l.length≤2 ^ 60)(hm:m.length≤2 ^ 60): aq Tryz.prog jN [dS l,dS m] (.bool (fh (fun a b=>a==b) l m)):=by
 simp only[dS]
 refine aq.of_nil (B8 (by simp) ?_) (by simp)
 unfold td aM
 intro Q aC aD aE
 repeat' first|refine aB ?_|refine aA (fun hw=>?_) (fun hw=>?_)<;>try omega|fail
 ·refine aL ?_ rfl
  rw[mT (by omega)]
 have hlm:l.length=m.length:=by omega
 with_reducible refine a_ [4,5,13,14,15,16,17,18,19,20,21,22,23,24,25] (fun i:Nat=>[(13,I i)]) (fun _=>[]) (fun i=>i≤l.length∧ ∀ k,k<i→(l.getD k default==m.getD k default)=true) (fun i=>l.length-i) (0) ?_ ?_ ?_ ?_
 ·simp
 ·rfl
 ·exact at_
 rintro i r ⟨h1,h2⟩
 by_cases hi:i<l.length
 ·repeat' first|refine aB ?_|refine aA (fun hw=>?_) (fun hw=>?_)<;>try omega|fail
  ·refine aL ?_ rfl
   rw[pV (p:=fun a b=>a==b) hi (by rw[← Bool.not_eq_true];simp_all) (by omega)]
  ·refine⟨i+1,?_,?_,by first|rfl|(simp[go_sem];done),bG,at_⟩<;>(try dsimp only)
   ·exact⟨by omega,aW h2 (by simp_all)⟩
   ·omega
 ·repeat' first|refine aB ?_|refine aA (fun hw=>?_) (fun hw=>?_)<;>try omega|fail
  refine aL ?_ rfl
  rw[mU (p:=fun a b=>a==b) hlm (fun k hk=>h2 k (by omega))]
theorem BG(l m:List aH)(hl:l.length≤2 ^ 60)(hm:m.length≤2 ^ 60): aq Tryz.prog mE [dS l,dS m] (.bool (fh (fun a b=>a==b) l m)):=by
 simp only[dS]
 refine aq.of_nil (GD (by simp) ?_) (by simp)
 unfold yj aM
 intro Q aC aD aE
 repeat' first|refine aB ?_|refine aA (fun hw=>?_) (fun hw=>?_)<;>try omega|fail
 ·refine aL ?_ rfl
  rw[mT (by omega)]
 have hlm:l.length=m.length:=by omega
 with_reducible refine a_ [4,5,11,12,13,14,15,16,17,18,19,20,21,22,23,24,25] (fun i:Nat=>[(5,I i)]) (fun _=>[]) (fun i=>i≤l.length∧ ∀ k,k<i→(l.getD k default==m.getD k default)=true) (fun i=>l.length-i) (0) ?_ ?_ ?_ ?_
 ·simp
 ·rfl
 ·exact at_
 rintro i r ⟨h1,h2⟩
 by_cases hi:i<l.length
 ·repeat' first|refine aB ?_|refine aA (fun hw=>?_) (fun hw=>?_)<;>try omega|fail
  ·refine aL ?_ rfl
   rw[pV (p:=fun a b=>a==b) hi (by rw[← Bool.not_eq_true];simp_all) (by omega)]
  ·refine⟨i+1,?_,?_,by first|rfl|(simp[go_sem];done),bG,at_⟩<;>(try dsimp only)
   ·exact⟨by omega,aW h2 (by simp_all)⟩
   ·omega
 ·repeat' first|refine aB ?_|refine aA (fun hw=>?_) (fun hw=>?_)<;>try omega|fail
  refine aL ?_ rfl
  rw[mU (p:=fun a b=>a==b) hlm (fun k hk=>h2 k (by omega))]
theorem Qu(l m:List dy)(hl:l.length≤2 ^ 60)(hm:m.length≤2 ^ 60): aq Tryz.prog tR [dH l,dH m] (.bool (fh (fun a b=>a==b) l m)):=by
 simp only[dH]
 refine aq.of_nil (J_ (by simp) ?_) (by simp)
 unfold Bk aM
 intro Q aC aD aE
 repeat' first|refine aB ?_|refine aA (fun hw=>?_) (fun hw=>?_)<;>try omega|fail
 ·refine aL ?_ rfl
  rw[mT (by omega)]
 have hlm:l.length=m.length:=by omega
 with_reducible refine a_ [4,5,11,12,13,14,15,16,17,18,19,20,21,22,23,24,25] (fun i:Nat=>[(5,I i)]) (fun _=>[]) (fun i=>i≤l.length∧ ∀ k,k<i→(l.getD k default==m.getD k default)=true) (fun i=>l.length-i) (0) ?_ ?_ ?_ ?_
 ·simp
 ·rfl
 ·exact at_
 rintro i r ⟨h1,h2⟩
 by_cases hi:i<l.length
 ·have hb:=IC (l.getD i default) (m.getD i default)
  repeat' first|refine aB ?_|refine aA (fun hw=>?_) (fun hw=>?_)<;>try omega|fail
  ·refine aL ?_ rfl
   rw[pV (p:=fun a b=>a==b) hi (by rw[hb,← Bool.not_eq_true];simp_all) (by omega)]
  ·refine⟨i+1,?_,?_,by first|rfl|(simp[go_sem];done),bG,at_⟩<;>(try dsimp only)
   ·exact⟨by omega,aW h2 (by rw[hb];simp_all)⟩
   ·omega
 ·repeat' first|refine aB ?_|refine aA (fun hw=>?_) (fun hw=>?_)<;>try omega|fail
  refine aL ?_ rfl
  rw[mU (p:=fun a b=>a==b) hlm (fun k hk=>h2 k (by omega))]
def sO(c:bV)(k:Nat): Bool:=bS (c.order.getD k default) && decide ((c.order.getD k default).kind=c.kind) && decide (gZ (fun x=>x==c.order.getD k default) c.order=k)
def fQ(c:bV)(asked:Bool): Bool :=
 if asked then(List.range c.order.length).all (sO c) && decide (1≤c.order.length∧c.order.length≤8)else decide (c.order.length=0)
def qO(c:bV): Prop:=c.name.length≤2 ^ 62∧c.order.length≤2 ^ 60∧ ∀ v ∈ c.order,(-9223372036854775808≤v.n∧v.n≤9223372036854775807)∧v.s.length≤2 ^ 62
theorem BH{c:bV}{i:Nat}(hi:i<c.order.length)(h:sO c i=false): fQ c true=false:=by
 unfold fQ
 rw[if_pos rfl]
 have:(List.range c.order.length).all (sO c)=false:=by
  rw[List.all_eq_false];exact⟨i,by simpa using hi,by simp[h]⟩
 rw[this];rfl
theorem Mw{c:bV}(h:∀ k,k<c.order.length→sO c k=true): fQ c true=decide (1≤c.order.length∧c.order.length≤8):=by
 unfold fQ
 rw[if_pos rfl]
 have:(List.range c.order.length).all (sO c)=true:=by
  rw[List.all_eq_true];intro k hk;exact h k (by simpa using hk)
 rw[this];rfl
theorem Sn(c:bV)(b:Bool)(h:qO c): aq Tryz.prog vJ [bp c,.bool b] (.bool (fQ c b)):=by
 obtain⟨_,hl,hv⟩:=h
 simp only[bp,dH]
 cases b with
 | false =>
   have hS:fQ c false=decide (c.order.length=0):=rfl
   rw[hS]
   refine aq.of_nil (Bu (by simp) ?_) (by simp)
   unfold vR aM
   intro Q aC aD aE
   repeat' first|refine aB ?_|refine aA (fun hw=>?_) (fun hw=>?_)<;>try omega|fail
   refine aL ?_ rfl
   refine congrArg AV.bool ?_
   rw[Bool.eq_iff_iff];simp_all
 | true =>
   refine aq.of_nil (Bu (by simp) ?_) (by simp)
   unfold vR aM
   intro Q aC aD aE
   repeat' first|refine aB ?_|refine aA (fun hw=>?_) (fun hw=>?_)<;>try omega|fail
   with_reducible refine a_ [4,5,6,16,17,18,19,20,21,22,23,24,25,26,27,28,29,30,31,32,33,34,35,36,37,38,39] (fun q:Nat × List aR=>[(16,I q.1)]) (fun q=> .cells [.str c.name,I c.kind,.aG false EV (c.order.map gO)]::q.2) (fun q=>q.1≤c.order.length∧ ∀ k,k<q.1→sO c k=true) (fun q=>c.order.length-q.1) (0,[]) ?_ ?_ ?_ ?_
   ·simp
   ·rfl
   ·exact at_
   rintro⟨i,τ⟩ r ⟨h1,h2⟩
   dsimp only at h1 h2
   by_cases hi:i<c.order.length
   ·have UU:=hv _ (aY hi)
    have hO:sO c i=(bS (c.order.getD i default) && decide ((c.order.getD i default).kind=c.kind) && decide (gZ (fun x=>x==c.order.getD i default) c.order=i)):=rfl
    obtain⟨v,HU⟩:∃ v,c.order.getD i default=v:=⟨_,rfl⟩
    rw[HU]at UU hO
    have c1:=mA v.kind v.n v.s UU.1.1 UU.1.2
    have c2:=HR c.order v hl
    rw[show (⟨v.kind,v.n,v.s⟩:dy)=v from rfl]at c1
    simp only[dH,gO]at c2
    generalize gZ (fun x=>x==v) c.order=ix at *
    cases xm:bS v
    all_goals (rw[xm]at c1 hO;simp only[kV,Bool.false_eq_true,if_false,if_true]at c1)
    ·repeat' first|simp (disch:=omega) only[go_sem,aC,aD,aE,aj,au,ak,Nat.reduceAdd,Nat.reduceBEq,↓reduceIte,HU]|refine aB ?_|refine aF c1 ?_|refine aF c2 ?_|refine aA (fun hw=>?_) (fun hw=>?_)<;>try omega|fail
     all_goals (refine aL ?_ rfl;rw[BH hi (by rw[hO];rfl)])
    ·repeat' first|simp (disch:=omega) only[go_sem,aC,aD,aE,aj,au,ak,Nat.reduceAdd,Nat.reduceBEq,↓reduceIte,HU]|refine aB ?_|refine aF c1 ?_|refine aF c2 ?_|refine aA (fun hw=>?_) (fun hw=>?_)<;>try omega|fail
     all_goals first
      |(refine aL ?_ rfl;rw[BH hi (by rw[hO];simp_all;done)])
      | (refine ⟨(i + 1, τ ++ [.cells [I v.kind, I v.n, .str v.s]]), ?_, ?_, by first | rfl | (simp [go_sem]; done), bG, at_⟩ <;> (try dsimp only)
         ·exact⟨by omega,aW h2 (by rw[hO];simp_all)⟩
         ·omega)
   ·repeat' first|refine aB ?_|refine aA (fun hw=>?_) (fun hw=>?_)<;>try omega|fail
    all_goals (refine aL ?_ rfl;rw[Mw (fun k hk=>h2 k (by omega))];refine congrArg AV.bool ?_;rw[Bool.eq_iff_iff];simp_all)
    all_goals (try omega)
theorem aaW{α : Type}[Inhabited α]{p : α→Bool}{l:List α}: ∀ {k:Nat},k<l.length→p (l.getD k default)=true→gZ p l≤k:=by
 intro k
 induction k using Nat.strongRecOn with
 | _ k ih =>
   intro hk h
   by_cases ha:∀ j,j<k→p (l.getD j default)=false
   ·rw[oz hk ha h];exact Int.le_refl _
   ·simp only[Classical.not_forall]at ha
    obtain⟨j,hj,hn⟩:=ha
    have:=ih j hj (by omega) (by simpa using hn)
    omega
theorem Zt{c:bV}{k i:Nat}(hk:k<i)(hi:i<c.order.length)(h:(c.order.getD k default==c.order.getD i default)=true): sO c i=false:=by
 have:=aaW (p:=fun x=>x==c.order.getD i default) (l:=c.order) (k:=k) (by omega) h
 unfold sO
 rw[Bool.and_eq_false_iff]
 exact .inr (decide_eq_false (by omega))
theorem aaX{c:bV}{i:Nat}(hi:i<c.order.length)(h:∀ k,k<i→(c.order.getD k default==c.order.getD i default)=false)(hr:bS (c.order.getD i default)=true)(hk:(c.order.getD i default).kind=c.kind): sO c i=true:=by
 have:=oz (p:=fun x=>x==c.order.getD i default) (l:=c.order) hi h (by simp)
 unfold sO
 rw[this,hr,hk];simp
theorem aaY{c:bV}{i:Nat}(h:bS (c.order.getD i default)=false∨(c.order.getD i default).kind≠c.kind): sO c i=false:=by
 unfold sO
 rcases h with h|h
 ·rw[h];rfl
 ·rw[decide_eq_false h,Bool.and_false];rfl
theorem TT(c:bV)(b:Bool)(h:qO c): aq Tryz.prog xQ [bp c,.bool b] (.bool (fQ c b)):=by
 obtain⟨_,hl,hv⟩:=h
 simp only[bp,dH]
 cases b with
 | false =>
   have hS:fQ c false=decide (c.order.length=0):=rfl
   rw[hS]
   refine aq.of_nil (C5 (by simp) ?_) (by simp)
   unfold ya aM
   intro Q aC aD aE
   repeat' first|refine aB ?_|refine aA (fun hw=>?_) (fun hw=>?_)<;>try omega|fail
   refine aL ?_ rfl
   refine congrArg AV.bool ?_
   rw[Bool.eq_iff_iff];simp_all
 | true =>
   refine aq.of_nil (C5 (by simp) ?_) (by simp)
   unfold ya aM
   intro Q aC aD aE
   repeat' first|refine aB ?_|refine aA (fun hw=>?_) (fun hw=>?_)<;>try omega|fail
   with_reducible refine a_ [4,5,6,13,14,15,16,17,18,19,20,21,22,23,24,25,26,27,28,29,30,31,32,33,34,35,36,37,38,39,40,41,42,43,44,45,46,47,48,49,50,51,52,53] (fun i:Nat=>[(5,I i)]) (fun _=>[.cells [.str c.name,I c.kind,.aG false EV (c.order.map gO)]]) (fun i=>i≤c.order.length∧ ∀ k,k<i→sO c k=true) (fun i=>c.order.length-i) (0) ?_ ?_ ?_ ?_
   ·simp
   ·rfl
   ·exact at_
   rintro i r ⟨h1,h2⟩
   by_cases hi:i<c.order.length
   ·have UU:=hv _ (aY hi)
    have hno:=fun h=>BH hi (aaY (c:=c) (i:=i) h)
    have acG:=fun k hk h=>BH hi (Zt (c:=c) (k:=k) (i:=i) hk hi h)
    have hok:=fun h hr hk=>aW h2 (aaX (c:=c) hi h hr hk)
    obtain⟨v,HU⟩:∃ v,c.order.getD i default=v:=⟨_,rfl⟩
    rw[HU]at UU hno acG hok
    have c1:=rR v.kind v.n v.s UU.2
    rw[show (⟨v.kind,v.n,v.s⟩:dy)=v from rfl]at c1
    cases xm:bS v
    all_goals rw[xm]at c1
    ·repeat' first|simp (disch:=omega) only[go_sem,aC,aD,aE,aj,au,ak,Nat.reduceAdd,Nat.reduceBEq,↓reduceIte,HU]|refine aB ?_|refine aF c1 ?_|refine aA (fun hw=>?_) (fun hw=>?_)<;>try omega|fail
     all_goals (refine aL ?_ rfl;rw[hno (.inl xm)])
    ·repeat' first|simp (disch:=omega) only[go_sem,aC,aD,aE,aj,au,ak,Nat.reduceAdd,Nat.reduceBEq,↓reduceIte,HU]|refine aB ?_|refine aF c1 ?_|refine aA (fun hw=>?_) (fun hw=>?_)<;>try omega|fail
     ·refine aL ?_ rfl;rw[hno (.inr (by simp_all))]
     with_reducible refine a_ [4,6,38,39,40,41,42,43,44,45,46,47,48,49,50,51,52,53] (fun k:Nat=>[(6,I k)]) (fun _=>[.cells [.str c.name,I c.kind,.aG false EV (c.order.map gO)]]) (fun k=>k≤i∧ ∀ j,j<k→(c.order.getD j default==v)=false) (fun k=>i-k) (0) ?_ ?_ ?_ ?_
     ·simp
     ·rfl
     ·exact at_
     rintro k r2 ⟨g1,g2⟩
     by_cases hk:k<i
     ·have hdk:=acG k hk
      have hgk:=aW (i:=k) g2
      obtain⟨u,acH⟩:∃ u,c.order.getD k default=u:=⟨_,rfl⟩
      rw[acH]at hdk hgk
      have hb:=IC u v
      repeat' first|simp (disch:=omega) only[go_sem,aC,aD,aE,aj,au,ak,Nat.reduceAdd,Nat.reduceBEq,↓reduceIte,HU,acH]|refine aB ?_|refine aA (fun hw=>?_) (fun hw=>?_)<;>try omega|fail
      ·refine aL ?_ rfl
       rw[hdk (by rw[hb];simp_all)]
      ·refine⟨k+1,?_,?_,by first|rfl|(simp[go_sem];done),bG,at_⟩<;>(try dsimp only)
       ·exact⟨by omega,hgk (by rw[hb,← Bool.not_eq_true];simp_all)⟩
       ·omega
     ·repeat' first|refine aB ?_|refine aA (fun hw=>?_) (fun hw=>?_)<;>try omega|fail
      refine⟨i+1,?_,?_,by first|rfl|(simp[go_sem];done),bG,at_⟩<;>(try dsimp only)
      ·exact⟨by omega,hok (fun j hj=>g2 j (by omega)) xm (by simp_all)⟩
      ·omega
   ·repeat' first|refine aB ?_|refine aA (fun hw=>?_) (fun hw=>?_)<;>try omega|fail
    all_goals (refine aL ?_ rfl;rw[Mw (fun k hk=>h2 k (by omega))];refine congrArg AV.bool ?_;rw[Bool.eq_iff_iff];simp_all)
    all_goals (try omega)
def g_(l:List bV)(b:Bool): Int:=if gi l≠0 then gi l else if l.length=0∨(l.any fun c=> !(fQ c b))=true then 17 else 0
theorem KB(c:bV)(b:Bool)(h:qO c): aq Tryz.prog lY [bp c,.dW E1 (.bool b) 0] (.bool (!(fQ c b))):=by
 have h1:=Sn c b h
 simp only[bp,dH]at h1 ⊢
 generalize fQ c b=o at *
 refine aq.of_nil (FW (by simp) ?_) (by simp)
 unfold w6 aM
 intro Q aC aD aE
 repeat' first|refine aB ?_|refine aF h1 ?_|refine aA (fun hw=>?_) (fun hw=>?_)<;>try omega|fail
 all_goals exact aL rfl rfl
theorem Dm(l:List bV)(b:Bool)(hl:l.length≤2 ^ 60)(h:∀ c ∈ l,qO c): aq Tryz.prog nH [bq l,.bool b] (I (g_ l b)):=by
 have h1:=N7 l (fun k hk=>(h _ (aY hk)).1)
 have h2:=yf lY [.dW E1 (.bool b) 0] rfl (fun c=> !(fQ c b)) l (fun k hk=>KB _ b (h _ (aY hk))) (by omega)
 have hS:g_ l b=if gi l≠0 then gi l else if l.length=0∨(l.any fun c=> !(fQ c b))=true then 17 else 0:=rfl
 rw[hS]
 clear hS
 simp only[bq]at h1 h2 ⊢
 generalize (l.any fun c=> !(fQ c b))=an at *
 generalize gi l=cs at *
 refine aq.of_nil (I1 (by simp) ?_) (by simp)
 unfold Af aM
 intro Q aC aD aE
 repeat' first|refine aB ?_|refine aF h1 ?_|refine RB h2 ?_|refine aA (fun hw=>?_) (fun hw=>?_)<;>try omega|fail
 all_goals (refine aL ?_ rfl;refine congrArg I ?_;simp_all[← List.length_eq_zero_iff])
 all_goals (try omega)
theorem FL(l:List bV)(b:Bool)(hl:l.length≤2 ^ 60)(h:∀ c ∈ l,qO c): aq Tryz.prog oT [bq l,.bool b] (I (g_ l b)):=by
 have h1:=Qq l (fun k hk=>(h _ (aY hk)).1)
 have hS:g_ l b=if gi l≠0 then gi l else if l.length=0∨(l.any fun c=> !(fQ c b))=true then 17 else 0:=rfl
 rw[hS]
 clear hS
 simp only[bq]at h1 ⊢
 generalize gi l=cs at *
 refine aq.of_nil (Kg (by simp) ?_) (by simp)
 unfold Br aM
 intro Q aC aD aE
 repeat' first|refine aB ?_|refine aF h1 ?_|refine aA (fun hw=>?_) (fun hw=>?_)<;>try omega|fail
 ·refine aL ?_ rfl;refine congrArg I ?_;rw[if_pos (by omega)]
 have hcs:¬ cs≠0:=by omega
 rw[if_neg hcs]at aC
 with_reducible refine a_ [4,6,12,13,14,15,16,17,18,19,20,21,22,23,24] (fun i:Nat=>[(6,I i)]) (fun _=>[]) (fun i=>i≤l.length∧ ∀ k,k<i→(!(fQ (l.getD k default) b))=false) (fun i=>l.length-i) (0) ?_ ?_ ?_ ?_
 ·simp
 ·rfl
 ·exact at_
 rintro i r ⟨h1,h2⟩
 by_cases hi:i<l.length
 ·have h3:=TT _ b (h _ (aY hi))
  simp only[bp,dH]at h3
  repeat' first|refine aB ?_|refine aF h3 ?_|refine aA (fun hw=>?_) (fun hw=>?_)<;>try omega|fail
  ·refine aL ?_ rfl
   refine congrArg I ?_
   rw[Ax (p:=fun c=> !(fQ c b)) hi (by simpa using hw)];simp
  ·refine⟨i+1,?_,?_,by first|rfl|(simp[go_sem];done),bG,at_⟩<;>(try dsimp only)
   ·exact⟨by omega,aW h2 (by simpa using hw)⟩
   ·omega
 ·repeat' first|refine aB ?_|refine aA (fun hw=>?_) (fun hw=>?_)<;>try omega|fail
  all_goals (refine aL ?_ rfl;rw[vZ (p:=fun c=> !(fQ c b)) (fun k hk=>h2 k (by omega))];refine congrArg I ?_;simp_all[← List.length_eq_zero_iff])
  all_goals (try omega)
def jj(t:Table): Bool :=
 if t.bl<1∨6<t.bl then false else if t.agg=0 then true
 else if t.bl≠5∨t.agg<1∨4<t.agg∨t.outs.length≠1 then false
 else decide (t.agg=4∨(t.outs.getD 0 default).kind=1∨(t.outs.getD 0 default).kind=2∧t.agg≠1)
def e7(t:Table): Int :=
 if eK t.name=false then 13 else if g_ t.ins false≠0 then g_ t.ins false
 else if g_ t.outs (decide (t.bl=3))≠0 then g_ t.outs (decide (t.bl=3))
 else if jj t=false then 17 else if 24<t.rules.length then 24 else 0
def gU(t:Table): Prop:=t.name.length≤2 ^ 30∧(t.ins.length≤2 ^ 30∧ ∀ c ∈ t.ins,qO c)∧(t.outs.length≤2 ^ 30∧ ∀ c ∈ t.outs,qO c) ∧
 t.rules.length≤2 ^ 30∧ ∀ r ∈ t.rules,(r.cells.length≤2 ^ 30∧ ∀ s ∈ r.cells,s.length≤2 ^ 30)∧r.outs.length≤2 ^ 30∧ ∀ s ∈ r.outs,s.length≤2 ^ 30
theorem Mx{l:List bV}(h:gi l=0){i:Nat}(hi:i<l.length): 1≤(l.getD i default).kind∧(l.getD i default).kind≤3:=by
 by_cases h6:6<l.length
 ·unfold gi at h;rw[if_pos h6]at h;omega
 ·by_cases hc:∀ k,k<l.length→sM l k=0
  ·have:=hc i hi
   unfold sM at this
   split at this
   ·omega
   ·split at this
    ·omega
    ·omega
  ·exfalso
   unfold gi at h
   rw[if_neg h6]at h
   split at h
   ·rename_i j hj
    have:=List.find?_some hj
    simp[h]at this
   ·rename_i hn
    apply hc
    intro k hk
    have:=List.find?_eq_none.1 hn k (by simpa using hk)
    simpa using this
theorem HV{l:List bV}{b:Bool}(h:g_ l b=0): gi l=0∧0<l.length:=by
 unfold g_ at h
 split at h
 ·omega
 ·split at h
  ·omega
  ·rename_i h1 h2
   refine⟨by omega,?_⟩
   rcases Nat.eq_zero_or_pos l.length with h3|h3
   ·exact absurd (.inl h3) h2
   ·exact h3
theorem Qv(t:Table)(ho:gi t.outs=0): aq Tryz.prog oS [bI t] (.bool (jj t)):=by
 have hk:=fun h=>Mx ho (i:=0) h
 have hS:jj t=if t.bl<1∨6<t.bl then false else if t.agg=0 then true else if t.bl≠5∨t.agg<1∨4<t.agg∨t.outs.length≠1 then false else decide (t.agg=4∨(t.outs.getD 0 default).kind=1∨(t.outs.getD 0 default).kind=2∧t.agg≠1):=rfl
 rw[hS]
 clear hS ho
 simp only[bI,dc,bq,cQ]
 obtain⟨c,So⟩:∃ c,t.outs.getD 0 default=c:=⟨_,rfl⟩
 rw[So]at hk ⊢
 refine aq.of_nil (Kf (by simp) ?_) (by simp)
 unfold Bq aM
 intro Q aC aD aE
 repeat' first|simp (disch:=omega) only[go_sem,aC,aD,aE,aj,au,ak,Nat.reduceAdd,Nat.reduceBEq,↓reduceIte,So]|refine aB ?_|refine aA (fun hw=>?_) (fun hw=>?_)<;>try omega|fail
 all_goals (refine aL ?_ rfl;refine congrArg AV.bool ?_;rw[Bool.eq_iff_iff];simp_all)
 all_goals (try omega)
theorem Sp(t:Table): aq Tryz.prog qD [bI t] (.bool (jj t)):=by
 have hS:jj t=if t.bl<1∨6<t.bl then false else if t.agg=0 then true else if t.bl≠5∨t.agg<1∨4<t.agg∨t.outs.length≠1 then false else decide (t.agg=4∨(t.outs.getD 0 default).kind=1∨(t.outs.getD 0 default).kind=2∧t.agg≠1):=rfl
 rw[hS]
 clear hS
 simp only[bI,dc,bq,cQ]
 obtain⟨c,So⟩:∃ c,t.outs.getD 0 default=c:=⟨_,rfl⟩
 rw[So]
 refine aq.of_nil (LK (by simp) ?_) (by simp)
 unfold C1 aM
 intro Q aC aD aE
 repeat' first|simp (disch:=omega) only[go_sem,aC,aD,aE,aj,au,ak,Nat.reduceAdd,Nat.reduceBEq,↓reduceIte,So]|refine aB ?_|refine aA (fun hw=>?_) (fun hw=>?_)<;>try omega|fail
 all_goals (refine aL ?_ rfl;refine congrArg AV.bool ?_;rw[Bool.eq_iff_iff];simp_all)
 all_goals (try omega)
theorem Sq(t:Table)(h:gU t): aq Tryz.prog vD [bI t] (I (e7 t)):=by
 obtain⟨h1,h2,h3,h4,_⟩:=h
 have c1:=Ea t.name (by omega)
 have c2:=Dm t.ins false (by omega) h2.2
 have c3:=Dm t.outs (decide (t.bl=3)) (by omega) h3.2
 have c4:g_ t.outs (decide (t.bl=3))=0→aq Tryz.prog oS [bI t] (.bool (jj t)):=fun hb=>Qv t (HV hb).1
 have hS:e7 t=if eK t.name=false then 13 else if g_ t.ins false≠0 then g_ t.ins false else if g_ t.outs (decide (t.bl=3))≠0 then g_ t.outs (decide (t.bl=3))else if jj t=false then 17 else if 24<t.rules.length then 24 else 0:=rfl
 rw[hS]
 clear hS
 simp only[bI,dc,bq,cQ]at c2 c3 c4 ⊢
 generalize eK t.name=n at *
 generalize g_ t.ins false=a at *
 generalize g_ t.outs (decide (t.bl=3))=b at *
 generalize jj t=p at *
 by_cases hb:b=0
 ·have c5:=c4 hb
  clear c4
  refine aq.of_nil (Bo (by simp) ?_) (by simp)
  unfold vO aM
  intro Q aC aD aE
  repeat' first|refine aB ?_|refine aF c1 ?_|refine aF c2 ?_|refine aF c3 ?_|refine aF c5 ?_|refine aA (fun hw=>?_) (fun hw=>?_)<;>try omega|fail
  all_goals (refine aL ?_ rfl;refine congrArg I ?_;simp_all)
  all_goals (try omega)
 ·clear c4
  refine aq.of_nil (Bo (by simp) ?_) (by simp)
  unfold vO aM
  intro Q aC aD aE
  repeat' first|refine aB ?_|refine aF c1 ?_|refine aF c2 ?_|refine aF c3 ?_|refine aA (fun hw=>?_) (fun hw=>?_)<;>try omega|fail
  all_goals first
   | exact aZ
   |(refine aL ?_ rfl;refine congrArg I ?_;simp_all;done)
   |(refine aL ?_ rfl;refine congrArg I ?_;simp_all;omega)
theorem TV(t:Table)(h:gU t): aq Tryz.prog xH [bI t] (I (e7 t)):=by
 obtain⟨h1,h2,h3,h4,_⟩:=h
 have c1:=yS t.name (by omega)
 have c2:=FL t.ins false (by omega) h2.2
 have c3:=FL t.outs (decide (t.bl=3)) (by omega) h3.2
 have c4:g_ t.outs (decide (t.bl=3))=0→aq Tryz.prog qD [bI t] (.bool (jj t)):=fun hb=>Sp t
 have hS:e7 t=if eK t.name=false then 13 else if g_ t.ins false≠0 then g_ t.ins false else if g_ t.outs (decide (t.bl=3))≠0 then g_ t.outs (decide (t.bl=3))else if jj t=false then 17 else if 24<t.rules.length then 24 else 0:=rfl
 rw[hS]
 clear hS
 simp only[bI,dc,bq,cQ]at c2 c3 c4 ⊢
 generalize eK t.name=n at *
 generalize g_ t.ins false=a at *
 generalize g_ t.outs (decide (t.bl=3))=b at *
 generalize jj t=p at *
 by_cases hb:b=0
 ·have c5:=c4 hb
  clear c4
  refine aq.of_nil (CW (by simp) ?_) (by simp)
  unfold x7 aM
  intro Q aC aD aE
  repeat' first|refine aB ?_|refine aF c1 ?_|refine aF c2 ?_|refine aF c3 ?_|refine aF c5 ?_|refine aA (fun hw=>?_) (fun hw=>?_)<;>try omega|fail
  all_goals (refine aL ?_ rfl;refine congrArg I ?_;simp_all)
  all_goals (try omega)
 ·clear c4
  refine aq.of_nil (CW (by simp) ?_) (by simp)
  unfold x7 aM
  intro Q aC aD aE
  repeat' first|refine aB ?_|refine aF c1 ?_|refine aF c2 ?_|refine aF c3 ?_|refine aA (fun hw=>?_) (fun hw=>?_)<;>try omega|fail
  all_goals first
   | exact aZ
   |(refine aL ?_ rfl;refine congrArg I ?_;simp_all;done)
   |(refine aL ?_ rfl;refine congrArg I ?_;simp_all;omega)
end Go.Proofs.YtmbgnaoilncbnaaGreatDoor
