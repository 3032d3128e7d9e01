/- Part of a proof: see Root. -/
import Derived.Test.YtmbgnaoilncbnaaGreatDoorZ25
set_option linter.unnecessarySimpa false
set_option linter.unusedSimpArgs false
set_option linter.unusedVariables false
namespace Go.Proofs.YtmbgnaoilncbnaaGreatDoor
open Go.AM
set_option maxRecDepth 4000
abbrev TW: TypeId:=185
theorem oC: HO TW:=by unfold HO;kernel_rfl
theorem Sk(x:Expr): aq Tryz.prog vI [aJ x] (I (bR x.op)):=by
 have hf:=Cc x.op
 have hS:bR x.op=if x.op=16 then 0 else if x.op=3 then 6 else if x.op=1∨x.op=2 then 7 else(bt x.op).level:=rfl
 rw[hS]
 clear hS
 simp only[RM]at hf
 generalize bt x.op=b at *
 rw[aN]
 refine aq.of_nil (LJ (by simp) ?_) (by simp)
 unfold C0 aM
 intro Q aC aD aE
 repeat' first|refine aB ?_|refine aF hf ?_|refine aA (fun hw=>?_) (fun hw=>?_)<;>try omega|fail
 all_goals (refine aL ?_ rfl;simp_all)
def aaj(x:Expr): Prop:= ∀(lv:Int) (σ : ai) (l:Nat) (s:aH),mY TW σ l s→s.length+(dB x lv).length≤2 ^ 38 →
 ef Tryz.prog eg [.ref l 0,.agg [I x.op,I x.v.kind,I x.v.n,.str x.v.s,.str x.s,.aG false EX (x.l.map aJ)],I lv] σ fun o σ'=>o = .ret (.bJ [])∧mY TW σ' l (s++dB x lv)∧f_ l σ σ'
set_option maxHeartbeats 4000000 in
theorem Wj(x:Expr): bC x=true→eH x→aaj x:=by
 induction x using Expr.ind with
 | h op v s l ih =>
   intro hr hx
   have Sf:=sC hr
   have hL:=Sk (.mk op v s l)
   rw[aN]at hL
   simp only[eH]at hx
   obtain⟨hs,hvs,Om,L4,hl⟩:=hx
   have zz:∀ y ∈ l,bC y=true→aaj y:=fun y hy Pe=>ih y hy Pe (v8 hl hy)
   have Eu:∀ (lv:Int) (σ : ai) (k:Nat) (t:aH),¬ bR op<lv→mY TW σ k t→t.length+(bF (.mk op v s l)).length≤2 ^ 38 →
    ef Tryz.prog eg [.ref k 0,.agg [I op,I v.kind,I v.n,.str v.s,.str s,.aG false EX (l.map aJ)],I lv] σ fun o σ'=>o = .ret (.bJ [])∧mY TW σ' k (t++bF (.mk op v s l))∧f_ k σ σ':=by
    intro lv σ k t hlv hb hlen
    have tJ:=hb.lt
    have hb1:=fun o:aR=>hb.push [o]
    have hgo:∀ {σ':ai} {o:aR},f_ k (σ++[o]) σ'→(∀ T xs,o≠ .bM (some T) E1 xs)→σ'[σ.length]? = some o:=fun cu AG=>cu.2 σ.length _ (by simp) (by omega) AG
    have Dk:=hL
    simp only[Expr.aai,Expr.ack,Expr.acm,Expr.acn]at Dk
    rcases ju hr with⟨rfl,rfl,rfl,h1,_⟩|⟨rfl,rfl,rfl,h1⟩|⟨rfl,rfl,rfl,a,rfl,ha⟩|⟨rfl,rfl,rfl,a,b,c,rfl,ha,hb',hc⟩|⟨o1,o2,rfl,rfl,FJ,Sh,uL,_,_,a,b,rfl,ha,hb'⟩
    ·have ht:=Wi v Om L4 h1
     have hW:bF (.mk 1 v [] [])=qM v:=by simp[bF,jt]
     rw[hW]at hlen ⊢
     generalize qM v=tv at *
     generalize bR 1=FJ at *
     simp only[gO]at ht
     simp only[List.map_nil]at Dk ⊢
     refine fC (by simp) ?_
     unfold eP aM
     intro Q aC aD aE
     repeat' first|refine aB ?_|refine aF Dk ?_|refine aF ht ?_|with_reducible refine bT (Builder_WriteString oC _ k t tv (hb1 _) (by omega)) ?_|refine aA (fun hw=>?_) (fun hw=>?_)<;>try omega|fail
     all_goals first
      | (rintro o σ1 ⟨rfl, hb2, cu⟩
         repeat' first|refine aB ?_|refine aA (fun hw=>?_) (fun hw=>?_)<;>try omega|fail
         exact⟨rfl,hb2,cu.qN⟩)
      | exact aZ
    ·have hW:bF (.mk 2 v0 s [])=s:=by simp[bF,jt]
     rw[hW]at hlen ⊢
     generalize bR 2=FJ at *
     simp only[List.map_nil]at Dk ⊢
     refine fC (by simp) ?_
     unfold eP aM
     intro Q aC aD aE
     repeat' first|refine aB ?_|refine aF Dk ?_|with_reducible refine bT (Builder_WriteString oC _ k t s (hb1 _) (by omega)) ?_|refine aA (fun hw=>?_) (fun hw=>?_)<;>try omega|fail
     all_goals first
      | (rintro o σ1 ⟨rfl, hb2, cu⟩
         repeat' first|refine aB ?_|refine aA (fun hw=>?_) (fun hw=>?_)<;>try omega|fail
         exact⟨rfl,hb2,cu.qN⟩)
      | exact aZ
    ·have pa:=zz a (by simp) ha
     have hW:bF (.mk 3 v0 [] [a])=45::dB a 6:=by simp[bF,me,jt,dB]
     rw[hW,List.length_cons]at hlen
     rw[hW]
     have pa:=pa 6
     generalize dB a 6=t1 at *
     generalize bR 3=FJ at *
     simp only[List.map_cons,List.map_nil,aN a]at Dk ⊢
     refine fC (by simp) ?_
     unfold eP aM
     intro Q aC aD aE
     repeat' first|refine aB ?_|refine aF Dk ?_|with_reducible refine bT (Builder_WriteByte oC _ k t 45 45 rfl (hb1 _) (by omega)) ?_|refine aA (fun hw=>?_) (fun hw=>?_)<;>try omega|fail
     all_goals first
      | (rintro o σ1 ⟨rfl, hb2, cu⟩
         have qT:=hgo cu (fun _ _=>by simp)
         repeat' first|simp (disch:=omega) only[go_sem,aC,aD,aE,aj,au,ak,Nat.reduceAdd,Nat.reduceBEq,↓reduceIte,qT]|refine aB ?_|with_reducible refine bT (pa _ k _ hb2 (by simp only[List.length_append,List.length_cons,List.length_nil];omega)) ?_|refine aA (fun hw=>?_) (fun hw=>?_)<;>try omega|fail
         rintro o σ2 ⟨rfl,hb3,iA⟩
         repeat' first|refine aB ?_|refine aA (fun hw=>?_) (fun hw=>?_)<;>try omega|fail
         exact⟨rfl,by simpa using hb3,(cu.trans iA).qN⟩)
      | exact aZ
    ·have pa:=zz a (by simp) ha 0
     have pb:=zz b (by simp) hb' 0
     have pc:=zz c (by simp) hc 0
     have hW:bF (.mk 16 v0 [] [a,b,c])=oQ++dB a 0++kZ++dB b 0++qa++dB c 0:=by simp[bF,me,jt,dB]
     rw[hW]at hlen ⊢
     simp only[List.length_append,oQ,kZ,qa,List.length_cons,List.length_nil]at hlen
     generalize dB a 0=t1 at *
     generalize dB b 0=t2 at *
     generalize dB c 0=t3 at *
     generalize bR 16=FJ at *
     simp only[List.map_cons,List.map_nil,aN a,aN b,aN c]at Dk ⊢
     refine fC (by simp) ?_
     unfold eP aM
     intro Q aC aD aE
     repeat' first|refine aB ?_|refine aF Dk ?_|refine aA (fun hw=>?_) (fun hw=>?_)<;>try omega|fail
     all_goals try (exfalso;omega)
     obtain⟨C,hC⟩:∃ C,C=aR.cells [I 16,I v0.kind,I v0.n,.str v0.s,.str [],.aG false EX [.agg [I a.op,I a.v.kind,I a.v.n,.str a.v.s,.str a.s,.aG false EX (a.l.map aJ)],.agg [I b.op,I b.v.kind,I b.v.n,.str b.v.s,.str b.s,.aG false EX (b.l.map aJ)],.agg [I c.op,I c.v.kind,I c.v.n,.str c.v.s,.str c.s,.aG false EX (c.l.map aJ)]]]:=⟨_,rfl⟩
     have hCn:∀ T xs,C≠ .bM (some T) E1 xs:=by rw[hC];intro T xs h;cases h
     with_reducible refine a_ [8,9,98,99,100,101,102,103,104,105,106,107,108,109,110,111,112,113,114] (fun x:Int × ai=>[(98,I x.1)]) (fun x=>x.2) (fun x=>(x.1=0∧mY TW x.2 k t∨x.1=1∧mY TW x.2 k (t++(oQ++t1))∨x.1=2∧mY TW x.2 k (t++(oQ++t1++kZ++t2))∨x.1=3∧mY TW x.2 k (t++(oQ++t1++kZ++t2++qa++t3)))∧f_ k σ x.2∧x.2[σ.length]? = some C) (fun x=>(3-x.1).toNat) (0,σ++[C]) ?_ ?_ ?_ ?_
     ·exact⟨.inl ⟨rfl,hb.push _⟩,(f_.refl k (σ++[C])).qN,by simp⟩
     ·rw[hC]
     ·exact at_
     rintro⟨i,σ1⟩ r ⟨hi,cu,qT⟩
     dsimp only at hi cu qT
     have keep:∀ {σ2:ai},f_ k σ1 σ2→σ2[σ.length]? = some C:=fun h=>h.2 _ _ qT (by omega) hCn
     rcases hi with⟨rfl,Sl⟩|⟨rfl,Sl⟩|⟨rfl,Sl⟩|⟨rfl,Sl⟩
     ·repeat' first|simp (disch:=omega) only[go_sem,aC,aD,aE,aj,au,ak,Nat.reduceAdd,Nat.reduceBEq,↓reduceIte,show(0:Int).toNat=0 from rfl]|refine aB ?_|with_reducible refine bT (Builder_WriteString oC _ k _ _ Sl (by simp;omega)) ?_|refine aA (fun hw=>?_) (fun hw=>?_)<;>try omega|fail
      all_goals first
       | (rintro o σ2 ⟨rfl, hb2, iA⟩
          have nS:=keep iA
          rw[hC]at nS
          repeat' first|simp (disch:=omega) only[go_sem,aC,aD,aE,aj,au,ak,Nat.reduceAdd,Nat.reduceBEq,↓reduceIte,nS,show(0:Int).toNat=0 from rfl]|refine aB ?_|with_reducible refine bT (pa _ k _ hb2 (by simp[oQ];omega)) ?_|refine aA (fun hw=>?_) (fun hw=>?_)<;>try omega|fail
          rintro o σ3 ⟨rfl,hb3,uM⟩
          repeat' first|refine aB ?_|refine aA (fun hw=>?_) (fun hw=>?_)<;>try omega|fail
          refine⟨(1,σ3),⟨.inr (.inl ⟨rfl,by simpa[oQ]using hb3⟩),cu.trans (iA.trans uM),keep (iA.trans uM)⟩,(by dsimp only;decide),rfl,bG,at_⟩)
       | exact aZ
     ·repeat' first|simp (disch:=omega) only[go_sem,aC,aD,aE,aj,au,ak,Nat.reduceAdd,Nat.reduceBEq,↓reduceIte,Int.toNat_one]|refine aB ?_|with_reducible refine bT (Builder_WriteString oC _ k _ _ Sl (by simp[oQ];omega)) ?_|refine aA (fun hw=>?_) (fun hw=>?_)<;>try omega|fail
      all_goals first
       | (rintro o σ2 ⟨rfl, hb2, iA⟩
          have nS:=keep iA
          rw[hC]at nS
          repeat' first|simp (disch:=omega) only[go_sem,aC,aD,aE,aj,au,ak,Nat.reduceAdd,Nat.reduceBEq,↓reduceIte,nS,Int.toNat_one]|refine aB ?_|with_reducible refine bT (pb _ k _ hb2 (by simp[oQ,kZ];omega)) ?_|refine aA (fun hw=>?_) (fun hw=>?_)<;>try omega|fail
          rintro o σ3 ⟨rfl,hb3,uM⟩
          repeat' first|refine aB ?_|refine aA (fun hw=>?_) (fun hw=>?_)<;>try omega|fail
          refine⟨(2,σ3),⟨.inr (.inr (.inl ⟨rfl,by simpa[oQ,kZ]using hb3⟩)),cu.trans (iA.trans uM),keep (iA.trans uM)⟩,(by dsimp only;decide),rfl,bG,at_⟩)
       | exact aZ
     ·repeat' first|simp (disch:=omega) only[go_sem,aC,aD,aE,aj,au,ak,Nat.reduceAdd,Nat.reduceBEq,↓reduceIte,show(2:Int).toNat=2 from rfl]|refine aB ?_|with_reducible refine bT (Builder_WriteString oC _ k _ _ Sl (by simp[oQ,kZ];omega)) ?_|refine aA (fun hw=>?_) (fun hw=>?_)<;>try omega|fail
      all_goals first
       | (rintro o σ2 ⟨rfl, hb2, iA⟩
          have nS:=keep iA
          rw[hC]at nS
          repeat' first|simp (disch:=omega) only[go_sem,aC,aD,aE,aj,au,ak,Nat.reduceAdd,Nat.reduceBEq,↓reduceIte,nS,show(2:Int).toNat=2 from rfl]|refine aB ?_|with_reducible refine bT (pc _ k _ hb2 (by simp[oQ,kZ,qa];omega)) ?_|refine aA (fun hw=>?_) (fun hw=>?_)<;>try omega|fail
          rintro o σ3 ⟨rfl,hb3,uM⟩
          repeat' first|refine aB ?_|refine aA (fun hw=>?_) (fun hw=>?_)<;>try omega|fail
          refine⟨(3,σ3),⟨.inr (.inr (.inr ⟨rfl,by simpa[oQ,kZ,qa]using hb3⟩)),cu.trans (iA.trans uM),keep (iA.trans uM)⟩,(by dsimp only;decide),rfl,bG,at_⟩)
       | exact aZ
     ·repeat' first|refine aB ?_|refine aA (fun hw=>?_) (fun hw=>?_)<;>try omega|fail
      all_goals first
       | exact⟨rfl,Sl,cu⟩
       | exact aZ
    ·have pa:=zz a (by simp) ha
     have pb:=zz b (by simp) hb'
     have hf:=Cc op
     have pC:=Kz op
     have hW:bF (.mk op v0 [] [a,b])=dB a (if(bt op).level=3 then 4 else(bt op).level)++[32]++(bt op).sign++[32]++dB b ((bt op).level+1):=by
      simp only[bF,me,jt]
      rw[if_neg (by omega),if_neg (by omega),if_neg (by omega),if_neg (by omega)]
      rfl
     rw[hW]at hlen ⊢
     rw[uL]at Dk hlv
     clear hW uL Sf hL
     have hg1:∀ {σ':ai} {o o':aR},f_ k (σ++[o]++[o']) σ'→(∀ T xs,o≠ .bM (some T) E1 xs)→σ'[σ.length]? = some o:=fun cu AG=>cu.2 σ.length _ (by simp) (by omega) AG
     have Pf:∀ {σ':ai} {o o':aR},f_ k (σ++[o]++[o']) σ'→(∀ T xs,o'≠ .bM (some T) E1 xs)→σ'[σ.length+1]? = some o':=fun cu AG=>cu.2 (σ.length+1) _ (by simp) (by omega) AG
     simp only[List.length_append,List.length_cons,List.length_nil]at hlen
     simp only[RM]at hf
     generalize hBB:bt op=B at *
     obtain⟨bop,sg,lvl⟩:=B
     dsimp only at *
     simp only[List.map_cons,List.map_nil,aN a,aN b]at Dk ⊢
     by_cases h3:lvl=3
     ·subst h3
      simp only[if_true]at hlen ⊢
      have pa:=pa 4
      have pb:=pb (3+1)
      generalize dB a 4=t1 at *
      generalize dB b (3+1)=t2 at *
      simp only[Int.reduceAdd]at pb
      refine fC (by simp) ?_
      unfold eP aM
      intro Q aC aD aE
      repeat' first|simp (disch:=omega) only[go_sem,aC,aD,aE,aj,au,ak,Nat.reduceAdd,Nat.reduceBEq,↓reduceIte,Int.reduceAdd]|refine aB ?_|refine aF Dk ?_|refine aF hf ?_|with_reducible refine bT (pa _ k t ((hb.push _).push _) (by omega)) ?_|refine aA (fun hw=>?_) (fun hw=>?_)<;>try omega|fail
      all_goals first
       | (rintro o σ1 ⟨rfl, hb2, cu⟩
          have qT:=hg1 cu (fun _ _=>by simp)
          have nS:=Pf cu (fun _ _=>by simp)
          repeat' first|simp (disch:=omega) only[go_sem,aC,aD,aE,aj,au,ak,Nat.reduceAdd,Nat.reduceBEq,↓reduceIte,qT,nS]|refine aB ?_|with_reducible refine bT (Builder_WriteString oC _ k _ _ hb2 (by simp only[List.length_append,List.length_cons,List.length_nil];omega)) ?_|refine aA (fun hw=>?_) (fun hw=>?_)<;>try omega|fail
          rintro o σ2 ⟨rfl,hb3,iA⟩
          have qT:=iA.2 _ _ qT (by omega) (fun _ _=>by simp)
          have nS:=iA.2 _ _ nS (by omega) (fun _ _=>by simp)
          repeat' first|simp (disch:=omega) only[go_sem,aC,aD,aE,aj,au,ak,Nat.reduceAdd,Nat.reduceBEq,↓reduceIte,qT,nS,Int.toNat_one,Int.reduceAdd]|refine aB ?_|with_reducible refine bT (pb _ k _ hb3 (by simp only[List.length_append,List.length_cons,List.length_nil];omega)) ?_|refine aA (fun hw=>?_) (fun hw=>?_)<;>try omega|fail
          rintro o σ3 ⟨rfl,hb4,uM⟩
          repeat' first|refine aB ?_|refine aA (fun hw=>?_) (fun hw=>?_)<;>try omega|fail
          exact⟨rfl,by simpa using hb4,((cu.trans iA).trans uM).qN.qN⟩)
       | exact aZ
     ·simp only[if_neg h3]at hlen ⊢
      have pa:=pa lvl
      have pb:=pb (lvl+1)
      generalize dB a lvl=t1 at *
      generalize dB b (lvl+1)=t2 at *
      refine fC (by simp) ?_
      unfold eP aM
      intro Q aC aD aE
      repeat' first|simp (disch:=omega) only[go_sem,aC,aD,aE,aj,au,ak,Nat.reduceAdd,Nat.reduceBEq,↓reduceIte,Int.reduceAdd]|refine aB ?_|refine aF Dk ?_|refine aF hf ?_|with_reducible refine bT (pa _ k t ((hb.push _).push _) (by omega)) ?_|refine aA (fun hw=>?_) (fun hw=>?_)<;>try omega|fail
      all_goals first
       | (rintro o σ1 ⟨rfl, hb2, cu⟩
          have qT:=hg1 cu (fun _ _=>by simp)
          have nS:=Pf cu (fun _ _=>by simp)
          repeat' first|simp (disch:=omega) only[go_sem,aC,aD,aE,aj,au,ak,Nat.reduceAdd,Nat.reduceBEq,↓reduceIte,qT,nS]|refine aB ?_|with_reducible refine bT (Builder_WriteString oC _ k _ _ hb2 (by simp only[List.length_append,List.length_cons,List.length_nil];omega)) ?_|refine aA (fun hw=>?_) (fun hw=>?_)<;>try omega|fail
          rintro o σ2 ⟨rfl,hb3,iA⟩
          have qT:=iA.2 _ _ qT (by omega) (fun _ _=>by simp)
          have nS:=iA.2 _ _ nS (by omega) (fun _ _=>by simp)
          repeat' first|simp (disch:=omega) only[go_sem,aC,aD,aE,aj,au,ak,Nat.reduceAdd,Nat.reduceBEq,↓reduceIte,qT,nS,Int.toNat_one,Int.reduceAdd]|refine aB ?_|with_reducible refine bT (pb _ k _ hb3 (by simp only[List.length_append,List.length_cons,List.length_nil];omega)) ?_|refine aA (fun hw=>?_) (fun hw=>?_)<;>try omega|fail
          rintro o σ3 ⟨rfl,hb4,uM⟩
          repeat' first|refine aB ?_|refine aA (fun hw=>?_) (fun hw=>?_)<;>try omega|fail
          exact⟨rfl,by simpa using hb4,((cu.trans iA).trans uM).qN.qN⟩)
       | exact aZ
   intro lv σ k t hb hlen
   by_cases hlv:bR op<lv
   ·rw[KA (x:= .mk op v s l) hlv]at hlen ⊢
    rw[List.length_cons,List.length_append,List.length_cons,List.length_nil]at hlen
    have tJ:=hb.lt
    have hgo:∀ {σ':ai} {o:aR},f_ k (σ++[o]) σ'→(∀ T xs,o≠ .bM (some T) E1 xs)→σ'[σ.length]? = some o:=fun cu AG=>cu.2 σ.length _ (by simp) (by omega) AG
    have sA:=fun σ t h1 h2=>Eu 0 σ k t (by show ¬ bR op<0;have:0≤bR op:=Sf;omega) h1 h2
    clear Eu
    generalize bF (.mk op v s l)=w at *
    simp only[Expr.aai,Expr.ack,Expr.acm,Expr.acn]at hL ⊢
    generalize bR op=FJ at *
    refine fC (by simp) ?_
    unfold eP aM
    intro Q aC aD aE
    repeat' first|refine aB ?_|refine aF hL ?_|with_reducible refine bT (Builder_WriteByte oC _ k t 40 40 rfl (hb.push _) (by omega)) ?_|refine aA (fun hw=>?_) (fun hw=>?_)<;>try omega|fail
    all_goals first
     | (rintro o σ1 ⟨rfl, hb2, cu⟩
        have qT:=hgo cu (fun _ _=>by simp)
        repeat' first|simp (disch:=omega) only[go_sem,aC,aD,aE,aj,au,ak,Nat.reduceAdd,Nat.reduceBEq,↓reduceIte,qT]|refine aB ?_|with_reducible refine bT (sA _ _ hb2 (by simp only[List.length_append,List.length_cons,List.length_nil];omega)) ?_|refine aA (fun hw=>?_) (fun hw=>?_)<;>try omega|fail
        rintro o σ2 ⟨rfl,hb3,iA⟩
        repeat' first|refine aB ?_|with_reducible refine bT (Builder_WriteByte oC _ k _ 41 41 rfl hb3 (by simp only[List.length_append,List.length_cons,List.length_nil];omega)) ?_|refine aA (fun hw=>?_) (fun hw=>?_)<;>try omega|fail
        rintro o σ3 ⟨rfl,hb4,uM⟩
        repeat' first|refine aB ?_|refine aA (fun hw=>?_) (fun hw=>?_)<;>try omega|fail
        exact⟨rfl,by simpa using hb4,((cu.trans iA).trans uM).qN⟩)
     | exact aZ
   ·rw[Et (x:= .mk op v s l) hlv]at hlen ⊢
    exact Eu lv σ k t hlv hb hlen
theorem JJ(x:Expr)(hx:eH x)(hz:da x≤2 ^ 30): aq Tryz.prog lO [aJ x] (.bJ [.str (jQ x).1,I (jQ x).2]):=by
 have h1:=Hv x hx (by omega)
 have h2:=Cd x (by omega)
 have h3:=fun hr=>Wj x hr hx 0
 have hT:jQ x=if bC x=false then([],2)else if 12<fK x then([],12)else if iS x=true then([],5)else (bF x,0):=rfl
 rw[hT]
 unfold iS
 cases hr:bC x with
 | false =>
   rw[if_pos rfl]
   rw[hr]at h1
   rw[aN]at h1 ⊢
   refine aq.of_nil (CN (by simp) ?_) (by simp)
   unfold xY aM
   intro Q aC aD aE
   repeat' first|refine aB ?_|refine aF h1 ?_|refine aA (fun hw=>?_) (fun hw=>?_)<;>try omega|fail
   all_goals exact aP rfl rfl
 | true =>
   have h3:=h3 hr
   rw[Si hr]at h3
   have hlen:=yX x hr hx
   rw[if_neg (by simp)]
   rw[hr]at h1
   generalize bF x=t at *
   generalize fK x=d at *
   rw[aN]at h1 h2 ⊢
   have hb0:∀ C:aR,mY TW [C,.bj (some TW) [.fM,.ae]] 1 []:=fun C=>⟨_,_,rfl,.inl rfl,.inl ⟨rfl,rfl⟩⟩
   refine aq.of_nil (CN (by simp) ?_) (by simp)
   unfold xY aM
   intro Q aC aD aE
   by_cases hd:12<d
   ·simp only[if_pos hd]at aC aD aE
    repeat' first|refine aB ?_|refine aF h1 ?_|refine aF h2 ?_|refine aA (fun hw=>?_) (fun hw=>?_)<;>try omega|fail
    all_goals first|exact aP rfl rfl|exact aZ
   ·simp only[if_neg hd,decide_eq_true_eq]at aC aD aE
    have ad7:t.length≤2 ^ 38:=by omega
    repeat' first|refine aB ?_|refine aF h1 ?_|refine aF h2 ?_|with_reducible refine bT (h3 _ 1 [] (hb0 _) (by simpa using ad7)) ?_|refine aA (fun hw=>?_) (fun hw=>?_)<;>try omega|fail
    all_goals first
     | (rintro o σ1 ⟨rfl, hb2, _⟩
        try rw[List.nil_append]at hb2
        repeat' first|refine aB ?_|with_reducible refine bT (Builder_Len _ 1 _ hb2) ?_|refine aA (fun hw=>?_) (fun hw=>?_)<;>try omega|fail
        rintro o s' ⟨rfl,rfl⟩
        by_cases hb:200<t.length
        ·simp only[if_pos hb]at aC aD aE
         repeat' first|refine aB ?_|refine aA (fun hw=>?_) (fun hw=>?_)<;>try omega|fail
         all_goals first|exact aP rfl rfl|exact aZ
        ·simp only[if_neg hb]at aC aD aE
         repeat' first|refine aB ?_|with_reducible refine bT (Builder_String _ 1 _ hb2 (by omega)) ?_|refine aA (fun hw=>?_) (fun hw=>?_)<;>try omega|fail
         all_goals first
          | (rintro o σ2 ⟨rfl, _⟩
             repeat' first|refine aB ?_|refine aA (fun hw=>?_) (fun hw=>?_)<;>try omega|fail
             exact aP rfl rfl)
          | exact aZ)
     | exact aZ
def BE(t:Test): aH:=if t.lo then [93]else [91]
def vt(t:Test): aH:=if t.hi then [91]else [93]
def testW(t:Test): aH:=if t.kind=1 then dB t.a 4 else if t.kind=6 then BE t++dB t.a 4++[46,46]++dB t.b 4++vt t else eL t.kind++[32]++dB t.a 4
def gQ(t:Test): Bool:=iS t.a ||(decide (t.kind=6) && iS t.b)
def j5: aH:=[44,32]
def kx(l:List Test): aH:=Lib.join (l.map testW) j5
def nP(n:Bool)(s:aH): aH:=if n then [110,111,116,40]++s++[41]else s
def kz(c:Cell): aH × Int:=if eO c=false then([],2)else if c.any=true then([45],0)else if c.tests.any gQ=true then([],5)
 else if 200<(nP c.neg (kx c.tests)).length then([],5)else (nP c.neg (kx c.tests),0)
def AH(t:Test): Prop:=(eH t.a∧da t.a≤2 ^ 30)∧eH t.b∧da t.b≤2 ^ 30
def wm(c:Cell): Prop:=c.tests.length≤2 ^ 30∧ ∀ t ∈ c.tests,AH t
theorem wm.ok{c:Cell}(h:wm c): JA c:=⟨by have:=h.1;omega,fun t ht=>by
 obtain⟨⟨a,b⟩,c,d⟩:=h.2 t ht
 exact⟨⟨a,by omega⟩,c,by omega⟩⟩
theorem acF{x:Expr}(h:bC x=true): bR x.op<4↔8≤x.op∧x.op≤16:=by
 obtain⟨op,v,s,l⟩:=x
 rcases ju h with⟨rfl,_⟩|⟨rfl,_⟩|⟨rfl,_⟩|⟨rfl,_⟩|⟨_,_,_,_,_,_,h1,h2,h3,_⟩
 ·show bR 1<4↔8≤(1:Int)∧(1:Int)≤16;decide
 ·show bR 2<4↔8≤(2:Int)∧(2:Int)≤16;decide
 ·show bR 3<4↔8≤(3:Int)∧(3:Int)≤16;decide
 ·show bR 16<4↔8≤(16:Int)∧(16:Int)≤16;decide
 ·show bR op<4↔8≤op∧op≤16
  rw[h1]
  generalize bt op=b at *
  simp only[dL,List.mem_cons,List.not_mem_nil,or_false]at h3
  rcases h3 with rfl|rfl|rfl|rfl|rfl|rfl|rfl|rfl|rfl|rfl|rfl|rfl<;>(dsimp only at h2 ⊢;omega)
theorem tq{x:Expr}(h:iv x=true): bC x=true∧jQ x=if iS x=true then([],5)else (bF x,0):=by
 simp only[iv,Bool.and_eq_true,decide_eq_true_eq]at h
 refine⟨h.1,?_⟩
 unfold jQ
 rw[if_neg (by simp[h.1]),if_neg (by omega)]
theorem qb{x:Expr}(h:iS x=false)(lv:Int): (dB x lv).length≤202:=by
 simp only[iS,decide_eq_false_iff_not]at h
 have:=Es (bR x.op,bF x) lv
 dsimp only at this
 unfold dB;omega
theorem Mv(x:Expr)(hp:iv x=true)(hx:eH x)(hz:da x≤2 ^ 30): aq Tryz.prog tW [aJ x] (.bJ [.str (if iS x=true then []else dB x 4),I (if iS x=true then 5 else 0)]):=by
 obtain⟨hr,ht⟩:=tq hp
 have h1:=JJ x hx hz
 have h4:=acF hr
 have HP:=fun h=>qb (x:=x) h 4
 rw[ht]at h1
 cases hb:iS x with
 | true =>
   rw[hb]at h1
   simp only[if_true]at h1 ⊢
   rw[aN]at h1 ⊢
   refine aq.of_nil (x8 (by simp) ?_) (by simp)
   unfold ur aM
   intro Q aC aD aE
   repeat' first|refine aB ?_|refine aF h1 ?_|refine aA (fun hw=>?_) (fun hw=>?_)<;>try omega|fail
   all_goals exact aP rfl rfl
 | false =>
   have HP:=HP hb
   rw[hb]at h1
   simp only[Bool.false_eq_true,if_false]at h1 ⊢
   by_cases hl:bR x.op<4
   ·have ho:=h4.1 hl
    rw[KA hl]at HP ⊢
    rw[List.length_cons,List.length_append]at HP
    generalize bF x=t at *
    rw[aN]at h1 ⊢
    refine aq.of_nil (x8 (by simp) ?_) (by simp)
    unfold ur aM
    intro Q aC aD aE
    repeat' first|refine aB ?_|refine aF h1 ?_|refine aA (fun hw=>?_) (fun hw=>?_)<;>try omega|fail
    all_goals first|(refine aP ?_ rfl;simp;done)|exact aZ
   ·have ho:¬ (8≤x.op∧x.op≤16):=fun h=>hl (h4.2 h)
    rw[Et hl]at HP ⊢
    generalize bF x=t at *
    rw[aN]at h1 ⊢
    refine aq.of_nil (x8 (by simp) ?_) (by simp)
    unfold ur aM
    intro Q aC aD aE
    repeat' first|refine aB ?_|refine aF h1 ?_|refine aA (fun hw=>?_) (fun hw=>?_)<;>try omega|fail
    all_goals first|(refine aP ?_ rfl;simp;done)|exact aZ
theorem JK{t:Test}(h:ez t=true): iv t.a=true∧1≤t.kind∧t.kind≤6∧(t.kind=6→iv t.b=true):=by
 unfold ez at h
 split at h
 ·rename_i h6
  simp only[Bool.and_eq_true]at h
  exact⟨h.1,by omega,by omega,fun _=>h.2⟩
 ·rename_i h6
  simp only[Bool.and_eq_true,decide_eq_true_eq]at h
  exact⟨h.1.1.1.2,h.1.1.1.1.1,by omega,fun h=>absurd h h6⟩
theorem Pg{t:Test}(h:gQ t=false): (testW t).length≤420:=by
 simp only[gQ,Bool.or_eq_false_iff,Bool.and_eq_false_iff,decide_eq_false_iff_not]at h
 have ha:=qb h.1 4
 have hs:(eL t.kind).length≤2:=by unfold eL;split;simp;split;simp;split;simp;split<;>simp
 unfold testW
 split
 ·omega
 split
 ·rename_i h6
  have hb:=qb (x:=t.b) (by rcases h.2 with h|h;exact absurd h6 h;exact h) 4
  have l1:(BE t).length=1:=by unfold BE;split<;>rfl
  have l2:(vt t).length=1:=by unfold vt;split<;>rfl
  simp only[List.length_append,List.length_cons,List.length_nil];omega
 ·simp only[List.length_append,List.length_cons,List.length_nil];omega
set_option maxHeartbeats 1000000 in
theorem XU(t:Test)(hs:ez t=true)(h:AH t): aq Tryz.prog BS [bx t] (.bJ [.str (if gQ t=true then []else testW t),I (if gQ t=true then 5 else 0)]):=by
 obtain⟨p1,k1,k6,p2⟩:=JK hs
 have wa:=Mv t.a p1 h.1.1 h.1.2
 have JH:=O_ t.kind
 have la:=fun hb=>qb (x:=t.a) hb 4
 have lb:=fun hb=>qb (x:=t.b) hb 4
 by_cases h6:t.kind=6
 ·have wb:=Mv t.b (p2 h6) h.2.1 h.2.2
  have hW:testW t=BE t++dB t.a 4++[46,46]++dB t.b 4++vt t:=by unfold testW;rw[if_neg (by omega),if_pos h6]
  have hB:gQ t=(iS t.a || iS t.b):=by unfold gQ;rw[decide_eq_true h6,Bool.true_and]
  rw[hW,hB]
  unfold BE vt
  clear hW hB p1 p2 hs
  generalize dB t.a 4=ta at *
  generalize dB t.b 4=tb at *
  generalize iS t.a=ba at *
  generalize iS t.b=bb at *
  rw[aN]at wa wb
  simp only[bx,bP]
  cases ba<;>simp only[Bool.false_eq_true,if_false,if_true,Bool.true_or,Bool.false_or]at wa la ⊢
  ·have la:=la trivial
   cases bb<;>simp only[Bool.false_eq_true,if_false,if_true]at wb lb ⊢
   ·have lb:=lb trivial
    refine aq.of_nil (pN (by simp) ?_) (by simp)
    unfold ow aM
    intro Q aC aD aE
    repeat' first|refine aB ?_|refine aF wa ?_|refine aF wb ?_|refine aA (fun hw=>?_) (fun hw=>?_)<;>try omega|fail
    all_goals first|(refine aP ?_ rfl;simp_all;done)|exact aZ
   ·refine aq.of_nil (pN (by simp) ?_) (by simp)
    unfold ow aM
    intro Q aC aD aE
    repeat' first|refine aB ?_|refine aF wa ?_|refine aF wb ?_|refine aA (fun hw=>?_) (fun hw=>?_)<;>try omega|fail
    all_goals first|(refine aP ?_ rfl;simp_all;done)|exact aZ
  ·refine aq.of_nil (pN (by simp) ?_) (by simp)
   unfold ow aM
   intro Q aC aD aE
   repeat' first|refine aB ?_|refine aF wa ?_|refine aA (fun hw=>?_) (fun hw=>?_)<;>try omega|fail
   all_goals first|(refine aP ?_ rfl;simp_all;done)|exact aZ
 ·have hW:testW t=if t.kind=1 then dB t.a 4 else eL t.kind++[32]++dB t.a 4:=by unfold testW;rw[if_neg h6]
  have hB:gQ t=iS t.a:=by unfold gQ;rw[decide_eq_false h6,Bool.false_and,Bool.or_false]
  have pC:(eL t.kind).length≤2:=by unfold eL;split;simp;split;simp;split;simp;split<;>simp
  rw[hW,hB]
  clear hW hB p1 p2 hs
  generalize dB t.a 4=ta at *
  generalize iS t.a=ba at *
  generalize eL t.kind=sg at *
  rw[aN]at wa
  simp only[bx,bP]
  cases ba<;>simp only[Bool.false_eq_true,if_false,if_true]at wa la ⊢
  ·have la:=la trivial
   refine aq.of_nil (pN (by simp) ?_) (by simp)
   unfold ow aM
   intro Q aC aD aE
   repeat' first|refine aB ?_|refine aF wa ?_|refine aF JH ?_|refine aA (fun hw=>?_) (fun hw=>?_)<;>try omega|fail
   all_goals first|(refine aP ?_ rfl;simp_all;done)|exact aZ
  ·refine aq.of_nil (pN (by simp) ?_) (by simp)
   unfold ow aM
   intro Q aC aD aE
   repeat' first|refine aB ?_|refine aF wa ?_|refine aF JH ?_|refine aA (fun hw=>?_) (fun hw=>?_)<;>try omega|fail
   all_goals first|(refine aP ?_ rfl;simp_all;done)|exact aZ
theorem HQ{sep:aH}{B:Nat}: ∀(r:List aH),(∀ x ∈ r,x.length≤B)→(Lib.joinTail sep r).length≤r.length*(B+sep.length)
 | [],_=>by simp[Lib.joinTail]
 | x :: r, h => by
   have h1:=h x (by simp)
   have h2:=HQ (sep:=sep) r (fun y hy=>h y (List.mem_cons_of_mem _ hy))
   have e:Lib.joinTail sep (x::r)=sep++x++Lib.joinTail sep r:=by simp[Lib.joinTail]
   rw[e,List.length_append,List.length_append,List.length_cons,Nat.add_mul]
   omega
theorem Sm{sep:aH}{B:Nat}(l:List aH)(h:∀ x ∈ l,x.length≤B): (Lib.join l sep).length≤l.length*(B+sep.length):=by
 cases l with
 | nil=>simp[Lib.join_nil]
 | cons x r =>
   have h1:=h x (by simp)
   have h2:=HQ (sep:=sep) r (fun y hy=>h y (List.mem_cons_of_mem _ hy))
   rw[Lib.join_cons,List.length_append,List.length_cons,Nat.add_mul]
   omega
theorem XV{sep:aH}(l:List aH)(x:aH): Lib.join (l++[x]) sep=if l=[]then x else Lib.join l sep++sep++x:=by
 cases l with
 | nil=>rw[if_pos rfl];exact Lib.join_one x sep
 | cons y r =>
   rw[if_neg (by simp),List.cons_append,Lib.join_cons,Lib.join_cons]
   simp[Lib.joinTail]
theorem XW{l:List Test}{i:Nat}(h:i<l.length): (l.map testW).take (i+1)=(l.map testW).take i++[testW (l.getD i default)]:=by
 rw[List.take_succ_eq_append_getElem (by simpa using h)];simp[h]
theorem UQ{l:List Test}{n:Nat}(h:∀ k,k<n→k<l.length→gQ (l.getD k default)=false): ∀ x ∈ (l.map testW).take n,x.length≤420:=by
 intro x hx
 obtain⟨k,hk,rfl⟩:=List.getElem_of_mem hx
 simp only[List.length_take,List.length_map]at hk
 have:=Pg (h k (by omega) (by omega))
 have e:l.getD k default=l[k]'(by omega):=by simp[List.getD_eq_getElem?_getD,show k<l.length by omega]
 rw[e]at this
 simpa using this
set_option maxHeartbeats 2000000 in
theorem XX(c:Cell)(h:wm c): aq Tryz.prog rG [br c] (.bJ [.str (kz c).1,I (kz c).2]):=by
 have q_:=Em c h.ok
 have hT:kz c=if eO c=false then([],2)else if c.any=true then([45],0)else if c.tests.any gQ=true then([],5)
  else if 200<(nP c.neg (kx c.tests)).length then([],5)else (nP c.neg (kx c.tests),0):=rfl
 rw[hT]
 clear hT
 cases hr:eO c with
 | false =>
   rw[hr]at q_
   simp only[kV,Bool.false_eq_true,if_false]at q_
   rw[if_pos rfl]
   simp only[br,dG]at q_ ⊢
   refine aq.of_nil (z7 (by simp) ?_) (by simp)
   unfold wE aM
   intro Q aC aD aE
   repeat' first|refine aB ?_|refine aF q_ ?_|refine aA (fun hw=>?_) (fun hw=>?_)<;>try omega|fail
   all_goals exact aP rfl rfl
 | true =>
   rw[hr]at q_
   simp only[kV,if_true]at q_
   rw[if_neg (by simp)]
   cases ha:c.any with
   | true =>
     rw[if_pos rfl]
     simp only[br,dG,ha]at q_ ⊢
     refine aq.of_nil (z7 (by simp) ?_) (by simp)
     unfold wE aM
     intro Q aC aD aE
     repeat' first|refine aB ?_|refine aF q_ ?_|refine aA (fun hw=>?_) (fun hw=>?_)<;>try omega|fail
     all_goals exact aP rfl rfl
   | false =>
     rw[if_neg (by simp)]
     have qc:=hr
     unfold eO at qc
     rw[if_neg (by simp[ha])]at qc
     simp only[Bool.and_eq_true,decide_eq_true_eq,Bool.not_eq_true',List.any_eq_false]at qc
     obtain⟨⟨l1,XY⟩,Ph⟩:=qc
     have Ph:∀ t ∈ c.tests,ez t=true:=fun t ht=>by have:=Ph t ht;simpa using this
     simp only[br,dG,ha]at q_ ⊢
     refine aq.of_nil (z7 (by simp) ?_) (by simp)
     unfold wE aM
     intro Q aC aD aE
     repeat' first|refine aB ?_|refine aF q_ ?_|refine aA (fun hw=>?_) (fun hw=>?_)<;>try omega|fail
     with_reducible refine a_ [2,3,5,7,8,9,21,22,23,24,25,26,27,28,29,30,31,32,33,34,35,36,37] (fun q:Nat × List aR=>[(21,I q.1),(5,.own E1 1 q.1 0 q.1)]) (fun q=> .cells [.bool false,.bool c.neg,.aG false ES (c.tests.map bx)]:: .vec E1 (((c.tests.map testW).take q.1).map cy)::q.2) (fun q=>q.1≤c.tests.length∧ ∀ k,k<q.1→gQ (c.tests.getD k default)=false) (fun q=>c.tests.length-q.1) (0,[]) ?_ ?_ ?_ ?_
     ·simp
     ·simp
     ·exact at_
     rintro⟨i,τ⟩ r ⟨h1,h2⟩
     dsimp only at h1 h2
     by_cases hi:i<c.tests.length
     ·have hmem:=aY hi
      have ht:=XU _ (Ph _ hmem) (h.2 _ hmem)
      have hwt:=XW hi
      have cu:=fun he=>aW h2 (i:=i) he
      have lH:=fun hb=>Ax (p:=gQ) hi hb
      have hwl:=fun hb=>Pg (t:=c.tests.getD i default) hb
      have hvl:((c.tests.map testW).take i).length=i:=by rw[List.length_take,List.length_map];omega
      generalize hVV:(c.tests.map testW).take i=V at *
      obtain⟨t,p_⟩:∃ t,c.tests.getD i default=t:=⟨_,rfl⟩
      rw[p_]at ht hwt cu lH hwl
      simp only[bx,bP]at ht
      generalize testW t=tw at *
      cases hb:gQ t with
      | true =>
        rw[hb]at ht
        simp only[if_true]at ht
        have lH:=lH hb
        simp only[lH,if_true]at aC aD aE
        repeat' first|simp (disch:=omega) only[go_sem,aC,aD,aE,aj,au,ak,Nat.reduceAdd,Nat.reduceBEq,↓reduceIte,p_]|refine aB ?_|refine aF ht ?_|refine aA (fun hw=>?_) (fun hw=>?_)<;>try omega|fail
        all_goals first|exact aP rfl rfl|exact aZ
      | false =>
        rw[hb]at ht
        simp only[Bool.false_eq_true,if_false]at ht
        have cu:=cu hb
        repeat' first|simp (disch:=omega) only[go_sem,aC,aD,aE,aj,au,ak,Nat.reduceAdd,Nat.reduceBEq,↓reduceIte,p_,hvl]|refine aB ?_|refine aF ht ?_|refine aA (fun hw=>?_) (fun hw=>?_)<;>try omega|fail
        all_goals first
         | (refine ⟨(i + 1, τ ++ [.cells [I t.kind, I t.a.op, I t.a.v.kind, I t.a.v.n, .str t.a.v.s, .str t.a.s, .aG false EX (t.a.l.map aJ), I t.b.op, I t.b.v.kind, I t.b.v.n, .str t.b.v.s, .str t.b.s, .aG false EX (t.b.l.map aJ), .bool t.lo, .bool t.hi]]), ?_, ?_, ?_, bG, at_⟩ <;> (try dsimp only)
            ·exact⟨by omega,cu⟩
            ·omega
            all_goals (rw[hwt];simp[cy]))
         | exact aZ
     ·have qU:(c.tests.map testW).take i=c.tests.map testW:=List.take_of_length_le (by simp;omega)
      have Us:i=c.tests.length:=by omega
      have hnb:c.tests.any gQ=false:=vZ (p:=gQ) (fun k hk=>h2 k (by omega))
      have hws:=UQ (l:=c.tests) (n:=i) (fun k hk _=>h2 k hk)
      rw[qU]at hws ⊢
      have hjl:=Sm (sep:=j5) _ hws
      rw[List.length_map]at hjl
      have hj:=strings_Join (c.tests.map testW) j5 (by simp;omega) (by simp only[j5,List.length_cons,List.length_nil]at hjl;have:c.tests.length*(420+(0+1+1))≤12*422:=Nat.mul_le_mul XY (Nat.le_refl _);unfold j5;omega)
      have agl:(Lib.join (c.tests.map testW) j5).length≤12*422:=by
       simp only[j5,List.length_cons,List.length_nil]at hjl
       have:c.tests.length*(420+(0+1+1))≤12*422:=Nat.mul_le_mul XY (Nat.le_refl _)
       unfold j5;omega
      have hlw:(c.tests.map testW).length=i:=by rw[List.length_map];omega
      simp only[hnb,Bool.false_eq_true,if_false,kx]at aC aD aE
      clear hjl
      obtain⟨J,hJ⟩:∃ J,Lib.join (c.tests.map testW) j5=J:=⟨_,rfl⟩
      rw[hJ]at hj agl
      simp only[hJ]at aC aD aE
      clear hJ
      simp only[dS,j5]at hj
      have UR:∀ σ : ai,σ[1]? = some (.vec E1 ((c.tests.map testW).map cy))→aQ σ [.own E1 1 i 0 i,.str [44,32]] [.aG false E1 ((c.tests.map testW).map cy),.str [44,32]]:=fun σ Cz=> .cons (View.vec Cz (by rw[List.length_map,hlw]) (by rw[List.length_map,hlw]) (LZ _)) (.cons (.refl _ rfl) (.nil _))
      cases hn:c.neg with
      | true =>
        simp only[hn,nP,if_true]at aC aD aE
        by_cases j4:200<([110,111,116,40]++J++[41]:aH).length
        ·simp only[if_pos j4]at aC aD aE
         simp only[List.length_append,List.length_cons,List.length_nil]at j4
         repeat' first|refine aB ?_|(with_reducible refine sX hj (UR _ rfl) rfl ?_)|refine aA (fun hw=>?_) (fun hw=>?_)<;>try omega|fail
         all_goals first|exact aP rfl rfl|exact aZ
        ·simp only[if_neg j4]at aC aD aE
         simp only[List.length_append,List.length_cons,List.length_nil]at j4
         repeat' first|refine aB ?_|(with_reducible refine sX hj (UR _ rfl) rfl ?_)|refine aA (fun hw=>?_) (fun hw=>?_)<;>try omega|fail
         all_goals first|(refine aP ?_ rfl;simp;done)|exact aZ
      | false =>
        simp only[hn,nP,Bool.false_eq_true,if_false]at aC aD aE
        by_cases j4:200<J.length
        ·simp only[if_pos j4]at aC aD aE
         repeat' first|refine aB ?_|(with_reducible refine sX hj (UR _ rfl) rfl ?_)|refine aA (fun hw=>?_) (fun hw=>?_)<;>try omega|fail
         all_goals first|exact aP rfl rfl|exact aZ
        ·simp only[if_neg j4]at aC aD aE
         repeat' first|refine aB ?_|(with_reducible refine sX hj (UR _ rfl) rfl ?_)|refine aA (fun hw=>?_) (fun hw=>?_)<;>try omega|fail
         all_goals first|exact aP rfl rfl|exact aZ
end Go.Proofs.YtmbgnaoilncbnaaGreatDoor
