/- Part. -/
import Derived.Test.YtcjcnfcedihckaaGreatDoorV26
set_option linter.all false
set_option maxHeartbeats 4000000
namespace Go.Proofs.YtcjcnfcedihckaaGreatDoor
open Go.AM
set_option maxRecDepth 4000
abbrev TW: TypeId:=200
def nS: B5 TW:=by unfold B5;kernel_rfl
def Nc(x:Expr): aH aE 198 [aI x] (I (cP x.op)):=by
 have hf:=xu x.op;have hS:cP x.op=if x.op=16 then 0 else if x.op=3 then 6 else if x.op=1\/x.op=2 then 7 else(cJ x.op).level:=rfl
 rw[hS];clear hS;simp only[MG]at hf;generalize cJ x.op=b at *;rw[aO];refine aJ Gm ?_;intro Q au aA aB;repeat' first|refine aq ?_|refine ak ?_ ?_<;>intro hw<;>try omega|fail
 all_goals (refine aL ?_ rfl;simp_all)
def W9(x:Expr): Prop:= ∀(lv:Int) (σ : ae) (l:Nat) (s:aG),lJ TW σ l s->s.length+(eX x lv).length<=2 ^ 38 ->
 dK aE 158 [.ref l 0,.agg [I x.op,I x.v.kind,I x.v.n,.str x.v.s,.str x.s,.aF false EX (x.l.map aI)],I lv] σ fun o σ'=>o = .ret (.bJ [])/\lJ TW σ' l (s++eX x lv)/\iY l σ σ'
def RU(x:Expr): cq x=true->gV x->W9 x:=by
 induction x using Expr.ind with
 | h op v s l ih =>
   intro hr hx;have M9:=tY hr;have hL:=Nc (.mk op v s l);rw[aO]at hL;simp only[gV]at hx;obtain⟨hs,hvs,TY,Mz,hl⟩:=hx;have vA:∀ y ∈ l,cq y=true->W9 y:=fun y hy Qd=>ih y hy Qd (u9 hl hy)
   have zF:∀ (lv:Int) (σ : ae) (k:Nat) (t:aG),¬ cP op<lv->lJ TW σ k t->t.length+(cA (.mk op v s l)).length<=2 ^ 38 ->
    dK aE 158 [.ref k 0,.agg [I op,I v.kind,I v.n,.str v.s,.str s,.aF false EX (l.map aI)],I lv] σ fun o σ'=>o = .ret (.bJ [])/\lJ TW σ' k (t++cA (.mk op v s l))/\iY k σ σ':=by
    intro lv σ k t hlv hb hlen;have oc:=hb.lt;have sk:=fun o:bx=>hb.push [o];have mZ:∀ {σ':ae} {o:bx},iY k (σ++[o]) σ'->(∀ T xs,o≠ .cy (some T) E1 xs)->σ'[σ.length]? = some o:=fun bV vX=>bV.2 σ.length _ (by simp) (by omega) vX;have Nd:=hL;simp only[Expr.W0,Expr.ZR,Expr.ZS,Expr.ZU]at Nd;rcases qa hr with⟨rfl,rfl,rfl,h1,_⟩|⟨rfl,rfl,rfl,h1⟩|⟨rfl,rfl,rfl,a,rfl,ha⟩|⟨rfl,rfl,rfl,a,b,c,rfl,ha,hb',hc⟩|⟨o1,o2,rfl,rfl,Qf,lv5,E7,_,_,a,b,rfl,ha,hb'⟩
    ·have ht:=zI v TY Mz h1;have hW:cA (.mk 1 v [] [])=eJ v:=by simp[cA,mH]
     rw[hW]at hlen ⊢;generalize eJ v=tv at *;generalize cP 1=Qf at *;simp only[eR]at ht;simp only[bu]at Nd ⊢;refine ig.go ?_;unfold dS;intro Q au aA aB;repeat' first|refine aq ?_|with_reducible refine bU (Builder_WriteString nS _ k t tv (sk _) (by omega)) ?_|refine ak ?_ ?_<;>intro hw<;>try omega|fail
     all_goals first
      | (rintro o σ1 ⟨rfl, eN, bV⟩
         repeat' first|refine aq ?_|refine ak ?_ ?_<;>intro hw<;>try omega|fail
         exact⟨rfl,eN,bV.pq⟩)
      | exact bh
    ·have hW:cA (.mk 2 v0 s [])=s:=by simp[cA,mH]
     rw[hW]at hlen ⊢;generalize cP 2=Qf at *;simp only[bu]at Nd ⊢;refine ig.go ?_;unfold dS;intro Q au aA aB;repeat' first|refine aq ?_|with_reducible refine bU (Builder_WriteString nS _ k t s (sk _) (by omega)) ?_|refine ak ?_ ?_<;>intro hw<;>try omega|fail
     all_goals first
      | (rintro o σ1 ⟨rfl, eN, bV⟩
         repeat' first|refine aq ?_|refine ak ?_ ?_<;>intro hw<;>try omega|fail
         exact⟨rfl,eN,bV.pq⟩)
      | exact bh
    ·have pa:=vA a (by simp) ha;have hW:cA (.mk 3 v0 [] [a])=45::eX a 6:=by simp[cA,oG,mH,eX]
     rw[hW,List.length_cons]at hlen;rw[hW];have pa:=pa 6;generalize eX a 6=t1 at *;generalize cP 3=Qf at *;simp only[aR,bu,aO a]at Nd ⊢;refine ig.go ?_;unfold dS;intro Q au aA aB;repeat' first|refine aq ?_|with_reducible refine bU (Builder_WriteByte nS _ k t 45 45 rfl (sk _) (by omega)) ?_|refine ak ?_ ?_<;>intro hw<;>try omega|fail
     all_goals first
      | (rintro o σ1 ⟨rfl, eN, bV⟩
         have pD:=mZ bV (fun _ _=>by simp);repeat' first|simp (disch:=omega) only[go_sem,au,aA,aB,pD]|refine aq ?_|with_reducible refine bU (pa _ k _ eN (by simp only[aC,List.length_cons,List.length_nil];omega)) ?_|refine ak ?_ ?_<;>intro hw<;>try omega|fail
         rintro o σ2 ⟨rfl,ur,jG⟩;repeat' first|refine aq ?_|refine ak ?_ ?_<;>intro hw<;>try omega|fail
         exact⟨rfl,by simpa using ur,(bV.trans jG).pq⟩)
      | exact bh
    ·have pa:=vA a (by simp) ha 0;have pb:=vA b (by simp) hb' 0;have pc:=vA c (by simp) hc 0;have hW:cA (.mk 16 v0 [] [a,b,c])=oF++eX a 0++mQ++eX b 0++rN++eX c 0:=by simp[cA,oG,mH,eX]
     rw[hW]at hlen ⊢;simp only[aC,oF,mQ,rN,List.length_cons,List.length_nil]at hlen;generalize eX a 0=t1 at *;generalize eX b 0=t2 at *;generalize eX c 0=t3 at *;generalize cP 16=Qf at *;simp only[aR,bu,aO a,aO b,aO c]at Nd ⊢;refine ig.go ?_;unfold dS;intro Q au aA aB;repeat' first|refine aq ?_|refine ak ?_ ?_<;>intro hw<;>try omega|fail
     all_goals try (exfalso;omega)
     obtain⟨C,hC⟩:∃ C,C=bx.cells [I 16,I v0.kind,I v0.n,.str v0.s,.str [],.aF false EX [.agg [I a.op,I a.v.kind,I a.v.n,.str a.v.s,.str a.s,.aF false EX (a.l.map aI)],.agg [I b.op,I b.v.kind,I b.v.n,.str b.v.s,.str b.s,.aF false EX (b.l.map aI)],.agg [I c.op,I c.v.kind,I c.v.n,.str c.v.s,.str c.s,.aF false EX (c.l.map aI)]]]:=⟨_,rfl⟩;have hCn:∀ T xs,C≠ .cy (some T) E1 xs:=by rw[hC];intro T xs h;cases h
     with_reducible refine bn [8,9,98,99,100,101,102,103,104,105,106,107,108,109,110,111,112,113,114] (fun x:Int × ae=>[(98,I x.1)]) (fun x=>x.2) (fun x=>(x.1=0/\lJ TW x.2 k t\/x.1=1/\lJ TW x.2 k (t++(oF++t1))\/x.1=2/\lJ TW x.2 k (t++(oF++t1++mQ++t2))\/x.1=3/\lJ TW x.2 k (t++(oF++t1++mQ++t2++rN++t3)))/\iY k σ x.2/\x.2[σ.length]? = some C) (fun x=>(3-x.1).toNat) (0,σ++[C]) ?_ ?_ ?_ ?_
     ·exact⟨.inl ⟨rfl,hb.push _⟩,(iY.refl k (σ++[C])).pq,by simp⟩
     ·rw[hC]
     ·exact at_
     rintro⟨i,σ1⟩ r ⟨hi,bV,pD⟩;dsimp only at hi bV pD;have keep:∀ {σ2:ae},iY k σ1 σ2->σ2[σ.length]? = some C:=fun h=>h.2 _ _ pD (by omega) hCn;rcases hi with⟨rfl,Nf⟩|⟨rfl,Nf⟩|⟨rfl,Nf⟩|⟨rfl,Nf⟩
     ·repeat' first|simp (disch:=omega) only[go_sem,au,aA,aB,show(0:Int).toNat=0 from rfl]|refine aq ?_|with_reducible refine bU (Builder_WriteString nS _ k _ _ Nf (by simp;omega)) ?_|refine ak ?_ ?_<;>intro hw<;>try omega|fail
      all_goals first
       | (rintro o σ2 ⟨rfl, eN, jG⟩
          have qG:=keep jG;rw[hC]at qG;repeat' first|simp (disch:=omega) only[go_sem,au,aA,aB,qG,show(0:Int).toNat=0 from rfl]|refine aq ?_|with_reducible refine bU (pa _ k _ eN (by simp[oF];omega)) ?_|refine ak ?_ ?_<;>intro hw<;>try omega|fail
          rintro o σ3 ⟨rfl,ur,rP⟩;repeat' first|refine aq ?_|refine ak ?_ ?_<;>intro hw<;>try omega|fail
          refine⟨(1,σ3),⟨.inr (.inl ⟨rfl,by simpa[oF]using ur⟩),bV.trans (jG.trans rP),keep (jG.trans rP)⟩,(by dsimp only;decide),rfl,bL,at_⟩)
       | exact bh
     ·repeat' first|simp (disch:=omega) only[go_sem,au,aA,aB,fA]|refine aq ?_|with_reducible refine bU (Builder_WriteString nS _ k _ _ Nf (by simp[oF];omega)) ?_|refine ak ?_ ?_<;>intro hw<;>try omega|fail
      all_goals first
       | (rintro o σ2 ⟨rfl, eN, jG⟩
          have qG:=keep jG;rw[hC]at qG;repeat' first|simp (disch:=omega) only[go_sem,au,aA,aB,qG,fA]|refine aq ?_|with_reducible refine bU (pb _ k _ eN (by simp[oF,mQ];omega)) ?_|refine ak ?_ ?_<;>intro hw<;>try omega|fail
          rintro o σ3 ⟨rfl,ur,rP⟩;repeat' first|refine aq ?_|refine ak ?_ ?_<;>intro hw<;>try omega|fail
          refine⟨(2,σ3),⟨.inr (.inr (.inl ⟨rfl,by simpa[oF,mQ]using ur⟩)),bV.trans (jG.trans rP),keep (jG.trans rP)⟩,(by dsimp only;decide),rfl,bL,at_⟩)
       | exact bh
     ·repeat' first|simp (disch:=omega) only[go_sem,au,aA,aB,show(2:Int).toNat=2 from rfl]|refine aq ?_|with_reducible refine bU (Builder_WriteString nS _ k _ _ Nf (by simp[oF,mQ];omega)) ?_|refine ak ?_ ?_<;>intro hw<;>try omega|fail
      all_goals first
       | (rintro o σ2 ⟨rfl, eN, jG⟩
          have qG:=keep jG;rw[hC]at qG;repeat' first|simp (disch:=omega) only[go_sem,au,aA,aB,qG,show(2:Int).toNat=2 from rfl]|refine aq ?_|with_reducible refine bU (pc _ k _ eN (by simp[oF,mQ,rN];omega)) ?_|refine ak ?_ ?_<;>intro hw<;>try omega|fail
          rintro o σ3 ⟨rfl,ur,rP⟩;repeat' first|refine aq ?_|refine ak ?_ ?_<;>intro hw<;>try omega|fail
          refine⟨(3,σ3),⟨.inr (.inr (.inr ⟨rfl,by simpa[oF,mQ,rN]using ur⟩)),bV.trans (jG.trans rP),keep (jG.trans rP)⟩,(by dsimp only;decide),rfl,bL,at_⟩)
       | exact bh
     ·repeat' first|refine aq ?_|refine ak ?_ ?_<;>intro hw<;>try omega|fail
      all_goals first
       | exact⟨rfl,Nf,bV⟩
       | exact bh
    ·have pa:=vA a (by simp) ha;have pb:=vA b (by simp) hb';have hf:=xu op;have hsl:=E6 op
     have hW:cA (.mk op v0 [] [a,b])=eX a (if(cJ op).level=3 then 4 else(cJ op).level)++[32]++(cJ op).sign++[32]++eX b ((cJ op).level+1):=by
      simp only[cA,oG,mH];rw[if_neg (by omega),if_neg (by omega),if_neg (by omega),if_neg (by omega)];rfl
     rw[hW]at hlen ⊢;rw[E7]at Nd hlv;clear hW E7 M9 hL;have W_:∀ {σ':ae} {o o':bx},iY k (σ++[o]++[o']) σ'->(∀ T xs,o≠ .cy (some T) E1 xs)->σ'[σ.length]? = some o:=fun bV vX=>bV.2 σ.length _ (by simp) (by omega) vX;have hg2:∀ {σ':ae} {o o':bx},iY k (σ++[o]++[o']) σ'->(∀ T xs,o'≠ .cy (some T) E1 xs)->σ'[σ.length+1]? = some o':=fun bV vX=>bV.2 (σ.length+1) _ (by simp) (by omega) vX;simp only[aC,List.length_cons,List.length_nil]at hlen;simp only[MG]at hf;generalize hBB:cJ op=B at *;obtain⟨bop,sg,lvl⟩:=B;dsimp only at *;simp only[aR,bu,aO a,aO b]at Nd ⊢;by_cases h3:lvl=3
     ·subst h3;simp only[if_true]at hlen ⊢;have pa:=pa 4;have pb:=pb (3+1);generalize eX a 4=t1 at *;generalize eX b (3+1)=t2 at *;simp only[Int.reduceAdd]at pb;refine ig.go ?_;unfold dS;intro Q au aA aB;repeat' first|simp (disch:=omega) only[go_sem,au,aA,aB,Int.reduceAdd]|refine aq ?_|with_reducible refine bU (pa _ k t ((hb.push _).push _) (by omega)) ?_|refine ak ?_ ?_<;>intro hw<;>try omega|fail
      all_goals first
       | (rintro o σ1 ⟨rfl, eN, bV⟩
          have pD:=W_ bV (fun _ _=>by simp);have qG:=hg2 bV (fun _ _=>by simp);repeat' first|simp (disch:=omega) only[go_sem,au,aA,aB,pD,qG]|refine aq ?_|with_reducible refine bU (Builder_WriteString nS _ k _ _ eN (by simp only[aC,List.length_cons,List.length_nil];omega)) ?_|refine ak ?_ ?_<;>intro hw<;>try omega|fail
          rintro o σ2 ⟨rfl,ur,jG⟩;have pD:=jG.2 _ _ pD (by omega) (fun _ _=>by simp);have qG:=jG.2 _ _ qG (by omega) (fun _ _=>by simp);repeat' first|simp (disch:=omega) only[go_sem,au,aA,aB,pD,qG,fA,Int.reduceAdd]|refine aq ?_|with_reducible refine bU (pb _ k _ ur (by simp only[aC,List.length_cons,List.length_nil];omega)) ?_|refine ak ?_ ?_<;>intro hw<;>try omega|fail
          rintro o σ3 ⟨rfl,T1,rP⟩;repeat' first|refine aq ?_|refine ak ?_ ?_<;>intro hw<;>try omega|fail
          exact⟨rfl,by simpa using T1,((bV.trans jG).trans rP).pq.pq⟩)
       | exact bh
     ·simp only[if_neg h3]at hlen ⊢;have pa:=pa lvl;have pb:=pb (lvl+1);generalize eX a lvl=t1 at *;generalize eX b (lvl+1)=t2 at *;refine ig.go ?_;unfold dS;intro Q au aA aB;repeat' first|simp (disch:=omega) only[go_sem,au,aA,aB,Int.reduceAdd]|refine aq ?_|with_reducible refine bU (pa _ k t ((hb.push _).push _) (by omega)) ?_|refine ak ?_ ?_<;>intro hw<;>try omega|fail
      all_goals first
       | (rintro o σ1 ⟨rfl, eN, bV⟩
          have pD:=W_ bV (fun _ _=>by simp);have qG:=hg2 bV (fun _ _=>by simp);repeat' first|simp (disch:=omega) only[go_sem,au,aA,aB,pD,qG]|refine aq ?_|with_reducible refine bU (Builder_WriteString nS _ k _ _ eN (by simp only[aC,List.length_cons,List.length_nil];omega)) ?_|refine ak ?_ ?_<;>intro hw<;>try omega|fail
          rintro o σ2 ⟨rfl,ur,jG⟩;have pD:=jG.2 _ _ pD (by omega) (fun _ _=>by simp);have qG:=jG.2 _ _ qG (by omega) (fun _ _=>by simp);repeat' first|simp (disch:=omega) only[go_sem,au,aA,aB,pD,qG,fA,Int.reduceAdd]|refine aq ?_|with_reducible refine bU (pb _ k _ ur (by simp only[aC,List.length_cons,List.length_nil];omega)) ?_|refine ak ?_ ?_<;>intro hw<;>try omega|fail
          rintro o σ3 ⟨rfl,T1,rP⟩;repeat' first|refine aq ?_|refine ak ?_ ?_<;>intro hw<;>try omega|fail
          exact⟨rfl,by simpa using T1,((bV.trans jG).trans rP).pq.pq⟩)
       | exact bh
   intro lv σ k t hb hlen;by_cases hlv:cP op<lv
   ·rw[E8 (x:= .mk op v s l) hlv]at hlen ⊢;rw[List.length_cons,aC,List.length_cons,List.length_nil]at hlen;have oc:=hb.lt;have mZ:∀ {σ':ae} {o:bx},iY k (σ++[o]) σ'->(∀ T xs,o≠ .cy (some T) E1 xs)->σ'[σ.length]? = some o:=fun bV vX=>bV.2 σ.length _ (by simp) (by omega) vX;have sA:=fun σ t h1 h2=>zF 0 σ k t (by show ¬ cP op<0;have:0<=cP op:=M9;omega) h1 h2;clear zF;generalize cA (.mk op v s l)=w at *;simp only[Expr.W0,Expr.ZR,Expr.ZS,Expr.ZU]at hL ⊢;generalize cP op=Qf at *;refine ig.go ?_;unfold dS;intro Q au aA aB;repeat' first|refine aq ?_|with_reducible refine bU (Builder_WriteByte nS _ k t 40 40 rfl (hb.push _) (by omega)) ?_|refine ak ?_ ?_<;>intro hw<;>try omega|fail
    all_goals first
     | (rintro o σ1 ⟨rfl, eN, bV⟩
        have pD:=mZ bV (fun _ _=>by simp);repeat' first|simp (disch:=omega) only[go_sem,au,aA,aB,pD]|refine aq ?_|with_reducible refine bU (sA _ _ eN (by simp only[aC,List.length_cons,List.length_nil];omega)) ?_|refine ak ?_ ?_<;>intro hw<;>try omega|fail
        rintro o σ2 ⟨rfl,ur,jG⟩;repeat' first|refine aq ?_|with_reducible refine bU (Builder_WriteByte nS _ k _ 41 41 rfl ur (by simp only[aC,List.length_cons,List.length_nil];omega)) ?_|refine ak ?_ ?_<;>intro hw<;>try omega|fail
        rintro o σ3 ⟨rfl,T1,rP⟩;repeat' first|refine aq ?_|refine ak ?_ ?_<;>intro hw<;>try omega|fail
        exact⟨rfl,by simpa using T1,((bV.trans jG).trans rP).pq⟩)
     | exact bh
   ·rw[zE (x:= .mk op v s l) hlv]at hlen ⊢;exact zF lv σ k t hlv hb hlen
def DP(x:Expr)(hx:gV x)(hz:ew x<=2 ^ 30): aH aE 116 [aI x] (.bJ [.str (rO x).1,I (rO x).2]):=by
 have h1:=BO x hx (by omega);have h2:=xw x (by omega);have h3:=fun hr=>RU x hr hx 0;have hT:rO x=if cq x=false then([],2)else if 12<iP x then([],12)else if kj x=true then([],5)else (cA x,0):=rfl
 rw[hT];unfold kj;cases hr:cq x with
 | false =>
   rw[if_pos rfl];rw[hr]at h1;rw[aO]at h1 ⊢;refine aJ xZ ?_;intro Q au aA aB;repeat' first|refine aq ?_|refine ak ?_ ?_<;>intro hw<;>try omega|fail
   all_goals exact bp rfl rfl
 | true =>
   have h3:=h3 hr;rw[Na hr]at h3;have hlen:=uL x hr hx;rw[if_neg (by simp)];rw[hr]at h1;generalize cA x=t at *;generalize iP x=d at *;rw[aO]at h1 h2 ⊢;have hb0:∀ C:bx,lJ TW [C,.bM (some TW) [.iE,.ai]] 1 []:=fun C=>⟨_,_,rfl,.inl rfl,.inl ⟨rfl,rfl⟩⟩;refine aJ xZ ?_;intro Q au aA aB;by_cases hd:12<d
   ·simp only[if_pos hd]at au aA aB;repeat' first|refine aq ?_|refine ak ?_ ?_<;>intro hw<;>try omega|fail
    all_goals first|exact bp rfl rfl|exact bh
   ·simp only[if_neg hd,decide_eq_true_eq]at au aA aB;have abF:t.length<=2 ^ 38:=by omega
    repeat' first|refine aq ?_|with_reducible refine bU (h3 _ 1 [] (hb0 _) (by simpa using abF)) ?_|refine ak ?_ ?_<;>intro hw<;>try omega|fail
    all_goals first
     | (rintro o σ1 ⟨rfl, eN, _⟩
        try rw[dB]at eN
        repeat' first|refine aq ?_|with_reducible refine bU (Builder_Len _ 1 _ eN) ?_|refine ak ?_ ?_<;>intro hw<;>try omega|fail
        rintro o s' ⟨rfl,rfl⟩;by_cases hb:200<t.length
        ·simp only[if_pos hb]at au aA aB;repeat' first|refine aq ?_|refine ak ?_ ?_<;>intro hw<;>try omega|fail
         all_goals first|exact bp rfl rfl|exact bh
        ·simp only[if_neg hb]at au aA aB;repeat' first|refine aq ?_|with_reducible refine bU (Builder_String _ 1 _ eN (by omega)) ?_|refine ak ?_ ?_<;>intro hw<;>try omega|fail
         all_goals first
          | (rintro o σ2 ⟨rfl, _⟩
             repeat' first|refine aq ?_|refine ak ?_ ?_<;>intro hw<;>try omega|fail
             exact bp rfl rfl)
          | exact bh)
     | exact bh
def Ng(t:Test): aG:=if t.lo then [93]else [91]
def Nh(t:Test): aG:=if t.hi then [91]else [93]
def testW(t:Test): aG:=if t.kind=1 then eX t.a 4 else if t.kind=6 then Ng t++eX t.a 4++[46,46]++eX t.b 4++Nh t else iI t.kind++[32]++eX t.a 4
def jH(t:Test): Bool:=kj t.a ||(decide (t.kind=6) && kj t.b)
def jf: aG:=[44,32]
def qj(l:List Test): aG:=Lib.join (l.map testW) jf
def rQ(n:Bool)(s:aG): aG:=if n then [110,111,116,40]++s++[41]else s
def uM(c:Cell): aG × Int:=if iX c=false then([],2)else if c.any=true then([45],0)else if c.tests.any jH=true then([],5)
 else if 200<(rQ c.neg (qj c.tests)).length then([],5)else (rQ c.neg (qj c.tests),0)
def B6(t:Test): Prop:=(gV t.a/\ew t.a<=2 ^ 30)/\gV t.b/\ew t.b<=2 ^ 30
def tZ(c:Cell): Prop:=c.tests.length<=2 ^ 30/\ ∀ t ∈ c.tests,B6 t
def tZ.ok{c:Cell}(h:tZ c): DC c:=⟨by have:=h.1;omega,fun t ht=>by
 obtain⟨⟨a,b⟩,c,d⟩:=h.2 t ht;exact⟨⟨a,by omega⟩,c,by omega⟩⟩
def aag{x:Expr}(h:cq x=true): cP x.op<4↔8<=x.op/\x.op<=16:=by
 obtain⟨op,v,s,l⟩:=x;rcases qa h with⟨rfl,_⟩|⟨rfl,_⟩|⟨rfl,_⟩|⟨rfl,_⟩|⟨_,_,_,_,_,_,h1,h2,h3,_⟩
 ·show cP 1<4↔8<=(1:Int)/\(1:Int)<=16;decide
 ·show cP 2<4↔8<=(2:Int)/\(2:Int)<=16;decide
 ·show cP 3<4↔8<=(3:Int)/\(3:Int)<=16;decide
 ·show cP 16<4↔8<=(16:Int)/\(16:Int)<=16;decide
 ·show cP op<4↔8<=op/\op<=16;rw[h1];generalize cJ op=b at *;simp only[gj,List.mem_cons,List.not_mem_nil,or_false]at h3;rcases h3 with rfl|rfl|rfl|rfl|rfl|rfl|rfl|rfl|rfl|rfl|rfl|rfl<;>(dsimp only at h2 ⊢;omega)
def qN{x:Expr}(h:jV x=true): cq x=true/\rO x=if kj x=true then([],5)else (cA x,0):=by
 simp only[jV,aD,decide_eq_true_eq]at h;refine⟨h.1,?_⟩;unfold rO;rw[if_neg (by simp[h.1]),if_neg (by omega)]
def oH{x:Expr}(h:kj x=false)(lv:Int): (eX x lv).length<=202:=by
 simp only[kj,decide_eq_false_iff_not]at h;have:=zD (cP x.op,cA x) lv;dsimp only at this;unfold eX;omega
def G0(x:Expr)(hp:jV x=true)(hx:gV x)(hz:ew x<=2 ^ 30): aH aE 193 [aI x] (.bJ [.str (if kj x=true then []else eX x 4),I (if kj x=true then 5 else 0)]):=by
 obtain⟨hr,ht⟩:=qN hp;have h1:=DP x hx hz;have h4:=aag hr;have T2:=fun h=>oH (x:=x) h 4;rw[ht]at h1;cases hb:kj x with
 | true =>
   rw[hb]at h1;simp only[if_true]at h1 ⊢;rw[aO]at h1 ⊢;refine aJ tT ?_;intro Q au aA aB;repeat' first|refine aq ?_|refine ak ?_ ?_<;>intro hw<;>try omega|fail
   all_goals exact bp rfl rfl
 | false =>
   have T2:=T2 hb;rw[hb]at h1;simp only[Bool.false_eq_true,if_false]at h1 ⊢;by_cases hl:cP x.op<4
   ·have ho:=h4.1 hl;rw[E8 hl]at T2 ⊢;rw[List.length_cons,aC]at T2;generalize cA x=t at *;rw[aO]at h1 ⊢;refine aJ tT ?_;intro Q au aA aB;repeat' first|refine aq ?_|refine ak ?_ ?_<;>intro hw<;>try omega|fail
    all_goals first|(refine bp ?_ rfl;simp;done)|exact bh
   ·have ho:¬ (8<=x.op/\x.op<=16):=fun h=>hl (h4.2 h);rw[zE hl]at T2 ⊢;generalize cA x=t at *;rw[aO]at h1 ⊢;refine aJ tT ?_;intro Q au aA aB;repeat' first|refine aq ?_|refine ak ?_ ?_<;>intro hw<;>try omega|fail
    all_goals first|(refine bp ?_ rfl;simp;done)|exact bh
def DQ{t:Test}(h:jP t=true): jV t.a=true/\1<=t.kind/\t.kind<=6/\(t.kind=6->jV t.b=true):=by
 unfold jP at h;split at h
 ·rename_i h6;simp only[aD]at h;exact⟨h.1,by omega,by omega,fun _=>h.2⟩
 ·rename_i h6;simp only[aD,decide_eq_true_eq]at h;exact⟨h.1.1.1.2,h.1.1.1.1.1,by omega,fun h=>absurd h h6⟩
def J_{t:Test}(h:jH t=false): (testW t).length<=420:=by
 simp only[jH,Bool.or_eq_false_iff,Bool.and_eq_false_iff,decide_eq_false_iff_not]at h;have ha:=oH h.1 4;have hs:(iI t.kind).length<=2:=by unfold iI;split;simp;split;simp;split;simp;split<;>simp
 unfold testW;split
 ·omega
 split
 ·rename_i h6;have hb:=oH (x:=t.b) (by rcases h.2 with h|h;exact absurd h6 h;exact h) 4;have l1:(Ng t).length=1:=by unfold Ng;split<;>rfl
  have l2:(Nh t).length=1:=by unfold Nh;split<;>rfl
  simp only[aC,List.length_cons,List.length_nil];omega
 ·simp only[aC,List.length_cons,List.length_nil];omega
def T3(t:Test)(hs:jP t=true)(h:B6 t): aH aE 155 [bO t] (.bJ [.str (if jH t=true then []else testW t),I (if jH t=true then 5 else 0)]):=by
 obtain⟨p1,k1,k6,p2⟩:=DQ hs;have wa:=G0 t.a p1 h.1.1 h.1.2;have W8:=J6 t.kind;have la:=fun hb=>oH (x:=t.a) hb 4;have lb:=fun hb=>oH (x:=t.b) hb 4;by_cases h6:t.kind=6
 ·have wb:=G0 t.b (p2 h6) h.2.1 h.2.2;have hW:testW t=Ng t++eX t.a 4++[46,46]++eX t.b 4++Nh t:=by unfold testW;rw[if_neg (by omega),if_pos h6]
  have hB:jH t=(kj t.a || kj t.b):=by unfold jH;rw[decide_eq_true h6,Bool.true_and]
  rw[hW,hB];unfold Ng Nh;clear hW hB p1 p2 hs;generalize eX t.a 4=ta at *;generalize eX t.b 4=tb at *;generalize kj t.a=ba at *;generalize kj t.b=bb at *;rw[aO]at wa wb;simp only[bO,cg];cases ba<;>simp only[Bool.false_eq_true,if_false,if_true,Bool.true_or,Bool.false_or]at wa la ⊢
  ·have la:=la trivial;cases bb<;>simp only[Bool.false_eq_true,if_false,if_true]at wb lb ⊢
   ·have lb:=lb trivial;refine aJ oq ?_;intro Q au aA aB;repeat' first|refine aq ?_|refine ak ?_ ?_<;>intro hw<;>try omega|fail
    all_goals first|(refine bp ?_ rfl;simp_all;done)|exact bh
   ·refine aJ oq ?_;intro Q au aA aB;repeat' first|refine aq ?_|refine ak ?_ ?_<;>intro hw<;>try omega|fail
    all_goals first|(refine bp ?_ rfl;simp_all;done)|exact bh
  ·refine aJ oq ?_;intro Q au aA aB;repeat' first|refine aq ?_|refine ak ?_ ?_<;>intro hw<;>try omega|fail
   all_goals first|(refine bp ?_ rfl;simp_all;done)|exact bh
 ·have hW:testW t=if t.kind=1 then eX t.a 4 else iI t.kind++[32]++eX t.a 4:=by unfold testW;rw[if_neg h6]
  have hB:jH t=kj t.a:=by unfold jH;rw[decide_eq_false h6,Bool.false_and,Bool.or_false]
  have hsl:(iI t.kind).length<=2:=by unfold iI;split;simp;split;simp;split;simp;split<;>simp
  rw[hW,hB];clear hW hB p1 p2 hs;generalize eX t.a 4=ta at *;generalize kj t.a=ba at *;generalize iI t.kind=sg at *;rw[aO]at wa;simp only[bO,cg];cases ba<;>simp only[Bool.false_eq_true,if_false,if_true]at wa la ⊢
  ·have la:=la trivial;refine aJ oq ?_;intro Q au aA aB;repeat' first|refine aq ?_|refine ak ?_ ?_<;>intro hw<;>try omega|fail
   all_goals first|(refine bp ?_ rfl;simp_all;done)|exact bh
  ·refine aJ oq ?_;intro Q au aA aB;repeat' first|refine aq ?_|refine ak ?_ ?_<;>intro hw<;>try omega|fail
   all_goals first|(refine bp ?_ rfl;simp_all;done)|exact bh
def B7{sep:aG}{B:Nat}: ∀(r:List aG),(∀ x ∈ r,x.length<=B)->(Lib.joinTail sep r).length<=r.length*(B+sep.length)
 | [],_=>by simp[Lib.joinTail]
 | x :: r, h => by
   have h1:=h x (by simp);have h2:=B7 (sep:=sep) r (fun y hy=>h y (cE _ hy));have e:Lib.joinTail sep (x::r)=sep++x++Lib.joinTail sep r:=by simp[Lib.joinTail]
   rw[e,aC,aC,List.length_cons,cY];omega
def Ni{sep:aG}{B:Nat}(l:List aG)(h:∀ x ∈ l,x.length<=B): (Lib.join l sep).length<=l.length*(B+sep.length):=by
 cases l with
 | nil=>simp[Lib.join_nil]
 | cons x r =>
   have h1:=h x (by simp);have h2:=B7 (sep:=sep) r (fun y hy=>h y (cE _ hy));rw[Lib.join_cons,aC,List.length_cons,cY];omega
def Ka{sep:aG}(l:List aG)(x:aG): Lib.join (l++[x]) sep=if l=[]then x else Lib.join l sep++sep++x:=by
 cases l with
 | nil=>rw[if_pos rfl];exact Lib.join_one x sep
 | cons y r =>
   rw[if_neg (by simp),cF,Lib.join_cons,Lib.join_cons];simp[Lib.joinTail]
def T4{l:List Test}{i:Nat}(h:i<l.length): (l.map testW).take (i+1)=(l.map testW).take i++[testW (l.getD i default)]:=by
 rw[List.take_succ_eq_append_getElem (by simpa using h)];simp[h]
def Qh{l:List Test}{n:Nat}(h:∀ k,k<n->k<l.length->jH (l.getD k default)=false): ∀ x ∈ (l.map testW).take n,x.length<=420:=by
 intro x hx;obtain⟨k,hk,rfl⟩:=bA hx;simp only[eY,bS]at hk;have:=J_ (h k (by omega) (by omega));have e:l.getD k default=l[k]'(by omega):=by simp[aj,show k<l.length by omega]
 rw[e]at this;simpa using this
def T5(c:Cell)(h:tZ c): aH aE 115 [bK c] (.bJ [.str (uM c).1,I (uM c).2]):=by
 have wX:=zy c h.ok
 have hT:uM c=if iX c=false then([],2)else if c.any=true then([45],0)else if c.tests.any jH=true then([],5)
  else if 200<(rQ c.neg (qj c.tests)).length then([],5)else (rQ c.neg (qj c.tests),0):=rfl
 rw[hT];clear hT;cases hr:iX c with
 | false =>
   rw[hr]at wX;simp only[mw,Bool.false_eq_true,if_false]at wX;rw[if_pos rfl];simp only[bK,eV]at wX ⊢;refine aJ vD ?_;intro Q au aA aB;repeat' first|refine aq ?_|refine ak ?_ ?_<;>intro hw<;>try omega|fail
   all_goals exact bp rfl rfl
 | true =>
   rw[hr]at wX;simp only[mw,if_true]at wX;rw[if_neg (by simp)];cases ha:c.any with
   | true =>
     rw[if_pos rfl];simp only[bK,eV,ha]at wX ⊢;refine aJ vD ?_;intro Q au aA aB;repeat' first|refine aq ?_|refine ak ?_ ?_<;>intro hw<;>try omega|fail
     all_goals exact bp rfl rfl
   | false =>
     rw[if_neg (by simp)];have yx:=hr;unfold iX at yx;rw[if_neg (by simp[ha])]at yx;simp only[aD,decide_eq_true_eq,bW,fS]at yx;obtain⟨⟨l1,T6⟩,T7⟩:=yx;have T7:∀ t ∈ c.tests,jP t=true:=fun t ht=>by have:=T7 t ht;simpa using this
     simp only[bK,eV,ha]at wX ⊢;refine aJ vD ?_;intro Q au aA aB;repeat' first|refine aq ?_|refine ak ?_ ?_<;>intro hw<;>try omega|fail
     with_reducible refine bn [2,3,5,7,8,9,21,22,23,24,25,26,27,28,29,30,31,32,33,34,35,36,37] (fun q:Nat × List bx=>[(21,I q.1),(5,.own E1 1 q.1 0 q.1)]) (fun q=> .cells [.bool false,.bool c.neg,.aF false ES (c.tests.map bO)]:: .vec E1 (((c.tests.map testW).take q.1).map bj)::q.2) (fun q=>q.1<=c.tests.length/\ ∀ k,k<q.1->jH (c.tests.getD k default)=false) (fun q=>c.tests.length-q.1) (0,[]) ?_ ?_ ?_ ?_
     ·simp
     ·simp
     ·exact at_
     rintro⟨i,τ⟩ r ⟨h1,h2⟩;dsimp only at h1 h2;by_cases hi:i<c.tests.length
     ·have hmem:=aV hi;have ht:=T3 _ (T7 _ hmem) (h.2 _ hmem);have hwt:=T4 hi;have bV:=fun he=>aY h2 (i:=i) he;have mR:=fun hb=>vO (p:=jH) hi hb;have hwl:=fun hb=>J_ (t:=c.tests.getD i default) hb;have hvl:((c.tests.map testW).take i).length=i:=by rw[eY,bS];omega
      generalize hVV:(c.tests.map testW).take i=V at *;obtain⟨t,oE⟩:∃ t,c.tests.getD i default=t:=⟨_,rfl⟩;rw[oE]at ht hwt bV mR hwl;simp only[bO,cg]at ht;generalize testW t=tw at *;cases hb:jH t with
      | true =>
        rw[hb]at ht;simp only[if_true]at ht;have mR:=mR hb;simp only[mR,if_true]at au aA aB;repeat' first|simp (disch:=omega) only[go_sem,au,aA,aB,oE]|refine aq ?_|refine ak ?_ ?_<;>intro hw<;>try omega|fail
        all_goals first|exact bp rfl rfl|exact bh
      | false =>
        rw[hb]at ht;simp only[Bool.false_eq_true,if_false]at ht;have bV:=bV hb;repeat' first|simp (disch:=omega) only[go_sem,au,aA,aB,oE,hvl]|refine aq ?_|refine ak ?_ ?_<;>intro hw<;>try omega|fail
        all_goals first
         | (refine ⟨(i + 1, τ ++ [.cells [I t.kind, I t.a.op, I t.a.v.kind, I t.a.v.n, .str t.a.v.s, .str t.a.s, .aF false EX (t.a.l.map aI), I t.b.op, I t.b.v.kind, I t.b.v.n, .str t.b.v.s, .str t.b.s, .aF false EX (t.b.l.map aI), .bool t.lo, .bool t.hi]]), ?_, ?_, ?_, bL, at_⟩ <;> (try dsimp only)
            ·exact⟨by omega,bV⟩
            ·omega
            all_goals (rw[hwt];simp[bj]))
         | exact bh
     ·have n5:(c.tests.map testW).take i=c.tests.map testW:=aT (by simp;omega);have WQ:i=c.tests.length:=by omega
      have hnb:c.tests.any jH=false:=sO (p:=jH) (fun k hk=>h2 k (by omega));have hws:=Qh (l:=c.tests) (n:=i) (fun k hk _=>h2 k hk);rw[n5]at hws ⊢;have mX:=Ni (sep:=jf) _ hws;rw[bS]at mX;have hj:=strings_Join (c.tests.map testW) jf (by simp;omega) (by simp only[jf,List.length_cons,List.length_nil]at mX;have:c.tests.length*(420+(0+1+1))<=12*422:=Nat.mul_le_mul T6 (Nat.le_refl _);unfold jf;omega)
      have adM:(Lib.join (c.tests.map testW) jf).length<=12*422:=by
       simp only[jf,List.length_cons,List.length_nil]at mX;have:c.tests.length*(420+(0+1+1))<=12*422:=Nat.mul_le_mul T6 (Nat.le_refl _);unfold jf;omega
      have hlw:(c.tests.map testW).length=i:=by rw[bS];omega
      simp only[hnb,Bool.false_eq_true,if_false,qj]at au aA aB;clear mX;obtain⟨J,hJ⟩:∃ J,Lib.join (c.tests.map testW) jf=J:=⟨_,rfl⟩;rw[hJ]at hj adM;simp only[hJ]at au aA aB;clear hJ;simp only[bI,jf]at hj;have Xa:∀ σ : ae,σ[1]? = some (.vec E1 ((c.tests.map testW).map bj))->bf σ [.own E1 1 i 0 i,.str [44,32]] [.aF false E1 ((c.tests.map testW).map bj),.str [44,32]]:=fun σ xW=> .cons (View.vec xW (by rw[bS,hlw]) (by rw[bS,hlw]) (pT _)) (.cons (.refl _ rfl) (.nil _));cases hn:c.neg with
      | true =>
        simp only[hn,rQ,if_true]at au aA aB;by_cases hbig:200<([110,111,116,40]++J++[41]:aG).length
        ·simp only[if_pos hbig]at au aA aB;simp only[aC,List.length_cons,List.length_nil]at hbig;repeat' first|refine aq ?_|(with_reducible refine sE hj (Xa _ rfl) rfl ?_)|refine ak ?_ ?_<;>intro hw<;>try omega|fail
         all_goals first|exact bp rfl rfl|exact bh
        ·simp only[if_neg hbig]at au aA aB;simp only[aC,List.length_cons,List.length_nil]at hbig;repeat' first|refine aq ?_|(with_reducible refine sE hj (Xa _ rfl) rfl ?_)|refine ak ?_ ?_<;>intro hw<;>try omega|fail
         all_goals first|(refine bp ?_ rfl;simp;done)|exact bh
      | false =>
        simp only[hn,rQ,Bool.false_eq_true,if_false]at au aA aB;by_cases hbig:200<J.length
        ·simp only[if_pos hbig]at au aA aB;repeat' first|refine aq ?_|(with_reducible refine sE hj (Xa _ rfl) rfl ?_)|refine ak ?_ ?_<;>intro hw<;>try omega|fail
         all_goals first|exact bp rfl rfl|exact bh
        ·simp only[if_neg hbig]at au aA aB;repeat' first|refine aq ?_|(with_reducible refine sE hj (Xa _ rfl) rfl ?_)|refine ak ?_ ?_<;>intro hw<;>try omega|fail
         all_goals first|exact bp rfl rfl|exact bh
