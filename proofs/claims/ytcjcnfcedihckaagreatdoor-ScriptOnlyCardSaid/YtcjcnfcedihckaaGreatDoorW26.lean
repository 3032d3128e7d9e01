/- Part. -/
import Derived.Test.YtcjcnfcedihckaaGreatDoorW25
set_option linter.all false
set_option maxHeartbeats 4000000
namespace Go.Proofs.YtcjcnfcedihckaaGreatDoor
open Go.AM
set_option maxRecDepth 4000
abbrev TW: TypeId:=200
def oE: Cn TW:=by unfold Cn;kernel_rfl
def M3(x:Expr): aP aK 198 [bf x] (I (ek x.op)):=by
 have hf:=yo x.op;have hS:ek x.op=if x.op=16 then 0 else if x.op=3 then 6 else if x.op=1\/x.op=2 then 7 else(dF x.op).level:=rfl
 rw[hS];clear hS;simp only[Mx]at hf;generalize dF x.op=b at *;rw[bB];refine aR Gq ?_;intro Q aF aG aH;repeat' first|refine aE ?_|refine aD ?_ ?_<;>intro hw<;>try omega|fail
 all_goals (refine aU ?_ rfl;simp_all)
def YL(x:Expr): Prop:= ∀(lv:Int) (σ : ae) (l:Nat) (s:aI),mh TW σ l s->s.length+(j3 x lv).length<=2 ^ 38 ->
 cN aK 158 [.ref l 0,.agg [I x.op,I x.v.kind,I x.v.n,.str x.v.s,.str x.s,.aO false EX (x.l.map bf)],I lv] σ fun o σ'=>o = .ret (.bO [])/\mh TW σ' l (s++j3 x lv)/\iY l σ σ'
def R5(x:Expr): c8 x=true->jl x->YL x:=by
 induction x using Expr.ind with
 | h op v s l ih =>
   intro hr hx;have abF:=A1 hr;have hL:=M3 (.mk op v s l);rw[bB]at hL;simp only[jl]at hx;obtain⟨hs,hvs,hv1,Uh,hl⟩:=hx;have JF:∀ y ∈ l,c8 y=true->YL y:=fun y hy hry=>ih y hy hry (Ij hl hy)
   have R6:∀ (lv:Int) (σ : ae) (k:Nat) (t:aI),¬ ek op<lv->mh TW σ k t->t.length+(dJ (.mk op v s l)).length<=2 ^ 38 ->
    cN aK 158 [.ref k 0,.agg [I op,I v.kind,I v.n,.str v.s,.str s,.aO false EX (l.map bf)],I lv] σ fun o σ'=>o = .ret (.bO [])/\mh TW σ' k (t++dJ (.mk op v s l))/\iY k σ σ':=by
    intro lv σ k t hlv hb hlen;have s8:=hb.lt;have vq:=fun o:aY=>hb.push [o];have uL:∀ {σ':ae} {o:aY},iY k (σ++[o]) σ'->(∀ T xs,o≠ .cy (some T) E1 xs)->σ'[σ.length]? = some o:=fun cZ wT=>cZ.2 σ.length _ (by simp) (by omega) wT;have M4:=hL;simp only[Expr.YH,Expr.abr,Expr.abt,Expr.abu]at M4;rcases qL hr with⟨rfl,rfl,rfl,h1,_⟩|⟨rfl,rfl,rfl,h1⟩|⟨rfl,rfl,rfl,a,rfl,ha⟩|⟨rfl,rfl,rfl,a,b,c,rfl,ha,hb',hc⟩|⟨o1,o2,rfl,rfl,UI,lv5,R0,_,_,a,b,rfl,ha,hb'⟩
    ·have ht:=Af v hv1 Uh h1;have hW:dJ (.mk 1 v [] [])=eN v:=by simp[dJ,nr]
     rw[hW]at hlen ⊢;generalize eN v=tv at *;generalize ek 1=UI at *;simp only[fF]at ht;simp only[br]at M4 ⊢;refine iy.go ?_;unfold eP;intro Q aF aG aH;repeat' first|refine aE ?_|with_reducible refine cz (Builder_WriteString oE _ k t tv (vq _) (by omega)) ?_|refine aD ?_ ?_<;>intro hw<;>try omega|fail
     all_goals first
      | (rintro o σ1 ⟨rfl, gN, cZ⟩
         repeat' first|refine aE ?_|refine aD ?_ ?_<;>intro hw<;>try omega|fail
         exact⟨rfl,gN,cZ.pV⟩)
      | exact bN
    ·have hW:dJ (.mk 2 v0 s [])=s:=by simp[dJ,nr]
     rw[hW]at hlen ⊢;generalize ek 2=UI at *;simp only[br]at M4 ⊢;refine iy.go ?_;unfold eP;intro Q aF aG aH;repeat' first|refine aE ?_|with_reducible refine cz (Builder_WriteString oE _ k t s (vq _) (by omega)) ?_|refine aD ?_ ?_<;>intro hw<;>try omega|fail
     all_goals first
      | (rintro o σ1 ⟨rfl, gN, cZ⟩
         repeat' first|refine aE ?_|refine aD ?_ ?_<;>intro hw<;>try omega|fail
         exact⟨rfl,gN,cZ.pV⟩)
      | exact bN
    ·have pa:=JF a (by simp) ha;have hW:dJ (.mk 3 v0 [] [a])=45::j3 a 6:=by simp[dJ,pz,nr,j3]
     rw[hW,List.length_cons]at hlen;rw[hW];have pa:=pa 6;generalize j3 a 6=t1 at *;generalize ek 3=UI at *;simp only[aZ,br,bB a]at M4 ⊢;refine iy.go ?_;unfold eP;intro Q aF aG aH;repeat' first|refine aE ?_|with_reducible refine cz (Builder_WriteByte oE _ k t 45 45 rfl (vq _) (by omega)) ?_|refine aD ?_ ?_<;>intro hw<;>try omega|fail
     all_goals first
      | (rintro o σ1 ⟨rfl, gN, cZ⟩
         have p8:=uL cZ (fun _ _=>by simp);repeat' first|simp (disch:=omega) only[go_sem,aF,aG,aH,p8]|refine aE ?_|with_reducible refine cz (pa _ k _ gN (by simp only[aA,List.length_cons,List.length_nil];omega)) ?_|refine aD ?_ ?_<;>intro hw<;>try omega|fail
         rintro o σ2 ⟨rfl,sR,jS⟩;repeat' first|refine aE ?_|refine aD ?_ ?_<;>intro hw<;>try omega|fail
         exact⟨rfl,by simpa using sR,(cZ.trans jS).pV⟩)
      | exact bN
    ·have pa:=JF a (by simp) ha 0;have pb:=JF b (by simp) hb' 0;have pc:=JF c (by simp) hc 0;have hW:dJ (.mk 16 v0 [] [a,b,c])=qh++j3 a 0++ov++j3 b 0++uM++j3 c 0:=by simp[dJ,pz,nr,j3]
     rw[hW]at hlen ⊢;simp only[aA,qh,ov,uM,List.length_cons,List.length_nil]at hlen;generalize j3 a 0=t1 at *;generalize j3 b 0=t2 at *;generalize j3 c 0=t3 at *;generalize ek 16=UI at *;simp only[aZ,br,bB a,bB b,bB c]at M4 ⊢;refine iy.go ?_;unfold eP;intro Q aF aG aH;repeat' first|refine aE ?_|refine aD ?_ ?_<;>intro hw<;>try omega|fail
     all_goals try (exfalso;omega)
     obtain⟨C,hC⟩:∃ C,C=aY.cells [I 16,I v0.kind,I v0.n,.str v0.s,.str [],.aO false EX [.agg [I a.op,I a.v.kind,I a.v.n,.str a.v.s,.str a.s,.aO false EX (a.l.map bf)],.agg [I b.op,I b.v.kind,I b.v.n,.str b.v.s,.str b.s,.aO false EX (b.l.map bf)],.agg [I c.op,I c.v.kind,I c.v.n,.str c.v.s,.str c.s,.aO false EX (c.l.map bf)]]]:=⟨_,rfl⟩;have hCn:∀ T xs,C≠ .cy (some T) E1 xs:=by rw[hC];intro T xs h;cases h
     with_reducible refine bZ [8,9,98,99,100,101,102,103,104,105,106,107,108,109,110,111,112,113,114] (fun x:Int × ae=>[(98,I x.1)]) (fun x=>x.2) (fun x=>(x.1=0/\mh TW x.2 k t\/x.1=1/\mh TW x.2 k (t++(qh++t1))\/x.1=2/\mh TW x.2 k (t++(qh++t1++ov++t2))\/x.1=3/\mh TW x.2 k (t++(qh++t1++ov++t2++uM++t3)))/\iY k σ x.2/\x.2[σ.length]? = some C) (fun x=>(3-x.1).toNat) (0,σ++[C]) ?_ ?_ ?_ ?_
     ·exact⟨.inl ⟨rfl,hb.push _⟩,(iY.refl k (σ++[C])).pV,by simp⟩
     ·rw[hC]
     ·exact at_
     rintro⟨i,σ1⟩ r ⟨hi,cZ,p8⟩;dsimp only at hi cZ p8;have keep:∀ {σ2:ae},iY k σ1 σ2->σ2[σ.length]? = some C:=fun h=>h.2 _ _ p8 (by omega) hCn;rcases hi with⟨rfl,M5⟩|⟨rfl,M5⟩|⟨rfl,M5⟩|⟨rfl,M5⟩
     ·repeat' first|simp (disch:=omega) only[go_sem,aF,aG,aH,show(0:Int).toNat=0 from rfl]|refine aE ?_|with_reducible refine cz (Builder_WriteString oE _ k _ _ M5 (by simp;omega)) ?_|refine aD ?_ ?_<;>intro hw<;>try omega|fail
      all_goals first
       | (rintro o σ2 ⟨rfl, gN, jS⟩
          have rL:=keep jS;rw[hC]at rL;repeat' first|simp (disch:=omega) only[go_sem,aF,aG,aH,rL,show(0:Int).toNat=0 from rfl]|refine aE ?_|with_reducible refine cz (pa _ k _ gN (by simp[qh];omega)) ?_|refine aD ?_ ?_<;>intro hw<;>try omega|fail
          rintro o σ3 ⟨rfl,sR,sS⟩;repeat' first|refine aE ?_|refine aD ?_ ?_<;>intro hw<;>try omega|fail
          refine⟨(1,σ3),⟨.inr (.inl ⟨rfl,by simpa[qh]using sR⟩),cZ.trans (jS.trans sS),keep (jS.trans sS)⟩,(by dsimp only;decide),rfl,dH,at_⟩)
       | exact bN
     ·repeat' first|simp (disch:=omega) only[go_sem,aF,aG,aH,Int.toNat_one]|refine aE ?_|with_reducible refine cz (Builder_WriteString oE _ k _ _ M5 (by simp[qh];omega)) ?_|refine aD ?_ ?_<;>intro hw<;>try omega|fail
      all_goals first
       | (rintro o σ2 ⟨rfl, gN, jS⟩
          have rL:=keep jS;rw[hC]at rL;repeat' first|simp (disch:=omega) only[go_sem,aF,aG,aH,rL,Int.toNat_one]|refine aE ?_|with_reducible refine cz (pb _ k _ gN (by simp[qh,ov];omega)) ?_|refine aD ?_ ?_<;>intro hw<;>try omega|fail
          rintro o σ3 ⟨rfl,sR,sS⟩;repeat' first|refine aE ?_|refine aD ?_ ?_<;>intro hw<;>try omega|fail
          refine⟨(2,σ3),⟨.inr (.inr (.inl ⟨rfl,by simpa[qh,ov]using sR⟩)),cZ.trans (jS.trans sS),keep (jS.trans sS)⟩,(by dsimp only;decide),rfl,dH,at_⟩)
       | exact bN
     ·repeat' first|simp (disch:=omega) only[go_sem,aF,aG,aH,show(2:Int).toNat=2 from rfl]|refine aE ?_|with_reducible refine cz (Builder_WriteString oE _ k _ _ M5 (by simp[qh,ov];omega)) ?_|refine aD ?_ ?_<;>intro hw<;>try omega|fail
      all_goals first
       | (rintro o σ2 ⟨rfl, gN, jS⟩
          have rL:=keep jS;rw[hC]at rL;repeat' first|simp (disch:=omega) only[go_sem,aF,aG,aH,rL,show(2:Int).toNat=2 from rfl]|refine aE ?_|with_reducible refine cz (pc _ k _ gN (by simp[qh,ov,uM];omega)) ?_|refine aD ?_ ?_<;>intro hw<;>try omega|fail
          rintro o σ3 ⟨rfl,sR,sS⟩;repeat' first|refine aE ?_|refine aD ?_ ?_<;>intro hw<;>try omega|fail
          refine⟨(3,σ3),⟨.inr (.inr (.inr ⟨rfl,by simpa[qh,ov,uM]using sR⟩)),cZ.trans (jS.trans sS),keep (jS.trans sS)⟩,(by dsimp only;decide),rfl,dH,at_⟩)
       | exact bN
     ·repeat' first|refine aE ?_|refine aD ?_ ?_<;>intro hw<;>try omega|fail
      all_goals first
       | exact⟨rfl,M5,cZ⟩
       | exact bN
    ·have pa:=JF a (by simp) ha;have pb:=JF b (by simp) hb';have hf:=yo op;have hsl:=MZ op
     have hW:dJ (.mk op v0 [] [a,b])=j3 a (if(dF op).level=3 then 4 else(dF op).level)++[32]++(dF op).sign++[32]++j3 b ((dF op).level+1):=by
      simp only[dJ,pz,nr];rw[if_neg (by omega),if_neg (by omega),if_neg (by omega),if_neg (by omega)];rfl
     rw[hW]at hlen ⊢;rw[R0]at M4 hlv;clear hW R0 abF hL;have UJ:∀ {σ':ae} {o o':aY},iY k (σ++[o]++[o']) σ'->(∀ T xs,o≠ .cy (some T) E1 xs)->σ'[σ.length]? = some o:=fun cZ wT=>cZ.2 σ.length _ (by simp) (by omega) wT;have hg2:∀ {σ':ae} {o o':aY},iY k (σ++[o]++[o']) σ'->(∀ T xs,o'≠ .cy (some T) E1 xs)->σ'[σ.length+1]? = some o':=fun cZ wT=>cZ.2 (σ.length+1) _ (by simp) (by omega) wT;simp only[aA,List.length_cons,List.length_nil]at hlen;simp only[Mx]at hf;generalize hBB:dF op=B at *;obtain⟨bop,sg,lvl⟩:=B;dsimp only at *;simp only[aZ,br,bB a,bB b]at M4 ⊢;by_cases h3:lvl=3
     ·subst h3;simp only[if_true]at hlen ⊢;have pa:=pa 4;have pb:=pb (3+1);generalize j3 a 4=t1 at *;generalize j3 b (3+1)=t2 at *;simp only[Int.reduceAdd]at pb;refine iy.go ?_;unfold eP;intro Q aF aG aH;repeat' first|simp (disch:=omega) only[go_sem,aF,aG,aH,Int.reduceAdd]|refine aE ?_|with_reducible refine cz (pa _ k t ((hb.push _).push _) (by omega)) ?_|refine aD ?_ ?_<;>intro hw<;>try omega|fail
      all_goals first
       | (rintro o σ1 ⟨rfl, gN, cZ⟩
          have p8:=UJ cZ (fun _ _=>by simp);have rL:=hg2 cZ (fun _ _=>by simp);repeat' first|simp (disch:=omega) only[go_sem,aF,aG,aH,p8,rL]|refine aE ?_|with_reducible refine cz (Builder_WriteString oE _ k _ _ gN (by simp only[aA,List.length_cons,List.length_nil];omega)) ?_|refine aD ?_ ?_<;>intro hw<;>try omega|fail
          rintro o σ2 ⟨rfl,sR,jS⟩;have p8:=jS.2 _ _ p8 (by omega) (fun _ _=>by simp);have rL:=jS.2 _ _ rL (by omega) (fun _ _=>by simp);repeat' first|simp (disch:=omega) only[go_sem,aF,aG,aH,p8,rL,Int.toNat_one,Int.reduceAdd]|refine aE ?_|with_reducible refine cz (pb _ k _ sR (by simp only[aA,List.length_cons,List.length_nil];omega)) ?_|refine aD ?_ ?_<;>intro hw<;>try omega|fail
          rintro o σ3 ⟨rfl,UK,sS⟩;repeat' first|refine aE ?_|refine aD ?_ ?_<;>intro hw<;>try omega|fail
          exact⟨rfl,by simpa using UK,((cZ.trans jS).trans sS).pV.pV⟩)
       | exact bN
     ·simp only[if_neg h3]at hlen ⊢;have pa:=pa lvl;have pb:=pb (lvl+1);generalize j3 a lvl=t1 at *;generalize j3 b (lvl+1)=t2 at *;refine iy.go ?_;unfold eP;intro Q aF aG aH;repeat' first|simp (disch:=omega) only[go_sem,aF,aG,aH,Int.reduceAdd]|refine aE ?_|with_reducible refine cz (pa _ k t ((hb.push _).push _) (by omega)) ?_|refine aD ?_ ?_<;>intro hw<;>try omega|fail
      all_goals first
       | (rintro o σ1 ⟨rfl, gN, cZ⟩
          have p8:=UJ cZ (fun _ _=>by simp);have rL:=hg2 cZ (fun _ _=>by simp);repeat' first|simp (disch:=omega) only[go_sem,aF,aG,aH,p8,rL]|refine aE ?_|with_reducible refine cz (Builder_WriteString oE _ k _ _ gN (by simp only[aA,List.length_cons,List.length_nil];omega)) ?_|refine aD ?_ ?_<;>intro hw<;>try omega|fail
          rintro o σ2 ⟨rfl,sR,jS⟩;have p8:=jS.2 _ _ p8 (by omega) (fun _ _=>by simp);have rL:=jS.2 _ _ rL (by omega) (fun _ _=>by simp);repeat' first|simp (disch:=omega) only[go_sem,aF,aG,aH,p8,rL,Int.toNat_one,Int.reduceAdd]|refine aE ?_|with_reducible refine cz (pb _ k _ sR (by simp only[aA,List.length_cons,List.length_nil];omega)) ?_|refine aD ?_ ?_<;>intro hw<;>try omega|fail
          rintro o σ3 ⟨rfl,UK,sS⟩;repeat' first|refine aE ?_|refine aD ?_ ?_<;>intro hw<;>try omega|fail
          exact⟨rfl,by simpa using UK,((cZ.trans jS).trans sS).pV.pV⟩)
       | exact bN
   intro lv σ k t hb hlen;by_cases hlv:ek op<lv
   ·rw[M0 (x:= .mk op v s l) hlv]at hlen ⊢;rw[List.length_cons,aA,List.length_cons,List.length_nil]at hlen;have s8:=hb.lt;have uL:∀ {σ':ae} {o:aY},iY k (σ++[o]) σ'->(∀ T xs,o≠ .cy (some T) E1 xs)->σ'[σ.length]? = some o:=fun cZ wT=>cZ.2 σ.length _ (by simp) (by omega) wT;have sA:=fun σ t h1 h2=>R6 0 σ k t (by show ¬ ek op<0;have:0<=ek op:=abF;omega) h1 h2;clear R6;generalize dJ (.mk op v s l)=w at *;simp only[Expr.YH,Expr.abr,Expr.abt,Expr.abu]at hL ⊢;generalize ek op=UI at *;refine iy.go ?_;unfold eP;intro Q aF aG aH;repeat' first|refine aE ?_|with_reducible refine cz (Builder_WriteByte oE _ k t 40 40 rfl (hb.push _) (by omega)) ?_|refine aD ?_ ?_<;>intro hw<;>try omega|fail
    all_goals first
     | (rintro o σ1 ⟨rfl, gN, cZ⟩
        have p8:=uL cZ (fun _ _=>by simp);repeat' first|simp (disch:=omega) only[go_sem,aF,aG,aH,p8]|refine aE ?_|with_reducible refine cz (sA _ _ gN (by simp only[aA,List.length_cons,List.length_nil];omega)) ?_|refine aD ?_ ?_<;>intro hw<;>try omega|fail
        rintro o σ2 ⟨rfl,sR,jS⟩;repeat' first|refine aE ?_|with_reducible refine cz (Builder_WriteByte oE _ k _ 41 41 rfl sR (by simp only[aA,List.length_cons,List.length_nil];omega)) ?_|refine aD ?_ ?_<;>intro hw<;>try omega|fail
        rintro o σ3 ⟨rfl,UK,sS⟩;repeat' first|refine aE ?_|refine aD ?_ ?_<;>intro hw<;>try omega|fail
        exact⟨rfl,by simpa using UK,((cZ.trans jS).trans sS).pV⟩)
     | exact bN
   ·rw[Fj (x:= .mk op v s l) hlv]at hlen ⊢;exact R6 lv σ k t hlv hb hlen
def D4(x:Expr)(hx:jl x)(hz:fN x<=2 ^ 30): aP aK 116 [bf x] (.bO [.str (oT x).1,I (oT x).2]):=by
 have h1:=Cc x hx (by omega);have h2:=yp x (by omega);have h3:=fun hr=>R5 x hr hx 0;have hT:oT x=if c8 x=false then([],2)else if 12<kW x then([],12)else if oJ x=true then([],5)else (dJ x,0):=rfl
 rw[hT];unfold oJ;cases hr:c8 x with
 | false =>
   rw[if_pos rfl];rw[hr]at h1;rw[bB]at h1 ⊢;refine aR yO ?_;intro Q aF aG aH;repeat' first|refine aE ?_|refine aD ?_ ?_<;>intro hw<;>try omega|fail
   all_goals exact b_ rfl rfl
 | true =>
   have h3:=h3 hr;rw[Xj hr]at h3;have hlen:=R4 x hr hx;rw[if_neg (by simp)];rw[hr]at h1;generalize dJ x=t at *;generalize kW x=d at *;rw[bB]at h1 h2 ⊢;have hb0:∀ C:aY,mh TW [C,.bW (some TW) [.iM,.au]] 1 []:=fun C=>⟨_,_,rfl,.inl rfl,.inl ⟨rfl,rfl⟩⟩;refine aR yO ?_;intro Q aF aG aH;by_cases hd:12<d
   ·simp only[if_pos hd]at aF aG aH;repeat' first|refine aE ?_|refine aD ?_ ?_<;>intro hw<;>try omega|fail
    all_goals first|exact b_ rfl rfl|exact bN
   ·simp only[if_neg hd,decide_eq_true_eq]at aF aG aH;have adj:t.length<=2 ^ 38:=by omega
    repeat' first|refine aE ?_|with_reducible refine cz (h3 _ 1 [] (hb0 _) (by simpa using adj)) ?_|refine aD ?_ ?_<;>intro hw<;>try omega|fail
    all_goals first
     | (rintro o σ1 ⟨rfl, gN, _⟩
        try rw[cP]at gN
        repeat' first|refine aE ?_|with_reducible refine cz (Builder_Len _ 1 _ gN) ?_|refine aD ?_ ?_<;>intro hw<;>try omega|fail
        rintro o s' ⟨rfl,rfl⟩;by_cases hb:200<t.length
        ·simp only[if_pos hb]at aF aG aH;repeat' first|refine aE ?_|refine aD ?_ ?_<;>intro hw<;>try omega|fail
         all_goals first|exact b_ rfl rfl|exact bN
        ·simp only[if_neg hb]at aF aG aH;repeat' first|refine aE ?_|with_reducible refine cz (Builder_String _ 1 _ gN (by omega)) ?_|refine aD ?_ ?_<;>intro hw<;>try omega|fail
         all_goals first
          | (rintro o σ2 ⟨rfl, _⟩
             repeat' first|refine aE ?_|refine aD ?_ ?_<;>intro hw<;>try omega|fail
             exact b_ rfl rfl)
          | exact bN)
     | exact bN
def J4(t:Test): aI:=if t.lo then [93]else [91]
def J5(t:Test): aI:=if t.hi then [91]else [93]
def testW(t:Test): aI:=if t.kind=1 then j3 t.a 4 else if t.kind=6 then J4 t++j3 t.a 4++[46,46]++j3 t.b 4++J5 t else j9 t.kind++[32]++j3 t.a 4
def qi(t:Test): Bool:=oJ t.a ||(decide (t.kind=6) && oJ t.b)
def nL: aI:=[44,32]
def Ag(l:List Test): aI:=Lib.join (l.map testW) nL
def Fk(n:Bool)(s:aI): aI:=if n then [110,111,116,40]++s++[41]else s
def uq(c:Cell): aI × Int:=if lp c=false then([],2)else if c.any=true then([45],0)else if c.tests.any qi=true then([],5)
 else if 200<(Fk c.neg (Ag c.tests)).length then([],5)else (Fk c.neg (Ag c.tests),0)
def Co(t:Test): Prop:=(jl t.a/\fN t.a<=2 ^ 30)/\jl t.b/\fN t.b<=2 ^ 30
def yz(c:Cell): Prop:=c.tests.length<=2 ^ 30/\ ∀ t ∈ c.tests,Co t
def yz.ok{c:Cell}(h:yz c): JX c:=⟨by have:=h.1;omega,fun t ht=>by
 obtain⟨⟨a,b⟩,c,d⟩:=h.2 t ht;exact⟨⟨a,by omega⟩,c,by omega⟩⟩
def abG{x:Expr}(h:c8 x=true): ek x.op<4↔8<=x.op/\x.op<=16:=by
 obtain⟨op,v,s,l⟩:=x;rcases qL h with⟨rfl,_⟩|⟨rfl,_⟩|⟨rfl,_⟩|⟨rfl,_⟩|⟨_,_,_,_,_,_,h1,h2,h3,_⟩
 ·show ek 1<4↔8<=(1:Int)/\(1:Int)<=16;decide
 ·show ek 2<4↔8<=(2:Int)/\(2:Int)<=16;decide
 ·show ek 3<4↔8<=(3:Int)/\(3:Int)<=16;decide
 ·show ek 16<4↔8<=(16:Int)/\(16:Int)<=16;decide
 ·show ek op<4↔8<=op/\op<=16;rw[h1];generalize dF op=b at *;simp only[jq,List.mem_cons,List.not_mem_nil,or_false]at h3;rcases h3 with rfl|rfl|rfl|rfl|rfl|rfl|rfl|rfl|rfl|rfl|rfl|rfl<;>(dsimp only at h2 ⊢;omega)
def UL{x:Expr}(h:mK x=true): c8 x=true/\oT x=if oJ x=true then([],5)else (dJ x,0):=by
 simp only[mK,aq,decide_eq_true_eq]at h;refine⟨h.1,?_⟩;unfold oT;rw[if_neg (by simp[h.1]),if_neg (by omega)]
def uN{x:Expr}(h:oJ x=false)(lv:Int): (j3 x lv).length<=202:=by
 simp only[oJ,decide_eq_false_iff_not]at h;have:=GK (ek x.op,dJ x) lv;dsimp only at this;unfold j3;omega
def GL(x:Expr)(hp:mK x=true)(hx:jl x)(hz:fN x<=2 ^ 30): aP aK 193 [bf x] (.bO [.str (if oJ x=true then []else j3 x 4),I (if oJ x=true then 5 else 0)]):=by
 obtain⟨hr,ht⟩:=UL hp;have h1:=D4 x hx hz;have h4:=abG hr;have UM:=fun h=>uN (x:=x) h 4;rw[ht]at h1;cases hb:oJ x with
 | true =>
   rw[hb]at h1;simp only[if_true]at h1 ⊢;rw[bB]at h1 ⊢;refine aR uV ?_;intro Q aF aG aH;repeat' first|refine aE ?_|refine aD ?_ ?_<;>intro hw<;>try omega|fail
   all_goals exact b_ rfl rfl
 | false =>
   have UM:=UM hb;rw[hb]at h1;simp only[aB,if_false]at h1 ⊢;by_cases hl:ek x.op<4
   ·have ho:=h4.1 hl;rw[M0 hl]at UM ⊢;rw[List.length_cons,aA]at UM;generalize dJ x=t at *;rw[bB]at h1 ⊢;refine aR uV ?_;intro Q aF aG aH;repeat' first|refine aE ?_|refine aD ?_ ?_<;>intro hw<;>try omega|fail
    all_goals first|(refine b_ ?_ rfl;simp;done)|exact bN
   ·have ho:¬ (8<=x.op/\x.op<=16):=fun h=>hl (h4.2 h);rw[Fj hl]at UM ⊢;generalize dJ x=t at *;rw[bB]at h1 ⊢;refine aR uV ?_;intro Q aF aG aH;repeat' first|refine aE ?_|refine aD ?_ ?_<;>intro hw<;>try omega|fail
    all_goals first|(refine b_ ?_ rfl;simp;done)|exact bN
def OU{t:Test}(h:kK t=true): mK t.a=true/\1<=t.kind/\t.kind<=6/\(t.kind=6->mK t.b=true):=by
 unfold kK at h;split at h
 ·rename_i h6;simp only[aq]at h;exact⟨h.1,by omega,by omega,fun _=>h.2⟩
 ·rename_i h6;simp only[aq,decide_eq_true_eq]at h;exact⟨h.1.1.1.2,h.1.1.1.1.1,by omega,fun h=>absurd h h6⟩
def J6{t:Test}(h:qi t=false): (testW t).length<=420:=by
 simp only[qi,Bool.or_eq_false_iff,Bool.and_eq_false_iff,decide_eq_false_iff_not]at h;have ha:=uN h.1 4;have hs:(j9 t.kind).length<=2:=by unfold j9;split;simp;split;simp;split;simp;split<;>simp
 unfold testW;split
 ·omega
 split
 ·rename_i h6;have hb:=uN (x:=t.b) (by rcases h.2 with h|h;exact absurd h6 h;exact h) 4;have l1:(J4 t).length=1:=by unfold J4;split<;>rfl
  have l2:(J5 t).length=1:=by unfold J5;split<;>rfl
  simp only[aA,List.length_cons,List.length_nil];omega
 ·simp only[aA,List.length_cons,List.length_nil];omega
def UN(t:Test)(hs:kK t=true)(h:Co t): aP aK 155 [dB t] (.bO [.str (if qi t=true then []else testW t),I (if qi t=true then 5 else 0)]):=by
 obtain⟨p1,k1,k6,p2⟩:=OU hs;have wa:=GL t.a p1 h.1.1 h.1.2;have hsg:=JY t.kind;have la:=fun hb=>uN (x:=t.a) hb 4;have lb:=fun hb=>uN (x:=t.b) hb 4;by_cases h6:t.kind=6
 ·have wb:=GL t.b (p2 h6) h.2.1 h.2.2;have hW:testW t=J4 t++j3 t.a 4++[46,46]++j3 t.b 4++J5 t:=by unfold testW;rw[if_neg (by omega),if_pos h6]
  have hB:qi t=(oJ t.a || oJ t.b):=by unfold qi;rw[decide_eq_true h6,Bool.true_and]
  rw[hW,hB];unfold J4 J5;clear hW hB p1 p2 hs;generalize j3 t.a 4=ta at *;generalize j3 t.b 4=tb at *;generalize oJ t.a=ba at *;generalize oJ t.b=bb at *;rw[bB]at wa wb;simp only[dB,dA];cases ba<;>simp only[Bool.false_eq_true,if_false,if_true,Bool.true_or,Bool.false_or]at wa la ⊢
  ·have la:=la trivial;cases bb<;>simp only[Bool.false_eq_true,if_false,if_true]at wb lb ⊢
   ·have lb:=lb trivial;refine aR o9 ?_;intro Q aF aG aH;repeat' first|refine aE ?_|refine aD ?_ ?_<;>intro hw<;>try omega|fail
    all_goals first|(refine b_ ?_ rfl;simp_all;done)|exact bN
   ·refine aR o9 ?_;intro Q aF aG aH;repeat' first|refine aE ?_|refine aD ?_ ?_<;>intro hw<;>try omega|fail
    all_goals first|(refine b_ ?_ rfl;simp_all;done)|exact bN
  ·refine aR o9 ?_;intro Q aF aG aH;repeat' first|refine aE ?_|refine aD ?_ ?_<;>intro hw<;>try omega|fail
   all_goals first|(refine b_ ?_ rfl;simp_all;done)|exact bN
 ·have hW:testW t=if t.kind=1 then j3 t.a 4 else j9 t.kind++[32]++j3 t.a 4:=by unfold testW;rw[if_neg h6]
  have hB:qi t=oJ t.a:=by unfold qi;rw[decide_eq_false h6,Bool.false_and,Bool.or_false]
  have hsl:(j9 t.kind).length<=2:=by unfold j9;split;simp;split;simp;split;simp;split<;>simp
  rw[hW,hB];clear hW hB p1 p2 hs;generalize j3 t.a 4=ta at *;generalize oJ t.a=ba at *;generalize j9 t.kind=sg at *;rw[bB]at wa;simp only[dB,dA];cases ba<;>simp only[Bool.false_eq_true,if_false,if_true]at wa la ⊢
  ·have la:=la trivial;refine aR o9 ?_;intro Q aF aG aH;repeat' first|refine aE ?_|refine aD ?_ ?_<;>intro hw<;>try omega|fail
   all_goals first|(refine b_ ?_ rfl;simp_all;done)|exact bN
  ·refine aR o9 ?_;intro Q aF aG aH;repeat' first|refine aE ?_|refine aD ?_ ?_<;>intro hw<;>try omega|fail
   all_goals first|(refine b_ ?_ rfl;simp_all;done)|exact bN
def Cp{sep:aI}{B:Nat}: ∀(r:List aI),(∀ x ∈ r,x.length<=B)->(Lib.joinTail sep r).length<=r.length*(B+sep.length)
 | [],_=>by simp[Lib.joinTail]
 | x :: r, h => by
   have h1:=h x (by simp);have h2:=Cp (sep:=sep) r (fun y hy=>h y (bF _ hy));have e:Lib.joinTail sep (x::r)=sep++x++Lib.joinTail sep r:=by simp[Lib.joinTail]
   rw[e,aA,aA,List.length_cons,bz];omega
def Xm{sep:aI}{B:Nat}(l:List aI)(h:∀ x ∈ l,x.length<=B): (Lib.join l sep).length<=l.length*(B+sep.length):=by
 cases l with
 | nil=>simp[Lib.join_nil]
 | cons x r =>
   have h1:=h x (by simp);have h2:=Cp (sep:=sep) r (fun y hy=>h y (bF _ hy));rw[Lib.join_cons,aA,List.length_cons,bz];omega
def abH{l:List Test}{i:Nat}(h:i<l.length): (l.map testW).take (i+1)=(l.map testW).take i++[testW (l.getD i default)]:=by
 rw[List.take_succ_eq_append_getElem (by simpa using h)];simp[h]
def ZN{l:List Test}{n:Nat}(h:∀ k,k<n->k<l.length->qi (l.getD k default)=false): ∀ x ∈ (l.map testW).take n,x.length<=420:=by
 intro x hx;obtain⟨k,hk,rfl⟩:=bC hx;simp only[List.length_take,bY]at hk;have:=J6 (h k (by omega) (by omega));have e:l.getD k default=l[k]'(by omega):=by simp[aj,show k<l.length by omega]
 rw[e]at this;simpa using this
def UO(c:Cell)(h:yz c): aP aK 115 [dD c] (.bO [.str (uq c).1,I (uq c).2]):=by
 have GM:=z_ c h.ok
 have hT:uq c=if lp c=false then([],2)else if c.any=true then([45],0)else if c.tests.any qi=true then([],5)
  else if 200<(Fk c.neg (Ag c.tests)).length then([],5)else (Fk c.neg (Ag c.tests),0):=rfl
 rw[hT];clear hT;cases hr:lp c with
 | false =>
   rw[hr]at GM;simp only[mZ,aB,if_false]at GM;rw[if_pos rfl];simp only[dD,jo]at GM ⊢;refine aR wI ?_;intro Q aF aG aH;repeat' first|refine aE ?_|refine aD ?_ ?_<;>intro hw<;>try omega|fail
   all_goals exact b_ rfl rfl
 | true =>
   rw[hr]at GM;simp only[mZ,if_true]at GM;rw[if_neg (by simp)];cases ha:c.any with
   | true =>
     rw[if_pos rfl];simp only[dD,jo,ha]at GM ⊢;refine aR wI ?_;intro Q aF aG aH;repeat' first|refine aE ?_|refine aD ?_ ?_<;>intro hw<;>try omega|fail
     all_goals exact b_ rfl rfl
   | false =>
     rw[if_neg (by simp)];have Cq:=hr;unfold lp at Cq;rw[if_neg (by simp[ha])]at Cq;simp only[aq,decide_eq_true_eq,cD,fZ]at Cq;obtain⟨⟨l1,l12⟩,hsd⟩:=Cq;have hsd:∀ t ∈ c.tests,kK t=true:=fun t ht=>by have:=hsd t ht;simpa using this
     simp only[dD,jo,ha]at GM ⊢;refine aR wI ?_;intro Q aF aG aH;repeat' first|refine aE ?_|refine aD ?_ ?_<;>intro hw<;>try omega|fail
     with_reducible refine bZ [2,3,5,7,8,9,21,22,23,24,25,26,27,28,29,30,31,32,33,34,35,36,37] (fun q:Nat × List aY=>[(21,I q.1),(5,.own E1 1 q.1 0 q.1)]) (fun q=> .cells [.bool false,.bool c.neg,.aO false ES (c.tests.map dB)]:: .vec E1 (((c.tests.map testW).take q.1).map cj)::q.2) (fun q=>q.1<=c.tests.length/\ ∀ k,k<q.1->qi (c.tests.getD k default)=false) (fun q=>c.tests.length-q.1) (0,[]) ?_ ?_ ?_ ?_
     ·simp
     ·simp
     ·exact at_
     rintro⟨i,τ⟩ r ⟨h1,h2⟩;dsimp only at h1 h2;by_cases hi:i<c.tests.length
     ·have hmem:=bJ hi;have ht:=UN _ (hsd _ hmem) (h.2 _ hmem);have hwt:=abH hi;have cZ:=fun he=>bI h2 (i:=i) he;have R7:=fun hb=>Ui (p:=qi) hi hb;have hwl:=fun hb=>J6 (t:=c.tests.getD i default) hb;have hvl:((c.tests.map testW).take i).length=i:=by rw[List.length_take,bY];omega
      generalize hVV:(c.tests.map testW).take i=V at *;obtain⟨t,Fg⟩:∃ t,c.tests.getD i default=t:=⟨_,rfl⟩;rw[Fg]at ht hwt cZ R7 hwl;simp only[dB,dA]at ht;generalize testW t=tw at *;cases hb:qi t with
      | true =>
        rw[hb]at ht;simp only[if_true]at ht;have R7:=R7 hb;simp only[R7,if_true]at aF aG aH;repeat' first|simp (disch:=omega) only[go_sem,aF,aG,aH,Fg]|refine aE ?_|refine aD ?_ ?_<;>intro hw<;>try omega|fail
        all_goals first|exact b_ rfl rfl|exact bN
      | false =>
        rw[hb]at ht;simp only[aB,if_false]at ht;have cZ:=cZ hb;repeat' first|simp (disch:=omega) only[go_sem,aF,aG,aH,Fg,hvl]|refine aE ?_|refine aD ?_ ?_<;>intro hw<;>try omega|fail
        all_goals first
         | (refine ⟨(i + 1, τ ++ [.cells [I t.kind, I t.a.op, I t.a.v.kind, I t.a.v.n, .str t.a.v.s, .str t.a.s, .aO false EX (t.a.l.map bf), I t.b.op, I t.b.v.kind, I t.b.v.n, .str t.b.v.s, .str t.b.s, .aO false EX (t.b.l.map bf), .bool t.lo, .bool t.hi]]), ?_, ?_, ?_, dH, at_⟩ <;> (try dsimp only)
            ·exact⟨by omega,cZ⟩
            ·omega
            all_goals (rw[hwt];simp[cj]))
         | exact bN
     ·have xu:(c.tests.map testW).take i=c.tests.map testW:=bw (by simp;omega);have Yv:i=c.tests.length:=by omega
      have hnb:c.tests.any qi=false:=PW (p:=qi) (fun k hk=>h2 k (by omega));have hws:=ZN (l:=c.tests) (n:=i) (fun k hk _=>h2 k hk);rw[xu]at hws ⊢;have p_:=Xm (sep:=nL) _ hws;rw[bY]at p_;have hj:=strings_Join (c.tests.map testW) nL (by simp;omega) (by simp only[nL,List.length_cons,List.length_nil]at p_;have:c.tests.length*(420+(0+1+1))<=12*422:=Nat.mul_le_mul l12 (Nat.le_refl _);unfold nL;omega)
      have aff:(Lib.join (c.tests.map testW) nL).length<=12*422:=by
       simp only[nL,List.length_cons,List.length_nil]at p_;have:c.tests.length*(420+(0+1+1))<=12*422:=Nat.mul_le_mul l12 (Nat.le_refl _);unfold nL;omega
      have hlw:(c.tests.map testW).length=i:=by rw[bY];omega
      simp only[hnb,aB,if_false,Ag]at aF aG aH;clear p_;obtain⟨J,hJ⟩:∃ J,Lib.join (c.tests.map testW) nL=J:=⟨_,rfl⟩;rw[hJ]at hj aff;simp only[hJ]at aF aG aH;clear hJ;simp only[bX,nL]at hj;have YM:∀ σ : ae,σ[1]? = some (.vec E1 ((c.tests.map testW).map cj))->bL σ [.own E1 1 i 0 i,.str [44,32]] [.aO false E1 ((c.tests.map testW).map cj),.str [44,32]]:=fun σ yJ=> .cons (View.vec yJ (by rw[bY,hlw]) (by rw[bY,hlw]) (uH _)) (.cons (.refl _ rfl) (.nil _));cases hn:c.neg with
      | true =>
        simp only[hn,Fk,if_true]at aF aG aH;by_cases hbig:200<([110,111,116,40]++J++[41]:aI).length
        ·simp only[if_pos hbig]at aF aG aH;simp only[aA,List.length_cons,List.length_nil]at hbig;repeat' first|refine aE ?_|(with_reducible refine pQ hj (YM _ rfl) rfl ?_)|refine aD ?_ ?_<;>intro hw<;>try omega|fail
         all_goals first|exact b_ rfl rfl|exact bN
        ·simp only[if_neg hbig]at aF aG aH;simp only[aA,List.length_cons,List.length_nil]at hbig;repeat' first|refine aE ?_|(with_reducible refine pQ hj (YM _ rfl) rfl ?_)|refine aD ?_ ?_<;>intro hw<;>try omega|fail
         all_goals first|(refine b_ ?_ rfl;simp;done)|exact bN
      | false =>
        simp only[hn,Fk,aB,if_false]at aF aG aH;by_cases hbig:200<J.length
        ·simp only[if_pos hbig]at aF aG aH;repeat' first|refine aE ?_|(with_reducible refine pQ hj (YM _ rfl) rfl ?_)|refine aD ?_ ?_<;>intro hw<;>try omega|fail
         all_goals first|exact b_ rfl rfl|exact bN
        ·simp only[if_neg hbig]at aF aG aH;repeat' first|refine aE ?_|(with_reducible refine pQ hj (YM _ rfl) rfl ?_)|refine aD ?_ ?_<;>intro hw<;>try omega|fail
         all_goals first|exact b_ rfl rfl|exact bN
