/- Part. -/
import Derived.Test.YtcjcnfcedihckaaGreatDoorW25
set_option linter.all false
set_option maxHeartbeats 4000000
namespace Go.Proofs.YtcjcnfcedihckaaGreatDoor
open Go.AM
set_option maxRecDepth 4000
abbrev TW: TypeId:=200
def oX: C4 TW:=by unfold C4;kernel_rfl
def Oh(x:Expr): aM aK 198 [bg x] (I (eC x.op)):=by
 have hf:=yS x.op;have hS:eC x.op=if x.op=16 then 0 else if x.op=3 then 6 else if x.op=1\/x.op=2 then 7 else(dJ x.op).level:=rfl
 rw[hS];clear hS;simp only[NM]at hf;generalize dJ x.op=b at *;rw[bG];refine aR Hg ?_;intro Q aC aD aE;repeat' first|refine aG ?_|refine aF ?_ ?_<;>intro hw<;>try omega|fail
 all_goals (refine aS ?_ rfl;simp_all)
def ZV(x:Expr): Prop:= ∀(lv:Int) (σ : ae) (l:Nat) (s:aI),mG TW σ l s->s.length+(kA x lv).length<=2 ^ 38 ->
 cR aK 158 [.ref l 0,.agg [I x.op,I x.v.kind,I x.v.n,.str x.v.s,.str x.s,.aO false EX (x.l.map bg)],I lv] σ fun o σ'=>o = .ret (.bU [])/\mG TW σ' l (s++kA x lv)/\jj l σ σ'
def Tl(x:Expr): di x=true->jD x->ZV x:=by
 induction x using Expr.ind with
 | h op v s l ih =>
   intro hr hx;have acU:=Bu hr;have hL:=Oh (.mk op v s l);rw[bG]at hL;simp only[jD]at hx;obtain⟨hs,hvs,hv1,Vr,hl⟩:=hx;have KN:∀ y ∈ l,di y=true->ZV y:=fun y hy hry=>ih y hy hry (Ju hl hy)
   have Tm:∀ (lv:Int) (σ : ae) (k:Nat) (t:aI),¬ eC op<lv->mG TW σ k t->t.length+(dN (.mk op v s l)).length<=2 ^ 38 ->
    cR aK 158 [.ref k 0,.agg [I op,I v.kind,I v.n,.str v.s,.str s,.aO false EX (l.map bg)],I lv] σ fun o σ'=>o = .ret (.bU [])/\mG TW σ' k (t++dN (.mk op v s l))/\jj k σ σ':=by
    intro lv σ k t hlv hb hlen;have oL:=hb.lt;have tT:=fun o:aZ=>hb.push [o];have tW:∀ {σ':ae} {o:aZ},jj k (σ++[o]) σ'->(∀ T xs,o≠ .cz (some T) E1 xs)->σ'[σ.length]? = some o:=fun de xw=>de.2 σ.length _ (by simp) (by omega) xw;have Oi:=hL;simp only[Expr.ZP,Expr.acH,Expr.acI,Expr.acJ]at Oi;rcases rm hr with⟨rfl,rfl,rfl,h1,_⟩|⟨rfl,rfl,rfl,h1⟩|⟨rfl,rfl,rfl,a,rfl,ha⟩|⟨rfl,rfl,rfl,a,b,c,rfl,ha,hb',hc⟩|⟨o1,o2,rfl,rfl,VT,lv5,Tj,_,_,a,b,rfl,ha,hb'⟩
    ·have ht:=AS v hv1 Vr h1;have hW:dN (.mk 1 v [] [])=dO v:=by simp[dN,nN]
     rw[hW]at hlen ⊢;generalize dO v=tv at *;generalize eC 1=VT at *;simp only[fD]at ht;simp only[bf]at Oi ⊢;refine iK.go ?_;unfold eY;intro Q aC aD aE;repeat' first|refine aG ?_|with_reducible refine cA (Builder_WriteString oX _ k t tv (tT _) (by omega)) ?_|refine aF ?_ ?_<;>intro hw<;>try omega|fail
     all_goals first
      | (rintro o σ1 ⟨rfl, gP, de⟩
         repeat' first|refine aG ?_|refine aF ?_ ?_<;>intro hw<;>try omega|fail
         exact⟨rfl,gP,de.qv⟩)
      | exact bK
    ·have hW:dN (.mk 2 v0 s [])=s:=by simp[dN,nN]
     rw[hW]at hlen ⊢;generalize eC 2=VT at *;simp only[bf]at Oi ⊢;refine iK.go ?_;unfold eY;intro Q aC aD aE;repeat' first|refine aG ?_|with_reducible refine cA (Builder_WriteString oX _ k t s (tT _) (by omega)) ?_|refine aF ?_ ?_<;>intro hw<;>try omega|fail
     all_goals first
      | (rintro o σ1 ⟨rfl, gP, de⟩
         repeat' first|refine aG ?_|refine aF ?_ ?_<;>intro hw<;>try omega|fail
         exact⟨rfl,gP,de.qv⟩)
      | exact bK
    ·have pa:=KN a (by simp) ha;have hW:dN (.mk 3 v0 [] [a])=45::kA a 6:=by simp[dN,pU,nN,kA]
     rw[hW,List.length_cons]at hlen;rw[hW];have pa:=pa 6;generalize kA a 6=t1 at *;generalize eC 3=VT at *;simp only[aU,bf,bG a]at Oi ⊢;refine iK.go ?_;unfold eY;intro Q aC aD aE;repeat' first|refine aG ?_|with_reducible refine cA (Builder_WriteByte oX _ k t 45 45 rfl (tT _) (by omega)) ?_|refine aF ?_ ?_<;>intro hw<;>try omega|fail
     all_goals first
      | (rintro o σ1 ⟨rfl, gP, de⟩
         have qD:=tW de (fun _ _=>by simp);repeat' first|simp (disch:=omega) only[go_sem,aC,aD,aE,qD]|refine aG ?_|with_reducible refine cA (pa _ k _ gP (by simp only[aA,List.length_cons,List.length_nil];omega)) ?_|refine aF ?_ ?_<;>intro hw<;>try omega|fail
         rintro o σ2 ⟨rfl,tG,kg⟩;repeat' first|refine aG ?_|refine aF ?_ ?_<;>intro hw<;>try omega|fail
         exact⟨rfl,by simpa using tG,(de.trans kg).qv⟩)
      | exact bK
    ·have pa:=KN a (by simp) ha 0;have pb:=KN b (by simp) hb' 0;have pc:=KN c (by simp) hc 0;have hW:dN (.mk 16 v0 [] [a,b,c])=qK++kA a 0++oQ++kA b 0++vq++kA c 0:=by simp[dN,pU,nN,kA]
     rw[hW]at hlen ⊢;simp only[aA,qK,oQ,vq,List.length_cons,List.length_nil]at hlen;generalize kA a 0=t1 at *;generalize kA b 0=t2 at *;generalize kA c 0=t3 at *;generalize eC 16=VT at *;simp only[aU,bf,bG a,bG b,bG c]at Oi ⊢;refine iK.go ?_;unfold eY;intro Q aC aD aE;repeat' first|refine aG ?_|refine aF ?_ ?_<;>intro hw<;>try omega|fail
     all_goals try (exfalso;omega)
     obtain⟨C,hC⟩:∃ C,C=aZ.cells [I 16,I v0.kind,I v0.n,.str v0.s,.str [],.aO false EX [.agg [I a.op,I a.v.kind,I a.v.n,.str a.v.s,.str a.s,.aO false EX (a.l.map bg)],.agg [I b.op,I b.v.kind,I b.v.n,.str b.v.s,.str b.s,.aO false EX (b.l.map bg)],.agg [I c.op,I c.v.kind,I c.v.n,.str c.v.s,.str c.s,.aO false EX (c.l.map bg)]]]:=⟨_,rfl⟩;have hCn:∀ T xs,C≠ .cz (some T) E1 xs:=by rw[hC];intro T xs h;cases h
     with_reducible refine bX [8,9,98,99,100,101,102,103,104,105,106,107,108,109,110,111,112,113,114] (fun x:Int × ae=>[(98,I x.1)]) (fun x=>x.2) (fun x=>(x.1=0/\mG TW x.2 k t\/x.1=1/\mG TW x.2 k (t++(qK++t1))\/x.1=2/\mG TW x.2 k (t++(qK++t1++oQ++t2))\/x.1=3/\mG TW x.2 k (t++(qK++t1++oQ++t2++vq++t3)))/\jj k σ x.2/\x.2[σ.length]? = some C) (fun x=>(3-x.1).toNat) (0,σ++[C]) ?_ ?_ ?_ ?_
     ·exact⟨.inl ⟨rfl,hb.push _⟩,(jj.refl k (σ++[C])).qv,by simp⟩
     ·rw[hC]
     ·exact at_
     rintro⟨i,σ1⟩ r ⟨hi,de,qD⟩;dsimp only at hi de qD;have keep:∀ {σ2:ae},jj k σ1 σ2->σ2[σ.length]? = some C:=fun h=>h.2 _ _ qD (by omega) hCn;rcases hi with⟨rfl,Oj⟩|⟨rfl,Oj⟩|⟨rfl,Oj⟩|⟨rfl,Oj⟩
     ·repeat' first|simp (disch:=omega) only[go_sem,aC,aD,aE,show(0:Int).toNat=0 from rfl]|refine aG ?_|with_reducible refine cA (Builder_WriteString oX _ k _ _ Oj (by simp;omega)) ?_|refine aF ?_ ?_<;>intro hw<;>try omega|fail
      all_goals first
       | (rintro o σ2 ⟨rfl, gP, kg⟩
          have sv:=keep kg;rw[hC]at sv;repeat' first|simp (disch:=omega) only[go_sem,aC,aD,aE,sv,show(0:Int).toNat=0 from rfl]|refine aG ?_|with_reducible refine cA (pa _ k _ gP (by simp[qK];omega)) ?_|refine aF ?_ ?_<;>intro hw<;>try omega|fail
          rintro o σ3 ⟨rfl,tG,tH⟩;repeat' first|refine aG ?_|refine aF ?_ ?_<;>intro hw<;>try omega|fail
          refine⟨(1,σ3),⟨.inr (.inl ⟨rfl,by simpa[qK]using tG⟩),de.trans (kg.trans tH),keep (kg.trans tH)⟩,(by dsimp only;decide),rfl,da,at_⟩)
       | exact bK
     ·repeat' first|simp (disch:=omega) only[go_sem,aC,aD,aE,Int.toNat_one]|refine aG ?_|with_reducible refine cA (Builder_WriteString oX _ k _ _ Oj (by simp[qK];omega)) ?_|refine aF ?_ ?_<;>intro hw<;>try omega|fail
      all_goals first
       | (rintro o σ2 ⟨rfl, gP, kg⟩
          have sv:=keep kg;rw[hC]at sv;repeat' first|simp (disch:=omega) only[go_sem,aC,aD,aE,sv,Int.toNat_one]|refine aG ?_|with_reducible refine cA (pb _ k _ gP (by simp[qK,oQ];omega)) ?_|refine aF ?_ ?_<;>intro hw<;>try omega|fail
          rintro o σ3 ⟨rfl,tG,tH⟩;repeat' first|refine aG ?_|refine aF ?_ ?_<;>intro hw<;>try omega|fail
          refine⟨(2,σ3),⟨.inr (.inr (.inl ⟨rfl,by simpa[qK,oQ]using tG⟩)),de.trans (kg.trans tH),keep (kg.trans tH)⟩,(by dsimp only;decide),rfl,da,at_⟩)
       | exact bK
     ·repeat' first|simp (disch:=omega) only[go_sem,aC,aD,aE,show(2:Int).toNat=2 from rfl]|refine aG ?_|with_reducible refine cA (Builder_WriteString oX _ k _ _ Oj (by simp[qK,oQ];omega)) ?_|refine aF ?_ ?_<;>intro hw<;>try omega|fail
      all_goals first
       | (rintro o σ2 ⟨rfl, gP, kg⟩
          have sv:=keep kg;rw[hC]at sv;repeat' first|simp (disch:=omega) only[go_sem,aC,aD,aE,sv,show(2:Int).toNat=2 from rfl]|refine aG ?_|with_reducible refine cA (pc _ k _ gP (by simp[qK,oQ,vq];omega)) ?_|refine aF ?_ ?_<;>intro hw<;>try omega|fail
          rintro o σ3 ⟨rfl,tG,tH⟩;repeat' first|refine aG ?_|refine aF ?_ ?_<;>intro hw<;>try omega|fail
          refine⟨(3,σ3),⟨.inr (.inr (.inr ⟨rfl,by simpa[qK,oQ,vq]using tG⟩)),de.trans (kg.trans tH),keep (kg.trans tH)⟩,(by dsimp only;decide),rfl,da,at_⟩)
       | exact bK
     ·repeat' first|refine aG ?_|refine aF ?_ ?_<;>intro hw<;>try omega|fail
      all_goals first
       | exact⟨rfl,Oj,de⟩
       | exact bK
    ·have pa:=KN a (by simp) ha;have pb:=KN b (by simp) hb';have hf:=yS op;have hsl:=Od op
     have hW:dN (.mk op v0 [] [a,b])=kA a (if(dJ op).level=3 then 4 else(dJ op).level)++[32]++(dJ op).sign++[32]++kA b ((dJ op).level+1):=by
      simp only[dN,pU,nN];rw[if_neg (by omega),if_neg (by omega),if_neg (by omega),if_neg (by omega)];rfl
     rw[hW]at hlen ⊢;rw[Tj]at Oi hlv;clear hW Tj acU hL;have VU:∀ {σ':ae} {o o':aZ},jj k (σ++[o]++[o']) σ'->(∀ T xs,o≠ .cz (some T) E1 xs)->σ'[σ.length]? = some o:=fun de xw=>de.2 σ.length _ (by simp) (by omega) xw;have hg2:∀ {σ':ae} {o o':aZ},jj k (σ++[o]++[o']) σ'->(∀ T xs,o'≠ .cz (some T) E1 xs)->σ'[σ.length+1]? = some o':=fun de xw=>de.2 (σ.length+1) _ (by simp) (by omega) xw;simp only[aA,List.length_cons,List.length_nil]at hlen;simp only[NM]at hf;generalize hBB:dJ op=B at *;obtain⟨bop,sg,lvl⟩:=B;dsimp only at *;simp only[aU,bf,bG a,bG b]at Oi ⊢;by_cases h3:lvl=3
     ·subst h3;simp only[if_true]at hlen ⊢;have pa:=pa 4;have pb:=pb (3+1);generalize kA a 4=t1 at *;generalize kA b (3+1)=t2 at *;simp only[Int.reduceAdd]at pb;refine iK.go ?_;unfold eY;intro Q aC aD aE;repeat' first|simp (disch:=omega) only[go_sem,aC,aD,aE,Int.reduceAdd]|refine aG ?_|with_reducible refine cA (pa _ k t ((hb.push _).push _) (by omega)) ?_|refine aF ?_ ?_<;>intro hw<;>try omega|fail
      all_goals first
       | (rintro o σ1 ⟨rfl, gP, de⟩
          have qD:=VU de (fun _ _=>by simp);have sv:=hg2 de (fun _ _=>by simp);repeat' first|simp (disch:=omega) only[go_sem,aC,aD,aE,qD,sv]|refine aG ?_|with_reducible refine cA (Builder_WriteString oX _ k _ _ gP (by simp only[aA,List.length_cons,List.length_nil];omega)) ?_|refine aF ?_ ?_<;>intro hw<;>try omega|fail
          rintro o σ2 ⟨rfl,tG,kg⟩;have qD:=kg.2 _ _ qD (by omega) (fun _ _=>by simp);have sv:=kg.2 _ _ sv (by omega) (fun _ _=>by simp);repeat' first|simp (disch:=omega) only[go_sem,aC,aD,aE,qD,sv,Int.toNat_one,Int.reduceAdd]|refine aG ?_|with_reducible refine cA (pb _ k _ tG (by simp only[aA,List.length_cons,List.length_nil];omega)) ?_|refine aF ?_ ?_<;>intro hw<;>try omega|fail
          rintro o σ3 ⟨rfl,VW,tH⟩;repeat' first|refine aG ?_|refine aF ?_ ?_<;>intro hw<;>try omega|fail
          exact⟨rfl,by simpa using VW,((de.trans kg).trans tH).qv.qv⟩)
       | exact bK
     ·simp only[if_neg h3]at hlen ⊢;have pa:=pa lvl;have pb:=pb (lvl+1);generalize kA a lvl=t1 at *;generalize kA b (lvl+1)=t2 at *;refine iK.go ?_;unfold eY;intro Q aC aD aE;repeat' first|simp (disch:=omega) only[go_sem,aC,aD,aE,Int.reduceAdd]|refine aG ?_|with_reducible refine cA (pa _ k t ((hb.push _).push _) (by omega)) ?_|refine aF ?_ ?_<;>intro hw<;>try omega|fail
      all_goals first
       | (rintro o σ1 ⟨rfl, gP, de⟩
          have qD:=VU de (fun _ _=>by simp);have sv:=hg2 de (fun _ _=>by simp);repeat' first|simp (disch:=omega) only[go_sem,aC,aD,aE,qD,sv]|refine aG ?_|with_reducible refine cA (Builder_WriteString oX _ k _ _ gP (by simp only[aA,List.length_cons,List.length_nil];omega)) ?_|refine aF ?_ ?_<;>intro hw<;>try omega|fail
          rintro o σ2 ⟨rfl,tG,kg⟩;have qD:=kg.2 _ _ qD (by omega) (fun _ _=>by simp);have sv:=kg.2 _ _ sv (by omega) (fun _ _=>by simp);repeat' first|simp (disch:=omega) only[go_sem,aC,aD,aE,qD,sv,Int.toNat_one,Int.reduceAdd]|refine aG ?_|with_reducible refine cA (pb _ k _ tG (by simp only[aA,List.length_cons,List.length_nil];omega)) ?_|refine aF ?_ ?_<;>intro hw<;>try omega|fail
          rintro o σ3 ⟨rfl,VW,tH⟩;repeat' first|refine aG ?_|refine aF ?_ ?_<;>intro hw<;>try omega|fail
          exact⟨rfl,by simpa using VW,((de.trans kg).trans tH).qv.qv⟩)
       | exact bK
   intro lv σ k t hb hlen;by_cases hlv:eC op<lv
   ·rw[Oe (x:= .mk op v s l) hlv]at hlen ⊢;rw[List.length_cons,aA,List.length_cons,List.length_nil]at hlen;have oL:=hb.lt;have tW:∀ {σ':ae} {o:aZ},jj k (σ++[o]) σ'->(∀ T xs,o≠ .cz (some T) E1 xs)->σ'[σ.length]? = some o:=fun de xw=>de.2 σ.length _ (by simp) (by omega) xw;have sA:=fun σ t h1 h2=>Tm 0 σ k t (by show ¬ eC op<0;have:0<=eC op:=acU;omega) h1 h2;clear Tm;generalize dN (.mk op v s l)=w at *;simp only[Expr.ZP,Expr.acH,Expr.acI,Expr.acJ]at hL ⊢;generalize eC op=VT at *;refine iK.go ?_;unfold eY;intro Q aC aD aE;repeat' first|refine aG ?_|with_reducible refine cA (Builder_WriteByte oX _ k t 40 40 rfl (hb.push _) (by omega)) ?_|refine aF ?_ ?_<;>intro hw<;>try omega|fail
    all_goals first
     | (rintro o σ1 ⟨rfl, gP, de⟩
        have qD:=tW de (fun _ _=>by simp);repeat' first|simp (disch:=omega) only[go_sem,aC,aD,aE,qD]|refine aG ?_|with_reducible refine cA (sA _ _ gP (by simp only[aA,List.length_cons,List.length_nil];omega)) ?_|refine aF ?_ ?_<;>intro hw<;>try omega|fail
        rintro o σ2 ⟨rfl,tG,kg⟩;repeat' first|refine aG ?_|with_reducible refine cA (Builder_WriteByte oX _ k _ 41 41 rfl tG (by simp only[aA,List.length_cons,List.length_nil];omega)) ?_|refine aF ?_ ?_<;>intro hw<;>try omega|fail
        rintro o σ3 ⟨rfl,VW,tH⟩;repeat' first|refine aG ?_|refine aF ?_ ?_<;>intro hw<;>try omega|fail
        exact⟨rfl,by simpa using VW,((de.trans kg).trans tH).qv⟩)
     | exact bK
   ·rw[F3 (x:= .mk op v s l) hlv]at hlen ⊢;exact Tm lv σ k t hlv hb hlen
def EI(x:Expr)(hx:jD x)(hz:fT x<=2 ^ 30): aM aK 116 [bg x] (.bU [.str (pE x).1,I (pE x).2]):=by
 have h1:=CM x hx (by omega);have h2:=yT x (by omega);have h3:=fun hr=>Tl x hr hx 0;have hT:pE x=if di x=false then([],2)else if 12<lC x then([],12)else if o_ x=true then([],5)else (dN x,0):=rfl
 rw[hT];unfold o_;cases hr:di x with
 | false =>
   rw[if_pos rfl];rw[hr]at h1;rw[bG]at h1 ⊢;refine aR zi ?_;intro Q aC aD aE;repeat' first|refine aG ?_|refine aF ?_ ?_<;>intro hw<;>try omega|fail
   all_goals exact cj rfl rfl
 | true =>
   have h3:=h3 hr;rw[Yr hr]at h3;have hlen:=Tk x hr hx;rw[if_neg (by simp)];rw[hr]at h1;generalize dN x=t at *;generalize lC x=d at *;rw[bG]at h1 h2 ⊢;have hb0:∀ C:aZ,mG TW [C,.cg (some TW) [.iX,.au]] 1 []:=fun C=>⟨_,_,rfl,.inl rfl,.inl ⟨rfl,rfl⟩⟩;refine aR zi ?_;intro Q aC aD aE;by_cases hd:12<d
   ·simp only[if_pos hd]at aC aD aE;repeat' first|refine aG ?_|refine aF ?_ ?_<;>intro hw<;>try omega|fail
    all_goals first|exact cj rfl rfl|exact bK
   ·simp only[if_neg hd,decide_eq_true_eq]at aC aD aE;have aex:t.length<=2 ^ 38:=by omega
    repeat' first|refine aG ?_|with_reducible refine cA (h3 _ 1 [] (hb0 _) (by simpa using aex)) ?_|refine aF ?_ ?_<;>intro hw<;>try omega|fail
    all_goals first
     | (rintro o σ1 ⟨rfl, gP, _⟩
        try rw[cS]at gP
        repeat' first|refine aG ?_|with_reducible refine cA (Builder_Len _ 1 _ gP) ?_|refine aF ?_ ?_<;>intro hw<;>try omega|fail
        rintro o s' ⟨rfl,rfl⟩;by_cases hb:200<t.length
        ·simp only[if_pos hb]at aC aD aE;repeat' first|refine aG ?_|refine aF ?_ ?_<;>intro hw<;>try omega|fail
         all_goals first|exact cj rfl rfl|exact bK
        ·simp only[if_neg hb]at aC aD aE;repeat' first|refine aG ?_|with_reducible refine cA (Builder_String _ 1 _ gP (by omega)) ?_|refine aF ?_ ?_<;>intro hw<;>try omega|fail
         all_goals first
          | (rintro o σ2 ⟨rfl, _⟩
             repeat' first|refine aG ?_|refine aF ?_ ?_<;>intro hw<;>try omega|fail
             exact cj rfl rfl)
          | exact bK)
     | exact bK
def Lb(t:Test): aI:=if t.lo then [93]else [91]
def Ld(t:Test): aI:=if t.hi then [91]else [93]
def testW(t:Test): aI:=if t.kind=1 then kA t.a 4 else if t.kind=6 then Lb t++kA t.a 4++[46,46]++kA t.b 4++Ld t else kF t.kind++[32]++kA t.a 4
def qL(t:Test): Bool:=o_ t.a ||(decide (t.kind=6) && o_ t.b)
def lU: aI:=[44,32]
def AU(l:List Test): aI:=Lib.join (l.map testW) lU
def F4(n:Bool)(s:aI): aI:=if n then [110,111,116,40]++s++[41]else s
def uU(c:Cell): aI × Int:=if lK c=false then([],2)else if c.any=true then([45],0)else if c.tests.any qL=true then([],5)
 else if 200<(F4 c.neg (AU c.tests)).length then([],5)else (F4 c.neg (AU c.tests),0)
def C5(t:Test): Prop:=(jD t.a/\fT t.a<=2 ^ 30)/\jD t.b/\fT t.b<=2 ^ 30
def yZ(c:Cell): Prop:=c.tests.length<=2 ^ 30/\ ∀ t ∈ c.tests,C5 t
def yZ.ok{c:Cell}(h:yZ c): K6 c:=⟨by have:=h.1;omega,fun t ht=>by
 obtain⟨⟨a,b⟩,c,d⟩:=h.2 t ht;exact⟨⟨a,by omega⟩,c,by omega⟩⟩
def acV{x:Expr}(h:di x=true): eC x.op<4↔8<=x.op/\x.op<=16:=by
 obtain⟨op,v,s,l⟩:=x;rcases rm h with⟨rfl,_⟩|⟨rfl,_⟩|⟨rfl,_⟩|⟨rfl,_⟩|⟨_,_,_,_,_,_,h1,h2,h3,_⟩
 ·show eC 1<4↔8<=(1:Int)/\(1:Int)<=16;decide
 ·show eC 2<4↔8<=(2:Int)/\(2:Int)<=16;decide
 ·show eC 3<4↔8<=(3:Int)/\(3:Int)<=16;decide
 ·show eC 16<4↔8<=(16:Int)/\(16:Int)<=16;decide
 ·show eC op<4↔8<=op/\op<=16;rw[h1];generalize dJ op=b at *;simp only[jM,List.mem_cons,List.not_mem_nil,or_false]at h3;rcases h3 with rfl|rfl|rfl|rfl|rfl|rfl|rfl|rfl|rfl|rfl|rfl|rfl<;>(dsimp only at h2 ⊢;omega)
def VX{x:Expr}(h:m_ x=true): di x=true/\pE x=if o_ x=true then([],5)else (dN x,0):=by
 simp only[m_,aq,decide_eq_true_eq]at h;refine⟨h.1,?_⟩;unfold pE;rw[if_neg (by simp[h.1]),if_neg (by omega)]
def vu{x:Expr}(h:o_ x=false)(lv:Int): (kA x lv).length<=202:=by
 simp only[o_,decide_eq_false_iff_not]at h;have:=HD (eC x.op,dN x) lv;dsimp only at this;unfold kA;omega
def HE(x:Expr)(hp:m_ x=true)(hx:jD x)(hz:fT x<=2 ^ 30): aM aK 193 [bg x] (.bU [.str (if o_ x=true then []else kA x 4),I (if o_ x=true then 5 else 0)]):=by
 obtain⟨hr,ht⟩:=VX hp;have h1:=EI x hx hz;have h4:=acV hr;have VY:=fun h=>vu (x:=x) h 4;rw[ht]at h1;cases hb:o_ x with
 | true =>
   rw[hb]at h1;simp only[if_true]at h1 ⊢;rw[bG]at h1 ⊢;refine aR vF ?_;intro Q aC aD aE;repeat' first|refine aG ?_|refine aF ?_ ?_<;>intro hw<;>try omega|fail
   all_goals exact cj rfl rfl
 | false =>
   have VY:=VY hb;rw[hb]at h1;simp only[aB,if_false]at h1 ⊢;by_cases hl:eC x.op<4
   ·have ho:=h4.1 hl;rw[Oe hl]at VY ⊢;rw[List.length_cons,aA]at VY;generalize dN x=t at *;rw[bG]at h1 ⊢;refine aR vF ?_;intro Q aC aD aE;repeat' first|refine aG ?_|refine aF ?_ ?_<;>intro hw<;>try omega|fail
    all_goals first|(refine cj ?_ rfl;simp;done)|exact bK
   ·have ho:¬ (8<=x.op/\x.op<=16):=fun h=>hl (h4.2 h);rw[F3 hl]at VY ⊢;generalize dN x=t at *;rw[bG]at h1 ⊢;refine aR vF ?_;intro Q aC aD aE;repeat' first|refine aG ?_|refine aF ?_ ?_<;>intro hw<;>try omega|fail
    all_goals first|(refine cj ?_ rfl;simp;done)|exact bK
def Qd{t:Test}(h:kW t=true): m_ t.a=true/\1<=t.kind/\t.kind<=6/\(t.kind=6->m_ t.b=true):=by
 unfold kW at h;split at h
 ·rename_i h6;simp only[aq]at h;exact⟨h.1,by omega,by omega,fun _=>h.2⟩
 ·rename_i h6;simp only[aq,decide_eq_true_eq]at h;exact⟨h.1.1.1.2,h.1.1.1.1.1,by omega,fun h=>absurd h h6⟩
def Le{t:Test}(h:qL t=false): (testW t).length<=420:=by
 simp only[qL,Bool.or_eq_false_iff,Bool.and_eq_false_iff,decide_eq_false_iff_not]at h;have ha:=vu h.1 4;have hs:(kF t.kind).length<=2:=by unfold kF;split;simp;split;simp;split;simp;split<;>simp
 unfold testW;split
 ·omega
 split
 ·rename_i h6;have hb:=vu (x:=t.b) (by rcases h.2 with h|h;exact absurd h6 h;exact h) 4;have l1:(Lb t).length=1:=by unfold Lb;split<;>rfl
  have l2:(Ld t).length=1:=by unfold Ld;split<;>rfl
  simp only[aA,List.length_cons,List.length_nil];omega
 ·simp only[aA,List.length_cons,List.length_nil];omega
def VZ(t:Test)(hs:kW t=true)(h:C5 t): aM aK 155 [dH t] (.bU [.str (if qL t=true then []else testW t),I (if qL t=true then 5 else 0)]):=by
 obtain⟨p1,k1,k6,p2⟩:=Qd hs;have wa:=HE t.a p1 h.1.1 h.1.2;have hsg:=K7 t.kind;have la:=fun hb=>vu (x:=t.a) hb 4;have lb:=fun hb=>vu (x:=t.b) hb 4;by_cases h6:t.kind=6
 ·have wb:=HE t.b (p2 h6) h.2.1 h.2.2;have hW:testW t=Lb t++kA t.a 4++[46,46]++kA t.b 4++Ld t:=by unfold testW;rw[if_neg (by omega),if_pos h6]
  have hB:qL t=(o_ t.a || o_ t.b):=by unfold qL;rw[decide_eq_true h6,Bool.true_and]
  rw[hW,hB];unfold Lb Ld;clear hW hB p1 p2 hs;generalize kA t.a 4=ta at *;generalize kA t.b 4=tb at *;generalize o_ t.a=ba at *;generalize o_ t.b=bb at *;rw[bG]at wa wb;simp only[dH,dG];cases ba<;>simp only[Bool.false_eq_true,if_false,if_true,Bool.true_or,Bool.false_or]at wa la ⊢
  ·have la:=la trivial;cases bb<;>simp only[Bool.false_eq_true,if_false,if_true]at wb lb ⊢
   ·have lb:=lb trivial;refine aR pO ?_;intro Q aC aD aE;repeat' first|refine aG ?_|refine aF ?_ ?_<;>intro hw<;>try omega|fail
    all_goals first|(refine cj ?_ rfl;simp_all;done)|exact bK
   ·refine aR pO ?_;intro Q aC aD aE;repeat' first|refine aG ?_|refine aF ?_ ?_<;>intro hw<;>try omega|fail
    all_goals first|(refine cj ?_ rfl;simp_all;done)|exact bK
  ·refine aR pO ?_;intro Q aC aD aE;repeat' first|refine aG ?_|refine aF ?_ ?_<;>intro hw<;>try omega|fail
   all_goals first|(refine cj ?_ rfl;simp_all;done)|exact bK
 ·have hW:testW t=if t.kind=1 then kA t.a 4 else kF t.kind++[32]++kA t.a 4:=by unfold testW;rw[if_neg h6]
  have hB:qL t=o_ t.a:=by unfold qL;rw[decide_eq_false h6,Bool.false_and,Bool.or_false]
  have hsl:(kF t.kind).length<=2:=by unfold kF;split;simp;split;simp;split;simp;split<;>simp
  rw[hW,hB];clear hW hB p1 p2 hs;generalize kA t.a 4=ta at *;generalize o_ t.a=ba at *;generalize kF t.kind=sg at *;rw[bG]at wa;simp only[dH,dG];cases ba<;>simp only[Bool.false_eq_true,if_false,if_true]at wa la ⊢
  ·have la:=la trivial;refine aR pO ?_;intro Q aC aD aE;repeat' first|refine aG ?_|refine aF ?_ ?_<;>intro hw<;>try omega|fail
   all_goals first|(refine cj ?_ rfl;simp_all;done)|exact bK
  ·refine aR pO ?_;intro Q aC aD aE;repeat' first|refine aG ?_|refine aF ?_ ?_<;>intro hw<;>try omega|fail
   all_goals first|(refine cj ?_ rfl;simp_all;done)|exact bK
def C6{sep:aI}{B:Nat}: ∀(r:List aI),(∀ x ∈ r,x.length<=B)->(Lib.joinTail sep r).length<=r.length*(B+sep.length)
 | [],_=>by simp[Lib.joinTail]
 | x :: r, h => by
   have h1:=h x (by simp);have h2:=C6 (sep:=sep) r (fun y hy=>h y (bI _ hy));have e:Lib.joinTail sep (x::r)=sep++x++Lib.joinTail sep r:=by simp[Lib.joinTail]
   rw[e,aA,aA,List.length_cons,bE];omega
def Yu{sep:aI}{B:Nat}(l:List aI)(h:∀ x ∈ l,x.length<=B): (Lib.join l sep).length<=l.length*(B+sep.length):=by
 cases l with
 | nil=>simp[Lib.join_nil]
 | cons x r =>
   have h1:=h x (by simp);have h2:=C6 (sep:=sep) r (fun y hy=>h y (bI _ hy));rw[Lib.join_cons,aA,List.length_cons,bE];omega
def V5{sep:aI}(l:List aI)(x:aI): Lib.join (l++[x]) sep=if l=[]then x else Lib.join l sep++sep++x:=by
 cases l with
 | nil=>rw[if_pos rfl];exact Lib.join_one x sep
 | cons y r =>
   rw[if_neg (by simp),bD,Lib.join_cons,Lib.join_cons];simp[Lib.joinTail]
def acW{l:List Test}{i:Nat}(h:i<l.length): (l.map testW).take (i+1)=(l.map testW).take i++[testW (l.getD i default)]:=by
 rw[List.take_succ_eq_append_getElem (by simpa using h)];simp[h]
def aaZ{l:List Test}{n:Nat}(h:∀ k,k<n->k<l.length->qL (l.getD k default)=false): ∀ x ∈ (l.map testW).take n,x.length<=420:=by
 intro x hx;obtain⟨k,hk,rfl⟩:=bz hx;simp only[List.length_take,bt]at hk;have:=Le (h k (by omega) (by omega));have e:l.getD k default=l[k]'(by omega):=by simp[aj,show k<l.length by omega]
 rw[e]at this;simpa using this
def V6(c:Cell)(h:yZ c): aM aK 115 [dI c] (.bU [.str (uU c).1,I (uU c).2]):=by
 have HF:=AI c h.ok
 have hT:uU c=if lK c=false then([],2)else if c.any=true then([45],0)else if c.tests.any qL=true then([],5)
  else if 200<(F4 c.neg (AU c.tests)).length then([],5)else (F4 c.neg (AU c.tests),0):=rfl
 rw[hT];clear hT;cases hr:lK c with
 | false =>
   rw[hr]at HF;simp only[nF,aB,if_false]at HF;rw[if_pos rfl];simp only[dI,jL]at HF ⊢;refine aR w_ ?_;intro Q aC aD aE;repeat' first|refine aG ?_|refine aF ?_ ?_<;>intro hw<;>try omega|fail
   all_goals exact cj rfl rfl
 | true =>
   rw[hr]at HF;simp only[nF,if_true]at HF;rw[if_neg (by simp)];cases ha:c.any with
   | true =>
     rw[if_pos rfl];simp only[dI,jL,ha]at HF ⊢;refine aR w_ ?_;intro Q aC aD aE;repeat' first|refine aG ?_|refine aF ?_ ?_<;>intro hw<;>try omega|fail
     all_goals exact cj rfl rfl
   | false =>
     rw[if_neg (by simp)];have C7:=hr;unfold lK at C7;rw[if_neg (by simp[ha])]at C7;simp only[aq,decide_eq_true_eq,cF,gE]at C7;obtain⟨⟨l1,l12⟩,hsd⟩:=C7;have hsd:∀ t ∈ c.tests,kW t=true:=fun t ht=>by have:=hsd t ht;simpa using this
     simp only[dI,jL,ha]at HF ⊢;refine aR w_ ?_;intro Q aC aD aE;repeat' first|refine aG ?_|refine aF ?_ ?_<;>intro hw<;>try omega|fail
     with_reducible refine bX [2,3,5,7,8,9,21,22,23,24,25,26,27,28,29,30,31,32,33,34,35,36,37] (fun q:Nat × List aZ=>[(21,I q.1),(5,.own E1 1 q.1 0 q.1)]) (fun q=> .cells [.bool false,.bool c.neg,.aO false ES (c.tests.map dH)]:: .vec E1 (((c.tests.map testW).take q.1).map bB)::q.2) (fun q=>q.1<=c.tests.length/\ ∀ k,k<q.1->qL (c.tests.getD k default)=false) (fun q=>c.tests.length-q.1) (0,[]) ?_ ?_ ?_ ?_
     ·simp
     ·simp
     ·exact at_
     rintro⟨i,τ⟩ r ⟨h1,h2⟩;dsimp only at h1 h2;by_cases hi:i<c.tests.length
     ·have hmem:=bH hi;have ht:=VZ _ (hsd _ hmem) (h.2 _ hmem);have hwt:=acW hi;have de:=fun he=>bP h2 (i:=i) he;have Tn:=fun hb=>Vs (p:=qL) hi hb;have hwl:=fun hb=>Le (t:=c.tests.getD i default) hb;have hvl:((c.tests.map testW).take i).length=i:=by rw[List.length_take,bt];omega
      generalize hVV:(c.tests.map testW).take i=V at *;obtain⟨t,FZ⟩:∃ t,c.tests.getD i default=t:=⟨_,rfl⟩;rw[FZ]at ht hwt de Tn hwl;simp only[dH,dG]at ht;generalize testW t=tw at *;cases hb:qL t with
      | true =>
        rw[hb]at ht;simp only[if_true]at ht;have Tn:=Tn hb;simp only[Tn,if_true]at aC aD aE;repeat' first|simp (disch:=omega) only[go_sem,aC,aD,aE,FZ]|refine aG ?_|refine aF ?_ ?_<;>intro hw<;>try omega|fail
        all_goals first|exact cj rfl rfl|exact bK
      | false =>
        rw[hb]at ht;simp only[aB,if_false]at ht;have de:=de hb;repeat' first|simp (disch:=omega) only[go_sem,aC,aD,aE,FZ,hvl]|refine aG ?_|refine aF ?_ ?_<;>intro hw<;>try omega|fail
        all_goals first
         | (refine ⟨(i + 1, τ ++ [.cells [I t.kind, I t.a.op, I t.a.v.kind, I t.a.v.n, .str t.a.v.s, .str t.a.s, .aO false EX (t.a.l.map bg), I t.b.op, I t.b.v.kind, I t.b.v.n, .str t.b.v.s, .str t.b.s, .aO false EX (t.b.l.map bg), .bool t.lo, .bool t.hi]]), ?_, ?_, ?_, da, at_⟩ <;> (try dsimp only)
            ·exact⟨by omega,de⟩
            ·omega
            all_goals (rw[hwt];simp[bB]))
         | exact bK
     ·have vQ:(c.tests.map testW).take i=c.tests.map testW:=bp (by simp;omega);have ZD:i=c.tests.length:=by omega
      have hnb:c.tests.any qL=false:=Re (p:=qL) (fun k hk=>h2 k (by omega));have hws:=aaZ (l:=c.tests) (n:=i) (fun k hk _=>h2 k hk);rw[vQ]at hws ⊢;have qE:=Yu (sep:=lU) _ hws;rw[bt]at qE;have hj:=strings_Join (c.tests.map testW) lU (by simp;omega) (by simp only[lU,List.length_cons,List.length_nil]at qE;have:c.tests.length*(420+(0+1+1))<=12*422:=Nat.mul_le_mul l12 (Nat.le_refl _);unfold lU;omega)
      have agu:(Lib.join (c.tests.map testW) lU).length<=12*422:=by
       simp only[lU,List.length_cons,List.length_nil]at qE;have:c.tests.length*(420+(0+1+1))<=12*422:=Nat.mul_le_mul l12 (Nat.le_refl _);unfold lU;omega
      have ZW:(c.tests.map testW).length=i:=by rw[bt];omega
      simp only[hnb,aB,if_false,AU]at aC aD aE;clear qE;obtain⟨J,hJ⟩:∃ J,Lib.join (c.tests.map testW) lU=J:=⟨_,rfl⟩;rw[hJ]at hj agu;simp only[hJ]at aC aD aE;clear hJ;simp only[bM,lU]at hj;have ZX:∀ σ : ae,σ[1]? = some (.vec E1 ((c.tests.map testW).map bB))->bS σ [.own E1 1 i 0 i,.str [44,32]] [.aO false E1 ((c.tests.map testW).map bB),.str [44,32]]:=fun σ zd=> .cons (View.vec zd (by rw[bt,ZW]) (by rw[bt,ZW]) (tq _)) (.cons (.refl _ rfl) (.nil _));cases hn:c.neg with
      | true =>
        simp only[hn,F4,if_true]at aC aD aE;by_cases hbig:200<([110,111,116,40]++J++[41]:aI).length
        ·simp only[if_pos hbig]at aC aD aE;simp only[aA,List.length_cons,List.length_nil]at hbig;repeat' first|refine aG ?_|(with_reducible refine qo hj (ZX _ rfl) rfl ?_)|refine aF ?_ ?_<;>intro hw<;>try omega|fail
         all_goals first|exact cj rfl rfl|exact bK
        ·simp only[if_neg hbig]at aC aD aE;simp only[aA,List.length_cons,List.length_nil]at hbig;repeat' first|refine aG ?_|(with_reducible refine qo hj (ZX _ rfl) rfl ?_)|refine aF ?_ ?_<;>intro hw<;>try omega|fail
         all_goals first|(refine cj ?_ rfl;simp;done)|exact bK
      | false =>
        simp only[hn,F4,aB,if_false]at aC aD aE;by_cases hbig:200<J.length
        ·simp only[if_pos hbig]at aC aD aE;repeat' first|refine aG ?_|(with_reducible refine qo hj (ZX _ rfl) rfl ?_)|refine aF ?_ ?_<;>intro hw<;>try omega|fail
         all_goals first|exact cj rfl rfl|exact bK
        ·simp only[if_neg hbig]at aC aD aE;repeat' first|refine aG ?_|(with_reducible refine qo hj (ZX _ rfl) rfl ?_)|refine aF ?_ ?_<;>intro hw<;>try omega|fail
         all_goals first|exact cj rfl rfl|exact bK
