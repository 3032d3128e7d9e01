/- Part. -/
import Derived.Test.YtmbgnaoilncbnaaGreatDoorX25
set_option linter.all false
namespace Go.Proofs.YtmbgnaoilncbnaaGreatDoor
open Go.AM
set_option maxRecDepth 4000
abbrev TW: TypeId:=185
def rR: LB TW:=by unfold LB;kernel_rfl
def Wx(x:Expr): ai Tryz.prog y3 [aL x] (I (dc x.op)):=by
 have hf:=Fx x.op;have hS:dc x.op=if x.op=16 then 0 else if x.op=3 then 6 else if x.op=1\/x.op=2 then 7 else(cV x.op).level:=rfl
 rw[hS];clear hS;simp only[V5]at hf;generalize cV x.op=b at *;rw[aR];refine ai.aG (P7 (by simp) ?_) (by simp);unfold Gv aP;intro Q au aA aB;repeat' first|refine aq ?_|refine aC hf ?_|refine ak ?_ ?_<;>intro hw<;>try omega|fail
 all_goals (refine aM ?_ rfl;simp_all)
def aea(x:Expr): Prop:= ∀(lv:Int) (σ : aj) (l:Nat) (s:aJ),pV TW σ l s->s.length+(fq x lv).length<=2 ^ 38 ->
 f_ Tryz.prog gg [.ref l 0,.agg [I x.op,I x.v.kind,I x.v.n,.str x.v.s,.str x.s,.aK false EX (x.l.map aL)],I lv] σ fun o σ'=>o = .ret (.bX [])/\pV TW σ' l (s++fq x lv)/\jg l σ σ'
set_option maxHeartbeats 4000000 in
def aaD(x:Expr): cA x=true->ic x->aea x:=by
 induction x using Expr.ind with
 | h op v s l ih =>
   intro hr hx;have Wt:=Bm hr;have hL:=Wx (.mk op v s l);rw[aR]at hL;simp only[ic]at hx;obtain⟨hs,hvs,hv1,VV,hl⟩:=hx;have CM:∀ y ∈ l,cA y=true->aea y:=fun y hy Y4=>ih y hy Y4 (Cm hl hy)
   have Ig:∀ (lv:Int) (σ : aj) (k:Nat) (t:aJ),¬ dc op<lv->pV TW σ k t->t.length+(cJ (.mk op v s l)).length<=2 ^ 38 ->
    f_ Tryz.prog gg [.ref k 0,.agg [I op,I v.kind,I v.n,.str v.s,.str s,.aK false EX (l.map aL)],I lv] σ fun o σ'=>o = .ret (.bX [])/\pV TW σ' k (t++cJ (.mk op v s l))/\jg k σ σ':=by
    intro lv σ k t hlv hb hlen;have w6:=hb.lt;have hb1:=fun o:aX=>hb.push [o];have hgo:∀ {σ':aj} {o:aX},jg k (σ++[o]) σ'->(∀ T xs,o≠ .cn (some T) E1 xs)->σ'[σ.length]? = some o:=fun bY DR=>bY.2 σ.length _ (by simp) (by omega) DR;have GW:=hL;simp only[Expr.ad_,Expr.af4,Expr.af5,Expr.af6]at GW;rcases vx hr with⟨rfl,rfl,rfl,h1,_⟩|⟨rfl,rfl,rfl,h1⟩|⟨rfl,rfl,rfl,a,rfl,ha⟩|⟨rfl,rfl,rfl,a,b,c,rfl,ha,hb',hc⟩|⟨o1,o2,rfl,rfl,Y6,lv5,OS,_,_,a,b,rfl,ha,hb'⟩
    ·have ht:=aaC v hv1 VV h1;have hW:cJ (.mk 1 v [] [])=ye v:=by simp[cJ,pD]
     rw[hW]at hlen ⊢;generalize ye v=tv at *;generalize dc 1=Y6 at *;simp only[iJ]at ht;simp only[bt]at GW ⊢;refine iC (by simp) ?_;unfold gP aP;intro Q au aA aB;repeat' first|refine aq ?_|refine aC GW ?_|refine aC ht ?_|with_reducible refine cF (Builder_WriteString rR _ k t tv (hb1 _) (by omega)) ?_|refine ak ?_ ?_<;>intro hw<;>try omega|fail
     all_goals first
      | (rintro o σ1 ⟨rfl, hb2, bY⟩
         repeat' first|refine aq ?_|refine ak ?_ ?_<;>intro hw<;>try omega|fail
         exact⟨rfl,hb2,bY.uo⟩)
      | exact aY
    ·have hW:cJ (.mk 2 v0 s [])=s:=by simp[cJ,pD]
     rw[hW]at hlen ⊢;generalize dc 2=Y6 at *;simp only[bt]at GW ⊢;refine iC (by simp) ?_;unfold gP aP;intro Q au aA aB;repeat' first|refine aq ?_|refine aC GW ?_|with_reducible refine cF (Builder_WriteString rR _ k t s (hb1 _) (by omega)) ?_|refine ak ?_ ?_<;>intro hw<;>try omega|fail
     all_goals first
      | (rintro o σ1 ⟨rfl, hb2, bY⟩
         repeat' first|refine aq ?_|refine ak ?_ ?_<;>intro hw<;>try omega|fail
         exact⟨rfl,hb2,bY.uo⟩)
      | exact aY
    ·have pa:=CM a (by simp) ha;have hW:cJ (.mk 3 v0 [] [a])=45::fq a 6:=by simp[cJ,tH,pD,fq]
     rw[hW,List.length_cons]at hlen;rw[hW];have pa:=pa 6;generalize fq a 6=t1 at *;generalize dc 3=Y6 at *;simp only[bu,bt,aR a]at GW ⊢;refine iC (by simp) ?_;unfold gP aP;intro Q au aA aB;repeat' first|refine aq ?_|refine aC GW ?_|with_reducible refine cF (Builder_WriteByte rR _ k t 45 45 rfl (hb1 _) (by omega)) ?_|refine ak ?_ ?_<;>intro hw<;>try omega|fail
     all_goals first
      | (rintro o σ1 ⟨rfl, hb2, bY⟩
         have uy:=hgo bY (fun _ _=>by simp);repeat' first|simp (disch:=omega) only[go_sem,au,aA,aB,uy]|refine aq ?_|with_reducible refine cF (pa _ k _ hb2 (by simp only[List.length_append,List.length_cons,List.length_nil];omega)) ?_|refine ak ?_ ?_<;>intro hw<;>try omega|fail
         rintro o σ2 ⟨rfl,hb3,j8⟩;repeat' first|refine aq ?_|refine ak ?_ ?_<;>intro hw<;>try omega|fail
         exact⟨rfl,by simpa using hb3,(bY.trans j8).uo⟩)
      | exact aY
    ·have pa:=CM a (by simp) ha 0;have pb:=CM b (by simp) hb' 0;have pc:=CM c (by simp) hc 0;have hW:cJ (.mk 16 v0 [] [a,b,c])=tG++fq a 0++pU++fq b 0++yf++fq c 0:=by simp[cJ,tH,pD,fq]
     rw[hW]at hlen ⊢;simp only[List.length_append,tG,pU,yf,List.length_cons,List.length_nil]at hlen;generalize fq a 0=t1 at *;generalize fq b 0=t2 at *;generalize fq c 0=t3 at *;generalize dc 16=Y6 at *;simp only[bu,bt,aR a,aR b,aR c]at GW ⊢;refine iC (by simp) ?_;unfold gP aP;intro Q au aA aB;repeat' first|refine aq ?_|refine aC GW ?_|refine ak ?_ ?_<;>intro hw<;>try omega|fail
     all_goals try (exfalso;omega)
     obtain⟨C,hC⟩:∃ C,C=aX.cells [I 16,I v0.kind,I v0.n,.str v0.s,.str [],.aK false EX [.agg [I a.op,I a.v.kind,I a.v.n,.str a.v.s,.str a.s,.aK false EX (a.l.map aL)],.agg [I b.op,I b.v.kind,I b.v.n,.str b.v.s,.str b.s,.aK false EX (b.l.map aL)],.agg [I c.op,I c.v.kind,I c.v.n,.str c.v.s,.str c.s,.aK false EX (c.l.map aL)]]]:=⟨_,rfl⟩;have hCn:∀ T xs,C≠ .cn (some T) E1 xs:=by rw[hC];intro T xs h;cases h
     with_reducible refine bn [8,9,98,99,100,101,102,103,104,105,106,107,108,109,110,111,112,113,114] (fun x:Int × aj=>[(98,I x.1)]) (fun x=>x.2) (fun x=>(x.1=0/\pV TW x.2 k t\/x.1=1/\pV TW x.2 k (t++(tG++t1))\/x.1=2/\pV TW x.2 k (t++(tG++t1++pU++t2))\/x.1=3/\pV TW x.2 k (t++(tG++t1++pU++t2++yf++t3)))/\jg k σ x.2/\x.2[σ.length]? = some C) (fun x=>(3-x.1).toNat) (0,σ++[C]) ?_ ?_ ?_ ?_
     ·exact⟨.inl ⟨rfl,hb.push _⟩,(jg.refl k (σ++[C])).uo,by simp⟩
     ·rw[hC]
     ·exact at_
     rintro⟨i,σ1⟩ r ⟨hi,bY,uy⟩;dsimp only at hi bY uy;have keep:∀ {σ2:aj},jg k σ1 σ2->σ2[σ.length]? = some C:=fun h=>h.2 _ _ uy (by omega) hCn;rcases hi with⟨rfl,Wy⟩|⟨rfl,Wy⟩|⟨rfl,Wy⟩|⟨rfl,Wy⟩
     ·repeat' first|simp (disch:=omega) only[go_sem,au,aA,aB,show(0:Int).toNat=0 from rfl]|refine aq ?_|with_reducible refine cF (Builder_WriteString rR _ k _ _ Wy (by simp;omega)) ?_|refine ak ?_ ?_<;>intro hw<;>try omega|fail
      all_goals first
       | (rintro o σ2 ⟨rfl, hb2, j8⟩
          have qS:=keep j8;rw[hC]at qS;repeat' first|simp (disch:=omega) only[go_sem,au,aA,aB,qS,show(0:Int).toNat=0 from rfl]|refine aq ?_|with_reducible refine cF (pa _ k _ hb2 (by simp[tG];omega)) ?_|refine ak ?_ ?_<;>intro hw<;>try omega|fail
          rintro o σ3 ⟨rfl,hb3,yg⟩;repeat' first|refine aq ?_|refine ak ?_ ?_<;>intro hw<;>try omega|fail
          refine⟨(1,σ3),⟨.inr (.inl ⟨rfl,by simpa[tG]using hb3⟩),bY.trans (j8.trans yg),keep (j8.trans yg)⟩,(by dsimp only;decide),rfl,bJ,at_⟩)
       | exact aY
     ·repeat' first|simp (disch:=omega) only[go_sem,au,aA,aB,fP]|refine aq ?_|with_reducible refine cF (Builder_WriteString rR _ k _ _ Wy (by simp[tG];omega)) ?_|refine ak ?_ ?_<;>intro hw<;>try omega|fail
      all_goals first
       | (rintro o σ2 ⟨rfl, hb2, j8⟩
          have qS:=keep j8;rw[hC]at qS;repeat' first|simp (disch:=omega) only[go_sem,au,aA,aB,qS,fP]|refine aq ?_|with_reducible refine cF (pb _ k _ hb2 (by simp[tG,pU];omega)) ?_|refine ak ?_ ?_<;>intro hw<;>try omega|fail
          rintro o σ3 ⟨rfl,hb3,yg⟩;repeat' first|refine aq ?_|refine ak ?_ ?_<;>intro hw<;>try omega|fail
          refine⟨(2,σ3),⟨.inr (.inr (.inl ⟨rfl,by simpa[tG,pU]using hb3⟩)),bY.trans (j8.trans yg),keep (j8.trans yg)⟩,(by dsimp only;decide),rfl,bJ,at_⟩)
       | exact aY
     ·repeat' first|simp (disch:=omega) only[go_sem,au,aA,aB,show(2:Int).toNat=2 from rfl]|refine aq ?_|with_reducible refine cF (Builder_WriteString rR _ k _ _ Wy (by simp[tG,pU];omega)) ?_|refine ak ?_ ?_<;>intro hw<;>try omega|fail
      all_goals first
       | (rintro o σ2 ⟨rfl, hb2, j8⟩
          have qS:=keep j8;rw[hC]at qS;repeat' first|simp (disch:=omega) only[go_sem,au,aA,aB,qS,show(2:Int).toNat=2 from rfl]|refine aq ?_|with_reducible refine cF (pc _ k _ hb2 (by simp[tG,pU,yf];omega)) ?_|refine ak ?_ ?_<;>intro hw<;>try omega|fail
          rintro o σ3 ⟨rfl,hb3,yg⟩;repeat' first|refine aq ?_|refine ak ?_ ?_<;>intro hw<;>try omega|fail
          refine⟨(3,σ3),⟨.inr (.inr (.inr ⟨rfl,by simpa[tG,pU,yf]using hb3⟩)),bY.trans (j8.trans yg),keep (j8.trans yg)⟩,(by dsimp only;decide),rfl,bJ,at_⟩)
       | exact aY
     ·repeat' first|refine aq ?_|refine ak ?_ ?_<;>intro hw<;>try omega|fail
      all_goals first
       | exact⟨rfl,Wy,bY⟩
       | exact aY
    ·have pa:=CM a (by simp) ha;have pb:=CM b (by simp) hb';have hf:=Fx op;have o9:=OQ op
     have hW:cJ (.mk op v0 [] [a,b])=fq a (if(cV op).level=3 then 4 else(cV op).level)++[32]++(cV op).sign++[32]++fq b ((cV op).level+1):=by
      simp only[cJ,tH,pD];rw[if_neg (by omega),if_neg (by omega),if_neg (by omega),if_neg (by omega)];rfl
     rw[hW]at hlen ⊢;rw[OS]at GW hlv;clear hW OS Wt hL;have hg1:∀ {σ':aj} {o o':aX},jg k (σ++[o]++[o']) σ'->(∀ T xs,o≠ .cn (some T) E1 xs)->σ'[σ.length]? = some o:=fun bY DR=>bY.2 σ.length _ (by simp) (by omega) DR;have Tv:∀ {σ':aj} {o o':aX},jg k (σ++[o]++[o']) σ'->(∀ T xs,o'≠ .cn (some T) E1 xs)->σ'[σ.length+1]? = some o':=fun bY DR=>bY.2 (σ.length+1) _ (by simp) (by omega) DR;simp only[List.length_append,List.length_cons,List.length_nil]at hlen;simp only[V5]at hf;generalize hBB:cV op=B at *;obtain⟨bop,sg,lvl⟩:=B;dsimp only at *;simp only[bu,bt,aR a,aR b]at GW ⊢;by_cases h3:lvl=3
     ·subst h3;simp only[if_true]at hlen ⊢;have pa:=pa 4;have pb:=pb (3+1);generalize fq a 4=t1 at *;generalize fq b (3+1)=t2 at *;simp only[Int.reduceAdd]at pb;refine iC (by simp) ?_;unfold gP aP;intro Q au aA aB;repeat' first|simp (disch:=omega) only[go_sem,au,aA,aB,Int.reduceAdd]|refine aq ?_|refine aC GW ?_|refine aC hf ?_|with_reducible refine cF (pa _ k t ((hb.push _).push _) (by omega)) ?_|refine ak ?_ ?_<;>intro hw<;>try omega|fail
      all_goals first
       | (rintro o σ1 ⟨rfl, hb2, bY⟩
          have uy:=hg1 bY (fun _ _=>by simp);have qS:=Tv bY (fun _ _=>by simp);repeat' first|simp (disch:=omega) only[go_sem,au,aA,aB,uy,qS]|refine aq ?_|with_reducible refine cF (Builder_WriteString rR _ k _ _ hb2 (by simp only[List.length_append,List.length_cons,List.length_nil];omega)) ?_|refine ak ?_ ?_<;>intro hw<;>try omega|fail
          rintro o σ2 ⟨rfl,hb3,j8⟩;have uy:=j8.2 _ _ uy (by omega) (fun _ _=>by simp);have qS:=j8.2 _ _ qS (by omega) (fun _ _=>by simp);repeat' first|simp (disch:=omega) only[go_sem,au,aA,aB,uy,qS,fP,Int.reduceAdd]|refine aq ?_|with_reducible refine cF (pb _ k _ hb3 (by simp only[List.length_append,List.length_cons,List.length_nil];omega)) ?_|refine ak ?_ ?_<;>intro hw<;>try omega|fail
          rintro o σ3 ⟨rfl,hb4,yg⟩;repeat' first|refine aq ?_|refine ak ?_ ?_<;>intro hw<;>try omega|fail
          exact⟨rfl,by simpa using hb4,((bY.trans j8).trans yg).uo.uo⟩)
       | exact aY
     ·simp only[if_neg h3]at hlen ⊢;have pa:=pa lvl;have pb:=pb (lvl+1);generalize fq a lvl=t1 at *;generalize fq b (lvl+1)=t2 at *;refine iC (by simp) ?_;unfold gP aP;intro Q au aA aB;repeat' first|simp (disch:=omega) only[go_sem,au,aA,aB,Int.reduceAdd]|refine aq ?_|refine aC GW ?_|refine aC hf ?_|with_reducible refine cF (pa _ k t ((hb.push _).push _) (by omega)) ?_|refine ak ?_ ?_<;>intro hw<;>try omega|fail
      all_goals first
       | (rintro o σ1 ⟨rfl, hb2, bY⟩
          have uy:=hg1 bY (fun _ _=>by simp);have qS:=Tv bY (fun _ _=>by simp);repeat' first|simp (disch:=omega) only[go_sem,au,aA,aB,uy,qS]|refine aq ?_|with_reducible refine cF (Builder_WriteString rR _ k _ _ hb2 (by simp only[List.length_append,List.length_cons,List.length_nil];omega)) ?_|refine ak ?_ ?_<;>intro hw<;>try omega|fail
          rintro o σ2 ⟨rfl,hb3,j8⟩;have uy:=j8.2 _ _ uy (by omega) (fun _ _=>by simp);have qS:=j8.2 _ _ qS (by omega) (fun _ _=>by simp);repeat' first|simp (disch:=omega) only[go_sem,au,aA,aB,uy,qS,fP,Int.reduceAdd]|refine aq ?_|with_reducible refine cF (pb _ k _ hb3 (by simp only[List.length_append,List.length_cons,List.length_nil];omega)) ?_|refine ak ?_ ?_<;>intro hw<;>try omega|fail
          rintro o σ3 ⟨rfl,hb4,yg⟩;repeat' first|refine aq ?_|refine ak ?_ ?_<;>intro hw<;>try omega|fail
          exact⟨rfl,by simpa using hb4,((bY.trans j8).trans yg).uo.uo⟩)
       | exact aY
   intro lv σ k t hb hlen;by_cases hlv:dc op<lv
   ·rw[OU (x:= .mk op v s l) hlv]at hlen ⊢;rw[List.length_cons,List.length_append,List.length_cons,List.length_nil]at hlen;have w6:=hb.lt;have hgo:∀ {σ':aj} {o:aX},jg k (σ++[o]) σ'->(∀ T xs,o≠ .cn (some T) E1 xs)->σ'[σ.length]? = some o:=fun bY DR=>bY.2 σ.length _ (by simp) (by omega) DR;have sA:=fun σ t h1 h2=>Ig 0 σ k t (by show ¬ dc op<0;have:0<=dc op:=Wt;omega) h1 h2;clear Ig;generalize cJ (.mk op v s l)=w at *;simp only[Expr.ad_,Expr.af4,Expr.af5,Expr.af6]at hL ⊢;generalize dc op=Y6 at *;refine iC (by simp) ?_;unfold gP aP;intro Q au aA aB;repeat' first|refine aq ?_|refine aC hL ?_|with_reducible refine cF (Builder_WriteByte rR _ k t 40 40 rfl (hb.push _) (by omega)) ?_|refine ak ?_ ?_<;>intro hw<;>try omega|fail
    all_goals first
     | (rintro o σ1 ⟨rfl, hb2, bY⟩
        have uy:=hgo bY (fun _ _=>by simp);repeat' first|simp (disch:=omega) only[go_sem,au,aA,aB,uy]|refine aq ?_|with_reducible refine cF (sA _ _ hb2 (by simp only[List.length_append,List.length_cons,List.length_nil];omega)) ?_|refine ak ?_ ?_<;>intro hw<;>try omega|fail
        rintro o σ2 ⟨rfl,hb3,j8⟩;repeat' first|refine aq ?_|with_reducible refine cF (Builder_WriteByte rR _ k _ 41 41 rfl hb3 (by simp only[List.length_append,List.length_cons,List.length_nil];omega)) ?_|refine ak ?_ ?_<;>intro hw<;>try omega|fail
        rintro o σ3 ⟨rfl,hb4,yg⟩;repeat' first|refine aq ?_|refine ak ?_ ?_<;>intro hw<;>try omega|fail
        exact⟨rfl,by simpa using hb4,((bY.trans j8).trans yg).uo⟩)
     | exact aY
   ·rw[Ie (x:= .mk op v s l) hlv]at hlen ⊢;exact Ig lv σ k t hlv hb hlen
def NH(x:Expr)(hx:ic x)(hz:eK x<=2 ^ 30): ai Tryz.prog n_ [aL x] (.bX [.str (Cc x).1,I (Cc x).2]):=by
 have h1:=Lj x hx (by omega);have h2:=Fy x (by omega);have h3:=fun hr=>aaD x hr hx 0;have hT:Cc x=if cA x=false then([],2)else if 12<i_ x then([],12)else if mG x=true then([],5)else (cJ x,0):=rfl
 rw[hT];unfold mG;cases hr:cA x with
 | false =>
   rw[if_pos rfl];rw[hr]at h1;rw[aR]at h1 ⊢;refine ai.aG (Gf (by simp) ?_) (by simp);unfold A_ aP;intro Q au aA aB;repeat' first|refine aq ?_|refine aC h1 ?_|refine ak ?_ ?_<;>intro hw<;>try omega|fail
   all_goals exact aT rfl rfl
 | true =>
   have h3:=h3 hr;rw[Wv hr]at h3;have hlen:=Cb x hr hx;rw[if_neg (by simp)];rw[hr]at h1;generalize cJ x=t at *;generalize i_ x=d at *;rw[aR]at h1 h2 ⊢;have hb0:∀ C:aX,pV TW [C,.bF (some TW) [.iN,.ae]] 1 []:=fun C=>⟨_,_,rfl,.inl rfl,.inl ⟨rfl,rfl⟩⟩;refine ai.aG (Gf (by simp) ?_) (by simp);unfold A_ aP;intro Q au aA aB;by_cases hd:12<d
   ·simp only[if_pos hd]at au aA aB;repeat' first|refine aq ?_|refine aC h1 ?_|refine aC h2 ?_|refine ak ?_ ?_<;>intro hw<;>try omega|fail
    all_goals first|exact aT rfl rfl|exact aY
   ·simp only[if_neg hd,decide_eq_true_eq]at au aA aB;have ahO:t.length<=2 ^ 38:=by omega
    repeat' first|refine aq ?_|refine aC h1 ?_|refine aC h2 ?_|with_reducible refine cF (h3 _ 1 [] (hb0 _) (by simpa using ahO)) ?_|refine ak ?_ ?_<;>intro hw<;>try omega|fail
    all_goals first
     | (rintro o σ1 ⟨rfl, hb2, _⟩
        try rw[List.nil_append]at hb2
        repeat' first|refine aq ?_|with_reducible refine cF (Builder_Len _ 1 _ hb2) ?_|refine ak ?_ ?_<;>intro hw<;>try omega|fail
        rintro o s' ⟨rfl,rfl⟩;by_cases hb:200<t.length
        ·simp only[if_pos hb]at au aA aB;repeat' first|refine aq ?_|refine ak ?_ ?_<;>intro hw<;>try omega|fail
         all_goals first|exact aT rfl rfl|exact aY
        ·simp only[if_neg hb]at au aA aB;repeat' first|refine aq ?_|with_reducible refine cF (Builder_String _ 1 _ hb2 (by omega)) ?_|refine ak ?_ ?_<;>intro hw<;>try omega|fail
         all_goals first
          | (rintro o σ2 ⟨rfl, _⟩
             repeat' first|refine aq ?_|refine ak ?_ ?_<;>intro hw<;>try omega|fail
             exact aT rfl rfl)
          | exact aY)
     | exact aY
def Wz(t:Test): aJ:=if t.lo then [93]else [91]
def WA(t:Test): aJ:=if t.hi then [91]else [93]
def testW(t:Test): aJ:=if t.kind=1 then fq t.a 4 else if t.kind=6 then Wz t++fq t.a 4++[46,46]++fq t.b 4++WA t else iQ t.kind++[32]++fq t.a 4
def j9(t:Test): Bool:=mG t.a ||(decide (t.kind=6) && mG t.b)
def nG: aJ:=[44,32]
def vW(l:List Test): aJ:=Lib.join (l.map testW) nG
def yh(n:Bool)(s:aJ): aJ:=if n then [110,111,116,40]++s++[41]else s
def Ij(c:Cell): aJ × Int:=if jf c=false then([],2)else if c.any=true then([45],0)else if c.tests.any j9=true then([],5)
 else if 200<(yh c.neg (vW c.tests)).length then([],5)else (yh c.neg (vW c.tests),0)
def LC(t:Test): Prop:=(ic t.a/\eK t.a<=2 ^ 30)/\ic t.b/\eK t.b<=2 ^ 30
def Bn(c:Cell): Prop:=c.tests.length<=2 ^ 30/\ ∀ t ∈ c.tests,LC t
def Bn.ok{c:Cell}(h:Bn c): Nu c:=⟨by have:=h.1;omega,fun t ht=>by
 obtain⟨⟨a,b⟩,c,d⟩:=h.2 t ht;exact⟨⟨a,by omega⟩,c,by omega⟩⟩
def agm{x:Expr}(h:cA x=true): dc x.op<4↔8<=x.op/\x.op<=16:=by
 obtain⟨op,v,s,l⟩:=x;rcases vx h with⟨rfl,_⟩|⟨rfl,_⟩|⟨rfl,_⟩|⟨rfl,_⟩|⟨_,_,_,_,_,_,h1,h2,h3,_⟩
 ·show dc 1<4↔8<=(1:Int)/\(1:Int)<=16;decide
 ·show dc 2<4↔8<=(2:Int)/\(2:Int)<=16;decide
 ·show dc 3<4↔8<=(3:Int)/\(3:Int)<=16;decide
 ·show dc 16<4↔8<=(16:Int)/\(16:Int)<=16;decide
 ·show dc op<4↔8<=op/\op<=16;rw[h1];generalize cV op=b at *;simp only[gO,List.mem_cons,List.not_mem_nil,or_false]at h3;rcases h3 with rfl|rfl|rfl|rfl|rfl|rfl|rfl|rfl|rfl|rfl|rfl|rfl<;>(dsimp only at h2 ⊢;omega)
def wQ{x:Expr}(h:kS x=true): cA x=true/\Cc x=if mG x=true then([],5)else (cJ x,0):=by
 simp only[kS,aF,decide_eq_true_eq]at h;refine⟨h.1,?_⟩;unfold Cc;rw[if_neg (by simp[h.1]),if_neg (by omega)]
def tI{x:Expr}(h:mG x=false)(lv:Int): (fq x lv).length<=202:=by
 simp only[mG,decide_eq_false_iff_not]at h;have:=Ic (dc x.op,cJ x) lv;dsimp only at this;unfold fq;omega
def QN(x:Expr)(hp:kS x=true)(hx:ic x)(hz:eK x<=2 ^ 30): ai Tryz.prog xu [aL x] (.bX [.str (if mG x=true then []else fq x 4),I (if mG x=true then 5 else 0)]):=by
 obtain⟨hr,ht⟩:=wQ hp;have h1:=NH x hx hz;have h4:=agm hr;have hsm:=fun h=>tI (x:=x) h 4;rw[ht]at h1;cases hb:mG x with
 | true =>
   rw[hb]at h1;simp only[if_true]at h1 ⊢;rw[aR]at h1 ⊢;refine ai.aG (Be (by simp) ?_) (by simp);unfold xP aP;intro Q au aA aB;repeat' first|refine aq ?_|refine aC h1 ?_|refine ak ?_ ?_<;>intro hw<;>try omega|fail
   all_goals exact aT rfl rfl
 | false =>
   have hsm:=hsm hb;rw[hb]at h1;simp only[Bool.false_eq_true,if_false]at h1 ⊢;by_cases hl:dc x.op<4
   ·have ho:=h4.1 hl;rw[OU hl]at hsm ⊢;rw[List.length_cons,List.length_append]at hsm;generalize cJ x=t at *;rw[aR]at h1 ⊢;refine ai.aG (Be (by simp) ?_) (by simp);unfold xP aP;intro Q au aA aB;repeat' first|refine aq ?_|refine aC h1 ?_|refine ak ?_ ?_<;>intro hw<;>try omega|fail
    all_goals first|(refine aT ?_ rfl;simp;done)|exact aY
   ·have ho:¬ (8<=x.op/\x.op<=16):=fun h=>hl (h4.2 h);rw[Ie hl]at hsm ⊢;generalize cJ x=t at *;rw[aR]at h1 ⊢;refine ai.aG (Be (by simp) ?_) (by simp);unfold xP aP;intro Q au aA aB;repeat' first|refine aq ?_|refine aC h1 ?_|refine ak ?_ ?_<;>intro hw<;>try omega|fail
    all_goals first|(refine aT ?_ rfl;simp;done)|exact aY
def NI{t:Test}(h:kF t=true): kS t.a=true/\1<=t.kind/\t.kind<=6/\(t.kind=6->kS t.b=true):=by
 unfold kF at h;split at h
 ·rename_i h6;simp only[aF]at h;exact⟨h.1,by omega,by omega,fun _=>h.2⟩
 ·rename_i h6;simp only[aF,decide_eq_true_eq]at h;exact⟨h.1.1.1.2,h.1.1.1.1.1,by omega,fun h=>absurd h h6⟩
def Tw{t:Test}(h:j9 t=false): (testW t).length<=420:=by
 simp only[j9,fB,Bool.and_eq_false_iff,decide_eq_false_iff_not]at h;have ha:=tI h.1 4;have hs:(iQ t.kind).length<=2:=by unfold iQ;split;simp;split;simp;split;simp;split<;>simp
 unfold testW;split
 ·omega
 split
 ·rename_i h6;have hb:=tI (x:=t.b) (by rcases h.2 with h|h;exact absurd h6 h;exact h) 4;have l1:(Wz t).length=1:=by unfold Wz;split<;>rfl
  have l2:(WA t).length=1:=by unfold WA;split<;>rfl
  simp only[List.length_append,List.length_cons,List.length_nil];omega
 ·simp only[List.length_append,List.length_cons,List.length_nil];omega
set_option maxHeartbeats 1000000 in
def abU(t:Test)(hs:kF t=true)(h:LC t): ai Tryz.prog Fk [bO t] (.bX [.str (if j9 t=true then []else testW t),I (if j9 t=true then 5 else 0)]):=by
 obtain⟨p1,k1,k6,p2⟩:=NI hs;have wa:=QN t.a p1 h.1.1 h.1.2;have ND:=Tp t.kind;have la:=fun hb=>tI (x:=t.a) hb 4;have lb:=fun hb=>tI (x:=t.b) hb 4;by_cases h6:t.kind=6
 ·have wb:=QN t.b (p2 h6) h.2.1 h.2.2;have hW:testW t=Wz t++fq t.a 4++[46,46]++fq t.b 4++WA t:=by unfold testW;rw[if_neg (by omega),if_pos h6]
  have hB:j9 t=(mG t.a || mG t.b):=by unfold j9;rw[decide_eq_true h6,Bool.true_and]
  rw[hW,hB];unfold Wz WA;clear hW hB p1 p2 hs;generalize fq t.a 4=ta at *;generalize fq t.b 4=tb at *;generalize mG t.a=ba at *;generalize mG t.b=bb at *;rw[aR]at wa wb;simp only[bO,cw];cases ba<;>simp only[Bool.false_eq_true,if_false,if_true,Bool.true_or,Bool.false_or]at wa la ⊢
  ·have la:=la trivial;cases bb<;>simp only[Bool.false_eq_true,if_false,if_true]at wb lb ⊢
   ·have lb:=lb trivial;refine ai.aG (sX (by simp) ?_) (by simp);unfold rM aP;intro Q au aA aB;repeat' first|refine aq ?_|refine aC wa ?_|refine aC wb ?_|refine ak ?_ ?_<;>intro hw<;>try omega|fail
    all_goals first|(refine aT ?_ rfl;simp_all;done)|exact aY
   ·refine ai.aG (sX (by simp) ?_) (by simp);unfold rM aP;intro Q au aA aB;repeat' first|refine aq ?_|refine aC wa ?_|refine aC wb ?_|refine ak ?_ ?_<;>intro hw<;>try omega|fail
    all_goals first|(refine aT ?_ rfl;simp_all;done)|exact aY
  ·refine ai.aG (sX (by simp) ?_) (by simp);unfold rM aP;intro Q au aA aB;repeat' first|refine aq ?_|refine aC wa ?_|refine ak ?_ ?_<;>intro hw<;>try omega|fail
   all_goals first|(refine aT ?_ rfl;simp_all;done)|exact aY
 ·have hW:testW t=if t.kind=1 then fq t.a 4 else iQ t.kind++[32]++fq t.a 4:=by unfold testW;rw[if_neg h6]
  have hB:j9 t=mG t.a:=by unfold j9;rw[decide_eq_false h6,Bool.false_and,Bool.or_false]
  have o9:(iQ t.kind).length<=2:=by unfold iQ;split;simp;split;simp;split;simp;split<;>simp
  rw[hW,hB];clear hW hB p1 p2 hs;generalize fq t.a 4=ta at *;generalize mG t.a=ba at *;generalize iQ t.kind=sg at *;rw[aR]at wa;simp only[bO,cw];cases ba<;>simp only[Bool.false_eq_true,if_false,if_true]at wa la ⊢
  ·have la:=la trivial;refine ai.aG (sX (by simp) ?_) (by simp);unfold rM aP;intro Q au aA aB;repeat' first|refine aq ?_|refine aC wa ?_|refine aC ND ?_|refine ak ?_ ?_<;>intro hw<;>try omega|fail
   all_goals first|(refine aT ?_ rfl;simp_all;done)|exact aY
  ·refine ai.aG (sX (by simp) ?_) (by simp);unfold rM aP;intro Q au aA aB;repeat' first|refine aq ?_|refine aC wa ?_|refine aC ND ?_|refine ak ?_ ?_<;>intro hw<;>try omega|fail
   all_goals first|(refine aT ?_ rfl;simp_all;done)|exact aY
def LD{sep:aJ}{B:Nat}: ∀(r:List aJ),(∀ x ∈ r,x.length<=B)->(Lib.joinTail sep r).length<=r.length*(B+sep.length)
 | [],_=>by simp[Lib.joinTail]
 | x :: r, h => by
   have h1:=h x (by simp);have h2:=LD (sep:=sep) r (fun y hy=>h y (cZ _ hy));have e:Lib.joinTail sep (x::r)=sep++x++Lib.joinTail sep r:=by simp[Lib.joinTail]
   rw[e,List.length_append,List.length_append,List.length_cons,dK];omega
def WB{sep:aJ}{B:Nat}(l:List aJ)(h:∀ x ∈ l,x.length<=B): (Lib.join l sep).length<=l.length*(B+sep.length):=by
 cases l with
 | nil=>simp[Lib.join_nil]
 | cons x r =>
   have h1:=h x (by simp);have h2:=LD (sep:=sep) r (fun y hy=>h y (cZ _ hy));rw[Lib.join_cons,List.length_append,List.length_cons,dK];omega
def abV{sep:aJ}(l:List aJ)(x:aJ): Lib.join (l++[x]) sep=if l=[]then x else Lib.join l sep++sep++x:=by
 cases l with
 | nil=>rw[if_pos rfl];exact Lib.join_one x sep
 | cons y r =>
   rw[if_neg (by simp),fx,Lib.join_cons,Lib.join_cons];simp[Lib.joinTail]
def abW{l:List Test}{i:Nat}(h:i<l.length): (l.map testW).take (i+1)=(l.map testW).take i++[testW (l.getD i default)]:=by
 rw[List.take_succ_eq_append_getElem (by simpa using h)];simp[h]
def Y8{l:List Test}{n:Nat}(h:∀ k,k<n->k<l.length->j9 (l.getD k default)=false): ∀ x ∈ (l.map testW).take n,x.length<=420:=by
 intro x hx;obtain⟨k,hk,rfl⟩:=bW hx;simp only[List.length_take,cE]at hk;have:=Tw (h k (by omega) (by omega));have e:l.getD k default=l[k]'(by omega):=by simp[aE,show k<l.length by omega]
 rw[e]at this;simpa using this
set_option maxHeartbeats 2000000 in
def abX(c:Cell)(h:Bn c): ai Tryz.prog uX [bH c] (.bX [.str (Ij c).1,I (Ij c).2]):=by
 have uI:=H8 c h.ok
 have hT:Ij c=if jf c=false then([],2)else if c.any=true then([45],0)else if c.tests.any j9=true then([],5)
  else if 200<(yh c.neg (vW c.tests)).length then([],5)else (yh c.neg (vW c.tests),0):=rfl
 rw[hT];clear hT;cases hr:jf c with
 | false =>
   rw[hr]at uI;simp only[mX,Bool.false_eq_true,if_false]at uI;rw[if_pos rfl];simp only[bH,fo]at uI ⊢;refine ai.aG (Dg (by simp) ?_) (by simp);unfold zE aP;intro Q au aA aB;repeat' first|refine aq ?_|refine aC uI ?_|refine ak ?_ ?_<;>intro hw<;>try omega|fail
   all_goals exact aT rfl rfl
 | true =>
   rw[hr]at uI;simp only[mX,if_true]at uI;rw[if_neg (by simp)];cases ha:c.any with
   | true =>
     rw[if_pos rfl];simp only[bH,fo,ha]at uI ⊢;refine ai.aG (Dg (by simp) ?_) (by simp);unfold zE aP;intro Q au aA aB;repeat' first|refine aq ?_|refine aC uI ?_|refine ak ?_ ?_<;>intro hw<;>try omega|fail
     all_goals exact aT rfl rfl
   | false =>
     rw[if_neg (by simp)];have Ah:=hr;unfold jf at Ah;rw[if_neg (by simp[ha])]at Ah;simp only[aF,decide_eq_true_eq,bZ,List.any_eq_false]at Ah;obtain⟨⟨l1,l12⟩,hsd⟩:=Ah;have hsd:∀ t ∈ c.tests,kF t=true:=fun t ht=>by have:=hsd t ht;simpa using this
     simp only[bH,fo,ha]at uI ⊢;refine ai.aG (Dg (by simp) ?_) (by simp);unfold zE aP;intro Q au aA aB;repeat' first|refine aq ?_|refine aC uI ?_|refine ak ?_ ?_<;>intro hw<;>try omega|fail
     with_reducible refine bn [2,3,5,7,8,9,21,22,23,24,25,26,27,28,29,30,31,32,33,34,35,36,37] (fun q:Nat × List aX=>[(21,I q.1),(5,.own E1 1 q.1 0 q.1)]) (fun q=> .cells [.bool false,.bool c.neg,.aK false ES (c.tests.map bO)]:: .vec E1 (((c.tests.map testW).take q.1).map cS)::q.2) (fun q=>q.1<=c.tests.length/\ ∀ k,k<q.1->j9 (c.tests.getD k default)=false) (fun q=>c.tests.length-q.1) (0,[]) ?_ ?_ ?_ ?_
     ·simp
     ·simp
     ·exact at_
     rintro⟨i,τ⟩ r ⟨h1,h2⟩;dsimp only at h1 h2;by_cases hi:i<c.tests.length
     ·have hmem:=a_ hi;have ht:=abU _ (hsd _ hmem) (h.2 _ hmem);have hwt:=abW hi;have bY:=fun he=>bf h2 (i:=i) he;have pW:=fun hb=>DI (p:=j9) hi hb;have hwl:=fun hb=>Tw (t:=c.tests.getD i default) hb;have hvl:((c.tests.map testW).take i).length=i:=by rw[List.length_take,cE];omega
      generalize hVV:(c.tests.map testW).take i=V at *;obtain⟨t,tE⟩:∃ t,c.tests.getD i default=t:=⟨_,rfl⟩;rw[tE]at ht hwt bY pW hwl;simp only[bO,cw]at ht;generalize testW t=tw at *;cases hb:j9 t with
      | true =>
        rw[hb]at ht;simp only[if_true]at ht;have pW:=pW hb;simp only[pW,if_true]at au aA aB;repeat' first|simp (disch:=omega) only[go_sem,au,aA,aB,tE]|refine aq ?_|refine aC ht ?_|refine ak ?_ ?_<;>intro hw<;>try omega|fail
        all_goals first|exact aT rfl rfl|exact aY
      | false =>
        rw[hb]at ht;simp only[Bool.false_eq_true,if_false]at ht;have bY:=bY hb;repeat' first|simp (disch:=omega) only[go_sem,au,aA,aB,tE,hvl]|refine aq ?_|refine aC ht ?_|refine ak ?_ ?_<;>intro hw<;>try omega|fail
        all_goals first
         | (refine ⟨(i + 1, τ ++ [.cells [I t.kind, I t.a.op, I t.a.v.kind, I t.a.v.n, .str t.a.v.s, .str t.a.s, .aK false EX (t.a.l.map aL), I t.b.op, I t.b.v.kind, I t.b.v.n, .str t.b.v.s, .str t.b.s, .aK false EX (t.b.l.map aL), .bool t.lo, .bool t.hi]]), ?_, ?_, ?_, bJ, at_⟩ <;> (try dsimp only)
            ·exact⟨by omega,bY⟩
            ·omega
            all_goals (rw[hwt];simp[cS]))
         | exact aY
     ·have uz:(c.tests.map testW).take i=c.tests.map testW:=br (by simp;omega);have YJ:i=c.tests.length:=by omega
      have hnb:c.tests.any j9=false:=zj (p:=j9) (fun k hk=>h2 k (by omega));have hws:=Y8 (l:=c.tests) (n:=i) (fun k hk _=>h2 k hk);rw[uz]at hws ⊢;have hjl:=WB (sep:=nG) _ hws;rw[cE]at hjl;have hj:=strings_Join (c.tests.map testW) nG (by simp;omega) (by simp only[nG,List.length_cons,List.length_nil]at hjl;have:c.tests.length*(420+(0+1+1))<=12*422:=Nat.mul_le_mul l12 (Nat.le_refl _);unfold nG;omega)
      have aj2:(Lib.join (c.tests.map testW) nG).length<=12*422:=by
       simp only[nG,List.length_cons,List.length_nil]at hjl;have:c.tests.length*(420+(0+1+1))<=12*422:=Nat.mul_le_mul l12 (Nat.le_refl _);unfold nG;omega
      have hlw:(c.tests.map testW).length=i:=by rw[cE];omega
      simp only[hnb,Bool.false_eq_true,if_false,vW]at au aA aB;clear hjl;obtain⟨J,hJ⟩:∃ J,Lib.join (c.tests.map testW) nG=J:=⟨_,rfl⟩;rw[hJ]at hj aj2;simp only[hJ]at au aA aB;clear hJ;simp only[eR,nG]at hj;have Y9:∀ σ : aj,σ[1]? = some (.vec E1 ((c.tests.map testW).map cS))->aW σ [.own E1 1 i 0 i,.str [44,32]] [.aK false E1 ((c.tests.map testW).map cS),.str [44,32]]:=fun σ qT=> .cons (View.vec qT (by rw[cE,hlw]) (by rw[cE,hlw]) (GI _)) (.cons (.refl _ rfl) (.nil _));cases hn:c.neg with
      | true =>
        simp only[hn,yh,if_true]at au aA aB;by_cases kA:200<([110,111,116,40]++J++[41]:aJ).length
        ·simp only[if_pos kA]at au aA aB;simp only[List.length_append,List.length_cons,List.length_nil]at kA;repeat' first|refine aq ?_|(with_reducible refine wC hj (Y9 _ rfl) rfl ?_)|refine ak ?_ ?_<;>intro hw<;>try omega|fail
         all_goals first|exact aT rfl rfl|exact aY
        ·simp only[if_neg kA]at au aA aB;simp only[List.length_append,List.length_cons,List.length_nil]at kA;repeat' first|refine aq ?_|(with_reducible refine wC hj (Y9 _ rfl) rfl ?_)|refine ak ?_ ?_<;>intro hw<;>try omega|fail
         all_goals first|(refine aT ?_ rfl;simp;done)|exact aY
      | false =>
        simp only[hn,yh,Bool.false_eq_true,if_false]at au aA aB;by_cases kA:200<J.length
        ·simp only[if_pos kA]at au aA aB;repeat' first|refine aq ?_|(with_reducible refine wC hj (Y9 _ rfl) rfl ?_)|refine ak ?_ ?_<;>intro hw<;>try omega|fail
         all_goals first|exact aT rfl rfl|exact aY
        ·simp only[if_neg kA]at au aA aB;repeat' first|refine aq ?_|(with_reducible refine wC hj (Y9 _ rfl) rfl ?_)|refine ak ?_ ?_<;>intro hw<;>try omega|fail
         all_goals first|exact aT rfl rfl|exact aY
end Go.Proofs.YtmbgnaoilncbnaaGreatDoor
