/- Part. -/
import Derived.Test.YtmbgnaoilncbnaaGreatDoorX29
set_option linter.all false
namespace Go.Proofs.YtmbgnaoilncbnaaGreatDoor
open Go.AM
set_option maxRecDepth 4000
def lA(σ : aj): View σ (.agg [.str [],.ae,.ae,I 0,I 0,.ae]) (bS bM) :=
 View.nU (.cons (.refl _ rfl) (.cons (.ae _) (.cons (.ae _) (.cons (.refl _ rfl) (.cons (.refl _ rfl) (.cons (.ae _) (.nil _)))))))
abbrev FH(t:Table)(v:AV): aX:= .cells [.str t.name,.aK false EC (t.ins.map bE),.aK false EC (t.outs.map bE),I t.bA,I t.agg,v]
abbrev agp(t:Table)(ls:List kP): aX:= .cells [.str t.name,.aK false EC (t.ins.map bE),.aK false EC (t.outs.map bE),I t.bA,I t.agg,.aK false ER (t.rules.map cN),.aK false ER (ls.map mV)]
def zu{S1:aj}{L k:Nat}{c:aX}{s:aJ}(hL:L<=S1.length)(hk:k<S1.length): nR L ((S1++[aX.vec E1 [.str s]]).set k c) (.own E1 S1.length 1 0 1) [s] :=
 .inr ⟨by simp,S1.length,hL,rfl,by rw[aH (by omega)];simp[cS]⟩
def Co{S1:aj}{L k q:Nat}{c:aX}{s:aJ}{xs:List aJ}(hq:S1[q]? = some (.vec E1 (xs.map cS)))(hL:L<=q)(hk:k≠q): nR L ((S1.set q (.vec E1 (xs.map cS++[.str s]))).set k c) (.own E1 q (xs.length+1) 0 (xs.length+1)) (xs++[s]) :=
 .inr ⟨by simp,q,hL,by simp,by rw[aH hk,List.getElem?_set_self (dw hq)];simp[cS]⟩
def dJ{S1:aj}{k:Nat}{c d:aX}(j:Nat)(o:aX)(hj:S1[j]? = some o)(hne:j≠k): ((S1++[d]).set k c)[j]? = some o:=by
 rw[aH (Ne.symm hne),List.getElem?_append_left (dw hj)];exact hj
def ei{S1:aj}{k q:Nat}{c d:aX}(j:Nat)(o:aX)(hj:S1[j]? = some o)(hne:j≠k)(hq:j≠q): ((S1.set q d).set k c)[j]? = some o:=by
 rw[aH (Ne.symm hne),aH (Ne.symm hq)];exact hj
set_option maxHeartbeats 8000000 in
def X8(t:Table)(h:mh t): ai Tryz.prog AA [bS t] (Ze (iK t)):=by
 have cm:=aaK t h;obtain⟨E,hE⟩:∃ E,Ze (iK t)=E:=⟨_,rfl⟩;rw[hE];by_cases he:(eE t).2.2.2≠0
 ·have hc:=zG he;obtain⟨M,hM⟩:∃ M,eE t=M:=⟨_,rfl⟩;rw[hM]at cm hc he;simp only[Ty,xZ,bS,dy,bB,cW,Ac]at cm ⊢;refine ai.aG (Gb (by simp) ?_) (by simp);unfold A8 aP;intro Q au aA aB;repeat' first|refine aq ?_|refine aC cm ?_|refine ak ?_ ?_<;>intro hw<;>try omega|fail
  all_goals first
   | exact aY
   |(rw[<-hE,hc];exact bq (kT (lA _)))
 have LO:(eE t).2.2.2=0:=by omega
 obtain⟨hf,hl,hm⟩:=yj LO;obtain⟨hlen,hok⟩:=FG h LO;have Vy:=fun n=>Q3 (t:=t) LO (n:=n);have hco:=LN LO;obtain⟨ls,hls⟩:∃ ls,(eE t).1.lines=ls:=⟨_,rfl⟩;have uK:∀ n,Im t n=ls.getD n default:=fun n=>by rw[<-hls];rfl
 have eG:nO t t.rules.length=ls:=by rw[<-hls,hm]
 rw[hls]at hlen Vy hco;rw[hm,eG]at cm;have ady:=h.2.2.2.1;have aj3:=h.2.1.1;clear hm eG hl hf LO hls he;simp only[Ty,xZ,bS,dy,bB,cW,Ac]at cm ⊢;refine ai.aG (Gb (by simp) ?_) (by simp);unfold A8 aP;intro Q au aA aB;repeat' first|refine aq ?_|refine aC cm ?_|refine ak ?_ ?_<;>intro hw<;>try omega|fail
 all_goals first|exact aY|skip
 with_reducible refine bn [3,4,5,11,12,13,14,15,16,17,18,34,35,36,37,38,39,40,41,42,43,44,45,46,47,48,49,50,51,52,53,54,55,56,57,58,59,60,61,62,63,64,65,66,67,68,69,70,71,72,73,74,75,76,77,78,79,80,81,82,83,84,85,86,87,88,89,90,91,92,93,94,95,96,97,98,99,100,101,102,103,104,105,106,107,108,109,110,111,112,113,114,115,116,117,118,119,120,121,122,123] (fun q:Nat × aj=>[(11,I q.1)]) (fun q=>q.2) (fun q=>q.1<=ls.length/\(∀ k,k<q.1->(n6 t k).2.2=0)/\4<=q.2.length/\q.2[0]? = some (FH t (.aK false ER (t.rules.map cN)))/\q.2[1]? = some (.cells [.str [],.ae,.ae,I 0,I 0,.ae])/\q.2[2]? = some (agp t ls)/\ ∃ v,q.2[3]? = some (FH t v)/\tK 4 q.2 v (vX t q.1)) (fun q=>ls.length-q.1) (0,_) ⟨bP _,fun k hk=>by omega,by simp,rfl,rfl,rfl,_,rfl,tK.nil _ _⟩ rfl ?_ ?_
 ·exact at_
 rintro⟨n,S⟩ rr ⟨h1,h2,h3,f0,f1,f2,v,f3,h4⟩;dsimp only at h1 h2 h3 f0 f1 f2 f3 h4;have hvs:=h4.scalar;by_cases hn:n<ls.length
 ·have O0:=hok n;have hrow:n6 t n=DS t.ins.length (Im t n):=rfl;have sF:=Vy n hn h2;have hrl:=Q2 t n;rw[hrow,WK]at hrl;rw[hrow]at sF;rw[uK]at O0 sF hrl;obtain⟨l,tL⟩:∃ l,ls.getD n default=l:=⟨_,rfl⟩;rw[tL]at O0 sF hrl;obtain⟨⟨k1,k2⟩,k3,k4⟩:=O0;repeat' first|simp (disch:=omega) only[go_sem,au,aA,aB,f0,f1,f2,f3,tL]|refine aq ?_|refine ak ?_ ?_<;>intro hw<;>try omega|fail
  with_reducible refine bn [3,4,5,13,14,15,42,43,44,45,46,47,48,49,50,51,52,53,54,55,56,57,58,59,60,61,62,63,64,65,66,67,68,69,70,71,72,73,74,75,76,77] (fun q:Nat × aj=>[(13,I q.1)]) (fun q=>q.2) (fun q=>q.1<=l.cells.length/\(∀ k,k<q.1->(kH l k).2=0)/\S.length<q.2.length/\(∀ j o,S[j]? = some o->q.2[j]? = some o)/\ ∃ x,q.2[S.length]? = some (.cells [x,.ae])/\nR (S.length+1) q.2 x (bF l q.1)) (fun q=>l.cells.length-q.1) (0,_) ⟨bP _,fun k hk=>by omega,by simp,fun j o hj=>by rw[List.getElem?_append_left (dw hj)];exact hj,_,Aw _ _,nR.nil _ _⟩ rfl ?_ ?_
  ·exact at_
  rintro⟨m,S1⟩ rr ⟨g1,g2,g3,g4,x,g5,g6⟩;dsimp only at g1 g2 g3 g4 g5 g6;have e0:=g4 _ _ f0;have e1:=g4 _ _ f1;have e2:=g4 _ _ f2;have e3:=g4 _ _ f3;have hs1:∀ o,(S1.set 1 o)[1]? = some o:=fun o=>List.getElem?_set_self (dw e1);by_cases hml:m<l.cells.length
  ·have cT:ai Tryz.prog xm [bH (l.cells.getD m default)] (.bX [.str (kH l m).1,I (kH l m).2]):=aaG _ (k2 _ (a_ hml));have hsc:=NJ l m;have hlm:=Il l m;have hce:=Tz t.ins.length hml g2;have hb2:=fun he=>bf (q:=fun j=>(kH l j).2=0) g2 he;obtain⟨a,ha⟩:∃ a,kH l m=a:=⟨_,rfl⟩;rw[ha]at cT hsc hce hb2;obtain⟨c,hc⟩:∃ c,l.cells.getD m default=c:=⟨_,rfl⟩;rw[hc]at cT;simp only[bH,fo]at cT;obtain⟨xs,hxs⟩:∃ xs,bF l m=xs:=⟨_,rfl⟩;rw[hxs]at g6 hsc hlm;rcases g6 with⟨rfl,rfl⟩|⟨hne,q,hq,rfl,lT⟩
   ·have hap:∀ d:aX,(S1++[d])[S.length]? = some (.cells [.ae,.ae]):=fun d=>by rw[List.getElem?_append_left (dw g5)];exact g5
    repeat' first|simp (disch:=omega) only[go_sem,au,aA,aB,e0,e1,e2,e3,hs1,g5,hap,tL,hc]|refine aq ?_|refine aC cT ?_|refine ak ?_ ?_<;>intro hw<;>try omega|fail
    ·rw[hce (by assumption)]at sF;rw[<-hE,sF (by assumption)];exact bq (kT (lA _))
    ·refine⟨(m+1,_),⟨by omega,hb2 (by assumption),?_,?_,.own E1 S1.length 1 0 1,?_,?_⟩,by dsimp only;omega,rfl,bJ,at_⟩
     ·dsimp only;simp;omega
     ·intro j o hj;dsimp only;exact dJ j o (g4 _ _ hj) (by have:=dw hj;omega)
     ·dsimp only;rw[List.getElem?_set_self (by simp;omega)]
     ·dsimp only;rw[hsc];exact zu (by omega) (by omega)
   ·have Al:q≠S.length:=by omega
    have hap:∀ d:aX,(S1.set q d)[S.length]? = some (.cells [.own E1 q xs.length 0 xs.length,.ae]):=fun d=>by rw[aH Al];exact g5
    repeat' first|simp (disch:=omega) only[go_sem,au,aA,aB,e0,e1,e2,e3,hs1,g5,hap,tL,hc,lT]|refine aq ?_|refine aC cT ?_|refine ak ?_ ?_<;>intro hw<;>try omega|fail
    ·rw[hce (by assumption)]at sF;rw[<-hE,sF (by assumption)];exact bq (kT (lA _))
    ·refine⟨(m+1,_),⟨by omega,hb2 (by assumption),?_,?_,.own E1 q (xs.length+1) 0 (xs.length+1),?_,?_⟩,by dsimp only;omega,rfl,bJ,at_⟩
     ·dsimp only;simp;omega
     ·intro j o hj;dsimp only;have:=dw hj;exact ei j o (g4 _ _ hj) (by omega) (by omega)
     ·dsimp only;rw[List.getElem?_set_self (by simp;omega)]
     ·dsimp only;rw[hsc];exact Co lT hq (Ne.symm Al)
  ·obtain rfl:m=l.cells.length:=by omega
   have adz:=fun {k:Nat}=>WL t.ins.length g2 (m:=k);have adA:=Zf t.ins.length g2;repeat' first|simp (disch:=omega) only[go_sem,au,aA,aB,e0,e1,e2,e3,g5,tL]|refine aq ?_|refine ak ?_ ?_<;>intro hw<;>try omega|fail
   with_reducible refine bn [3,4,5,16,17,18,78,79,80,81,82,83,84,85,86,87,88,89,90,91,92,93,94,95,96,97,98,99,100,101,102,103,104,105,106,107,108,109,110,111,112,113,114,115,116,117] (fun q:Nat × aj=>[(16,I q.1)]) (fun q=>q.2) (fun q=>q.1<=l.outs.length/\(∀ k,k<q.1->(nP l k).2=0)/\S1.length<=q.2.length/\(∀ j o,S1[j]? = some o->j≠S.length->q.2[j]? = some o)/\ ∃ y,q.2[S.length]? = some (.cells [x,y])/\nR S1.length q.2 y (qL l q.1)) (fun q=>l.outs.length-q.1) (0,_) ⟨bP _,fun k hk=>by omega,Nat.le_refl _,fun j o hj _=>hj,_,g5,nR.nil _ _⟩ rfl ?_ ?_
   ·exact at_
   rintro⟨m,S2⟩ rr ⟨p1,p2,p3,p4,y,p5,p6⟩;dsimp only at p1 p2 p3 p4 p5 p6;have e0:=p4 _ _ e0 (by omega);have e1:=p4 _ _ e1 (by omega);have e2:=p4 _ _ e2 (by omega);have e3:=p4 _ _ e3 (by omega);have hs1:∀ o,(S2.set 1 o)[1]? = some o:=fun o=>List.getElem?_set_self (dw e1);by_cases hml:m<l.outs.length
   ·have cT:ai Tryz.prog pJ [aL (l.outs.getD m default)] (.bX [.str (nP l m).1,I (nP l m).2]):=Ih _ (k4 _ (a_ hml)).1 (k4 _ (a_ hml)).2;have hsc:=Q1 l m;have hlm:=LM l m;have hce:=adz hml p2;have hb2:=fun he=>bf (q:=fun j=>(nP l j).2=0) p2 he;obtain⟨a,ha⟩:∃ a,nP l m=a:=⟨_,rfl⟩;rw[ha]at cT hsc hce hb2;obtain⟨c,hc⟩:∃ c,l.outs.getD m default=c:=⟨_,rfl⟩;rw[hc,aR]at cT;obtain⟨xs,hxs⟩:∃ xs,qL l m=xs:=⟨_,rfl⟩;rw[hxs]at p6 hsc hlm;rcases p6 with⟨rfl,rfl⟩|⟨hne,q,hq,rfl,lT⟩
    ·have hap:∀ d:aX,(S2++[d])[S.length]? = some (.cells [x,.ae]):=fun d=>by rw[List.getElem?_append_left (dw p5)];exact p5
     repeat' first|simp (disch:=omega) only[go_sem,au,aA,aB,e0,e1,e2,e3,hs1,p5,hap,tL,hc]|refine aq ?_|refine aC cT ?_|refine ak ?_ ?_<;>intro hw<;>try omega|fail
     all_goals first
      | (rw [hce (by assumption)] at sF
         rw[<-hE,sF (by assumption)];exact bq (kT (lA _)))
      | skip
     ·refine⟨(m+1,_),⟨by omega,hb2 (by assumption),?_,?_,.own E1 S2.length 1 0 1,?_,?_⟩,by dsimp only;omega,rfl,bJ,at_⟩
      ·dsimp only;simp;omega
      ·intro j o hj hne;dsimp only;exact dJ j o (p4 _ _ hj hne) hne
      ·dsimp only;rw[List.getElem?_set_self (by simp;omega)]
      ·dsimp only;rw[hsc];exact zu (by omega) (by omega)
    ·have Al:q≠S.length:=by omega
     have hap:∀ d:aX,(S2.set q d)[S.length]? = some (.cells [x,.own E1 q xs.length 0 xs.length]):=fun d=>by rw[aH Al];exact p5
     repeat' first|simp (disch:=omega) only[go_sem,au,aA,aB,e0,e1,e2,e3,hs1,p5,hap,tL,hc,lT]|refine aq ?_|refine aC cT ?_|refine ak ?_ ?_<;>intro hw<;>try omega|fail
     all_goals first
      | (rw [hce (by assumption)] at sF
         rw[<-hE,sF (by assumption)];exact bq (kT (lA _)))
      | skip
     ·refine⟨(m+1,_),⟨by omega,hb2 (by assumption),?_,?_,.own E1 q (xs.length+1) 0 (xs.length+1),?_,?_⟩,by dsimp only;omega,rfl,bJ,at_⟩
      ·dsimp only;simp;omega
      ·intro j o hj hne;dsimp only;have:=dw hj;exact ei j o (p4 _ _ hj hne) hne (by omega)
      ·dsimp only;rw[List.getElem?_set_self (by simp;omega)]
      ·dsimp only;rw[hsc];exact Co lT hq (Ne.symm Al)
   ·obtain rfl:m=l.outs.length:=by omega
    have WM:=adA p2;have Kk:nR (S.length+1) S2 x (bF l l.cells.length):=g6.keep (Nat.le_refl _) (fun q ys hq lT=>p4 q _ lT (by omega));have hxs:=Kk.scalar;have hys:=p6.scalar;have Aj:Sr S2 (.agg [x,y]) ⟨bF l l.cells.length,qL l l.outs.length⟩:=⟨x,y,rfl,Kk.keep (bP _) (fun _ _ _ h=>h),p6.keep (bP _) (fun _ _ _ h=>h)⟩;have hfit:([AV.agg [x,y]].all fun a=>AV.fits ⟨true,2⟩ a)=true:=by simp only[AV.fits,List.length_cons,List.length_nil,List.all_cons,List.all_nil,hxs,hys];rfl
    have zH:AV.fits ⟨true,2⟩ (.agg [x,y])=true:=by simpa using hfit
    have hkS:∀ (q:Nat) (o:aX),S[q]? = some o->S2[q]? = some o:=fun q o hq=>p4 q o (g4 q o hq) (by have:=dw hq;omega);have hS2:S.length<S2.length:=by omega
    rcases h4 with⟨h4,rfl⟩|⟨h4,q,rs,hq,rfl,lT,hr⟩
    ·have hap:∀ d:aX,(S2++[d])[3]? = some (FH t .ae):=fun d=>by rw[List.getElem?_append_left (dw e3)];exact e3
     repeat' first|simp (disch:=omega) only[go_sem,au,aA,aB,e0,e1,e2,e3,p5,hap,hfit,zH,tL]|refine aq ?_|refine ak ?_ ?_<;>intro hw<;>try omega|fail
     refine⟨(n+1,_),⟨by omega,bf (q:=fun j=>(n6 t j).2.2=0) h2 (by rw[hrow,uK,tL,WM]),?_,?_,?_,?_,.own ER S2.length 1 0 1,?_,?_⟩,by dsimp only;omega,rfl,bJ,at_⟩
     ·dsimp only;simp;omega
     ·exact dJ _ _ e0 (by omega)
     ·exact dJ _ _ e1 (by omega)
     ·exact dJ _ _ e2 (by omega)
     ·dsimp only;rw[List.getElem?_set_self (by simp;omega)]
     ·dsimp only;rw[hrl,h4];refine .inr ⟨by simp,S2.length,[.agg [x,y]],by omega,rfl,?_,gI.keep (fun q ys hq=>dJ _ _ hq (fun e=>by subst e;rw[e3]at hq;cases hq)) (gI.snoc (gI.nil S2) Aj)⟩;rw[aH (by omega)];simp
    ·have hq3:q≠3:=by omega
     have e4:=hkS _ _ lT;rw[tJ]at e3;have hrn:rs.length=n:=by rw[hr.1,tJ]
     have hap:∀ d:aX,(S2.set q d)[3]? = some (FH t (.own ER q n 0 n)):=fun d=>by rw[aH hq3];exact e3
     repeat' first|simp (disch:=omega) only[go_sem,au,aA,aB,e0,e1,e2,e3,p5,hap,hfit,zH,e4,tL,hrn]|refine aq ?_|refine ak ?_ ?_<;>intro hw<;>try omega|fail
     refine⟨(n+1,_),⟨by omega,bf (q:=fun j=>(n6 t j).2.2=0) h2 (by rw[hrow,uK,tL,WM]),?_,?_,?_,?_,.own ER q (n+1) 0 (n+1),?_,?_⟩,by dsimp only;omega,rfl,bJ,at_⟩
     ·dsimp only;simp;omega
     ·exact ei _ _ e0 (by omega) (by omega)
     ·exact ei _ _ e1 (by omega) (by omega)
     ·exact ei _ _ e2 (by omega) (by omega)
     ·dsimp only;rw[List.getElem?_set_self (by simp;omega)]
     ·dsimp only;rw[hrl];have Ah:gI S2 rs (vX t n):=hr.keep (fun q ys hq=>hkS _ _ hq);refine .inr ⟨by simp,q,rs++[.agg [x,y]],hq,by simp[tJ],?_,gI.keep (fun p ys hp=>ei _ _ hp (fun e=>by subst e;rw[e3]at hp;cases hp) (fun e=>by subst e;rw[e4]at hp;cases hp)) (gI.snoc Ah Aj)⟩;rw[aH (Ne.symm hq3),List.getElem?_set_self (dw e4)]
 ·obtain rfl:n=ls.length:=by omega
  have hva:([AV.str t.name,.aK false EC (t.ins.map bE),.aK false EC (t.outs.map bE),I t.bA,I t.agg,v].all AV.scalar)=true:=by simp only[List.all_cons,List.all_nil,hvs];rfl
  have hs1:∀ o,(S.set 1 o)[1]? = some o:=fun o=>List.getElem?_set_self (dw f1);repeat' first|simp (disch:=omega) only[go_sem,au,aA,aB,f0,f1,f2,f3,hva,hs1]|refine aq ?_|refine ak ?_ ?_<;>intro hw<;>try omega|fail
  have h5:=h4.keep (S':=S.set 1 (FH t v)) (fun q o hq hne=>by
   rw[List.getElem?_set_ne (fun e=>by subst e;rw[f1]at hq;cases hq;exact hne _ rfl)];exact hq)
  rw[<-hE,hco h2];exact bq (kT (View.nU (.cons (.refl _ rfl) (.cons (.refl _ (eT _)) (.cons (.refl _ (eT _)) (.cons (.refl _ rfl) (.cons (.refl _ rfl) (.cons h5.view (.nil _)))))))))
def ahP{σ : aj}{k:Nat}{w:AV}(h : σ[k]? = some (.cells [.ae,w]))(s:aJ)(e:Int): f_ Tryz.prog ld [.ref k 0,.str s,I e] σ fun o σ'=>o = .ret (.bool (e==0))/\σ'=(σ++[aX.vec E1 [.str s]]).set k (.cells [.own E1 σ.length 1 0 1,w]):=by
 have h2:∀ d:aX,(σ++[d])[k]? = some (.cells [.ae,w]):=fun d=>by rw[List.getElem?_append_left (dw h)];exact h
 refine pC (by simp) ?_;unfold nA aP;intro Q au aA aB;repeat' first|simp (disch:=omega) only[go_sem,au,aA,aB,h,h2]|refine aq ?_|refine ak ?_ ?_<;>intro hw<;>try omega|fail
 exact⟨rfl,by trivial⟩
def ahQ{σ : aj}{k:Nat}{w:AV}(h : σ[k]? = some (.cells [w,.ae]))(s:aJ)(e:Int): f_ Tryz.prog ld [.ref k 1,.str s,I e] σ fun o σ'=>o = .ret (.bool (e==0))/\σ'=(σ++[aX.vec E1 [.str s]]).set k (.cells [w,.own E1 σ.length 1 0 1]):=by
 have h2:∀ d:aX,(σ++[d])[k]? = some (.cells [w,.ae]):=fun d=>by rw[List.getElem?_append_left (dw h)];exact h
 refine pC (by simp) ?_;unfold nA aP;intro Q au aA aB;repeat' first|simp (disch:=omega) only[go_sem,au,aA,aB,h,h2]|refine aq ?_|refine ak ?_ ?_<;>intro hw<;>try omega|fail
 exact⟨rfl,by trivial⟩
def ahR{σ : aj}{k q:Nat}{xs:List aJ}{w:AV}(h : σ[k]? = some (.cells [.own E1 q xs.length 0 xs.length,w]))(hq : σ[q]? = some (.vec E1 (xs.map cS)))(hne:q≠k)(hl:xs.length<=2 ^ 30)(s:aJ)(e:Int): f_ Tryz.prog ld [.ref k 0,.str s,I e] σ fun o σ'=>o = .ret (.bool (e==0))/\σ'=(σ.set q (.vec E1 (xs.map cS++[.str s]))).set k (.cells [.own E1 q (xs.length+1) 0 (xs.length+1),w]):=by
 have h2:∀ d:aX,(σ.set q d)[k]? = some (.cells [.own E1 q xs.length 0 xs.length,w]):=fun d=>by rw[aH hne];exact h
 refine pC (by simp) ?_;unfold nA aP;intro Q au aA aB;repeat' first|simp (disch:=omega) only[go_sem,au,aA,aB,h,h2,hq]|refine aq ?_|refine ak ?_ ?_<;>intro hw<;>try omega|fail
 exact⟨rfl,by trivial⟩
def ahS{σ : aj}{k q:Nat}{xs:List aJ}{w:AV}(h : σ[k]? = some (.cells [w,.own E1 q xs.length 0 xs.length]))(hq : σ[q]? = some (.vec E1 (xs.map cS)))(hne:q≠k)(hl:xs.length<=2 ^ 30)(s:aJ)(e:Int): f_ Tryz.prog ld [.ref k 1,.str s,I e] σ fun o σ'=>o = .ret (.bool (e==0))/\σ'=(σ.set q (.vec E1 (xs.map cS++[.str s]))).set k (.cells [w,.own E1 q (xs.length+1) 0 (xs.length+1)]):=by
 have h2:∀ d:aX,(σ.set q d)[k]? = some (.cells [w,.own E1 q xs.length 0 xs.length]):=fun d=>by rw[aH hne];exact h
 refine pC (by simp) ?_;unfold nA aP;intro Q au aA aB;repeat' first|simp (disch:=omega) only[go_sem,au,aA,aB,h,h2,hq]|refine aq ?_|refine ak ?_ ?_<;>intro hw<;>try omega|fail
 exact⟨rfl,by trivial⟩
def fV{S:aj}{j:Nat}{o:aX}(h:S[j]? = some o)(d:aX): (S++[d])[j]? = some o:=by rw[List.getElem?_append_left (dw h)];exact h
def WN{S:aj}{j k:Nat}{o:aX}(h:S[j]? = some o)(hne:j≠k)(d:aX): (S.set k d)[j]? = some o:=by rw[aH (Ne.symm hne)];exact h
set_option maxHeartbeats 8000000 in
def WO(t:Table)(h:mh t): ai Tryz.prog yU [bS t] (Ze (iK t)):=by
 have cm:=X7 t h;obtain⟨E,hE⟩:∃ E,Ze (iK t)=E:=⟨_,rfl⟩;rw[hE];by_cases he:(eE t).2.2.2≠0
 ·have hc:=zG he;obtain⟨M,hM⟩:∃ M,eE t=M:=⟨_,rfl⟩;rw[hM]at cm hc he;simp only[Ty,xZ,bS,dy,bB,cW,Ac]at cm ⊢;refine ai.aG (Eu (by simp) ?_) (by simp);unfold y8 aP;intro Q au aA aB;repeat' first|refine aq ?_|refine aC cm ?_|refine ak ?_ ?_<;>intro hw<;>try omega|fail
  all_goals first
   | exact aY
   |(rw[<-hE,hc];exact bq (kT (lA _)))
 have LO:(eE t).2.2.2=0:=by omega
 obtain⟨hf,hl,hm⟩:=yj LO;obtain⟨hlen,hok⟩:=FG h LO;have Vy:=fun n=>Q3 (t:=t) LO (n:=n);have hco:=LN LO;obtain⟨ls,hls⟩:∃ ls,(eE t).1.lines=ls:=⟨_,rfl⟩;have uK:∀ n,Im t n=ls.getD n default:=fun n=>by rw[<-hls];rfl
 have eG:nO t t.rules.length=ls:=by rw[<-hls,hm]
 rw[hls]at hlen Vy hco;rw[hm,eG]at cm;have ady:=h.2.2.2.1;have aj3:=h.2.1.1;clear hm eG hl hf LO hls he;simp only[Ty,xZ,bS,dy,bB,cW,Ac]at cm ⊢;refine ai.aG (Eu (by simp) ?_) (by simp);unfold y8 aP;intro Q au aA aB;repeat' first|refine aq ?_|refine aC cm ?_|refine ak ?_ ?_<;>intro hw<;>try omega|fail
 all_goals first|exact aY|skip
 with_reducible refine bn [7,8,9,13,14,15,16,17,18,19,20,39,40,41,42,43,44,45,46,47,48,49,50,51,52,53,54,55,56,57,58,59,60,61,62,63,64,65,66,67,68,69,70,71,72,73,74,75,76,77,78,79,80,81,82,83,84,85,86,87,88,89,90,91,92,93,94,95,96,97,98] (fun q:Nat × aj=>[(39,I q.1),(9,I 0)]) (fun q=>q.2) (fun q=>q.1<=ls.length/\(∀ k,k<q.1->(n6 t k).2.2=0)/\5<=q.2.length/\q.2[0]? = some (FH t (.aK false ER (t.rules.map cN)))/\q.2[1]? = some (.cells [.str [],.ae,.ae,I 0,I 0,.ae])/\q.2[2]? = some (agp t ls)/\(∃ v,q.2[3]? = some (FH t v)/\tK 5 q.2 v (vX t q.1))/\ ∃ a b,q.2[4]? = some (.cells [a,b])) (fun q=>ls.length-q.1) (0,_) ⟨bP _,fun k hk=>by omega,by simp,rfl,rfl,rfl,⟨_,rfl,tK.nil _ _⟩,_,_,rfl⟩ rfl ?_ ?_
 ·exact at_
 rintro⟨n,S⟩ rr ⟨h1,h2,h3,f0,f1,f2,⟨v,f3,h4⟩,xa,xb,f4⟩;dsimp only at h1 h2 h3 f0 f1 f2 f3 h4 f4;have hvs:=h4.scalar;by_cases hn:n<ls.length
 ·have O0:=hok n;have hrow:n6 t n=DS t.ins.length (Im t n):=rfl;have sF:=Vy n hn h2;have hrl:=Q2 t n;rw[hrow,WK]at hrl;rw[hrow]at sF;rw[uK]at O0 sF hrl;obtain⟨l,tL⟩:∃ l,ls.getD n default=l:=⟨_,rfl⟩;rw[tL]at O0 sF hrl;obtain⟨⟨k1,k2⟩,k3,k4⟩:=O0;have f4a:∀ d:aX,(S++[d])[4]? = some (.cells [xa,xb]):=fun d=>fV f4 d;have hSl:(S++[aX.cells [.aK false EC (l.cells.map bH),.aK false EX (l.outs.map aL)]])[S.length]? = some (.cells [.aK false EC (l.cells.map bH),.aK false EX (l.outs.map aL)]):=Aw _ _;have agq:∀ d:aX,((S++[aX.cells [.aK false EC (l.cells.map bH),.aK false EX (l.outs.map aL)]]).set 4 d)[S.length]? = some (.cells [.aK false EC (l.cells.map bH),.aK false EX (l.outs.map aL)]):=fun d=>WN hSl (by omega) d;repeat' first|simp (disch:=omega) only[go_sem,au,aA,aB,f0,f1,f2,f3,f4,f4a,agq,tL]|refine aq ?_|refine ak ?_ ?_<;>intro hw<;>try omega|fail
  with_reducible refine bn [8,9,15,16,17,49,50,51,52,53,54,55,56,57,58,59,60,61,62,63,64,65,66] (fun q:Nat × aj=>[(49,I q.1),(9,I 0)]) (fun q=>q.2) (fun q=>q.1<=l.cells.length/\(∀ k,k<q.1->(kH l k).2=0)/\S.length<q.2.length/\(∀ j o,S[j]? = some o->j≠4->q.2[j]? = some o)/\q.2[S.length]? = some (.cells [.aK false EC (l.cells.map bH),.aK false EX (l.outs.map aL)])/\ ∃ x,q.2[4]? = some (.cells [x,.ae])/\nR (S.length+1) q.2 x (bF l q.1)) (fun q=>l.cells.length-q.1) (0,_) ⟨bP _,fun k hk=>by omega,by simp,fun j o hj hne=>WN (fV hj _) hne _,agq _,.ae,List.getElem?_set_self (dw (f4a _)),nR.nil _ _⟩ rfl ?_ ?_
  ·exact at_
  rintro⟨m,S1⟩ rr ⟨g1,g2,g3,g4,gl,x,g5,g6⟩;dsimp only at g1 g2 g3 g4 gl g5 g6;have e0:=g4 _ _ f0 (by omega);have e1:=g4 _ _ f1 (by omega);have e2:=g4 _ _ f2 (by omega);have e3:=g4 _ _ f3 (by omega);by_cases hml:m<l.cells.length
  ·have cT:ai Tryz.prog uX [bH (l.cells.getD m default)] (.bX [.str (kH l m).1,I (kH l m).2]):=abX _ (k2 _ (a_ hml));have hsc:=NJ l m;have hlm:=Il l m;have hce:=Tz t.ins.length hml g2;have hb2:=fun he=>bf (q:=fun j=>(kH l j).2=0) g2 he;obtain⟨a,ha⟩:∃ a,kH l m=a:=⟨_,rfl⟩;rw[ha]at cT hsc hce hb2;obtain⟨c,hc⟩:∃ c,l.cells.getD m default=c:=⟨_,rfl⟩;rw[hc]at cT;simp only[bH,fo]at cT;obtain⟨xs,hxs⟩:∃ xs,bF l m=xs:=⟨_,rfl⟩;rw[hxs]at g6 hsc hlm;rcases g6 with⟨rfl,rfl⟩|⟨hne,q,hq,rfl,lT⟩
   ·repeat' first|simp (disch:=omega) only[go_sem,au,aA,aB,e0,e1,e2,e3,gl,g5,tL,hc]|refine aq ?_|refine aC cT ?_|with_reducible refine cF (ahP (fV g5 _) _ _) ?_|refine ak ?_ ?_<;>intro hw<;>try omega|fail
    rintro o s ⟨rfl,rC⟩;have y1:s[1]? = some (.cells [.str [],.ae,.ae,I 0,I 0,.ae]):=by rw[rC];exact dJ _ _ (fV e1 _) (by omega)
    have hs1:∀ d,(s.set 1 d)[1]? = some d:=fun d=>List.getElem?_set_self (dw y1);repeat' first|simp (disch:=omega) only[go_sem,au,aA,aB,y1,hs1]|refine aq ?_|refine ak ?_ ?_<;>intro hw<;>try omega|fail
    ·rw[hce (by assumption)]at sF;rw[<-hE,sF (by assumption)];exact bq (kT (lA _))
    ·have ha0:a.2=0:=by assumption
     refine⟨(m+1,s),⟨by omega,hb2 ha0,?_,?_,?_,.own E1 (S1.length+1) 1 0 1,?_,?_⟩,by dsimp only;omega,rfl,bJ,(by simp only[ha0];simp (disch:=omega) only[dm,cK,and_true,go_sem,au,aA,aB,Int.natCast_add,Int.cast_ofNat_Int]<;>(try trivial)<;>(try omega)<;>(try (repeat (first|trivial|(refine And.intro ?_ ?_)|(congr 1;omega)))))⟩
     ·dsimp only;rw[rC];simp;omega
     ·intro j o hj hne;dsimp only;rw[rC];exact dJ j o (fV (g4 _ _ hj hne) _) hne
     ·dsimp only;rw[rC];exact dJ _ _ (fV gl _) (by omega)
     ·dsimp only;rw[rC,List.getElem?_set_self (by simp;omega)]
     ·dsimp only;rw[hsc,rC];have:=zu (S1:=S1++[aX.cells [.bool c.any,.bool c.neg,.aK false ES (c.tests.map bO)]]) (L:=S.length+1) (k:=4) (c:= .cells [.own E1 (S1++[aX.cells [.bool c.any,.bool c.neg,.aK false ES (c.tests.map bO)]]).length 1 0 1,.ae]) (s:=a.1) (by simp;omega) (by simp;omega);simpa using this
   ·have Al:q≠4:=by omega
    repeat' first|simp (disch:=omega) only[go_sem,au,aA,aB,e0,e1,e2,e3,gl,g5,tL,hc]|refine aq ?_|refine aC cT ?_|with_reducible refine cF (ahR (fV g5 _) (fV lT _) Al (by omega) _ _) ?_|refine ak ?_ ?_<;>intro hw<;>try omega|fail
    rintro o s ⟨rfl,rC⟩;have y1:s[1]? = some (.cells [.str [],.ae,.ae,I 0,I 0,.ae]):=by rw[rC];exact ei _ _ (fV e1 _) (by omega) (by omega)
    have hs1:∀ d,(s.set 1 d)[1]? = some d:=fun d=>List.getElem?_set_self (dw y1);repeat' first|simp (disch:=omega) only[go_sem,au,aA,aB,y1,hs1]|refine aq ?_|refine ak ?_ ?_<;>intro hw<;>try omega|fail
    ·rw[hce (by assumption)]at sF;rw[<-hE,sF (by assumption)];exact bq (kT (lA _))
    ·have ha0:a.2=0:=by assumption
     refine⟨(m+1,s),⟨by omega,hb2 ha0,?_,?_,?_,.own E1 q (xs.length+1) 0 (xs.length+1),?_,?_⟩,by dsimp only;omega,rfl,bJ,(by simp only[ha0];simp (disch:=omega) only[dm,cK,and_true,go_sem,au,aA,aB,Int.natCast_add,Int.cast_ofNat_Int]<;>(try trivial)<;>(try omega)<;>(try (repeat (first|trivial|(refine And.intro ?_ ?_)|(congr 1;omega)))))⟩
     ·dsimp only;rw[rC];simp;omega
     ·intro j o hj hne;dsimp only;have:=dw hj;rw[rC];exact ei j o (fV (g4 _ _ hj hne) _) hne (by omega)
     ·dsimp only;rw[rC];exact ei _ _ (fV gl _) (by omega) (by omega)
     ·dsimp only;rw[rC,List.getElem?_set_self (by simp;omega)]
     ·dsimp only;rw[hsc,rC];exact Co (fV lT _) hq (Ne.symm Al)
  ·obtain rfl:m=l.cells.length:=by omega
   have adz:=fun {k:Nat}=>WL t.ins.length g2 (m:=k);have adA:=Zf t.ins.length g2;repeat' first|simp (disch:=omega) only[go_sem,au,aA,aB,e0,e1,e2,e3,gl,g5,tL]|refine aq ?_|refine ak ?_ ?_<;>intro hw<;>try omega|fail
   with_reducible refine bn [8,9,18,19,20,70,71,72,73,74,75,76,77,78,79,80,81,82,83,84,85,86,87,88,89,90,91] (fun q:Nat × aj=>[(70,I q.1),(9,I 0)]) (fun q=>q.2) (fun q=>q.1<=l.outs.length/\(∀ k,k<q.1->(nP l k).2=0)/\S1.length<=q.2.length/\(∀ j o,S1[j]? = some o->j≠4->q.2[j]? = some o)/\ ∃ y,q.2[4]? = some (.cells [x,y])/\nR S1.length q.2 y (qL l q.1)) (fun q=>l.outs.length-q.1) (0,_) ⟨bP _,fun k hk=>by omega,Nat.le_refl _,fun j o hj _=>hj,_,g5,nR.nil _ _⟩ rfl ?_ ?_
   ·exact at_
   rintro⟨m,S2⟩ rr ⟨p1,p2,p3,p4,y,p5,p6⟩;dsimp only at p1 p2 p3 p4 p5 p6;have e0:=p4 _ _ e0 (by omega);have e1:=p4 _ _ e1 (by omega);have e2:=p4 _ _ e2 (by omega);have e3:=p4 _ _ e3 (by omega);have gl:=p4 _ _ gl (by omega);have hS2:S.length<S2.length:=by omega
   by_cases hml:m<l.outs.length
   ·have cT:ai Tryz.prog n_ [aL (l.outs.getD m default)] (.bX [.str (nP l m).1,I (nP l m).2]):=NH _ (k4 _ (a_ hml)).1 (k4 _ (a_ hml)).2;have hsc:=Q1 l m;have hlm:=LM l m;have hce:=adz hml p2;have hb2:=fun he=>bf (q:=fun j=>(nP l j).2=0) p2 he;obtain⟨a,ha⟩:∃ a,nP l m=a:=⟨_,rfl⟩;rw[ha]at cT hsc hce hb2;obtain⟨c,hc⟩:∃ c,l.outs.getD m default=c:=⟨_,rfl⟩;rw[hc,aR]at cT;obtain⟨xs,hxs⟩:∃ xs,qL l m=xs:=⟨_,rfl⟩;rw[hxs]at p6 hsc hlm;rcases p6 with⟨rfl,rfl⟩|⟨hne,q,hq,rfl,lT⟩
    ·have e0':=fun d=>fV e0 d;repeat' first|simp (disch:=omega) only[go_sem,au,aA,aB,e0,e0',e1,e2,e3,gl,p5,tL,hc]|refine aq ?_|refine aC cT ?_|with_reducible refine cF (ahQ (fV p5 _) _ _) ?_|refine ak ?_ ?_<;>intro hw<;>try omega|fail
     rintro o s ⟨rfl,rC⟩;have y1:s[1]? = some (.cells [.str [],.ae,.ae,I 0,I 0,.ae]):=by rw[rC];exact dJ _ _ (fV e1 _) (by omega)
     have hs1:∀ d,(s.set 1 d)[1]? = some d:=fun d=>List.getElem?_set_self (dw y1);repeat' first|simp (disch:=omega) only[go_sem,au,aA,aB,y1,hs1]|refine aq ?_|refine ak ?_ ?_<;>intro hw<;>try omega|fail
     ·rw[hce (by assumption)]at sF;rw[<-hE,sF (by assumption)];exact bq (kT (lA _))
     ·have ha0:a.2=0:=by assumption
      refine⟨(m+1,s),⟨by omega,hb2 ha0,?_,?_,.own E1 (S2.length+1) 1 0 1,?_,?_⟩,by dsimp only;omega,rfl,bJ,(by simp only[ha0];simp (disch:=omega) only[dm,cK,and_true,go_sem,au,aA,aB,Int.natCast_add,Int.cast_ofNat_Int]<;>(try trivial)<;>(try omega)<;>(try (repeat (first|trivial|(refine And.intro ?_ ?_)|(congr 1;omega)))))⟩
      ·dsimp only;rw[rC];simp;omega
      ·intro j o hj hne;dsimp only;rw[rC];exact dJ j o (fV (p4 _ _ hj hne) _) hne
      ·dsimp only;rw[rC,List.getElem?_set_self (by simp;omega)]
      ·dsimp only;rw[hsc,rC];have:=zu (S1:=S2++[aX.cells [I c.op,I c.v.kind,I c.v.n,.str c.v.s,.str c.s,.aK false EX (c.l.map aL)]]) (L:=S1.length) (k:=4) (c:= .cells [x,.own E1 (S2++[aX.cells [I c.op,I c.v.kind,I c.v.n,.str c.v.s,.str c.s,.aK false EX (c.l.map aL)]]).length 1 0 1]) (s:=a.1) (by simp;omega) (by simp;omega);simpa using this
    ·have Al:q≠4:=by omega
     have e0':=fun d=>fV e0 d;repeat' first|simp (disch:=omega) only[go_sem,au,aA,aB,e0,e0',e1,e2,e3,gl,p5,tL,hc]|refine aq ?_|refine aC cT ?_|with_reducible refine cF (ahS (fV p5 _) (fV lT _) Al (by omega) _ _) ?_|refine ak ?_ ?_<;>intro hw<;>try omega|fail
     rintro o s ⟨rfl,rC⟩;have y1:s[1]? = some (.cells [.str [],.ae,.ae,I 0,I 0,.ae]):=by rw[rC];exact ei _ _ (fV e1 _) (by omega) (by omega)
     have hs1:∀ d,(s.set 1 d)[1]? = some d:=fun d=>List.getElem?_set_self (dw y1);repeat' first|simp (disch:=omega) only[go_sem,au,aA,aB,y1,hs1]|refine aq ?_|refine ak ?_ ?_<;>intro hw<;>try omega|fail
     ·rw[hce (by assumption)]at sF;rw[<-hE,sF (by assumption)];exact bq (kT (lA _))
     ·have ha0:a.2=0:=by assumption
      refine⟨(m+1,s),⟨by omega,hb2 ha0,?_,?_,.own E1 q (xs.length+1) 0 (xs.length+1),?_,?_⟩,by dsimp only;omega,rfl,bJ,(by simp only[ha0];simp (disch:=omega) only[dm,cK,and_true,go_sem,au,aA,aB,Int.natCast_add,Int.cast_ofNat_Int]<;>(try trivial)<;>(try omega)<;>(try (repeat (first|trivial|(refine And.intro ?_ ?_)|(congr 1;omega)))))⟩
      ·dsimp only;rw[rC];simp;omega
      ·intro j o hj hne;dsimp only;have:=dw hj;rw[rC];exact ei j o (fV (p4 _ _ hj hne) _) hne (by omega)
      ·dsimp only;rw[rC,List.getElem?_set_self (by simp;omega)]
      ·dsimp only;rw[hsc,rC];exact Co (fV lT _) hq (Ne.symm Al)
   ·obtain rfl:m=l.outs.length:=by omega
    have WM:=adA p2;have Kk:nR (S.length+1) S2 x (bF l l.cells.length):=g6.keep (Nat.le_refl _) (fun q ys hq lT=>p4 q _ lT (by omega));have hxs:=Kk.scalar;have hys:=p6.scalar;have Aj:Sr S2 (.agg [x,y]) ⟨bF l l.cells.length,qL l l.outs.length⟩:=⟨x,y,rfl,Kk.keep (bP _) (fun _ _ _ h=>h),p6.keep (bP _) (fun _ _ _ h=>h)⟩;have hfit:([AV.agg [x,y]].all fun a=>AV.fits ⟨true,2⟩ a)=true:=by simp only[AV.fits,List.length_cons,List.length_nil,List.all_cons,List.all_nil,hxs,hys];rfl
    have zH:AV.fits ⟨true,2⟩ (.agg [x,y])=true:=by simpa using hfit
    have hkS:∀ (q:Nat) (o:aX),S[q]? = some o->q≠4->S2[q]? = some o:=fun q o hq hne=>p4 q o (g4 q o hq hne) hne;rcases h4 with⟨h4,rfl⟩|⟨h4,q,rs,hq,rfl,lT,hr⟩
    ·have hap:∀ d:aX,(S2++[d])[3]? = some (FH t .ae):=fun d=>fV e3 d;repeat' first|simp (disch:=omega) only[go_sem,au,aA,aB,e0,e1,e2,e3,p5,hap,hfit,zH,tL]|refine aq ?_|refine ak ?_ ?_<;>intro hw<;>try omega|fail
     refine⟨(n+1,_),⟨by omega,bf (q:=fun j=>(n6 t j).2.2=0) h2 (by rw[hrow,uK,tL,WM]),?_,?_,?_,?_,⟨.own ER S2.length 1 0 1,?_,?_⟩,x,y,?_⟩,by dsimp only;omega,rfl,bJ,at_⟩
     ·dsimp only;simp;omega
     ·exact dJ _ _ e0 (by omega)
     ·exact dJ _ _ e1 (by omega)
     ·exact dJ _ _ e2 (by omega)
     ·dsimp only;rw[List.getElem?_set_self (by simp;omega)]
     ·dsimp only;rw[hrl,h4];refine .inr ⟨by simp,S2.length,[.agg [x,y]],by omega,rfl,?_,gI.keep (fun q ys hq=>dJ _ _ hq (fun e=>by subst e;rw[e3]at hq;cases hq)) (gI.snoc (gI.nil S2) Aj)⟩;rw[aH (by omega)];simp
     ·exact dJ _ _ p5 (by omega)
    ·have hq3:q≠3:=by omega
     have e4:=hkS _ _ lT (by omega);rw[tJ]at e3;have hrn:rs.length=n:=by rw[hr.1,tJ]
     have hap:∀ d:aX,(S2.set q d)[3]? = some (FH t (.own ER q n 0 n)):=fun d=>by rw[aH hq3];exact e3
     repeat' first|simp (disch:=omega) only[go_sem,au,aA,aB,e0,e1,e2,e3,p5,hap,hfit,zH,e4,tL,hrn]|refine aq ?_|refine ak ?_ ?_<;>intro hw<;>try omega|fail
     refine⟨(n+1,_),⟨by omega,bf (q:=fun j=>(n6 t j).2.2=0) h2 (by rw[hrow,uK,tL,WM]),?_,?_,?_,?_,⟨.own ER q (n+1) 0 (n+1),?_,?_⟩,x,y,?_⟩,by dsimp only;omega,rfl,bJ,at_⟩
     ·dsimp only;simp;omega
     ·exact ei _ _ e0 (by omega) (by omega)
     ·exact ei _ _ e1 (by omega) (by omega)
     ·exact ei _ _ e2 (by omega) (by omega)
     ·dsimp only;rw[List.getElem?_set_self (by simp;omega)]
     ·dsimp only;rw[hrl];have Ah:gI S2 rs (vX t n):=hr.keep (fun q ys hq=>hkS _ _ hq (fun e=>by subst e;rw[f4]at hq;cases hq));refine .inr ⟨by simp,q,rs++[.agg [x,y]],hq,by simp[tJ],?_,gI.keep (fun p ys hp=>ei _ _ hp (fun e=>by subst e;rw[e3]at hp;cases hp) (fun e=>by subst e;rw[e4]at hp;cases hp)) (gI.snoc Ah Aj)⟩;rw[aH (Ne.symm hq3),List.getElem?_set_self (dw e4)]
     ·exact ei _ _ p5 (by omega) (by omega)
 ·obtain rfl:n=ls.length:=by omega
  have hva:([AV.str t.name,.aK false EC (t.ins.map bE),.aK false EC (t.outs.map bE),I t.bA,I t.agg,v].all AV.scalar)=true:=by simp only[List.all_cons,List.all_nil,hvs];rfl
  have hs1:∀ o,(S.set 1 o)[1]? = some o:=fun o=>List.getElem?_set_self (dw f1);repeat' first|simp (disch:=omega) only[go_sem,au,aA,aB,f0,f1,f2,f3,hva,hs1]|refine aq ?_|refine ak ?_ ?_<;>intro hw<;>try omega|fail
  have h5:=h4.keep (S':=S.set 1 (FH t v)) (fun q o hq hne=>by
   rw[List.getElem?_set_ne (fun e=>by subst e;rw[f1]at hq;cases hq;exact hne _ rfl)];exact hq)
  rw[<-hE,hco h2];exact bq (kT (View.nU (.cons (.refl _ rfl) (.cons (.refl _ (eT _)) (.cons (.refl _ (eT _)) (.cons (.refl _ rfl) (.cons (.refl _ rfl) (.cons h5.view (.nil _)))))))))
end Go.Proofs.YtmbgnaoilncbnaaGreatDoor
