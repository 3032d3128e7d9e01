/- Part. -/
import Derived.Test.YtcjcnfcedihckaaGreatDoorV30
set_option linter.all false
set_option maxHeartbeats 8000000
namespace Go.Proofs.YtcjcnfcedihckaaGreatDoor
open Go.AM
set_option maxRecDepth 4000
def nT(σ : ae): View σ (.agg [.str [],.ai,.ai,I 0,I 0,.ai]) (cD fh) :=
 View.om (.cons (.refl _ rfl) (.cons (.ai _) (.cons (.ai _) (.cons (.refl _ rfl) (.cons (.refl _ rfl) (.cons (.ai _) (.nil _)))))))
abbrev xF(t:Table)(v:AV): bx:= .cells [.str t.name,.aF false EC (t.ins.map bF),.aF false EC (t.outs.map bF),I t.aZ,I t.agg,v]
abbrev aaj(t:Table)(ls:List j4): bx:= .cells [.str t.name,.aF false EC (t.ins.map bF),.aF false EC (t.outs.map bF),I t.aZ,I t.agg,.aF false ER (t.rules.map cn),.aF false ER (ls.map kN)]
def zL{S1:ae}{L k:Nat}{c:bx}{s:aG}(hL:L<=S1.length)(hk:k<S1.length): oK L ((S1++[bx.vec E1 [.str s]]).set k c) (.own E1 S1.length 1 0 1) [s] :=
 .inr ⟨by simp,S1.length,hL,rfl,by rw[List.getElem?_set_ne (by omega)];simp[bj]⟩
def C4{S1:ae}{L k q:Nat}{c:bx}{s:aG}{xs:List aG}(hq:S1[q]? = some (.vec E1 (xs.map bj)))(hL:L<=q)(hk:k≠q): oK L ((S1.set q (.vec E1 (xs.map bj++[.str s]))).set k c) (.own E1 q (xs.length+1) 0 (xs.length+1)) (xs++[s]) :=
 .inr ⟨by simp,q,hL,by simp,by rw[List.getElem?_set_ne hk,List.getElem?_set_self (ey hq)];simp[bj]⟩
def gx{S1:ae}{k:Nat}{c d:bx}(j:Nat)(o:bx)(hj:S1[j]? = some o)(hne:j≠k): ((S1++[d]).set k c)[j]? = some o:=by
 rw[List.getElem?_set_ne (Ne.symm hne),aN (ey hj)];exact hj
def iD{S1:ae}{k q:Nat}{c d:bx}(j:Nat)(o:bx)(hj:S1[j]? = some o)(hne:j≠k)(hq:j≠q): ((S1.set q d).set k c)[j]? = some o:=by
 rw[List.getElem?_set_ne (Ne.symm hne),List.getElem?_set_ne (Ne.symm hq)];exact hj
def O7(t:Table)(h:l7 t): aH aE 93 [cD t] (Qm (fC t)):=by
 have cm:=R1 t h;obtain⟨E,hE⟩:∃ E,Qm (fC t)=E:=⟨_,rfl⟩;rw[hE];by_cases he:(dR t).2.2.2≠0
 ·have hc:=tu he;obtain⟨M,hM⟩:∃ M,dR t=M:=⟨_,rfl⟩;rw[hM]at cm hc he;simp only[Ke,vK,cD,fg,bP,dV,yf]at cm ⊢;refine aJ xX ?_;intro Q au aA aB;repeat' first|refine aq ?_|refine ak ?_ ?_<;>intro hw<;>try omega|fail
  all_goals first
   | exact bh
   |(rw[<-hE,hc];exact bG (jW (nT _)))
 have Cg:(dR t).2.2.2=0:=by omega
 obtain⟨hf,hl,hm⟩:=pz Cg;obtain⟨hlen,hok⟩:=xE h Cg;have Mc:=fun n=>Hf (t:=t) Cg (n:=n);have Ub:=Cf Cg;obtain⟨ls,hls⟩:∃ ls,(dR t).1.lines=ls:=⟨_,rfl⟩;have jY:∀ n,uP t n=ls.getD n default:=fun n=>by rw[<-hls];rfl
 have eo:lF t t.rules.length=ls:=by rw[<-hls,hm]
 rw[hls]at hlen Mc Ub;rw[hm,eo]at cm;have V7:=h.2.2.2.1;have adN:=h.2.1.1;clear hm eo hl hf Cg hls he;simp only[Ke,vK,cD,fg,bP,dV,yf]at cm ⊢;refine aJ xX ?_;intro Q au aA aB;repeat' first|refine aq ?_|refine ak ?_ ?_<;>intro hw<;>try omega|fail
 all_goals first|exact bh|skip
 with_reducible refine bn [3,4,5,11,12,13,14,15,16,17,18,34,35,36,37,38,39,40,41,42,43,44,45,46,47,48,49,50,51,52,53,54,55,56,57,58,59,60,61,62,63,64,65,66,67,68,69,70,71,72,73,74,75,76,77,78,79,80,81,82,83,84,85,86,87,88,89,90,91,92,93,94,95,96,97,98,99,100,101,102,103,104,105,106,107,108,109,110,111,112,113,114,115,116,117,118,119,120,121,122,123] (fun q:Nat × ae=>[(11,I q.1)]) (fun q=>q.2) (fun q=>q.1<=ls.length/\(∀ k,k<q.1->(kQ t k).2.2=0)/\4<=q.2.length/\q.2[0]? = some (xF t (.aF false ER (t.rules.map cn)))/\q.2[1]? = some (.cells [.str [],.ai,.ai,I 0,I 0,.ai])/\q.2[2]? = some (aaj t ls)/\ ∃ v,q.2[3]? = some (xF t v)/\s4 4 q.2 v (n7 t q.1)) (fun q=>ls.length-q.1) (0,_) ⟨bD _,fun k hk=>by omega,by simp,rfl,rfl,rfl,_,rfl,s4.nil _ _⟩ rfl ?_ ?_
 ·exact at_
 rintro⟨n,S⟩ rr ⟨h1,h2,h3,f0,f1,f2,v,f3,h4⟩;dsimp only at h1 h2 h3 f0 f1 f2 f3 h4;have hvs:=h4.scalar;by_cases hn:n<ls.length
 ·have Fc:=hok n;have hrow:kQ t n=vY t.ins.length (uP t n):=rfl;have n8:=Mc n hn h2;have mF:=He t n;rw[hrow,Ce]at mF;rw[hrow]at n8;rw[jY]at Fc n8 mF;obtain⟨l,oL⟩:∃ l,ls.getD n default=l:=⟨_,rfl⟩;rw[oL]at Fc n8 mF;obtain⟨⟨k1,k2⟩,k3,k4⟩:=Fc;repeat' first|simp (disch:=omega) only[go_sem,au,aA,aB,f0,f1,f2,f3,oL]|refine aq ?_|refine ak ?_ ?_<;>intro hw<;>try omega|fail
  with_reducible refine bn [3,4,5,13,14,15,42,43,44,45,46,47,48,49,50,51,52,53,54,55,56,57,58,59,60,61,62,63,64,65,66,67,68,69,70,71,72,73,74,75,76,77] (fun q:Nat × ae=>[(13,I q.1)]) (fun q=>q.2) (fun q=>q.1<=l.cells.length/\(∀ k,k<q.1->(jR l k).2=0)/\S.length<q.2.length/\(∀ j o,S[j]? = some o->q.2[j]? = some o)/\ ∃ x,q.2[S.length]? = some (.cells [x,.ai])/\oK (S.length+1) q.2 x (bM l q.1)) (fun q=>l.cells.length-q.1) (0,_) ⟨bD _,fun k hk=>by omega,by simp,fun j o hj=>by rw[aN (ey hj)];exact hj,_,Ac _ _,oK.nil _ _⟩ rfl ?_ ?_
  ·exact at_
  rintro⟨m,S1⟩ rr ⟨g1,g2,g3,g4,x,g5,g6⟩;dsimp only at g1 g2 g3 g4 g5 g6;have e0:=g4 _ _ f0;have e1:=g4 _ _ f1;have e2:=g4 _ _ f2;have e3:=g4 _ _ f3;have hs1:∀ o,(S1.set 1 o)[1]? = some o:=fun o=>List.getElem?_set_self (ey e1);by_cases hml:m<l.cells.length
  ·have cT:aH aE 134 [bK (l.cells.getD m default)] (.bJ [.str (jR l m).1,I (jR l m).2]):=RX _ (k2 _ (aV hml));have hsc:=DU l m;have kG:=uO l m;have hce:=Kf t.ins.length hml g2;have eN:=fun he=>aY (q:=fun j=>(jR l j).2=0) g2 he;obtain⟨a,ha⟩:∃ a,jR l m=a:=⟨_,rfl⟩;rw[ha]at cT hsc hce eN;obtain⟨c,hc⟩:∃ c,l.cells.getD m default=c:=⟨_,rfl⟩;rw[hc]at cT;simp only[bK,eV]at cT;obtain⟨xs,hxs⟩:∃ xs,bM l m=xs:=⟨_,rfl⟩;rw[hxs]at g6 hsc kG;rcases g6 with⟨rfl,rfl⟩|⟨hne,q,hq,rfl,rT⟩
   ·have hap:∀ d:bx,(S1++[d])[S.length]? = some (.cells [.ai,.ai]):=fun d=>by rw[aN (ey g5)];exact g5
    repeat' first|simp (disch:=omega) only[go_sem,au,aA,aB,e0,e1,e2,e3,hs1,g5,hap,oL,hc]|refine aq ?_|refine ak ?_ ?_<;>intro hw<;>try omega|fail
    ·rw[hce (by assumption)]at n8;rw[<-hE,n8 (by assumption)];exact bG (jW (nT _))
    ·refine⟨(m+1,_),⟨by omega,eN (by assumption),?_,?_,.own E1 S1.length 1 0 1,?_,?_⟩,by dsimp only;omega,rfl,bL,at_⟩
     ·dsimp only;simp;omega
     ·intro j o hj;dsimp only;exact gx j o (g4 _ _ hj) (by have:=ey hj;omega)
     ·dsimp only;rw[List.getElem?_set_self (by simp;omega)]
     ·dsimp only;rw[hsc];exact zL (by omega) (by omega)
   ·have Ch:q≠S.length:=by omega
    have hap:∀ d:bx,(S1.set q d)[S.length]? = some (.cells [.own E1 q xs.length 0 xs.length,.ai]):=fun d=>by rw[List.getElem?_set_ne Ch];exact g5
    repeat' first|simp (disch:=omega) only[go_sem,au,aA,aB,e0,e1,e2,e3,hs1,g5,hap,oL,hc,rT]|refine aq ?_|refine ak ?_ ?_<;>intro hw<;>try omega|fail
    ·rw[hce (by assumption)]at n8;rw[<-hE,n8 (by assumption)];exact bG (jW (nT _))
    ·refine⟨(m+1,_),⟨by omega,eN (by assumption),?_,?_,.own E1 q (xs.length+1) 0 (xs.length+1),?_,?_⟩,by dsimp only;omega,rfl,bL,at_⟩
     ·dsimp only;simp;omega
     ·intro j o hj;dsimp only;have:=ey hj;exact iD j o (g4 _ _ hj) (by omega) (by omega)
     ·dsimp only;rw[List.getElem?_set_self (by simp;omega)]
     ·dsimp only;rw[hsc];exact C4 rT hq (Ne.symm Ch)
  ·obtain rfl:m=l.cells.length:=by omega
   have V8:=fun {k:Nat}=>Ns t.ins.length g2 (m:=k);have V9:=Qn t.ins.length g2;repeat' first|simp (disch:=omega) only[go_sem,au,aA,aB,e0,e1,e2,e3,g5,oL]|refine aq ?_|refine ak ?_ ?_<;>intro hw<;>try omega|fail
   with_reducible refine bn [3,4,5,16,17,18,78,79,80,81,82,83,84,85,86,87,88,89,90,91,92,93,94,95,96,97,98,99,100,101,102,103,104,105,106,107,108,109,110,111,112,113,114,115,116,117] (fun q:Nat × ae=>[(16,I q.1)]) (fun q=>q.2) (fun q=>q.1<=l.outs.length/\(∀ k,k<q.1->(lG l k).2=0)/\S1.length<=q.2.length/\(∀ j o,S1[j]? = some o->j≠S.length->q.2[j]? = some o)/\ ∃ y,q.2[S.length]? = some (.cells [x,y])/\oK S1.length q.2 y (nw l q.1)) (fun q=>l.outs.length-q.1) (0,_) ⟨bD _,fun k hk=>by omega,Nat.le_refl _,fun j o hj _=>hj,_,g5,oK.nil _ _⟩ rfl ?_ ?_
   ·exact at_
   rintro⟨m,S2⟩ rr ⟨p1,p2,p3,p4,y,p5,p6⟩;dsimp only at p1 p2 p3 p4 p5 p6;have e0:=p4 _ _ e0 (by omega);have e1:=p4 _ _ e1 (by omega);have e2:=p4 _ _ e2 (by omega);have e3:=p4 _ _ e3 (by omega);have hs1:∀ o,(S2.set 1 o)[1]? = some o:=fun o=>List.getElem?_set_self (ey e1);by_cases hml:m<l.outs.length
   ·have cT:aH aE 135 [aI (l.outs.getD m default)] (.bJ [.str (lG l m).1,I (lG l m).2]):=zG _ (k4 _ (aV hml)).1 (k4 _ (aV hml)).2;have hsc:=G_ l m;have kG:=w7 l m;have hce:=V8 hml p2;have eN:=fun he=>aY (q:=fun j=>(lG l j).2=0) p2 he;obtain⟨a,ha⟩:∃ a,lG l m=a:=⟨_,rfl⟩;rw[ha]at cT hsc hce eN;obtain⟨c,hc⟩:∃ c,l.outs.getD m default=c:=⟨_,rfl⟩;rw[hc,aO]at cT;obtain⟨xs,hxs⟩:∃ xs,nw l m=xs:=⟨_,rfl⟩;rw[hxs]at p6 hsc kG;rcases p6 with⟨rfl,rfl⟩|⟨hne,q,hq,rfl,rT⟩
    ·have hap:∀ d:bx,(S2++[d])[S.length]? = some (.cells [x,.ai]):=fun d=>by rw[aN (ey p5)];exact p5
     repeat' first|simp (disch:=omega) only[go_sem,au,aA,aB,e0,e1,e2,e3,hs1,p5,hap,oL,hc]|refine aq ?_|refine ak ?_ ?_<;>intro hw<;>try omega|fail
     all_goals first
      | (rw [hce (by assumption)] at n8
         rw[<-hE,n8 (by assumption)];exact bG (jW (nT _)))
      | skip
     ·refine⟨(m+1,_),⟨by omega,eN (by assumption),?_,?_,.own E1 S2.length 1 0 1,?_,?_⟩,by dsimp only;omega,rfl,bL,at_⟩
      ·dsimp only;simp;omega
      ·intro j o hj hne;dsimp only;exact gx j o (p4 _ _ hj hne) hne
      ·dsimp only;rw[List.getElem?_set_self (by simp;omega)]
      ·dsimp only;rw[hsc];exact zL (by omega) (by omega)
    ·have Ch:q≠S.length:=by omega
     have hap:∀ d:bx,(S2.set q d)[S.length]? = some (.cells [x,.own E1 q xs.length 0 xs.length]):=fun d=>by rw[List.getElem?_set_ne Ch];exact p5
     repeat' first|simp (disch:=omega) only[go_sem,au,aA,aB,e0,e1,e2,e3,hs1,p5,hap,oL,hc,rT]|refine aq ?_|refine ak ?_ ?_<;>intro hw<;>try omega|fail
     all_goals first
      | (rw [hce (by assumption)] at n8
         rw[<-hE,n8 (by assumption)];exact bG (jW (nT _)))
      | skip
     ·refine⟨(m+1,_),⟨by omega,eN (by assumption),?_,?_,.own E1 q (xs.length+1) 0 (xs.length+1),?_,?_⟩,by dsimp only;omega,rfl,bL,at_⟩
      ·dsimp only;simp;omega
      ·intro j o hj hne;dsimp only;have:=ey hj;exact iD j o (p4 _ _ hj hne) hne (by omega)
      ·dsimp only;rw[List.getElem?_set_self (by simp;omega)]
      ·dsimp only;rw[hsc];exact C4 rT hq (Ne.symm Ch)
   ·obtain rfl:m=l.outs.length:=by omega
    have Nt:=V9 p2;have Mg:oK (S.length+1) S2 x (bM l l.cells.length):=g6.keep (Nat.le_refl _) (fun q ys hq rT=>p4 q _ rT (by omega));have hxs:=Mg.scalar;have hys:=p6.scalar;have Ca:R2 S2 (.agg [x,y]) ⟨bM l l.cells.length,nw l l.outs.length⟩:=⟨x,y,rfl,Mg.keep (bD _) (fun _ _ _ h=>h),p6.keep (bD _) (fun _ _ _ h=>h)⟩;have hfit:([AV.agg [x,y]].all fun a=>AV.fits ⟨true,2⟩ a)=true:=by simp only[AV.fits,List.length_cons,List.length_nil,List.all_cons,List.all_nil,hxs,hys];rfl
    have Hg:AV.fits ⟨true,2⟩ (.agg [x,y])=true:=by simpa using hfit
    have Uc:∀ (q:Nat) (o:bx),S[q]? = some o->S2[q]? = some o:=fun q o hq=>p4 q o (g4 q o hq) (by have:=ey hq;omega);have hS2:S.length<S2.length:=by omega
    rcases h4 with⟨h4,rfl⟩|⟨h4,q,rs,hq,rfl,rT,hr⟩
    ·have hap:∀ d:bx,(S2++[d])[3]? = some (xF t .ai):=fun d=>by rw[aN (ey e3)];exact e3
     repeat' first|simp (disch:=omega) only[go_sem,au,aA,aB,e0,e1,e2,e3,p5,hap,hfit,Hg,oL]|refine aq ?_|refine ak ?_ ?_<;>intro hw<;>try omega|fail
     refine⟨(n+1,_),⟨by omega,aY (q:=fun j=>(kQ t j).2.2=0) h2 (by rw[hrow,jY,oL,Nt]),?_,?_,?_,?_,.own ER S2.length 1 0 1,?_,?_⟩,by dsimp only;omega,rfl,bL,at_⟩
     ·dsimp only;simp;omega
     ·exact gx _ _ e0 (by omega)
     ·exact gx _ _ e1 (by omega)
     ·exact gx _ _ e2 (by omega)
     ·dsimp only;rw[List.getElem?_set_self (by simp;omega)]
     ·dsimp only;rw[mF,h4];refine .inr ⟨by simp,S2.length,[.agg [x,y]],by omega,rfl,?_,jS.keep (fun q ys hq=>gx _ _ hq (fun e=>by subst e;rw[e3]at hq;cases hq)) (jS.snoc (jS.nil S2) Ca)⟩;rw[List.getElem?_set_ne (by omega)];simp
    ·have Ud:q≠3:=by omega
     have e4:=Uc _ _ rT;rw[oJ]at e3;have hrn:rs.length=n:=by rw[hr.1,oJ]
     have hap:∀ d:bx,(S2.set q d)[3]? = some (xF t (.own ER q n 0 n)):=fun d=>by rw[List.getElem?_set_ne Ud];exact e3
     repeat' first|simp (disch:=omega) only[go_sem,au,aA,aB,e0,e1,e2,e3,p5,hap,hfit,Hg,e4,oL,hrn]|refine aq ?_|refine ak ?_ ?_<;>intro hw<;>try omega|fail
     refine⟨(n+1,_),⟨by omega,aY (q:=fun j=>(kQ t j).2.2=0) h2 (by rw[hrow,jY,oL,Nt]),?_,?_,?_,?_,.own ER q (n+1) 0 (n+1),?_,?_⟩,by dsimp only;omega,rfl,bL,at_⟩
     ·dsimp only;simp;omega
     ·exact iD _ _ e0 (by omega) (by omega)
     ·exact iD _ _ e1 (by omega) (by omega)
     ·exact iD _ _ e2 (by omega) (by omega)
     ·dsimp only;rw[List.getElem?_set_self (by simp;omega)]
     ·dsimp only;rw[mF];have yx:jS S2 rs (n7 t n):=hr.keep (fun q ys hq=>Uc _ _ hq);refine .inr ⟨by simp,q,rs++[.agg [x,y]],hq,by simp[oJ],?_,jS.keep (fun p ys hp=>iD _ _ hp (fun e=>by subst e;rw[e3]at hp;cases hp) (fun e=>by subst e;rw[e4]at hp;cases hp)) (jS.snoc yx Ca)⟩;rw[List.getElem?_set_ne (Ne.symm Ud),List.getElem?_set_self (ey e4)]
 ·obtain rfl:n=ls.length:=by omega
  have hva:([AV.str t.name,.aF false EC (t.ins.map bF),.aF false EC (t.outs.map bF),I t.aZ,I t.agg,v].all AV.scalar)=true:=by simp only[List.all_cons,List.all_nil,hvs];rfl
  have hs1:∀ o,(S.set 1 o)[1]? = some o:=fun o=>List.getElem?_set_self (ey f1);repeat' first|simp (disch:=omega) only[go_sem,au,aA,aB,f0,f1,f2,f3,hva,hs1]|refine aq ?_|refine ak ?_ ?_<;>intro hw<;>try omega|fail
  have h5:=h4.keep (S':=S.set 1 (xF t v)) (fun q o hq hne=>by
   rw[List.getElem?_set_ne (fun e=>by subst e;rw[f1]at hq;cases hq;exact hne _ rfl)];exact hq)
  rw[<-hE,Ub h2];exact bG (jW (View.om (.cons (.refl _ rfl) (.cons (.refl _ (e8 _)) (.cons (.refl _ (e8 _)) (.cons (.refl _ rfl) (.cons (.refl _ rfl) (.cons h5.view (.nil _)))))))))
def abG{σ : ae}{k:Nat}{w:AV}(h : σ[k]? = some (.cells [.ai,w]))(s:aG)(e:Int): dK aE 114 [.ref k 0,.str s,I e] σ fun o σ'=>o = .ret (.bool (e==0))/\σ'=(σ++[bx.vec E1 [.str s]]).set k (.cells [.own E1 σ.length 1 0 1,w]):=by
 have h2:∀ d:bx,(σ++[d])[k]? = some (.cells [.ai,w]):=fun d=>by rw[aN (ey h)];exact h
 refine mG.go ?_;unfold dS;intro Q au aA aB;repeat' first|simp (disch:=omega) only[go_sem,au,aA,aB,h,h2]|refine aq ?_|refine ak ?_ ?_<;>intro hw<;>try omega|fail
 exact⟨rfl,by trivial⟩
def abH{σ : ae}{k:Nat}{w:AV}(h : σ[k]? = some (.cells [w,.ai]))(s:aG)(e:Int): dK aE 114 [.ref k 1,.str s,I e] σ fun o σ'=>o = .ret (.bool (e==0))/\σ'=(σ++[bx.vec E1 [.str s]]).set k (.cells [w,.own E1 σ.length 1 0 1]):=by
 have h2:∀ d:bx,(σ++[d])[k]? = some (.cells [w,.ai]):=fun d=>by rw[aN (ey h)];exact h
 refine mG.go ?_;unfold dS;intro Q au aA aB;repeat' first|simp (disch:=omega) only[go_sem,au,aA,aB,h,h2]|refine aq ?_|refine ak ?_ ?_<;>intro hw<;>try omega|fail
 exact⟨rfl,by trivial⟩
def abI{σ : ae}{k q:Nat}{xs:List aG}{w:AV}(h : σ[k]? = some (.cells [.own E1 q xs.length 0 xs.length,w]))(hq : σ[q]? = some (.vec E1 (xs.map bj)))(hne:q≠k)(hl:xs.length<=2 ^ 30)(s:aG)(e:Int): dK aE 114 [.ref k 0,.str s,I e] σ fun o σ'=>o = .ret (.bool (e==0))/\σ'=(σ.set q (.vec E1 (xs.map bj++[.str s]))).set k (.cells [.own E1 q (xs.length+1) 0 (xs.length+1),w]):=by
 have h2:∀ d:bx,(σ.set q d)[k]? = some (.cells [.own E1 q xs.length 0 xs.length,w]):=fun d=>by rw[List.getElem?_set_ne hne];exact h
 refine mG.go ?_;unfold dS;intro Q au aA aB;repeat' first|simp (disch:=omega) only[go_sem,au,aA,aB,h,h2,hq]|refine aq ?_|refine ak ?_ ?_<;>intro hw<;>try omega|fail
 exact⟨rfl,by trivial⟩
def abJ{σ : ae}{k q:Nat}{xs:List aG}{w:AV}(h : σ[k]? = some (.cells [w,.own E1 q xs.length 0 xs.length]))(hq : σ[q]? = some (.vec E1 (xs.map bj)))(hne:q≠k)(hl:xs.length<=2 ^ 30)(s:aG)(e:Int): dK aE 114 [.ref k 1,.str s,I e] σ fun o σ'=>o = .ret (.bool (e==0))/\σ'=(σ.set q (.vec E1 (xs.map bj++[.str s]))).set k (.cells [w,.own E1 q (xs.length+1) 0 (xs.length+1)]):=by
 have h2:∀ d:bx,(σ.set q d)[k]? = some (.cells [w,.own E1 q xs.length 0 xs.length]):=fun d=>by rw[List.getElem?_set_ne hne];exact h
 refine mG.go ?_;unfold dS;intro Q au aA aB;repeat' first|simp (disch:=omega) only[go_sem,au,aA,aB,h,h2,hq]|refine aq ?_|refine ak ?_ ?_<;>intro hw<;>try omega|fail
 exact⟨rfl,by trivial⟩
def dY{S:ae}{j:Nat}{o:bx}(h:S[j]? = some o)(d:bx): (S++[d])[j]? = some o:=by rw[aN (ey h)];exact h
def Nu{S:ae}{j k:Nat}{o:bx}(h:S[j]? = some o)(hne:j≠k)(d:bx): (S.set k d)[j]? = some o:=by rw[List.getElem?_set_ne (Ne.symm hne)];exact h
def Nv(t:Table)(h:l7 t): aH aE 73 [cD t] (Qm (fC t)):=by
 have cm:=O6 t h;obtain⟨E,hE⟩:∃ E,Qm (fC t)=E:=⟨_,rfl⟩;rw[hE];by_cases he:(dR t).2.2.2≠0
 ·have hc:=tu he;obtain⟨M,hM⟩:∃ M,dR t=M:=⟨_,rfl⟩;rw[hM]at cm hc he;simp only[Ke,vK,cD,fg,bP,dV,yf]at cm ⊢;refine aJ wK ?_;intro Q au aA aB;repeat' first|refine aq ?_|refine ak ?_ ?_<;>intro hw<;>try omega|fail
  all_goals first
   | exact bh
   |(rw[<-hE,hc];exact bG (jW (nT _)))
 have Cg:(dR t).2.2.2=0:=by omega
 obtain⟨hf,hl,hm⟩:=pz Cg;obtain⟨hlen,hok⟩:=xE h Cg;have Mc:=fun n=>Hf (t:=t) Cg (n:=n);have Ub:=Cf Cg;obtain⟨ls,hls⟩:∃ ls,(dR t).1.lines=ls:=⟨_,rfl⟩;have jY:∀ n,uP t n=ls.getD n default:=fun n=>by rw[<-hls];rfl
 have eo:lF t t.rules.length=ls:=by rw[<-hls,hm]
 rw[hls]at hlen Mc Ub;rw[hm,eo]at cm;have V7:=h.2.2.2.1;have adN:=h.2.1.1;clear hm eo hl hf Cg hls he;simp only[Ke,vK,cD,fg,bP,dV,yf]at cm ⊢;refine aJ wK ?_;intro Q au aA aB;repeat' first|refine aq ?_|refine ak ?_ ?_<;>intro hw<;>try omega|fail
 all_goals first|exact bh|skip
 with_reducible refine bn [7,8,9,13,14,15,16,17,18,19,20,39,40,41,42,43,44,45,46,47,48,49,50,51,52,53,54,55,56,57,58,59,60,61,62,63,64,65,66,67,68,69,70,71,72,73,74,75,76,77,78,79,80,81,82,83,84,85,86,87,88,89,90,91,92,93,94,95,96,97,98] (fun q:Nat × ae=>[(39,I q.1),(9,I 0)]) (fun q=>q.2) (fun q=>q.1<=ls.length/\(∀ k,k<q.1->(kQ t k).2.2=0)/\5<=q.2.length/\q.2[0]? = some (xF t (.aF false ER (t.rules.map cn)))/\q.2[1]? = some (.cells [.str [],.ai,.ai,I 0,I 0,.ai])/\q.2[2]? = some (aaj t ls)/\(∃ v,q.2[3]? = some (xF t v)/\s4 5 q.2 v (n7 t q.1))/\ ∃ a b,q.2[4]? = some (.cells [a,b])) (fun q=>ls.length-q.1) (0,_) ⟨bD _,fun k hk=>by omega,by simp,rfl,rfl,rfl,⟨_,rfl,s4.nil _ _⟩,_,_,rfl⟩ rfl ?_ ?_
 ·exact at_
 rintro⟨n,S⟩ rr ⟨h1,h2,h3,f0,f1,f2,⟨v,f3,h4⟩,xa,xb,f4⟩;dsimp only at h1 h2 h3 f0 f1 f2 f3 h4 f4;have hvs:=h4.scalar;by_cases hn:n<ls.length
 ·have Fc:=hok n;have hrow:kQ t n=vY t.ins.length (uP t n):=rfl;have n8:=Mc n hn h2;have mF:=He t n;rw[hrow,Ce]at mF;rw[hrow]at n8;rw[jY]at Fc n8 mF;obtain⟨l,oL⟩:∃ l,ls.getD n default=l:=⟨_,rfl⟩;rw[oL]at Fc n8 mF;obtain⟨⟨k1,k2⟩,k3,k4⟩:=Fc;have f4a:∀ d:bx,(S++[d])[4]? = some (.cells [xa,xb]):=fun d=>dY f4 d;have hSl:(S++[bx.cells [.aF false EC (l.cells.map bK),.aF false EX (l.outs.map aI)]])[S.length]? = some (.cells [.aF false EC (l.cells.map bK),.aF false EX (l.outs.map aI)]):=Ac _ _;have aak:∀ d:bx,((S++[bx.cells [.aF false EC (l.cells.map bK),.aF false EX (l.outs.map aI)]]).set 4 d)[S.length]? = some (.cells [.aF false EC (l.cells.map bK),.aF false EX (l.outs.map aI)]):=fun d=>Nu hSl (by omega) d;repeat' first|simp (disch:=omega) only[go_sem,au,aA,aB,f0,f1,f2,f3,f4,f4a,aak,oL]|refine aq ?_|refine ak ?_ ?_<;>intro hw<;>try omega|fail
  with_reducible refine bn [8,9,15,16,17,49,50,51,52,53,54,55,56,57,58,59,60,61,62,63,64,65,66] (fun q:Nat × ae=>[(49,I q.1),(9,I 0)]) (fun q=>q.2) (fun q=>q.1<=l.cells.length/\(∀ k,k<q.1->(jR l k).2=0)/\S.length<q.2.length/\(∀ j o,S[j]? = some o->j≠4->q.2[j]? = some o)/\q.2[S.length]? = some (.cells [.aF false EC (l.cells.map bK),.aF false EX (l.outs.map aI)])/\ ∃ x,q.2[4]? = some (.cells [x,.ai])/\oK (S.length+1) q.2 x (bM l q.1)) (fun q=>l.cells.length-q.1) (0,_) ⟨bD _,fun k hk=>by omega,by simp,fun j o hj hne=>Nu (dY hj _) hne _,aak _,.ai,List.getElem?_set_self (ey (f4a _)),oK.nil _ _⟩ rfl ?_ ?_
  ·exact at_
  rintro⟨m,S1⟩ rr ⟨g1,g2,g3,g4,gl,x,g5,g6⟩;dsimp only at g1 g2 g3 g4 gl g5 g6;have e0:=g4 _ _ f0 (by omega);have e1:=g4 _ _ f1 (by omega);have e2:=g4 _ _ f2 (by omega);have e3:=g4 _ _ f3 (by omega);by_cases hml:m<l.cells.length
  ·have cT:aH aE 115 [bK (l.cells.getD m default)] (.bJ [.str (jR l m).1,I (jR l m).2]):=T5 _ (k2 _ (aV hml));have hsc:=DU l m;have kG:=uO l m;have hce:=Kf t.ins.length hml g2;have eN:=fun he=>aY (q:=fun j=>(jR l j).2=0) g2 he;obtain⟨a,ha⟩:∃ a,jR l m=a:=⟨_,rfl⟩;rw[ha]at cT hsc hce eN;obtain⟨c,hc⟩:∃ c,l.cells.getD m default=c:=⟨_,rfl⟩;rw[hc]at cT;simp only[bK,eV]at cT;obtain⟨xs,hxs⟩:∃ xs,bM l m=xs:=⟨_,rfl⟩;rw[hxs]at g6 hsc kG;rcases g6 with⟨rfl,rfl⟩|⟨hne,q,hq,rfl,rT⟩
   ·repeat' first|simp (disch:=omega) only[go_sem,au,aA,aB,e0,e1,e2,e3,gl,g5,oL,hc]|refine aq ?_|with_reducible refine bU (abG (dY g5 _) _ _) ?_|refine ak ?_ ?_<;>intro hw<;>try omega|fail
    rintro o s ⟨rfl,nK⟩;have y1:s[1]? = some (.cells [.str [],.ai,.ai,I 0,I 0,.ai]):=by rw[nK];exact gx _ _ (dY e1 _) (by omega)
    have hs1:∀ d,(s.set 1 d)[1]? = some d:=fun d=>List.getElem?_set_self (ey y1);repeat' first|simp (disch:=omega) only[go_sem,au,aA,aB,y1,hs1]|refine aq ?_|refine ak ?_ ?_<;>intro hw<;>try omega|fail
    ·rw[hce (by assumption)]at n8;rw[<-hE,n8 (by assumption)];exact bG (jW (nT _))
    ·have ha0:a.2=0:=by assumption
     refine⟨(m+1,s),⟨by omega,eN ha0,?_,?_,?_,.own E1 (S1.length+1) 1 0 1,?_,?_⟩,by dsimp only;omega,rfl,bL,(by simp only[ha0];simp (disch:=omega) only[dU,dm,and_true,go_sem,au,aA,aB,Int.natCast_add,Int.cast_ofNat_Int]<;>(try trivial)<;>(try omega)<;>(try (repeat (first|trivial|(refine And.intro ?_ ?_)|(congr 1;omega)))))⟩
     ·dsimp only;rw[nK];simp;omega
     ·intro j o hj hne;dsimp only;rw[nK];exact gx j o (dY (g4 _ _ hj hne) _) hne
     ·dsimp only;rw[nK];exact gx _ _ (dY gl _) (by omega)
     ·dsimp only;rw[nK,List.getElem?_set_self (by simp;omega)]
     ·dsimp only;rw[hsc,nK];have:=zL (S1:=S1++[bx.cells [.bool c.any,.bool c.neg,.aF false ES (c.tests.map bO)]]) (L:=S.length+1) (k:=4) (c:= .cells [.own E1 (S1++[bx.cells [.bool c.any,.bool c.neg,.aF false ES (c.tests.map bO)]]).length 1 0 1,.ai]) (s:=a.1) (by simp;omega) (by simp;omega);simpa using this
   ·have Ch:q≠4:=by omega
    repeat' first|simp (disch:=omega) only[go_sem,au,aA,aB,e0,e1,e2,e3,gl,g5,oL,hc]|refine aq ?_|with_reducible refine bU (abI (dY g5 _) (dY rT _) Ch (by omega) _ _) ?_|refine ak ?_ ?_<;>intro hw<;>try omega|fail
    rintro o s ⟨rfl,nK⟩;have y1:s[1]? = some (.cells [.str [],.ai,.ai,I 0,I 0,.ai]):=by rw[nK];exact iD _ _ (dY e1 _) (by omega) (by omega)
    have hs1:∀ d,(s.set 1 d)[1]? = some d:=fun d=>List.getElem?_set_self (ey y1);repeat' first|simp (disch:=omega) only[go_sem,au,aA,aB,y1,hs1]|refine aq ?_|refine ak ?_ ?_<;>intro hw<;>try omega|fail
    ·rw[hce (by assumption)]at n8;rw[<-hE,n8 (by assumption)];exact bG (jW (nT _))
    ·have ha0:a.2=0:=by assumption
     refine⟨(m+1,s),⟨by omega,eN ha0,?_,?_,?_,.own E1 q (xs.length+1) 0 (xs.length+1),?_,?_⟩,by dsimp only;omega,rfl,bL,(by simp only[ha0];simp (disch:=omega) only[dU,dm,and_true,go_sem,au,aA,aB,Int.natCast_add,Int.cast_ofNat_Int]<;>(try trivial)<;>(try omega)<;>(try (repeat (first|trivial|(refine And.intro ?_ ?_)|(congr 1;omega)))))⟩
     ·dsimp only;rw[nK];simp;omega
     ·intro j o hj hne;dsimp only;have:=ey hj;rw[nK];exact iD j o (dY (g4 _ _ hj hne) _) hne (by omega)
     ·dsimp only;rw[nK];exact iD _ _ (dY gl _) (by omega) (by omega)
     ·dsimp only;rw[nK,List.getElem?_set_self (by simp;omega)]
     ·dsimp only;rw[hsc,nK];exact C4 (dY rT _) hq (Ne.symm Ch)
  ·obtain rfl:m=l.cells.length:=by omega
   have V8:=fun {k:Nat}=>Ns t.ins.length g2 (m:=k);have V9:=Qn t.ins.length g2;repeat' first|simp (disch:=omega) only[go_sem,au,aA,aB,e0,e1,e2,e3,gl,g5,oL]|refine aq ?_|refine ak ?_ ?_<;>intro hw<;>try omega|fail
   with_reducible refine bn [8,9,18,19,20,70,71,72,73,74,75,76,77,78,79,80,81,82,83,84,85,86,87,88,89,90,91] (fun q:Nat × ae=>[(70,I q.1),(9,I 0)]) (fun q=>q.2) (fun q=>q.1<=l.outs.length/\(∀ k,k<q.1->(lG l k).2=0)/\S1.length<=q.2.length/\(∀ j o,S1[j]? = some o->j≠4->q.2[j]? = some o)/\ ∃ y,q.2[4]? = some (.cells [x,y])/\oK S1.length q.2 y (nw l q.1)) (fun q=>l.outs.length-q.1) (0,_) ⟨bD _,fun k hk=>by omega,Nat.le_refl _,fun j o hj _=>hj,_,g5,oK.nil _ _⟩ rfl ?_ ?_
   ·exact at_
   rintro⟨m,S2⟩ rr ⟨p1,p2,p3,p4,y,p5,p6⟩;dsimp only at p1 p2 p3 p4 p5 p6;have e0:=p4 _ _ e0 (by omega);have e1:=p4 _ _ e1 (by omega);have e2:=p4 _ _ e2 (by omega);have e3:=p4 _ _ e3 (by omega);have gl:=p4 _ _ gl (by omega);have hS2:S.length<S2.length:=by omega
   by_cases hml:m<l.outs.length
   ·have cT:aH aE 116 [aI (l.outs.getD m default)] (.bJ [.str (lG l m).1,I (lG l m).2]):=DP _ (k4 _ (aV hml)).1 (k4 _ (aV hml)).2;have hsc:=G_ l m;have kG:=w7 l m;have hce:=V8 hml p2;have eN:=fun he=>aY (q:=fun j=>(lG l j).2=0) p2 he;obtain⟨a,ha⟩:∃ a,lG l m=a:=⟨_,rfl⟩;rw[ha]at cT hsc hce eN;obtain⟨c,hc⟩:∃ c,l.outs.getD m default=c:=⟨_,rfl⟩;rw[hc,aO]at cT;obtain⟨xs,hxs⟩:∃ xs,nw l m=xs:=⟨_,rfl⟩;rw[hxs]at p6 hsc kG;rcases p6 with⟨rfl,rfl⟩|⟨hne,q,hq,rfl,rT⟩
    ·have e0':=fun d=>dY e0 d;repeat' first|simp (disch:=omega) only[go_sem,au,aA,aB,e0,e0',e1,e2,e3,gl,p5,oL,hc]|refine aq ?_|with_reducible refine bU (abH (dY p5 _) _ _) ?_|refine ak ?_ ?_<;>intro hw<;>try omega|fail
     rintro o s ⟨rfl,nK⟩;have y1:s[1]? = some (.cells [.str [],.ai,.ai,I 0,I 0,.ai]):=by rw[nK];exact gx _ _ (dY e1 _) (by omega)
     have hs1:∀ d,(s.set 1 d)[1]? = some d:=fun d=>List.getElem?_set_self (ey y1);repeat' first|simp (disch:=omega) only[go_sem,au,aA,aB,y1,hs1]|refine aq ?_|refine ak ?_ ?_<;>intro hw<;>try omega|fail
     ·rw[hce (by assumption)]at n8;rw[<-hE,n8 (by assumption)];exact bG (jW (nT _))
     ·have ha0:a.2=0:=by assumption
      refine⟨(m+1,s),⟨by omega,eN ha0,?_,?_,.own E1 (S2.length+1) 1 0 1,?_,?_⟩,by dsimp only;omega,rfl,bL,(by simp only[ha0];simp (disch:=omega) only[dU,dm,and_true,go_sem,au,aA,aB,Int.natCast_add,Int.cast_ofNat_Int]<;>(try trivial)<;>(try omega)<;>(try (repeat (first|trivial|(refine And.intro ?_ ?_)|(congr 1;omega)))))⟩
      ·dsimp only;rw[nK];simp;omega
      ·intro j o hj hne;dsimp only;rw[nK];exact gx j o (dY (p4 _ _ hj hne) _) hne
      ·dsimp only;rw[nK,List.getElem?_set_self (by simp;omega)]
      ·dsimp only;rw[hsc,nK];have:=zL (S1:=S2++[bx.cells [I c.op,I c.v.kind,I c.v.n,.str c.v.s,.str c.s,.aF false EX (c.l.map aI)]]) (L:=S1.length) (k:=4) (c:= .cells [x,.own E1 (S2++[bx.cells [I c.op,I c.v.kind,I c.v.n,.str c.v.s,.str c.s,.aF false EX (c.l.map aI)]]).length 1 0 1]) (s:=a.1) (by simp;omega) (by simp;omega);simpa using this
    ·have Ch:q≠4:=by omega
     have e0':=fun d=>dY e0 d;repeat' first|simp (disch:=omega) only[go_sem,au,aA,aB,e0,e0',e1,e2,e3,gl,p5,oL,hc]|refine aq ?_|with_reducible refine bU (abJ (dY p5 _) (dY rT _) Ch (by omega) _ _) ?_|refine ak ?_ ?_<;>intro hw<;>try omega|fail
     rintro o s ⟨rfl,nK⟩;have y1:s[1]? = some (.cells [.str [],.ai,.ai,I 0,I 0,.ai]):=by rw[nK];exact iD _ _ (dY e1 _) (by omega) (by omega)
     have hs1:∀ d,(s.set 1 d)[1]? = some d:=fun d=>List.getElem?_set_self (ey y1);repeat' first|simp (disch:=omega) only[go_sem,au,aA,aB,y1,hs1]|refine aq ?_|refine ak ?_ ?_<;>intro hw<;>try omega|fail
     ·rw[hce (by assumption)]at n8;rw[<-hE,n8 (by assumption)];exact bG (jW (nT _))
     ·have ha0:a.2=0:=by assumption
      refine⟨(m+1,s),⟨by omega,eN ha0,?_,?_,.own E1 q (xs.length+1) 0 (xs.length+1),?_,?_⟩,by dsimp only;omega,rfl,bL,(by simp only[ha0];simp (disch:=omega) only[dU,dm,and_true,go_sem,au,aA,aB,Int.natCast_add,Int.cast_ofNat_Int]<;>(try trivial)<;>(try omega)<;>(try (repeat (first|trivial|(refine And.intro ?_ ?_)|(congr 1;omega)))))⟩
      ·dsimp only;rw[nK];simp;omega
      ·intro j o hj hne;dsimp only;have:=ey hj;rw[nK];exact iD j o (dY (p4 _ _ hj hne) _) hne (by omega)
      ·dsimp only;rw[nK,List.getElem?_set_self (by simp;omega)]
      ·dsimp only;rw[hsc,nK];exact C4 (dY rT _) hq (Ne.symm Ch)
   ·obtain rfl:m=l.outs.length:=by omega
    have Nt:=V9 p2;have Mg:oK (S.length+1) S2 x (bM l l.cells.length):=g6.keep (Nat.le_refl _) (fun q ys hq rT=>p4 q _ rT (by omega));have hxs:=Mg.scalar;have hys:=p6.scalar;have Ca:R2 S2 (.agg [x,y]) ⟨bM l l.cells.length,nw l l.outs.length⟩:=⟨x,y,rfl,Mg.keep (bD _) (fun _ _ _ h=>h),p6.keep (bD _) (fun _ _ _ h=>h)⟩;have hfit:([AV.agg [x,y]].all fun a=>AV.fits ⟨true,2⟩ a)=true:=by simp only[AV.fits,List.length_cons,List.length_nil,List.all_cons,List.all_nil,hxs,hys];rfl
    have Hg:AV.fits ⟨true,2⟩ (.agg [x,y])=true:=by simpa using hfit
    have Uc:∀ (q:Nat) (o:bx),S[q]? = some o->q≠4->S2[q]? = some o:=fun q o hq hne=>p4 q o (g4 q o hq hne) hne;rcases h4 with⟨h4,rfl⟩|⟨h4,q,rs,hq,rfl,rT,hr⟩
    ·have hap:∀ d:bx,(S2++[d])[3]? = some (xF t .ai):=fun d=>dY e3 d;repeat' first|simp (disch:=omega) only[go_sem,au,aA,aB,e0,e1,e2,e3,p5,hap,hfit,Hg,oL]|refine aq ?_|refine ak ?_ ?_<;>intro hw<;>try omega|fail
     refine⟨(n+1,_),⟨by omega,aY (q:=fun j=>(kQ t j).2.2=0) h2 (by rw[hrow,jY,oL,Nt]),?_,?_,?_,?_,⟨.own ER S2.length 1 0 1,?_,?_⟩,x,y,?_⟩,by dsimp only;omega,rfl,bL,at_⟩
     ·dsimp only;simp;omega
     ·exact gx _ _ e0 (by omega)
     ·exact gx _ _ e1 (by omega)
     ·exact gx _ _ e2 (by omega)
     ·dsimp only;rw[List.getElem?_set_self (by simp;omega)]
     ·dsimp only;rw[mF,h4];refine .inr ⟨by simp,S2.length,[.agg [x,y]],by omega,rfl,?_,jS.keep (fun q ys hq=>gx _ _ hq (fun e=>by subst e;rw[e3]at hq;cases hq)) (jS.snoc (jS.nil S2) Ca)⟩;rw[List.getElem?_set_ne (by omega)];simp
     ·exact gx _ _ p5 (by omega)
    ·have Ud:q≠3:=by omega
     have e4:=Uc _ _ rT (by omega);rw[oJ]at e3;have hrn:rs.length=n:=by rw[hr.1,oJ]
     have hap:∀ d:bx,(S2.set q d)[3]? = some (xF t (.own ER q n 0 n)):=fun d=>by rw[List.getElem?_set_ne Ud];exact e3
     repeat' first|simp (disch:=omega) only[go_sem,au,aA,aB,e0,e1,e2,e3,p5,hap,hfit,Hg,e4,oL,hrn]|refine aq ?_|refine ak ?_ ?_<;>intro hw<;>try omega|fail
     refine⟨(n+1,_),⟨by omega,aY (q:=fun j=>(kQ t j).2.2=0) h2 (by rw[hrow,jY,oL,Nt]),?_,?_,?_,?_,⟨.own ER q (n+1) 0 (n+1),?_,?_⟩,x,y,?_⟩,by dsimp only;omega,rfl,bL,at_⟩
     ·dsimp only;simp;omega
     ·exact iD _ _ e0 (by omega) (by omega)
     ·exact iD _ _ e1 (by omega) (by omega)
     ·exact iD _ _ e2 (by omega) (by omega)
     ·dsimp only;rw[List.getElem?_set_self (by simp;omega)]
     ·dsimp only;rw[mF];have yx:jS S2 rs (n7 t n):=hr.keep (fun q ys hq=>Uc _ _ hq (fun e=>by subst e;rw[f4]at hq;cases hq));refine .inr ⟨by simp,q,rs++[.agg [x,y]],hq,by simp[oJ],?_,jS.keep (fun p ys hp=>iD _ _ hp (fun e=>by subst e;rw[e3]at hp;cases hp) (fun e=>by subst e;rw[e4]at hp;cases hp)) (jS.snoc yx Ca)⟩;rw[List.getElem?_set_ne (Ne.symm Ud),List.getElem?_set_self (ey e4)]
     ·exact iD _ _ p5 (by omega) (by omega)
 ·obtain rfl:n=ls.length:=by omega
  have hva:([AV.str t.name,.aF false EC (t.ins.map bF),.aF false EC (t.outs.map bF),I t.aZ,I t.agg,v].all AV.scalar)=true:=by simp only[List.all_cons,List.all_nil,hvs];rfl
  have hs1:∀ o,(S.set 1 o)[1]? = some o:=fun o=>List.getElem?_set_self (ey f1);repeat' first|simp (disch:=omega) only[go_sem,au,aA,aB,f0,f1,f2,f3,hva,hs1]|refine aq ?_|refine ak ?_ ?_<;>intro hw<;>try omega|fail
  have h5:=h4.keep (S':=S.set 1 (xF t v)) (fun q o hq hne=>by
   rw[List.getElem?_set_ne (fun e=>by subst e;rw[f1]at hq;cases hq;exact hne _ rfl)];exact hq)
  rw[<-hE,Ub h2];exact bG (jW (View.om (.cons (.refl _ rfl) (.cons (.refl _ (e8 _)) (.cons (.refl _ (e8 _)) (.cons (.refl _ rfl) (.cons (.refl _ rfl) (.cons h5.view (.nil _)))))))))
