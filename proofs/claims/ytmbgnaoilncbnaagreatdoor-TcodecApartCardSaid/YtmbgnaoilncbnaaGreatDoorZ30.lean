/- Part of a proof: see Root. -/
import Derived.Test.YtmbgnaoilncbnaaGreatDoorZ29
set_option linter.unnecessarySimpa false
set_option linter.unusedSimpArgs false
set_option linter.unusedVariables false
namespace Go.Proofs.YtmbgnaoilncbnaaGreatDoor
open Go.AM
set_option maxRecDepth 4000
theorem jl(σ : ai): View σ (.agg [.str [],.ae,.ae,I 0,I 0,.ae]) (bI fJ) :=
 View.mq (.cons (.refl _ rfl) (.cons (.ae _) (.cons (.ae _) (.cons (.refl _ rfl) (.cons (.refl _ rfl) (.cons (.ae _) (.nil _)))))))
abbrev Cl(t:Table)(v:AV): aR:= .cells [.str t.name,.aG false EC (t.ins.map bp),.aG false EC (t.outs.map bp),I t.bl,I t.agg,v]
abbrev acI(t:Table)(ls:List gY): aR:= .cells [.str t.name,.aG false EC (t.ins.map bp),.aG false EC (t.outs.map bp),I t.bl,I t.agg,.aG false ER (t.rules.map cj),.aG false ER (ls.map ku)]
theorem wq{S1:ai}{L k:Nat}{c:aR}{s:aH}(hL:L≤S1.length)(hk:k<S1.length): lz L ((S1++[aR.vec E1 [.str s]]).set k c) (.own E1 S1.length 1 0 1) [s] :=
 .inr ⟨by simp,S1.length,hL,rfl,by rw[List.getElem?_set_ne (by omega)];simp[cy]⟩
theorem y9{S1:ai}{L k q:Nat}{c:aR}{s:aH}{xs:List aH}(hq:S1[q]? = some (.vec E1 (xs.map cy)))(hL:L≤q)(hk:k≠q): lz L ((S1.set q (.vec E1 (xs.map cy++[.str s]))).set k c) (.own E1 q (xs.length+1) 0 (xs.length+1)) (xs++[s]) :=
 .inr ⟨by simp,q,hL,by simp,by rw[List.getElem?_set_ne hk,List.getElem?_set_self (cA hq)];simp[cy]⟩
theorem cJ{S1:ai}{k:Nat}{c d:aR}(j:Nat)(o:aR)(hj:S1[j]? = some o)(hne:j≠k): ((S1++[d]).set k c)[j]? = some o:=by
 rw[List.getElem?_set_ne (Ne.symm hne),List.getElem?_append_left (cA hj)];exact hj
theorem cW{S1:ai}{k q:Nat}{c d:aR}(j:Nat)(o:aR)(hj:S1[j]? = some o)(hne:j≠k)(hq:j≠q): ((S1.set q d).set k c)[j]? = some o:=by
 rw[List.getElem?_set_ne (Ne.symm hne),List.getElem?_set_ne (Ne.symm hq)];exact hj
set_option maxHeartbeats 8000000 in
theorem T1(t:Table)(h:gU t): aq Tryz.prog xD [bI t] (MH (bZ t)):=by
 have cm:=Wp t h
 obtain⟨E,hE⟩:∃ E,MH (bZ t)=E:=⟨_,rfl⟩
 rw[hE]
 by_cases he:(cI t).2.2.2≠0
 ·have hc:=rV he
  obtain⟨M,hM⟩:∃ M,cI t=M:=⟨_,rfl⟩
  rw[hM]at cm hc he
  simp only[Pm,uC,bI,dc,bq,cQ,xd]at cm ⊢
  refine aq.of_nil (CJ (by simp) ?_) (by simp)
  unfold xW aM
  intro Q aC aD aE
  repeat' first|refine aB ?_|refine aF cm ?_|refine aA (fun hw=>?_) (fun hw=>?_)<;>try omega|fail
  all_goals first
   | exact aZ
   |(rw[← hE,hc];exact bw (iW (jl _)))
 have H7:(cI t).2.2.2=0:=by omega
 obtain⟨hf,hl,hm⟩:=qP H7
 obtain⟨hlen,hok⟩:=wH h H7
 have Gp:=fun n=>MJ (t:=t) H7 (n:=n)
 have X3:=BL H7
 obtain⟨ls,hls⟩:∃ ls,(cI t).1.lines=ls:=⟨_,rfl⟩
 have AJ:∀ n,sD t n=ls.getD n default:=fun n=>by rw[← hls];rfl
 have c9:jv t t.rules.length=ls:=by rw[← hls,hm]
 rw[hls]at hlen Gp X3
 rw[hm,c9]at cm
 have Zu:=h.2.2.2.1
 have agm:=h.2.1.1
 clear hm c9 hl hf H7 hls he
 simp only[Pm,uC,bI,dc,bq,cQ,xd]at cm ⊢
 refine aq.of_nil (CJ (by simp) ?_) (by simp)
 unfold xW aM
 intro Q aC aD aE
 repeat' first|refine aB ?_|refine aF cm ?_|refine aA (fun hw=>?_) (fun hw=>?_)<;>try omega|fail
 all_goals first|exact aZ|skip
 with_reducible refine a_ [3,4,5,11,12,13,14,15,16,17,18,34,35,36,37,38,39,40,41,42,43,44,45,46,47,48,49,50,51,52,53,54,55,56,57,58,59,60,61,62,63,64,65,66,67,68,69,70,71,72,73,74,75,76,77,78,79,80,81,82,83,84,85,86,87,88,89,90,91,92,93,94,95,96,97,98,99,100,101,102,103,104,105,106,107,108,109,110,111,112,113,114,115,116,117,118,119,120,121,122,123] (fun q:Nat × ai=>[(11,I q.1)]) (fun q=>q.2) (fun q=>q.1≤ls.length∧(∀ k,k<q.1→(iT t k).2.2=0)∧4≤q.2.length∧q.2[0]? = some (Cl t (.aG false ER (t.rules.map cj)))∧q.2[1]? = some (.cells [.str [],.ae,.ae,I 0,I 0,.ae])∧q.2[2]? = some (acI t ls)∧ ∃ v,q.2[3]? = some (Cl t v)∧qg 4 q.2 v (gV t q.1)) (fun q=>ls.length-q.1) (0,_) ⟨Nat.zero_le _,fun k hk=>by omega,by simp,rfl,rfl,rfl,_,rfl,qg.nil _ _⟩ rfl ?_ ?_
 ·exact at_
 rintro⟨n,S⟩ rr ⟨h1,h2,h3,f0,f1,f2,v,f3,h4⟩
 dsimp only at h1 h2 h3 f0 f1 f2 f3 h4
 have hvs:=h4.scalar
 by_cases hn:n<ls.length
 ·have KE:=hok n
  have hrow:iT t n=rq t.ins.length (sD t n):=rfl
  have o9:=Gp n hn h2
  have hrl:=MI t n
  rw[hrow,H6]at hrl
  rw[hrow]at o9
  rw[AJ]at KE o9 hrl
  obtain⟨l,qh⟩:∃ l,ls.getD n default=l:=⟨_,rfl⟩
  rw[qh]at KE o9 hrl
  obtain⟨⟨k1,k2⟩,k3,k4⟩:=KE
  repeat' first|simp (disch:=omega) only[go_sem,aC,aD,aE,aj,au,ak,Nat.reduceAdd,Nat.reduceBEq,↓reduceIte,f0,f1,f2,f3,qh]|refine aB ?_|refine aA (fun hw=>?_) (fun hw=>?_)<;>try omega|fail
  with_reducible refine a_ [3,4,5,13,14,15,42,43,44,45,46,47,48,49,50,51,52,53,54,55,56,57,58,59,60,61,62,63,64,65,66,67,68,69,70,71,72,73,74,75,76,77] (fun q:Nat × ai=>[(13,I q.1)]) (fun q=>q.2) (fun q=>q.1≤l.cells.length∧(∀ k,k<q.1→(fq l k).2=0)∧S.length<q.2.length∧(∀ j o,S[j]? = some o→q.2[j]? = some o)∧ ∃ x,q.2[S.length]? = some (.cells [x,.ae])∧lz (S.length+1) q.2 x (bj l q.1)) (fun q=>l.cells.length-q.1) (0,_) ⟨Nat.zero_le _,fun k hk=>by omega,by simp,fun j o hj=>by rw[List.getElem?_append_left (cA hj)];exact hj,_,xA _ _,lz.nil _ _⟩ rfl ?_ ?_
  ·exact at_
  rintro⟨m,S1⟩ rr ⟨g1,g2,g3,g4,x,g5,g6⟩
  dsimp only at g1 g2 g3 g4 g5 g6
  have e0:=g4 _ _ f0
  have e1:=g4 _ _ f1
  have e2:=g4 _ _ f2
  have e3:=g4 _ _ f3
  have hs1:∀ o,(S1.set 1 o)[1]? = some o:=fun o=>List.getElem?_set_self (cA e1)
  by_cases hml:m<l.cells.length
  ·have cT:aq Tryz.prog tS [br (l.cells.getD m default)] (.bJ [.str (fq l m).1,I (fq l m).2]):=Wm _ (k2 _ (aY hml))
   have hsc:=JM l m
   have hlm:=nQ l m
   have hce:=Pn t.ins.length hml g2
   have hb2:=fun he=>aW (q:=fun j=>(fq l j).2=0) g2 he
   obtain⟨a,ha⟩:∃ a,fq l m=a:=⟨_,rfl⟩
   rw[ha]at cT hsc hce hb2
   obtain⟨c,hc⟩:∃ c,l.cells.getD m default=c:=⟨_,rfl⟩
   rw[hc]at cT
   simp only[br,dG]at cT
   obtain⟨xs,hxs⟩:∃ xs,bj l m=xs:=⟨_,rfl⟩
   rw[hxs]at g6 hsc hlm
   rcases g6 with⟨rfl,rfl⟩|⟨hne,q,hq,rfl,jG⟩
   ·have hap:∀ d:aR,(S1++[d])[S.length]? = some (.cells [.ae,.ae]):=fun d=>by rw[List.getElem?_append_left (cA g5)];exact g5
    repeat' first|simp (disch:=omega) only[go_sem,aC,aD,aE,aj,au,ak,Nat.reduceAdd,Nat.reduceBEq,↓reduceIte,e0,e1,e2,e3,hs1,g5,hap,qh,hc]|refine aB ?_|refine aF cT ?_|refine aA (fun hw=>?_) (fun hw=>?_)<;>try omega|fail
    ·rw[hce (by assumption)]at o9
     rw[← hE,o9 (by assumption)]
     exact bw (iW (jl _))
    ·refine⟨(m+1,_),⟨by omega,hb2 (by assumption),?_,?_,.own E1 S1.length 1 0 1,?_,?_⟩,by dsimp only;omega,rfl,bG,at_⟩
     ·dsimp only;simp;omega
     ·intro j o hj;dsimp only;exact cJ j o (g4 _ _ hj) (by have:=cA hj;omega)
     ·dsimp only;rw[List.getElem?_set_self (by simp;omega)]
     ·dsimp only;rw[hsc];exact wq (by omega) (by omega)
   ·have xo:q≠S.length:=by omega
    have hap:∀ d:aR,(S1.set q d)[S.length]? = some (.cells [.own E1 q xs.length 0 xs.length,.ae]):=fun d=>by rw[List.getElem?_set_ne xo];exact g5
    repeat' first|simp (disch:=omega) only[go_sem,aC,aD,aE,aj,au,ak,Nat.reduceAdd,Nat.reduceBEq,↓reduceIte,e0,e1,e2,e3,hs1,g5,hap,qh,hc,jG]|refine aB ?_|refine aF cT ?_|refine aA (fun hw=>?_) (fun hw=>?_)<;>try omega|fail
    ·rw[hce (by assumption)]at o9
     rw[← hE,o9 (by assumption)]
     exact bw (iW (jl _))
    ·refine⟨(m+1,_),⟨by omega,hb2 (by assumption),?_,?_,.own E1 q (xs.length+1) 0 (xs.length+1),?_,?_⟩,by dsimp only;omega,rfl,bG,at_⟩
     ·dsimp only;simp;omega
     ·intro j o hj;dsimp only;have:=cA hj;exact cW j o (g4 _ _ hj) (by omega) (by omega)
     ·dsimp only;rw[List.getElem?_set_self (by simp;omega)]
     ·dsimp only;rw[hsc];exact y9 jG hq (Ne.symm xo)
  ·obtain rfl:m=l.cells.length:=by omega
   have Zv:=fun {k:Nat}=>Ss t.ins.length g2 (m:=k)
   have Zw:=UY t.ins.length g2
   repeat' first|simp (disch:=omega) only[go_sem,aC,aD,aE,aj,au,ak,Nat.reduceAdd,Nat.reduceBEq,↓reduceIte,e0,e1,e2,e3,g5,qh]|refine aB ?_|refine aA (fun hw=>?_) (fun hw=>?_)<;>try omega|fail
   with_reducible refine a_ [3,4,5,16,17,18,78,79,80,81,82,83,84,85,86,87,88,89,90,91,92,93,94,95,96,97,98,99,100,101,102,103,104,105,106,107,108,109,110,111,112,113,114,115,116,117] (fun q:Nat × ai=>[(16,I q.1)]) (fun q=>q.2) (fun q=>q.1≤l.outs.length∧(∀ k,k<q.1→(iy l k).2=0)∧S1.length≤q.2.length∧(∀ j o,S1[j]? = some o→j≠S.length→q.2[j]? = some o)∧ ∃ y,q.2[S.length]? = some (.cells [x,y])∧lz S1.length q.2 y (iX l q.1)) (fun q=>l.outs.length-q.1) (0,_) ⟨Nat.zero_le _,fun k hk=>by omega,Nat.le_refl _,fun j o hj _=>hj,_,g5,lz.nil _ _⟩ rfl ?_ ?_
   ·exact at_
   rintro⟨m,S2⟩ rr ⟨p1,p2,p3,p4,y,p5,p6⟩
   dsimp only at p1 p2 p3 p4 p5 p6
   have e0:=p4 _ _ e0 (by omega)
   have e1:=p4 _ _ e1 (by omega)
   have e2:=p4 _ _ e2 (by omega)
   have e3:=p4 _ _ e3 (by omega)
   have hs1:∀ o,(S2.set 1 o)[1]? = some o:=fun o=>List.getElem?_set_self (cA e1)
   by_cases hml:m<l.outs.length
   ·have cT:aq Tryz.prog mM [aJ (l.outs.getD m default)] (.bJ [.str (iy l m).1,I (iy l m).2]):=Ev _ (k4 _ (aY hml)).1 (k4 _ (aY hml)).2
    have hsc:=MG l m
    have hlm:=qf l m
    have hce:=Zv hml p2
    have hb2:=fun he=>aW (q:=fun j=>(iy l j).2=0) p2 he
    obtain⟨a,ha⟩:∃ a,iy l m=a:=⟨_,rfl⟩
    rw[ha]at cT hsc hce hb2
    obtain⟨c,hc⟩:∃ c,l.outs.getD m default=c:=⟨_,rfl⟩
    rw[hc,aN]at cT
    obtain⟨xs,hxs⟩:∃ xs,iX l m=xs:=⟨_,rfl⟩
    rw[hxs]at p6 hsc hlm
    rcases p6 with⟨rfl,rfl⟩|⟨hne,q,hq,rfl,jG⟩
    ·have hap:∀ d:aR,(S2++[d])[S.length]? = some (.cells [x,.ae]):=fun d=>by rw[List.getElem?_append_left (cA p5)];exact p5
     repeat' first|simp (disch:=omega) only[go_sem,aC,aD,aE,aj,au,ak,Nat.reduceAdd,Nat.reduceBEq,↓reduceIte,e0,e1,e2,e3,hs1,p5,hap,qh,hc]|refine aB ?_|refine aF cT ?_|refine aA (fun hw=>?_) (fun hw=>?_)<;>try omega|fail
     all_goals first
      | (rw [hce (by assumption)] at o9
         rw[← hE,o9 (by assumption)]
         exact bw (iW (jl _)))
      | skip
     ·refine⟨(m+1,_),⟨by omega,hb2 (by assumption),?_,?_,.own E1 S2.length 1 0 1,?_,?_⟩,by dsimp only;omega,rfl,bG,at_⟩
      ·dsimp only;simp;omega
      ·intro j o hj hne;dsimp only;exact cJ j o (p4 _ _ hj hne) hne
      ·dsimp only;rw[List.getElem?_set_self (by simp;omega)]
      ·dsimp only;rw[hsc];exact wq (by omega) (by omega)
    ·have xo:q≠S.length:=by omega
     have hap:∀ d:aR,(S2.set q d)[S.length]? = some (.cells [x,.own E1 q xs.length 0 xs.length]):=fun d=>by rw[List.getElem?_set_ne xo];exact p5
     repeat' first|simp (disch:=omega) only[go_sem,aC,aD,aE,aj,au,ak,Nat.reduceAdd,Nat.reduceBEq,↓reduceIte,e0,e1,e2,e3,hs1,p5,hap,qh,hc,jG]|refine aB ?_|refine aF cT ?_|refine aA (fun hw=>?_) (fun hw=>?_)<;>try omega|fail
     all_goals first
      | (rw [hce (by assumption)] at o9
         rw[← hE,o9 (by assumption)]
         exact bw (iW (jl _)))
      | skip
     ·refine⟨(m+1,_),⟨by omega,hb2 (by assumption),?_,?_,.own E1 q (xs.length+1) 0 (xs.length+1),?_,?_⟩,by dsimp only;omega,rfl,bG,at_⟩
      ·dsimp only;simp;omega
      ·intro j o hj hne;dsimp only;have:=cA hj;exact cW j o (p4 _ _ hj hne) hne (by omega)
      ·dsimp only;rw[List.getElem?_set_self (by simp;omega)]
      ·dsimp only;rw[hsc];exact y9 jG hq (Ne.symm xo)
   ·obtain rfl:m=l.outs.length:=by omega
    have St:=Zw p2
    have Gw:lz (S.length+1) S2 x (bj l l.cells.length):=g6.keep (Nat.le_refl _) (fun q ys hq jG=>p4 q _ jG (by omega))
    have hxs:=Gw.scalar
    have hys:=p6.scalar
    have xm:N_ S2 (.agg [x,y]) ⟨bj l l.cells.length,iX l l.outs.length⟩:=⟨x,y,rfl,Gw.keep (Nat.zero_le _) (fun _ _ _ h=>h),p6.keep (Nat.zero_le _) (fun _ _ _ h=>h)⟩
    have hfit:([AV.agg [x,y]].all fun a=>AV.fits ⟨true,2⟩ a)=true:=by simp only[AV.fits,List.length_cons,List.length_nil,List.all_cons,List.all_nil,hxs,hys];rfl
    have wI:AV.fits ⟨true,2⟩ (.agg [x,y])=true:=by simpa using hfit
    have X4:∀ (q:Nat) (o:aR),S[q]? = some o→S2[q]? = some o:=fun q o hq=>p4 q o (g4 q o hq) (by have:=cA hq;omega)
    have hS2:S.length<S2.length:=by omega
    rcases h4 with⟨h4,rfl⟩|⟨h4,q,rs,hq,rfl,jG,hr⟩
    ·have hap:∀ d:aR,(S2++[d])[3]? = some (Cl t .ae):=fun d=>by rw[List.getElem?_append_left (cA e3)];exact e3
     repeat' first|simp (disch:=omega) only[go_sem,aC,aD,aE,aj,au,ak,Nat.reduceAdd,Nat.reduceBEq,↓reduceIte,e0,e1,e2,e3,p5,hap,hfit,wI,qh]|refine aB ?_|refine aA (fun hw=>?_) (fun hw=>?_)<;>try omega|fail
     refine⟨(n+1,_),⟨by omega,aW (q:=fun j=>(iT t j).2.2=0) h2 (by rw[hrow,AJ,qh,St]),?_,?_,?_,?_,.own ER S2.length 1 0 1,?_,?_⟩,by dsimp only;omega,rfl,bG,at_⟩
     ·dsimp only;simp;omega
     ·exact cJ _ _ e0 (by omega)
     ·exact cJ _ _ e1 (by omega)
     ·exact cJ _ _ e2 (by omega)
     ·dsimp only;rw[List.getElem?_set_self (by simp;omega)]
     ·dsimp only
      rw[hrl,h4]
      refine .inr ⟨by simp,S2.length,[.agg [x,y]],by omega,rfl,?_,eE.keep (fun q ys hq=>cJ _ _ hq (fun e=>by subst e;rw[e3]at hq;cases hq)) (eE.snoc (eE.nil S2) xm)⟩
      rw[List.getElem?_set_ne (by omega)];simp
    ·have X5:q≠3:=by omega
     have e4:=X4 _ _ jG
     rw[jF]at e3
     have hrn:rs.length=n:=by rw[hr.1,jF]
     have hap:∀ d:aR,(S2.set q d)[3]? = some (Cl t (.own ER q n 0 n)):=fun d=>by rw[List.getElem?_set_ne X5];exact e3
     repeat' first|simp (disch:=omega) only[go_sem,aC,aD,aE,aj,au,ak,Nat.reduceAdd,Nat.reduceBEq,↓reduceIte,e0,e1,e2,e3,p5,hap,hfit,wI,e4,qh,hrn]|refine aB ?_|refine aA (fun hw=>?_) (fun hw=>?_)<;>try omega|fail
     refine⟨(n+1,_),⟨by omega,aW (q:=fun j=>(iT t j).2.2=0) h2 (by rw[hrow,AJ,qh,St]),?_,?_,?_,?_,.own ER q (n+1) 0 (n+1),?_,?_⟩,by dsimp only;omega,rfl,bG,at_⟩
     ·dsimp only;simp;omega
     ·exact cW _ _ e0 (by omega) (by omega)
     ·exact cW _ _ e1 (by omega) (by omega)
     ·exact cW _ _ e2 (by omega) (by omega)
     ·dsimp only;rw[List.getElem?_set_self (by simp;omega)]
     ·dsimp only
      rw[hrl]
      have qc:eE S2 rs (gV t n):=hr.keep (fun q ys hq=>X4 _ _ hq)
      refine .inr ⟨by simp,q,rs++[.agg [x,y]],hq,by simp[jF],?_,eE.keep (fun p ys hp=>cW _ _ hp (fun e=>by subst e;rw[e3]at hp;cases hp) (fun e=>by subst e;rw[e4]at hp;cases hp)) (eE.snoc qc xm)⟩
      rw[List.getElem?_set_ne (Ne.symm X5),List.getElem?_set_self (cA e4)]
 ·obtain rfl:n=ls.length:=by omega
  have X6:([AV.str t.name,.aG false EC (t.ins.map bp),.aG false EC (t.outs.map bp),I t.bl,I t.agg,v].all AV.scalar)=true:=by simp only[List.all_cons,List.all_nil,hvs];rfl
  have hs1:∀ o,(S.set 1 o)[1]? = some o:=fun o=>List.getElem?_set_self (cA f1)
  repeat' first|simp (disch:=omega) only[go_sem,aC,aD,aE,aj,au,ak,Nat.reduceAdd,Nat.reduceBEq,↓reduceIte,f0,f1,f2,f3,X6,hs1]|refine aB ?_|refine aA (fun hw=>?_) (fun hw=>?_)<;>try omega|fail
  have h5:=h4.keep (S':=S.set 1 (Cl t v)) (fun q o hq hne=>by
   rw[List.getElem?_set_ne (fun e=>by subst e;rw[f1]at hq;cases hq;exact hne _ rfl)];exact hq)
  rw[← hE,X3 h2]
  exact bw (iW (View.mq (.cons (.refl _ rfl) (.cons (.refl _ (dh _)) (.cons (.refl _ (dh _)) (.cons (.refl _ rfl) (.cons (.refl _ rfl) (.cons h5.view (.nil _)))))))))
theorem ad8{σ : ai}{k:Nat}{w:AV}(h : σ[k]? = some (.cells [.ae,w]))(s:aH)(e:Int): ef Tryz.prog jd [.ref k 0,.str s,I e] σ fun o σ'=>o = .ret (.bool (e==0))∧σ'=(σ++[aR.vec E1 [.str s]]).set k (.cells [.own E1 σ.length 1 0 1,w]):=by
 have h2:∀ d:aR,(σ++[d])[k]? = some (.cells [.ae,w]):=fun d=>by rw[List.getElem?_append_left (cA h)];exact h
 refine mH (by simp) ?_
 unfold kT aM
 intro Q aC aD aE
 repeat' first|simp (disch:=omega) only[go_sem,aC,aD,aE,aj,au,ak,Nat.reduceAdd,Nat.reduceBEq,↓reduceIte,h,h2]|refine aB ?_|refine aA (fun hw=>?_) (fun hw=>?_)<;>try omega|fail
 exact⟨rfl,by trivial⟩
theorem ad9{σ : ai}{k:Nat}{w:AV}(h : σ[k]? = some (.cells [w,.ae]))(s:aH)(e:Int): ef Tryz.prog jd [.ref k 1,.str s,I e] σ fun o σ'=>o = .ret (.bool (e==0))∧σ'=(σ++[aR.vec E1 [.str s]]).set k (.cells [w,.own E1 σ.length 1 0 1]):=by
 have h2:∀ d:aR,(σ++[d])[k]? = some (.cells [w,.ae]):=fun d=>by rw[List.getElem?_append_left (cA h)];exact h
 refine mH (by simp) ?_
 unfold kT aM
 intro Q aC aD aE
 repeat' first|simp (disch:=omega) only[go_sem,aC,aD,aE,aj,au,ak,Nat.reduceAdd,Nat.reduceBEq,↓reduceIte,h,h2]|refine aB ?_|refine aA (fun hw=>?_) (fun hw=>?_)<;>try omega|fail
 exact⟨rfl,by trivial⟩
theorem ad_{σ : ai}{k q:Nat}{xs:List aH}{w:AV}(h : σ[k]? = some (.cells [.own E1 q xs.length 0 xs.length,w]))(hq : σ[q]? = some (.vec E1 (xs.map cy)))(hne:q≠k)(hl:xs.length≤2 ^ 30)(s:aH)(e:Int): ef Tryz.prog jd [.ref k 0,.str s,I e] σ fun o σ'=>o = .ret (.bool (e==0))∧σ'=(σ.set q (.vec E1 (xs.map cy++[.str s]))).set k (.cells [.own E1 q (xs.length+1) 0 (xs.length+1),w]):=by
 have h2:∀ d:aR,(σ.set q d)[k]? = some (.cells [.own E1 q xs.length 0 xs.length,w]):=fun d=>by rw[List.getElem?_set_ne hne];exact h
 refine mH (by simp) ?_
 unfold kT aM
 intro Q aC aD aE
 repeat' first|simp (disch:=omega) only[go_sem,aC,aD,aE,aj,au,ak,Nat.reduceAdd,Nat.reduceBEq,↓reduceIte,h,h2,hq]|refine aB ?_|refine aA (fun hw=>?_) (fun hw=>?_)<;>try omega|fail
 exact⟨rfl,by trivial⟩
theorem aea{σ : ai}{k q:Nat}{xs:List aH}{w:AV}(h : σ[k]? = some (.cells [w,.own E1 q xs.length 0 xs.length]))(hq : σ[q]? = some (.vec E1 (xs.map cy)))(hne:q≠k)(hl:xs.length≤2 ^ 30)(s:aH)(e:Int): ef Tryz.prog jd [.ref k 1,.str s,I e] σ fun o σ'=>o = .ret (.bool (e==0))∧σ'=(σ.set q (.vec E1 (xs.map cy++[.str s]))).set k (.cells [w,.own E1 q (xs.length+1) 0 (xs.length+1)]):=by
 have h2:∀ d:aR,(σ.set q d)[k]? = some (.cells [w,.own E1 q xs.length 0 xs.length]):=fun d=>by rw[List.getElem?_set_ne hne];exact h
 refine mH (by simp) ?_
 unfold kT aM
 intro Q aC aD aE
 repeat' first|simp (disch:=omega) only[go_sem,aC,aD,aE,aj,au,ak,Nat.reduceAdd,Nat.reduceBEq,↓reduceIte,h,h2,hq]|refine aB ?_|refine aA (fun hw=>?_) (fun hw=>?_)<;>try omega|fail
 exact⟨rfl,by trivial⟩
theorem dZ{S:ai}{j:Nat}{o:aR}(h:S[j]? = some o)(d:aR): (S++[d])[j]? = some o:=by rw[List.getElem?_append_left (cA h)];exact h
theorem Sv{S:ai}{j k:Nat}{o:aR}(h:S[j]? = some o)(hne:j≠k)(d:aR): (S.set k d)[j]? = some o:=by rw[List.getElem?_set_ne (Ne.symm hne)];exact h
set_option maxHeartbeats 8000000 in
theorem uN(t:Table)(h:gU t): aq Tryz.prog kI [bI t] (MH (bZ t)):=by
 have cm:=TZ t h
 obtain⟨E,hE⟩:∃ E,MH (bZ t)=E:=⟨_,rfl⟩
 rw[hE]
 by_cases he:(cI t).2.2.2≠0
 ·have hc:=rV he
  obtain⟨M,hM⟩:∃ M,cI t=M:=⟨_,rfl⟩
  rw[hM]at cm hc he
  simp only[Pm,uC,bI,dc,bq,cQ,xd]at cm ⊢
  refine aq.of_nil (Bh (by simp) ?_) (by simp)
  unfold vN aM
  intro Q aC aD aE
  repeat' first|refine aB ?_|refine aF cm ?_|refine aA (fun hw=>?_) (fun hw=>?_)<;>try omega|fail
  all_goals first
   | exact aZ
   |(rw[← hE,hc];exact bw (iW (jl _)))
 have H7:(cI t).2.2.2=0:=by omega
 obtain⟨hf,hl,hm⟩:=qP H7
 obtain⟨hlen,hok⟩:=wH h H7
 have Gp:=fun n=>MJ (t:=t) H7 (n:=n)
 have X3:=BL H7
 obtain⟨ls,hls⟩:∃ ls,(cI t).1.lines=ls:=⟨_,rfl⟩
 have AJ:∀ n,sD t n=ls.getD n default:=fun n=>by rw[← hls];rfl
 have c9:jv t t.rules.length=ls:=by rw[← hls,hm]
 rw[hls]at hlen Gp X3
 rw[hm,c9]at cm
 have Zu:=h.2.2.2.1
 have agm:=h.2.1.1
 clear hm c9 hl hf H7 hls he
 simp only[Pm,uC,bI,dc,bq,cQ,xd]at cm ⊢
 refine aq.of_nil (Bh (by simp) ?_) (by simp)
 unfold vN aM
 intro Q aC aD aE
 repeat' first|refine aB ?_|refine aF cm ?_|refine aA (fun hw=>?_) (fun hw=>?_)<;>try omega|fail
 all_goals first|exact aZ|skip
 with_reducible refine a_ [7,8,9,13,14,15,16,17,18,19,20,39,40,41,42,43,44,45,46,47,48,49,50,51,52,53,54,55,56,57,58,59,60,61,62,63,64,65,66,67,68,69,70,71,72,73,74,75,76,77,78,79,80,81,82,83,84,85,86,87,88,89,90,91,92,93,94,95,96,97,98] (fun q:Nat × ai=>[(39,I q.1),(9,I 0)]) (fun q=>q.2) (fun q=>q.1≤ls.length∧(∀ k,k<q.1→(iT t k).2.2=0)∧5≤q.2.length∧q.2[0]? = some (Cl t (.aG false ER (t.rules.map cj)))∧q.2[1]? = some (.cells [.str [],.ae,.ae,I 0,I 0,.ae])∧q.2[2]? = some (acI t ls)∧(∃ v,q.2[3]? = some (Cl t v)∧qg 5 q.2 v (gV t q.1))∧ ∃ a b,q.2[4]? = some (.cells [a,b])) (fun q=>ls.length-q.1) (0,_) ⟨Nat.zero_le _,fun k hk=>by omega,by simp,rfl,rfl,rfl,⟨_,rfl,qg.nil _ _⟩,_,_,rfl⟩ rfl ?_ ?_
 ·exact at_
 rintro⟨n,S⟩ rr ⟨h1,h2,h3,f0,f1,f2,⟨v,f3,h4⟩,xa,xb,f4⟩
 dsimp only at h1 h2 h3 f0 f1 f2 f3 h4 f4
 have hvs:=h4.scalar
 by_cases hn:n<ls.length
 ·have KE:=hok n
  have hrow:iT t n=rq t.ins.length (sD t n):=rfl
  have o9:=Gp n hn h2
  have hrl:=MI t n
  rw[hrow,H6]at hrl
  rw[hrow]at o9
  rw[AJ]at KE o9 hrl
  obtain⟨l,qh⟩:∃ l,ls.getD n default=l:=⟨_,rfl⟩
  rw[qh]at KE o9 hrl
  obtain⟨⟨k1,k2⟩,k3,k4⟩:=KE
  have f4a:∀ d:aR,(S++[d])[4]? = some (.cells [xa,xb]):=fun d=>dZ f4 d
  have hSl:(S++[aR.cells [.aG false EC (l.cells.map br),.aG false EX (l.outs.map aJ)]])[S.length]? = some (.cells [.aG false EC (l.cells.map br),.aG false EX (l.outs.map aJ)]):=xA _ _
  have acJ:∀ d:aR,((S++[aR.cells [.aG false EC (l.cells.map br),.aG false EX (l.outs.map aJ)]]).set 4 d)[S.length]? = some (.cells [.aG false EC (l.cells.map br),.aG false EX (l.outs.map aJ)]):=fun d=>Sv hSl (by omega) d
  repeat' first|simp (disch:=omega) only[go_sem,aC,aD,aE,aj,au,ak,Nat.reduceAdd,Nat.reduceBEq,↓reduceIte,f0,f1,f2,f3,f4,f4a,acJ,qh]|refine aB ?_|refine aA (fun hw=>?_) (fun hw=>?_)<;>try omega|fail
  with_reducible refine a_ [8,9,15,16,17,49,50,51,52,53,54,55,56,57,58,59,60,61,62,63,64,65,66] (fun q:Nat × ai=>[(49,I q.1),(9,I 0)]) (fun q=>q.2) (fun q=>q.1≤l.cells.length∧(∀ k,k<q.1→(fq l k).2=0)∧S.length<q.2.length∧(∀ j o,S[j]? = some o→j≠4→q.2[j]? = some o)∧q.2[S.length]? = some (.cells [.aG false EC (l.cells.map br),.aG false EX (l.outs.map aJ)])∧ ∃ x,q.2[4]? = some (.cells [x,.ae])∧lz (S.length+1) q.2 x (bj l q.1)) (fun q=>l.cells.length-q.1) (0,_) ⟨Nat.zero_le _,fun k hk=>by omega,by simp,fun j o hj hne=>Sv (dZ hj _) hne _,acJ _,.ae,List.getElem?_set_self (cA (f4a _)),lz.nil _ _⟩ rfl ?_ ?_
  ·exact at_
  rintro⟨m,S1⟩ rr ⟨g1,g2,g3,g4,gl,x,g5,g6⟩
  dsimp only at g1 g2 g3 g4 gl g5 g6
  have e0:=g4 _ _ f0 (by omega)
  have e1:=g4 _ _ f1 (by omega)
  have e2:=g4 _ _ f2 (by omega)
  have e3:=g4 _ _ f3 (by omega)
  by_cases hml:m<l.cells.length
  ·have cT:aq Tryz.prog rG [br (l.cells.getD m default)] (.bJ [.str (fq l m).1,I (fq l m).2]):=XX _ (k2 _ (aY hml))
   have hsc:=JM l m
   have hlm:=nQ l m
   have hce:=Pn t.ins.length hml g2
   have hb2:=fun he=>aW (q:=fun j=>(fq l j).2=0) g2 he
   obtain⟨a,ha⟩:∃ a,fq l m=a:=⟨_,rfl⟩
   rw[ha]at cT hsc hce hb2
   obtain⟨c,hc⟩:∃ c,l.cells.getD m default=c:=⟨_,rfl⟩
   rw[hc]at cT
   simp only[br,dG]at cT
   obtain⟨xs,hxs⟩:∃ xs,bj l m=xs:=⟨_,rfl⟩
   rw[hxs]at g6 hsc hlm
   rcases g6 with⟨rfl,rfl⟩|⟨hne,q,hq,rfl,jG⟩
   ·repeat' first|simp (disch:=omega) only[go_sem,aC,aD,aE,aj,au,ak,Nat.reduceAdd,Nat.reduceBEq,↓reduceIte,e0,e1,e2,e3,gl,g5,qh,hc]|refine aB ?_|refine aF cT ?_|with_reducible refine bT (ad8 (dZ g5 _) _ _) ?_|refine aA (fun hw=>?_) (fun hw=>?_)<;>try omega|fail
    rintro o s ⟨rfl,n_⟩
    have y1:s[1]? = some (.cells [.str [],.ae,.ae,I 0,I 0,.ae]):=by rw[n_];exact cJ _ _ (dZ e1 _) (by omega)
    have hs1:∀ d,(s.set 1 d)[1]? = some d:=fun d=>List.getElem?_set_self (cA y1)
    repeat' first|simp (disch:=omega) only[go_sem,aC,aD,aE,aj,au,ak,Nat.reduceAdd,Nat.reduceBEq,↓reduceIte,y1,hs1]|refine aB ?_|refine aA (fun hw=>?_) (fun hw=>?_)<;>try omega|fail
    ·rw[hce (by assumption)]at o9
     rw[← hE,o9 (by assumption)]
     exact bw (iW (jl _))
    ·have ha0:a.2=0:=by assumption
     refine⟨(m+1,s),⟨by omega,hb2 ha0,?_,?_,?_,.own E1 (S1.length+1) 1 0 1,?_,?_⟩,by dsimp only;omega,rfl,bG,(by simp only[ha0];simp (disch:=omega) only[cU,cE,and_true,go_sem,aC,aD,aE,aj,au,ak,Nat.reduceAdd,Nat.reduceBEq,↓reduceIte,Int.natCast_add,Int.cast_ofNat_Int]<;>(try trivial)<;>(try omega)<;>(try (repeat (first|trivial|(refine And.intro ?_ ?_)|(congr 1;omega)))))⟩
     ·dsimp only;rw[n_];simp;omega
     ·intro j o hj hne;dsimp only;rw[n_];exact cJ j o (dZ (g4 _ _ hj hne) _) hne
     ·dsimp only;rw[n_];exact cJ _ _ (dZ gl _) (by omega)
     ·dsimp only;rw[n_,List.getElem?_set_self (by simp;omega)]
     ·dsimp only;rw[hsc,n_];have:=wq (S1:=S1++[aR.cells [.bool c.any,.bool c.neg,.aG false ES (c.tests.map bx)]]) (L:=S.length+1) (k:=4) (c:= .cells [.own E1 (S1++[aR.cells [.bool c.any,.bool c.neg,.aG false ES (c.tests.map bx)]]).length 1 0 1,.ae]) (s:=a.1) (by simp;omega) (by simp;omega)
      simpa using this
   ·have xo:q≠4:=by omega
    repeat' first|simp (disch:=omega) only[go_sem,aC,aD,aE,aj,au,ak,Nat.reduceAdd,Nat.reduceBEq,↓reduceIte,e0,e1,e2,e3,gl,g5,qh,hc]|refine aB ?_|refine aF cT ?_|with_reducible refine bT (ad_ (dZ g5 _) (dZ jG _) xo (by omega) _ _) ?_|refine aA (fun hw=>?_) (fun hw=>?_)<;>try omega|fail
    rintro o s ⟨rfl,n_⟩
    have y1:s[1]? = some (.cells [.str [],.ae,.ae,I 0,I 0,.ae]):=by rw[n_];exact cW _ _ (dZ e1 _) (by omega) (by omega)
    have hs1:∀ d,(s.set 1 d)[1]? = some d:=fun d=>List.getElem?_set_self (cA y1)
    repeat' first|simp (disch:=omega) only[go_sem,aC,aD,aE,aj,au,ak,Nat.reduceAdd,Nat.reduceBEq,↓reduceIte,y1,hs1]|refine aB ?_|refine aA (fun hw=>?_) (fun hw=>?_)<;>try omega|fail
    ·rw[hce (by assumption)]at o9
     rw[← hE,o9 (by assumption)]
     exact bw (iW (jl _))
    ·have ha0:a.2=0:=by assumption
     refine⟨(m+1,s),⟨by omega,hb2 ha0,?_,?_,?_,.own E1 q (xs.length+1) 0 (xs.length+1),?_,?_⟩,by dsimp only;omega,rfl,bG,(by simp only[ha0];simp (disch:=omega) only[cU,cE,and_true,go_sem,aC,aD,aE,aj,au,ak,Nat.reduceAdd,Nat.reduceBEq,↓reduceIte,Int.natCast_add,Int.cast_ofNat_Int]<;>(try trivial)<;>(try omega)<;>(try (repeat (first|trivial|(refine And.intro ?_ ?_)|(congr 1;omega)))))⟩
     ·dsimp only;rw[n_];simp;omega
     ·intro j o hj hne;dsimp only;have:=cA hj;rw[n_];exact cW j o (dZ (g4 _ _ hj hne) _) hne (by omega)
     ·dsimp only;rw[n_];exact cW _ _ (dZ gl _) (by omega) (by omega)
     ·dsimp only;rw[n_,List.getElem?_set_self (by simp;omega)]
     ·dsimp only;rw[hsc,n_];exact y9 (dZ jG _) hq (Ne.symm xo)
  ·obtain rfl:m=l.cells.length:=by omega
   have Zv:=fun {k:Nat}=>Ss t.ins.length g2 (m:=k)
   have Zw:=UY t.ins.length g2
   repeat' first|simp (disch:=omega) only[go_sem,aC,aD,aE,aj,au,ak,Nat.reduceAdd,Nat.reduceBEq,↓reduceIte,e0,e1,e2,e3,gl,g5,qh]|refine aB ?_|refine aA (fun hw=>?_) (fun hw=>?_)<;>try omega|fail
   with_reducible refine a_ [8,9,18,19,20,70,71,72,73,74,75,76,77,78,79,80,81,82,83,84,85,86,87,88,89,90,91] (fun q:Nat × ai=>[(70,I q.1),(9,I 0)]) (fun q=>q.2) (fun q=>q.1≤l.outs.length∧(∀ k,k<q.1→(iy l k).2=0)∧S1.length≤q.2.length∧(∀ j o,S1[j]? = some o→j≠4→q.2[j]? = some o)∧ ∃ y,q.2[4]? = some (.cells [x,y])∧lz S1.length q.2 y (iX l q.1)) (fun q=>l.outs.length-q.1) (0,_) ⟨Nat.zero_le _,fun k hk=>by omega,Nat.le_refl _,fun j o hj _=>hj,_,g5,lz.nil _ _⟩ rfl ?_ ?_
   ·exact at_
   rintro⟨m,S2⟩ rr ⟨p1,p2,p3,p4,y,p5,p6⟩
   dsimp only at p1 p2 p3 p4 p5 p6
   have e0:=p4 _ _ e0 (by omega)
   have e1:=p4 _ _ e1 (by omega)
   have e2:=p4 _ _ e2 (by omega)
   have e3:=p4 _ _ e3 (by omega)
   have gl:=p4 _ _ gl (by omega)
   have hS2:S.length<S2.length:=by omega
   by_cases hml:m<l.outs.length
   ·have cT:aq Tryz.prog lO [aJ (l.outs.getD m default)] (.bJ [.str (iy l m).1,I (iy l m).2]):=JJ _ (k4 _ (aY hml)).1 (k4 _ (aY hml)).2
    have hsc:=MG l m
    have hlm:=qf l m
    have hce:=Zv hml p2
    have hb2:=fun he=>aW (q:=fun j=>(iy l j).2=0) p2 he
    obtain⟨a,ha⟩:∃ a,iy l m=a:=⟨_,rfl⟩
    rw[ha]at cT hsc hce hb2
    obtain⟨c,hc⟩:∃ c,l.outs.getD m default=c:=⟨_,rfl⟩
    rw[hc,aN]at cT
    obtain⟨xs,hxs⟩:∃ xs,iX l m=xs:=⟨_,rfl⟩
    rw[hxs]at p6 hsc hlm
    rcases p6 with⟨rfl,rfl⟩|⟨hne,q,hq,rfl,jG⟩
    ·have e0':=fun d=>dZ e0 d
     repeat' first|simp (disch:=omega) only[go_sem,aC,aD,aE,aj,au,ak,Nat.reduceAdd,Nat.reduceBEq,↓reduceIte,e0,e0',e1,e2,e3,gl,p5,qh,hc]|refine aB ?_|refine aF cT ?_|with_reducible refine bT (ad9 (dZ p5 _) _ _) ?_|refine aA (fun hw=>?_) (fun hw=>?_)<;>try omega|fail
     rintro o s ⟨rfl,n_⟩
     have y1:s[1]? = some (.cells [.str [],.ae,.ae,I 0,I 0,.ae]):=by rw[n_];exact cJ _ _ (dZ e1 _) (by omega)
     have hs1:∀ d,(s.set 1 d)[1]? = some d:=fun d=>List.getElem?_set_self (cA y1)
     repeat' first|simp (disch:=omega) only[go_sem,aC,aD,aE,aj,au,ak,Nat.reduceAdd,Nat.reduceBEq,↓reduceIte,y1,hs1]|refine aB ?_|refine aA (fun hw=>?_) (fun hw=>?_)<;>try omega|fail
     ·rw[hce (by assumption)]at o9
      rw[← hE,o9 (by assumption)]
      exact bw (iW (jl _))
     ·have ha0:a.2=0:=by assumption
      refine⟨(m+1,s),⟨by omega,hb2 ha0,?_,?_,.own E1 (S2.length+1) 1 0 1,?_,?_⟩,by dsimp only;omega,rfl,bG,(by simp only[ha0];simp (disch:=omega) only[cU,cE,and_true,go_sem,aC,aD,aE,aj,au,ak,Nat.reduceAdd,Nat.reduceBEq,↓reduceIte,Int.natCast_add,Int.cast_ofNat_Int]<;>(try trivial)<;>(try omega)<;>(try (repeat (first|trivial|(refine And.intro ?_ ?_)|(congr 1;omega)))))⟩
      ·dsimp only;rw[n_];simp;omega
      ·intro j o hj hne;dsimp only;rw[n_];exact cJ j o (dZ (p4 _ _ hj hne) _) hne
      ·dsimp only;rw[n_,List.getElem?_set_self (by simp;omega)]
      ·dsimp only;rw[hsc,n_];have:=wq (S1:=S2++[aR.cells [I c.op,I c.v.kind,I c.v.n,.str c.v.s,.str c.s,.aG false EX (c.l.map aJ)]]) (L:=S1.length) (k:=4) (c:= .cells [x,.own E1 (S2++[aR.cells [I c.op,I c.v.kind,I c.v.n,.str c.v.s,.str c.s,.aG false EX (c.l.map aJ)]]).length 1 0 1]) (s:=a.1) (by simp;omega) (by simp;omega)
       simpa using this
    ·have xo:q≠4:=by omega
     have e0':=fun d=>dZ e0 d
     repeat' first|simp (disch:=omega) only[go_sem,aC,aD,aE,aj,au,ak,Nat.reduceAdd,Nat.reduceBEq,↓reduceIte,e0,e0',e1,e2,e3,gl,p5,qh,hc]|refine aB ?_|refine aF cT ?_|with_reducible refine bT (aea (dZ p5 _) (dZ jG _) xo (by omega) _ _) ?_|refine aA (fun hw=>?_) (fun hw=>?_)<;>try omega|fail
     rintro o s ⟨rfl,n_⟩
     have y1:s[1]? = some (.cells [.str [],.ae,.ae,I 0,I 0,.ae]):=by rw[n_];exact cW _ _ (dZ e1 _) (by omega) (by omega)
     have hs1:∀ d,(s.set 1 d)[1]? = some d:=fun d=>List.getElem?_set_self (cA y1)
     repeat' first|simp (disch:=omega) only[go_sem,aC,aD,aE,aj,au,ak,Nat.reduceAdd,Nat.reduceBEq,↓reduceIte,y1,hs1]|refine aB ?_|refine aA (fun hw=>?_) (fun hw=>?_)<;>try omega|fail
     ·rw[hce (by assumption)]at o9
      rw[← hE,o9 (by assumption)]
      exact bw (iW (jl _))
     ·have ha0:a.2=0:=by assumption
      refine⟨(m+1,s),⟨by omega,hb2 ha0,?_,?_,.own E1 q (xs.length+1) 0 (xs.length+1),?_,?_⟩,by dsimp only;omega,rfl,bG,(by simp only[ha0];simp (disch:=omega) only[cU,cE,and_true,go_sem,aC,aD,aE,aj,au,ak,Nat.reduceAdd,Nat.reduceBEq,↓reduceIte,Int.natCast_add,Int.cast_ofNat_Int]<;>(try trivial)<;>(try omega)<;>(try (repeat (first|trivial|(refine And.intro ?_ ?_)|(congr 1;omega)))))⟩
      ·dsimp only;rw[n_];simp;omega
      ·intro j o hj hne;dsimp only;have:=cA hj;rw[n_];exact cW j o (dZ (p4 _ _ hj hne) _) hne (by omega)
      ·dsimp only;rw[n_,List.getElem?_set_self (by simp;omega)]
      ·dsimp only;rw[hsc,n_];exact y9 (dZ jG _) hq (Ne.symm xo)
   ·obtain rfl:m=l.outs.length:=by omega
    have St:=Zw p2
    have Gw:lz (S.length+1) S2 x (bj l l.cells.length):=g6.keep (Nat.le_refl _) (fun q ys hq jG=>p4 q _ jG (by omega))
    have hxs:=Gw.scalar
    have hys:=p6.scalar
    have xm:N_ S2 (.agg [x,y]) ⟨bj l l.cells.length,iX l l.outs.length⟩:=⟨x,y,rfl,Gw.keep (Nat.zero_le _) (fun _ _ _ h=>h),p6.keep (Nat.zero_le _) (fun _ _ _ h=>h)⟩
    have hfit:([AV.agg [x,y]].all fun a=>AV.fits ⟨true,2⟩ a)=true:=by simp only[AV.fits,List.length_cons,List.length_nil,List.all_cons,List.all_nil,hxs,hys];rfl
    have wI:AV.fits ⟨true,2⟩ (.agg [x,y])=true:=by simpa using hfit
    have X4:∀ (q:Nat) (o:aR),S[q]? = some o→q≠4→S2[q]? = some o:=fun q o hq hne=>p4 q o (g4 q o hq hne) hne
    rcases h4 with⟨h4,rfl⟩|⟨h4,q,rs,hq,rfl,jG,hr⟩
    ·have hap:∀ d:aR,(S2++[d])[3]? = some (Cl t .ae):=fun d=>dZ e3 d
     repeat' first|simp (disch:=omega) only[go_sem,aC,aD,aE,aj,au,ak,Nat.reduceAdd,Nat.reduceBEq,↓reduceIte,e0,e1,e2,e3,p5,hap,hfit,wI,qh]|refine aB ?_|refine aA (fun hw=>?_) (fun hw=>?_)<;>try omega|fail
     refine⟨(n+1,_),⟨by omega,aW (q:=fun j=>(iT t j).2.2=0) h2 (by rw[hrow,AJ,qh,St]),?_,?_,?_,?_,⟨.own ER S2.length 1 0 1,?_,?_⟩,x,y,?_⟩,by dsimp only;omega,rfl,bG,at_⟩
     ·dsimp only;simp;omega
     ·exact cJ _ _ e0 (by omega)
     ·exact cJ _ _ e1 (by omega)
     ·exact cJ _ _ e2 (by omega)
     ·dsimp only;rw[List.getElem?_set_self (by simp;omega)]
     ·dsimp only
      rw[hrl,h4]
      refine .inr ⟨by simp,S2.length,[.agg [x,y]],by omega,rfl,?_,eE.keep (fun q ys hq=>cJ _ _ hq (fun e=>by subst e;rw[e3]at hq;cases hq)) (eE.snoc (eE.nil S2) xm)⟩
      rw[List.getElem?_set_ne (by omega)];simp
     ·exact cJ _ _ p5 (by omega)
    ·have X5:q≠3:=by omega
     have e4:=X4 _ _ jG (by omega)
     rw[jF]at e3
     have hrn:rs.length=n:=by rw[hr.1,jF]
     have hap:∀ d:aR,(S2.set q d)[3]? = some (Cl t (.own ER q n 0 n)):=fun d=>by rw[List.getElem?_set_ne X5];exact e3
     repeat' first|simp (disch:=omega) only[go_sem,aC,aD,aE,aj,au,ak,Nat.reduceAdd,Nat.reduceBEq,↓reduceIte,e0,e1,e2,e3,p5,hap,hfit,wI,e4,qh,hrn]|refine aB ?_|refine aA (fun hw=>?_) (fun hw=>?_)<;>try omega|fail
     refine⟨(n+1,_),⟨by omega,aW (q:=fun j=>(iT t j).2.2=0) h2 (by rw[hrow,AJ,qh,St]),?_,?_,?_,?_,⟨.own ER q (n+1) 0 (n+1),?_,?_⟩,x,y,?_⟩,by dsimp only;omega,rfl,bG,at_⟩
     ·dsimp only;simp;omega
     ·exact cW _ _ e0 (by omega) (by omega)
     ·exact cW _ _ e1 (by omega) (by omega)
     ·exact cW _ _ e2 (by omega) (by omega)
     ·dsimp only;rw[List.getElem?_set_self (by simp;omega)]
     ·dsimp only
      rw[hrl]
      have qc:eE S2 rs (gV t n):=hr.keep (fun q ys hq=>X4 _ _ hq (fun e=>by subst e;rw[f4]at hq;cases hq))
      refine .inr ⟨by simp,q,rs++[.agg [x,y]],hq,by simp[jF],?_,eE.keep (fun p ys hp=>cW _ _ hp (fun e=>by subst e;rw[e3]at hp;cases hp) (fun e=>by subst e;rw[e4]at hp;cases hp)) (eE.snoc qc xm)⟩
      rw[List.getElem?_set_ne (Ne.symm X5),List.getElem?_set_self (cA e4)]
     ·exact cW _ _ p5 (by omega) (by omega)
 ·obtain rfl:n=ls.length:=by omega
  have X6:([AV.str t.name,.aG false EC (t.ins.map bp),.aG false EC (t.outs.map bp),I t.bl,I t.agg,v].all AV.scalar)=true:=by simp only[List.all_cons,List.all_nil,hvs];rfl
  have hs1:∀ o,(S.set 1 o)[1]? = some o:=fun o=>List.getElem?_set_self (cA f1)
  repeat' first|simp (disch:=omega) only[go_sem,aC,aD,aE,aj,au,ak,Nat.reduceAdd,Nat.reduceBEq,↓reduceIte,f0,f1,f2,f3,X6,hs1]|refine aB ?_|refine aA (fun hw=>?_) (fun hw=>?_)<;>try omega|fail
  have h5:=h4.keep (S':=S.set 1 (Cl t v)) (fun q o hq hne=>by
   rw[List.getElem?_set_ne (fun e=>by subst e;rw[f1]at hq;cases hq;exact hne _ rfl)];exact hq)
  rw[← hE,X3 h2]
  exact bw (iW (View.mq (.cons (.refl _ rfl) (.cons (.refl _ (dh _)) (.cons (.refl _ (dh _)) (.cons (.refl _ rfl) (.cons (.refl _ rfl) (.cons h5.view (.nil _)))))))))
end Go.Proofs.YtmbgnaoilncbnaaGreatDoor
