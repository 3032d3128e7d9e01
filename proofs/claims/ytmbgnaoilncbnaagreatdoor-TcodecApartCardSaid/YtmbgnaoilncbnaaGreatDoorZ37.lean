/- Part of a proof: see Root. -/
import Derived.Test.YtmbgnaoilncbnaaGreatDoorZ36
import Derived.WalkKit
import Derived.ProofKit
import Derived.OpenShut
import Derived.ReadAgain
import Derived.Deep.SlicePairs
set_option linter.unnecessarySimpa false
set_option linter.unusedSimpArgs false
set_option linter.unusedVariables false
namespace Go.Proofs.YtmbgnaoilncbnaaGreatDoor
open Go.AM
set_option maxRecDepth 4000
theorem ZR{s:aH}(h:s.length≤1400): dI true s=if(fS true s).2.2=true∨(fS true s).2.1≠[]∨cH (fS true s).1≠(s,0)then (fJ,4)else ((fS true s).1,0):=by
 unfold dI;rw[if_neg (by omega)];simp
theorem Ud{z:Bool}{w v k:Nat}{out:List cK}{s:aH}{b:Bool}(h:k=0∨b=true): gu z w v k out s b=(out,s,b):=by
 cases k with
 | zero=>rfl
 | succ k =>
   rcases h with h|h
   ·cases h
   ·rw[gu,if_pos h]
theorem lz.len{L:Nat}{S:ai}{v:AV}{xs:List aH}(h:lz L S v xs)(K:AV→Prop): Gq false v (.mk:Tg K)=K (I xs.length):=by
 rcases h with⟨rfl,rfl⟩|⟨_,q,_,rfl,_⟩
 ·rw[OS];rfl
 ·rw[Rl]
theorem qg.len{L:Nat}{S:ai}{v:AV}{l:List cK}(h:qg L S v l)(K:AV→Prop): Gq false v (.mk:Tg K)=K (I l.length):=by
 rcases h with⟨rfl,rfl⟩|⟨_,q,_,_,rfl,_⟩
 ·rw[OS];rfl
 ·rw[Rl]
theorem jH{S:ai}{j k:Nat}{o d:aR}(h:S[j]? = some o)(hne:j≠k): (S.set k d)[j]? = some o:=by rw[List.getElem?_set_ne (Ne.symm hne)];exact h
abbrev vv(s:aH)(b:Bool): aR:= .cells [.str s,.bool b]
set_option maxHeartbeats 8000000 in
theorem Ue(s:aH): aq Tryz.prog xB [.str s] (AR (dI true s)):=by
 by_cases j4:1400<s.length
 ·rw[MU true j4]
  refine aq.of_nil (CE (by simp) ?_) (by simp[AR])
  unfold xV aM
  intro Q aC aD aE
  repeat' first|refine aB ?_|refine aA (fun hw=>?_) (fun hw=>?_)<;>try omega|fail
  exact bw (BN (jl _))
 have hs:s.length≤1400:=by omega
 have ok:=(AO true hs).1
 have cB:=JS _ ok
 clear ok
 rw[ZR hs]
 have h1:=nv s false
 have c1:=wM s false (by omega)
 obtain⟨⟨nm,s1,b1⟩,ha⟩:∃ a,dV s false=a:=⟨_,rfl⟩
 rw[ha]at h1 c1
 dsimp only at h1 c1
 have h2:=jm s1 b1
 have c2:=xu s1 b1 (by omega)
 obtain⟨⟨po,s2,b2⟩,hp⟩:∃ a,fj s1 b1=a:=⟨_,rfl⟩
 rw[hp]at h2 c2
 dsimp only at h2 c2
 have h3:=jm s2 b2
 have c3:=xu s2 b2 (by omega)
 obtain⟨⟨ag,s3,b3⟩,hg⟩:∃ a,fj s2 b2=a:=⟨_,rfl⟩
 rw[hg]at h3 c3
 dsimp only at h3 c3
 have h4:=oF none s3 b3 (n:=1400) (by omega)
 have c4:=JT false s3 b3 (by omega)
 have e9:AU false=none:=rfl
 rw[e9]at c4
 obtain⟨⟨ins,s4,b4⟩,hi⟩:∃ a,dR none s3 b3=a:=⟨_,rfl⟩
 rw[hi]at h4 c4
 dsimp only at h4 c4
 have h5:=oF (some 1400) s4 b4 (n:=1400) (by omega)
 have c5:=JT true s4 b4 (by omega)
 have e9:AU true=some 1400:=rfl
 rw[e9]at c5
 obtain⟨⟨outs,s5,b5⟩,ho⟩:∃ a,dR (some 1400) s4 b4=a:=⟨_,rfl⟩
 rw[ho]at h5 c5
 dsimp only at h5 c5
 have h6:=jm s5 b5
 have c6:=xu s5 b5 (by omega)
 obtain⟨⟨n,s6,b6⟩,hn⟩:∃ a,fj s5 b5=a:=⟨_,rfl⟩
 rw[hn]at h6 c6
 dsimp only at h6 c6
 obtain⟨R,hR⟩:∃ R,gu true ins.length outs.length n.toNat [] s6 b6=R:=⟨_,rfl⟩
 have hrd:fS true s=(⟨nm,ins,outs,po,ag,R.1⟩,R.2.1,R.2.2):=by
  have e8:KJ true=1400:=rfl
  unfold fS
  rw[ha];dsimp only
  rw[hp];dsimp only
  rw[hg];dsimp only
  rw[hi,e8];dsimp only
  rw[ho];dsimp only
  rw[hn];dsimp only
  rw[show Cn true n=n.toNat from rfl,hR]
 clear ha hp hg hi ho hn
 rw[hrd]at cB ⊢
 clear hrd
 dsimp only at cB ⊢
 obtain⟨E,hE⟩:∃ E,(if R.2.2=true∨R.2.1≠[]∨cH ⟨nm,ins,outs,po,ag,R.1⟩≠(s,0)then (fJ,4)else (⟨nm,ins,outs,po,ag,R.1⟩,0):Table × Int)=E:=⟨_,rfl⟩
 rw[hE]
 have li:ins.length≤1401:=h4.2.1
 have lo:outs.length≤1401:=h5.2.1
 simp only[fI,bq]at c1 c2 c3 c4 c5 c6
 refine aq.of_nil (CE (by simp) ?_) (by simp[AR])
 unfold xV aM
 intro Q aC aD aE
 repeat' first|refine aB ?_|refine aS c1 ?_|refine aS c2 ?_|refine aS c3 ?_|refine aS c4 ?_|refine aS c5 ?_|refine aS c6 ?_|refine aA (fun hw=>?_) (fun hw=>?_)<;>try omega|fail
 clear c1 c2 c3 c4 c5 c6
 with_reducible refine a_ [7,8,9,10,33,34,35,36,37,38,39,40,41,42,43,44,45,46,47,48,49,50,51,52,53,54,55,56,57,58,59,60,61,62,63,64,65,66,67,68,69,70,71,72,73,74,75,76,77,78,79,80,81,82,83,84,85,86,87,88,89,90] (fun q:List cK × aH × Bool × ai=>[(7,I q.1.length)]) (fun q=>q.2.2.2) (fun q=>q.1.length+q.2.1.length+(if q.2.2.1 then 0 else 1)≤1401∧R=gu true ins.length outs.length (n.toNat-q.1.length) q.1 q.2.1 q.2.2.1∧3≤q.2.2.2.length∧q.2.2.2[0]? = some o0T∧q.2.2.2[1]? = some (vv q.2.1 q.2.2.1)∧ ∃ v,q.2.2.2[2]? = some (Il nm ins outs po ag v)∧qg 3 q.2.2.2 v q.1) (fun q=>n.toNat-q.1.length) ([],s6,b6,_) ⟨by dsimp only;split<;>simp<;>omega,by simpa using hR.symm,by simp,rfl,rfl,_,rfl,qg.nil _ _⟩ rfl ?_ ?_
 ·exact at_
 rintro⟨rs,t0,b0,S⟩ u ⟨g1,g2,g3,f0,f1,v,f2,g4⟩
 dsimp only at g1 g2 g3 f0 f1 f2 g4
 have hvs:=g4.scalar
 have hvl:=g4.len
 by_cases hgo:(rs.length:Int)<n∧b0=false
 ·obtain⟨hlt,rfl⟩:=hgo
  obtain⟨j,hj⟩:∃ j,n.toNat-rs.length=j+1:=⟨n.toNat-rs.length-1,by omega⟩
  rw[hj,gu,if_neg (by simp)]at g2
  simp only[Bool.false_eq_true,if_false]at g1
  have hro:=KM true ins.length outs.length t0 false (n:=1400) (by omega)
  unfold kD at g2 hro
  dsimp only at g2 hro
  obtain⟨X,hX⟩:∃ X,de ins.length [] t0 false=X:=⟨_,rfl⟩
  rw[hX]at g2 hro
  obtain⟨Y,hY⟩:∃ Y,de outs.length [] X.2.1 X.2.2=Y:=⟨_,rfl⟩
  rw[hY]at g2 hro
  have hXo:=xq ins.length [] t0 false 1400 (by omega) (by simp)
  rw[hX]at hXo
  have hYo:=xq outs.length [] X.2.1 X.2.2 1400 (by omega) (by simp)
  rw[hY]at hYo
  have e1n:(1:Nat)≠S.length:=by omega
  repeat' first|simp (disch:=omega) only[go_sem,aC,aD,aE,aj,au,ak,Nat.reduceAdd,Nat.reduceBEq,↓reduceIte,f0,f1,f2]|refine aB ?_|refine aA (fun hw=>?_) (fun hw=>?_)<;>try omega|fail
  with_reducible refine a_ [9,46,47,48,49,50,51,52,53,54,55,56,57,58,59] (fun q:List aH × aH × Bool × ai=>[(9,I q.1.length)]) (fun q=>q.2.2.2) (fun q=>q.1.length≤ins.length∧q.2.1.length≤1400∧X=de (ins.length-q.1.length) q.1 q.2.1 q.2.2.1∧S.length<q.2.2.2.length∧(∀ j o,S[j]? = some o→j≠1→q.2.2.2[j]? = some o)∧q.2.2.2[1]? = some (vv q.2.1 q.2.2.1)∧ ∃ x,q.2.2.2[S.length]? = some (.cells [x,.ae])∧lz (S.length+1) q.2.2.2 x q.1) (fun q=>ins.length-q.1.length) ([],t0,false,_) ⟨by simp,by dsimp only;omega,by dsimp only;rw[List.length_nil,Nat.sub_zero];exact hX.symm,by simp,fun j o hj _=>by rw[List.getElem?_append_left (cA hj)];exact hj,by rw[List.getElem?_append_left (cA f1)];exact f1,_,xA _ _,lz.nil _ _⟩ rfl ?_ ?_
  ·exact at_
  rintro⟨xs,t1,b1,S1⟩ rr ⟨k1,k2,k3,k4,k5,k6,x,k7,k8⟩
  dsimp only at k1 k2 k3 k4 k5 k6 k7 k8
  have d2:=k5 _ _ f2 (by omega)
  by_cases hm:xs.length<ins.length
  ·obtain⟨i,hi⟩:∃ i,ins.length-xs.length=i+1:=⟨ins.length-xs.length-1,by omega⟩
   rw[hi,de]at k3
   have cT:=wM t1 b1 (by omega)
   have hl:=nv t1 b1
   generalize dV t1 b1=a at *
   obtain⟨z,t2,b2⟩:=a
   dsimp only at k3 cT hl
   simp only[fI]at cT
   have hin:ins.length-(xs++[z]).length=i:=by simp;omega
   have m7:∀ d:aR,(S1.set 1 d)[S.length]? = some (.cells [x,.ae]):=fun d=>jH k7 (Ne.symm e1n)
   have m1:(S1.set 1 (vv t2 b2))[1]? = some (vv t2 b2):=List.getElem?_set_self (cA k6)
   have hS1:(S1.set 1 (vv t2 b2)).length=S1.length:=List.length_set
   rcases k8 with⟨rfl,rfl⟩|⟨hne,q,hq,rfl,jG⟩
   ·have hap:∀ d e:aR,(S1.set 1 d++[e])[S.length]? = some (.cells [.ae,.ae]):=fun d e=>by rw[List.getElem?_append_left (by simpa using cA k7)];exact m7 d
    repeat' first|simp (disch:=omega) only[go_sem,aC,aD,aE,aj,au,ak,Nat.reduceAdd,Nat.reduceBEq,↓reduceIte,d2,k6,k7,m7,hap]|refine aB ?_|with_reducible refine vC cT k6 ?_|refine aA (fun hw=>?_) (fun hw=>?_)<;>try omega|fail
    all_goals first|exact aZ|skip
    refine⟨([z],t2,b2,_),⟨by simp;omega,by dsimp only;omega,by rw[List.nil_append]at hin k3;dsimp only;rw[hin];exact k3,?_,?_,?_,.own E1 (S1.set 1 (vv t2 b2)).length 1 0 1,?_,?_⟩,by simp at hi ⊢;omega,rfl,bG,at_⟩
    ·dsimp only;simp;omega
    ·intro j o hj hne;dsimp only;exact cJ j o (jH (k5 _ _ hj hne) hne) (by have:=cA hj;omega)
    ·dsimp only;exact cJ 1 _ m1 (by omega)
    ·dsimp only;rw[List.getElem?_set_self (by simp;omega)]
    ·dsimp only;exact wq (by simp;omega) (by simp;omega)
   ·have xo:q≠S.length:=by omega
    have BO:q≠1:=by omega
    have m8:∀ d:aR,(S1.set 1 d)[q]? = some (.vec E1 (xs.map cy)):=fun d=>jH jG BO
    have hap:∀ d e:aR,((S1.set 1 d).set q e)[S.length]? = some (.cells [.own E1 q xs.length 0 xs.length,.ae]):=fun d e=>jH (m7 d) (Ne.symm xo)
    repeat' first|simp (disch:=omega) only[go_sem,aC,aD,aE,aj,au,ak,Nat.reduceAdd,Nat.reduceBEq,↓reduceIte,d2,k6,k7,m7,hap,m8]|refine aB ?_|with_reducible refine vC cT k6 ?_|refine aA (fun hw=>?_) (fun hw=>?_)<;>try omega|fail
    all_goals first|exact aZ|skip
    refine⟨(xs++[z],t2,b2,_),⟨by simp;omega,by dsimp only;omega,by dsimp only;rw[hin];exact k3,?_,?_,?_,.own E1 q (xs.length+1) 0 (xs.length+1),?_,?_⟩,by simp at hi ⊢;omega,rfl,bG,?_⟩
    ·dsimp only;simp;omega
    ·intro j o hj hne;dsimp only;have:=cA hj;exact cW j o (jH (k5 _ _ hj hne) hne) (by omega) (by omega)
    ·dsimp only;exact cW 1 _ m1 (by omega) (Ne.symm BO)
    ·dsimp only;rw[List.getElem?_set_self (by simp;omega)]
    ·dsimp only;exact y9 (m8 _) hq (Ne.symm xo)
    ·dsimp only;simp only[List.length_append,List.length_singleton];simp (disch:=omega) only[cU,cE,and_true,go_sem,aC,aD,aE,aj,au,ak,Nat.reduceAdd,Nat.reduceBEq,↓reduceIte,Int.natCast_add,Int.cast_ofNat_Int]<;>(try trivial)<;>(try omega)<;>(try (repeat (first|trivial|(refine And.intro ?_ ?_)|(congr 1;omega))))
  ·have hxl:xs.length=ins.length:=by omega
   have hz0:ins.length-xs.length=0:=by omega
   rw[hz0,de]at k3
   repeat' first|simp (disch:=omega) only[go_sem,aC,aD,aE,aj,au,ak,Nat.reduceAdd,Nat.reduceBEq,↓reduceIte,d2,k6,k7]|refine aB ?_|refine aA (fun hw=>?_) (fun hw=>?_)<;>try omega|fail
   all_goals first|exact aZ|skip
   with_reducible refine a_ [10,60,61,62,63,64,65,66,67,68,69,70,71,72,73] (fun q:List aH × aH × Bool × ai=>[(10,I q.1.length)]) (fun q=>q.2.2.2) (fun q=>q.1.length≤outs.length∧q.2.1.length≤1400∧Y=de (outs.length-q.1.length) q.1 q.2.1 q.2.2.1∧S1.length≤q.2.2.2.length∧(∀ j o,S1[j]? = some o→j≠1→j≠S.length→q.2.2.2[j]? = some o)∧q.2.2.2[1]? = some (vv q.2.1 q.2.2.1)∧ ∃ y,q.2.2.2[S.length]? = some (.cells [x,y])∧lz S1.length q.2.2.2 y q.1) (fun q=>outs.length-q.1.length) ([],t1,b1,_) ⟨by simp,by dsimp only;omega,by dsimp only;rw[List.length_nil,Nat.sub_zero,← hY,k3],Nat.le_refl _,fun j o hj _ _=>hj,k6,_,k7,lz.nil _ _⟩ rfl ?_ ?_
   ·exact at_
   rintro⟨ys,t3,b3,S2⟩ rr ⟨p1,p2,p3,p4,p5,p6,y,p7,p8⟩
   dsimp only at p1 p2 p3 p4 p5 p6 p7 p8
   have d2:=p5 _ _ d2 (by omega) (by omega)
   have agq:=k8.scalar
   by_cases Gm:ys.length<outs.length
   ·obtain⟨i,hi⟩:∃ i,outs.length-ys.length=i+1:=⟨outs.length-ys.length-1,by omega⟩
    rw[hi,de]at p3
    have cT:=wM t3 b3 (by omega)
    have hl:=nv t3 b3
    generalize dV t3 b3=a at *
    obtain⟨z,t2,b2⟩:=a
    dsimp only at p3 cT hl
    simp only[fI]at cT
    have hin:outs.length-(ys++[z]).length=i:=by simp;omega
    have m7:∀ d:aR,(S2.set 1 d)[S.length]? = some (.cells [x,y]):=fun d=>jH p7 (Ne.symm e1n)
    have m1:(S2.set 1 (vv t2 b2))[1]? = some (vv t2 b2):=List.getElem?_set_self (cA p6)
    rcases p8 with⟨rfl,rfl⟩|⟨hne,q,hq,rfl,jG⟩
    ·have hap:∀ d e:aR,(S2.set 1 d++[e])[S.length]? = some (.cells [x,.ae]):=fun d e=>by rw[List.getElem?_append_left (by simpa using cA p7)];exact m7 d
     repeat' first|simp (disch:=omega) only[go_sem,aC,aD,aE,aj,au,ak,Nat.reduceAdd,Nat.reduceBEq,↓reduceIte,d2,p6,p7,m7,hap]|refine aB ?_|with_reducible refine vC cT p6 ?_|refine aA (fun hw=>?_) (fun hw=>?_)<;>try omega|fail
     all_goals first|exact aZ|skip
     refine⟨([z],t2,b2,_),⟨by simp;omega,by dsimp only;omega,by rw[List.nil_append]at hin p3;dsimp only;rw[hin];exact p3,?_,?_,?_,.own E1 (S2.set 1 (vv t2 b2)).length 1 0 1,?_,?_⟩,by simp at hi ⊢;omega,rfl,bG,at_⟩
     ·dsimp only;simp;omega
     ·intro j o hj hne H_;dsimp only;exact cJ j o (jH (p5 _ _ hj hne H_) hne) H_
     ·dsimp only;exact cJ 1 _ m1 (by omega)
     ·dsimp only;rw[List.getElem?_set_self (by simp;omega)]
     ·dsimp only;exact wq (by simp;omega) (by simp;omega)
    ·have xo:q≠S.length:=by omega
     have BO:q≠1:=by omega
     have m8:∀ d:aR,(S2.set 1 d)[q]? = some (.vec E1 (ys.map cy)):=fun d=>jH jG BO
     have hap:∀ d e:aR,((S2.set 1 d).set q e)[S.length]? = some (.cells [x,.own E1 q ys.length 0 ys.length]):=fun d e=>jH (m7 d) (Ne.symm xo)
     repeat' first|simp (disch:=omega) only[go_sem,aC,aD,aE,aj,au,ak,Nat.reduceAdd,Nat.reduceBEq,↓reduceIte,d2,p6,p7,m7,hap,m8]|refine aB ?_|with_reducible refine vC cT p6 ?_|refine aA (fun hw=>?_) (fun hw=>?_)<;>try omega|fail
     all_goals first|exact aZ|skip
     refine⟨(ys++[z],t2,b2,_),⟨by simp;omega,by dsimp only;omega,by dsimp only;rw[hin];exact p3,?_,?_,?_,.own E1 q (ys.length+1) 0 (ys.length+1),?_,?_⟩,by simp at hi ⊢;omega,rfl,bG,?_⟩
     ·dsimp only;simp;omega
     ·intro j o hj hne H_;dsimp only;have:=cA hj;exact cW j o (jH (p5 _ _ hj hne H_) hne) H_ (by omega)
     ·dsimp only;exact cW 1 _ m1 (by omega) (Ne.symm BO)
     ·dsimp only;rw[List.getElem?_set_self (by simp;omega)]
     ·dsimp only;exact y9 (m8 _) hq (Ne.symm xo)
     ·dsimp only;simp only[List.length_append,List.length_singleton];simp (disch:=omega) only[cU,cE,and_true,go_sem,aC,aD,aE,aj,au,ak,Nat.reduceAdd,Nat.reduceBEq,↓reduceIte,Int.natCast_add,Int.cast_ofNat_Int]<;>(try trivial)<;>(try omega)<;>(try (repeat (first|trivial|(refine And.intro ?_ ?_)|(congr 1;omega))))
   ·have Ct:ys.length=outs.length:=by omega
    have hz0:outs.length-ys.length=0:=by omega
    rw[hz0,de]at p3
    have agr:=p8.scalar
    have Gw:lz (S.length+1) S2 x xs:=k8.keep (Nat.le_refl _) (fun q ys hq jG=>p5 q _ jG (by omega) (by omega))
    have hxn:=Gw.len
    have hyn:=p8.len
    have d0:S2[0]? = some o0T:=p5 _ _ (k5 _ _ f0 (by omega)) (by omega) (by omega)
    have hlS:S.length<S2.length:=by omega
    have Ja:n.toNat-(rs++[(⟨xs,ys⟩:cK)]).length=j:=by simp;omega
    have hfit:([AV.agg [x,y]].all fun a=>AV.fits ⟨true,2⟩ a)=true:=by simp only[AV.fits,List.length_cons,List.length_nil,List.all_cons,List.all_nil,agq,agr];rfl
    have wI:AV.fits ⟨true,2⟩ (.agg [x,y])=true:=by simpa using hfit
    rw[p3,k3]at g2
    rw[p3]at hro
    dsimp only at g2 hro
    by_cases hz:ins.length+outs.length=0
    ·skip
     have hb':(b3 ||(true && ins.length+outs.length==0))=true:=by rw[hz];simp
     have d0':∀ o,(S2.set 1 o)[0]? = some o0T:=fun o=>jH d0 (by omega)
     have S0:∀ o,(S2.set 1 o)[2]? = some (Il nm ins outs po ag v):=fun o=>jH d2 (by omega)
     have p7':∀ o,(S2.set 1 o)[S.length]? = some (.cells [x,y]):=fun o=>jH p7 (Ne.symm e1n)
     have s1':(S2.set 1 (vv t3 true))[1]? = some (vv t3 true):=List.getElem?_set_self (cA p6)
     have F7:∀ (q:Nat) (T:El) (ys:List AV),S2[q]? = some (.vec T ys)→(S2.set 1 (vv t3 true))[q]? = some (.vec T ys):=fun q T ys hq=>jH hq (fun e=>by subst e;rw[p6]at hq;cases hq)
     have AJ:(S2.set 1 (vv t3 true)).length=S2.length:=List.length_set
     rw[hb']at g2 hro
     have hbd:(rs++[(⟨xs,ys⟩:cK)]).length+t3.length+(if true then 0 else 1)≤1401:=by
      rw[List.length_append,List.length_singleton]
      cases b3 with
      | true=>simp;omega
      | false=>simp;omega
     have xm:N_ (S2.set 1 (vv t3 true)) (.agg [x,y]) ⟨xs,ys⟩:=⟨x,y,rfl,Gw.keep (Nat.zero_le _) (fun q _ _ h=>F7 q _ _ h),p8.keep (Nat.zero_le _) (fun q _ _ h=>F7 q _ _ h)⟩
     rcases g4 with⟨h4,rfl⟩|⟨h4,q,ra,hq,rfl,jG,hr⟩
     ·have hap:∀ o (d:aR),(S2.set 1 o++[d])[2]? = some (Il nm ins outs po ag .ae):=fun o d=>by rw[List.getElem?_append_left (cA (S0 o))];exact S0 o
      repeat' first|simp (disch:=omega) only[go_sem,aC,aD,aE,aj,au,ak,Nat.reduceAdd,Nat.reduceBEq,↓reduceIte,d2,S0,p6,p7,p7',hxn,hyn,hxl,Ct,hap,hfit,wI]|refine aB ?_|refine aA (fun hw=>?_) (fun hw=>?_)<;>try omega|fail
      all_goals first|exact aZ|skip
      refine⟨(rs++[⟨xs,ys⟩],t3,true,_),⟨hbd,by dsimp only;rw[Ja];exact g2,?_,?_,?_,.own ER (S2.set 1 (vv t3 true)).length 1 0 1,?_,?_⟩,by simp;omega,rfl,bG,?_⟩
      ·dsimp only;simp;omega
      ·exact cJ _ _ (d0' _) (by omega)
      ·exact cJ _ _ s1' (by omega)
      ·dsimp only;rw[List.getElem?_set_self (by simp;omega)]
      ·dsimp only
       rw[h4]
       refine .inr ⟨by simp,(S2.set 1 (vv t3 true)).length,[.agg [x,y]],by rw[AJ];omega,rfl,?_,eE.keep (fun q ys hq=>cJ _ _ hq (fun e=>by subst e;rw[(S0 _)]at hq;cases hq)) (eE.snoc (eE.nil _) xm)⟩
       rw[List.getElem?_set_ne (by rw[AJ];omega)];simp
      ·dsimp only;simp only[List.length_append,List.length_singleton];simp (disch:=omega) only[cU,cE,and_true,go_sem,aC,aD,aE,aj,au,ak,Nat.reduceAdd,Nat.reduceBEq,↓reduceIte,Int.natCast_add,Int.cast_ofNat_Int]<;>(try trivial)<;>(try omega)<;>(try (repeat (first|trivial|(refine And.intro ?_ ?_)|(congr 1;omega))))
     ·have yh:q≠2:=by omega
      have BO:q≠1:=fun e=>by subst e;rw[f1]at jG;cases jG
      have e4:S2[q]? = some (.vec ER ra):=p5 _ _ (k5 _ _ jG BO) BO (by have:=cA jG;omega)
      have UM:ra.length=rs.length:=hr.1
      have hap:∀ o (d:aR),((S2.set 1 o).set q d)[2]? = some (Il nm ins outs po ag (.own ER q rs.length 0 rs.length)):=fun o d=>jH (S0 o) (Ne.symm yh)
      have e4':∀ o,(S2.set 1 o)[q]? = some (.vec ER ra):=fun o=>jH e4 BO
      repeat' first|simp (disch:=omega) only[go_sem,aC,aD,aE,aj,au,ak,Nat.reduceAdd,Nat.reduceBEq,↓reduceIte,d2,S0,p6,p7,p7',hxn,hyn,hxl,Ct,hap,hfit,wI,e4,e4',UM]|refine aB ?_|refine aA (fun hw=>?_) (fun hw=>?_)<;>try omega|fail
      all_goals first|exact aZ|skip
      refine⟨(rs++[⟨xs,ys⟩],t3,true,_),⟨hbd,by dsimp only;rw[Ja];exact g2,?_,?_,?_,.own ER q (rs.length+1) 0 (rs.length+1),?_,?_⟩,by simp;omega,rfl,bG,?_⟩
      ·dsimp only;simp;omega
      ·exact cW _ _ (d0' _) (by omega) (by omega)
      ·exact cW _ _ s1' (by omega) (Ne.symm BO)
      ·dsimp only;rw[List.getElem?_set_self (by simp;omega)]
      ·dsimp only
       have qc:eE (S2.set 1 (vv t3 true)) ra rs:=hr.keep (fun q ys hq=>F7 q _ _ (by
        have n1:q≠1:=fun e=>by subst e;rw[f1]at hq;cases hq
        exact p5 _ _ (k5 _ _ hq n1) n1 (by have:=cA hq;omega)))
       refine .inr ⟨by simp,q,ra++[.agg [x,y]],hq,by simp,?_,eE.keep (fun p ys hp=>cW _ _ hp (fun e=>by subst e;rw[(S0 _)]at hp;cases hp) (fun e=>by subst e;rw[e4']at hp;cases hp)) (eE.snoc qc xm)⟩
       rw[List.getElem?_set_ne (Ne.symm yh),List.getElem?_set_self (cA (e4' _))]
      ·dsimp only;simp only[List.length_append,List.length_singleton];simp (disch:=omega) only[cU,cE,and_true,go_sem,aC,aD,aE,aj,au,ak,Nat.reduceAdd,Nat.reduceBEq,↓reduceIte,Int.natCast_add,Int.cast_ofNat_Int]<;>(try trivial)<;>(try omega)<;>(try (repeat (first|trivial|(refine And.intro ?_ ?_)|(congr 1;omega))))
    ·skip
     have hb' : (b3 || (true && ins.length + outs.length == 0)) = b3 := by have : (ins.length + outs.length == 0) = false := by rw [beq_eq_false_iff_ne]; exact hz
                                                                           rw[this];simp
     have F7:∀ (q:Nat) (T:El) (ys:List AV),S2[q]? = some (.vec T ys)→S2[q]? = some (.vec T ys):=fun _ _ _ h=>h
     have AJ:S2.length=S2.length:=rfl
     rw[hb']at g2 hro
     have hbd:(rs++[(⟨xs,ys⟩:cK)]).length+t3.length+(if b3 then 0 else 1)≤1401:=by
      rw[List.length_append,List.length_singleton]
      cases b3 with
      | true=>simp;omega
      | false=>have:=hro.2.2 rfl rfl;simp;omega
     have xm:N_ S2 (.agg [x,y]) ⟨xs,ys⟩:=⟨x,y,rfl,Gw.keep (Nat.zero_le _) (fun q _ _ h=>F7 q _ _ h),p8.keep (Nat.zero_le _) (fun q _ _ h=>F7 q _ _ h)⟩
     rcases g4 with⟨h4,rfl⟩|⟨h4,q,ra,hq,rfl,jG,hr⟩
     ·have hap:∀ (d:aR),(S2++[d])[2]? = some (Il nm ins outs po ag .ae):=fun d=>by rw[List.getElem?_append_left (cA (d2))];exact d2
      repeat' first|simp (disch:=omega) only[go_sem,aC,aD,aE,aj,au,ak,Nat.reduceAdd,Nat.reduceBEq,↓reduceIte,d2,p6,p7,hxn,hyn,hxl,Ct,hap,hfit,wI]|refine aB ?_|refine aA (fun hw=>?_) (fun hw=>?_)<;>try omega|fail
      all_goals first|exact aZ|skip
      refine⟨(rs++[⟨xs,ys⟩],t3,b3,_),⟨hbd,by dsimp only;rw[Ja];exact g2,?_,?_,?_,.own ER S2.length 1 0 1,?_,?_⟩,by simp;omega,rfl,bG,?_⟩
      ·dsimp only;simp;omega
      ·exact cJ _ _ d0 (by omega)
      ·exact cJ _ _ p6 (by omega)
      ·dsimp only;rw[List.getElem?_set_self (by simp;omega)]
      ·dsimp only
       rw[h4]
       refine .inr ⟨by simp,S2.length,[.agg [x,y]],by rw[AJ];omega,rfl,?_,eE.keep (fun q ys hq=>cJ _ _ hq (fun e=>by subst e;rw[d2]at hq;cases hq)) (eE.snoc (eE.nil _) xm)⟩
       rw[List.getElem?_set_ne (by rw[AJ];omega)];simp
      ·dsimp only;simp only[List.length_append,List.length_singleton];simp (disch:=omega) only[cU,cE,and_true,go_sem,aC,aD,aE,aj,au,ak,Nat.reduceAdd,Nat.reduceBEq,↓reduceIte,Int.natCast_add,Int.cast_ofNat_Int]<;>(try trivial)<;>(try omega)<;>(try (repeat (first|trivial|(refine And.intro ?_ ?_)|(congr 1;omega))))
     ·have yh:q≠2:=by omega
      have BO:q≠1:=fun e=>by subst e;rw[f1]at jG;cases jG
      have e4:S2[q]? = some (.vec ER ra):=p5 _ _ (k5 _ _ jG BO) BO (by have:=cA jG;omega)
      have UM:ra.length=rs.length:=hr.1
      have hap:∀ (d:aR),(S2.set q d)[2]? = some (Il nm ins outs po ag (.own ER q rs.length 0 rs.length)):=fun d=>jH (d2) (Ne.symm yh)
      skip
      repeat' first|simp (disch:=omega) only[go_sem,aC,aD,aE,aj,au,ak,Nat.reduceAdd,Nat.reduceBEq,↓reduceIte,d2,p6,p7,hxn,hyn,hxl,Ct,hap,hfit,wI,e4,UM]|refine aB ?_|refine aA (fun hw=>?_) (fun hw=>?_)<;>try omega|fail
      all_goals first|exact aZ|skip
      refine⟨(rs++[⟨xs,ys⟩],t3,b3,_),⟨hbd,by dsimp only;rw[Ja];exact g2,?_,?_,?_,.own ER q (rs.length+1) 0 (rs.length+1),?_,?_⟩,by simp;omega,rfl,bG,?_⟩
      ·dsimp only;simp;omega
      ·exact cW _ _ d0 (by omega) (by omega)
      ·exact cW _ _ p6 (by omega) (Ne.symm BO)
      ·dsimp only;rw[List.getElem?_set_self (by simp;omega)]
      ·dsimp only
       have qc:eE S2 ra rs:=hr.keep (fun q ys hq=>F7 q _ _ (by
        have n1:q≠1:=fun e=>by subst e;rw[f1]at hq;cases hq
        exact p5 _ _ (k5 _ _ hq n1) n1 (by have:=cA hq;omega)))
       refine .inr ⟨by simp,q,ra++[.agg [x,y]],hq,by simp,?_,eE.keep (fun p ys hp=>cW _ _ hp (fun e=>by subst e;rw[d2]at hp;cases hp) (fun e=>by subst e;rw[e4]at hp;cases hp)) (eE.snoc qc xm)⟩
       rw[List.getElem?_set_ne (Ne.symm yh),List.getElem?_set_self (cA (e4))]
      ·dsimp only;simp only[List.length_append,List.length_singleton];simp (disch:=omega) only[cU,cE,and_true,go_sem,aC,aD,aE,aj,au,ak,Nat.reduceAdd,Nat.reduceBEq,↓reduceIte,Int.natCast_add,Int.cast_ofNat_Int]<;>(try trivial)<;>(try omega)<;>(try (repeat (first|trivial|(refine And.intro ?_ ?_)|(congr 1;omega))))
 ·have SY : R = (rs, t0, b0) := by
   rw[g2]
   refine Ud ?_
   cases b0 with
   | true=>exact .inr rfl
   | false => exact .inl (by have := not_and.1 hgo; rcases Nat.eq_zero_or_pos (n.toNat - rs.length) with h | h
                             ·exact h
                             ·exact absurd rfl (this (by omega)))
  subst SY
  dsimp only at cB hE
  generalize hB:cH ⟨nm,ins,outs,po,ag,rs⟩=B at *
  obtain⟨bs,be⟩:=B
  simp only[eB,bI,dc,bq,cQ]at cB
  have hno:b0=true∨t0≠[]∨be≠0∨bs≠s→E=(fJ,4):=fun h=>by
   rw[← hE,if_pos];rcases h with h|h|h|h
   ·exact .inl h
   ·exact .inr (.inl h)
   ·exact .inr (.inr (fun e=>h (Prod.mk.inj e).2))
   ·exact .inr (.inr (fun e=>h (Prod.mk.inj e).1))
  have hyes:b0=false→t0=[]→be=0→bs=s→E=(⟨nm,ins,outs,po,ag,rs⟩,0):=fun h0 h1 h2 h3=>by
   rw[← hE,if_neg];rw[h0,h1,h2,h3];simp
  have X6:([AV.str nm,.aG false EC (ins.map bp),.aG false EC (outs.map bp),I po,I ag,v].all AV.scalar)=true:=by simp only[List.all_cons,List.all_nil,hvs];rfl
  have hs0:∀ o,(S.set 0 o)[0]? = some o:=fun o=>List.getElem?_set_self (cA f0)
  have UR:aQ S [.agg [.str nm,.aG false EC (ins.map bp),.aG false EC (outs.map bp),I po,I ag,v]] [.agg [.str nm,.aG false EC (ins.map bp),.aG false EC (outs.map bp),I po,I ag,.aG false ER (rs.map cj)]] :=
   .cons (View.mq (.cons (.refl _ rfl) (.cons (.refl _ (by simp)) (.cons (.refl _ (by simp)) (.cons (.refl _ rfl) (.cons (.refl _ rfl) (.cons g4.view (.nil _)))))))) (.nil _)
  have h5:=g4.keep (S':=S.set 0 (Il nm ins outs po ag v)) (fun q o hq hne=>by
   rw[List.getElem?_set_ne (fun e=>by subst e;rw[f0]at hq;cases hq;exact hne _ rfl)];exact hq)
  cases b0
  all_goals
   repeat' first|simp (disch:=omega) only[go_sem,aC,aD,aE,aj,au,ak,Nat.reduceAdd,Nat.reduceBEq,↓reduceIte,f0,f1,f2,X6,hs0]|refine aB ?_|with_reducible refine sX cB UR rfl ?_|refine aA (fun hw=>?_) (fun hw=>?_)<;>try omega|fail
  all_goals first
   | exact aZ
   |(exfalso;refine hgo ⟨?_,rfl⟩;omega)
   |(rw[hno (by simp_all)];exact bw (BN (jl _)))
   |(rw[hyes rfl (by assumption) (by assumption) (by assumption)];exact bw (BN (View.mq (.cons (.refl _ rfl) (.cons (.refl _ (by simp)) (.cons (.refl _ (by simp)) (.cons (.refl _ rfl) (.cons (.refl _ rfl) (.cons h5.view (.nil _))))))))))
end Go.Proofs.YtmbgnaoilncbnaaGreatDoor
namespace Go.Proofs.YtmbgnaoilncbnaaGreatDoor
open Go.AM
set_option maxRecDepth 4000
theorem Yq(c:Cell): (kz c).1.length≤200:=by
 unfold kz
 repeat' split
 all_goals (dsimp only;first|(simp;done)|omega)
theorem Yr(x:Expr): (jQ x).1.length≤200:=by
 unfold jQ iS
 repeat' split
 all_goals (dsimp only;first|(simp;done)|(simp_all;done)|(simp_all;omega))
theorem ZS{t:Table}(h:gU t): gU (bZ t).1:=by
 have ok0:gU fJ:=⟨by decide,⟨by decide,fun c hc=>(by cases hc)⟩,⟨by decide,fun c hc=>(by cases hc)⟩,by decide,fun c hc=>(by cases hc)⟩
 by_cases he:(cI t).2.2.2=0
 ·unfold bZ
  rw[if_neg (by omega)]
  split
  ·exact ok0
  ·obtain⟨a,b,c,d⟩:=h
   obtain⟨h1,h2⟩:=wH ⟨a,b,c,d⟩ he
   refine⟨a,b,c,?_,fun r hr=>?_⟩
   ·dsimp only;rw[jF];have:=d.1;omega
   ·obtain⟨k,_,rfl⟩:=List.mem_map.1 hr
    have hk:=h2 k
    unfold iT
    rw[H6]
    refine⟨⟨?_,fun s hs=>?_⟩,?_,fun s hs=>?_⟩
    ·dsimp only;rw[nQ];have:=hk.1.1;omega
    ·obtain⟨m,_,rfl⟩:=List.mem_map.1 hs
     have:=Yq ((sD t k).cells.getD m default)
     unfold fq;omega
    ·dsimp only;rw[qf];have:=hk.2.1;omega
    ·obtain⟨m,_,rfl⟩:=List.mem_map.1 hs
     have:=Yr ((sD t k).outs.getD m default)
     unfold iy;omega
 ·rw[rV he];exact ok0
def Im: Table:=⟨[116],[⟨[97],1,[]⟩],[⟨[111],1,[]⟩],2,0,[]⟩
theorem MV: cH Im=([2,116,4,0,2,2,97,2,2,2,111,2,0,0],0):=by decide
theorem IL: gU Im:=AK (by decide) ⟨fun c hc v hv=>(by simp[Im]at hc;subst hc;cases hv),fun c hc v hv=>(by simp[Im]at hc;subst hc;cases hv)⟩
theorem wN: aq Tryz.prog eY [] (.bool true):=by
 have c1:=k_ Im IL
 have c2:=uS [2,116,4,0,2,2,97,2,2,2,111,2,0,0]
 have c3:=mg Im Im (m_ IL) (m_ IL)
 rw[wv IL MV]at c2
 rw[MV]at c1
 rw[mZ]at c3
 simp only[eB,AR,bI,dc,bq,cQ,Im,List.map_cons,List.map_nil,bp,dH]at c1 c2 c3
 refine aq.of_nil (Nw (by simp) ?_) rfl
 unfold E5 aM
 intro Q aC aD aE
 repeat' first|refine aB ?_|refine OY c1 ?_|refine aF c2 ?_|refine OY c3 ?_|refine aA (fun hw=>?_) (fun hw=>?_)<;>try omega|fail
 all_goals first|exact aZ|exact aL rfl rfl
theorem IP(t:Table)(hr:zB t): aq Tryz.prog uX [bI t] (.bool true):=by
 have cs:=wJ t
 have cl:=wN
 cases hs:oa t with
 | false =>
   rw[hs]at cs
   simp only[bI,dc,bq,cQ]at cs ⊢
   refine aq.of_nil (ug (by simp) ?_) (by simp)
   unfold oI aM
   intro Q aC aD aE
   repeat' first|refine aB ?_|refine aF cs ?_|refine aF cl ?_|refine aA (fun hw=>?_) (fun hw=>?_)<;>try omega|fail
   all_goals first|exact aZ|exact aL rfl rfl
 | true =>
   rw[hs]at cs
   have ok:=AK hs hr
   have c1:=k_ t ok
   have c2:=JS t ok
   generalize cH t=B at *
   obtain⟨b,e⟩:=B
   clear ok hs
   simp only[eB,bI,dc,bq,cQ]at cs c1 c2 ⊢
   refine aq.of_nil (ug (by simp) ?_) (by simp)
   unfold oI aM
   intro Q aC aD aE
   repeat' first|refine aB ?_|refine aF cs ?_|refine aF cl ?_|refine aF c1 ?_|refine aF c2 ?_|refine aA (fun hw=>?_) (fun hw=>?_)<;>try omega|fail
   all_goals first|exact aZ|exact aL rfl rfl|exact aL (by simp) rfl
theorem F3(s:aH): aq Tryz.prog tP [.str s] (.bool true):=by
 have cl:=wN
 by_cases hb:3000<s.length
 ·refine aq.of_nil (sY (by simp) ?_) (by simp)
  unfold nL aM
  intro Q aC aD aE
  repeat' first|refine aB ?_|refine aF cl ?_|refine aA (fun hw=>?_) (fun hw=>?_)<;>try omega|fail
  all_goals first|exact aZ|exact aL rfl rfl
 have c1:=uS s
 have c2:=Ue s
 have c3:=mg (dI true s).1 (dI true s).1 (m_ (SL true s)) (m_ (SL true s))
 rw[mZ]at c3
 rw[ZL]at c1
 generalize dI true s=P at *
 obtain⟨p,e⟩:=P
 simp only[AR,bI,dc,bq,cQ]at c1 c2 c3
 refine aq.of_nil (sY (by simp) ?_) (by simp)
 unfold nL aM
 intro Q aC aD aE
 repeat' first|refine aB ?_|refine aF cl ?_|refine aF c1 ?_|refine aF c2 ?_|refine aF c3 ?_|refine aA (fun hw=>?_) (fun hw=>?_)<;>try omega|fail
 all_goals first|exact aZ|exact aL rfl rfl|exact aL (by simp) rfl
theorem IV(t u:Table)(hr:zB t)(hu:zB u): aq Tryz.prog uY [bI t,bI u] (.bool true):=by
 have cs:=wJ t
 have Px:=wJ u
 have cl:=wN
 by_cases HP:oa t=true∧oa u=true
 case neg =>
  cases h1:oa t<;>cases h2:oa u
  all_goals
   rw[h1]at cs
   rw[h2]at Px
   simp only[bI,dc,bq,cQ]at cs Px ⊢
  case true.true=>exact absurd ⟨h1,h2⟩ HP
  all_goals
   refine aq.of_nil (uh (by simp) ?_) (by simp)
   unfold oK aM
   intro Q aC aD aE
   repeat' first|refine aB ?_|refine aF cs ?_|refine aF Px ?_|refine aF cl ?_|refine aA (fun hw=>?_) (fun hw=>?_)<;>try omega|fail
  all_goals first|exact aZ|exact aL rfl rfl
 obtain⟨h1,h2⟩:=HP
 rw[h1]at cs
 rw[h2]at Px
 have ok:=AK h1 hr
 have oku:=AK h2 hu
 have c1:=k_ t ok
 have c2:=k_ u oku
 have c3:=uN t ok
 have c4:=mg (bZ t).1 t (ED ok) (m_ ok)
 have c5:=mg t u (m_ ok) (m_ oku)
 have key:(cH t).2=0→(cH u).2=0→((cH t).1==(cH u).1)=ik t u:=fun e1 e2=>by
  have q1:cH t=((cH t).1,0):=by rw[← e1]
  have q2:cH u=((cH u).1,0):=by rw[← e2]
  rw[Bool.eq_iff_iff,beq_iff_eq]
  constructor
  ·intro h
   rw[← h]at q2
   rw[bytes_inj ok oku q1 q2];exact mZ u
  ·intro h
   rw[WH h]
 have key2:(bZ t).2.2.2=0→ik (bZ t).1 t=false→(cH t).2=4:=fun e1 e2=>by
  unfold cH;rw[if_neg (by omega),if_pos e2]
 generalize cH t=B at *
 generalize cH u=B2 at *
 generalize ik (bZ t).1 t=z1 at *
 generalize bZ t=C at *
 generalize ik t u=z2 at *
 obtain⟨b,e⟩:=B
 obtain⟨b2,f⟩:=B2
 obtain⟨C,m1,m2,g⟩:=C
 dsimp only at key key2 c4
 clear ok oku h1 h2
 simp only[eB,MH,bI,dc,bq,cQ]at cs Px c1 c2 c3 c4 c5 ⊢
 refine aq.of_nil (uh (by simp) ?_) (by simp)
 unfold oK aM
 intro Q aC aD aE
 by_cases he:e=0∧f=0
 ·obtain⟨rfl,rfl⟩:=he
  have key:=key rfl rfl
  by_cases hg:g=0
  ·subst hg
   have hz1:z1=true:=by
    cases z1 with
    | true=>rfl
    | false=>exact absurd (key2 rfl rfl) (by decide)
   subst hz1
   repeat' first|simp (disch:=omega) only[go_sem,aC,aD,aE,aj,au,ak,Nat.reduceAdd,Nat.reduceBEq,↓reduceIte,key]|refine aB ?_|refine aF cs ?_|refine aF Px ?_|refine aF cl ?_|refine aF c1 ?_|refine aF c2 ?_|refine aF c3 ?_|refine aF c4 ?_|refine aF c5 ?_|refine aA (fun hw=>?_) (fun hw=>?_)<;>try omega|fail
   all_goals first|exact aZ|exact aL rfl rfl|exact aL (by simp) rfl|exact aL (by simp[key]) rfl
  ·repeat' first|simp (disch:=omega) only[go_sem,aC,aD,aE,aj,au,ak,Nat.reduceAdd,Nat.reduceBEq,↓reduceIte,key]|refine aB ?_|refine aF cs ?_|refine aF Px ?_|refine aF cl ?_|refine aF c1 ?_|refine aF c2 ?_|refine aF c3 ?_|refine aF c4 ?_|refine aF c5 ?_|refine aA (fun hw=>?_) (fun hw=>?_)<;>try omega|fail
   all_goals first|exact aZ|exact aL rfl rfl|exact aL (by simp) rfl|exact aL (by simp[key]) rfl
 ·cases z1
  all_goals
   repeat' first|refine aB ?_|refine aF cs ?_|refine aF Px ?_|refine aF cl ?_|refine aF c1 ?_|refine aF c2 ?_|refine aF c3 ?_|refine aF c4 ?_|refine aA (fun hw=>?_) (fun hw=>?_)<;>try omega|fail
  all_goals first|exact aZ|exact aL rfl rfl|exact aL (by simp) rfl|(exfalso;have:=key2 (by assumption) rfl;omega)|(exfalso;refine he ⟨?_,?_⟩<;>assumption)
set_option maxHeartbeats 4000000 in
theorem JV(t:Table)(s:aH)(hr:zB t): aq Tryz.prog wU [bI t,.str s] (.bool true):=by
 have cs:=wJ t
 have cl:=wN
 by_cases HP:oa t=true∧s.length≤3000
 case neg =>
  cases h1:oa t
  all_goals
   rw[h1]at cs
   simp only[bI,dc,bq,cQ]at cs ⊢
   refine aq.of_nil (oJ (by simp) ?_) (by simp)
   unfold lZ aM
   intro Q aC aD aE
   repeat' first|refine aB ?_|refine aF cs ?_|refine aF cl ?_|refine aA (fun hw=>?_) (fun hw=>?_)<;>try omega|fail
  all_goals first|exact aZ|exact aL rfl rfl|(exfalso;exact HP ⟨h1,by omega⟩)
 obtain⟨h1,h2⟩:=HP
 rw[h1]at cs
 have ok:=AK h1 hr
 have Ys:=ZS ok
 have c1:=uN t ok
 have c2:=k_ _ Ys
 have c3:=uS (cH (bZ t).1).1
 have c4:=mg (bZ t).1 (bZ t).1 (m_ Ys) (m_ Ys)
 rw[mZ]at c4
 have key:(bZ t).2.2.2=0→cH (bZ t).1=([],5)∨(cH (bZ t).1).2=0∧(cH (bZ t).1).1.length≤1400∧dI false (cH (bZ t).1).1=((bZ t).1,0):=fun h=>by
  rcases T9 h with e|e
  ·exact .inl e
  ·right
   obtain⟨_,_,_,e4⟩:=wL e
   rw[e]
   exact⟨rfl,e4,wv Ys e⟩
 have d1:=uS s
 have d5:=mg fJ fJ IE IE
 rw[mZ]at d5
 generalize cH (bZ t).1=B at *
 generalize bZ t=C at *
 obtain⟨C,m1,m2,g⟩:=C
 obtain⟨b,e⟩:=B
 dsimp only at c2 c3 c4 key Ys
 generalize dI false b=PB at *
 obtain⟨pb,pe⟩:=PB
 simp only[eB,MH,AR,bI,dc,bq,cQ]at cs c1 c2 c3 c4 ⊢
 by_cases hp:(dI false s).2=0
 ·obtain⟨p1,p2,p3⟩:=SK false hp
  have d2:=uN _ p3
  have d3:=k_ _ p3
  have d4:=mg (bZ (dI false s).1).1 (dI false s).1 (ED p3) (m_ p3)
  obtain⟨q1,q2,_,_⟩:=wL p2
  rw[q2]at d4
  rw[p2]at d3
  generalize dI false s=P at *
  obtain⟨p,e0⟩:=P
  dsimp only at hp d2 d3 d4 q1
  subst hp
  generalize bZ p=D at *
  obtain⟨D,n1,n2,h0⟩:=D
  dsimp only at q1 d4
  subst q1
  simp only[eB,MH,AR,bI,dc,bq,cQ]at d1 d2 d3 d4
  refine aq.of_nil (oJ (by simp) ?_) (by simp)
  unfold lZ aM
  intro Q aC aD aE
  by_cases hg:g=0
  ·subst hg
   rcases key rfl with hk|⟨QX,hk2,hk3⟩
   ·obtain⟨rfl,rfl⟩:=Prod.mk.inj hk
    repeat' first|refine aB ?_|refine aF cs ?_|refine aF cl ?_|refine aF c1 ?_|refine aF c2 ?_|refine aF c3 ?_|refine aF d1 ?_|refine aF d2 ?_|refine aF d3 ?_|refine aF c4 ?_|refine aF d4 ?_|refine aA (fun hw=>?_) (fun hw=>?_)<;>try omega|fail
    all_goals first|exact aZ|exact aL rfl rfl|exact aL (by simp) rfl
   ·obtain⟨rfl,rfl⟩:=Prod.mk.inj hk3
    obtain rfl:e=0:=QX
    repeat' first|refine aB ?_|refine aF cs ?_|refine aF cl ?_|refine aF c1 ?_|refine aF c2 ?_|refine aF c3 ?_|refine aF d1 ?_|refine aF d2 ?_|refine aF d3 ?_|refine aF c4 ?_|refine aF d4 ?_|refine aA (fun hw=>?_) (fun hw=>?_)<;>try omega|fail
    all_goals first|exact aZ|exact aL rfl rfl|exact aL (by simp) rfl
  ·repeat' first|refine aB ?_|refine aF cs ?_|refine aF cl ?_|refine aF c1 ?_|refine aF c2 ?_|refine aF c3 ?_|refine aF d1 ?_|refine aF d2 ?_|refine aF d3 ?_|refine aF c4 ?_|refine aF d4 ?_|refine aA (fun hw=>?_) (fun hw=>?_)<;>try omega|fail
   all_goals first|exact aZ|exact aL rfl rfl|exact aL (by simp) rfl
 ·have hpe:=Pr false hp
  rcases hpe with hpe|⟨hlen,hpe⟩
  all_goals
   rw[hpe]at d1
   simp only[AR,bI,dc,bq,cQ,fJ,List.map_nil]at d1 d5
   refine aq.of_nil (oJ (by simp) ?_) (by simp)
   unfold lZ aM
   intro Q aC aD aE
   by_cases hg:g=0
   ·subst hg
    rcases key rfl with hk|⟨QX,hk2,hk3⟩
    ·obtain⟨rfl,rfl⟩:=Prod.mk.inj hk
     repeat' first|refine aB ?_|refine aF cs ?_|refine aF cl ?_|refine aF c1 ?_|refine aF c2 ?_|refine aF c3 ?_|refine aF d1 ?_|refine aF c4 ?_|refine OY d5 ?_|refine aA (fun hw=>?_) (fun hw=>?_)<;>try omega|fail
     all_goals first|exact aZ|exact aL rfl rfl|exact aL (by simp) rfl
    ·obtain⟨rfl,rfl⟩:=Prod.mk.inj hk3
     obtain rfl:e=0:=QX
     repeat' first|refine aB ?_|refine aF cs ?_|refine aF cl ?_|refine aF c1 ?_|refine aF c2 ?_|refine aF c3 ?_|refine aF d1 ?_|refine aF c4 ?_|refine OY d5 ?_|refine aA (fun hw=>?_) (fun hw=>?_)<;>try omega|fail
     all_goals first|exact aZ|exact aL rfl rfl|exact aL (by simp) rfl
   ·repeat' first|refine aB ?_|refine aF cs ?_|refine aF cl ?_|refine aF c1 ?_|refine aF c2 ?_|refine aF c3 ?_|refine aF d1 ?_|refine aF c4 ?_|refine OY d5 ?_|refine aA (fun hw=>?_) (fun hw=>?_)<;>try omega|fail
    all_goals first|exact aZ|exact aL rfl rfl|exact aL (by simp) rfl
end Go.Proofs.YtmbgnaoilncbnaaGreatDoor
namespace Go.AM
open Go.ChangeShapes Go.WideShapes
section
variable {H:Type} {enc:TypeId × Value→H} {P:Program} {w w':World} {base:Nat} {spare:Nat→Bool} {held:Bool}
theorem vw: ∀ {ts:List TypeId} {vs:List Value} {ds:List (DataW H)} {ps:List MemPlace},DataW.TrodAll enc P w base spare held ts vs ds ps→(∀ p ∈ ps,w.sameAt w' p)→DataW.TrodAll enc P w' base spare held ts vs ds ps
 | [],[],[],_,h,_=>h
 | _::_,_::_,_::_,_,⟨p,q,⟨n,hn⟩,h2,e⟩,hs=>⟨p,q,⟨n,DataW.trod_carry n _ _ _ hn (fun x hx=>hs x (by rw[e];exact List.mem_append_left _ hx))⟩,vw h2 (fun x hx=>hs x (by rw[e];exact List.mem_append_right _ hx)),e⟩
theorem MW{may:MemPlace→Prop}(h1:w'.os=w.os)(h2:w'.output=w.output)(h3:∀ b,b<w.heap.size→w'.heap[b]? = w.heap[b]?): w.keptBut w' may:=by
 refine⟨h1,h2,fun i hi=>?_⟩
 rw[h3 i hi]
 split
 ·rename_i a b ha hb
  rw[ha]at hb
  cases Option.some.inj hb
  exact⟨rfl,rfl,rfl,fun _ _=>rfl⟩
 ·rename_i a b ha hb
  rw[ha]at hb
  cases Option.some.inj hb
  exact .inr ⟨rfl,rfl⟩
 ·rfl
theorem Oj(h3:∀ b,b<w.heap.size→w'.heap[b]? = w.heap[b]?){p:MemPlace}(hp:p.block<w.heap.size): w.sameAt w' p:=by
 cases p with
 | cell b off=>exact lM (h3 b hp) off none
 | map b=>exact h3 b hp
def aK.all(w:World): aK:=aK.bare (· < w.heap.size)
theorem rY{f:FuncId}{fn:Func}{s:ChangeSpec}{t:TypeId}{args':List AV}{W:World}{args:Array Value}{ds gs:List (DataW H)}{before:List MemPlace}
 (h:aq P f args' (.bool true)) (hW:DataW.Whole enc P fn.params.toList s.vars false W args.toList ds gs before) (hG:A4 (aK.all W) W)
 (K:Kids P (· < P.types.size)) (hz:∀ t e,t<P.types.size→P.underlying t=some (.slice e)→0<P.cellsOf e) (hps:∀ t ∈ fn.params.toList,t<P.types.size)
 (hvars:s.vars=[]) (hrt:fn.resultTypes = #[t]) (ht:P.underlying t=some .bool) (hfn:s.fn H (ds++gs) = { results:=[.lit (.bool true)],args:=ds,vars:=[] })
 (hl:args'.length=args.size) (hv:∀ i,i<args'.length→VR (aK.all W) W (args'.getD i .undef) (args.getD i Go.undef)) :
 Calls P f args W fun e W'=> ∃ v,e = .returned v∧s.post enc P fn false true false false W args v W':=by
 refine((h []).2 (aK.all W) W args (Rel.bare (fun _ h=>h) hG) hl hv).mono ?_
 rintro e W' ⟨out,g',σ',hR,hE,hO,rfl,rfl⟩
 have hfr:∀ b,b<W.heap.size→W'.heap[b]? = W.heap[b]?:=fun b hb=>hE.frame b hb gw
 cases e with
 | panicked c=>exact hO.elim
 | outgrown=>exact hO.elim
 | returned v =>
   have hb:v = .bool true:=by cases hO;rfl
   subst hb
   refine⟨_,rfl,ds,gs,before,[],before,[],hW,?_,?_,?_,MW hE.os hE.output hfr,fun h=>by cases h⟩
   ·rw[hfn,hrt]
    exact trodAll_mk1 (RowKit.shut_bool ht true)
   ·rw[hfn]
    have hlt:=hW.lt
    obtain⟨p,q,h1,h2,rfl,_,_⟩:=hW
    rw[hvars]at h2
    obtain⟨rfl,rfl⟩:=trodVars_none h2
    rw[List.append_nil]at hlt ⊢
    refine vw (DataW.TrodAll.respare K hz hps h1 (fun x hx=>by simpa using hlt x hx)) (fun x hx=>Oj hfr (hlt x hx))
   ·rw[hfn,hvars]
    rfl
theorem VR.string{g:aK}{w:World}(s:ByteArray): VR g w (.str s.data.toList) (.string s):=VR.str s.data.toList
end
end Go.AM
