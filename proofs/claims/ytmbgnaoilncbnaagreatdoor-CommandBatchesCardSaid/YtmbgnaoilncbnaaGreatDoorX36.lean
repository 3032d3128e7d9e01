/- Part. -/
import Derived.Test.YtmbgnaoilncbnaaGreatDoorX35
import Derived.WalkKit
import Derived.ProofKit
import Derived.OpenShut
import Derived.ReadAgain
import Derived.Deep.SlicePairs
set_option linter.all false
set_option maxHeartbeats 4000000
namespace Go.Proofs.YtmbgnaoilncbnaaGreatDoor
open Go.AM
set_option maxRecDepth 4000
def adR{s:aJ}(h:s.length<=1400): fX true s=if(iU true s).2.2=true\/(iU true s).2.1≠[]\/ez (iU true s).1≠(s,0)then (bM,4)else ((iU true s).1,0):=by
 unfold fX;rw[if_neg (by omega)];simp
def Yk{z:Bool}{w v k:Nat}{out:List dO}{s:aJ}{b:Bool}(h:k=0\/b=true): jr z w v k out s b=(out,s,b):=by
 cases k with
 | zero=>rfl
 | succ k =>
   rcases h with h|h
   ·cases h
   ·rw[jr,if_pos h]
def nR.len{L:Nat}{S:aj}{v:AV}{xs:List aJ}(h:nR L S v xs)(K:AV->Prop): Ke false v (.mk:Tg K)=K (I xs.length):=by
 rcases h with⟨rfl,rfl⟩|⟨_,q,_,rfl,_⟩
 ·rw[S9];rfl
 ·rw[VC]
def tK.len{L:Nat}{S:aj}{v:AV}{l:List dO}(h:tK L S v l)(K:AV->Prop): Ke false v (.mk:Tg K)=K (I l.length):=by
 rcases h with⟨rfl,rfl⟩|⟨_,q,_,_,rfl,_⟩
 ·rw[S9];rfl
 ·rw[VC]
def lV{S:aj}{j k:Nat}{o d:aX}(h:S[j]? = some o)(hne:j≠k): (S.set k d)[j]? = some o:=by rw[aH (Ne.symm hne)];exact h
abbrev yL(s:aJ)(b:Bool): aX:= .cells [.str s,.bool b]
set_option maxHeartbeats 8000000 in
def Yl(s:aJ): ai Tryz.prog Ax [.str s] (qQ (fX true s)):=by
 by_cases kA:1400<s.length
 ·rw[Rf true kA];refine ai.aG (F6 (by simp) ?_) (by simp[qQ]);unfold A6 aP;intro Q au aA aB;repeat' first|refine aq ?_|refine ak ?_ ?_<;>intro hw<;>try omega|fail
  exact bq (fN (lA _))
 have hs:s.length<=1400:=by omega
 have ok:=(DW true hs).1;have cB:=FO _ ok;clear ok;rw[adR hs];have h1:=qp s false;have c1:=zI s false (by omega);obtain⟨⟨nm,s1,b1⟩,ha⟩:∃ a,fM s false=a:=⟨_,rfl⟩;rw[ha]at h1 c1;dsimp only at h1 c1;have h2:=lB s1 b1;have c2:=Aq s1 b1 (by omega);obtain⟨⟨po,s2,b2⟩,hp⟩:∃ a,ij s1 b1=a:=⟨_,rfl⟩;rw[hp]at h2 c2;dsimp only at h2 c2;have h3:=lB s2 b2;have c3:=Aq s2 b2 (by omega);obtain⟨⟨ag,s3,b3⟩,hg⟩:∃ a,ij s2 b2=a:=⟨_,rfl⟩;rw[hg]at h3 c3;dsimp only at h3 c3;have h4:=rS none s3 b3 (n:=1400) (by omega);have c4:=NS false s3 b3 (by omega);have e9:D2 false=none:=rfl;rw[e9]at c4;obtain⟨⟨ins,s4,b4⟩,hi⟩:∃ a,fH none s3 b3=a:=⟨_,rfl⟩;rw[hi]at h4 c4;dsimp only at h4 c4;have h5:=rS (some 1400) s4 b4 (n:=1400) (by omega);have c5:=NS true s4 b4 (by omega);have e9:D2 true=some 1400:=rfl;rw[e9]at c5;obtain⟨⟨outs,s5,b5⟩,ho⟩:∃ a,fH (some 1400) s4 b4=a:=⟨_,rfl⟩;rw[ho]at h5 c5;dsimp only at h5 c5;have h6:=lB s5 b5;have c6:=Aq s5 b5 (by omega);obtain⟨⟨n,s6,b6⟩,hn⟩:∃ a,ij s5 b5=a:=⟨_,rfl⟩;rw[hn]at h6 c6;dsimp only at h6 c6;obtain⟨R,hR⟩:∃ R,jr true ins.length outs.length n.toNat [] s6 b6=R:=⟨_,rfl⟩
 have hrd:iU true s=(⟨nm,ins,outs,po,ag,R.1⟩,R.2.1,R.2.2):=by
  have e8:O4 true=1400:=rfl;unfold iU;rw[ha];dsimp only;rw[hp];dsimp only;rw[hg];dsimp only;rw[hi,e8];dsimp only;rw[ho];dsimp only;rw[hn];dsimp only;rw[show FK true n=n.toNat from rfl,hR]
 clear ha hp hg hi ho hn;rw[hrd]at cB ⊢;clear hrd;dsimp only at cB ⊢;obtain⟨E,hE⟩:∃ E,(if R.2.2=true\/R.2.1≠[]\/ez ⟨nm,ins,outs,po,ag,R.1⟩≠(s,0)then (bM,4)else (⟨nm,ins,outs,po,ag,R.1⟩,0):Table × Int)=E:=⟨_,rfl⟩;rw[hE];have li:ins.length<=1401:=h4.2.1;have lo:outs.length<=1401:=h5.2.1;simp only[iI,bB]at c1 c2 c3 c4 c5 c6;refine ai.aG (F6 (by simp) ?_) (by simp[qQ]);unfold A6 aP;intro Q au aA aB;repeat' first|refine aq ?_|refine bh c1 ?_|refine bh c2 ?_|refine bh c3 ?_|refine bh c4 ?_|refine bh c5 ?_|refine bh c6 ?_|refine ak ?_ ?_<;>intro hw<;>try omega|fail
 clear c1 c2 c3 c4 c5 c6;with_reducible refine bn [7,8,9,10,33,34,35,36,37,38,39,40,41,42,43,44,45,46,47,48,49,50,51,52,53,54,55,56,57,58,59,60,61,62,63,64,65,66,67,68,69,70,71,72,73,74,75,76,77,78,79,80,81,82,83,84,85,86,87,88,89,90] (fun q:List dO × aJ × Bool × aj=>[(7,I q.1.length)]) (fun q=>q.2.2.2) (fun q=>q.1.length+q.2.1.length+(if q.2.2.1 then 0 else 1)<=1401/\R=jr true ins.length outs.length (n.toNat-q.1.length) q.1 q.2.1 q.2.2.1/\3<=q.2.2.2.length/\q.2.2.2[0]? = some o0T/\q.2.2.2[1]? = some (yL q.2.1 q.2.2.1)/\ ∃ v,q.2.2.2[2]? = some (L6 nm ins outs po ag v)/\tK 3 q.2.2.2 v q.1) (fun q=>n.toNat-q.1.length) ([],s6,b6,_) ⟨by dsimp only;split<;>simp<;>omega,by simpa using hR.symm,by simp,rfl,rfl,_,rfl,tK.nil _ _⟩ rfl ?_ ?_
 ·exact at_
 rintro⟨rs,t0,b0,S⟩ u ⟨g1,g2,g3,f0,f1,v,f2,g4⟩;dsimp only at g1 g2 g3 f0 f1 f2 g4;have hvs:=g4.scalar;have hvl:=g4.len;by_cases hgo:(rs.length:Int)<n/\b0=false
 ·obtain⟨hlt,rfl⟩:=hgo;obtain⟨j,hj⟩:∃ j,n.toNat-rs.length=j+1:=⟨n.toNat-rs.length-1,by omega⟩;rw[hj,jr,if_neg (by simp)]at g2;simp only[Bool.false_eq_true,if_false]at g1;have hro:=O6 true ins.length outs.length t0 false (n:=1400) (by omega);unfold m_ at g2 hro;dsimp only at g2 hro;obtain⟨X,hX⟩:∃ X,eO ins.length [] t0 false=X:=⟨_,rfl⟩;rw[hX]at g2 hro;obtain⟨Y,hY⟩:∃ Y,eO outs.length [] X.2.1 X.2.2=Y:=⟨_,rfl⟩;rw[hY]at g2 hro;have hXo:=Ap ins.length [] t0 false 1400 (by omega) (by simp);rw[hX]at hXo;have hYo:=Ap outs.length [] X.2.1 X.2.2 1400 (by omega) (by simp);rw[hY]at hYo;have e1n:(1:Nat)≠S.length:=by omega
  repeat' first|simp (disch:=omega) only[go_sem,au,aA,aB,f0,f1,f2]|refine aq ?_|refine ak ?_ ?_<;>intro hw<;>try omega|fail
  with_reducible refine bn [9,46,47,48,49,50,51,52,53,54,55,56,57,58,59] (fun q:List aJ × aJ × Bool × aj=>[(9,I q.1.length)]) (fun q=>q.2.2.2) (fun q=>q.1.length<=ins.length/\q.2.1.length<=1400/\X=eO (ins.length-q.1.length) q.1 q.2.1 q.2.2.1/\S.length<q.2.2.2.length/\(∀ j o,S[j]? = some o->j≠1->q.2.2.2[j]? = some o)/\q.2.2.2[1]? = some (yL q.2.1 q.2.2.1)/\ ∃ x,q.2.2.2[S.length]? = some (.cells [x,.ae])/\nR (S.length+1) q.2.2.2 x q.1) (fun q=>ins.length-q.1.length) ([],t0,false,_) ⟨by simp,by dsimp only;omega,by dsimp only;rw[List.length_nil,Nat.sub_zero];exact hX.symm,by simp,fun j o hj _=>by rw[List.getElem?_append_left (dw hj)];exact hj,by rw[List.getElem?_append_left (dw f1)];exact f1,_,Aw _ _,nR.nil _ _⟩ rfl ?_ ?_
  ·exact at_
  rintro⟨xs,t1,b1,S1⟩ rr ⟨k1,k2,k3,k4,k5,k6,x,k7,k8⟩;dsimp only at k1 k2 k3 k4 k5 k6 k7 k8;have d2:=k5 _ _ f2 (by omega);by_cases hm:xs.length<ins.length
  ·obtain⟨i,hi⟩:∃ i,ins.length-xs.length=i+1:=⟨ins.length-xs.length-1,by omega⟩;rw[hi,eO]at k3;have cT:=zI t1 b1 (by omega);have hl:=qp t1 b1;generalize fM t1 b1=a at *;obtain⟨z,t2,b2⟩:=a;dsimp only at k3 cT hl;simp only[iI]at cT;have hin:ins.length-(xs++[z]).length=i:=by simp;omega
   have m7:∀ d:aX,(S1.set 1 d)[S.length]? = some (.cells [x,.ae]):=fun d=>lV k7 (Ne.symm e1n);have m1:(S1.set 1 (yL t2 b2))[1]? = some (yL t2 b2):=List.getElem?_set_self (dw k6);have hS1:(S1.set 1 (yL t2 b2)).length=S1.length:=List.length_set;rcases k8 with⟨rfl,rfl⟩|⟨hne,q,hq,rfl,lT⟩
   ·have hap:∀ d e:aX,(S1.set 1 d++[e])[S.length]? = some (.cells [.ae,.ae]):=fun d e=>by rw[List.getElem?_append_left (by simpa using dw k7)];exact m7 d
    repeat' first|simp (disch:=omega) only[go_sem,au,aA,aB,d2,k6,k7,m7,hap]|refine aq ?_|with_reducible refine yS cT k6 ?_|refine ak ?_ ?_<;>intro hw<;>try omega|fail
    all_goals first|exact aY|skip
    refine⟨([z],t2,b2,_),⟨by simp;omega,by dsimp only;omega,by rw[List.nil_append]at hin k3;dsimp only;rw[hin];exact k3,?_,?_,?_,.own E1 (S1.set 1 (yL t2 b2)).length 1 0 1,?_,?_⟩,by simp at hi ⊢;omega,rfl,bJ,at_⟩
    ·dsimp only;simp;omega
    ·intro j o hj hne;dsimp only;exact dJ j o (lV (k5 _ _ hj hne) hne) (by have:=dw hj;omega)
    ·dsimp only;exact dJ 1 _ m1 (by omega)
    ·dsimp only;rw[List.getElem?_set_self (by simp;omega)]
    ·dsimp only;exact zu (by simp;omega) (by simp;omega)
   ·have Al:q≠S.length:=by omega
    have Fg:q≠1:=by omega
    have m8:∀ d:aX,(S1.set 1 d)[q]? = some (.vec E1 (xs.map cS)):=fun d=>lV lT Fg;have hap:∀ d e:aX,((S1.set 1 d).set q e)[S.length]? = some (.cells [.own E1 q xs.length 0 xs.length,.ae]):=fun d e=>lV (m7 d) (Ne.symm Al);repeat' first|simp (disch:=omega) only[go_sem,au,aA,aB,d2,k6,k7,m7,hap,m8]|refine aq ?_|with_reducible refine yS cT k6 ?_|refine ak ?_ ?_<;>intro hw<;>try omega|fail
    all_goals first|exact aY|skip
    refine⟨(xs++[z],t2,b2,_),⟨by simp;omega,by dsimp only;omega,by dsimp only;rw[hin];exact k3,?_,?_,?_,.own E1 q (xs.length+1) 0 (xs.length+1),?_,?_⟩,by simp at hi ⊢;omega,rfl,bJ,?_⟩
    ·dsimp only;simp;omega
    ·intro j o hj hne;dsimp only;have:=dw hj;exact ei j o (lV (k5 _ _ hj hne) hne) (by omega) (by omega)
    ·dsimp only;exact ei 1 _ m1 (by omega) (Ne.symm Fg)
    ·dsimp only;rw[List.getElem?_set_self (by simp;omega)]
    ·dsimp only;exact Co (m8 _) hq (Ne.symm Al)
    ·dsimp only;simp only[List.length_append,List.length_singleton];simp (disch:=omega) only[dm,cK,and_true,go_sem,au,aA,aB,Int.natCast_add,Int.cast_ofNat_Int]<;>(try trivial)<;>(try omega)<;>(try (repeat (first|trivial|(refine And.intro ?_ ?_)|(congr 1;omega))))
  ·have hxl:xs.length=ins.length:=by omega
   have hz0:ins.length-xs.length=0:=by omega
   rw[hz0,eO]at k3;repeat' first|simp (disch:=omega) only[go_sem,au,aA,aB,d2,k6,k7]|refine aq ?_|refine ak ?_ ?_<;>intro hw<;>try omega|fail
   all_goals first|exact aY|skip
   with_reducible refine bn [10,60,61,62,63,64,65,66,67,68,69,70,71,72,73] (fun q:List aJ × aJ × Bool × aj=>[(10,I q.1.length)]) (fun q=>q.2.2.2) (fun q=>q.1.length<=outs.length/\q.2.1.length<=1400/\Y=eO (outs.length-q.1.length) q.1 q.2.1 q.2.2.1/\S1.length<=q.2.2.2.length/\(∀ j o,S1[j]? = some o->j≠1->j≠S.length->q.2.2.2[j]? = some o)/\q.2.2.2[1]? = some (yL q.2.1 q.2.2.1)/\ ∃ y,q.2.2.2[S.length]? = some (.cells [x,y])/\nR S1.length q.2.2.2 y q.1) (fun q=>outs.length-q.1.length) ([],t1,b1,_) ⟨by simp,by dsimp only;omega,by dsimp only;rw[List.length_nil,Nat.sub_zero,<-hY,k3],Nat.le_refl _,fun j o hj _ _=>hj,k6,_,k7,nR.nil _ _⟩ rfl ?_ ?_
   ·exact at_
   rintro⟨ys,t3,b3,S2⟩ rr ⟨p1,p2,p3,p4,p5,p6,y,p7,p8⟩;dsimp only at p1 p2 p3 p4 p5 p6 p7 p8;have d2:=p5 _ _ d2 (by omega) (by omega);have aj8:=k8.scalar;by_cases Kb:ys.length<outs.length
   ·obtain⟨i,hi⟩:∃ i,outs.length-ys.length=i+1:=⟨outs.length-ys.length-1,by omega⟩;rw[hi,eO]at p3;have cT:=zI t3 b3 (by omega);have hl:=qp t3 b3;generalize fM t3 b3=a at *;obtain⟨z,t2,b2⟩:=a;dsimp only at p3 cT hl;simp only[iI]at cT;have hin:outs.length-(ys++[z]).length=i:=by simp;omega
    have m7:∀ d:aX,(S2.set 1 d)[S.length]? = some (.cells [x,y]):=fun d=>lV p7 (Ne.symm e1n);have m1:(S2.set 1 (yL t2 b2))[1]? = some (yL t2 b2):=List.getElem?_set_self (dw p6);rcases p8 with⟨rfl,rfl⟩|⟨hne,q,hq,rfl,lT⟩
    ·have hap:∀ d e:aX,(S2.set 1 d++[e])[S.length]? = some (.cells [x,.ae]):=fun d e=>by rw[List.getElem?_append_left (by simpa using dw p7)];exact m7 d
     repeat' first|simp (disch:=omega) only[go_sem,au,aA,aB,d2,p6,p7,m7,hap]|refine aq ?_|with_reducible refine yS cT p6 ?_|refine ak ?_ ?_<;>intro hw<;>try omega|fail
     all_goals first|exact aY|skip
     refine⟨([z],t2,b2,_),⟨by simp;omega,by dsimp only;omega,by rw[List.nil_append]at hin p3;dsimp only;rw[hin];exact p3,?_,?_,?_,.own E1 (S2.set 1 (yL t2 b2)).length 1 0 1,?_,?_⟩,by simp at hi ⊢;omega,rfl,bJ,at_⟩
     ·dsimp only;simp;omega
     ·intro j o hj hne LR;dsimp only;exact dJ j o (lV (p5 _ _ hj hne LR) hne) LR
     ·dsimp only;exact dJ 1 _ m1 (by omega)
     ·dsimp only;rw[List.getElem?_set_self (by simp;omega)]
     ·dsimp only;exact zu (by simp;omega) (by simp;omega)
    ·have Al:q≠S.length:=by omega
     have Fg:q≠1:=by omega
     have m8:∀ d:aX,(S2.set 1 d)[q]? = some (.vec E1 (ys.map cS)):=fun d=>lV lT Fg;have hap:∀ d e:aX,((S2.set 1 d).set q e)[S.length]? = some (.cells [x,.own E1 q ys.length 0 ys.length]):=fun d e=>lV (m7 d) (Ne.symm Al);repeat' first|simp (disch:=omega) only[go_sem,au,aA,aB,d2,p6,p7,m7,hap,m8]|refine aq ?_|with_reducible refine yS cT p6 ?_|refine ak ?_ ?_<;>intro hw<;>try omega|fail
     all_goals first|exact aY|skip
     refine⟨(ys++[z],t2,b2,_),⟨by simp;omega,by dsimp only;omega,by dsimp only;rw[hin];exact p3,?_,?_,?_,.own E1 q (ys.length+1) 0 (ys.length+1),?_,?_⟩,by simp at hi ⊢;omega,rfl,bJ,?_⟩
     ·dsimp only;simp;omega
     ·intro j o hj hne LR;dsimp only;have:=dw hj;exact ei j o (lV (p5 _ _ hj hne LR) hne) LR (by omega)
     ·dsimp only;exact ei 1 _ m1 (by omega) (Ne.symm Fg)
     ·dsimp only;rw[List.getElem?_set_self (by simp;omega)]
     ·dsimp only;exact Co (m8 _) hq (Ne.symm Al)
     ·dsimp only;simp only[List.length_append,List.length_singleton];simp (disch:=omega) only[dm,cK,and_true,go_sem,au,aA,aB,Int.natCast_add,Int.cast_ofNat_Int]<;>(try trivial)<;>(try omega)<;>(try (repeat (first|trivial|(refine And.intro ?_ ?_)|(congr 1;omega))))
   ·have zP:ys.length=outs.length:=by omega
    have hz0:outs.length-ys.length=0:=by omega
    rw[hz0,eO]at p3;have aj9:=p8.scalar;have Kk:nR (S.length+1) S2 x xs:=k8.keep (Nat.le_refl _) (fun q ys hq lT=>p5 q _ lT (by omega) (by omega));have hxn:=Kk.len;have hyn:=p8.len;have d0:S2[0]? = some o0T:=p5 _ _ (k5 _ _ f0 (by omega)) (by omega) (by omega);have hlS:S.length<S2.length:=by omega
    have M3:n.toNat-(rs++[(⟨xs,ys⟩:dO)]).length=j:=by simp;omega
    have hfit:([AV.agg [x,y]].all fun a=>AV.fits ⟨true,2⟩ a)=true:=by simp only[AV.fits,List.length_cons,List.length_nil,List.all_cons,List.all_nil,aj8,aj9];rfl
    have zH:AV.fits ⟨true,2⟩ (.agg [x,y])=true:=by simpa using hfit
    rw[p3,k3]at g2;rw[p3]at hro;dsimp only at g2 hro;by_cases hz:ins.length+outs.length=0
    ·skip
     have hb':(b3 ||(true && ins.length+outs.length==0))=true:=by rw[hz];simp
     have d0':∀ o,(S2.set 1 o)[0]? = some o0T:=fun o=>lV d0 (by omega);have W_:∀ o,(S2.set 1 o)[2]? = some (L6 nm ins outs po ag v):=fun o=>lV d2 (by omega);have p7':∀ o,(S2.set 1 o)[S.length]? = some (.cells [x,y]):=fun o=>lV p7 (Ne.symm e1n);have s1':(S2.set 1 (yL t3 true))[1]? = some (yL t3 true):=List.getElem?_set_self (dw p6);have JW:∀ (q:Nat) (T:El) (ys:List AV),S2[q]? = some (.vec T ys)->(S2.set 1 (yL t3 true))[q]? = some (.vec T ys):=fun q T ys hq=>lV hq (fun e=>by subst e;rw[p6]at hq;cases hq);have uK:(S2.set 1 (yL t3 true)).length=S2.length:=List.length_set;rw[hb']at g2 hro
     have hbd:(rs++[(⟨xs,ys⟩:dO)]).length+t3.length+(if true then 0 else 1)<=1401:=by
      rw[List.length_append,List.length_singleton];cases b3 with
      | true=>simp;omega
      | false=>simp;omega
     have Aj:Sr (S2.set 1 (yL t3 true)) (.agg [x,y]) ⟨xs,ys⟩:=⟨x,y,rfl,Kk.keep (bP _) (fun q _ _ h=>JW q _ _ h),p8.keep (bP _) (fun q _ _ h=>JW q _ _ h)⟩;rcases g4 with⟨h4,rfl⟩|⟨h4,q,ra,hq,rfl,lT,hr⟩
     ·have hap:∀ o (d:aX),(S2.set 1 o++[d])[2]? = some (L6 nm ins outs po ag .ae):=fun o d=>by rw[List.getElem?_append_left (dw (W_ o))];exact W_ o
      repeat' first|simp (disch:=omega) only[go_sem,au,aA,aB,d2,W_,p6,p7,p7',hxn,hyn,hxl,zP,hap,hfit,zH]|refine aq ?_|refine ak ?_ ?_<;>intro hw<;>try omega|fail
      all_goals first|exact aY|skip
      refine⟨(rs++[⟨xs,ys⟩],t3,true,_),⟨hbd,by dsimp only;rw[M3];exact g2,?_,?_,?_,.own ER (S2.set 1 (yL t3 true)).length 1 0 1,?_,?_⟩,by simp;omega,rfl,bJ,?_⟩
      ·dsimp only;simp;omega
      ·exact dJ _ _ (d0' _) (by omega)
      ·exact dJ _ _ s1' (by omega)
      ·dsimp only;rw[List.getElem?_set_self (by simp;omega)]
      ·dsimp only;rw[h4];refine .inr ⟨by simp,(S2.set 1 (yL t3 true)).length,[.agg [x,y]],by rw[uK];omega,rfl,?_,gI.keep (fun q ys hq=>dJ _ _ hq (fun e=>by subst e;rw[(W_ _)]at hq;cases hq)) (gI.snoc (gI.nil _) Aj)⟩;rw[aH (by rw[uK];omega)];simp
      ·dsimp only;simp only[List.length_append,List.length_singleton];simp (disch:=omega) only[dm,cK,and_true,go_sem,au,aA,aB,Int.natCast_add,Int.cast_ofNat_Int]<;>(try trivial)<;>(try omega)<;>(try (repeat (first|trivial|(refine And.intro ?_ ?_)|(congr 1;omega))))
     ·have Br:q≠2:=by omega
      have Fg:q≠1:=fun e=>by subst e;rw[f1]at lT;cases lT
      have e4:S2[q]? = some (.vec ER ra):=p5 _ _ (k5 _ _ lT Fg) Fg (by have:=dw lT;omega);have Y2:ra.length=rs.length:=hr.1;have hap:∀ o (d:aX),((S2.set 1 o).set q d)[2]? = some (L6 nm ins outs po ag (.own ER q rs.length 0 rs.length)):=fun o d=>lV (W_ o) (Ne.symm Br);have e4':∀ o,(S2.set 1 o)[q]? = some (.vec ER ra):=fun o=>lV e4 Fg;repeat' first|simp (disch:=omega) only[go_sem,au,aA,aB,d2,W_,p6,p7,p7',hxn,hyn,hxl,zP,hap,hfit,zH,e4,e4',Y2]|refine aq ?_|refine ak ?_ ?_<;>intro hw<;>try omega|fail
      all_goals first|exact aY|skip
      refine⟨(rs++[⟨xs,ys⟩],t3,true,_),⟨hbd,by dsimp only;rw[M3];exact g2,?_,?_,?_,.own ER q (rs.length+1) 0 (rs.length+1),?_,?_⟩,by simp;omega,rfl,bJ,?_⟩
      ·dsimp only;simp;omega
      ·exact ei _ _ (d0' _) (by omega) (by omega)
      ·exact ei _ _ s1' (by omega) (Ne.symm Fg)
      ·dsimp only;rw[List.getElem?_set_self (by simp;omega)]
      ·dsimp only
       have Ah:gI (S2.set 1 (yL t3 true)) ra rs:=hr.keep (fun q ys hq=>JW q _ _ (by
        have n1:q≠1:=fun e=>by subst e;rw[f1]at hq;cases hq
        exact p5 _ _ (k5 _ _ hq n1) n1 (by have:=dw hq;omega)))
       refine .inr ⟨by simp,q,ra++[.agg [x,y]],hq,by simp,?_,gI.keep (fun p ys hp=>ei _ _ hp (fun e=>by subst e;rw[(W_ _)]at hp;cases hp) (fun e=>by subst e;rw[e4']at hp;cases hp)) (gI.snoc Ah Aj)⟩;rw[aH (Ne.symm Br),List.getElem?_set_self (dw (e4' _))]
      ·dsimp only;simp only[List.length_append,List.length_singleton];simp (disch:=omega) only[dm,cK,and_true,go_sem,au,aA,aB,Int.natCast_add,Int.cast_ofNat_Int]<;>(try trivial)<;>(try omega)<;>(try (repeat (first|trivial|(refine And.intro ?_ ?_)|(congr 1;omega))))
    ·skip
     have hb' : (b3 || (true && ins.length + outs.length == 0)) = b3 := by have : (ins.length + outs.length == 0) = false := by rw [beq_eq_false_iff_ne]; exact hz
                                                                           rw[this];simp
     have JW:∀ (q:Nat) (T:El) (ys:List AV),S2[q]? = some (.vec T ys)->S2[q]? = some (.vec T ys):=fun _ _ _ h=>h;have uK:S2.length=S2.length:=rfl;rw[hb']at g2 hro
     have hbd:(rs++[(⟨xs,ys⟩:dO)]).length+t3.length+(if b3 then 0 else 1)<=1401:=by
      rw[List.length_append,List.length_singleton];cases b3 with
      | true=>simp;omega
      | false=>have:=hro.2.2 rfl rfl;simp;omega
     have Aj:Sr S2 (.agg [x,y]) ⟨xs,ys⟩:=⟨x,y,rfl,Kk.keep (bP _) (fun q _ _ h=>JW q _ _ h),p8.keep (bP _) (fun q _ _ h=>JW q _ _ h)⟩;rcases g4 with⟨h4,rfl⟩|⟨h4,q,ra,hq,rfl,lT,hr⟩
     ·have hap:∀ (d:aX),(S2++[d])[2]? = some (L6 nm ins outs po ag .ae):=fun d=>by rw[List.getElem?_append_left (dw (d2))];exact d2
      repeat' first|simp (disch:=omega) only[go_sem,au,aA,aB,d2,p6,p7,hxn,hyn,hxl,zP,hap,hfit,zH]|refine aq ?_|refine ak ?_ ?_<;>intro hw<;>try omega|fail
      all_goals first|exact aY|skip
      refine⟨(rs++[⟨xs,ys⟩],t3,b3,_),⟨hbd,by dsimp only;rw[M3];exact g2,?_,?_,?_,.own ER S2.length 1 0 1,?_,?_⟩,by simp;omega,rfl,bJ,?_⟩
      ·dsimp only;simp;omega
      ·exact dJ _ _ d0 (by omega)
      ·exact dJ _ _ p6 (by omega)
      ·dsimp only;rw[List.getElem?_set_self (by simp;omega)]
      ·dsimp only;rw[h4];refine .inr ⟨by simp,S2.length,[.agg [x,y]],by rw[uK];omega,rfl,?_,gI.keep (fun q ys hq=>dJ _ _ hq (fun e=>by subst e;rw[d2]at hq;cases hq)) (gI.snoc (gI.nil _) Aj)⟩;rw[aH (by rw[uK];omega)];simp
      ·dsimp only;simp only[List.length_append,List.length_singleton];simp (disch:=omega) only[dm,cK,and_true,go_sem,au,aA,aB,Int.natCast_add,Int.cast_ofNat_Int]<;>(try trivial)<;>(try omega)<;>(try (repeat (first|trivial|(refine And.intro ?_ ?_)|(congr 1;omega))))
     ·have Br:q≠2:=by omega
      have Fg:q≠1:=fun e=>by subst e;rw[f1]at lT;cases lT
      have e4:S2[q]? = some (.vec ER ra):=p5 _ _ (k5 _ _ lT Fg) Fg (by have:=dw lT;omega);have Y2:ra.length=rs.length:=hr.1;have hap:∀ (d:aX),(S2.set q d)[2]? = some (L6 nm ins outs po ag (.own ER q rs.length 0 rs.length)):=fun d=>lV (d2) (Ne.symm Br)
      skip
      repeat' first|simp (disch:=omega) only[go_sem,au,aA,aB,d2,p6,p7,hxn,hyn,hxl,zP,hap,hfit,zH,e4,Y2]|refine aq ?_|refine ak ?_ ?_<;>intro hw<;>try omega|fail
      all_goals first|exact aY|skip
      refine⟨(rs++[⟨xs,ys⟩],t3,b3,_),⟨hbd,by dsimp only;rw[M3];exact g2,?_,?_,?_,.own ER q (rs.length+1) 0 (rs.length+1),?_,?_⟩,by simp;omega,rfl,bJ,?_⟩
      ·dsimp only;simp;omega
      ·exact ei _ _ d0 (by omega) (by omega)
      ·exact ei _ _ p6 (by omega) (Ne.symm Fg)
      ·dsimp only;rw[List.getElem?_set_self (by simp;omega)]
      ·dsimp only
       have Ah:gI S2 ra rs:=hr.keep (fun q ys hq=>JW q _ _ (by
        have n1:q≠1:=fun e=>by subst e;rw[f1]at hq;cases hq
        exact p5 _ _ (k5 _ _ hq n1) n1 (by have:=dw hq;omega)))
       refine .inr ⟨by simp,q,ra++[.agg [x,y]],hq,by simp,?_,gI.keep (fun p ys hp=>ei _ _ hp (fun e=>by subst e;rw[d2]at hp;cases hp) (fun e=>by subst e;rw[e4]at hp;cases hp)) (gI.snoc Ah Aj)⟩;rw[aH (Ne.symm Br),List.getElem?_set_self (dw (e4))]
      ·dsimp only;simp only[List.length_append,List.length_singleton];simp (disch:=omega) only[dm,cK,and_true,go_sem,au,aA,aB,Int.natCast_add,Int.cast_ofNat_Int]<;>(try trivial)<;>(try omega)<;>(try (repeat (first|trivial|(refine And.intro ?_ ?_)|(congr 1;omega))))
 ·have W7 : R = (rs, t0, b0) := by
   rw[g2];refine Yk ?_;cases b0 with
   | true=>exact .inr rfl
   | false => exact .inl (by have := not_and.1 hgo; rcases Nat.eq_zero_or_pos (n.toNat - rs.length) with h | h
                             ·exact h
                             ·exact absurd rfl (this (by omega)))
  subst W7;dsimp only at cB hE;generalize hB:ez ⟨nm,ins,outs,po,ag,rs⟩=B at *;obtain⟨bs,be⟩:=B;simp only[eB,bS,dy,bB,cW]at cB
  have hno:b0=true\/t0≠[]\/be≠0\/bs≠s->E=(bM,4):=fun h=>by
   rw[<-hE,if_pos];rcases h with h|h|h|h
   ·exact .inl h
   ·exact .inr (.inl h)
   ·exact .inr (.inr (fun e=>h (Prod.mk.inj e).2))
   ·exact .inr (.inr (fun e=>h (Prod.mk.inj e).1))
  have hyes:b0=false->t0=[]->be=0->bs=s->E=(⟨nm,ins,outs,po,ag,rs⟩,0):=fun h0 h1 h2 h3=>by
   rw[<-hE,if_neg];rw[h0,h1,h2,h3];simp
  have hva:([AV.str nm,.aK false EC (ins.map bE),.aK false EC (outs.map bE),I po,I ag,v].all AV.scalar)=true:=by simp only[List.all_cons,List.all_nil,hvs];rfl
  have hs0:∀ o,(S.set 0 o)[0]? = some o:=fun o=>List.getElem?_set_self (dw f0)
  have Y9:aW S [.agg [.str nm,.aK false EC (ins.map bE),.aK false EC (outs.map bE),I po,I ag,v]] [.agg [.str nm,.aK false EC (ins.map bE),.aK false EC (outs.map bE),I po,I ag,.aK false ER (rs.map cN)]] :=
   .cons (View.nU (.cons (.refl _ rfl) (.cons (.refl _ (by simp)) (.cons (.refl _ (by simp)) (.cons (.refl _ rfl) (.cons (.refl _ rfl) (.cons g4.view (.nil _)))))))) (.nil _)
  have h5:=g4.keep (S':=S.set 0 (L6 nm ins outs po ag v)) (fun q o hq hne=>by
   rw[List.getElem?_set_ne (fun e=>by subst e;rw[f0]at hq;cases hq;exact hne _ rfl)];exact hq)
  cases b0
  all_goals
   repeat' first|simp (disch:=omega) only[go_sem,au,aA,aB,f0,f1,f2,hva,hs0]|refine aq ?_|with_reducible refine wC cB Y9 rfl ?_|refine ak ?_ ?_<;>intro hw<;>try omega|fail
  all_goals first
   | exact aY
   |(exfalso;refine hgo ⟨?_,rfl⟩;omega)
   |(rw[hno (by simp_all)];exact bq (fN (lA _)))
   |(rw[hyes rfl (by assumption) (by assumption) (by assumption)];exact bq (fN (View.nU (.cons (.refl _ rfl) (.cons (.refl _ (by simp)) (.cons (.refl _ (by simp)) (.cons (.refl _ rfl) (.cons (.refl _ rfl) (.cons h5.view (.nil _))))))))))
end Go.Proofs.YtmbgnaoilncbnaaGreatDoor
namespace Go.Proofs.YtmbgnaoilncbnaaGreatDoor
open Go.AM
set_option maxRecDepth 4000
end Go.Proofs.YtmbgnaoilncbnaaGreatDoor
namespace Go.AM
open Go.ChangeShapes Go.WideShapes
section
variable {H:Type} {enc:TypeId × Value->H} {P:Program} {w w':World} {base:Nat} {spare:Nat->Bool} {held:Bool}
def yM: ∀ {ts:List TypeId} {vs:List Value} {ds:List (DataW H)} {ps:List MemPlace},DataW.TrodAll enc P w base spare held ts vs ds ps->(∀ p ∈ ps,w.sameAt w' p)->DataW.TrodAll enc P w' base spare held ts vs ds ps
 | [],[],[],_,h,_=>h
 | _::_,_::_,_::_,_,⟨p,q,⟨n,hn⟩,h2,e⟩,hs=>⟨p,q,⟨n,DataW.trod_carry n _ _ _ hn (fun x hx=>hs x (by rw[e];exact iw _ hx))⟩,yM h2 (fun x hx=>hs x (by rw[e];exact List.mem_append_right _ hx)),e⟩
def Rg{may:MemPlace->Prop}(h1:w'.os=w.os)(h2:w'.output=w.output)(h3:∀ b,b<w.heap.size->w'.heap[b]? = w.heap[b]?): w.keptBut w' may:=by
 refine⟨h1,h2,fun i hi=>?_⟩;rw[h3 i hi];split
 ·rename_i a b ha hb;rw[ha]at hb;cases Option.some.inj hb;exact⟨rfl,rfl,rfl,fun _ _=>rfl⟩
 ·rename_i a b ha hb;rw[ha]at hb;cases Option.some.inj hb;exact .inr ⟨rfl,rfl⟩
 ·rfl
def SC(h3:∀ b,b<w.heap.size->w'.heap[b]? = w.heap[b]?){p:MemPlace}(hp:p.block<w.heap.size): w.sameAt w' p:=by
 cases p with
 | cell b off=>exact n8 (h3 b hp) off none
 | map b=>exact h3 b hp
def aO.all(w:World): aO:=aO.bare (· < w.heap.size)
def vC {f : FuncId} {fn : Func} {s : ChangeSpec} {t : TypeId} {args' : List AV} {W : World} {args : Array Value} {ds gs : List (DataW H)} {before : List MemPlace}
    (h:ai P f args' (.bool true)) (hW:DataW.Whole enc P fn.params.toList s.vars false W args.toList ds gs before) (hG:Ee (aO.all W) W)
    (K:Kids P (· < P.types.size)) (hz:∀ t e,t<P.types.size->P.underlying t=some (.slice e)->0<P.cellsOf e) (hps:∀ t ∈ fn.params.toList,t<P.types.size)
    (hvars:s.vars=[]) (hrt:fn.resultTypes = #[t]) (ht:P.underlying t=some .bool) (hfn:s.fn H (ds++gs) = { results:=[.lit (.bool true)],args:=ds,vars:=[] })
    (hl:args'.length=args.size) (hv:∀ i,i<args'.length->VR (aO.all W) W (args'.getD i .undef) (args.getD i Go.undef)) :
    Calls P f args W fun e W'=> ∃ v,e = .returned v/\s.post enc P fn false true false false W args v W':=by
 refine((h []).2 (aO.all W) W args (Rel.bare (fun _ h=>h) hG) hl hv).mono ?_;rintro e W' ⟨out,g',σ',hR,hE,hO,rfl,rfl⟩;have hfr:∀ b,b<W.heap.size->W'.heap[b]? = W.heap[b]?:=fun b hb=>hE.frame b hb js;cases e with
 | panicked c=>exact hO.elim
 | outgrown=>exact hO.elim
 | returned v =>
   have hb:v = .bool true:=by cases hO;rfl
   subst hb;refine⟨_,rfl,ds,gs,before,[],before,[],hW,?_,?_,?_,Rg hE.os hE.output hfr,fun h=>by cases h⟩
   ·rw[hfn,hrt];exact trodAll_mk1 (RowKit.shut_bool ht true)
   ·rw[hfn];have hlt:=hW.lt;obtain⟨p,q,h1,h2,rfl,_,_⟩:=hW;rw[hvars]at h2;obtain⟨rfl,rfl⟩:=trodVars_none h2;rw[List.append_nil]at hlt ⊢;refine yM (DataW.TrodAll.respare K hz hps h1 (fun x hx=>by simpa using hlt x hx)) (fun x hx=>SC hfr (hlt x hx))
   ·rw[hfn,hvars];rfl
def VR.string{g:aO}{w:World}(s:ByteArray): VR g w (.str s.data.toList) (.string s):=VR.str s.data.toList
end
end Go.AM
namespace Go.AM
open Go.ChangeShapes Go.WideShapes
def vA(g:aO)(w:World)(az:List AV)(vs:List Value): Prop:=az.length=vs.length/\ ∀ i,i<az.length->VR g w (az.getD i .undef) (vs.getD i Go.undef)
def vA.nil(g:aO)(w:World): vA g w [] []:=⟨rfl,fun i hi=>by cases hi⟩
def vA.app{g:aO}{w:World}{a b:List AV}{x y:List Value}(h:vA g w a x)(k:vA g w b y): vA g w (a++b) (x++y):=by
 have h1:=h.1;refine⟨by simp[h.1,k.1],fun i hi=>?_⟩;rw[List.length_append]at hi;by_cases hl:i<a.length
 ·have:=h.2 i hl;rw[aE,aE]at this ⊢;rw[List.getElem?_append_left hl,List.getElem?_append_left (by omega)];exact this
 ·have:=k.2 (i-a.length) (by omega);rw[aE,aE]at this ⊢;rw[bU (by omega),bU (by omega),<-h1];exact this
def vA.one{g:aO}{w:World}{a:AV}{x:Value}(h:VR g w a x): vA g w [a] [x]:=⟨rfl,fun i hi=>by
 match i,hi with
 | 0,_=>exact h⟩
def vA.agg{g:aO}{w:World}{az:List AV}{vs:Array Value}(h:vA g w az vs.toList)(hs:az.all AV.scalar=true): VR g w (.agg az) (.agg vs):=by
 refine .agg az vs (by simpa using h.1) hs (fun i hi=>?_);have:=h.2 i hi;simpa[aE,fh]using this
section
variable {H:Type} {enc:TypeId × Value->H} {P:Program} {w:World}
def Reads(enc:TypeId × Value->H)(P:Program)(w:World)(N:Nat)(t:TypeId)(n:Nat){α : Type}(E : α->List AV)(G : α->Prop): Prop :=
 P.cellsOf t=n/\(∀ a,(E a).length=n)/\ ∀ fuel cs x,fuel<=N->DataW.trod enc P w 0 (fun _=>true) true fuel t cs=some x-> ∃ a,G a/\vA (aO.all w) w (E a) cs
def Reads.weak{N t n:Nat}{α : Type}{E : α->List AV}{G G' : α->Prop}(h:Reads enc P w N t n E G)(hg:∀ a,G a->G' a): Reads enc P w N t n E G' :=
 ⟨h.1,h.2.1,fun f cs x hf hx=>by obtain⟨a,h1,h2⟩:=h.2.2 f cs x hf hx;exact⟨a,hg a h1,h2⟩⟩
def Reads.map{N t n:Nat}{α β : Type}{E : α->List AV}{G : α->Prop}{E' : β->List AV}{G' : β->Prop}(h:Reads enc P w N t n E G)(f : α-> β)(hE:∀ a,E' (f a)=E a)(hl:∀ b,(E' b).length=n)(hg:∀ a,G a->G' (f a)): Reads enc P w N t n E' G' :=
 ⟨h.1,hl,fun fu cs x hf hx=>by obtain⟨a,h1,h2⟩:=h.2.2 fu cs x hf hx;exact⟨f a,hg a h1,by rw[hE];exact h2⟩⟩
def Reads.int{N t:Nat}(ht:P.underlying t=some (.int .i64))(hc:P.cellsOf t=1): Reads enc P w N t 1 (fun n:Int=>[.int .i64 n]) (fun n=> -9223372036854775808<=n/\n<=9223372036854775807) :=
 ⟨hc, fun _ => rfl, fun f cs x _ hx => by
   obtain⟨n,rfl,_,wf⟩:=DataW.trod_int ht hx;exact⟨n,by simpa[Lit.wf,IntKind.min,IntKind.max,IntKind.signed,IntKind.bits]using wf,vA.one (.int _ _)⟩⟩
def Reads.str{N t:Nat}(ht:P.underlying t=some .string)(hc:P.cellsOf t=1): Reads enc P w N t 1 (fun s:List UInt8=>[.str s]) (fun _=>True) :=
 ⟨hc, fun _ => rfl, fun f cs x _ hx => by
   obtain⟨s,rfl,_,_⟩:=DataW.trod_string ht hx;exact⟨s.data.toList,trivial,vA.one (VR.string s)⟩⟩
def Reads.bool{N t:Nat}(ht:P.underlying t=some .bool)(hc:P.cellsOf t=1): Reads enc P w N t 1 (fun b:Bool=>[.bool b]) (fun _=>True) :=
 ⟨hc, fun _ => rfl, fun f cs x _ hx => by
   obtain⟨b,rfl,_⟩:=DataW.trod_bool ht hx;exact⟨b,trivial,vA.one (.bool b)⟩⟩
def Reads.slice {N t e n : Nat} {α : Type} [Inhabited α] {E : α -> List AV} {G : α -> Prop} (el : El) (mk : α -> AV) (ht : P.underlying t = some (.slice e)) (hc : P.cellsOf t = 1) (h : Reads enc P w N e n E G) (hn0 : 0 < n) (hsz : el.sz = n)
    (hfit:∀ a,(mk a).fits el=true) (hcell:∀ a c,c<n->(mk a).cell c=(E a).getD c .undef):Reads enc P w (N+1) t 1 (fun l:List α=>[.aK false el (l.map mk)]) (fun l=> ∀ a ∈ l,G a):=by
 refine⟨hc,fun _=>rfl,fun fuel cs x hf hx=>?_⟩;rcases DataW.trod_slice ht hx with⟨rfl,rfl⟩|⟨a,len,cap,elems,rest,k,hk,rfl,_,_,hl,_,hlen,hel,_,_⟩
 ·exact⟨[],by simp,vA.one (.mq _ _ _ _ (fun h=>by cases h))⟩
 have each:∀ i,i<len-> ∃ q : α,G q/\ ∃ cs',w.cells? 0 (a.add (i*P.cellsOf e)) (P.cellsOf e)=some cs'/\vA (aO.all w) w (E q) cs':=fun i hi=>by
  have h1:=hel i hi;rw[aQ (by omega)]at h1;obtain⟨cs',h2,h3⟩:=Option.bind_eq_some_iff.1 h1;obtain⟨q,h4,h5⟩:=h.2.2 k cs' _ (by omega) h3;exact⟨q,h4,cs',h2,h5⟩
 obtain⟨q,hq⟩:=Deep.choose_lt each;refine⟨(List.range len).map q,fun x hx=>by obtain⟨i,hi,rfl⟩:=ek.1 hx;exact(hq i (gu.1 hi)).1,vA.one ?_⟩;have hn:=h.1;by_cases h0:len=0
 ·subst h0;exact .mq _ _ _ _ (fun h=>by cases h)
 have hcells:∀ i c,i<len->c<n-> ∃ v,w.cell? (a.add (i*n+c))=some v/\VR (aO.all w) w ((E (q i)).getD c .undef) v:=fun i c hi gK=>by
  obtain⟨_,cs',h2,h3⟩:=hq i hi;rw[hn]at h2;obtain⟨_,h4,h5⟩:=World.cells?_some h2;have h6:=h5 c gK;rw[Deep.add_add,aQ (by omega)]at h6;have h7:=h3.2 c (by rw[h.2.1];exact gK);rw[aE (l:=cs'),aQ (by omega)]at h7;exact⟨_,h6,h7⟩
 obtain⟨v0,pF,_⟩:=hcells 0 0 (by omega) (by omega)
 have aeb:a.spot=none:=by
  have:=World.cell?_spot pF;simpa[Addr.add]using this
 obtain⟨b,off,sp⟩:=a;simp only at aeb;subst aeb
 have hlt:b<w.heap.size:=by
  rw[add_plain]at pF;simp only[World.cell?]at pF;split at pF
  ·rename_i x hx;exact(dR.1 hx).1
  ·cases pF
 have Av:∀ i,i<len->(((List.range len).map q).map mk).getD i .undef=mk (q i):=fun i hi=>by
  simp[aE,hi]
 have:=VR.aK (g:=aO.all w) (w:=w) false el (((List.range len).map q).map mk) b off cap hlt (fun h=>by cases h) (by simpa using hl)
  (fun i hi=>by rw[Av i (by simpa using hi)];exact hfit _)
  (fun i c hi gK => by
    obtain⟨v,hv,_⟩:=hcells i c (by simpa using hi) (by omega);rw[add_plain]at hv;rw[hsz,hv];rfl)
  (fun i c hi gK => by
    obtain⟨v,hv,hr⟩:=hcells i c (by simpa using hi) (by omega);rw[add_plain]at hv;rw[Av i (by simpa using hi),gR,hsz,hv,hcell _ _ (by omega)];exact hr)
 simpa using this
def Cp(enc:TypeId × Value->H)(P:Program)(w:World)(N:Nat)(fs:List Field)(o:Nat){α : Type}(E : α->List AV)(G : α->Prop): Prop :=
 ∀ (cs : List Value) (fuel : Nat) (ys : List (DataW H × List MemPlace)), fuel <= N -> (∀ (i : Nat) (f : Field), fs[i]? = some f -> DataW.trod enc P w 0 (fun _ => true) true fuel f.type ((cs.drop f.offset).take (P.cellsOf f.type)) = ys[i]?) -> ys.length = fs.length ->
   ∃ a,G a/\vA (aO.all w) w (E a) ((cs.drop o).take (E a).length)
def Cp.nil{N o:Nat}: Cp enc P w N [] o (fun _:Unit=>[]) (fun _=>True):=fun cs fuel ys _ _ _=>⟨(),trivial,by simpa using vA.nil _ _⟩
def Cp.cons {N o n : Nat} {f : Field} {fs : List Field} {α β : Type} {E : α -> List AV} {G : α -> Prop} {E' : β -> List AV} {G' : β -> Prop} (h : Reads enc P w N f.type n E G) (ho : f.offset = o) (hk : Cp enc P w N fs (o + n) E' G') :
    Cp enc P w N (f::fs) o (fun p : α × β=>E p.1++E' p.2) (fun p=>G p.1/\G' p.2):=by
 intro cs fuel ys hf hx hl;cases ys with
 | nil=>simp at hl
 | cons y ys =>
   have h0:=hx 0 f rfl;rw[ho,h.1]at h0;obtain⟨a,g1,v1⟩:=h.2.2 fuel _ _ hf (by simpa using h0);obtain⟨b,g2,v2⟩:=hk cs fuel ys hf (fun i f' hf'=>by have:=hx (i+1) f' (by simpa using hf');simpa using this) (by simpa using hl);refine⟨(a,b),⟨g1,g2⟩,?_⟩;have:=v1.app v2;have hlen:=h.2.1 a
   have e:(cs.drop o).take n++(cs.drop (o+n)).take (E' b).length=(cs.drop o).take (E a++E' b).length:=by
    rw[List.length_append,hlen,List.take_add,List.drop_drop]
   rwa[e]at this
def Reads.struct{N t n:Nat}{fs:Array Field}{α : Type}{E : α->List AV}{G : α->Prop}(ht:P.underlying t=some (.struct fs))(hc:P.cellsOf t=n)(hE:∀ a,(E a).length=n)(h:Cp enc P w N fs.toList 0 E G): Reads enc P w (N+1) t n E G:=by
 refine⟨hc,hE,fun fuel cs x hf hx=>?_⟩;obtain⟨xs,k,hk,_,hlen,hxl,hfs⟩:=DataW.trod_struct ht hx;obtain⟨a,g,v⟩:=h cs k xs (by omega) (fun i f hf=>hfs i f (by simpa using hf)) (by simpa using hxl);refine⟨a,g,?_⟩;rw[hE,List.drop_zero,br (by omega)]at v;exact v
def Reads.deep{t n:Nat}{α : Type}{E : α->List AV}{G : α->Prop}(h:∀ N,Reads enc P w N t n E G){v:Value}{d:DataW H}{ps:List MemPlace}(hd:DataW.Trod enc P w 0 (fun _=>true) true t v d ps): ∃ a,G a/\vA (aO.all w) w (E a) v.cells.toList:=by
 obtain⟨f,hf⟩:=hd;exact(h f).2.2 f _ _ (Nat.le_refl _) hf
end
end Go.AM
namespace Go.Proofs.YtmbgnaoilncbnaaGreatDoor
open Go.AM
set_option maxRecDepth 8000
section
variable {H:Type} {enc:TypeId × Value->H} {w:World}
abbrev adS(n:Int): Prop:= -9223372036854775808<=n/\n<=9223372036854775807
abbrev RD(enc:TypeId × Value->H)(w:World)(N:Nat)(t:TypeId)(n:Nat){α : Type}(E : α->List AV)(G : α->Prop): Prop:=Reads enc Tryz.prog w N t n E G
def Rh(N:Nat){t:TypeId}(ht:Tryz.prog.underlying t=some (.int .i64))(hc:Tryz.prog.cellsOf t=1): RD enc w N t 1 (fun n:Int=>[I n]) adS:=Reads.int ht hc
def L7(N:Nat): RD enc w N 9 1 (fun s:aJ=>[.str s]) (fun _=>True):=Reads.str Tryz.underlying9 (by kernel_rfl)
def Zj(N:Nat): RD enc w N 73 1 (fun n:Int=>[I n]) adS:=Rh N Tryz.underlying73 (by kernel_rfl)
def L8(N:Nat): RD enc w N 3 1 (fun n:Int=>[I n]) adS:=Rh N Tryz.underlying3 (by kernel_rfl)
def aj_(v:eg): List AV:=[I v.kind,I v.n,.str v.s]
def rd_val(N:Nat): RD enc w (N+1) 115 3 aj_ WQ:=by
 have h:=Reads.struct (enc:=enc) (w:=w) (N:=N) (n:=3) Tryz.underlying115 (by kernel_rfl) (fun _=>rfl) (.cons (Zj N) rfl (.cons (L8 N) rfl (.cons (L7 N) rfl .nil)));exact h.map (fun p=>⟨p.1,p.2.1,p.2.2.1⟩) (fun _=>rfl) (fun _=>rfl) (fun p h=>h.2.1)
def Zk(N:Nat): RD enc w (N+2) 45 1 (fun l:List eg=>[cH l]) (fun l=> ∀ v ∈ l,WQ v) :=
 Reads.slice EV iJ Tryz.underlying45 (by kernel_rfl) (rd_val N) (by decide) rfl (fun _=>rfl) (fun _ _ _=>rfl)
def aka(c:cI): List AV:=[.str c.name,I c.kind,cH c.order]
def agx(N:Nat): RD enc w (N+3) 75 3 aka (fun c=> ∀ v ∈ c.order,WQ v):=by
 have h:=Reads.struct (enc:=enc) (w:=w) (N:=N+2) (n:=3) Tryz.underlying75 (by kernel_rfl) (fun _=>rfl) (.cons (L7 _) rfl (.cons (Zj _) rfl (.cons (Zk N) rfl .nil)));exact h.map (fun p=>⟨p.1,p.2.1,p.2.2.1⟩) (fun _=>rfl) (fun _=>rfl) (fun p h=>h.2.2.1)
def Zl(N:Nat): RD enc w (N+4) 22 1 (fun l:List cI=>[bB l]) aaL :=
 Reads.slice EC bE Tryz.underlying22 (by kernel_rfl) (agx N) (by decide) rfl (fun _=>rfl) (fun _ _ _=>rfl)
def Zm(N:Nat): RD enc w (N+1) 70 1 (fun l:List aJ=>[eR l]) (fun _=>True):=by
 refine(Reads.slice E1 cS Tryz.underlying70 (by kernel_rfl) (L7 N) (by decide) rfl (fun _=>rfl) ?_).weak (fun _ _=>trivial);intro s c hc;have h0:c=0:=by omega
 subst h0;rfl
def ahW(r:dO): List AV:=[eR r.cells,eR r.outs]
def aeV(N:Nat): RD enc w (N+2) 72 2 ahW (fun _=>True):=by
 have h:=Reads.struct (enc:=enc) (w:=w) (N:=N+1) (n:=2) Tryz.underlying72 (by kernel_rfl) (fun _=>rfl) (.cons (Zm N) rfl (.cons (Zm N) rfl .nil));exact h.map (fun p=>⟨p.1,p.2.1⟩) (fun _=>rfl) (fun _=>rfl) (fun p h=>trivial)
def adT(N:Nat): RD enc w (N+3) 25 1 (fun l:List dO=>[cW l]) (fun _=>True) :=
 (Reads.slice ER cN Tryz.underlying25 (by kernel_rfl) (aeV N) (by decide) rfl (fun _=>rfl) (fun _ _ _=>rfl)).weak (fun _ _=>trivial)
def adU(N:Nat): RD enc w (N+5) 27 6 dy N_:=by
 have h:=Reads.struct (enc:=enc) (w:=w) (N:=N+4) (n:=6) Tryz.underlying27 (by kernel_rfl) (fun _=>rfl) (.cons (L7 _) rfl (.cons (Zl N) rfl (.cons (Zl N) rfl (.cons (Rh _ Tryz.underlying23 (by kernel_rfl)) rfl (.cons (Rh _ Tryz.underlying24 (by kernel_rfl)) rfl (.cons (adT (N+1)) rfl .nil))))));exact h.map (fun p=>⟨p.1,p.2.1,p.2.2.1,p.2.2.2.1,p.2.2.2.2.1,p.2.2.2.2.2.1⟩) (fun _=>rfl) (fun _=>rfl) (fun p h=>⟨h.2.1,h.2.2.1⟩)
end
end Go.Proofs.YtmbgnaoilncbnaaGreatDoor
