/- Part. -/
import Derived.Test.YthakfmmgnjpmdaaGreatDoorW26
set_option linter.all false
set_option maxHeartbeats 8000000
namespace Go.Proofs.YthakfmmgnjpmdaaGreatDoor
open Go.AM
set_option maxRecDepth 4000
def P6(t:Table)(h:oP t): aM aH 12 [dP t] (eT4 (iy t)):=by
 have cm:=Gi t h;obtain⟨E,hE⟩:∃ E,eT4 (iy t)=E:=⟨_,rfl⟩;rw[hE];by_cases he:(bS t).2.2.2≠0
 ·have hc:=zU he;obtain⟨M,hM⟩:∃ M,bS t=M:=⟨_,rfl⟩;rw[hM]at cm hc he;simp only[X_,kZ,dP,ic,bV,fj,o_]at cm ⊢;refine aR za ?_;intro Q aB aC aD;repeat' first|refine au ?_|refine aq ?_ ?_<;>intro hw<;>try omega|fail
  all_goals first
   | exact a_
   |(rw[<-hE,hc];exact fD (uk (AY _)))
 have Yd:(bS t).2.2.2=0:=by omega
 obtain⟨hf,hl,hm⟩:=xx Yd;obtain⟨hlen,hok⟩:=Gj h Yd;have LW:=fun n=>Vu (t:=t) Yd (n:=n);have hco:=Eh Yd;obtain⟨ls,hls⟩:∃ ls,(bS t).1.lines=ls:=⟨_,rfl⟩;have AZ:∀ n,vK t n=ls.getD n default:=fun n=>by rw[<-hls];rfl
 have iN:kX t t.rules.length=ls:=by rw[<-hls,hm]
 rw[hls]at hlen LW hco;rw[hm,iN]at cm;have aiH:=h.2.2.2.1;have akd:=h.2.1.1;clear hm iN hl hf Yd hls he;simp only[X_,kZ,dP,ic,bV,fj,o_]at cm ⊢;refine aR za ?_;intro Q aB aC aD;repeat' first|refine au ?_|refine aq ?_ ?_<;>intro hw<;>try omega|fail
 all_goals first|exact a_|skip
 with_reducible refine bE [7,8,9,13,14,15,16,17,18,19,20,39,40,41,42,43,44,45,46,47,48,49,50,51,52,53,54,55,56,57,58,59,60,61,62,63,64,65,66,67,68,69,70,71,72,73,74,75,76,77,78,79,80,81,82,83,84,85,86,87,88,89,90,91,92,93,94,95,96,97,98] (fun q:Nat × ae=>[(39,I q.1),(9,I 0)]) (fun q=>q.2) (fun q=>q.1<=ls.length/\(∀ k,k<q.1->(mW t k).2.2=0)/\5<=q.2.length/\q.2[0]? = some (P3 t (.aN false ER (t.rules.map ia)))/\q.2[1]? = some (.cells [.str [],.aA,.aA,I 0,I 0,.aA])/\q.2[2]? = some (aiI t ls)/\(∃ v,q.2[3]? = some (P3 t v)/\yy 5 q.2 v (kE t q.1))/\ ∃ a b,q.2[4]? = some (.cells [a,b])) (fun q=>ls.length-q.1) (0,_) ⟨bO _,fun k hk=>by omega,by simp,rfl,rfl,rfl,⟨_,rfl,yy.nil _ _⟩,_,_,rfl⟩ rfl ?_ ?_
 ·exact at_
 rintro⟨n,S⟩ rr ⟨h1,h2,h3,f0,f1,f2,⟨v,f3,h4⟩,xa,xb,f4⟩;dsimp only at h1 h2 h3 f0 f1 f2 f3 h4 f4;have hvs:=h4.scalar;by_cases hn:n<ls.length
 ·have aaJ:=hok n;have hrow:mW t n=sK t.ins.length (vK t n):=rfl;have xZ:=LW n hn h2;have D8:=Vt t n;rw[hrow,P2]at D8;rw[hrow]at xZ;rw[AZ]at aaJ xZ D8;obtain⟨l,Ei⟩:∃ l,ls.getD n default=l:=⟨_,rfl⟩;rw[Ei]at aaJ xZ D8;obtain⟨⟨k1,k2⟩,k3,k4⟩:=aaJ;have f4a:∀ d:bj,(S++[d])[4]? = some (.cells [xa,xb]):=fun d=>gD f4 d;have hSl:(S++[bj.cells [.aN false EC (l.cells.map dG),.aN false EX (l.outs.map aT)]])[S.length]? = some (.cells [.aN false EC (l.cells.map dG),.aN false EX (l.outs.map aT)]):=Ng _ _;have afe:∀ d:bj,((S++[bj.cells [.aN false EC (l.cells.map dG),.aN false EX (l.outs.map aT)]]).set 4 d)[S.length]? = some (.cells [.aN false EC (l.cells.map dG),.aN false EX (l.outs.map aT)]):=fun d=>P5 hSl (by omega) d;repeat' first|simp (disch:=omega) only[go_sem,aB,aC,aD,f0,f1,f2,f3,f4,f4a,afe,Ei]|refine au ?_|refine aq ?_ ?_<;>intro hw<;>try omega|fail
  with_reducible refine bE [8,9,15,16,17,49,50,51,52,53,54,55,56,57,58,59,60,61,62,63,64,65,66] (fun q:Nat × ae=>[(49,I q.1),(9,I 0)]) (fun q=>q.2) (fun q=>q.1<=l.cells.length/\(∀ k,k<q.1->(jY l k).2=0)/\S.length<q.2.length/\(∀ j o,S[j]? = some o->j≠4->q.2[j]? = some o)/\q.2[S.length]? = some (.cells [.aN false EC (l.cells.map dG),.aN false EX (l.outs.map aT)])/\ ∃ x,q.2[4]? = some (.cells [x,.aA])/\uS (S.length+1) q.2 x (bM l q.1)) (fun q=>l.cells.length-q.1) (0,_) ⟨bO _,fun k hk=>by omega,by simp,fun j o hj hne=>P5 (gD hj _) hne _,afe _,.aA,List.getElem?_set_self (ju (f4a _)),uS.nil _ _⟩ rfl ?_ ?_
  ·exact at_
  rintro⟨m,S1⟩ rr ⟨g1,g2,g3,g4,gl,x,g5,g6⟩;dsimp only at g1 g2 g3 g4 gl g5 g6;have e0:=g4 _ _ f0 (by omega);have e1:=g4 _ _ f1 (by omega);have e2:=g4 _ _ f2 (by omega);have e3:=g4 _ _ f3 (by omega);by_cases hml:m<l.cells.length
  ·have cT:aM aH 26 [dG (l.cells.getD m default)] (.bH [.str (jY l m).1,I (jY l m).2]):=X7 _ (k2 _ (bn hml));have hsc:=RV l m;have wc:=um l m;have hce:=Ya t.ins.length hml g2;have gG:=fun he=>bQ (q:=fun j=>(jY l j).2=0) g2 he;obtain⟨a,ha⟩:∃ a,jY l m=a:=⟨_,rfl⟩;rw[ha]at cT hsc hce gG;obtain⟨c,hc⟩:∃ c,l.cells.getD m default=c:=⟨_,rfl⟩;rw[hc]at cT;simp only[dG,jj]at cT;obtain⟨xs,hxs⟩:∃ xs,bM l m=xs:=⟨_,rfl⟩;rw[hxs]at g6 hsc wc;rcases g6 with⟨rfl,rfl⟩|⟨hne,q,hq,rfl,Jk⟩
   ·repeat' first|simp (disch:=omega) only[go_sem,aB,aC,aD,e0,e1,e2,e3,gl,g5,Ei,hc]|refine au ?_|with_reducible refine cI (agG (gD g5 _) _ _) ?_|refine aq ?_ ?_<;>intro hw<;>try omega|fail
    rintro o s ⟨rfl,pz⟩;have y1:s[1]? = some (.cells [.str [],.aA,.aA,I 0,I 0,.aA]):=by rw[pz];exact lE _ _ (gD e1 _) (by omega)
    have hs1:∀ d,(s.set 1 d)[1]? = some d:=fun d=>List.getElem?_set_self (ju y1);repeat' first|simp (disch:=omega) only[go_sem,aB,aC,aD,y1,hs1]|refine au ?_|refine aq ?_ ?_<;>intro hw<;>try omega|fail
    ·rw[hce (by assumption)]at xZ;rw[<-hE,xZ (by assumption)];exact fD (uk (AY _))
    ·have ha0:a.2=0:=by assumption
     refine⟨(m+1,s),⟨by omega,gG ha0,?_,?_,?_,.own E1 (S1.length+1) 1 0 1,?_,?_⟩,by dsimp only;omega,rfl,cZ,(by simp only[ha0];simp (disch:=omega) only[qA,og,and_true,go_sem,aB,aC,aD,Int.natCast_add,Int.cast_ofNat_Int]<;>(try trivial)<;>(try omega)<;>(try (repeat (first|trivial|(refine And.intro ?_ ?_)|(congr 1;omega)))))⟩
     ·dsimp only;rw[pz];simp;omega
     ·intro j o hj hne;dsimp only;rw[pz];exact lE j o (gD (g4 _ _ hj hne) _) hne
     ·dsimp only;rw[pz];exact lE _ _ (gD gl _) (by omega)
     ·dsimp only;rw[pz,List.getElem?_set_self (by simp;omega)]
     ·dsimp only;rw[hsc,pz];have:=P4 (S1:=S1++[bj.cells [.bool c.any,.bool c.neg,.aN false ES (c.tests.map dA)]]) (L:=S.length+1) (k:=4) (c:= .cells [.own E1 (S1++[bj.cells [.bool c.any,.bool c.neg,.aN false ES (c.tests.map dA)]]).length 1 0 1,.aA]) (s:=a.1) (by simp;omega) (by simp;omega);simpa using this
   ·have Ye:q≠4:=by omega
    repeat' first|simp (disch:=omega) only[go_sem,aB,aC,aD,e0,e1,e2,e3,gl,g5,Ei,hc]|refine au ?_|with_reducible refine cI (agI (gD g5 _) (gD Jk _) Ye (by omega) _ _) ?_|refine aq ?_ ?_<;>intro hw<;>try omega|fail
    rintro o s ⟨rfl,pz⟩;have y1:s[1]? = some (.cells [.str [],.aA,.aA,I 0,I 0,.aA]):=by rw[pz];exact mK _ _ (gD e1 _) (by omega) (by omega)
    have hs1:∀ d,(s.set 1 d)[1]? = some d:=fun d=>List.getElem?_set_self (ju y1);repeat' first|simp (disch:=omega) only[go_sem,aB,aC,aD,y1,hs1]|refine au ?_|refine aq ?_ ?_<;>intro hw<;>try omega|fail
    ·rw[hce (by assumption)]at xZ;rw[<-hE,xZ (by assumption)];exact fD (uk (AY _))
    ·have ha0:a.2=0:=by assumption
     refine⟨(m+1,s),⟨by omega,gG ha0,?_,?_,?_,.own E1 q (xs.length+1) 0 (xs.length+1),?_,?_⟩,by dsimp only;omega,rfl,cZ,(by simp only[ha0];simp (disch:=omega) only[qA,og,and_true,go_sem,aB,aC,aD,Int.natCast_add,Int.cast_ofNat_Int]<;>(try trivial)<;>(try omega)<;>(try (repeat (first|trivial|(refine And.intro ?_ ?_)|(congr 1;omega)))))⟩
     ·dsimp only;rw[pz];simp;omega
     ·intro j o hj hne;dsimp only;have:=ju hj;rw[pz];exact mK j o (gD (g4 _ _ hj hne) _) hne (by omega)
     ·dsimp only;rw[pz];exact mK _ _ (gD gl _) (by omega) (by omega)
     ·dsimp only;rw[pz,List.getElem?_set_self (by simp;omega)]
     ·dsimp only;rw[hsc,pz];exact Tk (gD Jk _) hq (Ne.symm Ye)
  ·obtain rfl:m=l.cells.length:=by omega
   have aiJ:=fun {k:Nat}=>aaH t.ins.length g2 (m:=k);have aiK:=adi t.ins.length g2;repeat' first|simp (disch:=omega) only[go_sem,aB,aC,aD,e0,e1,e2,e3,gl,g5,Ei]|refine au ?_|refine aq ?_ ?_<;>intro hw<;>try omega|fail
   with_reducible refine bE [8,9,18,19,20,70,71,72,73,74,75,76,77,78,79,80,81,82,83,84,85,86,87,88,89,90,91] (fun q:Nat × ae=>[(70,I q.1),(9,I 0)]) (fun q=>q.2) (fun q=>q.1<=l.outs.length/\(∀ k,k<q.1->(my l k).2=0)/\S1.length<=q.2.length/\(∀ j o,S1[j]? = some o->j≠4->q.2[j]? = some o)/\ ∃ y,q.2[4]? = some (.cells [x,y])/\uS S1.length q.2 y (mz l q.1)) (fun q=>l.outs.length-q.1) (0,_) ⟨bO _,fun k hk=>by omega,Nat.le_refl _,fun j o hj _=>hj,_,g5,uS.nil _ _⟩ rfl ?_ ?_
   ·exact at_
   rintro⟨m,S2⟩ rr ⟨p1,p2,p3,p4,y,p5,p6⟩;dsimp only at p1 p2 p3 p4 p5 p6;have e0:=p4 _ _ e0 (by omega);have e1:=p4 _ _ e1 (by omega);have e2:=p4 _ _ e2 (by omega);have e3:=p4 _ _ e3 (by omega);have gl:=p4 _ _ gl (by omega);have hS2:S.length<S2.length:=by omega
   by_cases hml:m<l.outs.length
   ·have cT:aM aH 27 [aT (l.outs.getD m default)] (.bH [.str (my l m).1,I (my l m).2]):=Gg _ (k4 _ (bn hml)).1 (k4 _ (bn hml)).2;have hsc:=Vs l m;have wc:=wu l m;have hce:=aiJ hml p2;have gG:=fun he=>bQ (q:=fun j=>(my l j).2=0) p2 he;obtain⟨a,ha⟩:∃ a,my l m=a:=⟨_,rfl⟩;rw[ha]at cT hsc hce gG;obtain⟨c,hc⟩:∃ c,l.outs.getD m default=c:=⟨_,rfl⟩;rw[hc,bq]at cT;obtain⟨xs,hxs⟩:∃ xs,mz l m=xs:=⟨_,rfl⟩;rw[hxs]at p6 hsc wc;rcases p6 with⟨rfl,rfl⟩|⟨hne,q,hq,rfl,Jk⟩
    ·have e0':=fun d=>gD e0 d;repeat' first|simp (disch:=omega) only[go_sem,aB,aC,aD,e0,e0',e1,e2,e3,gl,p5,Ei,hc]|refine au ?_|with_reducible refine cI (agH (gD p5 _) _ _) ?_|refine aq ?_ ?_<;>intro hw<;>try omega|fail
     rintro o s ⟨rfl,pz⟩;have y1:s[1]? = some (.cells [.str [],.aA,.aA,I 0,I 0,.aA]):=by rw[pz];exact lE _ _ (gD e1 _) (by omega)
     have hs1:∀ d,(s.set 1 d)[1]? = some d:=fun d=>List.getElem?_set_self (ju y1);repeat' first|simp (disch:=omega) only[go_sem,aB,aC,aD,y1,hs1]|refine au ?_|refine aq ?_ ?_<;>intro hw<;>try omega|fail
     ·rw[hce (by assumption)]at xZ;rw[<-hE,xZ (by assumption)];exact fD (uk (AY _))
     ·have ha0:a.2=0:=by assumption
      refine⟨(m+1,s),⟨by omega,gG ha0,?_,?_,.own E1 (S2.length+1) 1 0 1,?_,?_⟩,by dsimp only;omega,rfl,cZ,(by simp only[ha0];simp (disch:=omega) only[qA,og,and_true,go_sem,aB,aC,aD,Int.natCast_add,Int.cast_ofNat_Int]<;>(try trivial)<;>(try omega)<;>(try (repeat (first|trivial|(refine And.intro ?_ ?_)|(congr 1;omega)))))⟩
      ·dsimp only;rw[pz];simp;omega
      ·intro j o hj hne;dsimp only;rw[pz];exact lE j o (gD (p4 _ _ hj hne) _) hne
      ·dsimp only;rw[pz,List.getElem?_set_self (by simp;omega)]
      ·dsimp only;rw[hsc,pz];have:=P4 (S1:=S2++[bj.cells [I c.op,I c.v.kind,I c.v.n,.str c.v.s,.str c.s,.aN false EX (c.l.map aT)]]) (L:=S1.length) (k:=4) (c:= .cells [x,.own E1 (S2++[bj.cells [I c.op,I c.v.kind,I c.v.n,.str c.v.s,.str c.s,.aN false EX (c.l.map aT)]]).length 1 0 1]) (s:=a.1) (by simp;omega) (by simp;omega);simpa using this
    ·have Ye:q≠4:=by omega
     have e0':=fun d=>gD e0 d;repeat' first|simp (disch:=omega) only[go_sem,aB,aC,aD,e0,e0',e1,e2,e3,gl,p5,Ei,hc]|refine au ?_|with_reducible refine cI (agJ (gD p5 _) (gD Jk _) Ye (by omega) _ _) ?_|refine aq ?_ ?_<;>intro hw<;>try omega|fail
     rintro o s ⟨rfl,pz⟩;have y1:s[1]? = some (.cells [.str [],.aA,.aA,I 0,I 0,.aA]):=by rw[pz];exact mK _ _ (gD e1 _) (by omega) (by omega)
     have hs1:∀ d,(s.set 1 d)[1]? = some d:=fun d=>List.getElem?_set_self (ju y1);repeat' first|simp (disch:=omega) only[go_sem,aB,aC,aD,y1,hs1]|refine au ?_|refine aq ?_ ?_<;>intro hw<;>try omega|fail
     ·rw[hce (by assumption)]at xZ;rw[<-hE,xZ (by assumption)];exact fD (uk (AY _))
     ·have ha0:a.2=0:=by assumption
      refine⟨(m+1,s),⟨by omega,gG ha0,?_,?_,.own E1 q (xs.length+1) 0 (xs.length+1),?_,?_⟩,by dsimp only;omega,rfl,cZ,(by simp only[ha0];simp (disch:=omega) only[qA,og,and_true,go_sem,aB,aC,aD,Int.natCast_add,Int.cast_ofNat_Int]<;>(try trivial)<;>(try omega)<;>(try (repeat (first|trivial|(refine And.intro ?_ ?_)|(congr 1;omega)))))⟩
      ·dsimp only;rw[pz];simp;omega
      ·intro j o hj hne;dsimp only;have:=ju hj;rw[pz];exact mK j o (gD (p4 _ _ hj hne) _) hne (by omega)
      ·dsimp only;rw[pz,List.getElem?_set_self (by simp;omega)]
      ·dsimp only;rw[hsc,pz];exact Tk (gD Jk _) hq (Ne.symm Ye)
   ·obtain rfl:m=l.outs.length:=by omega
    have aff:=aiK p2;have hxv:uS (S.length+1) S2 x (bM l l.cells.length):=g6.keep (Nat.le_refl _) (fun q ys hq Jk=>p4 q _ Jk (by omega));have hxs:=hxv.scalar;have hys:=p6.scalar;have PY:aaI S2 (.agg [x,y]) ⟨bM l l.cells.length,mz l l.outs.length⟩:=⟨x,y,rfl,hxv.keep (bO _) (fun _ _ _ h=>h),p6.keep (bO _) (fun _ _ _ h=>h)⟩;have hfit:([AV.agg [x,y]].all fun a=>AV.fits ⟨true,2⟩ a)=true:=by simp only[AV.fits,List.length_cons,List.length_nil,List.all_cons,List.all_nil,hxs,hys];rfl
    have acg:AV.fits ⟨true,2⟩ (.agg [x,y])=true:=by simpa using hfit
    have hkS:∀ (q:Nat) (o:bj),S[q]? = some o->q≠4->S2[q]? = some o:=fun q o hq hne=>p4 q o (g4 q o hq hne) hne;rcases h4 with⟨h4,rfl⟩|⟨h4,q,rs,hq,rfl,Jk,hr⟩
    ·have hap:∀ d:bj,(S2++[d])[3]? = some (P3 t .aA):=fun d=>gD e3 d;repeat' first|simp (disch:=omega) only[go_sem,aB,aC,aD,e0,e1,e2,e3,p5,hap,hfit,acg,Ei]|refine au ?_|refine aq ?_ ?_<;>intro hw<;>try omega|fail
     refine⟨(n+1,_),⟨by omega,bQ (q:=fun j=>(mW t j).2.2=0) h2 (by rw[hrow,AZ,Ei,aff]),?_,?_,?_,?_,⟨.own ER S2.length 1 0 1,?_,?_⟩,x,y,?_⟩,by dsimp only;omega,rfl,cZ,at_⟩
     ·dsimp only;simp;omega
     ·exact lE _ _ e0 (by omega)
     ·exact lE _ _ e1 (by omega)
     ·exact lE _ _ e2 (by omega)
     ·dsimp only;rw[List.getElem?_set_self (by simp;omega)]
     ·dsimp only;rw[D8,h4];refine .inr ⟨by simp,S2.length,[.agg [x,y]],by omega,rfl,?_,nL.keep (fun q ys hq=>lE _ _ hq (fun e=>by subst e;rw[e3]at hq;cases hq)) (nL.snoc (nL.nil S2) PY)⟩;rw[aI (by omega)];simp
     ·exact lE _ _ p5 (by omega)
    ·have hq3:q≠3:=by omega
     have e4:=hkS _ _ Jk (by omega);rw[qO]at e3;have hrn:rs.length=n:=by rw[hr.1,qO]
     have hap:∀ d:bj,(S2.set q d)[3]? = some (P3 t (.own ER q n 0 n)):=fun d=>by rw[aI hq3];exact e3
     repeat' first|simp (disch:=omega) only[go_sem,aB,aC,aD,e0,e1,e2,e3,p5,hap,hfit,acg,e4,Ei,hrn]|refine au ?_|refine aq ?_ ?_<;>intro hw<;>try omega|fail
     refine⟨(n+1,_),⟨by omega,bQ (q:=fun j=>(mW t j).2.2=0) h2 (by rw[hrow,AZ,Ei,aff]),?_,?_,?_,?_,⟨.own ER q (n+1) 0 (n+1),?_,?_⟩,x,y,?_⟩,by dsimp only;omega,rfl,cZ,at_⟩
     ·dsimp only;simp;omega
     ·exact mK _ _ e0 (by omega) (by omega)
     ·exact mK _ _ e1 (by omega) (by omega)
     ·exact mK _ _ e2 (by omega) (by omega)
     ·dsimp only;rw[List.getElem?_set_self (by simp;omega)]
     ·dsimp only;rw[D8];have sS:nL S2 rs (kE t n):=hr.keep (fun q ys hq=>hkS _ _ hq (fun e=>by subst e;rw[f4]at hq;cases hq));refine .inr ⟨by simp,q,rs++[.agg [x,y]],hq,by simp[qO],?_,nL.keep (fun p ys hp=>mK _ _ hp (fun e=>by subst e;rw[e3]at hp;cases hp) (fun e=>by subst e;rw[e4]at hp;cases hp)) (nL.snoc sS PY)⟩;rw[aI (Ne.symm hq3),List.getElem?_set_self (ju e4)]
     ·exact mK _ _ p5 (by omega) (by omega)
 ·obtain rfl:n=ls.length:=by omega
  have hva:([AV.str t.name,.aN false EC (t.ins.map ew),.aN false EC (t.outs.map ew),I t.bZ,I t.agg,v].all AV.scalar)=true:=by simp only[List.all_cons,List.all_nil,hvs];rfl
  have hs1:∀ o,(S.set 1 o)[1]? = some o:=fun o=>List.getElem?_set_self (ju f1);repeat' first|simp (disch:=omega) only[go_sem,aB,aC,aD,f0,f1,f2,f3,hva,hs1]|refine au ?_|refine aq ?_ ?_<;>intro hw<;>try omega|fail
  have h5:=h4.keep (S':=S.set 1 (P3 t v)) (fun q o hq hne=>by
   rw[List.getElem?_set_ne (fun e=>by subst e;rw[f1]at hq;cases hq;exact hne _ rfl)];exact hq)
  rw[<-hE,hco h2];exact fD (uk (View.nV (.cons (.refl _ rfl) (.cons (.refl _ (kz _)) (.cons (.refl _ (kz _)) (.cons (.refl _ rfl) (.cons (.refl _ rfl) (.cons h5.view (.nil _)))))))))
abbrev TK:=Int × aO × Int
def tk(t:Tok): TK:=(t.kind,t.s,t.n)
def Bd(r:aO): Prop:= ∀ c,r.head? = some c->xq c=false
def B0(r:aO): Prop:=True
def Bs(r:aO): Prop:=r.head? = some 32
def Lx(B:aO->Prop)(s:aO)(ks:List TK): Prop:= ∀ r,B r-> ∀(f pos:Nat) (acc:List Tok),(s++r).length<f-> ∃ f' ts,r.length<f'/\rI f (s++r) pos acc=rI f' r (pos+s.length) (acc++ts)/\ts.map tk=ks
def Lx.nil(B:aO->Prop): Lx B [] []:=fun r _ f pos acc hf=>⟨f,[],hf,by simp,rfl⟩
def Lx.app{B1 B2:aO->Prop}{s1 s2:aO}{k1 k2:List TK}(h1:Lx B1 s1 k1)(h2:Lx B2 s2 k2)(hb:∀ r,B2 r->B1 (s2++r)): Lx B2 (s1++s2) (k1++k2):=by
 intro r hr f pos acc hf;obtain⟨f1,t1,a1,b1,c1⟩:=h1 (s2++r) (hb r hr) f pos acc (by rw[<-aP];exact hf);obtain⟨f2,t2,a2,b2,c2⟩:=h2 r hr f1 (pos+s1.length) (acc++t1) a1;refine⟨f2,t1++t2,a2,?_,by rw[List.map_append,c1,c2]⟩;rw[aP,b1,b2,List.length_append,aP,Nat.add_assoc]
def Lx.weak{B B':aO->Prop}{s:aO}{ks:List TK}(h:Lx B s ks)(hb:∀ r,B' r->B r): Lx B' s ks:=fun r hr=>h r (hb r hr)
def Lx.sp(B:aO->Prop): Lx B [32] []:=by
 intro r _ f pos acc hf;obtain⟨f,rfl⟩:∃ k,f=k+1:=⟨f-1,by simp at hf;omega⟩;refine⟨f,[],by simp at hf;omega,?_,rfl⟩;rw[gu,v7,if_pos (by decide),bB];rfl
def Lx.one{B:aO->Prop}{s:aO}{k:TK}(hs:s≠[])(h32:(s.getD 0 0).toNat≠32)(h:∀ r,B r->jg (s++r)=⟨k.1,k.2.1,k.2.2,s.length,0⟩): Lx B s [k]:=by
 intro r hr f pos acc hf;have h1:=h r hr;obtain⟨c,s',rfl⟩:∃ c s',s=c::s':=by cases s with|nil=>exact absurd rfl hs|cons c s'=>exact⟨c,s',rfl⟩
 obtain⟨f,rfl⟩:∃ k,f=k+1:=⟨f-1,by simp at hf;omega⟩;refine⟨f,[⟨k.1,k.2.1,k.2.2,pos⟩],by simp at hf;omega,?_,rfl⟩;rw[bt]at h1 ⊢;rw[v7,if_neg (by simpa using h32),h1,if_pos rfl];simp
def oC{c:UInt8}{r:aO}(h:xq c=false): Bd (c::r):=fun d hd=>by cases hd;exact h
def afg: Bd []:=fun d hd=>by cases hd
def agK{r:aO}(h:Bs r): Bd r:=fun d hd=>by rw[h]at hd;cases hd;decide
def Bs.cons{r:aO}(h:Bs r): ∃ r',r=32::r':=by
 cases r with
 | nil=>cases h
 | cons c r=>cases h;exact⟨r,rfl⟩
def pS{m:aO}(hm:m=[40]\/m=[41]\/m=[45]\/m=[44]\/m=[46,46]\/m=[91]\/m=[93]): Lx B0 m [(4,m,0)]:=by
 rcases hm with rfl|rfl|rfl|rfl|rfl|rfl|rfl <;>
  exact Lx.one (by decide) (by decide) (fun r _=>by simp[jg,nn,e8,tY,tX,List.isPrefixOf])
def Tl{m:aO}(hm:m=[43]\/m=[45]\/m=[42]\/m=[47]\/m=[61]\/m=[33,61]\/m=[60]\/m=[60,61]\/m=[62]\/m=[62,61]): Lx Bs m [(4,m,0)]:=by
 rcases hm with rfl|rfl|rfl|rfl|rfl|rfl|rfl|rfl|rfl|rfl <;>
  exact Lx.one (by decide) (by decide) (fun r hr=>by obtain⟨r',rfl⟩:=hr.cons;simp[jg,nn,e8,tY,tX,List.isPrefixOf])
def CU{p:UInt8->Bool}{s r:aO}(hs:∀ c ∈ s,p c=true)(hr:∀ c,r.head? = some c->p c=false): (s++r).takeWhile p=s:=by
 induction s with
 | nil =>
   cases r with
   | nil=>rfl
   | cons c r=>rw[cz,eJ,hr c rfl];rfl
 | cons c s ih =>
   rw[bt,eJ,hs c (by simp),if_pos rfl,ih (fun d hd=>hs d (by simp[hd]))]
def takeWhile_eq{p:UInt8->Bool}{s:aO}(h:(s.takeWhile p).length=s.length): ∀ c ∈ s,p c=true:=by
 induction s with
 | nil=>intro c hc;cases hc
 | cons c s ih =>
   rw[eJ]at h;split at h
   ·rename_i hp;intro d hd;rcases List.mem_cons.1 hd with rfl|hd
    ·exact hp
    ·exact ih (by simpa using h) d hd
   ·simp at h
def Yf{s:aO}(hs:s≠[])(h:nF s=s.length): nn (s.getD 0 0)=true/\ ∀ c ∈ s,xq c=true:=by
 cases s with
 | nil=>exact absurd rfl hs
 | cons c r =>
   unfold nF at h;dsimp only at h;split at h
   ·rename_i hc;exact⟨hc,takeWhile_eq h⟩
   ·simp at h
def xJ{s:aO}(hs:s≠[])(h:nF s=s.length)(hl:s.length<=16): Lx Bd s [(1,s,0)]:=by
 obtain⟨h1,h2⟩:=Yf hs h;obtain⟨c,s',rfl⟩:∃ c s',s=c::s':=by cases s with|nil=>exact absurd rfl hs|cons c s'=>exact⟨c,s',rfl⟩
 rw[bD]at h1;refine Lx.one hs (fun h32=>?_) (fun r hr=>?_)
 ·rw[bD]at h32;simp[nn,h32]at h1
 ·have hw : nF ((c :: s') ++ r) = (c :: s').length := by
   unfold nF;rw[bt];dsimp only;rw[if_pos h1,<-bt,CU h2 hr]
  unfold jg;simp only[bt,bD,h1,if_true];rw[<-bt];unfold BO;rw[hw,if_neg (by omega),List.take_append_of_le_length (Nat.le_refl _),List.take_length]
def aaK(a b:aO): ∀ v:Int,oh (a++b) v=(oh a v).bind (oh b):=by
 induction a with
 | nil=>intro v;rfl
 | cons c r ih =>
   intro v;rw[bt];simp only[oh];split
   ·rfl
   ·exact ih _
def Mr{d:Nat}(h:d<10): (UInt8.ofNat (48+d)).toNat=48+d:=by
 rw[UInt8.toNat_ofNat'];omega
def Vv(u:Nat): Lib.decDigits u≠[]/\(∀ c ∈ Lib.decDigits u,e8 c=true)/\(1<=u->((Lib.decDigits u).getD 0 0).toNat≠48)/\(u<=9223372036854775807->oh (Lib.decDigits u) 0=some (u:Int)):=by
 induction u using Nat.strongRecOn with
 | _ u ih =>
   rw[Lib.decDigits];split
   ·rename_i h;have ht:=Mr h;refine⟨by simp,fun c hc=>?_,fun h1=>?_,fun h2=>?_⟩
    ·simp only[List.mem_cons,List.not_mem_nil,or_false]at hc;subst hc;simp only[e8,ht,aj,decide_eq_true_eq];omega
    ·rw[bD,ht];omega
    ·simp only[oh,ht];rw[if_neg (by omega)]
     congr 1;omega
   ·rename_i h;obtain⟨i1,i2,i3,i4⟩:=ih (u / 10) (by omega);have ht:=Mr (d:=u % 10) (by omega);refine⟨by simp,fun c hc=>?_,fun h1=>?_,fun h2=>?_⟩
    ·rcases List.mem_append.1 hc with hc|hc
     ·exact i2 c hc
     ·simp only[List.mem_cons,List.not_mem_nil,or_false]at hc;subst hc;simp only[e8,ht,aj,decide_eq_true_eq];omega
    ·have:=i3 (by omega);generalize Lib.decDigits (u / 10)=w at *;cases w with
     | nil=>exact absurd rfl i1
     | cons c w=>simpa using this
    ·rw[aaK,i4 (by omega),Option.bind_some];simp only[oh,ht];rw[if_neg (by omega)]
     congr 1;omega
def afh{n:Int}(h0:0<=n)(h1:n<=9223372036854775807): Lx Bd (Lib.itoa n) [(2,[],n)]:=by
 obtain⟨u,rfl⟩:∃ u:Nat,n=u:=⟨n.toNat,by omega⟩;rw[Lib.itoa_nonneg];obtain⟨i1,i2,i3,i4⟩:=Vv u;have i4:=i4 (by omega)
 have i5:1<(Lib.decDigits u).length->((Lib.decDigits u).getD 0 0).toNat≠48:=fun hl=>i3 (by
  by_cases hu:u<10
  ·rw[Lib.decDigits,dif_pos hu]at hl;simp at hl
  ·omega)
 clear i3;generalize Lib.decDigits u=w at *;obtain⟨c,s',rfl⟩:∃ c s',w=c::s':=by cases w with|nil=>exact absurd rfl i1|cons c s'=>exact⟨c,s',rfl⟩
 have hd:=i2 c (by simp);have hd2:=hd;simp only[e8,aj,decide_eq_true_eq]at hd2;have hlt:nn c=false:=by simp[nn];omega
 rw[bD]at i5;refine Lx.one i1 (by rw[bD];omega) (fun r hr=>?_);have htw:((c::s')++r).takeWhile e8=c::s':=CU i2 (fun d hd=>by have:=hr d hd;simp only[xq,gQ]at this;exact this.2);unfold jg;simp only[bt,bD,hlt,hd,if_true,aG,if_false];rw[<-bt];unfold om;rw[htw];simp only;rw[if_neg (fun hh=>i5 hh.1 (by simpa using hh.2)),i4]
def RX(s r:aO): (∀ c ∈ s,nE c=true)-> ∀(b:aO) (i:Nat),b.length+s.length<=40->lD (s.flatMap k_++(34::r)) b i=⟨3,b++s,0,i+(s.flatMap k_).length+1,0⟩:=by
 induction s with
 | nil =>
   intro _ b i hb;rw[List.flatMap_nil,cz,j_,if_pos (by decide),if_neg (by simp at hb;omega)];simp
 | cons c s ih =>
   intro hp b i hb;have hc:=hp c (by simp);have hs:=fun d hd=>hp d (bJ _ hd);rw[List.length_cons]at hb;have:=ih hs (b++[c]);rw[fh,aP];unfold k_;split
   ·rename_i hq;rw[bt,j_,if_neg (by decide),if_pos (by decide)];rw[gu];dsimp only;rw[if_pos hq];have h2:=this (i+2) (by simp;omega);rw[show (fun c=>if c.toNat=34\/c.toNat=92 then [92,c]else [c])=k_ from rfl,h2];simp;omega
   ·rename_i hq;rw[gu,j_,if_neg (by omega),if_neg (by omega),if_pos hc];have h2:=this (i+1) (by simp;omega);rw[show (fun c=>if c.toNat=34\/c.toNat=92 then [92,c]else [c])=k_ from rfl,h2];simp;omega
def adj{s:aO}(h:kO s=true): Lx B0 (qK s) [(3,s,0)]:=by
 simp only[kO,aj,decide_eq_true_eq,aV]at h;refine Lx.one (by simp[qK]) (by simp[qK]) (fun r _=>?_);unfold jg qK;simp only[bt,bD];rw[if_neg (by decide),if_neg (by decide),if_pos (by decide),List.drop_succ_cons,gK,aP,gu,RX s r h.2 [] 1 (by simpa using h.1)];simp;omega
def sL(v:aL): TK:=if v.kind=1 then(2,[],v.n)else if v.kind=2 then(3,v.s,0)else if v.kind=3 then(1,if v.n=1 then zk else wh,0)else (1,I_,0)
def afi{v:aL}(hr:br v=true)(hn:v.kind≠1\/0<=v.n)(hm:v.n<=9223372036854775807): Lx Bd (xw v) [sL v]:=by
 unfold xw sL;unfold br at hr;by_cases h1:v.kind=1
 ·rw[if_pos h1,if_pos h1];exact afh (by omega) hm
 by_cases h2:v.kind=2
 ·rw[if_neg h1,if_neg h1,if_pos h2,if_pos h2];rw[if_neg (by omega),if_neg h1,if_pos h2]at hr;simp only[aj]at hr;exact(adj hr.2).weak (fun _ _=>trivial)
 rw[if_neg h1,if_neg h1,if_neg h2,if_neg h2];split
 ·split<;>exact xJ (by decide) (by decide) (by decide)
 ·exact xJ (by decide) (by decide) (by decide)
def ld(w:Int × List TK)(lvl:Int): List TK:=if w.1<lvl then(4,[40],0)::(w.2++[(4,[41],0)])else w.2
def P7: TK:=(1,[105,102],0)
def A0: TK:=(1,thenS,0)
def A1: TK:=(1,zi,0)
def B_(op:Int): TK:=(nG (cn op),(cn op).sign,0)
def lF(op:Int)(v:aL)(s:aO)(ws:List (Int × List TK)): List TK :=
 if op=1 then [sL v]else if op=2 then [(1,s,0)]
 else if op=3 then(4,[45],0)::ld (ws.getD 0 default) 6
 else if op=16 then P7::(ld (ws.getD 0 default) 0++(A0::(ld (ws.getD 1 default) 0++(A1::ld (ws.getD 2 default) 0))))
 else ld (ws.getD 0 default) (if(cn op).level=3 then 4 else(cn op).level)++(B_ op::ld (ws.getD 1 default) ((cn op).level+1))
mutual
def ey: Expr->List TK
 | .mk op v s l=>lF op v s (uo l)
def uo: List Expr->List (Int × List TK)
 | []=>[]
 | x::r=>(ef x.op,ey x)::uo r
end
def c_(x:Expr)(lvl:Int): List TK:=ld (ef x.op,ey x) lvl
def P8{w:aO}{ks:List TK}(h:Lx Bd w ks)(n lvl:Int): Lx Bd (kP (n,w) lvl) (ld (n,ks) lvl):=by
 unfold kP ld;dsimp only;split
 ·have h1 : Lx Bd ([40] ++ (w ++ [41])) ([(4, [40], 0)] ++ (ks ++ [(4, [41], 0)])) :=
   (pS (.inl rfl)).app ((h.app ((pS (.inr (.inl rfl))).weak (fun _ _=>trivial)) (fun r _=>oC (by decide)))) (fun _ _=>trivial)
  exact h1
 ·exact h
def agL{b:zg}(hb:b ∈ jh): Lx Bs b.sign [(nG b,b.sign,0)]:=by
 simp only[jh,List.mem_cons,List.not_mem_nil,or_false]at hb;rcases hb with rfl|rfl|rfl|rfl|rfl|rfl|rfl|rfl|rfl|rfl|rfl|rfl
 all_goals first
  | exact Tl (by decide)
  | exact(xJ (by decide) (by decide) (by decide)).weak (fun _ h=>agK h)
def Tm(x:Expr): cq x=true->ig x->Lx Bd (dR x) (ey x):=by
 induction x using Expr.ind with
 | h op v s l ih =>
   intro hr hx;simp only[ig]at hx;obtain⟨_,_,Te,HT,hl⟩:=hx;have key:∀ y ∈ l,cq y=true-> ∀ lvl,Lx Bd (kP (ef y.op,dR y) lvl) (ld (ef y.op,ey y) lvl):=fun y hy XZ lvl=>P8 (ih y hy XZ (xI hl hy)) _ _;rcases mI hr with⟨rfl,rfl,rfl,h1,h2⟩|⟨rfl,rfl,rfl,h1⟩|⟨rfl,rfl,rfl,a,rfl,ha⟩|⟨rfl,rfl,rfl,a,b,c,rfl,ha,hb,hc⟩|⟨o1,o2,rfl,rfl,_,_,_,_,hmem,a,b,rfl,ha,hb⟩
   ·simp only[dR,ey,n7,lF,if_true];exact afi h1 h2 HT
   ·simp only[dR,ey,n7,lF,if_true];rw[if_neg (by decide),if_neg (by decide)];simp only[jU,aj,decide_eq_true_eq]at h1;exact xJ h1.1.1.1 h1.1.1.2 h1.1.2
   ·have k1:=key a (by simp) ha 6;simp only[dR,ey,n7,lF,qL,uo];rw[if_neg (by decide),if_neg (by decide),if_pos trivial,if_neg (by decide),if_neg (by decide),if_pos trivial];exact(pS (m:=[45]) (by decide)).app k1 (fun _ _=>trivial)
   ·have k1:=key a (by simp) ha 0;have k2:=key b (by simp) hb 0;have k3:=key c (by simp) hc 0;simp only[dR,ey,n7,lF,qL,uo];rw[if_neg (by decide),if_neg (by decide),if_neg (by decide),if_pos trivial,if_neg (by decide),if_neg (by decide),if_neg (by decide),if_pos trivial];simp only[bD,fZ]
    have hw:∀ w:aO,w≠[]->nF w=w.length->w.length<=16->Lx B0 (w++[32]) [(1,w,0)]:=fun w a1 a2 a3=>by
     have:=(xJ a1 a2 a3).app (Lx.sp B0) (fun r _=>oC (by decide));simpa using this
    have hw2:∀ w:aO,w≠[]->nF w=w.length->w.length<=16->Lx B0 (32::(w++[32])) [(1,w,0)]:=fun w a1 a2 a3=>by
     have:=(Lx.sp B0).app (hw w a1 a2 a3) (fun _ _=>trivial);simpa using this
    have e1:Lx B0 rJ [P7]:=hw [105,102] (by decide) (by decide) (by decide);have e2:Lx B0 ov [A0]:=hw2 thenS (by decide) (by decide) (by decide);have e3:Lx B0 ug [A1]:=hw2 zi (by decide) (by decide) (by decide);have b2:∀ r,B0 r->Bd (ov++r):=fun r _=>oC (by decide);have b3:∀ r,B0 r->Bd (ug++r):=fun r _=>oC (by decide);have:=((((e1.app k1 (fun _ _=>trivial)).app e2 b2).app k2 (fun _ _=>trivial)).app e3 b3).app k3 (fun _ _=>trivial);simpa using this
   ·have k1:=key a (by simp) ha (if(cn op).level=3 then 4 else(cn op).level);have k2:=key b (by simp) hb ((cn op).level+1)
    have w1:dR (.mk op v0 [] [a,b])=kP (ef a.op,dR a) (if(cn op).level=3 then 4 else(cn op).level)++[32]++(cn op).sign++[32]++kP (ef b.op,dR b) ((cn op).level+1):=by
     simp only[dR,qL,n7];rw[if_neg (by omega),if_neg (by omega),if_neg (by omega),if_neg (by omega)];rfl
    have w2:ey (.mk op v0 [] [a,b])=ld (ef a.op,ey a) (if(cn op).level=3 then 4 else(cn op).level)++(B_ op::ld (ef b.op,ey b) ((cn op).level+1)):=by
     simp only[ey,uo,lF];rw[if_neg (by omega),if_neg (by omega),if_neg (by omega),if_neg (by omega)];rfl
    rw[w1,w2];have:=(((k1.app (Lx.sp B0) (fun r _=>oC (by decide))).app (agL hmem) (fun _ _=>trivial)).app (Lx.sp B0) (fun r _=>rfl)).app k2 (fun _ _=>trivial);simpa[B_]using this
def Fv{s:aO}{ks:List TK}(h:Lx Bd s ks)(hs:s.length<=200): ∃ T,de s=(T,0,0)/\T.map tk=ks:=by
 obtain⟨f',ts,h1,h2,h3⟩:=h [] afg (s.length+1) 0 [] (by simp);refine⟨ts,?_,h3⟩;unfold de;rw[if_neg (by omega)];rw[bB]at h2;rw[h2];cases f' with
 | zero=>simp at h1
 | succ f'=>simp[rI]
