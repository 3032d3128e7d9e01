/- Part. -/
import Derived.Test.YtcjcnfcedihckaaGreatDoorW28
set_option linter.all false
set_option maxHeartbeats 8000000
namespace Go.Proofs.YtcjcnfcedihckaaGreatDoor
open Go.AM
set_option maxRecDepth 4000
def y7(σ : ae): View σ (.agg [.str [],.au,.au,I 0,I 0,.au]) (dV iH) :=
 View.sC (.cons (.refl _ rfl) (.cons (.au _) (.cons (.au _) (.cons (.refl _ rfl) (.cons (.refl _ rfl) (.cons (.au _) (.nil _)))))))
abbrev Na(t:Table)(v:AV): aY:= .cells [.str t.name,.aO false EC (t.ins.map bq),.aO false EC (t.outs.map bq),I t.aM,I t.agg,v]
abbrev afh(t:Table)(ls:List j4): aY:= .cells [.str t.name,.aO false EC (t.ins.map bq),.aO false EC (t.outs.map bq),I t.aM,I t.agg,.aO false ER (t.rules.map cu),.aO false ER (ls.map nY)]
def Nb{S1:ae}{L k:Nat}{c:aY}{s:aI}(hL:L<=S1.length)(hk:k<S1.length): tj L ((S1++[aY.vec E1 [.str s]]).set k c) (.own E1 S1.length 1 0 1) [s] :=
 .inr ⟨by simp,S1.length,hL,rfl,by rw[List.getElem?_set_ne (by omega)];simp[cj]⟩
def Qf{S1:ae}{L k q:Nat}{c:aY}{s:aI}{xs:List aI}(hq:S1[q]? = some (.vec E1 (xs.map cj)))(hL:L<=q)(hk:k≠q): tj L ((S1.set q (.vec E1 (xs.map cj++[.str s]))).set k c) (.own E1 q (xs.length+1) 0 (xs.length+1)) (xs++[s]) :=
 .inr ⟨by simp,q,hL,by simp,by rw[List.getElem?_set_ne hk,List.getElem?_set_self (ef hq)];simp[cj]⟩
def kE{S1:ae}{k:Nat}{c d:aY}(j:Nat)(o:aY)(hj:S1[j]? = some o)(hne:j≠k): ((S1++[d]).set k c)[j]? = some o:=by
 rw[List.getElem?_set_ne (Ne.symm hne),aC (ef hj)];exact hj
def lQ{S1:ae}{k q:Nat}{c d:aY}(j:Nat)(o:aY)(hj:S1[j]? = some o)(hne:j≠k)(hq:j≠q): ((S1.set q d).set k c)[j]? = some o:=by
 rw[List.getElem?_set_ne (Ne.symm hne),List.getElem?_set_ne (Ne.symm hq)];exact hj
def adk{σ : ae}{k:Nat}{w:AV}(h : σ[k]? = some (.cells [.au,w]))(s:aI)(e:Int): cN aK 114 [.ref k 0,.str s,I e] σ fun o σ'=>o = .ret (.bool (e==0))/\σ'=(σ++[aY.vec E1 [.str s]]).set k (.cells [.own E1 σ.length 1 0 1,w]):=by
 have h2:∀ d:aY,(σ++[d])[k]? = some (.cells [.au,w]):=fun d=>by rw[aC (ef h)];exact h
 refine nn.go ?_;unfold eP;intro Q aF aG aH;repeat' first|simp (disch:=omega) only[go_sem,aF,aG,aH,h,h2]|refine aE ?_|refine aD ?_ ?_<;>intro hw<;>try omega|fail
 exact⟨rfl,by trivial⟩
def adl{σ : ae}{k:Nat}{w:AV}(h : σ[k]? = some (.cells [w,.au]))(s:aI)(e:Int): cN aK 114 [.ref k 1,.str s,I e] σ fun o σ'=>o = .ret (.bool (e==0))/\σ'=(σ++[aY.vec E1 [.str s]]).set k (.cells [w,.own E1 σ.length 1 0 1]):=by
 have h2:∀ d:aY,(σ++[d])[k]? = some (.cells [w,.au]):=fun d=>by rw[aC (ef h)];exact h
 refine nn.go ?_;unfold eP;intro Q aF aG aH;repeat' first|simp (disch:=omega) only[go_sem,aF,aG,aH,h,h2]|refine aE ?_|refine aD ?_ ?_<;>intro hw<;>try omega|fail
 exact⟨rfl,by trivial⟩
def adn{σ : ae}{k q:Nat}{xs:List aI}{w:AV}(h : σ[k]? = some (.cells [.own E1 q xs.length 0 xs.length,w]))(hq : σ[q]? = some (.vec E1 (xs.map cj)))(hne:q≠k)(hl:xs.length<=2 ^ 30)(s:aI)(e:Int): cN aK 114 [.ref k 0,.str s,I e] σ fun o σ'=>o = .ret (.bool (e==0))/\σ'=(σ.set q (.vec E1 (xs.map cj++[.str s]))).set k (.cells [.own E1 q (xs.length+1) 0 (xs.length+1),w]):=by
 have h2:∀ d:aY,(σ.set q d)[k]? = some (.cells [.own E1 q xs.length 0 xs.length,w]):=fun d=>by rw[List.getElem?_set_ne hne];exact h
 refine nn.go ?_;unfold eP;intro Q aF aG aH;repeat' first|simp (disch:=omega) only[go_sem,aF,aG,aH,h,h2,hq]|refine aE ?_|refine aD ?_ ?_<;>intro hw<;>try omega|fail
 exact⟨rfl,by trivial⟩
def ado{σ : ae}{k q:Nat}{xs:List aI}{w:AV}(h : σ[k]? = some (.cells [w,.own E1 q xs.length 0 xs.length]))(hq : σ[q]? = some (.vec E1 (xs.map cj)))(hne:q≠k)(hl:xs.length<=2 ^ 30)(s:aI)(e:Int): cN aK 114 [.ref k 1,.str s,I e] σ fun o σ'=>o = .ret (.bool (e==0))/\σ'=(σ.set q (.vec E1 (xs.map cj++[.str s]))).set k (.cells [w,.own E1 q (xs.length+1) 0 (xs.length+1)]):=by
 have h2:∀ d:aY,(σ.set q d)[k]? = some (.cells [w,.own E1 q xs.length 0 xs.length]):=fun d=>by rw[List.getElem?_set_ne hne];exact h
 refine nn.go ?_;unfold eP;intro Q aF aG aH;repeat' first|simp (disch:=omega) only[go_sem,aF,aG,aH,h,h2,hq]|refine aE ?_|refine aD ?_ ?_<;>intro hw<;>try omega|fail
 exact⟨rfl,by trivial⟩
def eH{S:ae}{j:Nat}{o:aY}(h:S[j]? = some o)(d:aY): (S++[d])[j]? = some o:=by rw[aC (ef h)];exact h
def Nc{S:ae}{j k:Nat}{o:aY}(h:S[j]? = some o)(hne:j≠k)(d:aY): (S.set k d)[j]? = some o:=by rw[List.getElem?_set_ne (Ne.symm hne)];exact h
def Cy(t:Table)(h:jQ t): aP aK 73 [dV t] (Qe (ff t)):=by
 have cm:=OX t h;obtain⟨E,hE⟩:∃ E,Qe (ff t)=E:=⟨_,rfl⟩;rw[hE];by_cases he:(eG t).2.2.2≠0
 ·have hc:=yB he;obtain⟨M,hM⟩:∃ M,eG t=M:=⟨_,rfl⟩;rw[hM]at cm hc he;simp only[YN,B3,dV,ia,cJ,eF,Gt]at cm ⊢;refine aR xG ?_;intro Q aF aG aH;repeat' first|refine aE ?_|refine aD ?_ ?_<;>intro hw<;>try omega|fail
  all_goals first
   | exact bN
   |(rw[<-hE,hc];exact cG (sV (y7 _)))
 have UW:(eG t).2.2.2=0:=by omega
 obtain⟨hf,hl,hm⟩:=pX UW;obtain⟨hlen,hok⟩:=D6 h UW;have L8:=fun n=>Sh (t:=t) UW (n:=n);have hco:=xY UW;obtain⟨ls,hls⟩:∃ ls,(eG t).1.lines=ls:=⟨_,rfl⟩;have pC:∀ n,pW t n=ls.getD n default:=fun n=>by rw[<-hls];rfl
 have mL:nw t t.rules.length=ls:=by rw[<-hls,hm]
 rw[hls]at hlen L8 hco;rw[hm,mL]at cm;have afg:=h.2.2.2.1;have agC:=h.2.1.1;clear hm mL hl hf UW hls he;simp only[YN,B3,dV,ia,cJ,eF,Gt]at cm ⊢;refine aR xG ?_;intro Q aF aG aH;repeat' first|refine aE ?_|refine aD ?_ ?_<;>intro hw<;>try omega|fail
 all_goals first|exact bN|skip
 with_reducible refine bZ [7,8,9,13,14,15,16,17,18,19,20,39,40,41,42,43,44,45,46,47,48,49,50,51,52,53,54,55,56,57,58,59,60,61,62,63,64,65,66,67,68,69,70,71,72,73,74,75,76,77,78,79,80,81,82,83,84,85,86,87,88,89,90,91,92,93,94,95,96,97,98] (fun q:Nat × ae=>[(39,I q.1),(9,I 0)]) (fun q=>q.2) (fun q=>q.1<=ls.length/\(∀ k,k<q.1->(l7 t k).2.2=0)/\5<=q.2.length/\q.2[0]? = some (Na t (.aO false ER (t.rules.map cu)))/\q.2[1]? = some (.cells [.str [],.au,.au,I 0,I 0,.au])/\q.2[2]? = some (afh t ls)/\(∃ v,q.2[3]? = some (Na t v)/\wU 5 q.2 v (mM t q.1))/\ ∃ a b,q.2[4]? = some (.cells [a,b])) (fun q=>ls.length-q.1) (0,_) ⟨bR _,fun k hk=>by omega,by simp,rfl,rfl,rfl,⟨_,rfl,wU.nil _ _⟩,_,_,rfl⟩ rfl ?_ ?_
 ·exact at_
 rintro⟨n,S⟩ rr ⟨h1,h2,h3,f0,f1,f2,⟨v,f3,h4⟩,xa,xb,f4⟩;dsimp only at h1 h2 h3 f0 f1 f2 f3 h4 f4;have hvs:=h4.scalar;by_cases hn:n<ls.length
 ·have Xq:=hok n;have hrow:l7 t n=tV t.ins.length (pW t n):=rfl;have wv:=L8 n hn h2;have qb:=Sg t n;rw[hrow,GS]at qb;rw[hrow]at wv;rw[pC]at Xq wv qb;obtain⟨l,Cz⟩:∃ l,ls.getD n default=l:=⟨_,rfl⟩;rw[Cz]at Xq wv qb;obtain⟨⟨k1,k2⟩,k3,k4⟩:=Xq;have f4a:∀ d:aY,(S++[d])[4]? = some (.cells [xa,xb]):=fun d=>eH f4 d;have hSl:(S++[aY.cells [.aO false EC (l.cells.map dD),.aO false EX (l.outs.map bf)]])[S.length]? = some (.cells [.aO false EC (l.cells.map dD),.aO false EX (l.outs.map bf)]):=KW _ _;have abL:∀ d:aY,((S++[aY.cells [.aO false EC (l.cells.map dD),.aO false EX (l.outs.map bf)]]).set 4 d)[S.length]? = some (.cells [.aO false EC (l.cells.map dD),.aO false EX (l.outs.map bf)]):=fun d=>Nc hSl (by omega) d;repeat' first|simp (disch:=omega) only[go_sem,aF,aG,aH,f0,f1,f2,f3,f4,f4a,abL,Cz]|refine aE ?_|refine aD ?_ ?_<;>intro hw<;>try omega|fail
  with_reducible refine bZ [8,9,15,16,17,49,50,51,52,53,54,55,56,57,58,59,60,61,62,63,64,65,66] (fun q:Nat × ae=>[(49,I q.1),(9,I 0)]) (fun q=>q.2) (fun q=>q.1<=l.cells.length/\(∀ k,k<q.1->(kM l k).2=0)/\S.length<q.2.length/\(∀ j o,S[j]? = some o->j≠4->q.2[j]? = some o)/\q.2[S.length]? = some (.cells [.aO false EC (l.cells.map dD),.aO false EX (l.outs.map bf)])/\ ∃ x,q.2[4]? = some (.cells [x,.au])/\tj (S.length+1) q.2 x (bW l q.1)) (fun q=>l.cells.length-q.1) (0,_) ⟨bR _,fun k hk=>by omega,by simp,fun j o hj hne=>Nc (eH hj _) hne _,abL _,.au,List.getElem?_set_self (ef (f4a _)),tj.nil _ _⟩ rfl ?_ ?_
  ·exact at_
  rintro⟨m,S1⟩ rr ⟨g1,g2,g3,g4,gl,x,g5,g6⟩;dsimp only at g1 g2 g3 g4 gl g5 g6;have e0:=g4 _ _ f0 (by omega);have e1:=g4 _ _ f1 (by omega);have e2:=g4 _ _ f2 (by omega);have e3:=g4 _ _ f3 (by omega);by_cases hml:m<l.cells.length
  ·have cT:aP aK 115 [dD (l.cells.getD m default)] (.bO [.str (kM l m).1,I (kM l m).2]):=UO _ (k2 _ (bJ hml));have hsc:=OY l m;have oq:=Ak l m;have hce:=UR t.ins.length hml g2;have gN:=fun he=>bI (q:=fun j=>(kM l j).2=0) g2 he;obtain⟨a,ha⟩:∃ a,kM l m=a:=⟨_,rfl⟩;rw[ha]at cT hsc hce gN;obtain⟨c,hc⟩:∃ c,l.cells.getD m default=c:=⟨_,rfl⟩;rw[hc]at cT;simp only[dD,jo]at cT;obtain⟨xs,hxs⟩:∃ xs,bW l m=xs:=⟨_,rfl⟩;rw[hxs]at g6 hsc oq;rcases g6 with⟨rfl,rfl⟩|⟨hne,q,hq,rfl,GU⟩
   ·repeat' first|simp (disch:=omega) only[go_sem,aF,aG,aH,e0,e1,e2,e3,gl,g5,Cz,hc]|refine aE ?_|with_reducible refine cz (adk (eH g5 _) _ _) ?_|refine aD ?_ ?_<;>intro hw<;>try omega|fail
    rintro o s ⟨rfl,ow⟩;have y1:s[1]? = some (.cells [.str [],.au,.au,I 0,I 0,.au]):=by rw[ow];exact kE _ _ (eH e1 _) (by omega)
    have hs1:∀ d,(s.set 1 d)[1]? = some d:=fun d=>List.getElem?_set_self (ef y1);repeat' first|simp (disch:=omega) only[go_sem,aF,aG,aH,y1,hs1]|refine aE ?_|refine aD ?_ ?_<;>intro hw<;>try omega|fail
    ·rw[hce (by assumption)]at wv;rw[<-hE,wv (by assumption)];exact cG (sV (y7 _))
    ·have ha0:a.2=0:=by assumption
     refine⟨(m+1,s),⟨by omega,gN ha0,?_,?_,?_,.own E1 (S1.length+1) 1 0 1,?_,?_⟩,by dsimp only;omega,rfl,dH,(by simp only[ha0];simp (disch:=omega) only[jY,jb,and_true,go_sem,aF,aG,aH,Int.natCast_add,Int.cast_ofNat_Int]<;>(try trivial)<;>(try omega)<;>(try (repeat (first|trivial|(refine And.intro ?_ ?_)|(congr 1;omega)))))⟩
     ·dsimp only;rw[ow];simp;omega
     ·intro j o hj hne;dsimp only;rw[ow];exact kE j o (eH (g4 _ _ hj hne) _) hne
     ·dsimp only;rw[ow];exact kE _ _ (eH gl _) (by omega)
     ·dsimp only;rw[ow,List.getElem?_set_self (by simp;omega)]
     ·dsimp only;rw[hsc,ow];have:=Nb (S1:=S1++[aY.cells [.bool c.any,.bool c.neg,.aO false ES (c.tests.map dB)]]) (L:=S.length+1) (k:=4) (c:= .cells [.own E1 (S1++[aY.cells [.bool c.any,.bool c.neg,.aO false ES (c.tests.map dB)]]).length 1 0 1,.au]) (s:=a.1) (by simp;omega) (by simp;omega);simpa using this
   ·have rP:q≠4:=by omega
    repeat' first|simp (disch:=omega) only[go_sem,aF,aG,aH,e0,e1,e2,e3,gl,g5,Cz,hc]|refine aE ?_|with_reducible refine cz (adn (eH g5 _) (eH GU _) rP (by omega) _ _) ?_|refine aD ?_ ?_<;>intro hw<;>try omega|fail
    rintro o s ⟨rfl,ow⟩;have y1:s[1]? = some (.cells [.str [],.au,.au,I 0,I 0,.au]):=by rw[ow];exact lQ _ _ (eH e1 _) (by omega) (by omega)
    have hs1:∀ d,(s.set 1 d)[1]? = some d:=fun d=>List.getElem?_set_self (ef y1);repeat' first|simp (disch:=omega) only[go_sem,aF,aG,aH,y1,hs1]|refine aE ?_|refine aD ?_ ?_<;>intro hw<;>try omega|fail
    ·rw[hce (by assumption)]at wv;rw[<-hE,wv (by assumption)];exact cG (sV (y7 _))
    ·have ha0:a.2=0:=by assumption
     refine⟨(m+1,s),⟨by omega,gN ha0,?_,?_,?_,.own E1 q (xs.length+1) 0 (xs.length+1),?_,?_⟩,by dsimp only;omega,rfl,dH,(by simp only[ha0];simp (disch:=omega) only[jY,jb,and_true,go_sem,aF,aG,aH,Int.natCast_add,Int.cast_ofNat_Int]<;>(try trivial)<;>(try omega)<;>(try (repeat (first|trivial|(refine And.intro ?_ ?_)|(congr 1;omega)))))⟩
     ·dsimp only;rw[ow];simp;omega
     ·intro j o hj hne;dsimp only;have:=ef hj;rw[ow];exact lQ j o (eH (g4 _ _ hj hne) _) hne (by omega)
     ·dsimp only;rw[ow];exact lQ _ _ (eH gl _) (by omega) (by omega)
     ·dsimp only;rw[ow,List.getElem?_set_self (by simp;omega)]
     ·dsimp only;rw[hsc,ow];exact Qf (eH GU _) hq (Ne.symm rP)
  ·obtain rfl:m=l.cells.length:=by omega
   have afi:=fun {k:Nat}=>Xo t.ins.length g2 (m:=k);have afj:=ZR t.ins.length g2;repeat' first|simp (disch:=omega) only[go_sem,aF,aG,aH,e0,e1,e2,e3,gl,g5,Cz]|refine aE ?_|refine aD ?_ ?_<;>intro hw<;>try omega|fail
   with_reducible refine bZ [8,9,18,19,20,70,71,72,73,74,75,76,77,78,79,80,81,82,83,84,85,86,87,88,89,90,91] (fun q:Nat × ae=>[(70,I q.1),(9,I 0)]) (fun q=>q.2) (fun q=>q.1<=l.outs.length/\(∀ k,k<q.1->(n8 l k).2=0)/\S1.length<=q.2.length/\(∀ j o,S1[j]? = some o->j≠4->q.2[j]? = some o)/\ ∃ y,q.2[4]? = some (.cells [x,y])/\tj S1.length q.2 y (qW l q.1)) (fun q=>l.outs.length-q.1) (0,_) ⟨bR _,fun k hk=>by omega,Nat.le_refl _,fun j o hj _=>hj,_,g5,tj.nil _ _⟩ rfl ?_ ?_
   ·exact at_
   rintro⟨m,S2⟩ rr ⟨p1,p2,p3,p4,y,p5,p6⟩;dsimp only at p1 p2 p3 p4 p5 p6;have e0:=p4 _ _ e0 (by omega);have e1:=p4 _ _ e1 (by omega);have e2:=p4 _ _ e2 (by omega);have e3:=p4 _ _ e3 (by omega);have gl:=p4 _ _ gl (by omega);have hS2:S.length<S2.length:=by omega
   by_cases hml:m<l.outs.length
   ·have cT:aP aK 116 [bf (l.outs.getD m default)] (.bO [.str (n8 l m).1,I (n8 l m).2]):=D4 _ (k4 _ (bJ hml)).1 (k4 _ (bJ hml)).2;have hsc:=Sf l m;have oq:=Cx l m;have hce:=afi hml p2;have gN:=fun he=>bI (q:=fun j=>(n8 l j).2=0) p2 he;obtain⟨a,ha⟩:∃ a,n8 l m=a:=⟨_,rfl⟩;rw[ha]at cT hsc hce gN;obtain⟨c,hc⟩:∃ c,l.outs.getD m default=c:=⟨_,rfl⟩;rw[hc,bB]at cT;obtain⟨xs,hxs⟩:∃ xs,qW l m=xs:=⟨_,rfl⟩;rw[hxs]at p6 hsc oq;rcases p6 with⟨rfl,rfl⟩|⟨hne,q,hq,rfl,GU⟩
    ·have e0':=fun d=>eH e0 d;repeat' first|simp (disch:=omega) only[go_sem,aF,aG,aH,e0,e0',e1,e2,e3,gl,p5,Cz,hc]|refine aE ?_|with_reducible refine cz (adl (eH p5 _) _ _) ?_|refine aD ?_ ?_<;>intro hw<;>try omega|fail
     rintro o s ⟨rfl,ow⟩;have y1:s[1]? = some (.cells [.str [],.au,.au,I 0,I 0,.au]):=by rw[ow];exact kE _ _ (eH e1 _) (by omega)
     have hs1:∀ d,(s.set 1 d)[1]? = some d:=fun d=>List.getElem?_set_self (ef y1);repeat' first|simp (disch:=omega) only[go_sem,aF,aG,aH,y1,hs1]|refine aE ?_|refine aD ?_ ?_<;>intro hw<;>try omega|fail
     ·rw[hce (by assumption)]at wv;rw[<-hE,wv (by assumption)];exact cG (sV (y7 _))
     ·have ha0:a.2=0:=by assumption
      refine⟨(m+1,s),⟨by omega,gN ha0,?_,?_,.own E1 (S2.length+1) 1 0 1,?_,?_⟩,by dsimp only;omega,rfl,dH,(by simp only[ha0];simp (disch:=omega) only[jY,jb,and_true,go_sem,aF,aG,aH,Int.natCast_add,Int.cast_ofNat_Int]<;>(try trivial)<;>(try omega)<;>(try (repeat (first|trivial|(refine And.intro ?_ ?_)|(congr 1;omega)))))⟩
      ·dsimp only;rw[ow];simp;omega
      ·intro j o hj hne;dsimp only;rw[ow];exact kE j o (eH (p4 _ _ hj hne) _) hne
      ·dsimp only;rw[ow,List.getElem?_set_self (by simp;omega)]
      ·dsimp only;rw[hsc,ow];have:=Nb (S1:=S2++[aY.cells [I c.op,I c.v.kind,I c.v.n,.str c.v.s,.str c.s,.aO false EX (c.l.map bf)]]) (L:=S1.length) (k:=4) (c:= .cells [x,.own E1 (S2++[aY.cells [I c.op,I c.v.kind,I c.v.n,.str c.v.s,.str c.s,.aO false EX (c.l.map bf)]]).length 1 0 1]) (s:=a.1) (by simp;omega) (by simp;omega);simpa using this
    ·have rP:q≠4:=by omega
     have e0':=fun d=>eH e0 d;repeat' first|simp (disch:=omega) only[go_sem,aF,aG,aH,e0,e0',e1,e2,e3,gl,p5,Cz,hc]|refine aE ?_|with_reducible refine cz (ado (eH p5 _) (eH GU _) rP (by omega) _ _) ?_|refine aD ?_ ?_<;>intro hw<;>try omega|fail
     rintro o s ⟨rfl,ow⟩;have y1:s[1]? = some (.cells [.str [],.au,.au,I 0,I 0,.au]):=by rw[ow];exact lQ _ _ (eH e1 _) (by omega) (by omega)
     have hs1:∀ d,(s.set 1 d)[1]? = some d:=fun d=>List.getElem?_set_self (ef y1);repeat' first|simp (disch:=omega) only[go_sem,aF,aG,aH,y1,hs1]|refine aE ?_|refine aD ?_ ?_<;>intro hw<;>try omega|fail
     ·rw[hce (by assumption)]at wv;rw[<-hE,wv (by assumption)];exact cG (sV (y7 _))
     ·have ha0:a.2=0:=by assumption
      refine⟨(m+1,s),⟨by omega,gN ha0,?_,?_,.own E1 q (xs.length+1) 0 (xs.length+1),?_,?_⟩,by dsimp only;omega,rfl,dH,(by simp only[ha0];simp (disch:=omega) only[jY,jb,and_true,go_sem,aF,aG,aH,Int.natCast_add,Int.cast_ofNat_Int]<;>(try trivial)<;>(try omega)<;>(try (repeat (first|trivial|(refine And.intro ?_ ?_)|(congr 1;omega)))))⟩
      ·dsimp only;rw[ow];simp;omega
      ·intro j o hj hne;dsimp only;have:=ef hj;rw[ow];exact lQ j o (eH (p4 _ _ hj hne) _) hne (by omega)
      ·dsimp only;rw[ow,List.getElem?_set_self (by simp;omega)]
      ·dsimp only;rw[hsc,ow];exact Qf (eH GU _) hq (Ne.symm rP)
   ·obtain rfl:m=l.outs.length:=by omega
    have abM:=afj p2;have YB:tj (S.length+1) S2 x (bW l l.cells.length):=g6.keep (Nat.le_refl _) (fun q ys hq GU=>p4 q _ GU (by omega));have hxs:=YB.scalar;have hys:=p6.scalar;have J7:Xp S2 (.agg [x,y]) ⟨bW l l.cells.length,qW l l.outs.length⟩:=⟨x,y,rfl,YB.keep (bR _) (fun _ _ _ h=>h),p6.keep (bR _) (fun _ _ _ h=>h)⟩;have hfit:([AV.agg [x,y]].all fun a=>AV.fits ⟨true,2⟩ a)=true:=by simp only[AV.fits,List.length_cons,List.length_nil,List.all_cons,List.all_nil,hxs,hys];rfl
    have YO:AV.fits ⟨true,2⟩ (.agg [x,y])=true:=by simpa using hfit
    have hkS:∀ (q:Nat) (o:aY),S[q]? = some o->q≠4->S2[q]? = some o:=fun q o hq hne=>p4 q o (g4 q o hq hne) hne;rcases h4 with⟨h4,rfl⟩|⟨h4,q,rs,hq,rfl,GU,hr⟩
    ·have hap:∀ d:aY,(S2++[d])[3]? = some (Na t .au):=fun d=>eH e3 d;repeat' first|simp (disch:=omega) only[go_sem,aF,aG,aH,e0,e1,e2,e3,p5,hap,hfit,YO,Cz]|refine aE ?_|refine aD ?_ ?_<;>intro hw<;>try omega|fail
     refine⟨(n+1,_),⟨by omega,bI (q:=fun j=>(l7 t j).2.2=0) h2 (by rw[hrow,pC,Cz,abM]),?_,?_,?_,?_,⟨.own ER S2.length 1 0 1,?_,?_⟩,x,y,?_⟩,by dsimp only;omega,rfl,dH,at_⟩
     ·dsimp only;simp;omega
     ·exact kE _ _ e0 (by omega)
     ·exact kE _ _ e1 (by omega)
     ·exact kE _ _ e2 (by omega)
     ·dsimp only;rw[List.getElem?_set_self (by simp;omega)]
     ·dsimp only;rw[qb,h4];refine .inr ⟨by simp,S2.length,[.agg [x,y]],by omega,rfl,?_,mN.keep (fun q ys hq=>kE _ _ hq (fun e=>by subst e;rw[e3]at hq;cases hq)) (mN.snoc (mN.nil S2) J7)⟩;rw[List.getElem?_set_ne (by omega)];simp
     ·exact kE _ _ p5 (by omega)
    ·have hq3:q≠3:=by omega
     have e4:=hkS _ _ GU (by omega);rw[xX]at e3;have hrn:rs.length=n:=by rw[hr.1,xX]
     have hap:∀ d:aY,(S2.set q d)[3]? = some (Na t (.own ER q n 0 n)):=fun d=>by rw[List.getElem?_set_ne hq3];exact e3
     repeat' first|simp (disch:=omega) only[go_sem,aF,aG,aH,e0,e1,e2,e3,p5,hap,hfit,YO,e4,Cz,hrn]|refine aE ?_|refine aD ?_ ?_<;>intro hw<;>try omega|fail
     refine⟨(n+1,_),⟨by omega,bI (q:=fun j=>(l7 t j).2.2=0) h2 (by rw[hrow,pC,Cz,abM]),?_,?_,?_,?_,⟨.own ER q (n+1) 0 (n+1),?_,?_⟩,x,y,?_⟩,by dsimp only;omega,rfl,dH,at_⟩
     ·dsimp only;simp;omega
     ·exact lQ _ _ e0 (by omega) (by omega)
     ·exact lQ _ _ e1 (by omega) (by omega)
     ·exact lQ _ _ e2 (by omega) (by omega)
     ·dsimp only;rw[List.getElem?_set_self (by simp;omega)]
     ·dsimp only;rw[qb];have Cq:mN S2 rs (mM t n):=hr.keep (fun q ys hq=>hkS _ _ hq (fun e=>by subst e;rw[f4]at hq;cases hq));refine .inr ⟨by simp,q,rs++[.agg [x,y]],hq,by simp[xX],?_,mN.keep (fun p ys hp=>lQ _ _ hp (fun e=>by subst e;rw[e3]at hp;cases hp) (fun e=>by subst e;rw[e4]at hp;cases hp)) (mN.snoc Cq J7)⟩;rw[List.getElem?_set_ne (Ne.symm hq3),List.getElem?_set_self (ef e4)]
     ·exact lQ _ _ p5 (by omega) (by omega)
 ·obtain rfl:n=ls.length:=by omega
  have hva:([AV.str t.name,.aO false EC (t.ins.map bq),.aO false EC (t.outs.map bq),I t.aM,I t.agg,v].all AV.scalar)=true:=by simp only[List.all_cons,List.all_nil,hvs];rfl
  have hs1:∀ o,(S.set 1 o)[1]? = some o:=fun o=>List.getElem?_set_self (ef f1);repeat' first|simp (disch:=omega) only[go_sem,aF,aG,aH,f0,f1,f2,f3,hva,hs1]|refine aE ?_|refine aD ?_ ?_<;>intro hw<;>try omega|fail
  have h5:=h4.keep (S':=S.set 1 (Na t v)) (fun q o hq hne=>by
   rw[List.getElem?_set_ne (fun e=>by subst e;rw[f1]at hq;cases hq;exact hne _ rfl)];exact hq)
  rw[<-hE,hco h2];exact cG (sV (View.sC (.cons (.refl _ rfl) (.cons (.refl _ (jk _)) (.cons (.refl _ (jk _)) (.cons (.refl _ rfl) (.cons (.refl _ rfl) (.cons h5.view (.nil _)))))))))
def Al{α : Type}[Inhabited α]{p : α->Bool}{l:List α}(h:∀ k,k<l.length->p (l.getD k default)=true): l.all p=true:=by
 rw[aW];intro x hx;obtain⟨i,hi,rfl⟩:=bC hx;have:=h i hi;rwa[aj,aL hi,bu]at this
def Am{α : Type}[Inhabited α]{p : α->Bool}{l:List α}{i:Nat}(hi:i<l.length)(h:p (l.getD i default)=false): l.all p=false:=by
 cases hq:l.all p with
 | false=>rfl
 | true=>rw[List.all_eq_true]at hq;rw[hq _ (bJ hi)]at h;cases h
def Iw(n:Nat)(s:aI): Bool:=decide (s.length<=n)
def CA(l:List aI): Bool:=decide (l.length<=10) && l.all (Iw 300)
def D7(l:List aI): aP aK 34 [bX l] (.bool (CA l)):=by
 obtain⟨E,hE⟩:∃ E,CA l=E:=⟨_,rfl⟩;rw[hE];unfold CA at hE;simp only[bX];refine aR HU ?_;intro Q aF aG aH;repeat' first|refine aE ?_|refine aD ?_ ?_<;>intro hw<;>try omega|fail
 ·refine aU ?_ rfl;rw[<-hE,decide_eq_false (by omega),gE]
 have h10:l.length<=10:=by omega
 rw[decide_eq_true h10,dZ]at hE;with_reducible refine bZ [2,3,7,8,9,10,11,12,13,14,15,16,17,18] (fun i:Nat=>[(3,I i)]) (fun _=>[]) (fun i=>i<=l.length/\ ∀ k,k<i->Iw 300 (l.getD k default)=true) (fun i=>l.length-i) (0) ?_ ?_ ?_ ?_
 ·simp
 ·rfl
 ·exact at_
 rintro i r ⟨h1,h2⟩;by_cases hi:i<l.length
 ·have hne:=fun h=>Am (p:=Iw 300) hi h;have cZ:=fun he=>bI (q:=fun k=>Iw 300 (l.getD k default)=true) h2 (i:=i) he;have hS:Iw 300 (l.getD i default)=decide ((l.getD i default).length<=300):=rfl;rw[hS]at hne cZ;repeat' first|refine aE ?_|refine aD ?_ ?_<;>intro hw<;>try omega|fail
  all_goals first
   | exact bN
   |(refine aU ?_ rfl;rw[<-hE,hne (decide_eq_false (by omega))])
   | (refine ⟨i + 1, ?_, ?_, by first | rfl | (simp [go_sem]; done), dH, at_⟩ <;> (try dsimp only)
      ·exact⟨by omega,cZ (decide_eq_true (by omega))⟩
      ·omega)
 ·repeat' first|refine aE ?_|refine aD ?_ ?_<;>intro hw<;>try omega|fail
  refine aU ?_ rfl;rw[<-hE,Al (fun k hk=>h2 k (by omega))]
def Dr(c:cR): Bool:=decide (c.name.length<=300)
def CB(l:List cR): Bool:=decide (l.length<=12) && l.all Dr
def UX(l:List cR): aP aK 72 [cJ l] (.bool (CB l)):=by
 obtain⟨E,hE⟩:∃ E,CB l=E:=⟨_,rfl⟩;rw[hE];unfold CB at hE;simp only[cJ];refine aR DB ?_;intro Q aF aG aH;repeat' first|refine aE ?_|refine aD ?_ ?_<;>intro hw<;>try omega|fail
 ·refine aU ?_ rfl;rw[<-hE,decide_eq_false (by omega),gE]
 have h10:l.length<=12:=by omega
 rw[decide_eq_true h10,dZ]at hE;with_reducible refine bZ [2,3,7,8,9,10,11,12,13,14,15,16,17,18,19] (fun i:Nat=>[(3,I i)]) (fun _=>[]) (fun i=>i<=l.length/\ ∀ k,k<i->Dr (l.getD k default)=true) (fun i=>l.length-i) (0) ?_ ?_ ?_ ?_
 ·simp
 ·rfl
 ·exact at_
 rintro i r ⟨h1,h2⟩;by_cases hi:i<l.length
 ·have hne:=fun h=>Am (p:=Dr) hi h;have cZ:=fun he=>bI (q:=fun k=>Dr (l.getD k default)=true) h2 (i:=i) he;have hS:Dr (l.getD i default)=decide ((l.getD i default).name.length<=300):=rfl;rw[hS]at hne cZ;repeat' first|refine aE ?_|refine aD ?_ ?_<;>intro hw<;>try omega|fail
  all_goals first
   | exact bN
   |(refine aU ?_ rfl;rw[<-hE,hne (decide_eq_false (by omega))])
   | (refine ⟨i + 1, ?_, ?_, by first | rfl | (simp [go_sem]; done), dH, at_⟩ <;> (try dsimp only)
      ·exact⟨by omega,cZ (decide_eq_true (by omega))⟩
      ·omega)
 ·repeat' first|refine aE ?_|refine aD ?_ ?_<;>intro hw<;>try omega|fail
  refine aU ?_ rfl;rw[<-hE,Al (fun k hk=>h2 k (by omega))]
def pD(v:eu): Bool:=decide (v.s.length<=300)
def Ix(c:cR): Bool:=decide (c.order.length<=12) && c.order.all pD
def Ao(l:List cR): Bool:=CB l && l.all Ix
def D8(l:List cR): aP aK 33 [cJ l] (.bool (Ao l)):=by
 have cf:=UX l;obtain⟨E,hE⟩:∃ E,Ao l=E:=⟨_,rfl⟩;rw[hE];unfold Ao at hE;have h12:CB l=true->l.length<=12:=fun h=>by simp only[CB,aq,decide_eq_true_eq]at h;exact h.1
 simp only[cJ]at cf ⊢;generalize CB l=fe at *;refine aR HT ?_;intro Q aF aG aH;cases fe with
 | false =>
   repeat' first|refine aE ?_|refine aD ?_ ?_<;>intro hw<;>try omega|fail
   all_goals first
    | exact bN
    |(refine aU ?_ rfl;rw[<-hE,gE])
 | true =>
   rw[dZ]at hE;have h12:=h12 rfl;repeat' first|refine aE ?_|refine aD ?_ ?_<;>intro hw<;>try omega|fail
   all_goals first|exact bN|skip
   with_reducible refine bZ [2,3,4,8,9,10,11,12,13,14,15,16,17,18,19,20,21,22,23,24,25,26,27,28,29,30,31,32,33,34,35,36,37,38,39,40,41] (fun i:Nat=>[(3,I i)]) (fun _=>[]) (fun i=>i<=l.length/\ ∀ k,k<i->Ix (l.getD k default)=true) (fun i=>l.length-i) (0) ?_ ?_ ?_ ?_
   ·simp
   ·rfl
   ·exact at_
   rintro i r ⟨h1,h2⟩;by_cases hi:i<l.length
   ·have hne:=fun h=>Am (p:=Ix) hi h;have cZ:=fun he=>bI (q:=fun k=>Ix (l.getD k default)=true) h2 (i:=i) he;have hS:Ix (l.getD i default)=(decide ((l.getD i default).order.length<=12) && (l.getD i default).order.all pD):=rfl;rw[hS]at hne cZ;obtain⟨c,hc⟩:∃ c,l.getD i default=c:=⟨_,rfl⟩;rw[hc]at hne cZ;clear hS;repeat' first|simp (disch:=omega) only[go_sem,aF,aG,aH,hc]|refine aE ?_|refine aD ?_ ?_<;>intro hw<;>try omega|fail
    ·refine aU ?_ rfl;rw[<-hE,hne (by rw[decide_eq_false (by omega),gE])]
    have ho:c.order.length<=12:=by omega
    rw[decide_eq_true ho,dZ]at hne cZ;with_reducible refine bZ [2,4,21,22,23,24,25,26,27,28,29,30,31,32,33,34,35,36,37,38,39,40,41] (fun j:Nat=>[(4,I j)]) (fun _=>[]) (fun j=>j<=c.order.length/\ ∀ k,k<j->pD (c.order.getD k default)=true) (fun j=>c.order.length-j) (0) ?_ ?_ ?_ ?_
    ·simp
    ·rfl
    ·exact at_
    rintro j r2 ⟨g1,g2⟩;by_cases hj:j<c.order.length
    ·have abN:=fun h=>Am (p:=pD) hj h;have jS:=fun he=>bI (q:=fun k=>pD (c.order.getD k default)=true) g2 (i:=j) he;have hS:pD (c.order.getD j default)=decide ((c.order.getD j default).s.length<=300):=rfl;rw[hS]at abN jS;repeat' first|simp (disch:=omega) only[go_sem,aF,aG,aH,hc]|refine aE ?_|refine aD ?_ ?_<;>intro hw<;>try omega|fail
     all_goals first
      | exact bN
      |(refine aU ?_ rfl;rw[<-hE,hne (abN (decide_eq_false (by omega)))])
      | (refine ⟨j + 1, ?_, ?_, by first | rfl | (simp [go_sem]; done), dH, at_⟩ <;> (try dsimp only)
         ·exact⟨by omega,jS (decide_eq_true (by omega))⟩
         ·omega)
    ·repeat' first|simp (disch:=omega) only[go_sem,aF,aG,aH,hc]|refine aE ?_|refine aD ?_ ?_<;>intro hw<;>try omega|fail
     refine⟨i+1,?_,?_,by first|rfl|(simp[go_sem];done),dH,at_⟩<;>(try dsimp only)
     ·exact⟨by omega,cZ (Al (fun k hk=>g2 k (by omega)))⟩
     ·omega
   ·repeat' first|refine aE ?_|refine aD ?_ ?_<;>intro hw<;>try omega|fail
    refine aU ?_ rfl;rw[<-hE,Al (fun k hk=>h2 k (by omega))]
def Iy(r:eE): Bool:=CA r.cells && CA r.outs
def uR(t:Table): Bool:=decide (t.name.length<=300) && decide (t.rules.length<=26) && Ao t.ins && Ao t.outs && t.rules.all Iy
def OZ(t:Table): aP aK 17 [dV t] (.bool (uR t)):=by
 have ci:=D8 t.ins;have co:=D8 t.outs;obtain⟨E,hE⟩:∃ E,uR t=E:=⟨_,rfl⟩;rw[hE];unfold uR at hE;simp only[dV,ia,cJ,eF]at ci co ⊢;generalize Ao t.ins=oi at *;generalize Ao t.outs=oo at *;refine aR EJ ?_;intro Q aF aG aH;by_cases hb:(decide (t.name.length<=300) && decide (t.rules.length<=26) && oi && oo)=true
 case neg =>
  simp only[Bool.not_eq_true]at hb;rw[hb,gE]at hE;cases oi<;>cases oo
  all_goals
   repeat' first|refine aE ?_|refine aD ?_ ?_<;>intro hw<;>try omega|fail
  all_goals first
   | exact bN
   |(refine aU ?_ rfl;rw[<-hE])
   |(exfalso;simp at hb;omega)
 rw[hb,dZ]at hE;simp only[aq,decide_eq_true_eq]at hb;obtain⟨⟨⟨b1,b2⟩,rfl⟩,rfl⟩:=hb;repeat' first|refine aE ?_|refine aD ?_ ?_<;>intro hw<;>try omega|fail
 all_goals first|exact bN|skip
 with_reducible refine bZ [2,3,26,27,28,29,30,31,32,33,34,35,36,37,38,39,40,41,42,43,44,45,46,47,48,49,50] (fun i:Nat=>[(3,I i)]) (fun _=>[.cells [.str t.name,.aO false EC (t.ins.map bq),.aO false EC (t.outs.map bq),I t.aM,I t.agg,.aO false ER (t.rules.map cu)]]) (fun i=>i<=t.rules.length/\ ∀ k,k<i->Iy (t.rules.getD k default)=true) (fun i=>t.rules.length-i) (0) ?_ ?_ ?_ ?_
 ·simp
 ·rfl
 ·exact at_
 rintro i r ⟨h1,h2⟩;by_cases hi:i<t.rules.length
 ·have hne:=fun h=>Am (p:=Iy) hi h;have cZ:=fun he=>bI (q:=fun k=>Iy (t.rules.getD k default)=true) h2 (i:=i) he;have hS:Iy (t.rules.getD i default)=(CA (t.rules.getD i default).cells && CA (t.rules.getD i default).outs):=rfl;have c1:=D7 (t.rules.getD i default).cells;have c2:=D7 (t.rules.getD i default).outs;rw[hS]at hne cZ;simp only[bX]at c1 c2;generalize CA (t.rules.getD i default).cells=u1 at *;generalize CA (t.rules.getD i default).outs=u2 at *;cases u1<;>cases u2
  all_goals
   repeat' first|refine aE ?_|refine aD ?_ ?_<;>intro hw<;>try omega|fail
  all_goals first
   | exact bN
   |(refine aU ?_ rfl;rw[<-hE,hne rfl])
   | (refine ⟨i + 1, ?_, ?_, by first | rfl | (simp [go_sem]; done), dH, at_⟩ <;> (try dsimp only)
      ·exact⟨by omega,cZ rfl⟩
      ·omega)
 ·repeat' first|refine aE ?_|refine aD ?_ ?_<;>intro hw<;>try omega|fail
  refine aU ?_ rfl;rw[<-hE,Al (fun k hk=>h2 k (by omega))]
set_option maxRecDepth 8000
def Nd(v:eu): Prop:= -9223372036854775808<=v.n/\v.n<=9223372036854775807
def Si(l:List cR): Prop:= ∀ c ∈ l,∀ v ∈ c.order,Nd v
def EH(t:Table): Prop:=Si t.ins/\Si t.outs
def Qg{l:List cR}(h:Ao l=true)(hr:Si l): l.length<=12/\ ∀ c ∈ l,sU c:=by
 simp only[Ao,CB,aq,decide_eq_true_eq,aW]at h;obtain⟨⟨h1,h2⟩,h3⟩:=h;refine⟨h1,fun c hc=>?_⟩;have a:=h2 c hc;have b:=h3 c hc;simp only[Dr,Ix,aq,decide_eq_true_eq,aW]at a b;refine⟨by omega,by omega,fun v hv=>⟨hr c hc v hv,?_⟩⟩;have:=b.2 v hv;simp only[pD,decide_eq_true_eq]at this;omega
def Nf{l:List aI}(h:CA l=true): l.length<=10/\ ∀ s ∈ l,s.length<=300:=by
 simp only[CA,aq,decide_eq_true_eq,aW]at h;exact⟨h.1,fun s hs=>by have:=h.2 s hs;simpa[Iw]using this⟩
def Xr{t:Table}(h:uR t=true)(hr:EH t): jQ t:=by
 simp only[uR,aq,decide_eq_true_eq,aW]at h;obtain⟨⟨⟨⟨h1,h2⟩,h3⟩,h4⟩,h5⟩:=h;have ci:=Qg h3 hr.1;have co:=Qg h4 hr.2;refine⟨by omega,⟨by omega,ci.2⟩,⟨by omega,co.2⟩,by omega,fun r T3=>?_⟩;have:=h5 r T3;simp only[Iy,aq]at this;have a:=Nf this.1;have b:=Nf this.2;exact⟨⟨by omega,fun s hs=>by have:=a.2 s hs;omega⟩,by omega,fun s hs=>by have:=b.2 s hs;omega⟩
def rz{α : Type}{p : α-> α->Bool}(l:List α)(h:∀ x ∈ l,p x x=true): gy p l l=true:=by
 induction l with
 | nil=>rfl
 | cons x l ih=>simp only[gy,h x (by simp),dZ];exact ih (fun y hy=>h y (bF _ hy))
def wV(t:Table): ie t t=true:=by
 have hc:∀ l:List cR,gy gX l l=true:=fun l=>rz l (fun c _=>by
  unfold gX;rw[rz c.order (fun v _=>by simp)];simp)
 have hr:∀ l:List eE,gy jE l l=true:=fun l=>rz l (fun r _=>by
  unfold jE;rw[rz r.cells (fun v _=>by simp),rz r.outs (fun v _=>by simp)];rfl)
 unfold ie;rw[hc,hc,hr];simp
def Qh{l:List cR}(h:l.length<=2 ^ 30/\ ∀ c ∈ l,sU c): Cw l:=⟨by omega,fun c hc=>(h.2 c hc).2.1⟩
def y8{t:Table}(h:jQ t): Aj t:=⟨Qh h.2.1,Qh h.2.2.1,by have:=h.2.2.2.1;omega,fun r hr=>by
 have:=h.2.2.2.2 r hr;exact⟨by omega,by omega⟩⟩
def Iz: Aj iH:=⟨⟨by decide,fun c hc=>(by cases hc)⟩,⟨by decide,fun c hc=>(by cases hc)⟩,by decide,fun c hc=>(by cases hc)⟩
def Ng{t:Table}(h:jQ t): Aj (ff t).1:=by
 by_cases he:(eG t).2.2.2=0
 ·unfold ff;rw[if_neg (by omega)];split
  ·exact Iz
  ·obtain⟨a,b,c,d⟩:=y8 h;obtain⟨h1,h2⟩:=D6 h he;refine⟨a,b,?_,fun r hr=>?_⟩
   ·dsimp only;rw[xX];omega
   ·obtain⟨k,_,rfl⟩:=cC.1 hr;have hk:=h2 k;unfold l7;rw[GS];refine⟨?_,?_⟩
    ·dsimp only;rw[Ak];have:=hk.1.1;omega
    ·dsimp only;rw[Cx];have:=hk.2.1;omega
 ·rw[yB he];exact Iz
