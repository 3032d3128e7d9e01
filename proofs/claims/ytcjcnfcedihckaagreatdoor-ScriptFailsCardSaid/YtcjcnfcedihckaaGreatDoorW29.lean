/- Part. -/
import Derived.Test.YtcjcnfcedihckaaGreatDoorW28
set_option linter.all false
set_option maxHeartbeats 8000000
namespace Go.Proofs.YtcjcnfcedihckaaGreatDoor
open Go.AM
set_option maxRecDepth 4000
def zD(σ : ae): View σ (.agg [.str [],.au,.au,I 0,I 0,.au]) (dS iD) :=
 View.s5 (.cons (.refl _ rfl) (.cons (.au _) (.cons (.au _) (.cons (.refl _ rfl) (.cons (.refl _ rfl) (.cons (.au _) (.nil _)))))))
abbrev Ot(t:Table)(v:AV): aZ:= .cells [.str t.name,.aO false EC (t.ins.map bu),.aO false EC (t.outs.map bu),I t.aL,I t.agg,v]
abbrev agw(t:Table)(ls:List kB): aZ:= .cells [.str t.name,.aO false EC (t.ins.map bu),.aO false EC (t.outs.map bu),I t.aL,I t.agg,.aO false ER (t.rules.map cu),.aO false ER (ls.map ow)]
def Ou{S1:ae}{L k:Nat}{c:aZ}{s:aI}(hL:L<=S1.length)(hk:k<S1.length): tZ L ((S1++[aZ.vec E1 [.str s]]).set k c) (.own E1 S1.length 1 0 1) [s] :=
 .inr ⟨by simp,S1.length,hL,rfl,by rw[List.getElem?_set_ne (by omega)];simp[bB]⟩
def Rv{S1:ae}{L k q:Nat}{c:aZ}{s:aI}{xs:List aI}(hq:S1[q]? = some (.vec E1 (xs.map bB)))(hL:L<=q)(hk:k≠q): tZ L ((S1.set q (.vec E1 (xs.map bB++[.str s]))).set k c) (.own E1 q (xs.length+1) 0 (xs.length+1)) (xs++[s]) :=
 .inr ⟨by simp,q,hL,by simp,by rw[List.getElem?_set_ne hk,List.getElem?_set_self (ey hq)];simp[bB]⟩
def kS{S1:ae}{k:Nat}{c d:aZ}(j:Nat)(o:aZ)(hj:S1[j]? = some o)(hne:j≠k): ((S1++[d]).set k c)[j]? = some o:=by
 rw[List.getElem?_set_ne (Ne.symm hne),aH (ey hj)];exact hj
def l8{S1:ae}{k q:Nat}{c d:aZ}(j:Nat)(o:aZ)(hj:S1[j]? = some o)(hne:j≠k)(hq:j≠q): ((S1.set q d).set k c)[j]? = some o:=by
 rw[List.getElem?_set_ne (Ne.symm hne),List.getElem?_set_ne (Ne.symm hq)];exact hj
def aey{σ : ae}{k:Nat}{w:AV}(h : σ[k]? = some (.cells [.au,w]))(s:aI)(e:Int): cR aK 114 [.ref k 0,.str s,I e] σ fun o σ'=>o = .ret (.bool (e==0))/\σ'=(σ++[aZ.vec E1 [.str s]]).set k (.cells [.own E1 σ.length 1 0 1,w]):=by
 have h2:∀ d:aZ,(σ++[d])[k]? = some (.cells [.au,w]):=fun d=>by rw[aH (ey h)];exact h
 refine nL.go ?_;unfold eY;intro Q aC aD aE;repeat' first|simp (disch:=omega) only[go_sem,aC,aD,aE,h,h2]|refine aG ?_|refine aF ?_ ?_<;>intro hw<;>try omega|fail
 exact⟨rfl,by trivial⟩
def aez{σ : ae}{k:Nat}{w:AV}(h : σ[k]? = some (.cells [w,.au]))(s:aI)(e:Int): cR aK 114 [.ref k 1,.str s,I e] σ fun o σ'=>o = .ret (.bool (e==0))/\σ'=(σ++[aZ.vec E1 [.str s]]).set k (.cells [w,.own E1 σ.length 1 0 1]):=by
 have h2:∀ d:aZ,(σ++[d])[k]? = some (.cells [w,.au]):=fun d=>by rw[aH (ey h)];exact h
 refine nL.go ?_;unfold eY;intro Q aC aD aE;repeat' first|simp (disch:=omega) only[go_sem,aC,aD,aE,h,h2]|refine aG ?_|refine aF ?_ ?_<;>intro hw<;>try omega|fail
 exact⟨rfl,by trivial⟩
def aeA{σ : ae}{k q:Nat}{xs:List aI}{w:AV}(h : σ[k]? = some (.cells [.own E1 q xs.length 0 xs.length,w]))(hq : σ[q]? = some (.vec E1 (xs.map bB)))(hne:q≠k)(hl:xs.length<=2 ^ 30)(s:aI)(e:Int): cR aK 114 [.ref k 0,.str s,I e] σ fun o σ'=>o = .ret (.bool (e==0))/\σ'=(σ.set q (.vec E1 (xs.map bB++[.str s]))).set k (.cells [.own E1 q (xs.length+1) 0 (xs.length+1),w]):=by
 have h2:∀ d:aZ,(σ.set q d)[k]? = some (.cells [.own E1 q xs.length 0 xs.length,w]):=fun d=>by rw[List.getElem?_set_ne hne];exact h
 refine nL.go ?_;unfold eY;intro Q aC aD aE;repeat' first|simp (disch:=omega) only[go_sem,aC,aD,aE,h,h2,hq]|refine aG ?_|refine aF ?_ ?_<;>intro hw<;>try omega|fail
 exact⟨rfl,by trivial⟩
def aeB{σ : ae}{k q:Nat}{xs:List aI}{w:AV}(h : σ[k]? = some (.cells [w,.own E1 q xs.length 0 xs.length]))(hq : σ[q]? = some (.vec E1 (xs.map bB)))(hne:q≠k)(hl:xs.length<=2 ^ 30)(s:aI)(e:Int): cR aK 114 [.ref k 1,.str s,I e] σ fun o σ'=>o = .ret (.bool (e==0))/\σ'=(σ.set q (.vec E1 (xs.map bB++[.str s]))).set k (.cells [w,.own E1 q (xs.length+1) 0 (xs.length+1)]):=by
 have h2:∀ d:aZ,(σ.set q d)[k]? = some (.cells [w,.own E1 q xs.length 0 xs.length]):=fun d=>by rw[List.getElem?_set_ne hne];exact h
 refine nL.go ?_;unfold eY;intro Q aC aD aE;repeat' first|simp (disch:=omega) only[go_sem,aC,aD,aE,h,h2,hq]|refine aG ?_|refine aF ?_ ?_<;>intro hw<;>try omega|fail
 exact⟨rfl,by trivial⟩
def eN{S:ae}{j:Nat}{o:aZ}(h:S[j]? = some o)(d:aZ): (S++[d])[j]? = some o:=by rw[aH (ey h)];exact h
def Ov{S:ae}{j k:Nat}{o:aZ}(h:S[j]? = some o)(hne:j≠k)(d:aZ): (S.set k d)[j]? = some o:=by rw[List.getElem?_set_ne (Ne.symm hne)];exact h
def Dd(t:Table)(h:j8 t): aM aK 73 [dS t] (Ru (fB t)):=by
 have cm:=Qg t h;obtain⟨E,hE⟩:∃ E,Ru (fB t)=E:=⟨_,rfl⟩;rw[hE];by_cases he:(eM t).2.2.2≠0
 ·have hc:=y3 he;obtain⟨M,hM⟩:∃ M,eM t=M:=⟨_,rfl⟩;rw[hM]at cm hc he;simp only[ZY,Cx,dS,gQ,cH,eA,Hj]at cm ⊢;refine aR yb ?_;intro Q aC aD aE;repeat' first|refine aG ?_|refine aF ?_ ?_<;>intro hw<;>try omega|fail
  all_goals first
   | exact bK
   |(rw[<-hE,hc];exact cK (tJ (zD _)))
 have Wb:(eM t).2.2.2=0:=by omega
 obtain⟨hf,hl,hm⟩:=qx Wb;obtain⟨hlen,hok⟩:=EL h Wb;have Nj:=fun n=>Tz (t:=t) Wb (n:=n);have hco:=yw Wb;obtain⟨ls,hls⟩:∃ ls,(eM t).1.lines=ls:=⟨_,rfl⟩;have kZ:∀ n,qw t n=ls.getD n default:=fun n=>by rw[<-hls];rfl
 have nh:nP t t.rules.length=ls:=by rw[<-hls,hm]
 rw[hls]at hlen Nj hco;rw[hm,nh]at cm;have agv:=h.2.2.2.1;have ahS:=h.2.1.1;clear hm nh hl hf Wb hls he;simp only[ZY,Cx,dS,gQ,cH,eA,Hj]at cm ⊢;refine aR yb ?_;intro Q aC aD aE;repeat' first|refine aG ?_|refine aF ?_ ?_<;>intro hw<;>try omega|fail
 all_goals first|exact bK|skip
 with_reducible refine bX [7,8,9,13,14,15,16,17,18,19,20,39,40,41,42,43,44,45,46,47,48,49,50,51,52,53,54,55,56,57,58,59,60,61,62,63,64,65,66,67,68,69,70,71,72,73,74,75,76,77,78,79,80,81,82,83,84,85,86,87,88,89,90,91,92,93,94,95,96,97,98] (fun q:Nat × ae=>[(39,I q.1),(9,I 0)]) (fun q=>q.2) (fun q=>q.1<=ls.length/\(∀ k,k<q.1->(mB t k).2.2=0)/\5<=q.2.length/\q.2[0]? = some (Ot t (.aO false ER (t.rules.map cu)))/\q.2[1]? = some (.cells [.str [],.au,.au,I 0,I 0,.au])/\q.2[2]? = some (agw t ls)/\(∃ v,q.2[3]? = some (Ot t v)/\xx 5 q.2 v (ni t q.1))/\ ∃ a b,q.2[4]? = some (.cells [a,b])) (fun q=>ls.length-q.1) (0,_) ⟨bJ _,fun k hk=>by omega,by simp,rfl,rfl,rfl,⟨_,rfl,xx.nil _ _⟩,_,_,rfl⟩ rfl ?_ ?_
 ·exact at_
 rintro⟨n,S⟩ rr ⟨h1,h2,h3,f0,f1,f2,⟨v,f3,h4⟩,xa,xb,f4⟩;dsimp only at h1 h2 h3 f0 f1 f2 f3 h4 f4;have hvs:=h4.scalar;by_cases hn:n<ls.length
 ·have Yy:=hok n;have hrow:mB t n=uD t.ins.length (qw t n):=rfl;have wW:=Nj n hn h2;have qG:=Ty t n;rw[hrow,HM]at qG;rw[hrow]at wW;rw[kZ]at Yy wW qG;obtain⟨l,De⟩:∃ l,ls.getD n default=l:=⟨_,rfl⟩;rw[De]at Yy wW qG;obtain⟨⟨k1,k2⟩,k3,k4⟩:=Yy;have f4a:∀ d:aZ,(S++[d])[4]? = some (.cells [xa,xb]):=fun d=>eN f4 d;have hSl:(S++[aZ.cells [.aO false EC (l.cells.map dI),.aO false EX (l.outs.map bg)]])[S.length]? = some (.cells [.aO false EC (l.cells.map dI),.aO false EX (l.outs.map bg)]):=Mc _ _;have ac0:∀ d:aZ,((S++[aZ.cells [.aO false EC (l.cells.map dI),.aO false EX (l.outs.map bg)]]).set 4 d)[S.length]? = some (.cells [.aO false EC (l.cells.map dI),.aO false EX (l.outs.map bg)]):=fun d=>Ov hSl (by omega) d;repeat' first|simp (disch:=omega) only[go_sem,aC,aD,aE,f0,f1,f2,f3,f4,f4a,ac0,De]|refine aG ?_|refine aF ?_ ?_<;>intro hw<;>try omega|fail
  with_reducible refine bX [8,9,15,16,17,49,50,51,52,53,54,55,56,57,58,59,60,61,62,63,64,65,66] (fun q:Nat × ae=>[(49,I q.1),(9,I 0)]) (fun q=>q.2) (fun q=>q.1<=l.cells.length/\(∀ k,k<q.1->(kY l k).2=0)/\S.length<q.2.length/\(∀ j o,S[j]? = some o->j≠4->q.2[j]? = some o)/\q.2[S.length]? = some (.cells [.aO false EC (l.cells.map dI),.aO false EX (l.outs.map bg)])/\ ∃ x,q.2[4]? = some (.cells [x,.au])/\tZ (S.length+1) q.2 x (cg l q.1)) (fun q=>l.cells.length-q.1) (0,_) ⟨bJ _,fun k hk=>by omega,by simp,fun j o hj hne=>Ov (eN hj _) hne _,ac0 _,.au,List.getElem?_set_self (ey (f4a _)),tZ.nil _ _⟩ rfl ?_ ?_
  ·exact at_
  rintro⟨m,S1⟩ rr ⟨g1,g2,g3,g4,gl,x,g5,g6⟩;dsimp only at g1 g2 g3 g4 gl g5 g6;have e0:=g4 _ _ f0 (by omega);have e1:=g4 _ _ f1 (by omega);have e2:=g4 _ _ f2 (by omega);have e3:=g4 _ _ f3 (by omega);by_cases hml:m<l.cells.length
  ·have cT:aM aK 115 [dI (l.cells.getD m default)] (.bU [.str (kY l m).1,I (kY l m).2]):=V6 _ (k2 _ (bH hml));have hsc:=Qh l m;have n6:=A0 l m;have hce:=V9 t.ins.length hml g2;have gP:=fun he=>bP (q:=fun j=>(kY l j).2=0) g2 he;obtain⟨a,ha⟩:∃ a,kY l m=a:=⟨_,rfl⟩;rw[ha]at cT hsc hce gP;obtain⟨c,hc⟩:∃ c,l.cells.getD m default=c:=⟨_,rfl⟩;rw[hc]at cT;simp only[dI,jL]at cT;obtain⟨xs,hxs⟩:∃ xs,cg l m=xs:=⟨_,rfl⟩;rw[hxs]at g6 hsc n6;rcases g6 with⟨rfl,rfl⟩|⟨hne,q,hq,rfl,HN⟩
   ·repeat' first|simp (disch:=omega) only[go_sem,aC,aD,aE,e0,e1,e2,e3,gl,g5,De,hc]|refine aG ?_|with_reducible refine cA (aey (eN g5 _) _ _) ?_|refine aF ?_ ?_<;>intro hw<;>try omega|fail
    rintro o s ⟨rfl,oR⟩;have y1:s[1]? = some (.cells [.str [],.au,.au,I 0,I 0,.au]):=by rw[oR];exact kS _ _ (eN e1 _) (by omega)
    have hs1:∀ d,(s.set 1 d)[1]? = some d:=fun d=>List.getElem?_set_self (ey y1);repeat' first|simp (disch:=omega) only[go_sem,aC,aD,aE,y1,hs1]|refine aG ?_|refine aF ?_ ?_<;>intro hw<;>try omega|fail
    ·rw[hce (by assumption)]at wW;rw[<-hE,wW (by assumption)];exact cK (tJ (zD _))
    ·have ha0:a.2=0:=by assumption
     refine⟨(m+1,s),⟨by omega,gP ha0,?_,?_,?_,.own E1 (S1.length+1) 1 0 1,?_,?_⟩,by dsimp only;omega,rfl,da,(by simp only[ha0];simp (disch:=omega) only[iS,gC,and_true,go_sem,aC,aD,aE,Int.natCast_add,Int.cast_ofNat_Int]<;>(try trivial)<;>(try omega)<;>(try (repeat (first|trivial|(refine And.intro ?_ ?_)|(congr 1;omega)))))⟩
     ·dsimp only;rw[oR];simp;omega
     ·intro j o hj hne;dsimp only;rw[oR];exact kS j o (eN (g4 _ _ hj hne) _) hne
     ·dsimp only;rw[oR];exact kS _ _ (eN gl _) (by omega)
     ·dsimp only;rw[oR,List.getElem?_set_self (by simp;omega)]
     ·dsimp only;rw[hsc,oR];have:=Ou (S1:=S1++[aZ.cells [.bool c.any,.bool c.neg,.aO false ES (c.tests.map dH)]]) (L:=S.length+1) (k:=4) (c:= .cells [.own E1 (S1++[aZ.cells [.bool c.any,.bool c.neg,.aO false ES (c.tests.map dH)]]).length 1 0 1,.au]) (s:=a.1) (by simp;omega) (by simp;omega);simpa using this
   ·have sC:q≠4:=by omega
    repeat' first|simp (disch:=omega) only[go_sem,aC,aD,aE,e0,e1,e2,e3,gl,g5,De,hc]|refine aG ?_|with_reducible refine cA (aeA (eN g5 _) (eN HN _) sC (by omega) _ _) ?_|refine aF ?_ ?_<;>intro hw<;>try omega|fail
    rintro o s ⟨rfl,oR⟩;have y1:s[1]? = some (.cells [.str [],.au,.au,I 0,I 0,.au]):=by rw[oR];exact l8 _ _ (eN e1 _) (by omega) (by omega)
    have hs1:∀ d,(s.set 1 d)[1]? = some d:=fun d=>List.getElem?_set_self (ey y1);repeat' first|simp (disch:=omega) only[go_sem,aC,aD,aE,y1,hs1]|refine aG ?_|refine aF ?_ ?_<;>intro hw<;>try omega|fail
    ·rw[hce (by assumption)]at wW;rw[<-hE,wW (by assumption)];exact cK (tJ (zD _))
    ·have ha0:a.2=0:=by assumption
     refine⟨(m+1,s),⟨by omega,gP ha0,?_,?_,?_,.own E1 q (xs.length+1) 0 (xs.length+1),?_,?_⟩,by dsimp only;omega,rfl,da,(by simp only[ha0];simp (disch:=omega) only[iS,gC,and_true,go_sem,aC,aD,aE,Int.natCast_add,Int.cast_ofNat_Int]<;>(try trivial)<;>(try omega)<;>(try (repeat (first|trivial|(refine And.intro ?_ ?_)|(congr 1;omega)))))⟩
     ·dsimp only;rw[oR];simp;omega
     ·intro j o hj hne;dsimp only;have:=ey hj;rw[oR];exact l8 j o (eN (g4 _ _ hj hne) _) hne (by omega)
     ·dsimp only;rw[oR];exact l8 _ _ (eN gl _) (by omega) (by omega)
     ·dsimp only;rw[oR,List.getElem?_set_self (by simp;omega)]
     ·dsimp only;rw[hsc,oR];exact Rv (eN HN _) hq (Ne.symm sC)
  ·obtain rfl:m=l.cells.length:=by omega
   have agx:=fun {k:Nat}=>Yw t.ins.length g2 (m:=k);have agy:=aa3 t.ins.length g2;repeat' first|simp (disch:=omega) only[go_sem,aC,aD,aE,e0,e1,e2,e3,gl,g5,De]|refine aG ?_|refine aF ?_ ?_<;>intro hw<;>try omega|fail
   with_reducible refine bX [8,9,18,19,20,70,71,72,73,74,75,76,77,78,79,80,81,82,83,84,85,86,87,88,89,90,91] (fun q:Nat × ae=>[(70,I q.1),(9,I 0)]) (fun q=>q.2) (fun q=>q.1<=l.outs.length/\(∀ k,k<q.1->(oD l k).2=0)/\S1.length<=q.2.length/\(∀ j o,S1[j]? = some o->j≠4->q.2[j]? = some o)/\ ∃ y,q.2[4]? = some (.cells [x,y])/\tZ S1.length q.2 y (rI l q.1)) (fun q=>l.outs.length-q.1) (0,_) ⟨bJ _,fun k hk=>by omega,Nat.le_refl _,fun j o hj _=>hj,_,g5,tZ.nil _ _⟩ rfl ?_ ?_
   ·exact at_
   rintro⟨m,S2⟩ rr ⟨p1,p2,p3,p4,y,p5,p6⟩;dsimp only at p1 p2 p3 p4 p5 p6;have e0:=p4 _ _ e0 (by omega);have e1:=p4 _ _ e1 (by omega);have e2:=p4 _ _ e2 (by omega);have e3:=p4 _ _ e3 (by omega);have gl:=p4 _ _ gl (by omega);have hS2:S.length<S2.length:=by omega
   by_cases hml:m<l.outs.length
   ·have cT:aM aK 116 [bg (l.outs.getD m default)] (.bU [.str (oD l m).1,I (oD l m).2]):=EI _ (k4 _ (bH hml)).1 (k4 _ (bH hml)).2;have hsc:=Tx l m;have n6:=Dc l m;have hce:=agx hml p2;have gP:=fun he=>bP (q:=fun j=>(oD l j).2=0) p2 he;obtain⟨a,ha⟩:∃ a,oD l m=a:=⟨_,rfl⟩;rw[ha]at cT hsc hce gP;obtain⟨c,hc⟩:∃ c,l.outs.getD m default=c:=⟨_,rfl⟩;rw[hc,bG]at cT;obtain⟨xs,hxs⟩:∃ xs,rI l m=xs:=⟨_,rfl⟩;rw[hxs]at p6 hsc n6;rcases p6 with⟨rfl,rfl⟩|⟨hne,q,hq,rfl,HN⟩
    ·have e0':=fun d=>eN e0 d;repeat' first|simp (disch:=omega) only[go_sem,aC,aD,aE,e0,e0',e1,e2,e3,gl,p5,De,hc]|refine aG ?_|with_reducible refine cA (aez (eN p5 _) _ _) ?_|refine aF ?_ ?_<;>intro hw<;>try omega|fail
     rintro o s ⟨rfl,oR⟩;have y1:s[1]? = some (.cells [.str [],.au,.au,I 0,I 0,.au]):=by rw[oR];exact kS _ _ (eN e1 _) (by omega)
     have hs1:∀ d,(s.set 1 d)[1]? = some d:=fun d=>List.getElem?_set_self (ey y1);repeat' first|simp (disch:=omega) only[go_sem,aC,aD,aE,y1,hs1]|refine aG ?_|refine aF ?_ ?_<;>intro hw<;>try omega|fail
     ·rw[hce (by assumption)]at wW;rw[<-hE,wW (by assumption)];exact cK (tJ (zD _))
     ·have ha0:a.2=0:=by assumption
      refine⟨(m+1,s),⟨by omega,gP ha0,?_,?_,.own E1 (S2.length+1) 1 0 1,?_,?_⟩,by dsimp only;omega,rfl,da,(by simp only[ha0];simp (disch:=omega) only[iS,gC,and_true,go_sem,aC,aD,aE,Int.natCast_add,Int.cast_ofNat_Int]<;>(try trivial)<;>(try omega)<;>(try (repeat (first|trivial|(refine And.intro ?_ ?_)|(congr 1;omega)))))⟩
      ·dsimp only;rw[oR];simp;omega
      ·intro j o hj hne;dsimp only;rw[oR];exact kS j o (eN (p4 _ _ hj hne) _) hne
      ·dsimp only;rw[oR,List.getElem?_set_self (by simp;omega)]
      ·dsimp only;rw[hsc,oR];have:=Ou (S1:=S2++[aZ.cells [I c.op,I c.v.kind,I c.v.n,.str c.v.s,.str c.s,.aO false EX (c.l.map bg)]]) (L:=S1.length) (k:=4) (c:= .cells [x,.own E1 (S2++[aZ.cells [I c.op,I c.v.kind,I c.v.n,.str c.v.s,.str c.s,.aO false EX (c.l.map bg)]]).length 1 0 1]) (s:=a.1) (by simp;omega) (by simp;omega);simpa using this
    ·have sC:q≠4:=by omega
     have e0':=fun d=>eN e0 d;repeat' first|simp (disch:=omega) only[go_sem,aC,aD,aE,e0,e0',e1,e2,e3,gl,p5,De,hc]|refine aG ?_|with_reducible refine cA (aeB (eN p5 _) (eN HN _) sC (by omega) _ _) ?_|refine aF ?_ ?_<;>intro hw<;>try omega|fail
     rintro o s ⟨rfl,oR⟩;have y1:s[1]? = some (.cells [.str [],.au,.au,I 0,I 0,.au]):=by rw[oR];exact l8 _ _ (eN e1 _) (by omega) (by omega)
     have hs1:∀ d,(s.set 1 d)[1]? = some d:=fun d=>List.getElem?_set_self (ey y1);repeat' first|simp (disch:=omega) only[go_sem,aC,aD,aE,y1,hs1]|refine aG ?_|refine aF ?_ ?_<;>intro hw<;>try omega|fail
     ·rw[hce (by assumption)]at wW;rw[<-hE,wW (by assumption)];exact cK (tJ (zD _))
     ·have ha0:a.2=0:=by assumption
      refine⟨(m+1,s),⟨by omega,gP ha0,?_,?_,.own E1 q (xs.length+1) 0 (xs.length+1),?_,?_⟩,by dsimp only;omega,rfl,da,(by simp only[ha0];simp (disch:=omega) only[iS,gC,and_true,go_sem,aC,aD,aE,Int.natCast_add,Int.cast_ofNat_Int]<;>(try trivial)<;>(try omega)<;>(try (repeat (first|trivial|(refine And.intro ?_ ?_)|(congr 1;omega)))))⟩
      ·dsimp only;rw[oR];simp;omega
      ·intro j o hj hne;dsimp only;have:=ey hj;rw[oR];exact l8 j o (eN (p4 _ _ hj hne) _) hne (by omega)
      ·dsimp only;rw[oR,List.getElem?_set_self (by simp;omega)]
      ·dsimp only;rw[hsc,oR];exact Rv (eN HN _) hq (Ne.symm sC)
   ·obtain rfl:m=l.outs.length:=by omega
    have ac1:=agy p2;have ZK:tZ (S.length+1) S2 x (cg l l.cells.length):=g6.keep (Nat.le_refl _) (fun q ys hq HN=>p4 q _ HN (by omega));have hxs:=ZK.scalar;have hys:=p6.scalar;have Lf:Yx S2 (.agg [x,y]) ⟨cg l l.cells.length,rI l l.outs.length⟩:=⟨x,y,rfl,ZK.keep (bJ _) (fun _ _ _ h=>h),p6.keep (bJ _) (fun _ _ _ h=>h)⟩;have hfit:([AV.agg [x,y]].all fun a=>AV.fits ⟨true,2⟩ a)=true:=by simp only[AV.fits,List.length_cons,List.length_nil,List.all_cons,List.all_nil,hxs,hys];rfl
    have ZZ:AV.fits ⟨true,2⟩ (.agg [x,y])=true:=by simpa using hfit
    have hkS:∀ (q:Nat) (o:aZ),S[q]? = some o->q≠4->S2[q]? = some o:=fun q o hq hne=>p4 q o (g4 q o hq hne) hne;rcases h4 with⟨h4,rfl⟩|⟨h4,q,rs,hq,rfl,HN,hr⟩
    ·have hap:∀ d:aZ,(S2++[d])[3]? = some (Ot t .au):=fun d=>eN e3 d;repeat' first|simp (disch:=omega) only[go_sem,aC,aD,aE,e0,e1,e2,e3,p5,hap,hfit,ZZ,De]|refine aG ?_|refine aF ?_ ?_<;>intro hw<;>try omega|fail
     refine⟨(n+1,_),⟨by omega,bP (q:=fun j=>(mB t j).2.2=0) h2 (by rw[hrow,kZ,De,ac1]),?_,?_,?_,?_,⟨.own ER S2.length 1 0 1,?_,?_⟩,x,y,?_⟩,by dsimp only;omega,rfl,da,at_⟩
     ·dsimp only;simp;omega
     ·exact kS _ _ e0 (by omega)
     ·exact kS _ _ e1 (by omega)
     ·exact kS _ _ e2 (by omega)
     ·dsimp only;rw[List.getElem?_set_self (by simp;omega)]
     ·dsimp only;rw[qG,h4];refine .inr ⟨by simp,S2.length,[.agg [x,y]],by omega,rfl,?_,nj.keep (fun q ys hq=>kS _ _ hq (fun e=>by subst e;rw[e3]at hq;cases hq)) (nj.snoc (nj.nil S2) Lf)⟩;rw[List.getElem?_set_ne (by omega)];simp
     ·exact kS _ _ p5 (by omega)
    ·have hq3:q≠3:=by omega
     have e4:=hkS _ _ HN (by omega);rw[yu]at e3;have hrn:rs.length=n:=by rw[hr.1,yu]
     have hap:∀ d:aZ,(S2.set q d)[3]? = some (Ot t (.own ER q n 0 n)):=fun d=>by rw[List.getElem?_set_ne hq3];exact e3
     repeat' first|simp (disch:=omega) only[go_sem,aC,aD,aE,e0,e1,e2,e3,p5,hap,hfit,ZZ,e4,De,hrn]|refine aG ?_|refine aF ?_ ?_<;>intro hw<;>try omega|fail
     refine⟨(n+1,_),⟨by omega,bP (q:=fun j=>(mB t j).2.2=0) h2 (by rw[hrow,kZ,De,ac1]),?_,?_,?_,?_,⟨.own ER q (n+1) 0 (n+1),?_,?_⟩,x,y,?_⟩,by dsimp only;omega,rfl,da,at_⟩
     ·dsimp only;simp;omega
     ·exact l8 _ _ e0 (by omega) (by omega)
     ·exact l8 _ _ e1 (by omega) (by omega)
     ·exact l8 _ _ e2 (by omega) (by omega)
     ·dsimp only;rw[List.getElem?_set_self (by simp;omega)]
     ·dsimp only;rw[qG];have C7:nj S2 rs (ni t n):=hr.keep (fun q ys hq=>hkS _ _ hq (fun e=>by subst e;rw[f4]at hq;cases hq));refine .inr ⟨by simp,q,rs++[.agg [x,y]],hq,by simp[yu],?_,nj.keep (fun p ys hp=>l8 _ _ hp (fun e=>by subst e;rw[e3]at hp;cases hp) (fun e=>by subst e;rw[e4]at hp;cases hp)) (nj.snoc C7 Lf)⟩;rw[List.getElem?_set_ne (Ne.symm hq3),List.getElem?_set_self (ey e4)]
     ·exact l8 _ _ p5 (by omega) (by omega)
 ·obtain rfl:n=ls.length:=by omega
  have hva:([AV.str t.name,.aO false EC (t.ins.map bu),.aO false EC (t.outs.map bu),I t.aL,I t.agg,v].all AV.scalar)=true:=by simp only[List.all_cons,List.all_nil,hvs];rfl
  have hs1:∀ o,(S.set 1 o)[1]? = some o:=fun o=>List.getElem?_set_self (ey f1);repeat' first|simp (disch:=omega) only[go_sem,aC,aD,aE,f0,f1,f2,f3,hva,hs1]|refine aG ?_|refine aF ?_ ?_<;>intro hw<;>try omega|fail
  have h5:=h4.keep (S':=S.set 1 (Ot t v)) (fun q o hq hne=>by
   rw[List.getElem?_set_ne (fun e=>by subst e;rw[f1]at hq;cases hq;exact hne _ rfl)];exact hq)
  rw[<-hE,hco h2];exact cK (tJ (View.s5 (.cons (.refl _ rfl) (.cons (.refl _ (jC _)) (.cons (.refl _ (jC _)) (.cons (.refl _ rfl) (.cons (.refl _ rfl) (.cons h5.view (.nil _)))))))))
def A1{α : Type}[Inhabited α]{p : α->Bool}{l:List α}(h:∀ k,k<l.length->p (l.getD k default)=true): l.all p=true:=by
 rw[aX];intro x hx;obtain⟨i,hi,rfl⟩:=bz hx;have:=h i hi;rwa[aj,aN hi,bA]at this
def A2{α : Type}[Inhabited α]{p : α->Bool}{l:List α}{i:Nat}(hi:i<l.length)(h:p (l.getD i default)=false): l.all p=false:=by
 cases hq:l.all p with
 | false=>rfl
 | true=>rw[List.all_eq_true]at hq;rw[hq _ (bH hi)]at h;cases h
def JE(n:Nat)(s:aI): Bool:=decide (s.length<=n)
def Df(l:List aI): Bool:=decide (l.length<=10) && l.all (JE 300)
def EN(l:List aI): aM aK 34 [bM l] (.bool (Df l)):=by
 obtain⟨E,hE⟩:∃ E,Df l=E:=⟨_,rfl⟩;rw[hE];unfold Df at hE;simp only[bM];refine aR Jb ?_;intro Q aC aD aE;repeat' first|refine aG ?_|refine aF ?_ ?_<;>intro hw<;>try omega|fail
 ·refine aS ?_ rfl;rw[<-hE,decide_eq_false (by omega),gY]
 have h10:l.length<=10:=by omega
 rw[decide_eq_true h10,ew]at hE;with_reducible refine bX [2,3,7,8,9,10,11,12,13,14,15,16,17,18] (fun i:Nat=>[(3,I i)]) (fun _=>[]) (fun i=>i<=l.length/\ ∀ k,k<i->JE 300 (l.getD k default)=true) (fun i=>l.length-i) (0) ?_ ?_ ?_ ?_
 ·simp
 ·rfl
 ·exact at_
 rintro i r ⟨h1,h2⟩;by_cases hi:i<l.length
 ·have hne:=fun h=>A2 (p:=JE 300) hi h;have de:=fun he=>bP (q:=fun k=>JE 300 (l.getD k default)=true) h2 (i:=i) he;have hS:JE 300 (l.getD i default)=decide ((l.getD i default).length<=300):=rfl;rw[hS]at hne de;repeat' first|refine aG ?_|refine aF ?_ ?_<;>intro hw<;>try omega|fail
  all_goals first
   | exact bK
   |(refine aS ?_ rfl;rw[<-hE,hne (decide_eq_false (by omega))])
   | (refine ⟨i + 1, ?_, ?_, by first | rfl | (simp [go_sem]; done), da, at_⟩ <;> (try dsimp only)
      ·exact⟨by omega,de (decide_eq_true (by omega))⟩
      ·omega)
 ·repeat' first|refine aG ?_|refine aF ?_ ?_<;>intro hw<;>try omega|fail
  refine aS ?_ rfl;rw[<-hE,A1 (fun k hk=>h2 k (by omega))]
def D5(c:cV): Bool:=decide (c.name.length<=300)
def Dg(l:List cV): Bool:=decide (l.length<=12) && l.all D5
def Wc(l:List cV): aM aK 72 [cH l] (.bool (Dg l)):=by
 obtain⟨E,hE⟩:∃ E,Dg l=E:=⟨_,rfl⟩;rw[hE];unfold Dg at hE;simp only[cH];refine aR Eh ?_;intro Q aC aD aE;repeat' first|refine aG ?_|refine aF ?_ ?_<;>intro hw<;>try omega|fail
 ·refine aS ?_ rfl;rw[<-hE,decide_eq_false (by omega),gY]
 have h10:l.length<=12:=by omega
 rw[decide_eq_true h10,ew]at hE;with_reducible refine bX [2,3,7,8,9,10,11,12,13,14,15,16,17,18,19] (fun i:Nat=>[(3,I i)]) (fun _=>[]) (fun i=>i<=l.length/\ ∀ k,k<i->D5 (l.getD k default)=true) (fun i=>l.length-i) (0) ?_ ?_ ?_ ?_
 ·simp
 ·rfl
 ·exact at_
 rintro i r ⟨h1,h2⟩;by_cases hi:i<l.length
 ·have hne:=fun h=>A2 (p:=D5) hi h;have de:=fun he=>bP (q:=fun k=>D5 (l.getD k default)=true) h2 (i:=i) he;have hS:D5 (l.getD i default)=decide ((l.getD i default).name.length<=300):=rfl;rw[hS]at hne de;repeat' first|refine aG ?_|refine aF ?_ ?_<;>intro hw<;>try omega|fail
  all_goals first
   | exact bK
   |(refine aS ?_ rfl;rw[<-hE,hne (decide_eq_false (by omega))])
   | (refine ⟨i + 1, ?_, ?_, by first | rfl | (simp [go_sem]; done), da, at_⟩ <;> (try dsimp only)
      ·exact⟨by omega,de (decide_eq_true (by omega))⟩
      ·omega)
 ·repeat' first|refine aG ?_|refine aF ?_ ?_<;>intro hw<;>try omega|fail
  refine aS ?_ rfl;rw[<-hE,A1 (fun k hk=>h2 k (by omega))]
def pX(v:ez): Bool:=decide (v.s.length<=300)
def JF(c:cV): Bool:=decide (c.order.length<=12) && c.order.all pX
def A3(l:List cV): Bool:=Dg l && l.all JF
def EO(l:List cV): aM aK 33 [cH l] (.bool (A3 l)):=by
 have cf:=Wc l;obtain⟨E,hE⟩:∃ E,A3 l=E:=⟨_,rfl⟩;rw[hE];unfold A3 at hE;have h12:Dg l=true->l.length<=12:=fun h=>by simp only[Dg,aq,decide_eq_true_eq]at h;exact h.1
 simp only[cH]at cf ⊢;generalize Dg l=fe at *;refine aR Ja ?_;intro Q aC aD aE;cases fe with
 | false =>
   repeat' first|refine aG ?_|refine aF ?_ ?_<;>intro hw<;>try omega|fail
   all_goals first
    | exact bK
    |(refine aS ?_ rfl;rw[<-hE,gY])
 | true =>
   rw[ew]at hE;have h12:=h12 rfl;repeat' first|refine aG ?_|refine aF ?_ ?_<;>intro hw<;>try omega|fail
   all_goals first|exact bK|skip
   with_reducible refine bX [2,3,4,8,9,10,11,12,13,14,15,16,17,18,19,20,21,22,23,24,25,26,27,28,29,30,31,32,33,34,35,36,37,38,39,40,41] (fun i:Nat=>[(3,I i)]) (fun _=>[]) (fun i=>i<=l.length/\ ∀ k,k<i->JF (l.getD k default)=true) (fun i=>l.length-i) (0) ?_ ?_ ?_ ?_
   ·simp
   ·rfl
   ·exact at_
   rintro i r ⟨h1,h2⟩;by_cases hi:i<l.length
   ·have hne:=fun h=>A2 (p:=JF) hi h;have de:=fun he=>bP (q:=fun k=>JF (l.getD k default)=true) h2 (i:=i) he;have hS:JF (l.getD i default)=(decide ((l.getD i default).order.length<=12) && (l.getD i default).order.all pX):=rfl;rw[hS]at hne de;obtain⟨c,hc⟩:∃ c,l.getD i default=c:=⟨_,rfl⟩;rw[hc]at hne de;clear hS;repeat' first|simp (disch:=omega) only[go_sem,aC,aD,aE,hc]|refine aG ?_|refine aF ?_ ?_<;>intro hw<;>try omega|fail
    ·refine aS ?_ rfl;rw[<-hE,hne (by rw[decide_eq_false (by omega),gY])]
    have ho:c.order.length<=12:=by omega
    rw[decide_eq_true ho,ew]at hne de;with_reducible refine bX [2,4,21,22,23,24,25,26,27,28,29,30,31,32,33,34,35,36,37,38,39,40,41] (fun j:Nat=>[(4,I j)]) (fun _=>[]) (fun j=>j<=c.order.length/\ ∀ k,k<j->pX (c.order.getD k default)=true) (fun j=>c.order.length-j) (0) ?_ ?_ ?_ ?_
    ·simp
    ·rfl
    ·exact at_
    rintro j r2 ⟨g1,g2⟩;by_cases hj:j<c.order.length
    ·have ac2:=fun h=>A2 (p:=pX) hj h;have kg:=fun he=>bP (q:=fun k=>pX (c.order.getD k default)=true) g2 (i:=j) he;have hS:pX (c.order.getD j default)=decide ((c.order.getD j default).s.length<=300):=rfl;rw[hS]at ac2 kg;repeat' first|simp (disch:=omega) only[go_sem,aC,aD,aE,hc]|refine aG ?_|refine aF ?_ ?_<;>intro hw<;>try omega|fail
     all_goals first
      | exact bK
      |(refine aS ?_ rfl;rw[<-hE,hne (ac2 (decide_eq_false (by omega)))])
      | (refine ⟨j + 1, ?_, ?_, by first | rfl | (simp [go_sem]; done), da, at_⟩ <;> (try dsimp only)
         ·exact⟨by omega,kg (decide_eq_true (by omega))⟩
         ·omega)
    ·repeat' first|simp (disch:=omega) only[go_sem,aC,aD,aE,hc]|refine aG ?_|refine aF ?_ ?_<;>intro hw<;>try omega|fail
     refine⟨i+1,?_,?_,by first|rfl|(simp[go_sem];done),da,at_⟩<;>(try dsimp only)
     ·exact⟨by omega,de (A1 (fun k hk=>g2 k (by omega)))⟩
     ·omega
   ·repeat' first|refine aG ?_|refine aF ?_ ?_<;>intro hw<;>try omega|fail
    refine aS ?_ rfl;rw[<-hE,A1 (fun k hk=>h2 k (by omega))]
def JG(r:eL): Bool:=Df r.cells && Df r.outs
def vz(t:Table): Bool:=decide (t.name.length<=300) && decide (t.rules.length<=26) && A3 t.ins && A3 t.outs && t.rules.all JG
def Qi(t:Table): aM aK 17 [dS t] (.bool (vz t)):=by
 have ci:=EO t.ins;have co:=EO t.outs;obtain⟨E,hE⟩:∃ E,vz t=E:=⟨_,rfl⟩;rw[hE];unfold vz at hE;simp only[dS,gQ,cH,eA]at ci co ⊢;generalize A3 t.ins=oi at *;generalize A3 t.outs=oo at *;refine aR FE ?_;intro Q aC aD aE;by_cases hb:(decide (t.name.length<=300) && decide (t.rules.length<=26) && oi && oo)=true
 case neg =>
  simp only[Bool.not_eq_true]at hb;rw[hb,gY]at hE;cases oi<;>cases oo
  all_goals
   repeat' first|refine aG ?_|refine aF ?_ ?_<;>intro hw<;>try omega|fail
  all_goals first
   | exact bK
   |(refine aS ?_ rfl;rw[<-hE])
   |(exfalso;simp at hb;omega)
 rw[hb,ew]at hE;simp only[aq,decide_eq_true_eq]at hb;obtain⟨⟨⟨b1,b2⟩,rfl⟩,rfl⟩:=hb;repeat' first|refine aG ?_|refine aF ?_ ?_<;>intro hw<;>try omega|fail
 all_goals first|exact bK|skip
 with_reducible refine bX [2,3,26,27,28,29,30,31,32,33,34,35,36,37,38,39,40,41,42,43,44,45,46,47,48,49,50] (fun i:Nat=>[(3,I i)]) (fun _=>[.cells [.str t.name,.aO false EC (t.ins.map bu),.aO false EC (t.outs.map bu),I t.aL,I t.agg,.aO false ER (t.rules.map cu)]]) (fun i=>i<=t.rules.length/\ ∀ k,k<i->JG (t.rules.getD k default)=true) (fun i=>t.rules.length-i) (0) ?_ ?_ ?_ ?_
 ·simp
 ·rfl
 ·exact at_
 rintro i r ⟨h1,h2⟩;by_cases hi:i<t.rules.length
 ·have hne:=fun h=>A2 (p:=JG) hi h;have de:=fun he=>bP (q:=fun k=>JG (t.rules.getD k default)=true) h2 (i:=i) he;have hS:JG (t.rules.getD i default)=(Df (t.rules.getD i default).cells && Df (t.rules.getD i default).outs):=rfl;have c1:=EN (t.rules.getD i default).cells;have c2:=EN (t.rules.getD i default).outs;rw[hS]at hne de;simp only[bM]at c1 c2;generalize Df (t.rules.getD i default).cells=u1 at *;generalize Df (t.rules.getD i default).outs=u2 at *;cases u1<;>cases u2
  all_goals
   repeat' first|refine aG ?_|refine aF ?_ ?_<;>intro hw<;>try omega|fail
  all_goals first
   | exact bK
   |(refine aS ?_ rfl;rw[<-hE,hne rfl])
   | (refine ⟨i + 1, ?_, ?_, by first | rfl | (simp [go_sem]; done), da, at_⟩ <;> (try dsimp only)
      ·exact⟨by omega,de rfl⟩
      ·omega)
 ·repeat' first|refine aG ?_|refine aF ?_ ?_<;>intro hw<;>try omega|fail
  refine aS ?_ rfl;rw[<-hE,A1 (fun k hk=>h2 k (by omega))]
set_option maxRecDepth 8000
def Ow(v:ez): Prop:= -9223372036854775808<=v.n/\v.n<=9223372036854775807
def TA(l:List cV): Prop:= ∀ c ∈ l,∀ v ∈ c.order,Ow v
def FC(t:Table): Prop:=TA t.ins/\TA t.outs
def Rw{l:List cV}(h:A3 l=true)(hr:TA l): l.length<=12/\ ∀ c ∈ l,tI c:=by
 simp only[A3,Dg,aq,decide_eq_true_eq,aX]at h;obtain⟨⟨h1,h2⟩,h3⟩:=h;refine⟨h1,fun c hc=>?_⟩;have a:=h2 c hc;have b:=h3 c hc;simp only[D5,JF,aq,decide_eq_true_eq,aX]at a b;refine⟨by omega,by omega,fun v hv=>⟨hr c hc v hv,?_⟩⟩;have:=b.2 v hv;simp only[pX,decide_eq_true_eq]at this;omega
def Ox{l:List aI}(h:Df l=true): l.length<=10/\ ∀ s ∈ l,s.length<=300:=by
 simp only[Df,aq,decide_eq_true_eq,aX]at h;exact⟨h.1,fun s hs=>by have:=h.2 s hs;simpa[JE]using this⟩
def Yz{t:Table}(h:vz t=true)(hr:FC t): j8 t:=by
 simp only[vz,aq,decide_eq_true_eq,aX]at h;obtain⟨⟨⟨⟨h1,h2⟩,h3⟩,h4⟩,h5⟩:=h;have ci:=Rw h3 hr.1;have co:=Rw h4 hr.2;refine⟨by omega,⟨by omega,ci.2⟩,⟨by omega,co.2⟩,by omega,fun r Vd=>?_⟩;have:=h5 r Vd;simp only[JG,aq]at this;have a:=Ox this.1;have b:=Ox this.2;exact⟨⟨by omega,fun s hs=>by have:=a.2 s hs;omega⟩,by omega,fun s hs=>by have:=b.2 s hs;omega⟩
def rU{α : Type}{p : α-> α->Bool}(l:List α)(h:∀ x ∈ l,p x x=true): gV p l l=true:=by
 induction l with
 | nil=>rfl
 | cons x l ih=>simp only[gV,h x (by simp),ew];exact ih (fun y hy=>h y (bI _ hy))
def xy(t:Table): iF t t=true:=by
 have hc:∀ l:List cV,gV iq l l=true:=fun l=>rU l (fun c _=>by
  unfold iq;rw[rU c.order (fun v _=>by simp)];simp)
 have hr:∀ l:List eL,gV jW l l=true:=fun l=>rU l (fun r _=>by
  unfold jW;rw[rU r.cells (fun v _=>by simp),rU r.outs (fun v _=>by simp)];rfl)
 unfold iF;rw[hc,hc,hr];simp
def Rx{l:List cV}(h:l.length<=2 ^ 30/\ ∀ c ∈ l,tI c): Db l:=⟨by omega,fun c hc=>(h.2 c hc).2.1⟩
def zE{t:Table}(h:j8 t): AZ t:=⟨Rx h.2.1,Rx h.2.2.1,by have:=h.2.2.2.1;omega,fun r hr=>by
 have:=h.2.2.2.2 r hr;exact⟨by omega,by omega⟩⟩
def JH: AZ iD:=⟨⟨by decide,fun c hc=>(by cases hc)⟩,⟨by decide,fun c hc=>(by cases hc)⟩,by decide,fun c hc=>(by cases hc)⟩
def Oy{t:Table}(h:j8 t): AZ (fB t).1:=by
 by_cases he:(eM t).2.2.2=0
 ·unfold fB;rw[if_neg (by omega)];split
  ·exact JH
  ·obtain⟨a,b,c,d⟩:=zE h;obtain⟨h1,h2⟩:=EL h he;refine⟨a,b,?_,fun r hr=>?_⟩
   ·dsimp only;rw[yu];omega
   ·obtain⟨k,_,rfl⟩:=cy.1 hr;have hk:=h2 k;unfold mB;rw[HM];refine⟨?_,?_⟩
    ·dsimp only;rw[A0];have:=hk.1.1;omega
    ·dsimp only;rw[Dc];have:=hk.2.1;omega
 ·rw[y3 he];exact JH
