/- Part. -/
import Derived.Test.YtmbgnaoilncbnaaGreatDoorX34
set_option linter.all false
set_option maxHeartbeats 4000000
namespace Go.Proofs.YtmbgnaoilncbnaaGreatDoor
open Go.AM
set_option maxRecDepth 4000
def eB(p:aJ × Int): AV:= .bX [.str p.1,I p.2]
abbrev agw(t:Table): aX:= .cells [.str t.name,.aK false EC (t.ins.map bE),.aK false EC (t.outs.map bE),I t.bA,I t.agg,.aK false ER (t.rules.map cN)]
set_option maxHeartbeats 1000000 in
def DZ(t:Table)(ok:mh t): ai Tryz.prog pH [bS t] (eB (ez t)):=by
 obtain⟨E,hE⟩:∃ E,ez t=E:=⟨_,rfl⟩;rw[hE];unfold ez at hE;have c1:=WO t ok;have c2:=FF (iK t).1 t (WS ok) (Ao ok);have hb:=fun h=>acj ok h;obtain⟨C,hC⟩:∃ C,iK t=C:=⟨_,rfl⟩;rw[hC]at c1 c2 hE hb;obtain⟨C,m1,m2,e⟩:=C;dsimp only at hE c2 hb;simp only[Ze,bS,dy,bB,cW]at c1 c2 ⊢;by_cases he:e≠0
 ·rw[if_pos he]at hE;refine ai.aG (xH (by simp) ?_) (by simp[eB]);unfold ue aP;intro Q au aA aB;repeat' first|refine aq ?_|refine aC c1 ?_|refine ak ?_ ?_<;>intro hw<;>try omega|fail
  all_goals first|exact aY|exact aT (by rw[<-hE]) rfl
 rw[if_neg he]at hE;obtain rfl:e=0:=by omega
 cases hs:iX C t with
 | false =>
   rw[hs]at hE c2;rw[if_pos rfl]at hE;refine ai.aG (xH (by simp) ?_) (by simp[eB]);unfold ue aP;intro Q au aA aB;repeat' first|refine aq ?_|refine aC c1 ?_|refine aC c2 ?_|refine ak ?_ ?_<;>intro hw<;>try omega|fail
   all_goals first|exact aY|exact aT (by rw[<-hE]) rfl
 | true =>
 rw[hs]at hE c2;rw[if_neg (by simp),Pa]at hE;have h:=hb rfl;have hl:=L0 h;have hd:Cg t=bC t.name++cG t.bA++cG t.agg++(kU false t.ins++kU true t.outs++cG t.rules.length):=by unfold Cg;simp only[List.append_assoc]
 obtain⟨b1,b2,b3,b4,b5,b6,b7⟩:=h;have k1:=qO t.name (by omega);have k2:=jw t.bA b2;have k3:=jw t.agg b3;have k4:=G1 t.ins false qz b4.1 b4.2 (fun c _=>SB c);have k5:=G1 t.outs true tW b5.1 b5.2 (fun c hc=>W5 c (b5.2 c hc));have k6:=jw t.rules.length ⟨by omega,by omega⟩;generalize Cg t=x at *;generalize bC t.name=u1 at *;generalize cG t.bA=u2 at *;generalize cG t.agg=u3 at *;generalize kU false t.ins=u4 at *;generalize kU true t.outs=u5 at *;generalize cG t.rules.length=u6 at *;have hdl:=congrArg List.length hd;simp only[List.length_append]at hdl;have a1:=tQ (a:=u1.length) (b:=u2.length) (by omega);have a2:=tQ (a:=(u1++u2).length) (b:=u3.length) (by simp only[List.length_append];omega);have a3:=tQ (a:=u4.length) (b:=u5.length) (by omega);have a4:=tQ (a:=(u4++u5).length) (b:=u6.length) (by simp only[List.length_append];omega);have a5:=tQ (a:=(u1++u2++u3).length) (b:=(u4++u5++u6).length) (by simp only[List.length_append];omega);have hd':=hd.symm;clear hd;simp only[bB]at k4 k5;refine ai.aG (xH (by simp) ?_) (by simp[eB]);unfold ue aP;intro Q au aA aB;repeat' first|simp (disch:=omega) only[go_sem,au,aA,aB,a1,a2,a3,a4,a5,hd']|refine aq ?_|refine aC c1 ?_|refine aC c2 ?_|refine aC k1 ?_|refine aC k2 ?_|refine aC k3 ?_|refine aC k4 ?_|refine aC k5 ?_|refine aC k6 ?_|refine ak ?_ ?_<;>intro hw<;>try omega|fail
 all_goals first|exact aY|skip
 with_reducible refine bn [8,10,55,56,57,58,59,60,61,62,63,64,65,66,67,68] (fun q:Nat × List aX=>[(55,I q.1),(8,.str (x++(t.rules.take q.1).flatMap gV))]) (fun q=>agw t::agw C::q.2) (fun q=>q.1<=t.rules.length/\x.length+((t.rules.take q.1).flatMap gV).length<=17179869184+q.1*12884902008) (fun q=>t.rules.length-q.1) ((0,[])) ?_ ?_ ?_ ?_
 ·simp;omega
 ·rfl
 ·simp only[eU,eM,List.append_nil];simp (disch:=omega) only[dm,cK,and_true,go_sem,au,aA,aB,Int.natCast_add,Int.cast_ofNat_Int]<;>(try trivial)<;>(try omega)<;>(try (repeat (first|trivial|(refine And.intro ?_ ?_)|(congr 1;omega))))
 rintro⟨i,τ⟩ r ⟨g1,g3⟩;dsimp only at g1 g3;by_cases hi:i<t.rules.length
 ·have hr:=b7 _ (a_ hi);have gH:=zw gV hi x;obtain⟨ru,Lh⟩:∃ c,t.rules.getD i default=c:=⟨_,rfl⟩;rw[Lh]at hr gH;have hrl:=L4 hr;obtain⟨y,hy⟩:∃ y,x++(t.rules.take i).flatMap gV=y:=⟨_,rfl⟩;have zP:y.length=x.length+((t.rules.take i).flatMap gV).length:=by rw[<-hy,List.length_append]
  have o9:=congrArg List.length gH;rw[hy]at gH;simp only[List.length_append]at o9;have hrd:gV ru=ru.cells.flatMap bC++ru.outs.flatMap bC:=rfl;have d1:=LZ ru.cells hr.1;have d2:=LZ ru.outs hr.2;have f1:=wS hr.1;have f2:=wS hr.2;generalize ru.cells.flatMap bC=v1 at *;generalize ru.outs.flatMap bC=v2 at *;have e1:=tQ (a:=v1.length) (b:=v2.length) (by omega);have e2:=tQ (a:=y.length) (b:=(v1++v2).length) (by simp only[List.length_append];omega);simp only[eR]at d1 d2;repeat' first|simp (disch:=omega) only[go_sem,au,aA,aB,Lh,hy,e1,e2]|refine aq ?_|refine aC d1 ?_|refine aC d2 ?_|refine ak ?_ ?_<;>intro hw<;>try omega|fail
  refine⟨(i+1,τ++[aX.cells [.aK false E1 (ru.cells.map cS),.aK false E1 (ru.outs.map cS)]]),?_,?_,?_,bJ,?_⟩
  ·dsimp only;omega
  ·dsimp only;omega
  ·first|rfl|(simp[go_sem];done)
  ·dsimp only;rw[gH,hrd];simp (disch:=omega) only[dm,cK,and_true,go_sem,au,aA,aB,Int.natCast_add,Int.cast_ofNat_Int]<;>(try trivial)<;>(try omega)<;>(try (repeat (first|trivial|(refine And.intro ?_ ?_)|(congr 1;omega))))
 ·have ht:t.rules.take i=t.rules:=br (by omega);rw[ht]at g3;have hxl:(x++t.rules.flatMap gV).length=x.length+(t.rules.flatMap gV).length:=List.length_append;by_cases kA:1400<(x++t.rules.flatMap gV).length
  ·rw[if_pos kA]at hE;obtain⟨z,hz⟩:∃ z,x++t.rules.flatMap gV=z:=⟨_,rfl⟩;rw[hz]at kA hxl;repeat' first|simp (disch:=omega) only[go_sem,au,aA,aB,ht,hz]|refine aq ?_|refine ak ?_ ?_<;>intro hw<;>try omega|fail
   exact aT (by rw[<-hE]) rfl
  ·rw[if_neg kA]at hE;obtain⟨z,hz⟩:∃ z,x++t.rules.flatMap gV=z:=⟨_,rfl⟩;rw[hz]at kA hxl hE;repeat' first|simp (disch:=omega) only[go_sem,au,aA,aB,ht,hz]|refine aq ?_|refine ak ?_ ?_<;>intro hw<;>try omega|fail
   exact aT (by rw[<-hE]) rfl
def FO(t:Table)(ok:mh t): ai Tryz.prog qU [bS t] (eB (ez t)):=by
 obtain⟨E,hE⟩:∃ E,ez t=E:=⟨_,rfl⟩;rw[hE];unfold ez at hE;have c1:=X8 t ok;have c2:=Q0 (iK t).1 t (WS ok) (Ao ok);have hb:=fun h=>acj ok h;obtain⟨C,hC⟩:∃ C,iK t=C:=⟨_,rfl⟩;rw[hC]at c1 c2 hE hb;obtain⟨C,m1,m2,e⟩:=C;dsimp only at hE c2 hb;simp only[Ze,bS,dy,bB,cW]at c1 c2 ⊢;by_cases he:e≠0
 ·rw[if_pos he]at hE;refine ai.aG (uf (by simp) ?_) (by simp[eB]);unfold q9 aP;intro Q au aA aB;repeat' first|refine aq ?_|refine aC c1 ?_|refine ak ?_ ?_<;>intro hw<;>try omega|fail
  all_goals first|exact aY|exact aT (by rw[<-hE]) rfl
 rw[if_neg he]at hE;obtain rfl:e=0:=by omega
 cases hs:iX C t with
 | false =>
   rw[hs]at hE c2;rw[if_pos rfl]at hE;refine ai.aG (uf (by simp) ?_) (by simp[eB]);unfold q9 aP;intro Q au aA aB;repeat' first|refine aq ?_|refine aC c1 ?_|refine aC c2 ?_|refine ak ?_ ?_<;>intro hw<;>try omega|fail
   all_goals first|exact aY|exact aT (by rw[<-hE]) rfl
 | true =>
 rw[hs]at hE c2;rw[if_neg (by simp)]at hE;have h:=hb rfl;have c3:=aaZ t h;have hl:=L0 h;have hfl:=W4 (f:=gV) (l:=t.rules) (fun r hr=>L4 (h.2.2.2.2.2.2 r hr));have h24:=h.2.2.2.2.2.1;have hlen:(vY t).length=(Cg t).length+(t.rules.flatMap gV).length:=by rw[Pa,List.length_append]
 generalize vY t=z at *;simp only[bS,dy,bB,cW]at c3;by_cases kA:1400<z.length
 ·rw[if_pos kA]at hE;refine ai.aG (uf (by simp) ?_) (by simp[eB]);unfold q9 aP;intro Q au aA aB;repeat' first|refine aq ?_|refine aC c1 ?_|refine aC c2 ?_|refine aC c3 ?_|refine ak ?_ ?_<;>intro hw<;>try omega|fail
  all_goals first|exact aY|exact aT (by rw[<-hE]) rfl
 ·rw[if_neg kA]at hE;refine ai.aG (uf (by simp) ?_) (by simp[eB]);unfold q9 aP;intro Q au aA aB;repeat' first|refine aq ?_|refine aC c1 ?_|refine aC c2 ?_|refine aC c3 ?_|refine ak ?_ ?_<;>intro hw<;>try omega|fail
  all_goals first|exact aY|exact aT (by rw[<-hE]) rfl
def iI(s:aJ)(b:Bool): List AV:=[.str s,.bool b]
def uw(s:aJ)(b:Bool): AV.cy (iI s b)=true:=rfl
def yn(s:aJ)(b:Bool)(hs:s.length<=2 ^ 60): bj Tryz.prog iO 0 [] (iI s b) (iI (ij s b).2.1 (ij s b).2.2) (I (ij s b).1):=by
 have c:=oz s (by omega);unfold ij;generalize takeN s=t at *;obtain⟨n,r,e⟩:=t;simp only[eN]at c;refine bj.bV (Hz (by simp) ?_) rfl (uw _ _);unfold yx aP;intro Q au aA aB;cases b<;>simp only[iI]
 all_goals
  repeat' first|refine aq ?_|refine aC c ?_|refine ak ?_ ?_<;>intro hw<;>try omega|fail
 all_goals first|exact aY|(refine bR (View.eqv rfl rfl) (aW.eqv ?_ rfl);simp[iI];done)|(refine bR (View.eqv rfl rfl) (aW.eqv ?_ rfl);simp_all[bne,iI];done)
def FP(s:aJ)(b:Bool)(hs:s.length<=2 ^ 60): bj Tryz.prog kq 0 [] (iI s b) (iI (fM s b).2.1 (fM s b).2.2) (.str (fM s b).1):=by
 have c:=uv s 1400 (by omega);unfold fM;generalize cj s 1400=t at *;obtain⟨n,r,e⟩:=t;simp only[eS]at c;refine bj.bV (Gc (by simp) ?_) rfl (uw _ _);unfold xJ aP;intro Q au aA aB;cases b<;>simp only[iI]
 all_goals
  repeat' first|refine aq ?_|refine aC c ?_|refine ak ?_ ?_<;>intro hw<;>try omega|fail
 all_goals first|exact aY|(refine bR (View.eqv rfl rfl) (aW.eqv ?_ rfl);simp[iI];done)|(refine bR (View.eqv rfl rfl) (aW.eqv ?_ rfl);simp_all[bne,iI];done)
def aa0(s:aJ)(b:Bool)(hs:s.length<=2 ^ 30): bj Tryz.prog nK 0 [] (iI s b) (iI (pZ (some 8) s b).2.1 (pZ (some 8) s b).2.2) (cH (pZ (some 8) s b).1):=by
 have c:=JC s 8 hs;unfold pZ;dsimp only;generalize ig s 8=t at *;obtain⟨n,r,e⟩:=t;simp only[qP,cH]at c ⊢;refine bj.bV (HD (by simp) ?_) rfl (uw _ _);unfold yy aP;intro Q au aA aB;cases b<;>simp only[iI]
 all_goals
  repeat' first|refine aq ?_|refine aC c ?_|refine ak ?_ ?_<;>intro hw<;>try omega|fail
 all_goals first|exact aY|(refine bR (View.eqv rfl (by simp)) (aW.eqv ?_ rfl);simp[iI];done)|(refine bR (View.eqv rfl (by simp)) (aW.eqv ?_ rfl);simp_all[bne,iI];done)
def Yj(s:aJ)(b:Bool): bj Tryz.prog mO 0 [] (iI s b) (iI (pZ none s b).2.1 (pZ none s b).2.2) (cH (pZ none s b).1):=by
 refine bj.bV (Gd (by simp) ?_) rfl (uw _ _);unfold xK aP;intro Q au aA aB;simp only[iI];repeat' first|refine aq ?_|refine ak ?_ ?_<;>intro hw<;>try omega|fail
 exact bR (View.ae _) (aW.refl rfl)
def JF(k:Nat)(s:aJ)(b:Bool)(hk:k<=2 ^ 20)(hs:s.length<=2 ^ 30): bj Tryz.prog lZ 0 [I k] (iI s b) (iI (eO k [] s b).2.1 (eO k [] s b).2.2) (eR (eO k [] s b).1):=by
 obtain⟨E,hE⟩:∃ E,eO k [] s b=E:=⟨_,rfl⟩;rw[hE];refine bj.bV (Fp (by simp) ?_) rfl (uw _ _);unfold wE aP;intro Q au aA aB;repeat' first|refine aq ?_|refine ak ?_ ?_<;>intro hw<;>try omega|fail
 with_reducible refine bn [5,7,8,9,10,11,12,13,14] (fun q:Nat × List aJ × aJ × Bool=>[(7,I q.1),(5,.own E1 1 q.2.1.length 0 q.2.1.length)]) (fun q=>[.cells (iI q.2.2.1 q.2.2.2),.vec E1 (q.2.1.map cS)]) (fun q=>q.1<=k/\q.2.1.length=q.1/\q.2.2.1.length<=s.length/\E=eO (k-q.1) q.2.1 q.2.2.1 q.2.2.2) (fun q=>k-q.1) ((0,[],s,b)) ?_ ?_ ?_ ?_
 ·exact⟨by omega,rfl,by simp,hE.symm⟩
 ·rfl
 ·exact at_
 rintro⟨i,out,s1,b1⟩ u ⟨g1,g2,g3,g4⟩;dsimp only at g1 g2 g3 g4;by_cases hi:i<k
 ·obtain⟨j,hj⟩:∃ j,k-i=j+1:=⟨k-i-1,by omega⟩;rw[hj,eO]at g4;have c:=FP s1 b1 (by omega);have hl:=qp s1 b1;generalize fM s1 b1=t at *;obtain⟨x,r,b2⟩:=t;dsimp only at g4 hl;simp only[iI]at c ⊢;repeat' first|refine aq ?_|refine bh c ?_|refine ak ?_ ?_<;>intro hw<;>try omega|fail
  refine⟨(i+1,out++[x],r,b2),?_,?_,?_,bJ,?_⟩
  ·have e:k-(i+1)=j:=by omega
   dsimp only;rw[e];exact⟨by omega,by simp[g2],by omega,g4⟩
  ·dsimp only;omega
  ·first|rfl|(simp[go_sem,iI];done)
  ·dsimp only;simp only[List.length_append,List.length_singleton,g2];simp (disch:=omega) only[dm,cK,and_true,go_sem,au,aA,aB,Int.natCast_add,Int.cast_ofNat_Int]<;>(try trivial)<;>(try omega)<;>(try (repeat (first|trivial|(refine And.intro ?_ ?_)|(congr 1;omega))))
 ·have e:k-i=0:=by omega
  rw[e,eO]at g4;simp only[iI];repeat' first|refine aq ?_|refine ak ?_ ?_<;>intro hw<;>try omega|fail
  rw[g4];exact bR (View.vec rfl (by simp) (by simp) (GI _)) (aW.refl rfl)
def L5 (o : Option Int) (F : FuncId) (s : aJ) (b : Bool) (hs : s.length <= 2 ^ 29) (hF : ∀ s b, s.length <= 2 ^ 29 -> bj Tryz.prog F 0 [] (iI s b) (iI (pZ o s b).2.1 (pZ o s b).2.2) (cH (pZ o s b).1)) :
    Kl Tryz.prog kR (iI s b) (iI (fH o s b).2.1 (fH o s b).2.2) (bB (fH o s b).1) F:=by
 obtain⟨E,hE⟩:∃ E,fH o s b=E:=⟨_,rfl⟩;rw[hE];unfold fH at hE;have c1:=yn s b (by omega);have hn:=lB s b;generalize ij s b=t at *;obtain⟨n,s0,b0⟩:=t;dsimp only at hE hn;simp only[iI]at c1;refine Kl.bV (Df (by simp) ?_) (uw _ _);unfold uC aP;intro Q au aA aB;simp only[iI];repeat' first|refine aq ?_|refine bh c1 ?_|refine ak ?_ ?_<;>intro hw<;>try omega|fail
 with_reducible refine bn [5,7,10,11,12,13,14,15,16,17,18,19,20,21,22,23,24,25,26,27,28,29,30,31,32,33] (fun q:List cI × aJ × Bool × List aX=>[(5,.own EC 1 q.1.length 0 q.1.length)]) (fun q=> .cells [.str q.2.1,.bool q.2.2.1]:: .vec EC (q.1.map bE)::q.2.2.2) (fun q=>q.1.length+q.2.1.length+(if q.2.2.1 then 0 else 1)<=2 ^ 29+1/\E=kV o (n.toNat-q.1.length) q.1 q.2.1 q.2.2.1) (fun q=>n.toNat-q.1.length) (([],s0,b0,[])) ?_ ?_ ?_ ?_
 ·refine⟨?_,by simpa using hE.symm⟩;dsimp only;split<;>simp<;>omega
 ·rfl
 ·exact at_
 rintro⟨out,s1,b1,τ⟩ u ⟨g1,g2⟩;dsimp only at g1 g2;by_cases hgo:(out.length:Int)<n/\b1=false
 ·obtain⟨hlt,rfl⟩:=hgo;obtain⟨j,hj⟩:∃ j,n.toNat-out.length=j+1:=⟨n.toNat-out.length-1,by omega⟩;rw[hj,kV,if_neg (by simp)]at g2;simp only[Bool.false_eq_true,if_false]at g1;have ff:=O5 o s1 false;unfold n7 at g2 ff;have c2:=FP s1 false (by omega);have hl:=qp s1 false;generalize fM s1 false=t at *;obtain⟨x,s2,b2⟩:=t;dsimp only at g2 hl ff;have c3:=yn s2 b2 (by omega);have pX:=lB s2 b2;generalize ij s2 b2=t at *;obtain⟨kd,s3,b3⟩:=t;dsimp only at g2 pX ff;have c4:=hF s3 b3 (by omega);generalize pZ o s3 b3=t at *;obtain⟨l,s4,b4⟩:=t;dsimp only at g2 ff;simp only[iI,cH]at c2 c3 c4;repeat' first|refine aq ?_|refine bh c2 ?_|refine bh c3 ?_|refine bh c4 ?_|refine ak ?_ ?_<;>intro hw<;>try omega|fail
  all_goals first|exact aY|skip
  refine⟨(out++[⟨x,kd,l⟩],s4,b4,τ++[aX.cells [.str x,I kd,.aK false EV (l.map iJ)]]),?_,?_,?_,bJ,?_⟩
  ·have e:n.toNat-(out++[(⟨x,kd,l⟩:cI)]).length=j:=by simp;omega
   dsimp only;rw[e];refine⟨?_,g2⟩;rw[List.length_append,List.length_singleton];cases b4 with
   | true=>simp;omega
   | false=>have:=ff.2 rfl;simp;omega
  ·simp;omega
  ·first|rfl|(simp[go_sem];done)
  ·dsimp only;simp only[List.length_append,List.length_singleton];simp (disch:=omega) only[dm,cK,and_true,go_sem,au,aA,aB,Int.natCast_add,Int.cast_ofNat_Int]<;>(try trivial)<;>(try omega)<;>(try (repeat (first|trivial|(refine And.intro ?_ ?_)|(congr 1;omega))))
 ·have W7 : E = (out, s1, b1) := by
   rw[g2];cases hk:n.toNat-out.length with
   | zero=>rw[kV]
   | succ j =>
     rw[kV,if_pos];cases b1 with
     | true=>rfl
     | false=>exact absurd ⟨by omega,rfl⟩ hgo
  cases b1
  all_goals
   repeat' first|refine aq ?_|refine ak ?_ ?_<;>intro hw<;>try omega|fail
  all_goals first
   | exact aY
   |(exfalso;refine hgo ⟨?_,rfl⟩;omega)
   |(rw[W7];exact bR (View.vec rfl (by simp) (by simp) (tf _)) (aW.refl rfl))
def qQ(p:Table × Int): AV:= .bX [bS p.1,I p.2]
def Rf(z:Bool){s:aJ}(h:1400<s.length): fX z s=(bM,5):=by unfold fX;rw[if_pos h]
def adQ{s:aJ}(h:s.length<=1400): fX false s=if(iU false s).2.2=true\/ez (iU false s).1≠(s,0)then (bM,4)else ((iU false s).1,0):=by
 unfold fX;rw[if_neg (by omega)];simp
def fN{σ : aj}{a E:AV}{n:Int}(h:View σ a E): aW σ [a,I n] [E,I n]:= .cons h (.cons (.refl _ rfl) (.nil _))
def rv(l:List dO): AV:=match l with
 | []=> .ae
 | _=> .own ER 3 l.length 0 l.length
def W8(l:List dO): List aX:=match l with
 | []=>[]
 | _=>[.vec ER (l.map cN)]
abbrev o0T: aX:= .cells [.str [],.ae,.ae,I 0,I 0,.ae]
abbrev L6(nm:aJ)(ins outs:List cI)(p g:Int)(v:AV): aX:= .cells [.str nm,.aK false EC (ins.map bE),.aK false EC (outs.map bE),I p,I g,v]
set_option maxHeartbeats 2000000 in
def W9(s:aJ): ai Tryz.prog yT [.str s] (qQ (fX false s)):=by
 by_cases kA:1400<s.length
 ·rw[Rf false kA];refine ai.aG (Et (by simp) ?_) (by simp[qQ]);unfold y7 aP;intro Q au aA aB;repeat' first|refine aq ?_|refine ak ?_ ?_<;>intro hw<;>try omega|fail
  exact bq (fN (lA _))
 have hs:s.length<=1400:=by omega
 have ok:=(DW false hs).1;have cB:=DZ _ ok;clear ok;rw[adQ hs];have h1:=qp s false;have c1:=FP s false (by omega);obtain⟨⟨nm,s1,b1⟩,ha⟩:∃ a,fM s false=a:=⟨_,rfl⟩;rw[ha]at h1 c1;dsimp only at h1 c1;have h2:=lB s1 b1;have c2:=yn s1 b1 (by omega);obtain⟨⟨po,s2,b2⟩,hp⟩:∃ a,ij s1 b1=a:=⟨_,rfl⟩;rw[hp]at h2 c2;dsimp only at h2 c2;have h3:=lB s2 b2;have c3:=yn s2 b2 (by omega);obtain⟨⟨ag,s3,b3⟩,hg⟩:∃ a,ij s2 b2=a:=⟨_,rfl⟩;rw[hg]at h3 c3;dsimp only at h3 c3;have h4:=rS none s3 b3 (n:=1400) (by omega);have c4:=L5 none mO s3 b3 (by omega) (fun s b _=>Yj s b);obtain⟨⟨ins,s4,b4⟩,hi⟩:∃ a,fH none s3 b3=a:=⟨_,rfl⟩;rw[hi]at h4 c4;dsimp only at h4 c4;have h5:=rS (some 8) s4 b4 (n:=1400) (by omega);have c5:=L5 (some 8) nK s4 b4 (by omega) (fun s b h=>aa0 s b (by omega));obtain⟨⟨outs,s5,b5⟩,ho⟩:∃ a,fH (some 8) s4 b4=a:=⟨_,rfl⟩;rw[ho]at h5 c5;dsimp only at h5 c5;have h6:=lB s5 b5;have c6:=yn s5 b5 (by omega);obtain⟨⟨n,s6,b6⟩,hn⟩:∃ a,ij s5 b5=a:=⟨_,rfl⟩;rw[hn]at h6 c6;dsimp only at h6 c6;obtain⟨R,hR⟩:∃ R,jr false ins.length outs.length (FK false n) [] s6 b6=R:=⟨_,rfl⟩
 have hrd:iU false s=(⟨nm,ins,outs,po,ag,R.1⟩,R.2.1,R.2.2):=by
  have e8:O4 false=8:=rfl;unfold iU;rw[ha];dsimp only;rw[hp];dsimp only;rw[hg];dsimp only;rw[hi,e8];dsimp only;rw[ho];dsimp only;rw[hn];dsimp only;rw[hR]
 clear ha hp hg hi ho hn;rw[hrd]at cB ⊢;clear hrd;dsimp only at cB ⊢;obtain⟨mm,zR,Kb⟩:∃ mm:Int,(if(25:Int)<n then(25:Int)else n)=mm/\FK false n=mm.toNat:=⟨_,rfl,by unfold FK;simp only[Bool.false_eq_true,if_false];congr 1;show min n 25=_;split<;>omega⟩;have alC:mm<=25:=by rw[<-zR];split<;>omega
 rw[Kb]at hR;obtain⟨E,hE⟩:∃ E,(if R.2.2=true\/ez ⟨nm,ins,outs,po,ag,R.1⟩≠(s,0)then (bM,4)else (⟨nm,ins,outs,po,ag,R.1⟩,0):Table × Int)=E:=⟨_,rfl⟩;rw[hE];simp only[iI,bB]at c1 c2 c3 c4 c5 c6;refine ai.aG (Et (by simp) ?_) (by simp[qQ]);unfold y7 aP;intro Q au aA aB;repeat' first|simp (disch:=omega) only[go_sem,au,aA,aB,zR]|refine aq ?_|refine bh c1 ?_|refine bh c2 ?_|refine bh c3 ?_|with_reducible refine VF c4 rfl ?_|with_reducible refine VF c5 rfl ?_|refine bh c6 ?_|refine ak ?_ ?_<;>intro hw<;>try omega|fail
 with_reducible refine bn [37,38,39,40,41,42,43,44,45,46,47,48,49,50,51,52,53,54,55,56,57,58,59,60,61,62,63,64,65] (fun q:List dO × aJ × Bool=>[]) (fun q=>o0T:: .cells [.str q.2.1,.bool q.2.2]::L6 nm ins outs po ag (rv q.1)::W8 q.1) (fun q=>q.1.length<=25/\q.2.1.length<=1400/\R=jr false ins.length outs.length (mm.toNat-q.1.length) q.1 q.2.1 q.2.2) (fun q=>mm.toNat-q.1.length) (([],s6,b6)) ?_ ?_ ?_ ?_
 ·exact⟨by simp,by dsimp only;omega,hR.symm⟩
 ·rfl
 ·exact at_
 rintro⟨rs,s7,b7⟩ u ⟨g0,g1,g2⟩;dsimp only at g0 g1 g2;have hrl:rs.length<=2 ^ 20:=by omega
 by_cases hgo:(rs.length:Int)<mm/\b7=false
 ·obtain⟨hlt,rfl⟩:=hgo;obtain⟨j,hj⟩:∃ j,mm.toNat-rs.length=j+1:=⟨mm.toNat-rs.length-1,by omega⟩;rw[hj,jr,if_neg (by simp)]at g2;have ho:=O6 false ins.length outs.length s7 false (n:=1400) g1;unfold m_ at g2 ho;have d1:=JF ins.length s7 false (by omega) (by omega);have q1:=Ap ins.length [] s7 false 1400 g1 (by simp);generalize eO ins.length [] s7 false=a at *;obtain⟨xs,s8,b8⟩:=a;dsimp only at g2 d1 q1 ho;have d2:=JF outs.length s8 b8 (by omega) (by omega);generalize eO outs.length [] s8 b8=a at *;obtain⟨ys,s9,b9⟩:=a;dsimp only at g2 d2 ho;have hb9:(b9 ||(false && ins.length+outs.length==0))=b9:=by simp
  rw[hb9]at g2;simp only[iI,eR]at d1 d2;have M3:mm.toNat-(rs++[(⟨xs,ys⟩:dO)]).length=j:=by simp;omega
  cases rs with
  | nil =>
    simp only[rv,W8];repeat' first|refine aq ?_|refine bh d1 ?_|refine bh d2 ?_|refine ak ?_ ?_<;>intro hw<;>try omega|fail
    all_goals first|exact aY|skip
    refine⟨([⟨xs,ys⟩],s9,b9),?_,?_,?_,bJ,at_⟩
    ·dsimp only;rw[List.nil_append]at M3 g2;rw[M3];exact⟨by simp,by omega,g2⟩
    ·simp at hj ⊢;omega
    ·first|rfl|(simp[go_sem,rv,W8];done)
  | cons x rs =>
    simp only[rv,W8];repeat' first|refine aq ?_|refine bh d1 ?_|refine bh d2 ?_|refine ak ?_ ?_<;>intro hw<;>try omega|fail
    all_goals first|exact aY|skip
    refine⟨(x::rs++[⟨xs,ys⟩],s9,b9),?_,?_,?_,bJ,at_⟩
    ·dsimp only;rw[M3];exact⟨by simp at g0 hlt ⊢;omega,by omega,g2⟩
    ·simp at hj ⊢;omega
    ·first|rfl|(simp[go_sem,rv,W8];done)
 ·have W7 : R = (rs, s7, b7) := by
   rw[g2];cases hk:mm.toNat-rs.length with
   | zero=>rw[jr]
   | succ j =>
     rw[jr,if_pos];cases b7 with
     | true=>rfl
     | false=>exact absurd ⟨by omega,rfl⟩ hgo
  subst W7;dsimp only at cB hE;generalize hB:ez ⟨nm,ins,outs,po,ag,rs⟩=B at *;obtain⟨bs,be⟩:=B;simp only[eB,bS,dy,bB,cW]at cB
  have ZL:∀ p:Prop,[Decidable p]->(p↔(b7=true\/(bs,be)≠(s,0)))->(if p then(bM,4)else (⟨nm,ins,outs,po,ag,rs⟩,0):Table × Int)=E:=fun p _ hp=>by
   rw[<-hE];by_cases h:p
   ·rw[if_pos h,if_pos (hp.1 h)]
   ·rw[if_neg h,if_neg (fun h'=>h (hp.2 h'))]
  have hno:b7=true\/be≠0\/bs≠s->E=(bM,4):=fun h=>by
   rw[<-hE,if_pos];rcases h with h|h|h
   ·exact .inl h
   ·exact .inr (fun e=>h (Prod.mk.inj e).2)
   ·exact .inr (fun e=>h (Prod.mk.inj e).1)
  have hyes:b7=false->be=0->bs=s->E=(⟨nm,ins,outs,po,ag,rs⟩,0):=fun h1 h2 h3=>by
   rw[<-hE,if_neg];rw[h1,h2,h3];simp
  clear ZL;cases rs with
  | nil =>
    simp only[rv,W8];cases b7
    all_goals
     repeat' first|refine aq ?_|refine qo cB ?_|refine ak ?_ ?_<;>intro hw<;>try omega|fail
    all_goals first
     | exact aY
     |(exfalso;refine hgo ⟨?_,rfl⟩;omega)
     |(rw[hno (by simp_all)];exact bq (fN (lA _)))
     |(rw[hyes rfl (by assumption) (by assumption)];refine bq (fN ?_);exact View.nU (.cons (.refl _ rfl) (.cons (.refl _ (by simp)) (.cons (.refl _ (by simp)) (.cons (.refl _ rfl) (.cons (.refl _ rfl) (.cons (.ae _) (.nil _))))))))
  | cons x rs =>
    simp only[rv,W8];cases b7
    all_goals
     repeat' first|refine aq ?_|refine Td cB ?_|refine ak ?_ ?_<;>intro hw<;>try omega|fail
    all_goals first
     | exact aY
     |(exfalso;refine hgo ⟨?_,rfl⟩;omega)
     |(rw[hno (by simp_all)];exact bq (fN (lA _)))
     |(rw[hyes rfl (by assumption) (by assumption)];refine bq (fN ?_);exact View.nU (.cons (.refl _ rfl) (.cons (.refl _ (by simp)) (.cons (.refl _ (by simp)) (.cons (.refl _ rfl) (.cons (.refl _ rfl) (.cons (View.vec rfl (by simp) (by simp) (Ae _)) (.nil _))))))))
def Aq(s:aJ)(b:Bool)(hs:s.length<=2 ^ 60): bj Tryz.prog jd 0 [] (iI s b) (iI (ij s b).2.1 (ij s b).2.2) (I (ij s b).1):=by
 have c:=gW s (by omega);unfold ij;generalize takeN s=t at *;obtain⟨n,r,e⟩:=t;simp only[eN]at c;refine bj.bV (JK (by simp) ?_) rfl (uw _ _);unfold zU aP;intro Q au aA aB;cases b<;>simp only[iI]
 all_goals
  repeat' first|refine aq ?_|refine aC c ?_|refine ak ?_ ?_<;>intro hw<;>try omega|fail
 all_goals first|exact aY|(refine bR (View.eqv rfl rfl) (aW.eqv ?_ rfl);simp[iI];done)|(refine bR (View.eqv rfl rfl) (aW.eqv ?_ rfl);simp_all[bne,iI];done)
def zI(s:aJ)(b:Bool)(hs:s.length<=2 ^ 60): bj Tryz.prog jB 0 [] (iI s b) (iI (fM s b).2.1 (fM s b).2.2) (.str (fM s b).1):=by
 have c:=nq s 1400 (by omega);unfold fM;generalize cj s 1400=t at *;obtain⟨n,r,e⟩:=t;simp only[eS]at c;refine bj.bV (HE (by simp) ?_) rfl (uw _ _);unfold yz aP;intro Q au aA aB;cases b<;>simp only[iI]
 all_goals
  repeat' first|refine aq ?_|refine aC c ?_|refine ak ?_ ?_<;>intro hw<;>try omega|fail
 all_goals first|exact aY|(refine bR (View.eqv rfl rfl) (aW.eqv ?_ rfl);simp[iI];done)|(refine bR (View.eqv rfl rfl) (aW.eqv ?_ rfl);simp_all[bne,iI];done)
def Mv(o:Bool)(c:cI): AV:= .agg [.str c.name,I c.kind,if o then .aK false EV (c.order.map iJ)else .ae]
def TL{α : Type}{σ : aj}{f g : α->AV}: ∀ {l:List α},(∀ x ∈ l,View σ (f x) (g x))->aW σ (l.map f) (l.map g)
 | [],_=> .nil _
 | x::l,h=> .cons (h x (by simp)) (TL fun y hy=>h y (by simp[hy]))
def ack{σ : aj}{o:Bool}{c:cI}(h:o=false->c.order=[]): View σ (Mv o c) (bE c):=by
 cases o with
 | true=>exact .refl _ (DC c)
 | false =>
   obtain⟨a,b,l⟩:=c;obtain rfl:l=[]:=h rfl;exact View.nU (.cons (.refl _ rfl) (.cons (.refl _ rfl) (.cons (.ae _) (.nil _))))
def D2(o:Bool): Option Int:=if o then some 1400 else none
set_option maxHeartbeats 1000000 in
def NS(o:Bool)(s:aJ)(b:Bool)(hs:s.length<=2 ^ 29): bj Tryz.prog lG 0 [.bool o] (iI s b) (iI (fH (D2 o) s b).2.1 (fH (D2 o) s b).2.2) (bB (fH (D2 o) s b).1):=by
 obtain⟨E,hE⟩:∃ E,fH (D2 o) s b=E:=⟨_,rfl⟩;rw[hE];unfold fH at hE;have c1:=Aq s b (by omega);have hn:=lB s b;generalize ij s b=t at *;obtain⟨n,s0,b0⟩:=t;dsimp only at hE hn;simp only[iI]at c1;refine bj.bV (D9 (by simp) ?_) rfl (uw _ _);unfold u7 aP;intro Q au aA aB;simp only[iI];repeat' first|refine aq ?_|refine bh c1 ?_|refine ak ?_ ?_<;>intro hw<;>try omega|fail
 with_reducible refine bn [5,7,8,9,10,11,14,15,16,17,18,19,20,21,22,23,24,25,26,27,28,29,30,31,32,33,34,35,36,37,38,39,40,41,42,43,44,45,46,47,48,49,50,51,52,53,54,55,56,57,58,59,60,61] (fun q:List cI × aJ × Bool × List aX=>[(7,I q.1.length),(5,.own EC 1 q.1.length 0 q.1.length)]) (fun q=> .cells [.str q.2.1,.bool q.2.2.1]:: .vec EC (q.1.map (Mv o))::q.2.2.2) (fun q=>(o=false-> ∀ c ∈ q.1,c.order=[])/\q.1.length+q.2.1.length+(if q.2.2.1 then 0 else 1)<=2 ^ 29+1/\E=kV (D2 o) (n.toNat-q.1.length) q.1 q.2.1 q.2.2.1) (fun q=>n.toNat-q.1.length) (([],s0,b0,[])) ?_ ?_ ?_ ?_
 ·refine⟨by simp,?_,by simpa using hE.symm⟩;dsimp only;split<;>simp<;>omega
 ·rfl
 ·exact at_
 rintro⟨out,s1,b1,τ⟩ u ⟨g0,g1,g2⟩;dsimp only at g0 g1 g2;by_cases hgo:(out.length:Int)<n/\b1=false
 ·obtain⟨hlt,rfl⟩:=hgo;obtain⟨j,hj⟩:∃ j,n.toNat-out.length=j+1:=⟨n.toNat-out.length-1,by omega⟩;rw[hj,kV,if_neg (by simp)]at g2;simp only[Bool.false_eq_true,if_false]at g1;have ff:=O5 (D2 o) s1 false;unfold n7 at g2 ff;have c2:=zI s1 false (by omega);have hl:=qp s1 false;generalize fM s1 false=t at *;obtain⟨x,s2,b2⟩:=t;dsimp only at g2 hl ff;have c3:=Aq s2 b2 (by omega);have pX:=lB s2 b2;generalize ij s2 b2=t at *;obtain⟨kd,s3,b3⟩:=t;dsimp only at g2 pX ff;have c4:=JD s3 1400 (by omega);simp only[iI]at c2 c3
  have fin:∀ (l:List eg) (s4:aJ) (b4:Bool),pZ (D2 o) s3 b3=(l,s4,b4)->((out++[(⟨x,kd,l⟩:cI)]).length+s4.length+(if b4 then 0 else 1)<=2 ^ 29+1/\E=kV (D2 o) (n.toNat-(out++[(⟨x,kd,l⟩:cI)]).length) (out++[⟨x,kd,l⟩]) s4 b4)/\n.toNat-(out++[(⟨x,kd,l⟩:cI)]).length<n.toNat-out.length:=fun l s4 b4 hq=>by
   rw[hq]at g2 ff;dsimp only at g2 ff;have e:n.toNat-(out++[(⟨x,kd,l⟩:cI)]).length=j:=by simp;omega
   rw[e];refine⟨⟨?_,g2⟩,by omega⟩;rw[List.length_append,List.length_singleton];cases b4 with
   | true=>simp;omega
   | false=>have:=ff.2 rfl;simp;omega
  cases o with
  | false =>
    have fin:=fin [] s3 b3 rfl;repeat' first|refine aq ?_|refine bh c2 ?_|refine bh c3 ?_|refine ak ?_ ?_<;>intro hw<;>try omega|fail
    all_goals first|exact aY|skip
    refine⟨(out++[⟨x,kd,[]⟩],s3,b3,τ++[aX.cells [.str x,I kd,.ae]]),⟨?_,fin.1⟩,fin.2,?_,bJ,?_⟩
    ·intro ho c hc;rcases List.mem_append.1 hc with hc|hc
     ·first|exact g0 ho c hc|exact g0 rfl c hc
     ·rw[List.mem_singleton.1 hc]<;>first|rfl|cases ho
    ·first|rfl|(simp[go_sem,Mv];done)
    ·dsimp only;simp only[List.length_append,List.length_singleton];simp (disch:=omega) only[dm,cK,and_true,go_sem,au,aA,aB,Int.natCast_add,Int.cast_ofNat_Int]<;>(try trivial)<;>(try omega)<;>(try (repeat (first|trivial|(refine And.intro ?_ ?_)|(congr 1;omega))))
  | true =>
    have Ts:pZ (D2 true) s3 b3=((ig s3 1400).1,(ig s3 1400).2.1,b3 ||(ig s3 1400).2.2 != 0):=rfl;generalize ig s3 1400=t at *;obtain⟨l,s4,e4⟩:=t;simp only[qP,cH]at c4;cases b3
    ·cases he4:decide (e4=0)
     ·have he4:=of_decide_eq_false he4;have fin:=fin l s4 true (by rw[Ts];simp[he4]);repeat' first|refine aq ?_|refine bh c2 ?_|refine bh c3 ?_|refine aC c4 ?_|refine ak ?_ ?_<;>intro hw<;>try omega|fail
      all_goals first|exact aY|skip
      refine⟨(out++[⟨x,kd,l⟩],s4,true,τ++[aX.cells [.str x,I kd,.aK false EV (l.map iJ)]]),⟨?_,fin.1⟩,fin.2,?_,bJ,?_⟩
      ·intro ho c hc;rcases List.mem_append.1 hc with hc|hc
       ·first|exact g0 ho c hc|exact g0 rfl c hc
       ·rw[List.mem_singleton.1 hc]<;>first|rfl|cases ho
      ·first|rfl|(simp[go_sem,he4,Mv];done)
      ·dsimp only;simp only[List.length_append,List.length_singleton];simp (disch:=omega) only[dm,cK,and_true,go_sem,au,aA,aB,Int.natCast_add,Int.cast_ofNat_Int]<;>(try trivial)<;>(try omega)<;>(try (repeat (first|trivial|(refine And.intro ?_ ?_)|(congr 1;omega))))
     ·obtain rfl:=of_decide_eq_true he4;have fin:=fin l s4 false (by rw[Ts];simp);repeat' first|refine aq ?_|refine bh c2 ?_|refine bh c3 ?_|refine aC c4 ?_|refine ak ?_ ?_<;>intro hw<;>try omega|fail
      all_goals first|exact aY|skip
      refine⟨(out++[⟨x,kd,l⟩],s4,false,τ++[aX.cells [.str x,I kd,.aK false EV (l.map iJ)]]),⟨?_,fin.1⟩,fin.2,?_,bJ,?_⟩
      ·intro ho c hc;rcases List.mem_append.1 hc with hc|hc
       ·first|exact g0 ho c hc|exact g0 rfl c hc
       ·rw[List.mem_singleton.1 hc]<;>first|rfl|cases ho
      ·first|rfl|(simp[go_sem,Mv];done)
      ·dsimp only;simp only[List.length_append,List.length_singleton];simp (disch:=omega) only[dm,cK,and_true,go_sem,au,aA,aB,Int.natCast_add,Int.cast_ofNat_Int]<;>(try trivial)<;>(try omega)<;>(try (repeat (first|trivial|(refine And.intro ?_ ?_)|(congr 1;omega))))
    ·have fin:=fin l s4 true (by rw[Ts];simp);repeat' first|refine aq ?_|refine bh c2 ?_|refine bh c3 ?_|refine aC c4 ?_|refine ak ?_ ?_<;>intro hw<;>try omega|fail
     all_goals first|exact aY|skip
     refine⟨(out++[⟨x,kd,l⟩],s4,true,τ++[aX.cells [.str x,I kd,.aK false EV (l.map iJ)]]),⟨?_,fin.1⟩,fin.2,?_,bJ,?_⟩
     ·intro ho c hc;rcases List.mem_append.1 hc with hc|hc
      ·first|exact g0 ho c hc|exact g0 rfl c hc
      ·rw[List.mem_singleton.1 hc]<;>first|rfl|cases ho
     ·first|rfl|(simp[go_sem,Mv];done)
     ·dsimp only;simp only[List.length_append,List.length_singleton];simp (disch:=omega) only[dm,cK,and_true,go_sem,au,aA,aB,Int.natCast_add,Int.cast_ofNat_Int]<;>(try trivial)<;>(try omega)<;>(try (repeat (first|trivial|(refine And.intro ?_ ?_)|(congr 1;omega))))
 ·have W7 : E = (out, s1, b1) := by
   rw[g2];cases hk:n.toNat-out.length with
   | zero=>rw[kV]
   | succ j =>
     rw[kV,if_pos];cases b1 with
     | true=>rfl
     | false=>exact absurd ⟨by omega,rfl⟩ hgo
  cases b1
  all_goals
   repeat' first|refine aq ?_|refine ak ?_ ?_<;>intro hw<;>try omega|fail
  all_goals first
   | exact aY
   |(exfalso;refine hgo ⟨?_,rfl⟩;omega)
   |(rw[W7];exact bR (View.afE rfl (by simp) (by simp) (TL fun c hc=>ack fun ho=>g0 ho c hc)) (aW.refl rfl))
end Go.Proofs.YtmbgnaoilncbnaaGreatDoor
