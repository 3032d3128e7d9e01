/- Part of a proof: see Root. -/
import Derived.Test.YtmbgnaoilncbnaaGreatDoorZ35
set_option linter.unnecessarySimpa false
set_option linter.unusedSimpArgs false
set_option linter.unusedVariables false
namespace Go.Proofs.YtmbgnaoilncbnaaGreatDoor
open Go.AM
set_option maxRecDepth 4000
def eB(p:aH × Int): AV:= .bJ [.str p.1,I p.2]
abbrev acR(t:Table): aR:= .cells [.str t.name,.aG false EC (t.ins.map bp),.aG false EC (t.outs.map bp),I t.bl,I t.agg,.aG false ER (t.rules.map cj)]
set_option maxHeartbeats 1000000 in
theorem k_(t:Table)(ok:gU t): aq Tryz.prog gg [bI t] (eB (cH t)):=by
 obtain⟨E,hE⟩:∃ E,cH t=E:=⟨_,rfl⟩
 rw[hE]
 unfold cH at hE
 have c1:=uN t ok
 have c2:=T0 (bZ t).1 t (ED ok) (m_ ok)
 have hb:=fun h=>Ym ok h
 obtain⟨C,hC⟩:∃ C,bZ t=C:=⟨_,rfl⟩
 rw[hC]at c1 c2 hE hb
 obtain⟨C,m1,m2,e⟩:=C
 dsimp only at hE c2 hb
 simp only[MH,bI,dc,bq,cQ]at c1 c2 ⊢
 by_cases he:e≠0
 ·rw[if_pos he]at hE
  refine aq.of_nil (uj (by simp) ?_) (by simp[eB])
  unfold qH aM
  intro Q aC aD aE
  repeat' first|refine aB ?_|refine aF c1 ?_|refine aA (fun hw=>?_) (fun hw=>?_)<;>try omega|fail
  all_goals first|exact aZ|exact aP (by rw[← hE]) rfl
 rw[if_neg he]at hE
 obtain rfl:e=0:=by omega
 cases hs:ik C t with
 | false =>
   rw[hs]at hE c2
   rw[if_pos rfl]at hE
   refine aq.of_nil (uj (by simp) ?_) (by simp[eB])
   unfold qH aM
   intro Q aC aD aE
   repeat' first|refine aB ?_|refine aF c1 ?_|refine aF c2 ?_|refine aA (fun hw=>?_) (fun hw=>?_)<;>try omega|fail
   all_goals first|exact aZ|exact aP (by rw[← hE]) rfl
 | true =>
 rw[hs]at hE c2
 rw[if_neg (by simp),KP]at hE
 have h:=hb rfl
 have hl:=Ii h
 have hd:y3 t=bY t.name++dw t.bl++dw t.agg++(iY false t.ins++iY true t.outs++dw t.rules.length):=by unfold y3;simp only[List.append_assoc]
 obtain⟨b1,b2,b3,b4,b5,b6,b7⟩:=h
 have k1:=y2 t.name (by omega)
 have k2:=mh t.bl b2
 have k3:=mh t.agg b3
 have k4:=Dt t.ins false nD b4.1 b4.2 (fun c _=>Oi c)
 have k5:=Dt t.outs true qz b5.1 b5.2 (fun c hc=>SW c (b5.2 c hc))
 have k6:=mh t.rules.length ⟨by omega,by omega⟩
 generalize y3 t=x at *
 generalize bY t.name=u1 at *
 generalize dw t.bl=u2 at *
 generalize dw t.agg=u3 at *
 generalize iY false t.ins=u4 at *
 generalize iY true t.outs=u5 at *
 generalize dw t.rules.length=u6 at *
 have Yn:=congrArg List.length hd
 simp only[List.length_append]at Yn
 have a1:=qt (a:=u1.length) (b:=u2.length) (by omega)
 have a2:=qt (a:=(u1++u2).length) (b:=u3.length) (by simp only[List.length_append];omega)
 have a3:=qt (a:=u4.length) (b:=u5.length) (by omega)
 have a4:=qt (a:=(u4++u5).length) (b:=u6.length) (by simp only[List.length_append];omega)
 have a5:=qt (a:=(u1++u2++u3).length) (b:=(u4++u5++u6).length) (by simp only[List.length_append];omega)
 have hd':=hd.symm
 clear hd
 simp only[bq]at k4 k5
 refine aq.of_nil (uj (by simp) ?_) (by simp[eB])
 unfold qH aM
 intro Q aC aD aE
 repeat' first|simp (disch:=omega) only[go_sem,aC,aD,aE,aj,au,ak,Nat.reduceAdd,Nat.reduceBEq,↓reduceIte,a1,a2,a3,a4,a5,hd']|refine aB ?_|refine aF c1 ?_|refine aF c2 ?_|refine aF k1 ?_|refine aF k2 ?_|refine aF k3 ?_|refine aF k4 ?_|refine aF k5 ?_|refine aF k6 ?_|refine aA (fun hw=>?_) (fun hw=>?_)<;>try omega|fail
 all_goals first|exact aZ|skip
 with_reducible refine a_ [8,10,55,56,57,58,59,60,61,62,63,64,65,66,67,68] (fun q:Nat × List aR=>[(55,I q.1),(8,.str (x++(t.rules.take q.1).flatMap eX))]) (fun q=>acR t::acR C::q.2) (fun q=>q.1≤t.rules.length∧x.length+((t.rules.take q.1).flatMap eX).length≤17179869184+q.1*12884902008) (fun q=>t.rules.length-q.1) ((0,[])) ?_ ?_ ?_ ?_
 ·simp;omega
 ·rfl
 ·simp only[List.take_zero,List.flatMap_nil,List.append_nil];simp (disch:=omega) only[cU,cE,and_true,go_sem,aC,aD,aE,aj,au,ak,Nat.reduceAdd,Nat.reduceBEq,↓reduceIte,Int.natCast_add,Int.cast_ofNat_Int]<;>(try trivial)<;>(try omega)<;>(try (repeat (first|trivial|(refine And.intro ?_ ?_)|(congr 1;omega))))
 rintro⟨i,τ⟩ r ⟨g1,g3⟩
 dsimp only at g1 g3
 by_cases hi:i<t.rules.length
 ·have hr:=b7 _ (aY hi)
  have iR:=wz eX hi x
  obtain⟨ru,Ht⟩:∃ c,t.rules.getD i default=c:=⟨_,rfl⟩
  rw[Ht]at hr iR
  have hrl:=Ij hr
  obtain⟨y,hy⟩:∃ y,x++(t.rules.take i).flatMap eX=y:=⟨_,rfl⟩
  have Ct:y.length=x.length+((t.rules.take i).flatMap eX).length:=by rw[← hy,List.length_append]
  have pC:=congrArg List.length iR
  rw[hy]at iR
  simp only[List.length_append]at pC
  have hrd:eX ru=ru.cells.flatMap bY++ru.outs.flatMap bY:=rfl
  have d1:=Ih ru.cells hr.1
  have d2:=Ih ru.outs hr.2
  have f1:=tC hr.1
  have f2:=tC hr.2
  generalize ru.cells.flatMap bY=v1 at *
  generalize ru.outs.flatMap bY=v2 at *
  have e1:=qt (a:=v1.length) (b:=v2.length) (by omega)
  have e2:=qt (a:=y.length) (b:=(v1++v2).length) (by simp only[List.length_append];omega)
  simp only[dS]at d1 d2
  repeat' first|simp (disch:=omega) only[go_sem,aC,aD,aE,aj,au,ak,Nat.reduceAdd,Nat.reduceBEq,↓reduceIte,Ht,hy,e1,e2]|refine aB ?_|refine aF d1 ?_|refine aF d2 ?_|refine aA (fun hw=>?_) (fun hw=>?_)<;>try omega|fail
  refine⟨(i+1,τ++[aR.cells [.aG false E1 (ru.cells.map cy),.aG false E1 (ru.outs.map cy)]]),?_,?_,?_,bG,?_⟩
  ·dsimp only;omega
  ·dsimp only;omega
  ·first|rfl|(simp[go_sem];done)
  ·dsimp only;rw[iR,hrd];simp (disch:=omega) only[cU,cE,and_true,go_sem,aC,aD,aE,aj,au,ak,Nat.reduceAdd,Nat.reduceBEq,↓reduceIte,Int.natCast_add,Int.cast_ofNat_Int]<;>(try trivial)<;>(try omega)<;>(try (repeat (first|trivial|(refine And.intro ?_ ?_)|(congr 1;omega))))
 ·have ht:t.rules.take i=t.rules:=List.take_of_length_le (by omega)
  rw[ht]at g3
  have hxl:(x++t.rules.flatMap eX).length=x.length+(t.rules.flatMap eX).length:=List.length_append
  by_cases j4:1400<(x++t.rules.flatMap eX).length
  ·rw[if_pos j4]at hE
   obtain⟨z,hz⟩:∃ z,x++t.rules.flatMap eX=z:=⟨_,rfl⟩
   rw[hz]at j4 hxl
   repeat' first|simp (disch:=omega) only[go_sem,aC,aD,aE,aj,au,ak,Nat.reduceAdd,Nat.reduceBEq,↓reduceIte,ht,hz]|refine aB ?_|refine aA (fun hw=>?_) (fun hw=>?_)<;>try omega|fail
   exact aP (by rw[← hE]) rfl
  ·rw[if_neg j4]at hE
   obtain⟨z,hz⟩:∃ z,x++t.rules.flatMap eX=z:=⟨_,rfl⟩
   rw[hz]at j4 hxl hE
   repeat' first|simp (disch:=omega) only[go_sem,aC,aD,aE,aj,au,ak,Nat.reduceAdd,Nat.reduceBEq,↓reduceIte,ht,hz]|refine aB ?_|refine aA (fun hw=>?_) (fun hw=>?_)<;>try omega|fail
   exact aP (by rw[← hE]) rfl
theorem JS(t:Table)(ok:gU t): aq Tryz.prog si [bI t] (eB (cH t)):=by
 obtain⟨E,hE⟩:∃ E,cH t=E:=⟨_,rfl⟩
 rw[hE]
 unfold cH at hE
 have c1:=T1 t ok
 have c2:=mg (bZ t).1 t (ED ok) (m_ ok)
 have hb:=fun h=>Ym ok h
 obtain⟨C,hC⟩:∃ C,bZ t=C:=⟨_,rfl⟩
 rw[hC]at c1 c2 hE hb
 obtain⟨C,m1,m2,e⟩:=C
 dsimp only at hE c2 hb
 simp only[MH,bI,dc,bq,cQ]at c1 c2 ⊢
 by_cases he:e≠0
 ·rw[if_pos he]at hE
  refine aq.of_nil (qI (by simp) ?_) (by simp[eB])
  unfold nY aM
  intro Q aC aD aE
  repeat' first|refine aB ?_|refine aF c1 ?_|refine aA (fun hw=>?_) (fun hw=>?_)<;>try omega|fail
  all_goals first|exact aZ|exact aP (by rw[← hE]) rfl
 rw[if_neg he]at hE
 obtain rfl:e=0:=by omega
 cases hs:ik C t with
 | false =>
   rw[hs]at hE c2
   rw[if_pos rfl]at hE
   refine aq.of_nil (qI (by simp) ?_) (by simp[eB])
   unfold nY aM
   intro Q aC aD aE
   repeat' first|refine aB ?_|refine aF c1 ?_|refine aF c2 ?_|refine aA (fun hw=>?_) (fun hw=>?_)<;>try omega|fail
   all_goals first|exact aZ|exact aP (by rw[← hE]) rfl
 | true =>
 rw[hs]at hE c2
 rw[if_neg (by simp)]at hE
 have h:=hb rfl
 have c3:=WO t h
 have hl:=Ii h
 have hfl:=SV (f:=eX) (l:=t.rules) (fun r hr=>Ij (h.2.2.2.2.2.2 r hr))
 have h24:=h.2.2.2.2.2.1
 have hlen:(qQ t).length=(y3 t).length+(t.rules.flatMap eX).length:=by rw[KP,List.length_append]
 generalize qQ t=z at *
 simp only[bI,dc,bq,cQ]at c3
 by_cases j4:1400<z.length
 ·rw[if_pos j4]at hE
  refine aq.of_nil (qI (by simp) ?_) (by simp[eB])
  unfold nY aM
  intro Q aC aD aE
  repeat' first|refine aB ?_|refine aF c1 ?_|refine aF c2 ?_|refine aF c3 ?_|refine aA (fun hw=>?_) (fun hw=>?_)<;>try omega|fail
  all_goals first|exact aZ|exact aP (by rw[← hE]) rfl
 ·rw[if_neg j4]at hE
  refine aq.of_nil (qI (by simp) ?_) (by simp[eB])
  unfold nY aM
  intro Q aC aD aE
  repeat' first|refine aB ?_|refine aF c1 ?_|refine aF c2 ?_|refine aF c3 ?_|refine aA (fun hw=>?_) (fun hw=>?_)<;>try omega|fail
  all_goals first|exact aZ|exact aP (by rw[← hE]) rfl
def fI(s:aH)(b:Bool): List AV:=[.str s,.bool b]
theorem qR(s:aH)(b:Bool): AV.bW (fI s b)=true:=rfl
theorem uR(s:aH)(b:Bool)(hs:s.length≤2 ^ 60): aV Tryz.prog fN 0 [] (fI s b) (fI (fj s b).2.1 (fj s b).2.2) (I (fj s b).1):=by
 have c:=oc s (by omega)
 unfold fj
 generalize takeN s=t at *
 obtain⟨n,r,e⟩:=t
 simp only[eN]at c
 refine aV.bH (DX (by simp) ?_) rfl (qR _ _)
 unfold uZ aM
 intro Q aC aD aE
 cases b<;>simp only[fI]
 all_goals
  repeat' first|refine aB ?_|refine aF c ?_|refine aA (fun hw=>?_) (fun hw=>?_)<;>try omega|fail
 all_goals first|exact aZ|(refine bE (View.eqv rfl rfl) (aQ.eqv ?_ rfl);simp[fI];done)|(refine bE (View.eqv rfl rfl) (aQ.eqv ?_ rfl);simp_all[bne,fI];done)
theorem Cp(s:aH)(b:Bool)(hs:s.length≤2 ^ 60): aV Tryz.prog iD 0 [] (fI s b) (fI (dV s b).2.1 (dV s b).2.2) (.str (dV s b).1):=by
 have c:=Dr s 1400 (by omega)
 unfold dV
 generalize eF s 1400=t at *
 obtain⟨n,r,e⟩:=t
 simp only[eS]at c
 refine aV.bH (CK (by simp) ?_) rfl (qR _ _)
 unfold uk aM
 intro Q aC aD aE
 cases b<;>simp only[fI]
 all_goals
  repeat' first|refine aB ?_|refine aF c ?_|refine aA (fun hw=>?_) (fun hw=>?_)<;>try omega|fail
 all_goals first|exact aZ|(refine bE (View.eqv rfl rfl) (aQ.eqv ?_ rfl);simp[fI];done)|(refine bE (View.eqv rfl rfl) (aQ.eqv ?_ rfl);simp_all[bne,fI];done)
theorem WQ(s:aH)(b:Bool)(hs:s.length≤2 ^ 30): aV Tryz.prog lg 0 [] (fI s b) (fI (nf (some 8) s b).2.1 (nf (some 8) s b).2.2) (dH (nf (some 8) s b).1):=by
 have c:=Qw s 8 hs
 unfold nf
 dsimp only
 generalize iz s 8=t at *
 obtain⟨n,r,e⟩:=t
 simp only[Oh,dH]at c ⊢
 refine aV.bH (DY (by simp) ?_) rfl (qR _ _)
 unfold u0 aM
 intro Q aC aD aE
 cases b<;>simp only[fI]
 all_goals
  repeat' first|refine aB ?_|refine aF c ?_|refine aA (fun hw=>?_) (fun hw=>?_)<;>try omega|fail
 all_goals first|exact aZ|(refine bE (View.eqv rfl (by simp)) (aQ.eqv ?_ rfl);simp[fI];done)|(refine bE (View.eqv rfl (by simp)) (aQ.eqv ?_ rfl);simp_all[bne,fI];done)
theorem Uc(s:aH)(b:Bool): aV Tryz.prog kj 0 [] (fI s b) (fI (nf none s b).2.1 (nf none s b).2.2) (dH (nf none s b).1):=by
 refine aV.bH (CL (by simp) ?_) rfl (qR _ _)
 unfold um aM
 intro Q aC aD aE
 simp only[fI]
 repeat' first|refine aB ?_|refine aA (fun hw=>?_) (fun hw=>?_)<;>try omega|fail
 exact bE (View.ae _) (aQ.refl rfl)
theorem FQ(k:Nat)(s:aH)(b:Bool)(hk:k≤2 ^ 20)(hs:s.length≤2 ^ 30): aV Tryz.prog jM 0 [I k] (fI s b) (fI (de k [] s b).2.1 (de k [] s b).2.2) (dS (de k [] s b).1):=by
 obtain⟨E,hE⟩:∃ E,de k [] s b=E:=⟨_,rfl⟩
 rw[hE]
 refine aV.bH (BZ (by simp) ?_) rfl (qR _ _)
 unfold sZ aM
 intro Q aC aD aE
 repeat' first|refine aB ?_|refine aA (fun hw=>?_) (fun hw=>?_)<;>try omega|fail
 with_reducible refine a_ [5,7,8,9,10,11,12,13,14] (fun q:Nat × List aH × aH × Bool=>[(7,I q.1),(5,.own E1 1 q.2.1.length 0 q.2.1.length)]) (fun q=>[.cells (fI q.2.2.1 q.2.2.2),.vec E1 (q.2.1.map cy)]) (fun q=>q.1≤k∧q.2.1.length=q.1∧q.2.2.1.length≤s.length∧E=de (k-q.1) q.2.1 q.2.2.1 q.2.2.2) (fun q=>k-q.1) ((0,[],s,b)) ?_ ?_ ?_ ?_
 ·exact⟨by omega,rfl,by simp,hE.symm⟩
 ·rfl
 ·exact at_
 rintro⟨i,out,s1,b1⟩ u ⟨g1,g2,g3,g4⟩
 dsimp only at g1 g2 g3 g4
 by_cases hi:i<k
 ·obtain⟨j,hj⟩:∃ j,k-i=j+1:=⟨k-i-1,by omega⟩
  rw[hj,de]at g4
  have c:=Cp s1 b1 (by omega)
  have hl:=nv s1 b1
  generalize dV s1 b1=t at *
  obtain⟨x,r,b2⟩:=t
  dsimp only at g4 hl
  simp only[fI]at c ⊢
  repeat' first|refine aB ?_|refine aS c ?_|refine aA (fun hw=>?_) (fun hw=>?_)<;>try omega|fail
  refine⟨(i+1,out++[x],r,b2),?_,?_,?_,bG,?_⟩
  ·have e:k-(i+1)=j:=by omega
   dsimp only
   rw[e];exact⟨by omega,by simp[g2],by omega,g4⟩
  ·dsimp only;omega
  ·first|rfl|(simp[go_sem,fI];done)
  ·dsimp only;simp only[List.length_append,List.length_singleton,g2];simp (disch:=omega) only[cU,cE,and_true,go_sem,aC,aD,aE,aj,au,ak,Nat.reduceAdd,Nat.reduceBEq,↓reduceIte,Int.natCast_add,Int.cast_ofNat_Int]<;>(try trivial)<;>(try omega)<;>(try (repeat (first|trivial|(refine And.intro ?_ ?_)|(congr 1;omega))))
 ·have e:k-i=0:=by omega
  rw[e,de]at g4
  simp only[fI]
  repeat' first|refine aB ?_|refine aA (fun hw=>?_) (fun hw=>?_)<;>try omega|fail
  rw[g4]
  exact bE (View.vec rfl (by simp) (by simp) (LZ _)) (aQ.refl rfl)
theorem Ik(o:Option Int)(F:FuncId)(s:aH)(b:Bool)(hs:s.length≤2 ^ 29)(hF:∀ s b,s.length≤2 ^ 29→aV Tryz.prog F 0 [] (fI s b) (fI (nf o s b).2.1 (nf o s b).2.2) (dH (nf o s b).1)):
 Gx Tryz.prog iV (fI s b) (fI (dR o s b).2.1 (dR o s b).2.2) (bq (dR o s b).1) F:=by
 obtain⟨E,hE⟩:∃ E,dR o s b=E:=⟨_,rfl⟩
 rw[hE]
 unfold dR at hE
 have c1:=uR s b (by omega)
 have hn:=jm s b
 generalize fj s b=t at *
 obtain⟨n,s0,b0⟩:=t
 dsimp only at hE hn
 simp only[fI]at c1
 refine Gx.bH (z6 (by simp) ?_) (qR _ _)
 unfold qW aM
 intro Q aC aD aE
 simp only[fI]
 repeat' first|refine aB ?_|refine aS c1 ?_|refine aA (fun hw=>?_) (fun hw=>?_)<;>try omega|fail
 with_reducible refine a_ [5,7,10,11,12,13,14,15,16,17,18,19,20,21,22,23,24,25,26,27,28,29,30,31,32,33] (fun q:List bV × aH × Bool × List aR=>[(5,.own EC 1 q.1.length 0 q.1.length)]) (fun q=> .cells [.str q.2.1,.bool q.2.2.1]:: .vec EC (q.1.map bp)::q.2.2.2) (fun q=>q.1.length+q.2.1.length+(if q.2.2.1 then 0 else 1)≤2 ^ 29+1∧E=iZ o (n.toNat-q.1.length) q.1 q.2.1 q.2.2.1) (fun q=>n.toNat-q.1.length) (([],s0,b0,[])) ?_ ?_ ?_ ?_
 ·refine⟨?_,by simpa using hE.symm⟩
  dsimp only;split<;>simp<;>omega
 ·rfl
 ·exact at_
 rintro⟨out,s1,b1,τ⟩ u ⟨g1,g2⟩
 dsimp only at g1 g2
 by_cases hgo:(out.length:Int)<n∧b1=false
 ·obtain⟨hlt,rfl⟩:=hgo
  obtain⟨j,hj⟩:∃ j,n.toNat-out.length=j+1:=⟨n.toNat-out.length-1,by omega⟩
  rw[hj,iZ,if_neg (by simp)]at g2
  simp only[Bool.false_eq_true,if_false]at g1
  have c_:=KL o s1 false
  unfold lK at g2 c_
  have c2:=Cp s1 false (by omega)
  have hl:=nv s1 false
  generalize dV s1 false=t at *
  obtain⟨x,s2,b2⟩:=t
  dsimp only at g2 hl c_
  have c3:=uR s2 b2 (by omega)
  have JL:=jm s2 b2
  generalize fj s2 b2=t at *
  obtain⟨kd,s3,b3⟩:=t
  dsimp only at g2 JL c_
  have c4:=hF s3 b3 (by omega)
  generalize nf o s3 b3=t at *
  obtain⟨l,s4,b4⟩:=t
  dsimp only at g2 c_
  simp only[fI,dH]at c2 c3 c4
  repeat' first|refine aB ?_|refine aS c2 ?_|refine aS c3 ?_|refine aS c4 ?_|refine aA (fun hw=>?_) (fun hw=>?_)<;>try omega|fail
  all_goals first|exact aZ|skip
  refine⟨(out++[⟨x,kd,l⟩],s4,b4,τ++[aR.cells [.str x,I kd,.aG false EV (l.map gO)]]),?_,?_,?_,bG,?_⟩
  ·have e:n.toNat-(out++[(⟨x,kd,l⟩:bV)]).length=j:=by simp;omega
   dsimp only
   rw[e]
   refine⟨?_,g2⟩
   rw[List.length_append,List.length_singleton]
   cases b4 with
   | true=>simp;omega
   | false=>have:=c_.2 rfl;simp;omega
  ·simp;omega
  ·first|rfl|(simp[go_sem];done)
  ·dsimp only;simp only[List.length_append,List.length_singleton];simp (disch:=omega) only[cU,cE,and_true,go_sem,aC,aD,aE,aj,au,ak,Nat.reduceAdd,Nat.reduceBEq,↓reduceIte,Int.natCast_add,Int.cast_ofNat_Int]<;>(try trivial)<;>(try omega)<;>(try (repeat (first|trivial|(refine And.intro ?_ ?_)|(congr 1;omega))))
 ·have SY : E = (out, s1, b1) := by
   rw[g2]
   cases hk:n.toNat-out.length with
   | zero=>rw[iZ]
   | succ j =>
     rw[iZ,if_pos]
     cases b1 with
     | true=>rfl
     | false=>exact absurd ⟨by omega,rfl⟩ hgo
  cases b1
  all_goals
   repeat' first|refine aB ?_|refine aA (fun hw=>?_) (fun hw=>?_)<;>try omega|fail
  all_goals first
   | exact aZ
   |(exfalso;refine hgo ⟨?_,rfl⟩;omega)
   |(rw[SY];exact bE (View.vec rfl (by simp) (by simp) (RE _)) (aQ.refl rfl))
def AR(p:Table × Int): AV:= .bJ [bI p.1,I p.2]
theorem MU(z:Bool){s:aH}(h:1400<s.length): dI z s=(fJ,5):=by unfold dI;rw[if_pos h]
theorem ZQ{s:aH}(h:s.length≤1400): dI false s=if(fS false s).2.2=true∨cH (fS false s).1≠(s,0)then (fJ,4)else ((fS false s).1,0):=by
 unfold dI;rw[if_neg (by omega)];simp
theorem BN{σ : ai}{a E:AV}{n:Int}(h:View σ a E): aQ σ [a,I n] [E,I n]:= .cons h (.cons (.refl _ rfl) (.nil _))
def rv(l:List cK): AV:=match l with
 | []=> .ae
 | _=> .own ER 3 l.length 0 l.length
def SZ(l:List cK): List aR:=match l with
 | []=>[]
 | _=>[.vec ER (l.map cj)]
abbrev o0T: aR:= .cells [.str [],.ae,.ae,I 0,I 0,.ae]
abbrev Il(nm:aH)(ins outs:List bV)(p g:Int)(v:AV): aR:= .cells [.str nm,.aG false EC (ins.map bp),.aG false EC (outs.map bp),I p,I g,v]
set_option maxHeartbeats 2000000 in
theorem uS(s:aH): aq Tryz.prog kH [.str s] (AR (dI false s)):=by
 by_cases j4:1400<s.length
 ·rw[MU false j4]
  refine aq.of_nil (Bg (by simp) ?_) (by simp[AR])
  unfold vM aM
  intro Q aC aD aE
  repeat' first|refine aB ?_|refine aA (fun hw=>?_) (fun hw=>?_)<;>try omega|fail
  exact bw (BN (jl _))
 have hs:s.length≤1400:=by omega
 have ok:=(AO false hs).1
 have cB:=k_ _ ok
 clear ok
 rw[ZQ hs]
 have h1:=nv s false
 have c1:=Cp s false (by omega)
 obtain⟨⟨nm,s1,b1⟩,ha⟩:∃ a,dV s false=a:=⟨_,rfl⟩
 rw[ha]at h1 c1
 dsimp only at h1 c1
 have h2:=jm s1 b1
 have c2:=uR s1 b1 (by omega)
 obtain⟨⟨po,s2,b2⟩,hp⟩:∃ a,fj s1 b1=a:=⟨_,rfl⟩
 rw[hp]at h2 c2
 dsimp only at h2 c2
 have h3:=jm s2 b2
 have c3:=uR s2 b2 (by omega)
 obtain⟨⟨ag,s3,b3⟩,hg⟩:∃ a,fj s2 b2=a:=⟨_,rfl⟩
 rw[hg]at h3 c3
 dsimp only at h3 c3
 have h4:=oF none s3 b3 (n:=1400) (by omega)
 have c4:=Ik none kj s3 b3 (by omega) (fun s b _=>Uc s b)
 obtain⟨⟨ins,s4,b4⟩,hi⟩:∃ a,dR none s3 b3=a:=⟨_,rfl⟩
 rw[hi]at h4 c4
 dsimp only at h4 c4
 have h5:=oF (some 8) s4 b4 (n:=1400) (by omega)
 have c5:=Ik (some 8) lg s4 b4 (by omega) (fun s b h=>WQ s b (by omega))
 obtain⟨⟨outs,s5,b5⟩,ho⟩:∃ a,dR (some 8) s4 b4=a:=⟨_,rfl⟩
 rw[ho]at h5 c5
 dsimp only at h5 c5
 have h6:=jm s5 b5
 have c6:=uR s5 b5 (by omega)
 obtain⟨⟨n,s6,b6⟩,hn⟩:∃ a,fj s5 b5=a:=⟨_,rfl⟩
 rw[hn]at h6 c6
 dsimp only at h6 c6
 obtain⟨R,hR⟩:∃ R,gu false ins.length outs.length (Cn false n) [] s6 b6=R:=⟨_,rfl⟩
 have hrd:fS false s=(⟨nm,ins,outs,po,ag,R.1⟩,R.2.1,R.2.2):=by
  have e8:KJ false=8:=rfl
  unfold fS
  rw[ha];dsimp only
  rw[hp];dsimp only
  rw[hg];dsimp only
  rw[hi,e8];dsimp only
  rw[ho];dsimp only
  rw[hn];dsimp only
  rw[hR]
 clear ha hp hg hi ho hn
 rw[hrd]at cB ⊢
 clear hrd
 dsimp only at cB ⊢
 obtain⟨mm,wT,Gm⟩:∃ mm:Int,(if(25:Int)<n then(25:Int)else n)=mm∧Cn false n=mm.toNat:=⟨_,rfl,by unfold Cn;simp only[Bool.false_eq_true,if_false];congr 1;show min n 25=_;split<;>omega⟩
 have ahR:mm≤25:=by rw[← wT];split<;>omega
 rw[Gm]at hR
 obtain⟨E,hE⟩:∃ E,(if R.2.2=true∨cH ⟨nm,ins,outs,po,ag,R.1⟩≠(s,0)then (fJ,4)else (⟨nm,ins,outs,po,ag,R.1⟩,0):Table × Int)=E:=⟨_,rfl⟩
 rw[hE]
 simp only[fI,bq]at c1 c2 c3 c4 c5 c6
 refine aq.of_nil (Bg (by simp) ?_) (by simp[AR])
 unfold vM aM
 intro Q aC aD aE
 repeat' first|simp (disch:=omega) only[go_sem,aC,aD,aE,aj,au,ak,Nat.reduceAdd,Nat.reduceBEq,↓reduceIte,wT]|refine aB ?_|refine aS c1 ?_|refine aS c2 ?_|refine aS c3 ?_|with_reducible refine Ro c4 rfl ?_|with_reducible refine Ro c5 rfl ?_|refine aS c6 ?_|refine aA (fun hw=>?_) (fun hw=>?_)<;>try omega|fail
 with_reducible refine a_ [37,38,39,40,41,42,43,44,45,46,47,48,49,50,51,52,53,54,55,56,57,58,59,60,61,62,63,64,65] (fun q:List cK × aH × Bool=>[]) (fun q=>o0T:: .cells [.str q.2.1,.bool q.2.2]::Il nm ins outs po ag (rv q.1)::SZ q.1) (fun q=>q.1.length≤25∧q.2.1.length≤1400∧R=gu false ins.length outs.length (mm.toNat-q.1.length) q.1 q.2.1 q.2.2) (fun q=>mm.toNat-q.1.length) (([],s6,b6)) ?_ ?_ ?_ ?_
 ·exact⟨by simp,by dsimp only;omega,hR.symm⟩
 ·rfl
 ·exact at_
 rintro⟨rs,s7,b7⟩ u ⟨g0,g1,g2⟩
 dsimp only at g0 g1 g2
 have hrl:rs.length≤2 ^ 20:=by omega
 by_cases hgo:(rs.length:Int)<mm∧b7=false
 ·obtain⟨hlt,rfl⟩:=hgo
  obtain⟨j,hj⟩:∃ j,mm.toNat-rs.length=j+1:=⟨mm.toNat-rs.length-1,by omega⟩
  rw[hj,gu,if_neg (by simp)]at g2
  have ho:=KM false ins.length outs.length s7 false (n:=1400) g1
  unfold kD at g2 ho
  have d1:=FQ ins.length s7 false (by omega) (by omega)
  have q1:=xq ins.length [] s7 false 1400 g1 (by simp)
  generalize de ins.length [] s7 false=a at *
  obtain⟨xs,s8,b8⟩:=a
  dsimp only at g2 d1 q1 ho
  have d2:=FQ outs.length s8 b8 (by omega) (by omega)
  generalize de outs.length [] s8 b8=a at *
  obtain⟨ys,s9,b9⟩:=a
  dsimp only at g2 d2 ho
  have hb9:(b9 ||(false && ins.length+outs.length==0))=b9:=by simp
  rw[hb9]at g2
  simp only[fI,dS]at d1 d2
  have Ja:mm.toNat-(rs++[(⟨xs,ys⟩:cK)]).length=j:=by simp;omega
  cases rs with
  | nil =>
    simp only[rv,SZ]
    repeat' first|refine aB ?_|refine aS d1 ?_|refine aS d2 ?_|refine aA (fun hw=>?_) (fun hw=>?_)<;>try omega|fail
    all_goals first|exact aZ|skip
    refine⟨([⟨xs,ys⟩],s9,b9),?_,?_,?_,bG,at_⟩
    ·dsimp only
     rw[List.nil_append]at Ja g2
     rw[Ja];exact⟨by simp,by omega,g2⟩
    ·simp at hj ⊢;omega
    ·first|rfl|(simp[go_sem,rv,SZ];done)
  | cons x rs =>
    simp only[rv,SZ]
    repeat' first|refine aB ?_|refine aS d1 ?_|refine aS d2 ?_|refine aA (fun hw=>?_) (fun hw=>?_)<;>try omega|fail
    all_goals first|exact aZ|skip
    refine⟨(x::rs++[⟨xs,ys⟩],s9,b9),?_,?_,?_,bG,at_⟩
    ·dsimp only
     rw[Ja];exact⟨by simp at g0 hlt ⊢;omega,by omega,g2⟩
    ·simp at hj ⊢;omega
    ·first|rfl|(simp[go_sem,rv,SZ];done)
 ·have SY : R = (rs, s7, b7) := by
   rw[g2]
   cases hk:mm.toNat-rs.length with
   | zero=>rw[gu]
   | succ j =>
     rw[gu,if_pos]
     cases b7 with
     | true=>rfl
     | false=>exact absurd ⟨by omega,rfl⟩ hgo
  subst SY
  dsimp only at cB hE
  generalize hB:cH ⟨nm,ins,outs,po,ag,rs⟩=B at *
  obtain⟨bs,be⟩:=B
  simp only[eB,bI,dc,bq,cQ]at cB
  have Vn:∀ p:Prop,[Decidable p]→(p↔(b7=true∨(bs,be)≠(s,0)))→(if p then(fJ,4)else (⟨nm,ins,outs,po,ag,rs⟩,0):Table × Int)=E:=fun p _ hp=>by
   rw[← hE];by_cases h:p
   ·rw[if_pos h,if_pos (hp.1 h)]
   ·rw[if_neg h,if_neg (fun h'=>h (hp.2 h'))]
  have hno:b7=true∨be≠0∨bs≠s→E=(fJ,4):=fun h=>by
   rw[← hE,if_pos];rcases h with h|h|h
   ·exact .inl h
   ·exact .inr (fun e=>h (Prod.mk.inj e).2)
   ·exact .inr (fun e=>h (Prod.mk.inj e).1)
  have hyes:b7=false→be=0→bs=s→E=(⟨nm,ins,outs,po,ag,rs⟩,0):=fun h1 h2 h3=>by
   rw[← hE,if_neg];rw[h1,h2,h3];simp
  clear Vn
  cases rs with
  | nil =>
    simp only[rv,SZ]
    cases b7
    all_goals
     repeat' first|refine aB ?_|refine OY cB ?_|refine aA (fun hw=>?_) (fun hw=>?_)<;>try omega|fail
    all_goals first
     | exact aZ
     |(exfalso;refine hgo ⟨?_,rfl⟩;omega)
     |(rw[hno (by simp_all)];exact bw (BN (jl _)))
     |(rw[hyes rfl (by assumption) (by assumption)];refine bw (BN ?_);exact View.mq (.cons (.refl _ rfl) (.cons (.refl _ (by simp)) (.cons (.refl _ (by simp)) (.cons (.refl _ rfl) (.cons (.refl _ rfl) (.cons (.ae _) (.nil _))))))))
  | cons x rs =>
    simp only[rv,SZ]
    cases b7
    all_goals
     repeat' first|refine aB ?_|refine RB cB ?_|refine aA (fun hw=>?_) (fun hw=>?_)<;>try omega|fail
    all_goals first
     | exact aZ
     |(exfalso;refine hgo ⟨?_,rfl⟩;omega)
     |(rw[hno (by simp_all)];exact bw (BN (jl _)))
     |(rw[hyes rfl (by assumption) (by assumption)];refine bw (BN ?_);exact View.mq (.cons (.refl _ rfl) (.cons (.refl _ (by simp)) (.cons (.refl _ (by simp)) (.cons (.refl _ rfl) (.cons (.refl _ rfl) (.cons (View.vec rfl (by simp) (by simp) (O1 _)) (.nil _))))))))
theorem xu(s:aH)(b:Bool)(hs:s.length≤2 ^ 60): aV Tryz.prog fZ 0 [] (fI s b) (fI (fj s b).2.1 (fj s b).2.2) (I (fj s b).1):=by
 have c:=oe s (by omega)
 unfold fj
 generalize takeN s=t at *
 obtain⟨n,r,e⟩:=t
 simp only[eN]at c
 refine aV.bH (FU (by simp) ?_) rfl (qR _ _)
 unfold wW aM
 intro Q aC aD aE
 cases b<;>simp only[fI]
 all_goals
  repeat' first|refine aB ?_|refine aF c ?_|refine aA (fun hw=>?_) (fun hw=>?_)<;>try omega|fail
 all_goals first|exact aZ|(refine bE (View.eqv rfl rfl) (aQ.eqv ?_ rfl);simp[fI];done)|(refine bE (View.eqv rfl rfl) (aQ.eqv ?_ rfl);simp_all[bne,fI];done)
theorem wM(s:aH)(b:Bool)(hs:s.length≤2 ^ 60): aV Tryz.prog gE 0 [] (fI s b) (fI (dV s b).2.1 (dV s b).2.2) (.str (dV s b).1):=by
 have c:=Ds s 1400 (by omega)
 unfold dV
 generalize eF s 1400=t at *
 obtain⟨n,r,e⟩:=t
 simp only[eS]at c
 refine aV.bH (DZ (by simp) ?_) rfl (qR _ _)
 unfold u7 aM
 intro Q aC aD aE
 cases b<;>simp only[fI]
 all_goals
  repeat' first|refine aB ?_|refine aF c ?_|refine aA (fun hw=>?_) (fun hw=>?_)<;>try omega|fail
 all_goals first|exact aZ|(refine bE (View.eqv rfl rfl) (aQ.eqv ?_ rfl);simp[fI];done)|(refine bE (View.eqv rfl rfl) (aQ.eqv ?_ rfl);simp_all[bne,fI];done)
def IK(o:Bool)(c:bV): AV:= .agg [.str c.name,I c.kind,if o then .aG false EV (c.order.map gO)else .ae]
theorem Pw{α : Type}{σ : ai}{f g : α→AV}: ∀ {l:List α},(∀ x ∈ l,View σ (f x) (g x))→aQ σ (l.map f) (l.map g)
 | [],_=> .nil _
 | x::l,h=> .cons (h x (by simp)) (Pw fun y hy=>h y (by simp[hy]))
theorem Yo{σ : ai}{o:Bool}{c:bV}(h:o=false→c.order=[]): View σ (IK o c) (bp c):=by
 cases o with
 | true=>exact .refl _ (Au c)
 | false =>
   obtain⟨a,b,l⟩:=c
   obtain rfl:l=[]:=h rfl
   exact View.mq (.cons (.refl _ rfl) (.cons (.refl _ rfl) (.cons (.ae _) (.nil _))))
def AU(o:Bool): Option Int:=if o then some 1400 else none
set_option maxHeartbeats 1000000 in
theorem JT(o:Bool)(s:aH)(b:Bool)(hs:s.length≤2 ^ 29): aV Tryz.prog jr 0 [.bool o] (fI s b) (fI (dR (AU o) s b).2.1 (dR (AU o) s b).2.2) (bq (dR (AU o) s b).1):=by
 obtain⟨E,hE⟩:∃ E,dR (AU o) s b=E:=⟨_,rfl⟩
 rw[hE]
 unfold dR at hE
 have c1:=xu s b (by omega)
 have hn:=jm s b
 generalize fj s b=t at *
 obtain⟨n,s0,b0⟩:=t
 dsimp only at hE hn
 simp only[fI]at c1
 refine aV.bH (AW (by simp) ?_) rfl (qR _ _)
 unfold rK aM
 intro Q aC aD aE
 simp only[fI]
 repeat' first|refine aB ?_|refine aS c1 ?_|refine aA (fun hw=>?_) (fun hw=>?_)<;>try omega|fail
 with_reducible refine a_ [5,7,8,9,10,11,14,15,16,17,18,19,20,21,22,23,24,25,26,27,28,29,30,31,32,33,34,35,36,37,38,39,40,41,42,43,44,45,46,47,48,49,50,51,52,53,54,55,56,57,58,59,60,61] (fun q:List bV × aH × Bool × List aR=>[(7,I q.1.length),(5,.own EC 1 q.1.length 0 q.1.length)]) (fun q=> .cells [.str q.2.1,.bool q.2.2.1]:: .vec EC (q.1.map (IK o))::q.2.2.2) (fun q=>(o=false→ ∀ c ∈ q.1,c.order=[])∧q.1.length+q.2.1.length+(if q.2.2.1 then 0 else 1)≤2 ^ 29+1∧E=iZ (AU o) (n.toNat-q.1.length) q.1 q.2.1 q.2.2.1) (fun q=>n.toNat-q.1.length) (([],s0,b0,[])) ?_ ?_ ?_ ?_
 ·refine⟨by simp,?_,by simpa using hE.symm⟩
  dsimp only;split<;>simp<;>omega
 ·rfl
 ·exact at_
 rintro⟨out,s1,b1,τ⟩ u ⟨g0,g1,g2⟩
 dsimp only at g0 g1 g2
 by_cases hgo:(out.length:Int)<n∧b1=false
 ·obtain⟨hlt,rfl⟩:=hgo
  obtain⟨j,hj⟩:∃ j,n.toNat-out.length=j+1:=⟨n.toNat-out.length-1,by omega⟩
  rw[hj,iZ,if_neg (by simp)]at g2
  simp only[Bool.false_eq_true,if_false]at g1
  have c_:=KL (AU o) s1 false
  unfold lK at g2 c_
  have c2:=wM s1 false (by omega)
  have hl:=nv s1 false
  generalize dV s1 false=t at *
  obtain⟨x,s2,b2⟩:=t
  dsimp only at g2 hl c_
  have c3:=xu s2 b2 (by omega)
  have JL:=jm s2 b2
  generalize fj s2 b2=t at *
  obtain⟨kd,s3,b3⟩:=t
  dsimp only at g2 JL c_
  have c4:=Qx s3 1400 (by omega)
  simp only[fI]at c2 c3
  have fin:∀ (l:List dy) (s4:aH) (b4:Bool),nf (AU o) s3 b3=(l,s4,b4)→((out++[(⟨x,kd,l⟩:bV)]).length+s4.length+(if b4 then 0 else 1)≤2 ^ 29+1∧E=iZ (AU o) (n.toNat-(out++[(⟨x,kd,l⟩:bV)]).length) (out++[⟨x,kd,l⟩]) s4 b4)∧n.toNat-(out++[(⟨x,kd,l⟩:bV)]).length<n.toNat-out.length:=fun l s4 b4 hq=>by
   rw[hq]at g2 c_
   dsimp only at g2 c_
   have e:n.toNat-(out++[(⟨x,kd,l⟩:bV)]).length=j:=by simp;omega
   rw[e]
   refine⟨⟨?_,g2⟩,by omega⟩
   rw[List.length_append,List.length_singleton]
   cases b4 with
   | true=>simp;omega
   | false=>have:=c_.2 rfl;simp;omega
  cases o with
  | false =>
    have fin:=fin [] s3 b3 rfl
    repeat' first|refine aB ?_|refine aS c2 ?_|refine aS c3 ?_|refine aA (fun hw=>?_) (fun hw=>?_)<;>try omega|fail
    all_goals first|exact aZ|skip
    refine⟨(out++[⟨x,kd,[]⟩],s3,b3,τ++[aR.cells [.str x,I kd,.ae]]),⟨?_,fin.1⟩,fin.2,?_,bG,?_⟩
    ·intro ho c hc
     rcases List.mem_append.1 hc with hc|hc
     ·first|exact g0 ho c hc|exact g0 rfl c hc
     ·rw[List.mem_singleton.1 hc]<;>first|rfl|cases ho
    ·first|rfl|(simp[go_sem,IK];done)
    ·dsimp only;simp only[List.length_append,List.length_singleton];simp (disch:=omega) only[cU,cE,and_true,go_sem,aC,aD,aE,aj,au,ak,Nat.reduceAdd,Nat.reduceBEq,↓reduceIte,Int.natCast_add,Int.cast_ofNat_Int]<;>(try trivial)<;>(try omega)<;>(try (repeat (first|trivial|(refine And.intro ?_ ?_)|(congr 1;omega))))
  | true =>
    have Pc:nf (AU true) s3 b3=((iz s3 1400).1,(iz s3 1400).2.1,b3 ||(iz s3 1400).2.2 != 0):=rfl
    generalize iz s3 1400=t at *
    obtain⟨l,s4,e4⟩:=t
    simp only[Oh,dH]at c4
    cases b3
    ·cases Yp:decide (e4=0)
     ·have Yp:=of_decide_eq_false Yp
      have fin:=fin l s4 true (by rw[Pc];simp[Yp])
      repeat' first|refine aB ?_|refine aS c2 ?_|refine aS c3 ?_|refine aF c4 ?_|refine aA (fun hw=>?_) (fun hw=>?_)<;>try omega|fail
      all_goals first|exact aZ|skip
      refine⟨(out++[⟨x,kd,l⟩],s4,true,τ++[aR.cells [.str x,I kd,.aG false EV (l.map gO)]]),⟨?_,fin.1⟩,fin.2,?_,bG,?_⟩
      ·intro ho c hc
       rcases List.mem_append.1 hc with hc|hc
       ·first|exact g0 ho c hc|exact g0 rfl c hc
       ·rw[List.mem_singleton.1 hc]<;>first|rfl|cases ho
      ·first|rfl|(simp[go_sem,Yp,IK];done)
      ·dsimp only;simp only[List.length_append,List.length_singleton];simp (disch:=omega) only[cU,cE,and_true,go_sem,aC,aD,aE,aj,au,ak,Nat.reduceAdd,Nat.reduceBEq,↓reduceIte,Int.natCast_add,Int.cast_ofNat_Int]<;>(try trivial)<;>(try omega)<;>(try (repeat (first|trivial|(refine And.intro ?_ ?_)|(congr 1;omega))))
     ·obtain rfl:=of_decide_eq_true Yp
      have fin:=fin l s4 false (by rw[Pc];simp)
      repeat' first|refine aB ?_|refine aS c2 ?_|refine aS c3 ?_|refine aF c4 ?_|refine aA (fun hw=>?_) (fun hw=>?_)<;>try omega|fail
      all_goals first|exact aZ|skip
      refine⟨(out++[⟨x,kd,l⟩],s4,false,τ++[aR.cells [.str x,I kd,.aG false EV (l.map gO)]]),⟨?_,fin.1⟩,fin.2,?_,bG,?_⟩
      ·intro ho c hc
       rcases List.mem_append.1 hc with hc|hc
       ·first|exact g0 ho c hc|exact g0 rfl c hc
       ·rw[List.mem_singleton.1 hc]<;>first|rfl|cases ho
      ·first|rfl|(simp[go_sem,IK];done)
      ·dsimp only;simp only[List.length_append,List.length_singleton];simp (disch:=omega) only[cU,cE,and_true,go_sem,aC,aD,aE,aj,au,ak,Nat.reduceAdd,Nat.reduceBEq,↓reduceIte,Int.natCast_add,Int.cast_ofNat_Int]<;>(try trivial)<;>(try omega)<;>(try (repeat (first|trivial|(refine And.intro ?_ ?_)|(congr 1;omega))))
    ·have fin:=fin l s4 true (by rw[Pc];simp)
     repeat' first|refine aB ?_|refine aS c2 ?_|refine aS c3 ?_|refine aF c4 ?_|refine aA (fun hw=>?_) (fun hw=>?_)<;>try omega|fail
     all_goals first|exact aZ|skip
     refine⟨(out++[⟨x,kd,l⟩],s4,true,τ++[aR.cells [.str x,I kd,.aG false EV (l.map gO)]]),⟨?_,fin.1⟩,fin.2,?_,bG,?_⟩
     ·intro ho c hc
      rcases List.mem_append.1 hc with hc|hc
      ·first|exact g0 ho c hc|exact g0 rfl c hc
      ·rw[List.mem_singleton.1 hc]<;>first|rfl|cases ho
     ·first|rfl|(simp[go_sem,IK];done)
     ·dsimp only;simp only[List.length_append,List.length_singleton];simp (disch:=omega) only[cU,cE,and_true,go_sem,aC,aD,aE,aj,au,ak,Nat.reduceAdd,Nat.reduceBEq,↓reduceIte,Int.natCast_add,Int.cast_ofNat_Int]<;>(try trivial)<;>(try omega)<;>(try (repeat (first|trivial|(refine And.intro ?_ ?_)|(congr 1;omega))))
 ·have SY : E = (out, s1, b1) := by
   rw[g2]
   cases hk:n.toNat-out.length with
   | zero=>rw[iZ]
   | succ j =>
     rw[iZ,if_pos]
     cases b1 with
     | true=>rfl
     | false=>exact absurd ⟨by omega,rfl⟩ hgo
  cases b1
  all_goals
   repeat' first|refine aB ?_|refine aA (fun hw=>?_) (fun hw=>?_)<;>try omega|fail
  all_goals first
   | exact aZ
   |(exfalso;refine hgo ⟨?_,rfl⟩;omega)
   |(rw[SY];exact bE (View.abR rfl (by simp) (by simp) (Pw fun c hc=>Yo fun ho=>g0 ho c hc)) (aQ.refl rfl))
end Go.Proofs.YtmbgnaoilncbnaaGreatDoor
