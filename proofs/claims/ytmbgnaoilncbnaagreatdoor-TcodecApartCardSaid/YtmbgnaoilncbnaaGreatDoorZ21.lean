/- Part of a proof: see Root. -/
import Derived.Test.YtmbgnaoilncbnaaGreatDoorZ20
set_option linter.unnecessarySimpa false
set_option linter.unusedSimpArgs false
set_option linter.unusedVariables false
namespace Go.Proofs.YtmbgnaoilncbnaaGreatDoor
open Go.AM
set_option maxRecDepth 4000
theorem Me(T:List Tok)(fr lvl:Int)(hT:T.length≤2 ^ 50)(hs:∀ q,(T.getD q default).s.length≤2 ^ 62): aq Tryz.prog uc [oZ T,I fr,I lvl] (xk (cR T fr lvl)):=by
 by_cases hg:fr<0∨(T.length:Int)<fr∨lvl<0∨7<lvl
 ·have e:cR T fr lvl=(x0,0,2):=by unfold cR;rw[if_pos hg]
  rw[e]
  have e1:∀ σ : ai,View σ (.agg [I 0,I 0,I 0,.str [],.str [],.ae]) (aJ x0):=fun σ=>fW (.ae _)
  simp only[xk]
  generalize aJ x0=E at *
  refine aq.of_nil (yb (by simp) ?_) (by simp)
  unfold uw aM
  intro Q aC aD aE
  repeat' first|refine aB ?_|refine aA (fun hw=>?_) (fun hw=>?_)<;>try omega|fail
  all_goals first|exact bw (fF (e1 _))|(exfalso;omega)
 ·obtain⟨p,rfl⟩:∃ p:Nat,fr=p:=⟨fr.toNat,by omega⟩
  obtain⟨l,rfl⟩:∃ l:Nat,lvl=l:=⟨lvl.toNat,by omega⟩
  have cr:=VX T (by omega) hs (8*T.length+9) l p (by omega) (by omega) (by omega)
  have e:cR T p l=if(bh T (8*T.length+9) none l p).bad then(x0,((bh T (8*T.length+9) none l p).p:Int),11)else ((bh T (8*T.length+9) none l p).x,((bh T (8*T.length+9) none l p).p:Int),0):=by
   unfold cR;rw[if_neg hg,Int.toNat_natCast,Int.toNat_natCast]
  rw[e]
  simp only[mX]at cr
  generalize bh T (8*T.length+9) none l p=r at *
  obtain⟨rx,rp,rb⟩:=r
  dsimp only at *
  have e1:∀ σ : ai,View σ (.agg [I 0,I 0,I 0,.str [],.str [],.ae]) (aJ x0):=fun σ=>fW (.ae _)
  have e2:∀ σ : ai,View σ (.agg [I rx.op,I rx.v.kind,I rx.v.n,.str rx.v.s,.str rx.s,.aG false EX (rx.l.map aJ)]) (aJ rx):=fun σ=>View.eqv (aN _).symm (cD _)
  rw[aN]at cr
  simp only[bn]at cr
  cases rb with
  | true =>
    simp only[if_true,xk]
    generalize aJ x0=E at *
    refine aq.of_nil (yb (by simp) ?_) (by simp)
    unfold uw aM
    intro Q aC aD aE
    repeat' first|refine aB ?_|refine aS cr ?_|refine aA (fun hw=>?_) (fun hw=>?_)<;>try omega|fail
    all_goals first|exact bw (fF (e1 _))|(exfalso;omega)
  | false =>
    simp only[Bool.false_eq_true,if_false,xk]
    generalize aJ rx=E at *
    refine aq.of_nil (yb (by simp) ?_) (by simp)
    unfold uw aM
    intro Q aC aD aE
    repeat' first|refine aB ?_|refine aS cr ?_|refine aA (fun hw=>?_) (fun hw=>?_)<;>try omega|fail
    all_goals first|exact bw (fF (e2 _))|(exfalso;omega)
theorem aaT(T:List Tok): (cR T 0 0).2.2=0∨(cR T 0 0).2.2=11:=by
 unfold cR
 rw[if_neg (by omega)]
 split
 ·exact .inr rfl
 ·exact .inl rfl
theorem Jy(s:aH)(hs:s.length≤2 ^ 30): aq Tryz.prog xN [.str s] (xk (cz s)):=by
 have cl:=O3 s hs
 obtain⟨f1,f2⟩:=mb s
 have cr:=Me (bf s).1 0 0 (by omega) (fun q=>by have:=f2 q;omega)
 have hz:=Ei (bf s).1 0 0
 obtain⟨Mc,zq⟩:=IA (bf s).1 0 0
 have he:=aaT (bf s).1
 have hP:cz s=if(bf s).2.2≠0 then(x0,(bf s).2.1,(bf s).2.2)
  else if(cR (bf s).1 0 0).2.1<(bf s).1.length then(x0,((bf s).1.getD (cR (bf s).1 0 0).2.1.toNat default).pos,11)
  else if(cR (bf s).1 0 0).2.2≠0 then(x0,(s.length:Int),(cR (bf s).1 0 0).2.2)
  else if 12<fK (cR (bf s).1 0 0).1 then(x0,0,12)
  else((cR (bf s).1 0 0).1,0,0):=rfl
 rw[hP]
 clear hP f2
 generalize cR (bf s).1 0 0=r at *
 generalize bf s=L at *
 obtain⟨T,la,le⟩:=L
 obtain⟨rx,rn,re⟩:=r
 dsimp only at *
 have cd:=Ee rx (by omega)
 obtain⟨n,rfl⟩:∃ n:Nat,rn=n:=⟨rn.toNat,by omega⟩
 have e1:∀ σ : ai,View σ (.agg [I 0,I 0,I 0,.str [],.str [],.ae]) (aJ x0):=fun σ=>fW (.ae _)
 have e2:∀ σ : ai,View σ (.agg [I rx.op,I rx.v.kind,I rx.v.n,.str rx.v.s,.str rx.s,.aG false EX (rx.l.map aJ)]) (aJ rx):=fun σ=>View.eqv (aN _).symm (cD _)
 simp only[xk]at cr ⊢
 rw[aN]at cr cd
 simp only[Km,oZ]at cl cr
 by_cases h1:le≠0
 ·rw[if_pos h1]
  generalize aJ x0=E at *
  refine aq.of_nil (mR (by simp) ?_) (by simp)
  unfold lS aM
  intro Q aC aD aE
  repeat' first|refine aB ?_|refine aF cl ?_|refine aA (fun hw=>?_) (fun hw=>?_)<;>try omega|fail
  all_goals exact bw (fF (e1 _))
 rw[if_neg h1]
 by_cases h2:(n:Int)<T.length
 ·rw[if_pos h2,Int.toNat_natCast]
  generalize aJ x0=E at *
  have hn:n<T.length:=by omega
  refine aq.of_nil (mR (by simp) ?_) (by simp)
  unfold lS aM
  intro Q aC aD aE
  repeat' first|refine aB ?_|refine aF cl ?_|refine aF cr ?_|refine aA (fun hw=>?_) (fun hw=>?_)<;>try omega|fail
  all_goals exact bw (fF (e1 _))
 rw[if_neg h2]
 by_cases h3:re≠0
 ·rw[if_pos h3]
  obtain rfl : re = 11 := by rcases he with h | h
                             ·exact absurd h h3
                             ·exact h
  generalize aJ x0=E at *
  refine aq.of_nil (mR (by simp) ?_) (by simp)
  unfold lS aM
  intro Q aC aD aE
  repeat' first|refine aB ?_|refine aF cl ?_|refine aF cr ?_|refine aA (fun hw=>?_) (fun hw=>?_)<;>try omega|fail
  all_goals exact bw (fF (e1 _))
 rw[if_neg h3]
 by_cases h4:12<fK rx
 ·rw[if_pos h4]
  generalize aJ x0=E at *
  refine aq.of_nil (mR (by simp) ?_) (by simp)
  unfold lS aM
  intro Q aC aD aE
  repeat' first|refine aB ?_|refine aF cl ?_|refine aF cr ?_|refine aF cd ?_|refine aA (fun hw=>?_) (fun hw=>?_)<;>try omega|fail
  all_goals exact bw (fF (e1 _))
 ·rw[if_neg h4]
  generalize aJ rx=E at *
  refine aq.of_nil (mR (by simp) ?_) (by simp)
  unfold lS aM
  intro Q aC aD aE
  repeat' first|refine aB ?_|refine aF cl ?_|refine aF cr ?_|refine aF cd ?_|refine aA (fun hw=>?_) (fun hw=>?_)<;>try omega|fail
  all_goals exact bw (fF (e2 _))
def eI(n:Int): AV:=I n
attribute [go_sem] eI
theorem acu(n:Int): (eI n).cF=true:=rfl
theorem HF(l:List Int): AV.bW (l.map eI)=true:=fA _ _ acu
def fX(a b:Int): Bool:=decide (a=b) || decide (a=0) || decide (b=0)
def UC(a b:Int): Int:=if a=0 then b else a
theorem oA(a b:Int): aq Tryz.prog gS [I a,I b] (.bool (fX a b)):=by
 refine aq.of_nil (NP (by simp) ?_) rfl
 unfold Ft aM
 intro Q aC aD aE
 repeat' first|refine aB ?_|refine aA (fun hw=>?_) (fun hw=>?_)<;>try omega|fail
 all_goals refine aL ?_ rfl
 all_goals (refine congrArg AV.bool ?_;rw[Bool.eq_iff_iff];simp only[fX,Bool.and_eq_true,Bool.or_eq_true,decide_eq_true_eq,beq_iff_eq,Bool.not_eq_true',decide_eq_false_iff_not,beq_eq_false_iff_ne,ne_eq,true_iff,false_iff,iff_true,iff_false,Bool.false_eq_true,Bool.true_eq_false,not_and,not_or]at *;omega)
theorem qL(a b:Int): aq Tryz.prog dY [I a,I b] (.bool (fX a b)):=by
 refine aq.of_nil (Qb (by simp) ?_) rfl
 unfold GV aM
 intro Q aC aD aE
 repeat' first|refine aB ?_|refine aA (fun hw=>?_) (fun hw=>?_)<;>try omega|fail
 all_goals refine aL ?_ rfl
 all_goals (refine congrArg AV.bool ?_;rw[Bool.eq_iff_iff];simp only[fX,Bool.and_eq_true,Bool.or_eq_true,decide_eq_true_eq,beq_iff_eq,Bool.not_eq_true',decide_eq_false_iff_not,beq_eq_false_iff_ne,ne_eq,true_iff,false_iff,iff_true,iff_false,Bool.false_eq_true,Bool.true_eq_false,not_and,not_or]at *;omega)
theorem FG(a b:Int): aq Tryz.prog kq [I a,I b] (I (UC a b)):=by
 refine aq.of_nil (C9 (by simp) ?_) rfl
 unfold uA aM
 intro Q aC aD aE
 repeat' first|refine aB ?_|refine aA (fun hw=>?_) (fun hw=>?_)<;>try omega|fail
 all_goals refine aL ?_ rfl
 all_goals (unfold UC;first|rw[if_neg (by assumption)]|rw[if_pos (by assumption)]|(subst a;rfl))
theorem RR(a b:Int): aq Tryz.prog yM [I a,I b] (I (UC a b)):=by
 refine aq.of_nil (Tq (by simp) ?_) rfl
 unfold LS aM
 intro Q aC aD aE
 repeat' first|refine aB ?_|refine aA (fun hw=>?_) (fun hw=>?_)<;>try omega|fail
 all_goals refine aL ?_ rfl
 all_goals (unfold UC;first|rw[if_neg (by assumption)]|rw[if_pos (by assumption)]|(subst a;rfl))
theorem UD{α : Type}{p : α→Bool}(l:List α): l.all p = !(l.any fun x=> !(p x)):=by
 induction l with
 | nil=>rfl
 | cons x r ih=>simp[ih]
theorem Mf(w:Int)(l:List Int)(hl:l.length≤2 ^ 60): aq Tryz.prog pM [I w,.aG false E1 (l.map eI)] (.bool (l.all fun k=>fX k w)):=by
 refine aq.of_nil (Qm (by simp) ?_) (by simp[AV.cF,AV.bW,HF])
 unfold Hf aM
 intro Q aC aD aE
 repeat' first|refine aB ?_|refine aA (fun hw=>?_) (fun hw=>?_)<;>try omega|fail
 with_reducible refine a_ [4,6,9,10,11,12,13,14,15,16,17] (fun i:Nat=>[(9,I i)]) (fun _=>[]) (fun i=>i≤l.length∧ ∀ k,k<i→(!(fX (l.getD k default) w))=false) (fun i=>l.length-i) (0) ?_ ?_ ?_ ?_
 ·simp
 ·rfl
 ·exact at_
 rintro i r ⟨h1,h2⟩
 by_cases hi:i<l.length
 ·repeat' first|refine aB ?_|refine aF (oA _ _) ?_|refine aA (fun hw=>?_) (fun hw=>?_)<;>try omega|fail
  ·refine aL ?_ rfl
   rw[UD,Ax (p:=fun x=> !(fX x w)) hi (by simpa using hw)];rfl
  ·refine⟨i+1,?_,?_,by first|rfl|(simp[go_sem];done),bG,at_⟩<;>(try dsimp only)
   ·exact⟨by omega,aW h2 (by simpa using hw)⟩
   ·omega
 ·repeat' first|refine aB ?_|refine aA (fun hw=>?_) (fun hw=>?_)<;>try omega|fail
  refine aL ?_ rfl
  rw[UD,vZ (p:=fun x=> !(fX x w)) (fun k hk=>h2 k (by omega))];rfl
theorem I5(l:List Int)(v:Int)(hl:l.length≤2 ^ 60): aq Tryz.prog oH [.aG false E1 (l.map eI),I v] (I (gZ (fun x=>x==v) l)):=by
 refine aq.of_nil (D9 (by simp) ?_) (by simp[AV.cF,AV.bW,HF])
 unfold vq aM
 intro Q aC aD aE
 repeat' first|refine aB ?_|refine aA (fun hw=>?_) (fun hw=>?_)<;>try omega|fail
 with_reducible refine a_ [4,5,8,9,10,11,12,13,14,15,16,17,18] (fun i:Nat=>[(8,I i)]) (fun _=>[]) (fun i=>i≤l.length∧ ∀ k,k<i→(l.getD k default==v)=false) (fun i=>l.length-i) (0) ?_ ?_ ?_ ?_
 ·simp
 ·rfl
 ·exact at_
 rintro i r ⟨h1,h2⟩
 by_cases hi:i<l.length
 ·repeat' first|refine aB ?_|refine aA (fun hw=>?_) (fun hw=>?_)<;>try omega|fail
  ·refine aL ?_ rfl
   rw[oz (p:=fun x=>x==v) hi h2 (by simp_all)]
  ·refine⟨i+1,?_,?_,by first|rfl|(simp[go_sem];done),bG,at_⟩<;>(try dsimp only)
   ·exact⟨by omega,aW h2 (by rw[beq_eq_false_iff_ne];intro h;exact hw h.symm)⟩
   ·omega
 ·repeat' first|refine aB ?_|refine aA (fun hw=>?_) (fun hw=>?_)<;>try omega|fail
  refine aL ?_ rfl
  rw[nr (p:=fun x=>x==v) (fun k hk=>h2 k (by omega))]
theorem Ek(l:List Int)(v:Int)(hl:l.length≤2 ^ 60): aq Tryz.prog mw [.aG false E1 (l.map eI),I v] (.bool (decide (0≤gZ (fun x=>x==v) l))):=by
 refine aq.of_nil (A2 (by simp) ?_) (by simp[AV.cF,AV.bW,HF])
 unfold rN aM
 intro Q aC aD aE
 repeat' first|refine aB ?_|refine aF (I5 l v hl) ?_|refine aA (fun hw=>?_) (fun hw=>?_)<;>try omega|fail
 all_goals exact aL rfl rfl
def pZ(op:Int)(ks:List Int): Int × Bool :=
 if op=3∨op=5∨op=6∨op=7 then(1,ks.all fun k=>fX k 1)
 else if op=4 then(if UC (ks.getD 0 0) (ks.getD 1 0)=2 then(2,ks.all fun k=>fX k 2)else (1,ks.all fun k=>fX k 1))
 else if op=8∨op=9 then(3,fX (ks.getD 0 0) (ks.getD 1 0))
 else if op=10∨op=11∨op=12∨op=13 then(3,fX (ks.getD 0 0) (ks.getD 1 0) && !(decide (0≤gZ (fun x=>x==3) ks)))
 else if op=14∨op=15 then(3,ks.all fun k=>fX k 3)
 else(UC (ks.getD 1 0) (ks.getD 2 0),fX (ks.getD 0 0) 3 && fX (ks.getD 1 0) (ks.getD 2 0))
theorem RT(a:Int): aq Tryz.prog lR [I 3,.aG false E1 ([a].map eI)] (.bJ [I (pZ 3 [a]).1,.bool (pZ 3 [a]).2]):=by
 have h:=fun w=>Mf w [a] (by simp)
 simp only[List.map,eI]at h ⊢
 refine aq.of_nil (vV (by simp) ?_) rfl
 unfold sB aM
 intro Q aC aD aE
 repeat' first|simp (disch:=omega) only[go_sem,aC,aD,aE,aj,au,ak,Nat.reduceAdd,Nat.reduceBEq,↓reduceIte,Int.reduceToNat]|refine aB ?_|refine aF (h _) ?_|refine aA (fun hw=>?_) (fun hw=>?_)<;>try omega|fail
 all_goals exact aP rfl rfl
theorem RU(op a b:Int)(h4:4≤op)(XG:op≤15): aq Tryz.prog lR [I op,.aG false E1 ([a,b].map eI)] (.bJ [I (pZ op [a,b]).1,.bool (pZ op [a,b]).2]):=by
 have h:=fun w=>Mf w [a,b] (by simp)
 have hc:=Ek [a,b] 3 (by simp)
 simp only[List.map,eI]at h hc ⊢
 generalize hR:pZ op [a,b]=R
 refine aq.of_nil (vV (by simp) ?_) rfl
 unfold sB aM
 intro Q aC aD aE
 repeat' first|simp (disch:=omega) only[go_sem,aC,aD,aE,aj,au,ak,Nat.reduceAdd,Nat.reduceBEq,↓reduceIte,Int.reduceToNat]|refine aB ?_|refine aF (h _) ?_|refine aF hc ?_|refine aF (FG a b) ?_|refine aF (oA a b) ?_|refine aA (fun hw=>?_) (fun hw=>?_)<;>try omega|fail
 all_goals (refine aP ?_ rfl;clear aC aD aE h hc;subst hR)
 all_goals (simp_all[pZ];done)
theorem RV(a b c:Int): aq Tryz.prog lR [I 16,.aG false E1 ([a,b,c].map eI)] (.bJ [I (pZ 16 [a,b,c]).1,.bool (pZ 16 [a,b,c]).2]):=by
 simp only[List.map,eI]
 refine aq.of_nil (vV (by simp) ?_) rfl
 unfold sB aM
 intro Q aC aD aE
 repeat' first|simp (disch:=omega) only[go_sem,aC,aD,aE,aj,au,ak,Nat.reduceAdd,Nat.reduceBEq,↓reduceIte,Int.reduceToNat]|refine aB ?_|refine aF (FG b c) ?_|refine aF (oA a 3) ?_|refine aF (oA b c) ?_|refine aA (fun hw=>?_) (fun hw=>?_)<;>try omega|fail
 all_goals (refine aP ?_ rfl;simp_all[pZ])
def nN(op:Int)(ks:List Int): Int × Int:=if(pZ op ks).2 then((pZ op ks).1,0)else (0,14)
theorem agi(a b:Int): decide (0≤gZ (fun x=>x==3) [a,b])=(decide (a=3) || decide (b=3)):=by
 by_cases h1:a=3
 ·subst h1;simp[gZ,List.findIdx?_cons]
 ·by_cases h2:b=3
  ·subst h2;simp[gZ,List.findIdx?_cons,h1]
  ·simp[gZ,List.findIdx?_cons,h1,h2]
theorem XH(a:Int): aq Tryz.prog qG [I 3,.aG false E1 ([a].map eI)] (.bJ [I (nN 3 [a]).1,I (nN 3 [a]).2]):=by
 simp only[List.map,eI]
 generalize hR:nN 3 [a]=R
 refine aq.of_nil (Ca (by simp) ?_) rfl
 unfold yO aM
 intro Q aC aD aE
 repeat' first|simp (disch:=omega) only[go_sem,aC,aD,aE,aj,au,ak,Nat.reduceAdd,Nat.reduceBEq,↓reduceIte,Int.reduceToNat]|refine aB ?_|refine aF (qL _ _) ?_|refine aA (fun hw=>?_) (fun hw=>?_)<;>try omega|fail
 all_goals (refine aP ?_ rfl;clear aC aD aE;subst hR;simp_all[nN,pZ])
theorem XI(op a b:Int)(h4:4≤op)(XG:op≤15): aq Tryz.prog qG [I op,.aG false E1 ([a,b].map eI)] (.bJ [I (nN op [a,b]).1,I (nN op [a,b]).2]):=by
 simp only[List.map,eI]
 generalize hR:nN op [a,b]=R
 refine aq.of_nil (Ca (by simp) ?_) rfl
 unfold yO aM
 intro Q aC aD aE
 repeat' first|simp (disch:=omega) only[go_sem,aC,aD,aE,aj,au,ak,Nat.reduceAdd,Nat.reduceBEq,↓reduceIte,Int.reduceToNat]|refine aB ?_|refine aF (qL _ _) ?_|refine aF (RR _ _) ?_|refine aA (fun hw=>?_) (fun hw=>?_)<;>try omega|fail
 all_goals (refine aP ?_ rfl;clear aC aD aE;subst hR)
 all_goals first|(simp_all[nN,pZ,agi];done)|skip
theorem XJ(a b c:Int): aq Tryz.prog qG [I 16,.aG false E1 ([a,b,c].map eI)] (.bJ [I (nN 16 [a,b,c]).1,I (nN 16 [a,b,c]).2]):=by
 simp only[List.map,eI]
 generalize hR:nN 16 [a,b,c]=R
 refine aq.of_nil (Ca (by simp) ?_) rfl
 unfold yO aM
 intro Q aC aD aE
 repeat' first|simp (disch:=omega) only[go_sem,aC,aD,aE,aj,au,ak,Nat.reduceAdd,Nat.reduceBEq,↓reduceIte,Int.reduceToNat]|refine aB ?_|refine aF (qL _ _) ?_|refine aF (RR _ _) ?_|refine aA (fun hw=>?_) (fun hw=>?_)<;>try omega|fail
 all_goals (refine aP ?_ rfl;clear aC aD aE;subst hR;simp_all[nN,pZ])
theorem q9(fn:FuncId)(cap:List AV)(hcap:AV.bW cap=true)(p:bV→Bool)(l:List bV)(h:∀ k,k<l.length→aq Tryz.prog fn (bp (l.getD k default)::cap) (.bool (p (l.getD k default))))(hl:l.length≤2 ^ 62):
 aq Tryz.prog iu [bq l,.fn (.func fn) [] cap] (I (gZ p l)):=by
 refine aq.of_nil (yc (by simp) ?_) (by simp[AV.cF,AV.bW,hcap,dh])
 unfold oW aM
 intro Q aC aD aE
 repeat' first|refine aB ?_|refine aA (fun hw=>?_) (fun hw=>?_)<;>try omega|fail
 with_reducible refine a_ [4,5,8,9,10,11,12,13,14,15,16,17,18] (fun i:Nat=>[(8,I i)]) (fun _=>[]) (fun i=>i≤l.length∧ ∀ k,k<i→p (l.getD k default)=false) (fun i=>l.length-i) (0) ?_ ?_ ?_ ?_
 ·simp
 ·rfl
 ·exact at_
 ·rintro i r ⟨hi,hp⟩
  by_cases hin:i<l.length
  ·have hx:=h i hin
   simp only[bp,dH]at hx
   repeat' first|refine aB ?_|refine aF hx ?_|refine aA (fun hw=>?_) (fun hw=>?_)<;>try omega|fail
   ·refine aL ?_ rfl
    refine congrArg I ?_
    exact(oz hin hp hw).symm
   ·refine⟨i+1,?_,?_,by first|rfl|(simp[go_sem];done),bG,at_⟩<;>(try dsimp only)
    ·exact⟨by omega,aW hp hw⟩
    ·omega
  ·repeat' first|refine aB ?_|refine aA (fun hw=>?_) (fun hw=>?_)<;>try omega|fail
   refine aL ?_ rfl
   refine congrArg I ?_
   exact(nr fun k hk=>hp k (by omega)).symm
def tj(l:List bV)(s:aH): Int:=gZ (fun c=>c.name==s) l
theorem TI(c:bV)(s:aH): aq Tryz.prog sv [bp c,.dW E1 (.str s) 0] (.bool (c.name==s)):=by
 refine aq.of_nil (NW (by simp) ?_) (by simp[AV.cF,AV.bW,Au])
 unfold FA aM
 intro Q aC aD aE
 repeat' first|refine aB ?_|refine aA (fun hw=>?_) (fun hw=>?_)<;>try omega|fail
 all_goals exact aL rfl rfl
theorem O7(l:List bV)(s:aH)(hl:l.length≤2 ^ 60): aq Tryz.prog wD [bq l,.str s] (I (tj l s)):=by
 have hc:=q9 sv [.dW E1 (.str s) 0] rfl (fun c=>c.name==s) l (fun k _=>TI _ s) (by omega)
 simp only[bq]at hc
 refine aq.of_nil (Rx (by simp) ?_) (by simp[AV.cF,AV.bW,dh])
 unfold Jm aM
 intro Q aC aD aE
 repeat' first|refine aB ?_|refine RB hc ?_|refine aA (fun hw=>?_) (fun hw=>?_)<;>try omega|fail
 all_goals exact aL rfl rfl
theorem RW(l:List bV)(s:aH)(hl:l.length≤2 ^ 60): aq Tryz.prog yK [bq l,.str s] (I (tj l s)):=by
 refine aq.of_nil (Tn (by simp) ?_) (by simp[AV.cF,AV.bW,dh])
 unfold LO aM
 intro Q aC aD aE
 repeat' first|refine aB ?_|refine aA (fun hw=>?_) (fun hw=>?_)<;>try omega|fail
 with_reducible refine a_ [4,5,6,7,8,9,10,11,12,13,14,15,16,17,18,19] (fun i:Nat=>[(5,I i)]) (fun _=>[]) (fun i=>i≤l.length∧ ∀ k,k<i→((l.getD k default).name==s)=false) (fun i=>l.length-i) (0) ?_ ?_ ?_ ?_
 ·simp
 ·rfl
 ·exact at_
 rintro i r ⟨hi,hp⟩
 by_cases hin:i<l.length
 ·repeat' first|refine aB ?_|refine aA (fun hw=>?_) (fun hw=>?_)<;>try omega|fail
  ·refine aL ?_ rfl
   refine congrArg I ?_
   exact(oz (p:=fun c:bV=>c.name==s) hin hp (by simpa using hw)).symm
  ·refine⟨i+1,?_,?_,by first|rfl|(simp[go_sem];done),bG,at_⟩<;>(try dsimp only)
   ·exact⟨by omega,aW hp (by simpa using hw)⟩
   ·omega
 ·repeat' first|refine aB ?_|refine aA (fun hw=>?_) (fun hw=>?_)<;>try omega|fail
  refine aL ?_ rfl
  refine congrArg I ?_
  exact(nr (p:=fun c:bV=>c.name==s) fun k hk=>hp k (by omega)).symm
theorem uG{op:Int}{n:Nat}(h:(n:Int)=gP op)(h1:op≠1)(h2:op≠2): (op=3∧n=1)∨(4≤op∧op≤15∧n=2)∨(op=16∧n=3):=by
 unfold gP at h
 rw[if_neg (by omega)]at h
 by_cases h3:op=3
 ·rw[if_pos h3]at h;omega
 rw[if_neg h3]at h
 by_cases Xy:op=16
 ·rw[if_pos Xy]at h;omega
 rw[if_neg Xy]at h
 by_cases hr:4≤op∧op≤15
 ·rw[if_pos (L7 op hr.1 hr.2).2]at h;omega
 ·rw[yU op (by omega)]at h
  rw[if_neg (by decide)]at h;omega
theorem N6(op:Int)(ks:List Int)(h:(ks.length:Int)=gP op)(h1:op≠1)(h2:op≠2): aq Tryz.prog lR [I op,.aG false E1 (ks.map eI)] (.bJ [I (pZ op ks).1,.bool (pZ op ks).2]):=by
 rcases uG h h1 h2 with⟨rfl,hn⟩|⟨h4,XG,hn⟩|⟨rfl,hn⟩
 ·match ks,hn with
  | [a],_=>exact RT a
 ·match ks,hn with
  | [a,b],_=>exact RU op a b h4 XG
 ·match ks,hn with
  | [a,b,c],_=>exact RV a b c
theorem TJ(op:Int)(ks:List Int)(h:(ks.length:Int)=gP op)(h1:op≠1)(h2:op≠2): aq Tryz.prog qG [I op,.aG false E1 (ks.map eI)] (.bJ [I (nN op ks).1,I (nN op ks).2]):=by
 rcases uG h h1 h2 with⟨rfl,hn⟩|⟨h4,XG,hn⟩|⟨rfl,hn⟩
 ·match ks,hn with
  | [a],_=>exact XH a
 ·match ks,hn with
  | [a,b],_=>exact XI op a b h4 XG
 ·match ks,hn with
  | [a,b,c],_=>exact XJ a b c
mutual
def eW(cs:List bV): Expr→Int × Int
 | .mk op v s l =>
   if op=1 then(v.kind,0)
   else if op=2 then(if tj cs s<0 then(0,13)else ((cs.getD (tj cs s).toNat default).kind,0))
   else if(jP cs l).2=0 then nN op (jP cs l).1 else(0,(jP cs l).2)
def jP(cs:List bV): List Expr→List Int × Int
 | []=>([],0)
 | x :: r =>
   if(eW cs x).2≠0 then([],(eW cs x).2)
   else if(jP cs r).2≠0 then([],(jP cs r).2)
   else((eW cs x).1::(jP cs r).1,0)
end
theorem Kv{cs:List bV}: ∀ {l:List Expr} {ks:List Int},ks.length=l.length→(∀ k,k<l.length→eW cs (l.getD k default)=(ks.getD k 0,0))→jP cs l=(ks,0)
 | [],[],_,_=>by simp only[jP]
 | x :: r, k :: ks, hl, h => by
   have h0:=h 0 (by simp)
   simp only[List.getD_cons_zero]at h0
   have hr:=Kv (l:=r) (ks:=ks) (by simpa using hl) (fun i hi=>by simpa using h (i+1) (by simpa using hi))
   simp[jP,h0,hr]
theorem HG{cs:List bV}: ∀ {l:List Expr} {i:Nat} {e:Int},i<l.length→(∀ k,k<i→(eW cs (l.getD k default)).2=0)→(eW cs (l.getD i default)).2=e→e≠0→jP cs l=([],e)
 | x :: r, 0, e, _, _, he, hne => by
   simp only[List.getD_cons_zero]at he
   simp[jP,he,hne]
 | x :: r, i + 1, e, hi, h, he, hne => by
   have h0:=h 0 (by omega)
   simp only[List.getD_cons_zero]at h0
   have hr:=HG (l:=r) (i:=i) (e:=e) (by simpa using hi) (fun k hk=>by simpa using h (k+1) (by omega)) (by simpa using he) hne
   simp[jP,h0,hr,hne]
theorem UE{α : Type}[Inhabited α](p : α→Bool)(l:List α): gZ p l<l.length:=by
 rcases sK p l with⟨h1,h2⟩|⟨i,h1,h2,h3⟩
 ·rw[h1];omega
 ·rw[h2];omega
theorem TL(cs:List bV)(hcs:cs.length≤2 ^ 60)(x:Expr): bC x=true→da x≤2 ^ 60→aq Tryz.prog su [aJ x,bq cs] (.bJ [I (eW cs x).1,I (eW cs x).2]):=by
 induction x using Expr.ind with
 | h op v s l ih =>
   intro hr hz
   simp only[da]at hz
   have hl:=v7 l
   have RX:(l.length:Int)=gP op:=by
    simp only[bC,Bool.and_eq_true,decide_eq_true_eq]at hr;exact hr.1
   obtain⟨vk,vn,vs⟩:=v
   have hA:=O7 cs s hcs
   have XK:=UE (fun c:bV=>c.name==s) cs
   change tj cs s<cs.length at XK
   simp only[bq]at hA ⊢
   by_cases h1:op=1
   ·have e:eW cs (.mk op ⟨vk,vn,vs⟩ s l)=(vk,0):=by simp only[eW,if_pos h1]
    rw[e]
    refine aq.of_nil (qJ (by simp) ?_) (by simp)
    unfold n7 aM
    intro Q aC aD aE
    repeat' first|refine aB ?_|refine aA (fun hw=>?_) (fun hw=>?_)<;>try omega|fail
    exact aP rfl rfl
   by_cases h2:op=2
   ·have e:eW cs (.mk op ⟨vk,vn,vs⟩ s l)=if tj cs s<0 then(0,13)else ((cs.getD (tj cs s).toNat default).kind,0):=by simp only[eW,if_neg h1,if_pos h2]
    rw[e]
    generalize tj cs s=i at *
    by_cases hi:i<0
    ·rw[if_pos hi]
     refine aq.of_nil (qJ (by simp) ?_) (by simp)
     unfold n7 aM
     intro Q aC aD aE
     repeat' first|refine aB ?_|refine aF hA ?_|refine aA (fun hw=>?_) (fun hw=>?_)<;>try omega|fail
     exact aP rfl rfl
    ·rw[if_neg hi]
     obtain⟨n,rfl⟩:∃ n:Nat,i=n:=⟨i.toNat,by omega⟩
     have hn:n<cs.length:=by omega
     refine aq.of_nil (qJ (by simp) ?_) (by simp)
     unfold n7 aM
     intro Q aC aD aE
     repeat' first|refine aB ?_|refine aF hA ?_|refine aA (fun hw=>?_) (fun hw=>?_)<;>try omega|fail
     exact aP rfl rfl
   have hrl:pW l=true:=by
    simp only[bC,if_neg h1,if_neg h2,Bool.and_eq_true]at hr;exact hr.2.2
   have Ll:∀ k,k<l.length→bC (l.getD k default)=true:=fun k hk=>by
    rw[uE]at hrl
    simp only[Bool.not_eq_true',List.any_eq_false,Bool.not_eq_true',Bool.not_eq_false']at hrl
    simpa using hrl _ (aY hk)
   have hk:∀ k,k<l.length→_:=fun k h=>ih _ (aY h) (Ll k h) (by have:=tg (aY h);omega)
   have e:eW cs (.mk op ⟨vk,vn,vs⟩ s l)=if(jP cs l).2=0 then nN op (jP cs l).1 else(0,(jP cs l).2):=by simp only[eW,if_neg h1,if_neg h2]
   rw[e]
   have O5:l.length≤3:=by rcases uG RX h1 h2 with h|h|h<;>omega
   have VY:=fun ks h=>N6 op ks h h1 h2
   clear hA XK e hr hrl
   simp only[bq]at hk
   refine aq.of_nil (qJ (by simp) ?_) (by simp)
   unfold n7 aM
   intro Q aC aD aE
   repeat' first|refine aB ?_|refine aA (fun hw=>?_) (fun hw=>?_)<;>try omega|fail
   with_reducible refine a_ [4,5,7,9,10,11,37,38,39,40,41,42,43,44,45,46,47,48,49,50,51,52,53,54] (fun q:Nat × List Int × List aR=>[(37,I q.1),(7,.own E1 1 q.1 0 q.1)]) (fun q=> .cells [I op,I vk,I vn,.str vs,.str s,.aG false EX (l.map aJ)]:: .vec E1 (q.2.1.map eI)::q.2.2) (fun q=>q.1≤l.length∧q.2.1.length=q.1∧ ∀ k,k<q.1→eW cs (l.getD k default)=(q.2.1.getD k 0,0)) (fun q=>l.length-q.1) (0,[],[]) ?_ ?_ ?_ ?_
   ·simp
   ·rfl
   ·exact at_
   rintro⟨i,ks,τ⟩ r ⟨a1,a2,a3⟩
   dsimp only at a1 a2 a3
   by_cases hi:i<l.length
   ·have hx:=hk i hi
    generalize hK:eW cs (l.getD i default)=K at *
    obtain⟨kk,ke⟩:=K
    rw[aN]at hx
    repeat' first|simp (disch:=omega) only[go_sem,aC,aD,aE,aj,au,ak,Nat.reduceAdd,Nat.reduceBEq,↓reduceIte,a2]|refine aB ?_|refine aF hx ?_|refine aA (fun hw=>?_) (fun hw=>?_)<;>try omega|fail
    ·have:jP cs l=([],ke):=HG hi (fun k h=>by rw[a3 k h]) (by rw[hK]) (by assumption)
     rw[this]
     refine aP ?_ rfl
     dsimp only
     rw[if_neg (by assumption)]
    ·refine⟨(i+1,ks++[kk],τ++[.cells [I (l.getD i default).op,I (l.getD i default).v.kind,I (l.getD i default).v.n,.str (l.getD i default).v.s,.str (l.getD i default).s,.aG false EX ((l.getD i default).l.map aJ)]]),?_,?_,?_,bG,at_⟩
     ·refine⟨by dsimp only;omega,by simp[a2],aW (fun k hk2=>?_) ?_⟩
      ·rw[a3 k hk2];simp[List.getD_eq_getElem?_getD,List.getElem?_append_left (show k<ks.length by omega)]
      ·rw[hK]
       have:ke=0:=by assumption
       rw[this,← a2];simp[List.getD_eq_getElem?_getD]
     ·dsimp only;omega
     ·simp[eI]
   ·have hie:i=l.length:=by omega
    subst hie
    have tJ:=Kv a2 a3
    rw[tJ]at aC aD
    have hc:=VY ks (by rw[a2];exact RX)
    have hpk:AV.bW (ks.map eI)=true:=HF ks
    have hlk:(ks.map eI).length=l.length:=by simp[a2]
    simp only[if_true]at aC aD
    unfold nN at aC aD
    clear tJ a3
    generalize pZ op ks=R at *
    obtain⟨rk,rb⟩:=R
    repeat' first|simp (disch:=omega) only[go_sem,aC,aD,aE,aj,au,ak,Nat.reduceAdd,Nat.reduceBEq,↓reduceIte,a2]|refine aB ?_|(with_reducible refine sX hc (.cons (View.refl _ rfl) (.cons (View.vec rfl hlk.symm hlk.symm hpk) (.nil _))) rfl ?_)|refine aA (fun hw=>?_) (fun hw=>?_)<;>try omega|fail
    all_goals (refine aP ?_ rfl;simp_all)
theorem VZ(cs:List bV)(hcs:cs.length≤2 ^ 60)(x:Expr): bC x=true→da x≤2 ^ 60→aq Tryz.prog ud [aJ x,bq cs] (.bJ [I (eW cs x).1,I (eW cs x).2]):=by
 induction x using Expr.ind with
 | h op v s l ih =>
   intro hr hz
   simp only[da]at hz
   have hl:=v7 l
   have RX:(l.length:Int)=gP op:=by
    simp only[bC,Bool.and_eq_true,decide_eq_true_eq]at hr;exact hr.1
   obtain⟨vk,vn,vs⟩:=v
   have hA:=RW cs s hcs
   have XK:=UE (fun c:bV=>c.name==s) cs
   change tj cs s<cs.length at XK
   simp only[bq]at hA ⊢
   by_cases h1:op=1
   ·have e:eW cs (.mk op ⟨vk,vn,vs⟩ s l)=(vk,0):=by simp only[eW,if_pos h1]
    rw[e]
    refine aq.of_nil (sx (by simp) ?_) (by simp)
    unfold pP aM
    intro Q aC aD aE
    repeat' first|refine aB ?_|refine aA (fun hw=>?_) (fun hw=>?_)<;>try omega|fail
    exact aP rfl rfl
   by_cases h2:op=2
   ·have e:eW cs (.mk op ⟨vk,vn,vs⟩ s l)=if tj cs s<0 then(0,13)else ((cs.getD (tj cs s).toNat default).kind,0):=by simp only[eW,if_neg h1,if_pos h2]
    rw[e]
    generalize tj cs s=i at *
    by_cases hi:i<0
    ·rw[if_pos hi]
     refine aq.of_nil (sx (by simp) ?_) (by simp)
     unfold pP aM
     intro Q aC aD aE
     repeat' first|refine aB ?_|refine aF hA ?_|refine aA (fun hw=>?_) (fun hw=>?_)<;>try omega|fail
     exact aP rfl rfl
    ·rw[if_neg hi]
     obtain⟨n,rfl⟩:∃ n:Nat,i=n:=⟨i.toNat,by omega⟩
     have hn:n<cs.length:=by omega
     refine aq.of_nil (sx (by simp) ?_) (by simp)
     unfold pP aM
     intro Q aC aD aE
     repeat' first|refine aB ?_|refine aF hA ?_|refine aA (fun hw=>?_) (fun hw=>?_)<;>try omega|fail
     exact aP rfl rfl
   have hrl:pW l=true:=by
    simp only[bC,if_neg h1,if_neg h2,Bool.and_eq_true]at hr;exact hr.2.2
   have Ll:∀ k,k<l.length→bC (l.getD k default)=true:=fun k hk=>by
    rw[uE]at hrl
    simp only[Bool.not_eq_true',List.any_eq_false,Bool.not_eq_true',Bool.not_eq_false']at hrl
    simpa using hrl _ (aY hk)
   have hk:∀ k,k<l.length→_:=fun k h=>ih _ (aY h) (Ll k h) (by have:=tg (aY h);omega)
   have e:eW cs (.mk op ⟨vk,vn,vs⟩ s l)=if(jP cs l).2=0 then nN op (jP cs l).1 else(0,(jP cs l).2):=by simp only[eW,if_neg h1,if_neg h2]
   rw[e]
   have O5:l.length≤3:=by rcases uG RX h1 h2 with h|h|h<;>omega
   have VY:=fun ks h=>TJ op ks h h1 h2
   clear hA XK e hr hrl
   simp only[bq]at hk
   refine aq.of_nil (sx (by simp) ?_) (by simp)
   unfold pP aM
   intro Q aC aD aE
   repeat' first|refine aB ?_|refine aA (fun hw=>?_) (fun hw=>?_)<;>try omega|fail
   with_reducible refine a_ [4,5,7,8,9,10,31,32,33,34,35,36,37,38,39,40,41,42,43,44,45,46,47,48,49,50,51,52,53,54] (fun q:Nat × List Int=>[(8,I q.1),(7,.own E1 1 q.1 0 q.1)]) (fun q=> .cells [I op,I vk,I vn,.str vs,.str s,.aG false EX (l.map aJ)]::[.vec E1 (q.2.map eI)]) (fun q=>q.1≤l.length∧q.2.length=q.1∧ ∀ k,k<q.1→eW cs (l.getD k default)=(q.2.getD k 0,0)) (fun q=>l.length-q.1) (0,[]) ?_ ?_ ?_ ?_
   ·simp
   ·rfl
   ·exact at_
   rintro⟨i,ks⟩ r ⟨a1,a2,a3⟩
   dsimp only at a1 a2 a3
   by_cases hi:i<l.length
   ·have hx:=hk i hi
    generalize hK:eW cs (l.getD i default)=K at *
    obtain⟨kk,ke⟩:=K
    rw[aN]at hx
    repeat' first|simp (disch:=omega) only[go_sem,aC,aD,aE,aj,au,ak,Nat.reduceAdd,Nat.reduceBEq,↓reduceIte,a2]|refine aB ?_|refine aF hx ?_|refine aA (fun hw=>?_) (fun hw=>?_)<;>try omega|fail
    ·have:jP cs l=([],ke):=HG hi (fun k h=>by rw[a3 k h]) (by rw[hK]) (by assumption)
     rw[this]
     refine aP ?_ rfl
     dsimp only
     rw[if_neg (by assumption)]
    ·refine⟨(i+1,ks++[kk]),?_,?_,?_,bG,at_⟩
     ·refine⟨by dsimp only;omega,by simp[a2],aW (fun k hk2=>?_) ?_⟩
      ·rw[a3 k hk2];simp[List.getD_eq_getElem?_getD,List.getElem?_append_left (show k<ks.length by omega)]
      ·rw[hK]
       have:ke=0:=by assumption
       rw[this,← a2];simp[List.getD_eq_getElem?_getD]
     ·dsimp only;omega
     ·simp[eI]
   ·have hie:i=l.length:=by omega
    subst hie
    have tJ:=Kv a2 a3
    rw[tJ]at aC aD
    have hc:=VY ks (by rw[a2];exact RX)
    have hpk:AV.bW (ks.map eI)=true:=HF ks
    have hlk:(ks.map eI).length=l.length:=by simp[a2]
    simp only[if_true]at aC aD
    clear tJ a3
    generalize nN op ks=R at *
    obtain⟨rk,rb⟩:=R
    repeat' first|simp (disch:=omega) only[go_sem,aC,aD,aE,aj,au,ak,Nat.reduceAdd,Nat.reduceBEq,↓reduceIte,a2]|refine aB ?_|(with_reducible refine sX hc (.cons (View.refl _ rfl) (.cons (View.vec rfl hlk.symm hlk.symm hpk) (.nil _))) rfl ?_)|refine aA (fun hw=>?_) (fun hw=>?_)<;>try omega|fail
    all_goals exact aP rfl rfl
theorem TM(cs:List bV)(hcs:cs.length≤2 ^ 60)(x:Expr)(hx:eH x)(hz:da x≤2 ^ 60): aq Tryz.prog nV [aJ x,bq cs] (.bJ [I (if bC x then(eW cs x).1 else 0),I (if bC x then(eW cs x).2 else 2)]):=by
 have h1:=Hw x hx hz
 have h2:=TL cs hcs x
 cases hr:bC x with
 | true =>
   have h2:=h2 hr hz
   rw[hr]at h1
   simp only[kV,if_true]at h1 ⊢
   generalize eW cs x=K at *
   rw[aN]at h1 h2 ⊢
   simp only[bq]at h2 ⊢
   refine aq.of_nil (C3 (by simp) ?_) (by simp)
   unfold x_ aM
   intro Q aC aD aE
   repeat' first|refine aB ?_|refine aF h1 ?_|refine aF h2 ?_|refine aA (fun hw=>?_) (fun hw=>?_)<;>try omega|fail
   all_goals exact aP rfl rfl
 | false =>
   rw[hr]at h1
   simp only[kV,Bool.false_eq_true,if_false]at h1 ⊢
   rw[aN]at h1 ⊢
   simp only[bq]
   refine aq.of_nil (C3 (by simp) ?_) (by simp)
   unfold x_ aM
   intro Q aC aD aE
   repeat' first|refine aB ?_|refine aF h1 ?_|refine aA (fun hw=>?_) (fun hw=>?_)<;>try omega|fail
   all_goals exact aP rfl rfl
theorem V5(cs:List bV)(hcs:cs.length≤2 ^ 60)(x:Expr)(hx:eH x)(hz:da x≤2 ^ 60): aq Tryz.prog mP [aJ x,bq cs] (.bJ [I (if bC x then(eW cs x).1 else 0),I (if bC x then(eW cs x).2 else 2)]):=by
 have h1:=Ce x hx hz
 have h2:=VZ cs hcs x
 cases hr:bC x with
 | true =>
   have h2:=h2 hr hz
   rw[hr]at h1
   simp only[if_true]at h1 ⊢
   generalize eW cs x=K at *
   rw[aN]at h1 h2 ⊢
   simp only[bq]at h2 ⊢
   refine aq.of_nil (Fo (by simp) ?_) (by simp)
   unfold Aj aM
   intro Q aC aD aE
   repeat' first|refine aB ?_|refine aF h1 ?_|refine aF h2 ?_|refine aA (fun hw=>?_) (fun hw=>?_)<;>try omega|fail
   all_goals exact aP rfl rfl
 | false =>
   rw[hr]at h1
   simp only[Bool.false_eq_true,if_false]at h1 ⊢
   rw[aN]at h1 ⊢
   simp only[bq]
   refine aq.of_nil (Fo (by simp) ?_) (by simp)
   unfold Aj aM
   intro Q aC aD aE
   repeat' first|refine aB ?_|refine aF h1 ?_|refine aA (fun hw=>?_) (fun hw=>?_)<;>try omega|fail
   all_goals exact aP rfl rfl
def sM(l:List bV)(i:Nat): Int :=
 if eK (l.getD i default).name=false∨tj l (l.getD i default).name≠i then 13
 else if(l.getD i default).kind<1∨3<(l.getD i default).kind then 14 else 0
def gi(l:List bV): Int:=if 6<l.length then 24 else match(List.range l.length).find? (fun i=>sM l i != 0)with
 | some i=>sM l i
 | none=>0
theorem mc{n k:Nat}(h:k<n): (List.range n).getD k default=k:=by simp[List.getD_eq_getElem?_getD,h]
theorem RY{l:List bV}{i:Nat}{e:Int}(h6:¬ 6<l.length)(hi:i<l.length)(h:∀ k,k<i→sM l k=0)(he:sM l i=e)(hne:e≠0): gi l=e:=by
 have:=vY (p:=fun i=>sM l i != 0) (l:=List.range l.length) (i:=i) (by simpa using hi) (fun k hk=>by rw[mc (by omega)];simp[h k hk]) (by rw[mc hi];simp[he,hne])
 unfold gi
 rw[if_neg h6,this,mc hi]
 exact he
theorem O8{l:List bV}(h6:¬ 6<l.length)(h:∀ k,k<l.length→sM l k=0): gi l=0:=by
 have:=sL (p:=fun i=>sM l i != 0) (l:=List.range l.length) (fun k hk=>by rw[List.length_range]at hk;rw[mc hk];simp[h k hk])
 unfold gi
 rw[if_neg h6,this]
theorem acv{l:List bV}{i:Nat}(hi:i<l.length): tj l (l.getD i default).name≤i∧0≤tj l (l.getD i default).name:=by
 unfold tj
 generalize hs:(l.getD i default).name=s
 rcases sK (fun c:bV=>c.name==s) l with⟨h1,h2⟩|⟨j,h1,h2,h3⟩
 ·exfalso
  have:=List.find?_eq_none.1 h2 _ (aY hi)
  rw[hs]at this
  exact this (by simp)
 ·rw[h2]
  refine⟨?_,by omega⟩
  by_cases hj:j≤i
  ·omega
  ·exfalso
   have h4:l.findIdx? (fun c:bV=>c.name==s)=some j:=by
    unfold gZ at h2
    split at h2
    ·rename_i i' hi';rw[hi'];congr 1;omega
    ·omega
   obtain⟨_,_,h5⟩:=List.findIdx?_eq_some_iff_getElem.1 h4
   have:=h5 i (by omega)
   rw[List.getD_eq_getElem?_getD,List.getElem?_eq_getElem hi]at hs
   simp at hs
   simp[hs]at this
theorem N7(l:List bV)(hn:∀ k,k<l.length→(l.getD k default).name.length≤2 ^ 62): aq Tryz.prog sI [bq l] (I (gi l)):=by
 by_cases h6:6<l.length
 ·have e:gi l=24:=by unfold gi;rw[if_pos h6]
  rw[e]
  refine aq.of_nil (ym (by simp) ?_) (by simp[AV.cF,AV.bW,dh])
  unfold sJ aM
  intro Q aC aD aE
  repeat' first|refine aB ?_|refine aA (fun hw=>?_) (fun hw=>?_)<;>try omega|fail
  exact aL rfl rfl
 refine aq.of_nil (ym (by simp) ?_) (by simp[AV.cF,AV.bW,dh])
 unfold sJ aM
 intro Q aC aD aE
 repeat' first|refine aB ?_|refine aA (fun hw=>?_) (fun hw=>?_)<;>try omega|fail
 with_reducible refine a_ [2,3,4,10,11,12,13,14,15,16,17,18,19,20,21,22,23,24,25,26,27,28,29,30,31,32,33,34,35,36,37,38,39,40] (fun q:Nat × List aR=>[(10,I q.1)]) (fun q=>q.2) (fun q=>q.1≤l.length∧ ∀ k,k<q.1→sM l k=0) (fun q=>l.length-q.1) (0,[]) ?_ ?_ ?_ ?_
 ·simp
 ·rfl
 ·exact at_
 rintro⟨i,τ⟩ r ⟨h1,h2⟩
 dsimp only at h1 h2
 by_cases hi:i<l.length
 ·have c1:=Ea _ (hn i hi)
  have c2:=O7 l (l.getD i default).name (by omega)
  have hE:sM l i=if eK (l.getD i default).name=false∨tj l (l.getD i default).name≠i then 13 else if(l.getD i default).kind<1∨3<(l.getD i default).kind then 14 else 0:=rfl
  obtain⟨c,hc⟩:∃ c,l.getD i default=c:=⟨_,rfl⟩
  rw[hc]at c1 c2 hE
  generalize eK c.name=nb at *
  generalize tj l c.name=an at *
  simp only[bq]at c2
  repeat' first|simp (disch:=omega) only[go_sem,aC,aD,aE,aj,au,ak,Nat.reduceAdd,Nat.reduceBEq,↓reduceIte,hc]|refine aB ?_|refine aF c1 ?_|refine aF c2 ?_|refine aA (fun hw=>?_) (fun hw=>?_)<;>try omega|fail
  all_goals first
   | (refine aL ?_ rfl
      refine congrArg I ?_
      symm
      refine RY h6 hi h2 ?_ (by decide)
      rw[hE]
      first
       |(rw[if_pos (by simp_all)];done)
       |(rw[if_neg (by simp_all),if_pos (by omega)];done))
   | (refine ⟨(i + 1, τ ++ [.cells [.str c.name, I c.kind, .aG false EV (c.order.map gO)]]), ?_, ?_, by first | rfl | (simp [go_sem]; done), bG, at_⟩
      ·exact⟨by dsimp only;omega,aW h2 (by rw[hE,if_neg (by simp_all),if_neg (by omega)])⟩
      ·dsimp only;omega)
 ·repeat' first|refine aB ?_|refine aA (fun hw=>?_) (fun hw=>?_)<;>try omega|fail
  refine aL ?_ rfl
  rw[O8 h6 (fun k hk=>h2 k (by omega))]
theorem Qq(l:List bV)(hn:∀ k,k<l.length→(l.getD k default).name.length≤2 ^ 62): aq Tryz.prog t_ [bq l] (I (gi l)):=by
 by_cases h6:6<l.length
 ·have e:gi l=24:=by unfold gi;rw[if_pos h6]
  rw[e]
  refine aq.of_nil (Ao (by simp) ?_) (by simp[AV.cF,AV.bW,dh])
  unfold uv aM
  intro Q aC aD aE
  repeat' first|refine aB ?_|refine aA (fun hw=>?_) (fun hw=>?_)<;>try omega|fail
  exact aL rfl rfl
 refine aq.of_nil (Ao (by simp) ?_) (by simp[AV.cF,AV.bW,dh])
 unfold uv aM
 intro Q aC aD aE
 repeat' first|refine aB ?_|refine aA (fun hw=>?_) (fun hw=>?_)<;>try omega|fail
 with_reducible refine a_ [2,3,7,8,9,10,11,12,13,14,15,16,17,18,19,20,21,22,23,24,25,26,27,28,29,30,31,32,33,34,35,36,37,38,39,40,41,42,43,44,45,46] (fun i:Nat=>[(3,I i)]) (fun _=>[]) (fun i=>i≤l.length∧ ∀ k,k<i→sM l k=0) (fun i=>l.length-i) (0) ?_ ?_ ?_ ?_
 ·simp
 ·rfl
 ·exact at_
 rintro i r ⟨h1,h2⟩
 by_cases hi:i<l.length
 ·have c1:=yS _ (hn i hi)
  have c2:=RW l (l.getD i default).name (by omega)
  have hle:=acv hi
  have hE:sM l i=if eK (l.getD i default).name=false∨tj l (l.getD i default).name≠i then 13 else if(l.getD i default).kind<1∨3<(l.getD i default).kind then 14 else 0:=rfl
  obtain⟨c,hc⟩:∃ c,l.getD i default=c:=⟨_,rfl⟩
  rw[hc]at c1 c2 hE hle
  generalize eK c.name=nb at *
  generalize tj l c.name=an at *
  simp only[bq]at c2
  repeat' first|simp (disch:=omega) only[go_sem,aC,aD,aE,aj,au,ak,Nat.reduceAdd,Nat.reduceBEq,↓reduceIte,hc]|refine aB ?_|refine aF c1 ?_|refine aF c2 ?_|refine aA (fun hw=>?_) (fun hw=>?_)<;>try omega|fail
  all_goals first
   | (refine aL ?_ rfl
      refine congrArg I ?_
      symm
      refine RY h6 hi h2 ?_ (by decide)
      rw[hE]
      first
       |(rw[if_pos (.inl (by assumption))];done)
       |(rw[if_pos (.inr (by omega))];done)
       |(rw[if_neg (by rintro(h|h)<;>first|omega|simp_all),if_pos (by omega)];done))
   | (refine ⟨i + 1, ?_, ?_, by first | rfl | (simp [go_sem]; done), bG, at_⟩ <;> (try dsimp only)
      ·exact⟨by omega,aW h2 (by rw[hE,if_neg (by rintro(h|h)<;>first|omega|simp_all),if_neg (by omega)])⟩
      ·omega)
 ·repeat' first|refine aB ?_|refine aA (fun hw=>?_) (fun hw=>?_)<;>try omega|fail
  refine aL ?_ rfl
  rw[O8 h6 (fun k hk=>h2 k (by omega))]
def iv(x:Expr): Bool:=bC x && decide (fK x≤12)
theorem O9(x:Expr)(hx:eH x)(hz:da x≤2 ^ 60): aq Tryz.prog rH [aJ x] (.bool (iv x)):=by
 have h1:=Hw x hx hz
 have h2:=Cd x hz
 unfold iv
 generalize bC x=b at *
 rw[aN]at h1 h2 ⊢
 refine aq.of_nil (Rw (by simp) ?_) (by simp)
 unfold Jl aM
 intro Q aC aD aE
 cases b<;>simp only[kV,if_true,Bool.false_eq_true,if_false]at h1
 ·repeat' first|refine aB ?_|refine aF h1 ?_|refine aF h2 ?_|refine aA (fun hw=>?_) (fun hw=>?_)<;>try omega|fail
  all_goals exact aL rfl rfl
 ·repeat' first|refine aB ?_|refine aF h1 ?_|refine aF h2 ?_|refine aA (fun hw=>?_) (fun hw=>?_)<;>try omega|fail
  all_goals (refine aL ?_ rfl;simp;omega)
theorem Mg(x:Expr)(hx:eH x)(hz:da x≤2 ^ 60): aq Tryz.prog pJ [aJ x] (.bool (iv x)):=by
 have h1:=Ce x hx hz
 have h2:=Ee x hz
 unfold iv
 generalize bC x=b at *
 rw[aN]at h1 h2 ⊢
 refine aq.of_nil (Qh (by simp) ?_) (by simp)
 unfold G4 aM
 intro Q aC aD aE
 cases b
 ·repeat' first|refine aB ?_|refine aF h1 ?_|refine aF h2 ?_|refine aA (fun hw=>?_) (fun hw=>?_)<;>try omega|fail
  all_goals exact aL rfl rfl
 ·repeat' first|refine aB ?_|refine aF h1 ?_|refine aF h2 ?_|refine aA (fun hw=>?_) (fun hw=>?_)<;>try omega|fail
  all_goals (refine aL ?_ rfl;simp;omega)
end Go.Proofs.YtmbgnaoilncbnaaGreatDoor
