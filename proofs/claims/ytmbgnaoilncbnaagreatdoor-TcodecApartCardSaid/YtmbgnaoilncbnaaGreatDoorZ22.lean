/- Part of a proof: see Root. -/
import Derived.Test.YtmbgnaoilncbnaaGreatDoorZ21
set_option linter.unnecessarySimpa false
set_option linter.unusedSimpArgs false
set_option linter.unusedVariables false
namespace Go.Proofs.YtmbgnaoilncbnaaGreatDoor
open Go.AM
set_option maxRecDepth 4000
theorem Dg(fn:FuncId)(cap:List AV)(hcap:AV.bW cap=true)(p:Test→Bool)(l:List Test)(h:∀ k,k<l.length→aq Tryz.prog fn (bx (l.getD k default)::cap) (.bool (p (l.getD k default))))(hl:l.length≤2 ^ 62):
 aq Tryz.prog lD [dG l,.fn (.func fn) [] cap] (I (gZ p l)):=by
 refine aq.of_nil (Al (by simp) ?_) (by simp[AV.cF,AV.bW,hcap,yP])
 unfold qY aM
 intro Q aC aD aE
 repeat' first|refine aB ?_|refine aA (fun hw=>?_) (fun hw=>?_)<;>try omega|fail
 with_reducible refine a_ [4,5,8,9,10,11,12,13,14,15,16,17,18] (fun i:Nat=>[(8,I i)]) (fun _=>[]) (fun i=>i≤l.length∧ ∀ k,k<i→p (l.getD k default)=false) (fun i=>l.length-i) (0) ?_ ?_ ?_ ?_
 ·simp
 ·rfl
 ·exact at_
 ·rintro i r ⟨hi,hp⟩
  by_cases hin:i<l.length
  ·have hx:=h i hin
   simp only[bx,bp,cj,ku,br,bP,dG,dH,dS,n8]at hx
   repeat' first|refine aB ?_|refine aF hx ?_|refine aA (fun hw=>?_) (fun hw=>?_)<;>try omega|fail
   ·refine aL ?_ rfl
    refine congrArg I ?_
    exact(oz hin hp hw).symm
   ·refine⟨i+1,?_,?_,by first|rfl|(simp[go_sem];done),bG,at_⟩<;>(try dsimp only)
    ·exact⟨by omega,aW hp hw⟩
    ·omega
  ·repeat' first|refine aB ?_|refine aA (fun hw=>?_) (fun hw=>?_)<;>try omega|fail
   refine aL ?_ rfl
   refine congrArg I ?_
   exact(nr fun k hk=>hp k (by omega)).symm
theorem AB(fn:FuncId)(cap:List AV)(hcap:AV.bW cap=true)(p:Test→Bool)(l:List Test)(h:∀ k,k<l.length→aq Tryz.prog fn (bx (l.getD k default)::cap) (.bool (p (l.getD k default))))(hl:l.length≤2 ^ 62):
 aq Tryz.prog jY [dG l,.fn (.func fn) [] cap] (.bool (l.any p)):=by
 refine aq.of_nil (wY (by simp) ?_) (by simp[AV.cF,AV.bW,hcap,yP])
 unfold n5 aM
 intro Q aC aD aE
 have hc:=Dg fn cap hcap p l h hl
 simp only[dG]at hc
 repeat' first|refine aB ?_|refine aF hc ?_|refine aA (fun hw=>?_) (fun hw=>?_)<;>try omega|fail
 all_goals refine aL ?_ rfl
 all_goals rw[← Kt]
def ez(t:Test): Bool :=
 if t.kind=6 then iv t.a && iv t.b
 else decide (1≤t.kind∧t.kind≤5) && iv t.a && mI t.b x0 && !t.lo && !t.hi
def Jz(t:Test): Prop:=(eH t.a∧da t.a≤2 ^ 60)∧eH t.b∧da t.b≤2 ^ 60
def JA(c:Cell): Prop:=c.tests.length≤2 ^ 60∧ ∀ t ∈ c.tests,Jz t
def eO(c:Cell): Bool :=
 if c.any then !c.neg && decide (c.tests.length=0)
 else decide (1≤c.tests.length∧c.tests.length≤12) && !(c.tests.any fun t=> !(ez t))
theorem RZ: da x0≤2 ^ 60:=by simp[x0,da,kW]
theorem R0: aJ x0 = .agg [I 0,I 0,I 0,.str [],.str [],.aG false EX []]:=by simp[x0,v0,aJ]
theorem cell_of(t:Test): aq Tryz.prog GA [bx t] (.agg [.bool t.lo,.bool t.hi]):=by
 refine aq.of_nil (VG (by simp) ?_) (by simp)
 unfold OX aM
 intro Q aC aD aE
 simp only[bx,bP]
 repeat' first|refine aB ?_|refine aA (fun hw=>?_) (fun hw=>?_)<;>try omega|fail
 all_goals exact aL rfl rfl
theorem V6(t:Test)(h:Jz t): aq Tryz.prog zM [bx t] (.bool (ez t)):=by
 obtain⟨⟨a1,a2⟩,b1,b2⟩:=h
 have ha:=O9 t.a a1 a2
 have hb:=O9 t.b b1 b2
 have hs:=TD t.b x0 (L8 _ b2) (L8 _ RZ)
 have ho:=cell_of t
 rw[R0]at hs
 rw[aN]at ha hb hs
 simp only[bx,bP]at ho ⊢
 have hS:ez t=if t.kind=6 then iv t.a && iv t.b else decide (1≤t.kind∧t.kind≤5) && iv t.a && mI t.b x0 && !t.lo && !t.hi:=rfl
 rw[hS]
 clear hS
 generalize iv t.a=pa at *
 generalize iv t.b=pb at *
 generalize mI t.b x0=sb at *
 refine aq.of_nil (P8 (by simp) ?_) (by simp)
 unfold GQ aM
 intro Q aC aD aE
 repeat' first|refine aB ?_|refine aF ha ?_|refine aF hb ?_|refine OY hs ?_|refine aF ho ?_|refine aA (fun hw=>?_) (fun hw=>?_)<;>try omega|fail
 all_goals (refine aL ?_ rfl;refine congrArg AV.bool ?_;rw[Bool.eq_iff_iff];simp_all)
 all_goals (try omega)
theorem R4(t:Test)(h:Jz t): aq Tryz.prog qC [bx t] (.bool (!(ez t))):=by
 have h1:=V6 t h
 simp only[bx,bP]at h1 ⊢
 generalize ez t=b at *
 refine aq.of_nil (LH (by simp) ?_) (by simp)
 unfold CY aM
 intro Q aC aD aE
 repeat' first|refine aB ?_|refine aF h1 ?_|refine aA (fun hw=>?_) (fun hw=>?_)<;>try omega|fail
 all_goals exact aL rfl rfl
theorem Em(c:Cell)(h:JA c): aq Tryz.prog pG [br c] (I (kV (eO c))):=by
 have hc:=AB qC [] rfl (fun t=> !(ez t)) c.tests (fun k hk=>R4 _ (h.2 _ (aY hk))) (by have:=h.1;omega)
 have hl:=h.1
 simp only[dG,br]at hc ⊢
 have hS:eO c=if c.any then !c.neg && decide (c.tests.length=0)else decide (1≤c.tests.length∧c.tests.length≤12) && !(c.tests.any fun t=> !(ez t)):=rfl
 rw[hS]
 clear hS
 generalize c.tests.any (fun t=> !(ez t))=an at *
 refine aq.of_nil (PY (by simp) ?_) (by simp)
 unfold GI aM
 intro Q aC aD aE
 repeat' first|refine aB ?_|refine aF hc ?_|refine aA (fun hw=>?_) (fun hw=>?_)<;>try omega|fail
 all_goals (refine aL ?_ rfl;refine congrArg I ?_;simp_all[kV,← List.length_eq_zero_iff])
 all_goals (try omega)
 all_goals (intro h0;exfalso;omega)
theorem V7(t:Test)(h:Jz t): aq Tryz.prog zP [bx t] (.bool (ez t)):=by
 obtain⟨⟨a1,a2⟩,b1,b2⟩:=h
 have ha:=Mg t.a a1 a2
 have hb:=Mg t.b b1 b2
 have hs:=VP t.b x0 (L8 _ b2) (L8 _ RZ)
 rw[R0]at hs
 rw[aN]at ha hb hs
 simp only[bx,bP]
 have hS:ez t=if t.kind=6 then iv t.a && iv t.b else decide (1≤t.kind∧t.kind≤5) && iv t.a && mI t.b x0 && !t.lo && !t.hi:=rfl
 rw[hS]
 clear hS
 generalize iv t.a=pa at *
 generalize iv t.b=pb at *
 generalize mI t.b x0=sb at *
 refine aq.of_nil (Qc (by simp) ?_) (by simp)
 unfold GW aM
 intro Q aC aD aE
 repeat' first|refine aB ?_|refine aF ha ?_|refine aF hb ?_|refine OY hs ?_|refine aA (fun hw=>?_) (fun hw=>?_)<;>try omega|fail
 all_goals (refine aL ?_ rfl;refine congrArg AV.bool ?_;rw[Bool.eq_iff_iff];simp_all)
 all_goals (try omega)
theorem Cg(c:Cell)(h:JA c): aq Tryz.prog lP [br c] (.bool (eO c)):=by
 have ht:=fun k (hk:k<c.tests.length)=>V7 _ (h.2 _ (aY hk))
 have hl:=h.1
 simp only[br,dG]
 have hS:eO c=if c.any then !c.neg && decide (c.tests.length=0)else decide (1≤c.tests.length∧c.tests.length≤12) && !(c.tests.any fun t=> !(ez t)):=rfl
 rw[hS]
 clear hS
 refine aq.of_nil (NC (by simp) ?_) (by simp)
 unfold Ff aM
 intro Q aC aD aE
 repeat' first|refine aB ?_|refine aA (fun hw=>?_) (fun hw=>?_)<;>try omega|fail
 ·refine aL ?_ rfl;refine congrArg AV.bool ?_;rw[Bool.eq_iff_iff];simp_all
 ·refine aL ?_ rfl;refine congrArg AV.bool ?_;rw[Bool.eq_iff_iff];simp_all
 with_reducible refine a_ [2,3,15,16,17,18,19,20,21,22,23,24,25,26,27,28] (fun i:Nat=>[(3,I i)]) (fun _=>[.cells [.bool c.any,.bool c.neg,.aG false ES (c.tests.map bx)]]) (fun i=>i≤c.tests.length∧ ∀ k,k<i→(!(ez (c.tests.getD k default)))=false) (fun i=>c.tests.length-i) (0) ?_ ?_ ?_ ?_
 ·simp
 ·rfl
 ·exact at_
 rintro i r ⟨h1,h2⟩
 by_cases hi:i<c.tests.length
 ·have h3:=ht i hi
  simp only[bx,bP]at h3
  repeat' first|refine aB ?_|refine aF h3 ?_|refine aA (fun hw=>?_) (fun hw=>?_)<;>try omega|fail
  ·refine aL ?_ rfl
   rw[Ax (p:=fun t=> !(ez t)) hi (by simpa using hw)];simp_all
  ·refine⟨i+1,?_,?_,by first|rfl|(simp[go_sem];done),bG,at_⟩<;>(try dsimp only)
   ·exact⟨by omega,aW h2 (by simpa using hw)⟩
   ·omega
 ·repeat' first|refine aB ?_|refine aA (fun hw=>?_) (fun hw=>?_)<;>try omega|fail
  all_goals (refine aL ?_ rfl;rw[vZ (p:=fun t=> !(ez t)) (fun k hk=>h2 k (by omega))];refine congrArg AV.bool ?_;rw[Bool.eq_iff_iff];simp_all)
  all_goals (try omega)
def eL(k:Int): aH:=if k=2 then [60]else if k=3 then [60,61]else if k=4 then [62]else if k=5 then [62,61]else []
theorem O_(k:Int): aq Tryz.prog wC [I k] (.str (eL k)):=by
 refine aq.of_nil (Ru (by simp) ?_) rfl
 unfold Jj aM
 intro Q aC aD aE
 repeat' first|refine aB ?_|refine aA (fun hw=>?_) (fun hw=>?_)<;>try omega|fail
 all_goals (refine aL ?_ rfl;simp_all[eL])
theorem Mh(k:Int): aq Tryz.prog tY [I k] (.str (eL k)):=by
 refine aq.of_nil (Qd (by simp) ?_) rfl
 unfold GX aM
 intro Q aC aD aE
 repeat' first|refine aB ?_|refine aA (fun hw=>?_) (fun hw=>?_)<;>try omega|fail
 all_goals (refine aL ?_ rfl;simp_all[eL])
def uH(T:List Tok)(p:Nat): aH:=if(T.getD p default).kind=4 then(T.getD p default).s else []
theorem wc(T:List Tok)(p:Nat)(b:Bool)(s:aH)(hs:s≠[]): cn T p b 4 s=(!b && decide (uH T p=s)):=by
 unfold cn dO uH
 by_cases hp:p<T.length
 ·generalize T.getD p default=t
  by_cases h4:t.kind=4
  ·simp[hp,h4]
  ·simp[hp,h4,Ne.symm hs]
 ·rw[nM (by omega)]
  simp[hp,VS,Ne.symm hs]
theorem HI(T:List Tok)(p:Nat)(b:Bool): aV Tryz.prog jB 0 [] (bn T p b) (bn T p b) (.str (uH T p)):=by
 by_cases hp:p<T.length
 ·refine aV.bH (vi (by simp) ?_) rfl (aO _ _ _)
  unfold pQ aM
  intro Q aC aD aE
  repeat' first|refine aB ?_|refine aA (fun hw=>?_) (fun hw=>?_)<;>try omega|fail
  all_goals (refine bE (View.eqv ?_ rfl) (aQ.refl (aO T p b));simp_all[uH])
 ·have:uH T p=[]:=by unfold uH;rw[nM (by omega)];simp[VS]
  rw[this]
  refine aV.bH (vi (by simp) ?_) rfl (aO _ _ _)
  unfold pQ aM
  intro Q aC aD aE
  repeat' first|refine aB ?_|refine aA (fun hw=>?_) (fun hw=>?_)<;>try omega|fail
  all_goals exact bE (View.eqv rfl rfl) (aQ.refl (aO T p b))
theorem UG(T:List Tok)(p:Nat)(b:Bool)(s:aH)(hs:s≠[])(hp:p≤2 ^ 61): aV Tryz.prog fB 0 [.str s] (bn T p b) (bn T (kX T p b 4 s) b) (.bool (cn T p b 4 s)):=by
 have hn:=HI T p b
 unfold kX
 rw[wc T p b s hs]
 generalize uH T p=t at hn ⊢
 simp only[bn]at hn
 refine aV.bH (I4 (by simp) ?_) rfl (aO _ _ _)
 unfold Ar aM
 intro Q aC aD aE
 repeat' first|refine aB ?_|refine aS hn ?_|refine aA (fun hw=>?_) (fun hw=>?_)<;>try omega|fail
 all_goals first
  |(refine bE (View.eqv ?_ rfl) (aQ.eqv ?_ (aO _ _ _))<;>simp_all[bn];done)
theorem HJ(T:List Tok)(p:Nat)(b:Bool)(s:aH)(hs:s≠[])(hp:p≤2 ^ 61): aV Tryz.prog jD 0 [.str s] (bn T p b) (bn T (kX T p b 4 s) (b || !(cn T p b 4 s))) (.bJ []):=by
 have hn:=UG T p b s hs hp
 generalize cn T p b 4 s=o at hn ⊢
 simp only[bn]at hn
 refine aV.bH (FZ (by simp) ?_) rfl (aO _ _ _)
 unfold w9 aM
 intro Q aC aD aE
 cases o
 ·repeat' first|refine aB ?_|refine aS hn ?_|refine aA (fun hw=>?_) (fun hw=>?_)<;>try omega|fail
  refine tO rfl (aQ.eqv ?_ (aO _ _ _));simp[bn]
 ·repeat' first|refine aB ?_|refine aS hn ?_|refine aA (fun hw=>?_) (fun hw=>?_)<;>try omega|fail
  refine tO rfl (aQ.eqv ?_ (aO _ _ _));simp[bn]
theorem R5(T:List Tok)(p:Nat)(b:Bool)(s:aH): aV Tryz.prog c7 0 [.str s] (bn T p b) (bn T p b) (.bool (cn T p b 4 s)):=by
 refine aV.bH (G2 (by simp) ?_) rfl (aO _ _ _)
 unfold yo aM
 intro Q aC aD aE
 cases b with
 | true =>
   repeat' first|refine aB ?_|refine aA (fun hw=>?_) (fun hw=>?_)<;>try omega|fail
   all_goals exact bE (View.eqv rfl rfl) (aQ.refl (aO T p true))
 | false =>
   by_cases hp:p<T.length
   ·repeat' first|refine aB ?_|refine aA (fun hw=>?_) (fun hw=>?_)<;>try omega|fail
    all_goals (refine bE (View.eqv ?_ rfl) (aQ.refl (aO T p false));refine congrArg AV.bool ?_;rw[Bool.eq_iff_iff];simp_all[cn,dO])
   ·repeat' first|refine aB ?_|refine aA (fun hw=>?_) (fun hw=>?_)<;>try omega|fail
    all_goals (refine bE (View.eqv ?_ rfl) (aQ.refl (aO T p false));refine congrArg AV.bool ?_;rw[Bool.eq_iff_iff];simp_all[cn,dO])
    all_goals (intros;omega)
theorem En(T:List Tok)(p:Nat)(b:Bool)(s:aH)(hp:p≤2 ^ 61): aV Tryz.prog gH 0 [.str s] (bn T p b) (bn T (kX T p b 4 s) (b || !(cn T p b 4 s))) (.bJ []):=by
 have hn:=R5 T p b s
 unfold kX
 have hb:cn T p b 4 s=true→b=false:=fun h=>(iK h).2
 generalize cn T p b 4 s=o at hn hb ⊢
 simp only[bn]at hn
 refine aV.bH (D5 (by simp) ?_) rfl (aO _ _ _)
 unfold vg aM
 intro Q aC aD aE
 cases o
 ·repeat' first|refine aB ?_|refine aS hn ?_|refine aA (fun hw=>?_) (fun hw=>?_)<;>try omega|fail
  refine tO rfl (aQ.eqv ?_ (aO _ _ _));simp[bn]
 ·repeat' first|refine aB ?_|refine aS hn ?_|refine aA (fun hw=>?_) (fun hw=>?_)<;>try omega|fail
  refine tO rfl (aQ.eqv ?_ (aO _ _ _));simp[bn]
def R6(T:List Tok)(l q:Nat): RS:=⟨(cR T q l).1,(cR T q l).2.1.toNat,decide ((cR T q l).2.2≠0)⟩
def eD(T:List Tok)(p:Nat)(b:Bool): RS:=mV (R6 T) 4 p b
theorem Mi(T:List Tok)(p:Nat): eD T p true=⟨x0,p,true⟩:=rfl
theorem Ch(T:List Tok)(p:Nat): eD T p false=R6 T 4 p:=rfl
theorem Zg(T:List Tok){q:Nat}(hq:q≤T.length): gh T.length q (R6 T 4 q):=by
 have hg:¬ ((q:Int)<0∨(T.length:Int)<q∨((4:Nat):Int)<0∨7<((4:Nat):Int)):=by omega
 have g:=(mW T (8*T.length+9) none 4 q hq).1 rfl
 unfold R6 cR
 rw[if_neg hg,Int.toNat_natCast,Int.toNat_natCast]
 split
 ·exact⟨by simpa using g.1,by simpa using g.2.1,fun h=>by simp at h⟩
 ·rename_i h
  exact⟨by simpa using g.1,by simpa using g.2.1,fun _=>by have:=g.2.2 (by simpa using h);simpa using this⟩
theorem BA(T:List Tok){q:Nat}{b:Bool}(hq:q≤T.length): gh T.length q (eD T q b):=by
 cases b with
 | true=>exact⟨Nat.le_refl _,hq,fun h=>by cases h⟩
 | false=>exact Zg T hq
theorem BB(T:List Tok)(p:Nat)(b:Bool)(hT:T.length≤2 ^ 50)(hs:∀ q,(T.getD q default).s.length≤2 ^ 62): aV Tryz.prog ie 0 [] (bn T p b) (bn T (eD T p b).p (eD T p b).bad) (aJ (eD T p b).x):=by
 cases b with
 | true =>
   rw[Mi]
   generalize hE:aJ _=E
   refine aV.bH (vm (by simp) ?_) rfl (aO _ _ _)
   unfold pR aM
   intro Q aC aD aE
   repeat' first|refine aB ?_|refine aA (fun hw=>?_) (fun hw=>?_)<;>try omega|fail
   exact bE (by rw[← hE];exact fW (.ae _)) (aQ.refl (aO T p true))
 | false =>
   rw[Ch]
   have cr:=Jx T p 4 hT hs
   have Mc:=(IA T p 4).1
   simp only[R6]
   have e4:((4:Nat):Int)=4:=rfl
   rw[e4]
   generalize cR T p 4=r at *
   obtain⟨rx,rn,re⟩:=r
   dsimp only at *
   obtain⟨n,rfl⟩:∃ n:Nat,rn=n:=⟨rn.toNat,by omega⟩
   have e2:∀ σ : ai,View σ (.agg [I rx.op,I rx.v.kind,I rx.v.n,.str rx.v.s,.str rx.s,.aG false EX (rx.l.map aJ)]) (aJ rx):=fun σ=>View.eqv (aN _).symm (cD _)
   simp only[xk,oZ]at cr
   rw[aN]at cr
   generalize aJ rx=E at *
   rw[Int.toNat_natCast]
   refine aV.bH (vm (by simp) ?_) rfl (aO _ _ _)
   unfold pR aM
   intro Q aC aD aE
   repeat' first|refine aB ?_|refine aF cr ?_|refine aA (fun hw=>?_) (fun hw=>?_)<;>try omega|fail
   all_goals (refine bE (e2 _) (aQ.eqv ?_ (aO _ _ _));simp[bn];rw[Bool.eq_iff_iff];simp)
theorem yV(T:List Tok)(p:Nat)(b:Bool)(hT:T.length≤2 ^ 50)(hs:∀ q,(T.getD q default).s.length≤2 ^ 62): aV Tryz.prog gI 0 [] (bn T p b) (bn T (eD T p b).p (eD T p b).bad) (aJ (eD T p b).x):=by
 cases b with
 | true =>
   rw[Mi]
   generalize hE:aJ _=E
   refine aV.bH (uy (by simp) ?_) rfl (aO _ _ _)
   unfold oL aM
   intro Q aC aD aE
   repeat' first|refine aB ?_|refine aA (fun hw=>?_) (fun hw=>?_)<;>try omega|fail
   exact bE (by rw[← hE];exact fW (.ae _)) (aQ.refl (aO T p true))
 | false =>
   rw[Ch]
   have cr:=Me T p 4 hT hs
   have Mc:=(IA T p 4).1
   simp only[R6]
   have e4:((4:Nat):Int)=4:=rfl
   rw[e4]
   generalize cR T p 4=r at *
   obtain⟨rx,rn,re⟩:=r
   dsimp only at *
   obtain⟨n,rfl⟩:∃ n:Nat,rn=n:=⟨rn.toNat,by omega⟩
   have e2:∀ σ : ai,View σ (.agg [I rx.op,I rx.v.kind,I rx.v.n,.str rx.v.s,.str rx.s,.aG false EX (rx.l.map aJ)]) (aJ rx):=fun σ=>View.eqv (aN _).symm (cD _)
   simp only[xk,oZ]at cr
   rw[aN]at cr
   generalize aJ rx=E at *
   rw[Int.toNat_natCast]
   refine aV.bH (uy (by simp) ?_) rfl (aO _ _ _)
   unfold oL aM
   intro Q aC aD aE
   repeat' first|refine aB ?_|refine aF cr ?_|refine aA (fun hw=>?_) (fun hw=>?_)<;>try omega|fail
   all_goals (refine bE (e2 _) (aQ.eqv ?_ (aO _ _ _));simp[bn];rw[Bool.eq_iff_iff];simp)
structure TS where
 t:Test
 p:Nat
 bad:Bool
deriving Inhabited
def nO(k:Int)(r:RS): TS:=⟨⟨k,r.x,x0,false,false⟩,r.p,r.bad⟩
def lG(T:List Tok)(p:Nat): RS:=eD T (p+1) false
def mB(T:List Tok)(p:Nat): RS:=dU T (lG T p) 4 [46,46]
def ep(T:List Tok)(p:Nat): RS:=eD T (mB T p).p (mB T p).bad
def UH(T:List Tok)(p:Nat): Bool:=cn T (ep T p).p (ep T p).bad 4 [91]
def rm(T:List Tok)(p:Nat): RS:=if UH T p then⟨x0,(ep T p).p+1,(ep T p).bad⟩else dU T (ep T p) 4 [93]
def FH(T:List Tok)(p:Nat)(lo:Bool): TS:=⟨⟨6,(lG T p).x,(ep T p).x,lo,UH T p⟩,(rm T p).p,(rm T p).bad⟩
def cP(T:List Tok)(p:Nat)(b:Bool): TS :=
 if cn T p b 4 [60]then nO 2 (eD T (p+1) b)
 else if cn T p b 4 [60,61]then nO 3 (eD T (p+1) b)
 else if cn T p b 4 [62]then nO 4 (eD T (p+1) b)
 else if cn T p b 4 [62,61]then nO 5 (eD T (p+1) b)
 else if cn T p b 4 [91]then FH T p false
 else if cn T p b 4 [93]then FH T p true
 else nO 1 (eD T p b)
theorem Zh{k:Int}(h:2≤k)(h':k≤5): eL k≠[]:=by
 rcases(by omega:k=2∨k=3∨k=4∨k=5)with rfl|rfl|rfl|rfl<;>decide
theorem Mj{T:List Tok}{p:Nat}{b:Bool}{k:Int}(h:2≤k)(h':k≤5)(hb:∀ j:Int,2≤j→j<k→cn T p b 4 (eL j)=false)(ho:cn T p b 4 (eL k)=true): cP T p b=nO k (eD T (p+1) b):=by
 have e2:eL 2=[60]:=rfl
 have e3:eL 3=[60,61]:=rfl
 have e4:eL 4=[62]:=rfl
 have e5:eL 5=[62,61]:=rfl
 unfold cP
 rcases(by omega:k=2∨k=3∨k=4∨k=5)with rfl|rfl|rfl|rfl
 ·rw[e2]at ho;rw[if_pos ho]
 ·have h2:=hb 2 (by omega) (by omega)
  rw[e2]at h2;rw[e3]at ho;rw[if_neg (by simp[h2]),if_pos ho]
 ·have h2:=hb 2 (by omega) (by omega)
  have h3:=hb 3 (by omega) (by omega)
  rw[e2]at h2;rw[e3]at h3;rw[e4]at ho;rw[if_neg (by simp[h2]),if_neg (by simp[h3]),if_pos ho]
 ·have h2:=hb 2 (by omega) (by omega)
  have h3:=hb 3 (by omega) (by omega)
  have h4:=hb 4 (by omega) (by omega)
  rw[e2]at h2;rw[e3]at h3;rw[e4]at h4;rw[e5]at ho;rw[if_neg (by simp[h2]),if_neg (by simp[h3]),if_neg (by simp[h4]),if_pos ho]
theorem Mk{T:List Tok}{p:Nat}{b:Bool}(hb:∀ j:Int,2≤j→j<6→cn T p b 4 (eL j)=false): cP T p b=if cn T p b 4 [91]then FH T p false else if cn T p b 4 [93]then FH T p true else nO 1 (eD T p b):=by
 have h2:cn T p b 4 [60]=false:=hb 2 (by omega) (by omega)
 have h3:cn T p b 4 [60,61]=false:=hb 3 (by omega) (by omega)
 have h4:cn T p b 4 [62]=false:=hb 4 (by omega) (by omega)
 have h5:cn T p b 4 [62,61]=false:=hb 5 (by omega) (by omega)
 unfold cP
 rw[if_neg (by simp[h2]),if_neg (by simp[h3]),if_neg (by simp[h4]),if_neg (by simp[h5])]
theorem XL{T:List Tok}{p:Nat}{r:RS}(k:Int)(h:gh T.length p r): p≤(nO k r).p∧(nO k r).p≤T.length:=⟨h.1,h.2.1⟩
theorem IB{T:List Tok}{p:Nat}(hp:p<T.length): (lG T p).p≤T.length∧(mB T p).p≤T.length∧(ep T p).p≤T.length∧(rm T p).p≤T.length∧p≤(rm T p).p:=by
 have g1:gh T.length (p+1) (lG T p):=BA T hp
 have g2:gh T.length (p+1) (mB T p):=xj _ _ g1
 have g3:gh T.length (mB T p).p (ep T p):=BA T g2.2.1
 have g4:(rm T p).p≤T.length∧(ep T p).p≤(rm T p).p:=by
  unfold rm
  split
  ·rename_i h
   exact⟨(iK h).1,Nat.le_succ _⟩
  ·have:=xj 4 [93] g3
   refine⟨this.2.1,?_⟩
   simp only[dU,kX];split<;>omega
 have:=g1.1;have:=g2.1;have:=g3.1
 have m2:(lG T p).p≤(mB T p).p:=by simp only[mB,dU,kX];split<;>omega
 exact⟨g1.2.1,g2.2.1,g3.2.1,g4.1,by omega⟩
theorem BC{T:List Tok}{p:Nat}{b:Bool}(hp:p≤T.length): p≤(cP T p b).p∧(cP T p b).p≤T.length:=by
 have st:∀ k s,cn T p b 4 s=true→p≤(nO k (eD T (p+1) b)).p∧(nO k (eD T (p+1) b)).p≤T.length:=fun k s h=>by
  have:=BA T (q:=p+1) (b:=b) (iK h).1
  exact⟨Nat.le_of_succ_le this.1,this.2.1⟩
 unfold cP
 split
 ·rename_i h;exact st _ _ h
 split
 ·rename_i h;exact st _ _ h
 split
 ·rename_i h;exact st _ _ h
 split
 ·rename_i h;exact st _ _ h
 split
 ·rename_i h;have:=IB (iK h).1;exact⟨this.2.2.2.2,this.2.2.2.1⟩
 split
 ·rename_i h;have:=IB (iK h).1;exact⟨this.2.2.2.2,this.2.2.2.1⟩
 ·exact XL 1 (BA T hp)
theorem uI(T:List Tok)(p:Nat)(b:Bool)(s:aH)(o:Bool)(hs:s≠[])(hp:p≤2 ^ 61)(h:cn T p b 4 s=o): aV Tryz.prog fB 0 [.str s] (bn T p b) (bn T (if o then p+1 else p) b) (.bool o):=by
 have:=UG T p b s hs hp
 unfold kX at this
 rw[h]at this
 exact this
theorem Ml{σ : ai}{k:Int}{r:Expr}: View σ (.agg [I k,I r.op,I r.v.kind,I r.v.n,.str r.v.s,.str r.s,.aG false EX (r.l.map aJ),I 0,I 0,I 0,.str [],.str [],.ae,.bool false,.bool false]) (bx ⟨k,r,x0,false,false⟩):=by
 simp only[bx,bP]
 refine View.mq (.cons (.refl _ rfl) (.cons (.refl _ rfl) (.cons (.refl _ rfl) (.cons (.refl _ rfl) (.cons (.refl _ rfl) (.cons (.refl _ rfl) (.cons (.refl _ ?_) (.cons (.refl _ rfl) (.cons (.refl _ rfl) (.cons (.refl _ rfl) (.cons (.refl _ rfl) (.cons (.refl _ rfl) (.cons (.ae _) (.cons (.refl _ rfl) (.cons (.refl _ rfl) (.nil _))))))))))))))))
 simp
theorem XM(T:List Tok)(p:Nat)(b:Bool)(hp:p≤T.length)(hT:T.length≤2 ^ 50)(hs:∀ q,(T.getD q default).s.length≤2 ^ 62):
 aV Tryz.prog pL 0 [] (bn T p b) (bn T (cP T p b).p (cP T p b).bad) (bx (cP T p b).t):=by
 generalize hR:cP T p b=R
 generalize hE:bx R.t=E
 refine aV.bH (FY (by simp) ?_) rfl (aO _ _ _)
 unfold w8 aM
 intro Q aC aD aE
 repeat' first|refine aB ?_|refine aA (fun hw=>?_) (fun hw=>?_)<;>try omega|fail
 with_reducible refine a_ [3,5,6,7,8,9,10,11,12,13,14,15,16] (fun k:Int=>[(3,I k)]) (fun _=>[.cells [.aG false ET (T.map j3),I p,.bool b],.cells [I 0,I 0,I 0,I 0,.str [],.str [],.ae,I 0,I 0,I 0,.str [],.str [],.ae,.bool false,.bool false]]) (fun k=>2≤k∧k≤6∧ ∀ j:Int,2≤j→j<k→cn T p b 4 (eL j)=false) (fun k=>(6-k).toNat) (2) ?_ ?_ ?_ ?_
 ·exact⟨by omega,by omega,fun j h1 h2=>by omega⟩
 ·rfl
 ·exact at_
 rintro k r ⟨h1,h2,h3⟩
 by_cases hk:k≤5
 ·have hgo:=O_ k
  obtain⟨o,ho⟩:∃ o,cn T p b 4 (eL k)=o:=⟨_,rfl⟩
  have nj:=uI T p b (eL k) o (Zh h1 hk) (by omega) ho
  cases o with
  | false =>
    simp only[bn,Bool.false_eq_true,if_false]at nj
    repeat' first|refine aB ?_|refine aF hgo ?_|refine aS nj ?_|refine aA (fun hw=>?_) (fun hw=>?_)<;>try omega|fail
    refine⟨k+1,?_,?_,by first|rfl|(simp[go_sem];done),bG,at_⟩<;>(try dsimp only)
    ·refine⟨by omega,by omega,fun j OO Cu=>?_⟩
     by_cases Cv:j=k
     ·subst Cv;exact ho
     ·exact h3 j OO (by omega)
    ·omega
  | true =>
    have Mm:=iK ho
    have hce:=BB T (p+1) b hT hs
    rw[Mj h1 hk h3 ho]at hR
    subst hR
    simp only[nO]at hE aC aD aE
    generalize eD T (p+1) b=x at *
    rw[aN]at hce
    simp only[bn,if_true,Int.natCast_add,Int.cast_ofNat_Int]at nj hce
    repeat' first|simp (disch:=omega) only[go_sem,aC,aD,aE,aj,au,ak,Nat.reduceAdd,Nat.reduceBEq,↓reduceIte,Int.natCast_add,Int.cast_ofNat_Int]|refine aB ?_|refine aF hgo ?_|refine aS nj ?_|refine aS hce ?_|refine aA (fun hw=>?_) (fun hw=>?_)<;>try omega|fail
    exact bE (by rw[← hE];exact Ml) (aQ.refl (aO _ _ _))
 ·obtain rfl:k=6:=by omega
  rw[Mk (fun j OO Cu=>h3 j OO Cu)]at hR
  have hmk:=HI T p b
  obtain⟨o1,FF⟩:∃ o,cn T p b 4 [91]=o:=⟨_,rfl⟩
  obtain⟨o2,Bz⟩:∃ o,cn T p b 4 [93]=o:=⟨_,rfl⟩
  have oO:=uI T p b [91] o1 (by decide) (by omega) FF
  have sN:=uI T p b [93] o2 (by decide) (by omega) Bz
  have hmo:=wc T p b [93] (by decide)
  rw[FF,Bz]at hR
  rw[Bz]at hmo
  have wT:=wc T p b [91] (by decide)
  rw[FF]at wT
  generalize hmt:uH T p=mt at *
  by_cases hin:o1=true∨o2=true
  ·have Mm : p < T.length ∧ b = false := by
    rcases hin with h|h
    ·exact iK (FF.trans h)
    ·exact iK (Bz.trans h)
   obtain⟨Mm,rfl⟩:=Mm
   have Lu:R=FH T p (decide (mt=[93])):=by
    rw[← hR]
    simp only[Bool.not_false,Bool.true_and]at hmo wT
    cases o1 with
    | true =>
      have:mt=[91]:=by simpa using wT.symm
      rw[if_pos rfl,this];rfl
    | false =>
      rcases hin with h|h
      ·cases h
      ·subst h
       have:mt=[93]:=by simpa using hmo.symm
       rw[if_neg (by simp),if_pos rfl,this];rfl
   clear hR
   subst Lu
   obtain⟨g1,g2,g3,g4,_⟩:=IB (T:=T) Mm
   have c1:=BB T (p+1) false hT hs
   have c2:=HJ T (lG T p).p (lG T p).bad [46,46] (by decide) (by omega)
   have c3:=BB T (mB T p).p (mB T p).bad hT hs
   obtain⟨o3,HE⟩:∃ o,UH T p=o:=⟨_,rfl⟩
   have c4:=uI T (ep T p).p (ep T p).bad [91] o3 (by decide) (by omega) HE
   have c5:=HJ T (ep T p).p (ep T p).bad [93] (by decide) (by omega)
   change aV _ _ _ _ _ (bn T (lG T p).p (lG T p).bad) (aJ (lG T p).x)at c1
   change aV _ _ _ _ _ (bn T (mB T p).p (mB T p).bad) _ at c2
   change aV _ _ _ _ _ (bn T (ep T p).p (ep T p).bad) (aJ (ep T p).x)at c3
   change aV _ _ _ _ _ (bn T (dU T (ep T p) 4 [93]).p (dU T (ep T p) 4 [93]).bad) _ at c5
   have JB:rm T p=if o3 then⟨x0,(ep T p).p+1,(ep T p).bad⟩else dU T (ep T p) 4 [93]:=by rw[← HE];rfl
   have R7:FH T p (decide (mt=[93]))=⟨⟨6,(lG T p).x,(ep T p).x,decide (mt=[93]),o3⟩,(rm T p).p,(rm T p).bad⟩:=by rw[← HE];rfl
   rw[R7]at hE aC aD aE
   rw[JB]at aC aD aE
   clear JB R7 HE FF Bz g1 g2 g4
   generalize dU T (ep T p) 4 [93]=r5 at *
   generalize lG T p=r1 at *
   generalize mB T p=r2 at *
   generalize ep T p=r3 at *
   rw[aN]at c1 c3
   simp only[bx,bP]at hE
   simp only[bn]at hmk
   have fin:∀ σ : ai,View σ (.agg [I 6,I r1.x.op,I r1.x.v.kind,I r1.x.v.n,.str r1.x.v.s,.str r1.x.s,.aG false EX (r1.x.l.map aJ),I r3.x.op,I r3.x.v.kind,I r3.x.v.n,.str r3.x.v.s,.str r3.x.s,.aG false EX (r3.x.l.map aJ),.bool (mt==[93]),.bool o3]) E:=fun σ=>by
    rw[← hE,show decide (mt=[93])=(mt==[93]) from by rw[Bool.eq_iff_iff];simp];exact View.eqv rfl (by simp)
   clear hE
   have hne:mt==[93]↔mt=[93]:=by simp
   cases o1 with
   | true =>
     simp only[bn,if_true,Int.natCast_add,Int.cast_ofNat_Int]at oO c1 c2 c3 c4 c5
     cases o3 with
     | true =>
       simp only[if_true]at c4 fin aC aD aE
       repeat' first|simp (disch:=omega) only[go_sem,aC,aD,aE,aj,au,ak,Nat.reduceAdd,Nat.reduceBEq,↓reduceIte,Int.natCast_add,Int.cast_ofNat_Int]|refine aB ?_|refine aS hmk ?_|refine aS oO ?_|refine aS c1 ?_|refine aS c2 ?_|refine aS c3 ?_|refine aS c4 ?_|refine aA (fun hw=>?_) (fun hw=>?_)<;>try omega|fail
       exact bE (fin _) (aQ.eqv (by simp[bn]) (aO _ _ _))
     | false =>
       simp only[Bool.false_eq_true,if_false]at c4 fin aC aD aE
       repeat' first|simp (disch:=omega) only[go_sem,aC,aD,aE,aj,au,ak,Nat.reduceAdd,Nat.reduceBEq,↓reduceIte,Int.natCast_add,Int.cast_ofNat_Int]|refine aB ?_|refine aS hmk ?_|refine aS oO ?_|refine aS c1 ?_|refine aS c2 ?_|refine aS c3 ?_|refine aS c4 ?_|refine aS c5 ?_|refine aA (fun hw=>?_) (fun hw=>?_)<;>try omega|fail
       exact bE (fin _) (aQ.eqv (by simp[bn]) (aO _ _ _))
   | false =>
     have agj:o2=true:=by rcases hin with h|h<;>first|(cases h;done)|exact h
     subst agj
     simp only[bn,if_true,Bool.false_eq_true,if_false,Int.natCast_add,Int.cast_ofNat_Int]at oO sN c1 c2 c3 c4 c5
     cases o3 with
     | true =>
       simp only[if_true]at c4 fin aC aD aE
       repeat' first|simp (disch:=omega) only[go_sem,aC,aD,aE,aj,au,ak,Nat.reduceAdd,Nat.reduceBEq,↓reduceIte,Int.natCast_add,Int.cast_ofNat_Int]|refine aB ?_|refine aS hmk ?_|refine aS oO ?_|refine aS sN ?_|refine aS c1 ?_|refine aS c2 ?_|refine aS c3 ?_|refine aS c4 ?_|refine aA (fun hw=>?_) (fun hw=>?_)<;>try omega|fail
       exact bE (fin _) (aQ.eqv (by simp[bn]) (aO _ _ _))
     | false =>
       simp only[Bool.false_eq_true,if_false]at c4 fin aC aD aE
       repeat' first|simp (disch:=omega) only[go_sem,aC,aD,aE,aj,au,ak,Nat.reduceAdd,Nat.reduceBEq,↓reduceIte,Int.natCast_add,Int.cast_ofNat_Int]|refine aB ?_|refine aS hmk ?_|refine aS oO ?_|refine aS sN ?_|refine aS c1 ?_|refine aS c2 ?_|refine aS c3 ?_|refine aS c4 ?_|refine aS c5 ?_|refine aA (fun hw=>?_) (fun hw=>?_)<;>try omega|fail
       exact bE (fin _) (aQ.eqv (by simp[bn]) (aO _ _ _))
  ·obtain⟨rfl,rfl⟩:o1=false∧o2=false:=⟨by cases o1 with|false=>rfl|true=>exact absurd (.inl rfl) hin,by cases o2 with|false=>rfl|true=>exact absurd (.inr rfl) hin⟩
   simp only[Bool.false_eq_true,if_false]at hR
   subst hR
   have c1:=BB T p b hT hs
   simp only[nO]at hE aC aD aE
   generalize eD T p b=x at *
   rw[aN]at c1
   simp only[bn,Bool.false_eq_true,if_false]at oO sN c1 hmk
   repeat' first|refine aB ?_|refine aS hmk ?_|refine aS oO ?_|refine aS sN ?_|refine aS c1 ?_|refine aA (fun hw=>?_) (fun hw=>?_)<;>try omega|fail
   exact bE (by rw[← hE];exact Ml) (aQ.refl (aO _ _ _))
theorem oB(T:List Tok)(p:Nat)(b:Bool)(s:aH)(o:Bool)(h:cn T p b 4 s=o): aV Tryz.prog c7 0 [.str s] (bn T p b) (bn T p b) (.bool o):=by
 rw[← h];exact R5 T p b s
theorem R8{T:List Tok}{r:RS}{k:Int}{s:aH}(h:r.bad=true): (dU T r k s).p=r.p∧(dU T r k s).bad=true:=by
 have:cn T r.p r.bad k s=false:=by unfold cn;rw[h];rfl
 simp only[dU,kX,this,h];exact⟨rfl,rfl⟩
set_option maxHeartbeats 2000000 in
theorem JC(T:List Tok)(p:Nat)(b:Bool)(hp:p≤T.length)(hT:T.length≤2 ^ 50)(hs:∀ q,(T.getD q default).s.length≤2 ^ 62):
 aV Tryz.prog gG 0 [] (bn T p b) (bn T (cP T p b).p (cP T p b).bad) (bx (cP T p b).t):=by
 generalize hR:cP T p b=R
 generalize hE:bx R.t=E
 refine aV.bH (D4 (by simp) ?_) rfl (aO _ _ _)
 unfold vf aM
 intro Q aC aD aE
 repeat' first|refine aB ?_|refine aA (fun hw=>?_) (fun hw=>?_)<;>try omega|fail
 with_reducible refine a_ [3,5,6,7,8,9,10,11,12,13,14,15,16,17,18,19,20,21,22,23] (fun k:Int=>[(3,I k)]) (fun _=>[.cells [.aG false ET (T.map j3),I p,.bool b],.cells [I 0,I 0,I 0,I 0,.str [],.str [],.ae,I 0,I 0,I 0,.str [],.str [],.ae,.bool false,.bool false]]) (fun k=>2≤k∧k≤6∧ ∀ j:Int,2≤j→j<k→cn T p b 4 (eL j)=false) (fun k=>(6-k).toNat) (2) ?_ ?_ ?_ ?_
 ·exact⟨by omega,by omega,fun j h1 h2=>by omega⟩
 ·rfl
 ·exact at_
 rintro k r ⟨h1,h2,h3⟩
 by_cases hk:k≤5
 ·have hgo:=Mh k
  obtain⟨o,ho⟩:∃ o,cn T p b 4 (eL k)=o:=⟨_,rfl⟩
  have nj:=oB T p b (eL k) o ho
  cases o with
  | false =>
    simp only[bn]at nj
    repeat' first|refine aB ?_|refine aF hgo ?_|refine aS nj ?_|refine aA (fun hw=>?_) (fun hw=>?_)<;>try omega|fail
    refine⟨k+1,?_,?_,by first|rfl|(simp[go_sem];done),bG,at_⟩<;>(try dsimp only)
    ·refine⟨by omega,by omega,fun j OO Cu=>?_⟩
     by_cases Cv:j=k
     ·subst Cv;exact ho
     ·exact h3 j OO (by omega)
    ·omega
  | true =>
    have Mm:=iK ho
    have hce:=yV T (p+1) b hT hs
    rw[Mj h1 hk h3 ho]at hR
    subst hR
    simp only[nO]at hE aC aD aE
    generalize eD T (p+1) b=x at *
    rw[aN]at hce
    simp only[bn,Int.natCast_add,Int.cast_ofNat_Int]at nj hce
    repeat' first|simp (disch:=omega) only[go_sem,aC,aD,aE,aj,au,ak,Nat.reduceAdd,Nat.reduceBEq,↓reduceIte,Int.natCast_add,Int.cast_ofNat_Int]|refine aB ?_|refine aF hgo ?_|refine aS nj ?_|refine aS hce ?_|refine aA (fun hw=>?_) (fun hw=>?_)<;>try omega|fail
    exact bE (by rw[← hE];exact Ml) (aQ.refl (aO _ _ _))
 ·obtain rfl:k=6:=by omega
  rw[Mk (fun j OO Cu=>h3 j OO Cu)]at hR
  obtain⟨o1,FF⟩:∃ o,cn T p b 4 [91]=o:=⟨_,rfl⟩
  obtain⟨o2,Bz⟩:∃ o,cn T p b 4 [93]=o:=⟨_,rfl⟩
  have oO:=oB T p b [91] o1 FF
  have sN:=oB T p b [93] o2 Bz
  have hmo:=wc T p b [93] (by decide)
  rw[FF,Bz]at hR
  rw[Bz]at hmo
  have wT:=wc T p b [91] (by decide)
  rw[FF]at wT
  generalize hmt:uH T p=mt at *
  by_cases hin:o1=true∨o2=true
  ·have Mm : p < T.length ∧ b = false := by
    rcases hin with h|h
    ·exact iK (FF.trans h)
    ·exact iK (Bz.trans h)
   obtain⟨Mm,rfl⟩:=Mm
   have Lu:R=FH T p o2∧(o1=true→o2=false):=by
    rw[← hR]
    simp only[Bool.not_false,Bool.true_and]at hmo wT
    cases o1 with
    | true =>
      have:mt=[91]:=by simpa using wT.symm
      have h2:o2=false:=by rw[hmo,this];rfl
      rw[if_pos rfl,h2];exact⟨rfl,fun _=>rfl⟩
    | false =>
      rcases hin with h|h
      ·cases h
      ·subst h
       rw[if_neg (by simp),if_pos rfl];exact⟨rfl,fun h=>by cases h⟩
   clear hR wT hmo hmt
   obtain⟨Lu,acw⟩:=Lu
   subst Lu
   obtain⟨g1,g2,g3,g4,_⟩:=IB (T:=T) Mm
   have c1:=yV T (p+1) false hT hs
   have c2:=En T (lG T p).p (lG T p).bad [46,46] (by omega)
   have c3:=yV T (mB T p).p (mB T p).bad hT hs
   obtain⟨o3,HE⟩:∃ o,UH T p=o:=⟨_,rfl⟩
   have c4:=oB T (ep T p).p (ep T p).bad [91] o3 HE
   have c5:=En T (ep T p).p (ep T p).bad [93] (by omega)
   have k1:(lG T p).bad=true→(mB T p).p=(lG T p).p∧(mB T p).bad=true:=R8
   have k3:(ep T p).bad=true→(dU T (ep T p) 4 [93]).p=(ep T p).p∧(dU T (ep T p) 4 [93]).bad=true:=R8
   have k4:o3=true→(ep T p).bad=false:=fun h=>(iK (HE.trans h)).2
   change aV _ _ _ _ _ (bn T (lG T p).p (lG T p).bad) (aJ (lG T p).x)at c1
   change aV _ _ _ _ _ (bn T (mB T p).p (mB T p).bad) _ at c2
   change aV _ _ _ _ _ (bn T (ep T p).p (ep T p).bad) (aJ (ep T p).x)at c3
   change aV _ _ _ _ _ (bn T (dU T (ep T p) 4 [93]).p (dU T (ep T p) 4 [93]).bad) _ at c5
   have JB:rm T p=if o3 then⟨x0,(ep T p).p+1,(ep T p).bad⟩else dU T (ep T p) 4 [93]:=by rw[← HE];rfl
   have R7:FH T p o2=⟨⟨6,(lG T p).x,(ep T p).x,o2,o3⟩,(rm T p).p,(rm T p).bad⟩:=by rw[← HE];rfl
   rw[R7]at hE aC aD aE
   rw[JB]at aC aD aE
   clear JB R7 HE FF Bz g1 g2 g4
   generalize dU T (ep T p) 4 [93]=r5 at *
   generalize lG T p=r1 at *
   generalize mB T p=r2 at *
   generalize ep T p=r3 at *
   rw[aN]at c1 c3
   simp only[bx,bP]at hE
   have fin:∀ σ : ai,View σ (.agg [I 6,I r1.x.op,I r1.x.v.kind,I r1.x.v.n,.str r1.x.v.s,.str r1.x.s,.aG false EX (r1.x.l.map aJ),I r3.x.op,I r3.x.v.kind,I r3.x.v.n,.str r3.x.v.s,.str r3.x.s,.aG false EX (r3.x.l.map aJ),.bool o2,.bool o3]) E:=fun σ=>by
    rw[← hE];exact View.eqv rfl (by simp)
   clear hE
   obtain⟨x1,p1,b1⟩:=r1
   obtain⟨x2,p2,b2⟩:=r2
   obtain⟨x3,p3,b3⟩:=r3
   obtain⟨x5,p5,b5⟩:=r5
   dsimp only at *
   simp only[bn,Int.natCast_add,Int.cast_ofNat_Int]at oO sN c1 c2 c3 c4 c5
   have acy:∀ {v:AV} {lT:List AV} {τ : ai},View (.dead:: τ) v E→o3=true→lT=bn T (p3+1) false→b3=false→ ∃ r0 Cq zC,Out.ret (oneOf [v])=Out.ret r0∧aR.cells lT:: τ = aR.cells Cq::zC∧View (.dead::zC) r0 E∧aQ (.dead::zC) Cq (bn T (if o3=true then(⟨x0,p3+1,b3⟩:RS)else ⟨x5,p5,b5⟩).p (if o3=true then(⟨x0,p3+1,b3⟩:RS)else ⟨x5,p5,b5⟩).bad):=fun hv h3 hd hb=>by
    rw[if_pos h3,hb];exact bE hv (aQ.eqv hd (aO _ _ _))
   have V8:∀ {v:AV} {lT:List AV} {τ : ai},View (.dead:: τ) v E→o3=false→lT=bn T p5 b5→ ∃ r0 Cq zC,Out.ret (oneOf [v])=Out.ret r0∧aR.cells lT:: τ = aR.cells Cq::zC∧View (.dead::zC) r0 E∧aQ (.dead::zC) Cq (bn T (if o3=true then(⟨x0,p3+1,b3⟩:RS)else ⟨x5,p5,b5⟩).p (if o3=true then(⟨x0,p3+1,b3⟩:RS)else ⟨x5,p5,b5⟩).bad):=fun hv h3 hd=>by
    rw[if_neg (by simp[h3])];exact bE hv (aQ.eqv hd (aO _ _ _))
   generalize (if o3=true then(⟨x0,p3+1,b3⟩:RS)else ⟨x5,p5,b5⟩)=rz at *
   have Eo:o1=true∧o2=false∨o1=false∧o2=true:=by
    cases o1 with
    | true=>exact .inl ⟨rfl,acw rfl⟩
    | false => rcases hin with h | h
               ·cases h
               ·exact .inr ⟨rfl,h⟩
   clear hin acw
   rcases Eo with⟨rfl,rfl⟩|⟨rfl,rfl⟩
   all_goals
    cases b1 with
    | true =>
      obtain⟨rfl,rfl⟩:=k1 rfl
      cases b3 with
      | true =>
        obtain⟨rfl,rfl⟩:=k3 rfl
        have h3:o3=false:=by cases o3 with
         | false=>rfl
         | true=>exact absurd (k4 rfl) (by simp)
        subst h3
        repeat' first|simp (disch:=omega) only[go_sem,aC,aD,aE,aj,au,ak,Nat.reduceAdd,Nat.reduceBEq,↓reduceIte,Int.natCast_add,Int.cast_ofNat_Int]|refine aB ?_|refine aS oO ?_|refine aS sN ?_|refine aS c1 ?_|refine aS c3 ?_|refine aS c4 ?_|refine aA (fun hw=>?_) (fun hw=>?_)<;>try omega|fail
        all_goals exact V8 (fin _) rfl rfl
      | false =>
        cases o3 with
        | true =>
          repeat' first|simp (disch:=omega) only[go_sem,aC,aD,aE,aj,au,ak,Nat.reduceAdd,Nat.reduceBEq,↓reduceIte,Int.natCast_add,Int.cast_ofNat_Int]|refine aB ?_|refine aS oO ?_|refine aS sN ?_|refine aS c1 ?_|refine aS c3 ?_|refine aS c4 ?_|refine aA (fun hw=>?_) (fun hw=>?_)<;>try omega|fail
          all_goals exact acy (fin _) rfl (by simp[bn]) rfl
        | false =>
          repeat' first|simp (disch:=omega) only[go_sem,aC,aD,aE,aj,au,ak,Nat.reduceAdd,Nat.reduceBEq,↓reduceIte,Int.natCast_add,Int.cast_ofNat_Int]|refine aB ?_|refine aS oO ?_|refine aS sN ?_|refine aS c1 ?_|refine aS c3 ?_|refine aS c4 ?_|refine aS c5 ?_|refine aA (fun hw=>?_) (fun hw=>?_)<;>try omega|fail
          all_goals exact V8 (fin _) rfl rfl
    | false =>
      cases b3 with
      | true =>
        obtain⟨rfl,rfl⟩:=k3 rfl
        have h3:o3=false:=by cases o3 with
         | false=>rfl
         | true=>exact absurd (k4 rfl) (by simp)
        subst h3
        repeat' first|simp (disch:=omega) only[go_sem,aC,aD,aE,aj,au,ak,Nat.reduceAdd,Nat.reduceBEq,↓reduceIte,Int.natCast_add,Int.cast_ofNat_Int]|refine aB ?_|refine aS oO ?_|refine aS sN ?_|refine aS c1 ?_|refine aS c2 ?_|refine aS c3 ?_|refine aS c4 ?_|refine aA (fun hw=>?_) (fun hw=>?_)<;>try omega|fail
        all_goals exact V8 (fin _) rfl rfl
      | false =>
        cases o3 with
        | true =>
          repeat' first|simp (disch:=omega) only[go_sem,aC,aD,aE,aj,au,ak,Nat.reduceAdd,Nat.reduceBEq,↓reduceIte,Int.natCast_add,Int.cast_ofNat_Int]|refine aB ?_|refine aS oO ?_|refine aS sN ?_|refine aS c1 ?_|refine aS c2 ?_|refine aS c3 ?_|refine aS c4 ?_|refine aA (fun hw=>?_) (fun hw=>?_)<;>try omega|fail
          all_goals exact acy (fin _) rfl (by simp[bn]) rfl
        | false =>
          repeat' first|simp (disch:=omega) only[go_sem,aC,aD,aE,aj,au,ak,Nat.reduceAdd,Nat.reduceBEq,↓reduceIte,Int.natCast_add,Int.cast_ofNat_Int]|refine aB ?_|refine aS oO ?_|refine aS sN ?_|refine aS c1 ?_|refine aS c2 ?_|refine aS c3 ?_|refine aS c4 ?_|refine aS c5 ?_|refine aA (fun hw=>?_) (fun hw=>?_)<;>try omega|fail
          all_goals exact V8 (fin _) rfl rfl
  ·obtain⟨rfl,rfl⟩:o1=false∧o2=false:=⟨by cases o1 with|false=>rfl|true=>exact absurd (.inl rfl) hin,by cases o2 with|false=>rfl|true=>exact absurd (.inr rfl) hin⟩
   simp only[Bool.false_eq_true,if_false]at hR
   subst hR
   have c1:=yV T p b hT hs
   simp only[nO]at hE aC aD aE
   generalize eD T p b=x at *
   rw[aN]at c1
   simp only[bn]at oO sN c1
   repeat' first|refine aB ?_|refine aS oO ?_|refine aS sN ?_|refine aS c1 ?_|refine aA (fun hw=>?_) (fun hw=>?_)<;>try omega|fail
   exact bE (by rw[← hE];exact Ml) (aQ.refl (aO _ _ _))
end Go.Proofs.YtmbgnaoilncbnaaGreatDoor
