/- Part of a proof: see Root. -/
import Derived.Test.YtmbgnaoilncbnaaGreatDoorZ19
set_option linter.unnecessarySimpa false
set_option linter.unusedSimpArgs false
set_option linter.unusedVariables false
namespace Go.Proofs.YtmbgnaoilncbnaaGreatDoor
open Go.AM
set_option maxRecDepth 4000
theorem De(op:Int)(v:dy)(s:aH)(l:List Expr): da (.mk op v s l)=kW l+1:=by simp only[da]
def O6: Option Expr→Nat
 | none=>1
 | some x=>da x
theorem N5{T:List Tok}{r:RS}{k:Int}{s:aH}: (dU T r k s).x=r.x∧r.p≤(dU T r k s).p:=by
 refine⟨rfl,?_⟩
 simp only[dU,kX]
 split<;>omega
theorem XF{rd:Nat→Nat→RS}{l q:Nat}{b:Bool}(h:da (rd l q).x+4*q≤1+4*(rd l q).p): da (mV rd l q b).x+4*q≤1+4*(mV rd l q b).p:=by
 unfold mV
 split
 ·simp[x0,da,kW]
 ·exact h
theorem ad4(T:List Tok)(f:Nat): ∀(m:Option Expr) (lvl p:Nat),p≤T.length→da (bh T f m lvl p).x+4*p≤O6 m+4*(bh T f m lvl p).p:=by
 induction f with
 | zero =>
   intro m lvl p hp
   have:1≤O6 m:=by
    cases m with
    | none=>exact Nat.le_refl _
    | some x=>cases x;simp[O6,da]
   simp only[bh,x0,da,kW];omega
 | succ f ih =>
   intro m lvl p hp
   have hrd:∀ l q,q≤T.length→da (bh T f none l q).x+4*q≤1+4*(bh T f none l q).p:=fun l q hq=>ih none l q hq
   have hgo:∀ l q,q≤T.length→gh T.length q (bh T f none l q):=fun l q hq=>(mW T f none l q hq).1 rfl
   cases m with
   | none =>
     simp only[bh,O6]
     split
     ·split
      ·rename_i h
       have h1:=iJ h
       have ga:=Az hgo (p:=p+1) h1
       have gb:=AA hgo (p:=p+1) h1
       have a:=hrd 0 (p+1) h1
       have b:=XF (b:=(gA (bh T f none) T (p+1)).bad) (hrd 0 _ ga.2.1)
       have c:=XF (b:=(n9 (bh T f none) T (p+1)).bad) (hrd 0 _ gb.2.1)
       have a2:=N5 (T:=T) (r:=bh T f none 0 (p+1)) (k:=1) (s:=thenS)
       have b2:=N5 (T:=T) (r:=mV (bh T f none) 0 (gA (bh T f none) T (p+1)).p (gA (bh T f none) T (p+1)).bad) (k:=1) (s:=wF)
       have ea:(gA (bh T f none) T (p+1))=dU T (bh T f none 0 (p+1)) 1 thenS:=rfl
       have eb:(n9 (bh T f none) T (p+1))=dU T (mV (bh T f none) 0 (gA (bh T f none) T (p+1)).p (gA (bh T f none) T (p+1)).bad) 1 wF:=rfl
       have ec:(xh (bh T f none) T (p+1))=mV (bh T f none) 0 (n9 (bh T f none) T (p+1)).p (n9 (bh T f none) T (p+1)).bad:=rfl
       show da (.mk 16 v0 [] [(gA (bh T f none) T (p+1)).x,(n9 (bh T f none) T (p+1)).x,(xh (bh T f none) T (p+1)).x])+4*p≤1+4*(xh (bh T f none) T (p+1)).p
       rw[← ea]at a2
       rw[← eb]at b2
       rw[← ec]at c
       simp only[De,kW]
       rw[a2.1,b2.1]
       omega
      ·exact hrd 1 p hp
     ·split
      ·rename_i h
       have h1:=iJ h.2
       have c:=hrd 6 (p+1) h1
       simp only[De,kW];omega
      ·split
       ·have ok:∀ v s,da (.mk 1 v s [])+4*p≤1+4*(p+1):=fun v s=>by simp only[De,kW];omega
        unfold fE
        split
        ·rename_i h
         have c:=hrd 0 (p+1) (iJ h)
         have a2:=N5 (T:=T) (r:=bh T f none 0 (p+1)) (k:=4) (s:=[41])
         show da (dU T (bh T f none 0 (p+1)) 4 [41]).x+4*p≤1+4*(dU T (bh T f none 0 (p+1)) 4 [41]).p
         rw[a2.1];omega
        ·repeat' split
         all_goals simp only[v_,x0,De,kW]
         all_goals omega
       ·split
        ·exact hrd _ _ hp
        ·have a:=hrd (lvl+1) p hp
         have b:=ih (some (bh T f none (lvl+1) p).x) lvl _ (hgo (lvl+1) p hp).2.1
         simp only[O6]at b
         omega
   | some x =>
     simp only[bh,O6]
     split
     ·exact Nat.le_refl _
     ·rename_i o ho
      have h1:=(Dc ho).1
      have a:=hrd (lvl+1) (p+1) h1
      have g:=hgo (lvl+1) (p+1) h1
      split
      ·simp only[De,kW];omega
      ·have b:=ih (some (.mk o.op v0 [] [x,(bh T f none (lvl+1) (p+1)).x])) lvl _ g.2.1
       simp only[O6,De,kW]at b
       omega
def cR(T:List Tok)(fr lvl:Int): Expr × Int × Int :=
 if fr<0∨(T.length:Int)<fr∨lvl<0∨7<lvl then(x0,0,2)
 else if(bh T (8*T.length+9) none lvl.toNat fr.toNat).bad then(x0,(bh T (8*T.length+9) none lvl.toNat fr.toNat).p,11)
 else((bh T (8*T.length+9) none lvl.toNat fr.toNat).x,(bh T (8*T.length+9) none lvl.toNat fr.toNat).p,0)
def xk(r:Expr × Int × Int): AV:= .bJ [aJ r.1,I r.2.1,I r.2.2]
theorem fF{σ : ai}{a E:AV}{n m:Int}(h:View σ a E): aQ σ [a,I n,I m] [E,I n,I m]:= .cons h (.cons (.refl _ rfl) (.cons (.refl _ rfl) (.nil _)))
theorem Jx(T:List Tok)(fr lvl:Int)(hT:T.length≤2 ^ 50)(hs:∀ q,(T.getD q default).s.length≤2 ^ 62): aq Tryz.prog sr [oZ T,I fr,I lvl] (xk (cR T fr lvl)):=by
 by_cases hg:fr<0∨(T.length:Int)<fr∨lvl<0∨7<lvl
 ·have e:cR T fr lvl=(x0,0,2):=by unfold cR;rw[if_pos hg]
  rw[e]
  have e1:∀ σ : ai,View σ (.agg [I 0,I 0,I 0,.str [],.str [],.ae]) (aJ x0):=fun σ=>fW (.ae _)
  simp only[xk]
  generalize aJ x0=E at *
  refine aq.of_nil (vT (by simp) ?_) (by simp)
  unfold sy aM
  intro Q aC aD aE
  repeat' first|refine aB ?_|refine aA (fun hw=>?_) (fun hw=>?_)<;>try omega|fail
  all_goals first|exact bw (fF (e1 _))|(exfalso;omega)
 ·obtain⟨p,rfl⟩:∃ p:Nat,fr=p:=⟨fr.toNat,by omega⟩
  obtain⟨l,rfl⟩:∃ l:Nat,lvl=l:=⟨lvl.toNat,by omega⟩
  have cr:=TF T (by omega) hs (8*T.length+9) l p (by omega) (by omega) (by omega)
  have e:cR T p l=if(bh T (8*T.length+9) none l p).bad then(x0,((bh T (8*T.length+9) none l p).p:Int),11)else ((bh T (8*T.length+9) none l p).x,((bh T (8*T.length+9) none l p).p:Int),0):=by
   unfold cR;rw[if_neg hg,Int.toNat_natCast,Int.toNat_natCast]
  rw[e]
  simp only[mX]at cr
  generalize bh T (8*T.length+9) none l p=r at *
  obtain⟨rx,rp,rb⟩:=r
  dsimp only at *
  have e1:∀ σ : ai,View σ (.agg [I 0,I 0,I 0,.str [],.str [],.ae]) (aJ x0):=fun σ=>fW (.ae _)
  have e2:∀ σ : ai,View σ (.agg [I rx.op,I rx.v.kind,I rx.v.n,.str rx.v.s,.str rx.s,.aG false EX (rx.l.map aJ)]) (aJ rx):=fun σ=>View.eqv (aN _).symm (cD _)
  rw[aN]at cr
  simp only[bn]at cr
  cases rb with
  | true =>
    simp only[if_true,xk]
    generalize aJ x0=E at *
    refine aq.of_nil (vT (by simp) ?_) (by simp)
    unfold sy aM
    intro Q aC aD aE
    repeat' first|refine aB ?_|refine aS cr ?_|refine aA (fun hw=>?_) (fun hw=>?_)<;>try omega|fail
    all_goals first|exact bw (fF (e1 _))|(exfalso;omega)
  | false =>
    simp only[Bool.false_eq_true,if_false,xk]
    generalize aJ rx=E at *
    refine aq.of_nil (vT (by simp) ?_) (by simp)
    unfold sy aM
    intro Q aC aD aE
    repeat' first|refine aB ?_|refine aS cr ?_|refine aA (fun hw=>?_) (fun hw=>?_)<;>try omega|fail
    all_goals first|exact bw (fF (e2 _))|(exfalso;omega)
theorem aaS(r b:aH)(i:Nat): (gT r b i).s.length≤b.length+r.length:=by
 fun_induction gT r b i<;>simp_all[PR.err]<;>omega
theorem acq(s:aH): (ey s).s.length≤s.length+2:=by
 unfold ey
 simp only
 split
 ·unfold yQ;split<;>simp[PR.err];omega
 ·split
  ·unfold kN
   simp only
   split
   ·simp[PR.err]
   ·split<;>simp[PR.err]
  ·split
   ·have:=aaS (s.drop 1) [] 1
    rw[List.length_drop]at this
    simp only[List.length_nil]at this
    omega
   ·unfold o8
    split
    ·rename_i m hm
     have h2:=List.mem_of_find?_eq_some hm
     simp only[l_,List.mem_cons,List.not_mem_nil,or_false]at h2
     rcases h2 with h|h|h|h|h|h|h|h|h|h|h|h|h|h|h|h<;>subst h<;>simp
    ·simp[PR.err]
theorem VW(f:Nat): ∀(s:aH) (pos:Nat) (acc:List Tok),(∀ t ∈ acc,t.s.length≤1000)→s.length≤900→(oN f s pos acc).1.length≤acc.length+s.length∧ ∀ t ∈ (oN f s pos acc).1,t.s.length≤1000:=by
 induction f with
 | zero=>intro s pos acc h _;exact⟨Nat.le_add_right _ _,h⟩
 | succ f ih =>
   intro s pos acc h hs
   cases s with
   | nil=>exact⟨Nat.le_add_right _ _,h⟩
   | cons c r =>
     rw[tf]
     simp only[List.length_cons]at hs ⊢
     split
     ·have:=ih r (pos+1) acc h (by omega)
      exact⟨by omega,this.2⟩
     ·split
      ·rename_i he
       have h1:=Kl (s:=c::r) (by simp) he
       have h2:=acq (c::r)
       simp only[List.length_cons]at h1 h2
       have:=ih ((c::r).drop (ey (c::r)).len) (pos+(ey (c::r)).len) (acc++[⟨(ey (c::r)).kind,(ey (c::r)).s,(ey (c::r)).n,pos⟩]) (fun t ht=>by
        rcases List.mem_append.1 ht with ht|ht
        ·exact h t ht
        ·simp only[List.mem_cons,List.not_mem_nil,or_false]at ht;subst ht;dsimp only;omega) (by rw[List.length_drop,List.length_cons];omega)
       rw[List.length_drop,List.length_append,List.length_cons]at this
       simp only[List.length_cons,List.length_nil]at this
       exact⟨by omega,this.2⟩
      ·exact⟨Nat.zero_le _,fun t ht=>by cases ht⟩
theorem mb(s:aH): (bf s).1.length≤200∧ ∀ q,((bf s).1.getD q default).s.length≤1000:=by
 have h:(bf s).1.length≤200∧ ∀ t ∈ (bf s).1,t.s.length≤1000:=by
  unfold bf
  split
  ·exact⟨Nat.zero_le _,fun t ht=>by cases ht⟩
  ·have:=VW (s.length+1) s 0 [] (fun t ht=>by cases ht) (by omega)
   simp only[List.length_nil]at this
   exact⟨by omega,this.2⟩
 refine⟨h.1,fun q=>?_⟩
 by_cases hq:q<(bf s).1.length
 ·exact h.2 _ (aY hq)
 ·rw[nM (by omega)];exact Nat.zero_le _
theorem Ei(T:List Tok)(fr lvl:Int): da (cR T fr lvl).1≤1+4*T.length:=by
 have h0:da x0=1:=by simp[x0,da,kW]
 unfold cR
 split
 ·dsimp only;omega
 ·rename_i hg
  split
  ·dsimp only;omega
  ·have:=ad4 T (8*T.length+9) none lvl.toNat fr.toNat (by omega)
   have g:=(mW T (8*T.length+9) none lvl.toNat fr.toNat (by omega)).2.2
   simp only[O6]at this
   dsimp only;omega
def cz(s:aH): Expr × Int × Int :=
 if(bf s).2.2≠0 then(x0,(bf s).2.1,(bf s).2.2)
 else if(cR (bf s).1 0 0).2.1<(bf s).1.length then(x0,((bf s).1.getD (cR (bf s).1 0 0).2.1.toNat default).pos,11)
 else if(cR (bf s).1 0 0).2.2≠0 then(x0,s.length,(cR (bf s).1 0 0).2.2)
 else if 12<fK (cR (bf s).1 0 0).1 then(x0,0,12)
 else((cR (bf s).1 0 0).1,0,0)
theorem IA(T:List Tok)(fr lvl:Int): 0≤(cR T fr lvl).2.1∧(cR T fr lvl).2.1≤T.length:=by
 unfold cR
 split
 ·exact⟨Int.le_refl _,by dsimp only;omega⟩
 ·rename_i hg
  have g:=(mW T (8*T.length+9) none lvl.toNat fr.toNat (by omega)).2.2
  split<;>(dsimp only;omega)
theorem RQ(s:aH)(hs:s.length≤2 ^ 30): aq Tryz.prog vK [.str s] (xk (cz s)):=by
 have cl:=UA s hs
 obtain⟨f1,f2⟩:=mb s
 have cr:=Jx (bf s).1 0 0 (by omega) (fun q=>by have:=f2 q;omega)
 have hz:=Ei (bf s).1 0 0
 obtain⟨Mc,zq⟩:=IA (bf s).1 0 0
 have hP:cz s=if(bf s).2.2≠0 then(x0,(bf s).2.1,(bf s).2.2)
  else if(cR (bf s).1 0 0).2.1<(bf s).1.length then(x0,((bf s).1.getD (cR (bf s).1 0 0).2.1.toNat default).pos,11)
  else if(cR (bf s).1 0 0).2.2≠0 then(x0,(s.length:Int),(cR (bf s).1 0 0).2.2)
  else if 12<fK (cR (bf s).1 0 0).1 then(x0,0,12)
  else((cR (bf s).1 0 0).1,0,0):=rfl
 rw[hP]
 clear hP f2
 generalize cR (bf s).1 0 0=r at *
 generalize bf s=L at *
 obtain⟨T,la,le⟩:=L
 obtain⟨rx,rn,re⟩:=r
 dsimp only at *
 have cd:=Cd rx (by omega)
 obtain⟨n,rfl⟩:∃ n:Nat,rn=n:=⟨rn.toNat,by omega⟩
 have e1:∀ σ : ai,View σ (.agg [I 0,I 0,I 0,.str [],.str [],.ae]) (aJ x0):=fun σ=>fW (.ae _)
 have e2:∀ σ : ai,View σ (.agg [I rx.op,I rx.v.kind,I rx.v.n,.str rx.v.s,.str rx.s,.aG false EX (rx.l.map aJ)]) (aJ rx):=fun σ=>View.eqv (aN _).symm (cD _)
 simp only[xk]at cr ⊢
 rw[aN]at cr cd
 simp only[Km,oZ]at cl cr
 by_cases h1:le≠0
 ·rw[if_pos h1]
  generalize aJ x0=E at *
  refine aq.of_nil (l5 (by simp) ?_) (by simp)
  unfold kL aM
  intro Q aC aD aE
  repeat' first|refine aB ?_|refine aF cl ?_|refine aA (fun hw=>?_) (fun hw=>?_)<;>try omega|fail
  all_goals exact bw (fF (e1 _))
 rw[if_neg h1]
 by_cases h2:(n:Int)<T.length
 ·rw[if_pos h2,Int.toNat_natCast]
  generalize aJ x0=E at *
  have hn:n<T.length:=by omega
  refine aq.of_nil (l5 (by simp) ?_) (by simp)
  unfold kL aM
  intro Q aC aD aE
  repeat' first|refine aB ?_|refine aF cl ?_|refine aF cr ?_|refine aA (fun hw=>?_) (fun hw=>?_)<;>try omega|fail
  all_goals exact bw (fF (e1 _))
 rw[if_neg h2]
 by_cases h3:re≠0
 ·rw[if_pos h3]
  generalize aJ x0=E at *
  refine aq.of_nil (l5 (by simp) ?_) (by simp)
  unfold kL aM
  intro Q aC aD aE
  repeat' first|refine aB ?_|refine aF cl ?_|refine aF cr ?_|refine aA (fun hw=>?_) (fun hw=>?_)<;>try omega|fail
  all_goals exact bw (fF (e1 _))
 rw[if_neg h3]
 by_cases h4:12<fK rx
 ·rw[if_pos h4]
  generalize aJ x0=E at *
  refine aq.of_nil (l5 (by simp) ?_) (by simp)
  unfold kL aM
  intro Q aC aD aE
  repeat' first|refine aB ?_|refine aF cl ?_|refine aF cr ?_|refine aF cd ?_|refine aA (fun hw=>?_) (fun hw=>?_)<;>try omega|fail
  all_goals exact bw (fF (e1 _))
 ·rw[if_neg h4]
  generalize aJ rx=E at *
  refine aq.of_nil (l5 (by simp) ?_) (by simp)
  unfold kL aM
  intro Q aC aD aE
  repeat' first|refine aB ?_|refine aF cl ?_|refine aF cr ?_|refine aF cd ?_|refine aA (fun hw=>?_) (fun hw=>?_)<;>try omega|fail
  all_goals exact bw (fF (e2 _))
theorem Ku(T:List Tok)(p:Nat)(b:Bool)(k:Int)(s:aH): aV Tryz.prog dK 0 [I k,.str s] (bn T p b) (bn T p b) (.bool (dO T p k s)):=by
 unfold dO
 refine aV.bH (G9 (by simp) ?_) rfl (aO _ _ _)
 unfold yp aM
 intro Q aC aD aE
 by_cases hp:p<T.length
 ·repeat' first|refine aB ?_|refine aA (fun hw=>?_) (fun hw=>?_)<;>try omega|fail
  all_goals refine bE (View.eqv ?_ (by rfl)) (aQ.refl (aO T p b))
  all_goals (clear aC aD aE;refine congrArg AV.bool ?_;rw[Bool.eq_iff_iff];simp_all)
 ·repeat' first|refine aB ?_|refine aA (fun hw=>?_) (fun hw=>?_)<;>try omega|fail
  refine bE (View.eqv ?_ (by rfl)) (aQ.refl (aO T p b))
  rw[decide_eq_false hp];rfl
theorem rS(T:List Tok)(p:Nat)(b:Bool)(k:Int)(s:aH)(o:Bool)(h:dO T p k s=o): aV Tryz.prog dK 0 [I k,.str s] (bn T p b) (bn T p b) (.bool o):=by
 have:=Ku T p b k s
 rwa[h]at this
theorem Ej(T:List Tok)(p:Nat)(b:Bool)(k:Int)(s:aH)(hp:p≤2 ^ 61): aV Tryz.prog i_ 0 [I k,.str s] (bn T p b) (bn T (kX T p b k s) (b || !(cn T p b k s))) (.bJ []):=by
 unfold kX cn
 cases b with
 | true =>
   refine aV.bH (uz (by simp) ?_) rfl (aO _ _ _)
   unfold oM aM
   intro Q aC aD aE
   repeat' first|refine aB ?_|refine aA (fun hw=>?_) (fun hw=>?_)<;>try omega|fail
   refine tO rfl (aQ.eqv ?_ (aO _ _ _));simp[bn]
 | false =>
   have hn:=Ku T p false k s
   generalize dO T p k s=o at hn ⊢
   simp only[bn]at hn
   refine aV.bH (uz (by simp) ?_) rfl (aO _ _ _)
   unfold oM aM
   intro Q aC aD aE
   cases o
   ·repeat' first|refine aB ?_|refine aS hn ?_|refine aA (fun hw=>?_) (fun hw=>?_)<;>try omega|fail
    refine tO rfl (aQ.eqv ?_ (aO _ _ _));simp[bn]
   ·repeat' first|refine aB ?_|refine aS hn ?_|refine aA (fun hw=>?_) (fun hw=>?_)<;>try omega|fail
    refine tO rfl (aQ.eqv ?_ (aO _ _ _));simp[bn]
theorem acr: ∀ i:Nat,i<12→bt ((i:Int)+4)=dL.getD i default∧bR ((i:Int)+4)=(dL.getD i default).level∧(dL.getD i default).op=(i:Int)+4∧gy (dL.getD i default)=(if(i:Int)+4=14∨(i:Int)+4=15 then 1 else 4):=by decide
theorem Ze(T:List Tok)(p:Nat)(lvl:Int): aV Tryz.prog rj 0 [I lvl] (bn T p false) (bn T p false) (I (Hy (nu T p false lvl))):=by
 refine aV.bH (G_ (by simp) ?_) rfl (aO _ _ _)
 unfold yq aM
 intro Q aC aD aE
 have hi:=fun k s=>Ku T p false k s
 simp only[bn]at hi
 repeat' first|refine aB ?_|refine aA (fun hw=>?_) (fun hw=>?_)<;>try omega|fail
 with_reducible refine a_ [4,5,6,7,8,9,10,11,12,13,14,15,16,17,18,19,20,21,22,23,24,25,26,27,28] (fun i:Nat=>[(5,I ((i:Int)+4))]) (fun _=>[.cells [.aG false ET (T.map j3),I p,.bool false]]) (fun i=>i≤12∧ ∀ k,k<i→((dL.getD k default).level==lvl && cn T p false (gy (dL.getD k default)) (dL.getD k default).sign)=false) (fun i=>12-i) (0) ?_ ?_ ?_ ?_
 ·simp
 ·rfl
 ·exact at_
 rintro i r ⟨h1,h2⟩
 by_cases acs:i<12
 ·obtain⟨b1,b2,b3,b4⟩:=acr i acs
  obtain⟨x,hx⟩:∃ x,dL.getD i default=x:=⟨_,rfl⟩
  rw[hx]at b1 b2 b3 b4
  have hyes:(x.level==lvl && dO T p (gy x) x.sign)=true→nu T p false lvl=some x:=fun h=>by
   unfold nu;rw[vY (p:=fun y:yu=>y.level==lvl && cn T p false (gy y) y.sign) (by exact acs) h2 (by rw[hx];exact h),hx]
  have N1:(x.level==lvl && dO T p (gy x) x.sign)=false→ ∀ k,k<i+1→((dL.getD k default).level==lvl && cn T p false (gy (dL.getD k default)) (dL.getD k default).sign)=false:=fun h=>aW h2 (by rw[hx];exact h)
  clear h2
  have hl:=Ju ((i:Int)+4)
  have hs:=Eb ((i:Int)+4)
  rw[b2]at hl
  rw[b1]at hs
  have hk2:(((i:Int)+4=14∨(i:Int)+4=15)∧gy x=1)∨(¬ ((i:Int)+4=14∨(i:Int)+4=15)∧gy x=4):=by
   rw[b4];split<;>simp_all
  clear b1 b2 b4
  rcases hk2 with⟨hlv,XD⟩|⟨hlv,XD⟩
  all_goals rw[XD]at hyes N1
  all_goals (
   repeat' first|refine aB ?_|refine aF hl ?_|refine aF hs ?_|refine aS (hi 1 _) ?_|refine aS (hi 4 _) ?_|refine aA (fun hw=>?_) (fun hw=>?_)<;>try omega|fail
   all_goals first
    | (have hy := hyes (by simp_all)
       refine bE (View.eqv ?_ rfl) (aQ.refl (aO T p false))
       rw[hy];simp only[Hy,b3];done)
    | (refine ⟨i + 1, ?_, ?_, by first | rfl | (simp [go_sem]; done), bG, at_⟩ <;> (try dsimp only)
       ·exact⟨by omega,N1 (by simp_all)⟩
       ·omega))
 ·have hno : nu T p false lvl = none := by
   unfold nu;rw[sL (p:=fun y:yu=>y.level==lvl && cn T p false (gy y) y.sign) (fun k hk=>h2 k (by have:dL.length=12:=rfl;omega))]
  repeat' first|refine aB ?_|refine aA (fun hw=>?_) (fun hw=>?_)<;>try omega|fail
  refine bE (View.eqv ?_ rfl) (aQ.refl (aO T p false))
  rw[hno];rfl
def lq: aH:=[110,117,108,108]
def jO: aH:=[116,114,117,101]
def iL: aH:=[102,97,108,115,101]
theorem Md(T:List Tok)(p:Nat): aV Tryz.prog kp 0 [] (bn T p true) (bn T p true) (aJ x0):=by
 generalize hE:aJ x0=E
 refine aV.bH (cS (by simp) ?_) rfl (aO _ _ _)
 unfold cN aM
 intro Q aC aD aE
 repeat' first|refine aB ?_|refine aA (fun hw=>?_) (fun hw=>?_)<;>try omega|fail
 exact bE (by rw[← hE];exact fW (.ae _)) (aQ.refl (aO T p true))
set_option maxHeartbeats 1000000 in
theorem TG(T:List Tok)(p:Nat)(rd:Nat→Nat→RS)(hp:p≤T.length)(hT:T.length≤2 ^ 60)(hs:∀ q,(T.getD q default).s.length≤2 ^ 62)
 (hrd:dO T p 4 [40]=true→mX T bN rd 0 (p+1)∧(rd 0 (p+1)).p≤T.length) :
 aV Tryz.prog kp 0 [] (bn T p false) (bn T (fE rd T p).p (fE rd T p).bad) (aJ (fE rd T p).x):=by
 by_cases hlt:p<T.length
 case neg =>
  have hno:dO T p 4 [40]=false:=by
   cases h:dO T p 4 [40]with
   | false=>rfl
   | true=>exact absurd (iJ h) hlt
  have ha:fE rd T p=⟨x0,p,true⟩:=by
   unfold fE
   rw[hno,nM (by omega)];rfl
  rw[ha]
  dsimp only
  generalize hE:aJ x0=E
  refine aV.bH (cS (by simp) ?_) rfl (aO _ _ _)
  unfold cN aM
  intro Q aC aD aE
  repeat' first|refine aB ?_|refine aA (fun hw=>?_) (fun hw=>?_)<;>try omega|fail
  exact bE (by rw[← hE];exact fW (.ae _)) (aQ.refl (aO T p true))
 have hsp:=hs p
 have his:∀ k s,dO T p k s=(decide ((T.getD p default).kind=k) && decide ((T.getD p default).s=s)):=fun k s=>by
  unfold dO;rw[decide_eq_true hlt,Bool.true_and]
 have ci:=fun k s o h=>rS T p false k s o h
 simp only[his]at hrd ci
 have ha:fE rd T p=if(decide ((T.getD p default).kind=4) && decide ((T.getD p default).s=[40]))=true then dU T (rd 0 (p+1)) 4 [41]else
  (if(T.getD p default).kind=2 then v_ ⟨1,(T.getD p default).n,[]⟩ (p+1)
  else if(T.getD p default).kind=3 then v_ ⟨2,0,(T.getD p default).s⟩ (p+1)
  else if(T.getD p default).kind=1 then
   (match mJ (T.getD p default).s with
   | some v=>v_ v (p+1)
   | none=>if eK (T.getD p default).s then⟨.mk 2 v0 (T.getD p default).s [],p+1,false⟩else ⟨x0,p,true⟩)
  else⟨x0,p,true⟩:RS):=by unfold fE;rw[his]<;>rfl
 rw[ha]
 clear ha hs his
 obtain⟨t,ht⟩:∃ t,T.getD p default=t:=⟨_,rfl⟩
 rw[ht]at hrd ci hsp ⊢
 obtain⟨tk,ts,tn,tp⟩:=t
 simp only at hrd ci hsp ⊢
 have hname:=yS ts hsp
 by_cases uF:(decide (tk=4) && decide (ts=[40]))=true
 ·rw[if_pos uF]
  obtain⟨hr,hb⟩:=hrd uF
  simp only[Bool.and_eq_true,decide_eq_true_eq]at uF
  obtain⟨rfl,rfl⟩:=uF
  have c1:=ci 1 lq false (by simp)
  have c2:=ci 1 jO false (by simp)
  have c3:=ci 1 iL false (by simp)
  have c4:=ci 4 [40] true (by simp)
  unfold mX at hr
  generalize rd 0 (p+1)=r at *
  have hm:=Ej T r.p r.bad 4 [41] (by omega)
  generalize hE:aJ (dU T r 4 [41]).x=E
  have Ut:aJ r.x=E:=hE
  rw[aN]at hr Ut
  simp only[bn,lq,jO,iL,Int.natCast_add,Int.cast_ofNat_Int]at c1 c2 c3 c4 hr hm
  refine aV.bH (cS (by simp) ?_) rfl (aO _ _ _)
  unfold cN aM
  intro Q aC aD aE
  repeat' first|simp (disch:=omega) only[go_sem,aC,aD,aE,aj,au,ak,Nat.reduceAdd,Nat.reduceBEq,↓reduceIte,ht,Int.natCast_add,Int.cast_ofNat_Int]|refine aB ?_|refine aS c1 ?_|refine aS c2 ?_|refine aS c3 ?_|refine aS c4 ?_|refine aS hr ?_|refine aS hm ?_|refine aA (fun hw=>?_) (fun hw=>?_)<;>try omega|fail
  exact bE (by rw[← Ut];exact View.refl _ (by simp)) (aQ.refl (aO _ _ _))
 rw[if_neg uF]
 have QD:(decide (tk=4) && decide (ts=[40]))=false:=by simpa using uF
 have c4:=ci 4 [40] false QD
 clear hrd uF
 by_cases h2:tk=2
 ·rw[if_pos h2]
  generalize hE:aJ _=E
  refine aV.bH (cS (by simp) ?_) rfl (aO _ _ _)
  unfold cN aM
  intro Q aC aD aE
  repeat' first|simp (disch:=omega) only[go_sem,aC,aD,aE,aj,au,ak,Nat.reduceAdd,Nat.reduceBEq,↓reduceIte,ht]|refine aB ?_|refine aA (fun hw=>?_) (fun hw=>?_)<;>try omega|fail
  exact bE (by rw[← hE];exact fW (.ae _)) (aQ.eqv rfl (aO T (p+1) false))
 rw[if_neg h2]
 by_cases h3:tk=3
 ·rw[if_pos h3]
  generalize hE:aJ _=E
  refine aV.bH (cS (by simp) ?_) rfl (aO _ _ _)
  unfold cN aM
  intro Q aC aD aE
  repeat' first|simp (disch:=omega) only[go_sem,aC,aD,aE,aj,au,ak,Nat.reduceAdd,Nat.reduceBEq,↓reduceIte,ht]|refine aB ?_|refine aA (fun hw=>?_) (fun hw=>?_)<;>try omega|fail
  exact bE (by rw[← hE];exact fW (.ae _)) (aQ.eqv rfl (aO T (p+1) false))
 rw[if_neg h3]
 by_cases h1:tk=1
 case neg =>
  rw[if_neg h1]
  have c1:=ci 1 lq false (by simp[h1])
  have c2:=ci 1 jO false (by simp[h1])
  have c3:=ci 1 iL false (by simp[h1])
  simp only[bn,lq,jO,iL]at c1 c2 c3 c4
  generalize hE:aJ _=E
  refine aV.bH (cS (by simp) ?_) rfl (aO _ _ _)
  unfold cN aM
  intro Q aC aD aE
  repeat' first|simp (disch:=omega) only[go_sem,aC,aD,aE,aj,au,ak,Nat.reduceAdd,Nat.reduceBEq,↓reduceIte,ht]|refine aB ?_|refine aS c1 ?_|refine aS c2 ?_|refine aS c3 ?_|refine aS c4 ?_|refine aA (fun hw=>?_) (fun hw=>?_)<;>try omega|fail
  exact bE (by rw[← hE];exact fW (.ae _)) (aQ.eqv rfl (aO T p true))
 rw[if_pos h1]
 have cb:∀ s b,decide (ts=s)=b→(decide (tk=1) && decide (ts=s))=b:=fun s b h=>by rw[decide_eq_true h1,Bool.true_and,h]
 by_cases w1:ts=lq
 ·have hw:mJ ts=some v0:=by rw[w1];rfl
  rw[hw]
  dsimp only
  have c1:=ci 1 lq true (cb _ _ (decide_eq_true w1))
  simp only[bn,lq]at c1
  generalize hE:aJ _=E
  refine aV.bH (cS (by simp) ?_) rfl (aO _ _ _)
  unfold cN aM
  intro Q aC aD aE
  repeat' first|simp (disch:=omega) only[go_sem,aC,aD,aE,aj,au,ak,Nat.reduceAdd,Nat.reduceBEq,↓reduceIte,ht]|refine aB ?_|refine aS c1 ?_|refine aA (fun hw=>?_) (fun hw=>?_)<;>try omega|fail
  exact bE (by rw[← hE];exact fW (.ae _)) (aQ.eqv rfl (aO T (p+1) false))
 have c1:=ci 1 lq false (cb _ _ (decide_eq_false w1))
 by_cases w2:ts=jO
 ·have hw:mJ ts=some ⟨3,1,[]⟩:=by rw[w2];rfl
  rw[hw]
  dsimp only
  have c2:=ci 1 jO true (cb _ _ (decide_eq_true w2))
  simp only[bn,lq,jO]at c1 c2
  generalize hE:aJ _=E
  refine aV.bH (cS (by simp) ?_) rfl (aO _ _ _)
  unfold cN aM
  intro Q aC aD aE
  repeat' first|simp (disch:=omega) only[go_sem,aC,aD,aE,aj,au,ak,Nat.reduceAdd,Nat.reduceBEq,↓reduceIte,ht]|refine aB ?_|refine aS c1 ?_|refine aS c2 ?_|refine aA (fun hw=>?_) (fun hw=>?_)<;>try omega|fail
  exact bE (by rw[← hE];exact fW (.ae _)) (aQ.eqv rfl (aO T (p+1) false))
 have c2:=ci 1 jO false (cb _ _ (decide_eq_false w2))
 by_cases w3:ts=iL
 ·have hw:mJ ts=some ⟨3,0,[]⟩:=by rw[w3];rfl
  rw[hw]
  dsimp only
  have c3:=ci 1 iL true (cb _ _ (decide_eq_true w3))
  simp only[bn,lq,jO,iL]at c1 c2 c3
  generalize hE:aJ _=E
  refine aV.bH (cS (by simp) ?_) rfl (aO _ _ _)
  unfold cN aM
  intro Q aC aD aE
  repeat' first|simp (disch:=omega) only[go_sem,aC,aD,aE,aj,au,ak,Nat.reduceAdd,Nat.reduceBEq,↓reduceIte,ht]|refine aB ?_|refine aS c1 ?_|refine aS c2 ?_|refine aS c3 ?_|refine aA (fun hw=>?_) (fun hw=>?_)<;>try omega|fail
  exact bE (by rw[← hE];exact fW (.ae _)) (aQ.eqv rfl (aO T (p+1) false))
 have c3:=ci 1 iL false (cb _ _ (decide_eq_false w3))
 have hw:mJ ts=none:=by
  exact(if_neg w1).trans ((if_neg w3).trans (if_neg w2))
 rw[hw]
 dsimp only
 clear w1 w2 w3 hw cb ci
 simp only[bn,lq,jO,iL]at c1 c2 c3 c4
 cases hn:eK ts with
 | true =>
   rw[hn]at hname
   simp only[if_true]
   generalize hE:aJ _=E
   refine aV.bH (cS (by simp) ?_) rfl (aO _ _ _)
   unfold cN aM
   intro Q aC aD aE
   repeat' first|simp (disch:=omega) only[go_sem,aC,aD,aE,aj,au,ak,Nat.reduceAdd,Nat.reduceBEq,↓reduceIte,ht]|refine aB ?_|refine aS c1 ?_|refine aS c2 ?_|refine aS c3 ?_|refine aS c4 ?_|refine aF hname ?_|refine aA (fun hw=>?_) (fun hw=>?_)<;>try omega|fail
   exact bE (by rw[← hE];exact fW (.ae _)) (aQ.eqv rfl (aO T (p+1) false))
 | false =>
   rw[hn]at hname
   simp only[Bool.false_eq_true,if_false]
   generalize hE:aJ _=E
   refine aV.bH (cS (by simp) ?_) rfl (aO _ _ _)
   unfold cN aM
   intro Q aC aD aE
   repeat' first|simp (disch:=omega) only[go_sem,aC,aD,aE,aj,au,ak,Nat.reduceAdd,Nat.reduceBEq,↓reduceIte,ht]|refine aB ?_|refine aS c1 ?_|refine aS c2 ?_|refine aS c3 ?_|refine aS c4 ?_|refine aF hname ?_|refine aA (fun hw=>?_) (fun hw=>?_)<;>try omega|fail
   exact bE (by rw[← hE];exact fW (.ae _)) (aQ.eqv rfl (aO T p true))
theorem Df(T:List Tok)(lvl:Int)(p:Nat): aV Tryz.prog bN 0 [I lvl] (bn T p true) (bn T p true) (aJ x0):=by
 have hf:=Md T p
 generalize hE:aJ x0=E
 rw[aN]at hf
 simp only[bn]at hf
 refine aV.bH (fD (by simp) ?_) rfl (aO _ _ _)
 unfold eR aM
 intro Q aC aD aE
 repeat' first|refine aB ?_|refine aS hf ?_|refine aA (fun hw=>?_) (fun hw=>?_)<;>try omega|fail
 exact bE (by rw[← hE];exact View.eqv (aN _).symm (cD _)) (aQ.refl (aO T p true))
structure Lq where
 op:Int
 vk:Int
 vn:Int
 vs:aH
 s:aH
 fl:Bool
 zs:List AV
 x:Expr
 p:Nat
 b:Bool
 f:Nat
def Lq.cs(q:Lq): List AV:=[I q.op,I q.vk,I q.vn,.str q.vs,.str q.s,.aG q.fl EX q.zs]
def Lq.seen(q:Lq): Prop:=View [] (.agg q.cs) (aJ q.x)
theorem Qp(T:List Tok)(hT:T.length≤2 ^ 60)(f lvl p:Nat)(h1:1≤lvl)(h5:lvl≤5)(hp:p≤T.length)(hf:8*(T.length-p)+(8-lvl)≤f)
 (ih:∀ j,j≤f→ ∀ l q,l≤7→q≤T.length→8*(T.length-q)+(8-l)<j→mX T bN (fun l q=>bh T j none l q) l q) :
 aV Tryz.prog bN 0 [I lvl] (bn T p false) (bn T (bh T (f+1) none lvl p).p (bh T (f+1) none lvl p).bad) (aJ (bh T (f+1) none lvl p).x):=by
 have ga:=(mW T f none (lvl+1) p hp).1 rfl
 have ca:=ih f (Nat.le_refl _) (lvl+1) p (by omega) hp (by omega)
 simp only[mX]at ca
 obtain⟨ga1,ga2,ga3⟩:=ga
 have hR:bh T (f+1) none lvl p=if(bh T f none (lvl+1) p).bad then bh T f none (lvl+1) p else bh T f (some (bh T f none (lvl+1) p).x) lvl (bh T f none (lvl+1) p).p:=by
  rw[bh]
  rw[if_neg (by omega),if_neg (by omega),if_neg (by omega)]
 generalize bh T (f+1) none lvl p=R at *
 generalize bh T f none (lvl+1) p=a at *
 obtain⟨ax,ap,ab⟩:=a
 dsimp only at *
 have e0:∀ σ : ai,View σ (.agg [I ax.op,I ax.v.kind,I ax.v.n,.str ax.v.s,.str ax.s,.aG false EX (ax.l.map aJ)]) (aJ ax):=fun σ=>View.eqv (aN _).symm (cD _)
 have hfp:ab=true∨8*(T.length-ap)+8≤f:=by
  cases ab with
  | true=>exact .inl rfl
  | false=>have:=ga3 rfl;exact .inr (by omega)
 rw[aN]at ca
 simp only[bn,Int.natCast_add,Int.cast_ofNat_Int]at ca
 refine aV.bH (fD (by simp) ?_) rfl (aO _ _ _)
 unfold eR aM
 intro Q aC aD aE
 repeat' first|refine aB ?_|refine aS ca ?_|refine aA (fun hw=>?_) (fun hw=>?_)<;>try omega|fail
 clear ca
 with_reducible refine a_ [9,83,84,85,86,87,88,89,90,91,92,93,94,95,96,97,98,99,100,101,102,103,104,105,106,107,108,109,110,111] (fun _:Lq=>[]) (fun q=>[.cells [.aG false ET (T.map j3),I q.p,.bool q.b],.cells [I 0,I 0,I 0,.str [],.str [],.ae],.cells [I q.op,I q.vk,I q.vn,.str q.vs,.str q.s,.aG q.fl EX q.zs]]) (fun q=>(q.seen∧AV.bW q.zs=true)∧q.p≤T.length∧q.f≤f∧(q.b=true→R=⟨q.x,q.p,true⟩)∧(q.b=false→8*(T.length-q.p)+8≤q.f∧R=bh T q.f (some q.x) lvl q.p)) (fun q=>q.f) (⟨ax.op,ax.v.kind,ax.v.n,ax.v.s,ax.s,false,ax.l.map aJ,ax,ap,ab,f⟩) ?_ ?_ ?_ ?_
 ·refine⟨⟨e0 [],xe _⟩,ga2,Nat.le_refl _,fun h=>?_,fun h=>?_⟩
  ·dsimp only at h;subst h;exact hR
  ·dsimp only at h;subst h
   refine⟨?_,hR⟩
   rcases hfp with h|h
   ·cases h
   ·exact h
 ·rfl
 ·exact at_
 clear hR e0
 rintro⟨Dd,xvk,xvn,xvs,xs,xfl,xz,X,xp,xb,xf⟩ r0 ⟨⟨a1,a2⟩,a3,a4,a5,a6⟩
 dsimp only at a3 a4 a5 a6
 have ev:∀ σ : ai,View σ (.agg [I Dd,I xvk,I xvn,.str xvs,.str xs,.aG xfl EX xz]) (aJ X):=fun σ=>View.mono (σ:=[]) (fun _ _ h=>by simp at h) a1
 clear a1
 cases xb with
 | true =>
   have a5:=a5 rfl
   subst a5
   dsimp only at aC aD aE
   generalize aJ X=E at *
   repeat' first|refine aB ?_|refine aA (fun hw=>?_) (fun hw=>?_)<;>try omega|fail
   exact bE (ev _) (aQ.refl (aO _ _ _))
 | false =>
   obtain⟨a7,a8⟩:=a6 rfl
   clear a5 a6
   obtain⟨j,rfl⟩:∃ j,xf=j+1:=⟨xf-1,by omega⟩
   have cb:=Ze T xp lvl
   rw[bh]at a8
   cases hq:nu T xp false lvl with
   | none =>
     rw[hq]at a8 cb
     dsimp only at a8
     subst a8
     dsimp only at aC aD aE
     simp only[Hy,bn]at cb
     generalize aJ X=E at *
     repeat' first|refine aB ?_|refine aS cb ?_|refine aA (fun hw=>?_) (fun hw=>?_)<;>try omega|fail
     exact bE (ev _) (aQ.refl (aO _ _ _))
   | some o2 =>
     rw[hq]at a8 cb
     dsimp only at a8
     obtain⟨zq,_,Q_,hp3⟩:=Dc hq
     have N4:o2.op≠0:=by
      intro h
      simp only[dL,List.mem_cons,List.not_mem_nil,or_false]at Q_
      rcases Q_ with rfl|rfl|rfl|rfl|rfl|rfl|rfl|rfl|rfl|rfl|rfl|rfl<;>simp at h
     have cc:=ih j (by omega) (lvl+1) (xp+1) (by omega) (by omega) (by omega)
     obtain⟨gd1,gd2,gd3⟩:=(mW T j none (lvl+1) (xp+1) (by omega)).1 rfl
     simp only[mX]at cc
     simp only[Hy,bn]at cb
     generalize bh T j none (lvl+1) (xp+1)=d at *
     obtain⟨dx,dp,db⟩:=d
     dsimp only at *
     have e1:∀ σ : ai,View σ (.agg (pY o2.op [.agg [I Dd,I xvk,I xvn,.str xvs,.str xs,.aG xfl EX xz],aJ dx])) (aJ (.mk o2.op v0 [] [X,dx])):=fun σ=>By (HD (ev _) (.refl _ (cD _)))
     have hpz:AV.bW [.agg [I Dd,I xvk,I xvn,.str xvs,.str xs,.aG xfl EX xz],aJ dx]=true:=by simp[AV.cF,AV.bW,a2,cD]
     rw[aN dx]at cc e1 hpz
     simp only[bn,Int.natCast_add,Int.cast_ofNat_Int]at cc
     by_cases O5:lvl=3
     ·rw[if_pos (.inl O5)]at a8
      subst a8
      dsimp only at aC aD aE
      generalize hE:aJ (.mk o2.op v0 [] [X,dx])=E at *
      repeat' first|simp (disch:=omega) only[go_sem,aC,aD,aE,aj,au,ak,Nat.reduceAdd,Nat.reduceBEq,↓reduceIte,Int.natCast_add,Int.cast_ofNat_Int]|refine aB ?_|refine aS cb ?_|refine aS cc ?_|refine aA (fun hw=>?_) (fun hw=>?_)<;>try omega|fail
      all_goals first|exact bE (e1 _) (aQ.refl (aO _ _ _))|(exfalso;omega)
     ·repeat' first|simp (disch:=omega) only[go_sem,aC,aD,aE,aj,au,ak,Nat.reduceAdd,Nat.reduceBEq,↓reduceIte,Int.natCast_add,Int.cast_ofNat_Int]|refine aB ?_|refine aS cb ?_|refine aS cc ?_|refine aA (fun hw=>?_) (fun hw=>?_)<;>try omega|fail
      refine⟨⟨o2.op,0,0,[],[],true,[.agg [I Dd,I xvk,I xvn,.str xvs,.str xs,.aG xfl EX xz],.agg [I dx.op,I dx.v.kind,I dx.v.n,.str dx.v.s,.str dx.s,.aG false EX (dx.l.map aJ)]],.mk o2.op v0 [] [X,dx],dp,db,j⟩,⟨⟨e1 [],hpz⟩,gd2,by dsimp only;omega,fun h=>?_,fun h=>?_⟩,by dsimp only;omega,rfl,bG,at_⟩
      ·dsimp only at h ⊢;subst h;rw[if_pos (.inr rfl)]at a8;exact a8
      ·dsimp only at h ⊢;subst h;rw[if_neg (by simp[O5])]at a8
       have:=gd3 rfl
       exact⟨by omega,a8⟩
theorem TH(T:List Tok)(p:Nat)(rd:Nat→Nat→RS)(hp:p≤T.length)(hT:T.length≤2 ^ 60)(hs:∀ q,(T.getD q default).s.length≤2 ^ 62)
 (hrd:dO T p 4 [40]=true→mX T bN rd 0 (p+1)∧(rd 0 (p+1)).p≤T.length) :
 aV Tryz.prog bN 0 [I 7] (bn T p false) (bn T (fE rd T p).p (fE rd T p).bad) (aJ (fE rd T p).x):=by
 have hf:=TG T p rd hp hT hs hrd
 generalize fE rd T p=R at *
 generalize hE:aJ R.x=E at *
 rw[← hE,aN]at hf
 simp only[bn]at hf
 refine aV.bH (fD (by simp) ?_) rfl (aO _ _ _)
 unfold eR aM
 intro Q aC aD aE
 repeat' first|refine aB ?_|refine aS hf ?_|refine aA (fun hw=>?_) (fun hw=>?_)<;>try omega|fail
 exact bE (by rw[← hE];exact View.eqv (aN _).symm (cD _)) (aQ.refl (aO _ _ _))
theorem Zf(T:List Tok)(p:Nat)(rd:Nat→Nat→RS)(hi:dO T p 1 [105,102]=true)(hT:T.length≤2 ^ 60)(hgo:∀ l q,q≤T.length→gh T.length q (rd l q))
 (hrd:∀ q,p+1≤q→q≤T.length→mX T bN rd 0 q) :
 aV Tryz.prog bN 0 [I 0] (bn T p false) (bn T (Bx rd T (p+1)).p (Bx rd T (p+1)).bad) (aJ (Bx rd T (p+1)).x):=by
 have hp:p+1≤T.length:=iJ hi
 have co:=rS T p false 1 [105,102] true hi
 have ga:=Az hgo hp
 have gb:=AA hgo hp
 have g0:=hgo 0 (p+1) hp
 have g1:=Eg hgo (l:=0) (b:=(gA rd T (p+1)).bad) ga.2.1
 have c1:=hrd (p+1) (Nat.le_refl _) hp
 have m1:=Ej T (rd 0 (p+1)).p (rd 0 (p+1)).bad 1 thenS (by have:=g0.2.1;omega)
 have c2:=Eh (l:=0) (q:=(gA rd T (p+1)).p) (b:=(gA rd T (p+1)).bad) (fun _=>hrd _ ga.1 ga.2.1) (Df T _ _)
 have m2:=Ej T (mV rd 0 (gA rd T (p+1)).p (gA rd T (p+1)).bad).p (mV rd 0 (gA rd T (p+1)).p (gA rd T (p+1)).bad).bad 1 wF (by have:=g1.2.1;omega)
 have c3:=Eh (l:=0) (q:=(n9 rd T (p+1)).p) (b:=(n9 rd T (p+1)).bad) (fun _=>hrd _ (Nat.le_trans ga.1 gb.1) gb.2.1) (Df T _ _)
 change aV _ _ _ _ _ (bn T (gA rd T (p+1)).p (gA rd T (p+1)).bad) _ at m1
 change aV _ _ _ _ _ (bn T (n9 rd T (p+1)).p (n9 rd T (p+1)).bad) _ at m2
 change aV _ _ _ _ _ (bn T (xh rd T (p+1)).p (xh rd T (p+1)).bad) (aJ (xh rd T (p+1)).x)at c3
 unfold mX at c1
 simp only[Bx]
 have xa:(gA rd T (p+1)).x=(rd 0 (p+1)).x:=rfl
 have xb:(n9 rd T (p+1)).x=(mV rd 0 (gA rd T (p+1)).p (gA rd T (p+1)).bad).x:=rfl
 rw[xa,xb]
 generalize mV rd 0 (gA rd T (p+1)).p (gA rd T (p+1)).bad=rb at *
 generalize gA rd T (p+1)=ra at *
 generalize n9 rd T (p+1)=rb2 at *
 generalize xh rd T (p+1)=rc at *
 generalize rd 0 (p+1)=r1 at *
 rw[aN]at c1 c2 c3
 simp only[bn,thenS,wF,Int.natCast_add,Int.cast_ofNat_Int]at co c1 m1 c2 m2 c3
 generalize hE:aJ _=E
 refine aV.bH (fD (by simp) ?_) rfl (aO _ _ _)
 unfold eR aM
 intro Q aC aD aE
 repeat' first|simp (disch:=omega) only[go_sem,aC,aD,aE,aj,au,ak,Nat.reduceAdd,Nat.reduceBEq,↓reduceIte,Int.natCast_add,Int.cast_ofNat_Int]|refine aB ?_|refine aS co ?_|refine aS c1 ?_|refine aS m1 ?_|refine aS c2 ?_|refine aS m2 ?_|refine aS c3 ?_|refine aA (fun hw=>?_) (fun hw=>?_)<;>try omega|fail
 refine bE ?_ (aQ.refl (aO _ _ _))
 rw[← hE]
 refine fW ?_
 rw[List.map_cons,List.map_cons,List.map_cons,List.map_nil,aN,aN,aN]
 refine View.weak _ _ _ ?_
 simp
theorem VX(T:List Tok)(hT:T.length≤2 ^ 60)(hs:∀ q,(T.getD q default).s.length≤2 ^ 62): ∀ f,∀ lvl p,lvl≤7→p≤T.length→8*(T.length-p)+(8-lvl)<f→mX T bN (fun l q=>bh T f none l q) lvl p:=by
 intro f
 induction f using Nat.strongRecOn with
 | ind f ih =>
 intro lvl p hl hp hf
 obtain⟨f,rfl⟩:∃ f',f=f'+1:=⟨f-1,by omega⟩
 have Mb:=ih f (Nat.lt_succ_self _)
 have hgo:∀ l q,q≤T.length→gh T.length q (bh T f none l q):=fun l q hq=>(mW T f none l q hq).1 rfl
 simp only[mX]
 by_cases h5:1≤lvl∧lvl≤5
 ·exact Qp T hT f lvl p h5.1 h5.2 hp (by omega) (fun j hj l q h1 h2 h3=>ih j (by omega) l q h1 h2 h3)
 by_cases h0:lvl=0
 ·subst h0
  have hR:bh T (f+1) none 0 p=if dO T p 1 [105,102]then Bx (fun l q=>bh T f none l q) T (p+1)else bh T f none 1 p:=by
   rw[bh,if_pos rfl]
  by_cases hi:dO T p 1 [105,102]=true
  ·rw[if_pos hi]at hR
   have zq:=iJ hi
   rw[hR]
   exact Zf T p (fun l q=>bh T f none l q) hi hT hgo (fun q h1 h2=>Mb 0 q (by omega) h2 (by omega))
  ·rw[if_neg hi]at hR
   have hi':dO T p 1 [105,102]=false:=by simpa using hi
   have co:=rS T p false 1 [105,102] false hi'
   have cr:=Mb 1 p (by omega) hp (by omega)
   rw[hR]
   simp only[mX]at cr
   generalize bh T f none 1 p=R at *
   generalize hE:aJ R.x=E at *
   rw[← hE,aN]at cr
   simp only[bn,Int.natCast_add,Int.cast_ofNat_Int]at co cr
   refine aV.bH (fD (by simp) ?_) rfl (aO _ _ _)
   unfold eR aM
   intro Q aC aD aE
   repeat' first|simp (disch:=omega) only[go_sem,aC,aD,aE,aj,au,ak,Nat.reduceAdd,Nat.reduceBEq,↓reduceIte,Int.natCast_add,Int.cast_ofNat_Int,Int.reduceAdd]|refine aB ?_|refine aS co ?_|refine aS cr ?_|refine aA (fun hw=>?_) (fun hw=>?_)<;>try omega|fail
   exact bE (by rw[← hE];exact View.eqv (aN _).symm (cD _)) (aQ.refl (aO _ _ _))
 by_cases h6:lvl=6∧dO T p 4 [45]=true
 ·obtain⟨rfl,hi⟩:=h6
  have zq:=iJ hi
  have hR:bh T (f+1) none 6 p=⟨.mk 3 v0 [] [(bh T f none 6 (p+1)).x],(bh T f none 6 (p+1)).p,(bh T f none 6 (p+1)).bad⟩:=by
   rw[bh,if_neg h0,if_pos ⟨rfl,hi⟩]
  have co:=rS T p false 4 [45] true hi
  have cr:=Mb 6 (p+1) (by omega) zq (by omega)
  rw[hR]
  simp only[mX]at cr
  generalize bh T f none 6 (p+1)=R at *
  obtain⟨rx,rp,rb⟩:=R
  dsimp only at *
  have e1:∀ σ : ai,View σ (.agg (pY 3 [aJ rx])) (aJ (.mk 3 v0 [] [rx])):=fun σ=>By (.cons (.refl _ (cD _)) (.nil _))
  rw[aN rx]at e1 cr
  generalize hE:aJ (.mk 3 v0 [] [rx])=E at *
  simp only[bn,Int.natCast_add,Int.cast_ofNat_Int]at co cr
  refine aV.bH (fD (by simp) ?_) rfl (aO _ _ _)
  unfold eR aM
  intro Q aC aD aE
  repeat' first|simp (disch:=omega) only[go_sem,aC,aD,aE,aj,au,ak,Nat.reduceAdd,Nat.reduceBEq,↓reduceIte,Int.natCast_add,Int.cast_ofNat_Int]|refine aB ?_|refine aS co ?_|refine aS cr ?_|refine aA (fun hw=>?_) (fun hw=>?_)<;>try omega|fail
  exact bE (e1 _) (aQ.refl (aO _ _ _))
 have h67:6≤lvl:=by omega
 have hR:bh T (f+1) none lvl p=fE (fun l q=>bh T f none l q) T p:=by
  rw[bh,if_neg h0,if_neg h6,if_pos h67]
 have ca:=TH T p (fun l q=>bh T f none l q) hp hT hs (fun h=>⟨Mb 0 (p+1) (by omega) (iJ h) (by have:=iJ h;omega),(hgo 0 (p+1) (iJ h)).2.1⟩)
 rw[hR]
 by_cases RP:lvl=6
 ·have hno : dO T p 4 [45] = false := by
   cases hq:dO T p 4 [45]with
   | false=>rfl
   | true=>exact absurd ⟨RP,hq⟩ h6
  have co:=rS T p false 4 [45] false hno
  subst RP
  generalize fE (fun l q=>bh T f none l q) T p=R at *
  generalize hE:aJ R.x=E at *
  rw[← hE,aN]at ca
  simp only[bn,Int.natCast_add,Int.cast_ofNat_Int]at co ca
  refine aV.bH (fD (by simp) ?_) rfl (aO _ _ _)
  unfold eR aM
  intro Q aC aD aE
  repeat' first|simp (disch:=omega) only[go_sem,aC,aD,aE,aj,au,ak,Nat.reduceAdd,Nat.reduceBEq,↓reduceIte,Int.natCast_add,Int.cast_ofNat_Int,Int.reduceAdd]|refine aB ?_|refine aS co ?_|refine aS ca ?_|refine aA (fun hw=>?_) (fun hw=>?_)<;>try omega|fail
  exact bE (by rw[← hE];exact View.eqv (aN _).symm (cD _)) (aQ.refl (aO _ _ _))
 ·obtain rfl:lvl=7:=by omega
  exact ca
end Go.Proofs.YtmbgnaoilncbnaaGreatDoor
