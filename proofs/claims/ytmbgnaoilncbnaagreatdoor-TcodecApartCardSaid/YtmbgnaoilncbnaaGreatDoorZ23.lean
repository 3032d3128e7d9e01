/- Part of a proof: see Root. -/
import Derived.Test.YtmbgnaoilncbnaaGreatDoorZ22
set_option linter.unnecessarySimpa false
set_option linter.unusedSimpArgs false
set_option linter.unusedVariables false
namespace Go.Proofs.YtmbgnaoilncbnaaGreatDoor
open Go.AM
set_option maxRecDepth 4000
def wg: aH:=[110,111,116]
def jh(T:List Tok): Bool:=decide (1<T.length) && (dO T 0 1 wg && dO T 1 4 [40])
theorem Zi(T:List Tok): aq Tryz.prog DS [oZ T] (.bool (jh T)):=by
 refine aq.of_nil (Tp (by simp) ?_) (by simp)
 unfold LQ aM
 intro Q aC aD aE
 repeat' first|refine aB ?_|refine aA (fun hw=>?_) (fun hw=>?_)<;>try omega|fail
 all_goals (refine aL ?_ rfl;refine congrArg AV.bool ?_;rw[Bool.eq_iff_iff];simp_all[jh,dO,wg])
 all_goals (try omega)
 all_goals (exact⟨fun h=>⟨by omega,by omega,by omega,h⟩,fun h=>h.2.2.2⟩)
structure CS where
 ts:List Test
 p:Nat
 bad:Bool
deriving Inhabited
def j8(T:List Tok): Nat→List Test→Nat→Bool→CS
 | 0,acc,p,b=>⟨acc,p,b⟩
 | f+1,acc,p,b=>if cn T (cP T p b).p (cP T p b).bad 4 [44]then j8 T f (acc++[(cP T p b).t]) ((cP T p b).p+1) (cP T p b).bad else⟨acc++[(cP T p b).t],(cP T p b).p,(cP T p b).bad⟩
theorem kE(T:List Tok)(f:Nat)(acc:List Test)(p:Nat)(b:Bool): j8 T (f+1) acc p b=if cn T (cP T p b).p (cP T p b).bad 4 [44]then j8 T f (acc++[(cP T p b).t]) ((cP T p b).p+1) (cP T p b).bad else⟨acc++[(cP T p b).t],(cP T p b).p,(cP T p b).bad⟩:=rfl
theorem V9{T:List Tok}(f:Nat): ∀(acc:List Test) (p:Nat) (b:Bool),p≤T.length→(j8 T f acc p b).p≤T.length:=by
 induction f with
 | zero=>intro acc p b hp;exact hp
 | succ f ih =>
   intro acc p b hp
   rw[kE]
   split
   ·rename_i h;exact ih _ _ _ (iK h).1
   ·exact(BC hp).2
def wh(T:List Tok)(n:Bool)(c:CS): CS:=if n then⟨c.ts,kX T c.p c.bad 4 [41],c.bad || !(cn T c.p c.bad 4 [41])⟩else c
def BD(T:List Tok): Nat:=if jh T then 2 else 0
def dQ(T:List Tok): CS:=wh T (jh T) (j8 T (T.length+1) [] (BD T) false)
theorem R9(T:List Tok): BD T≤T.length:=by
 unfold BD
 split
 ·rename_i h;simp only[jh,Bool.and_eq_true,decide_eq_true_eq]at h;omega
 ·exact Nat.zero_le _
def XN(T:List Tok)(n:Bool)(p:Nat)(b:Bool): List Test→ai
 | []=>[.cells (bn T p b),.cells [.bool false,.bool false,.ae],.cells [.bool false,.bool n,.ae]]
 | t::acc=>[.cells (bn T p b),.cells [.bool false,.bool false,.ae],.cells [.bool false,.bool n,.own ES 3 (acc.length+1) 0 (acc.length+1)],.vec ES (bx t::acc.map bx)]
structure Lc where
 acc:List Test
 p:Nat
 b:Bool
 f:Nat
theorem UI(T:List Tok)(n:Bool)(p:Nat)(b:Bool): XN T n p b []=[.cells [.aG false ET (T.map j3),I p,.bool b],.cells [.bool false,.bool false,.ae],.cells [.bool false,.bool n,.ae]]:=rfl
theorem R_(T:List Tok)(n:Bool)(p:Nat)(b:Bool)(t:Test)(acc:List Test): XN T n p b (t::acc)=[.cells [.aG false ET (T.map j3),I p,.bool b],.cells [.bool false,.bool false,.ae],.cells [.bool false,.bool n,.own ES 3 (acc.length+1) 0 (acc.length+1)],.vec ES (bx t::acc.map bx)]:=rfl
theorem Zj(T:List Tok)(n:Bool)(p:Nat)(b:Bool)(acc:List Test)(t:Test): XN T n p b (acc++[t])=[.cells (bn T p b),.cells [.bool false,.bool false,.ae],.cells [.bool false,.bool n,.own ES 3 (acc.length+1) 0 (acc.length+1)],.vec ES (acc.map bx++[bx t])]:=by
 cases acc with
 | nil=>rfl
 | cons x acc=>simp[XN]
theorem Pa{σ : ai}{n:Bool}{ts:List Test}{k:Nat}(hk:k=ts.length)(h : σ[3]? = some (.vec ES (ts.map bx))): View σ (.agg [.bool false,.bool n,.own ES 3 k 0 k]) (br ⟨false,n,ts⟩):=by
 subst hk
 exact View.mq (.cons (.refl _ rfl) (.cons (.refl _ rfl) (.cons (View.vec h (by simp) (by simp) (O0 _)) (.nil _))))
set_option maxHeartbeats 2000000 in
theorem XO(T:List Tok)(hT:T.length≤2 ^ 30)(hs:∀ q,(T.getD q default).s.length≤2 ^ 62):
 aV Tryz.prog pK 0 [] (bn T 0 false) (bn T (dQ T).p (dQ T).bad) (br ⟨false,jh T,(dQ T).ts⟩):=by
 have hn:=Zi T
 have Mc:=R9 T
 have e0:BD T=if jh T then 2 else 0:=rfl
 generalize hR:dQ T=R
 unfold dQ at hR
 generalize jh T=n at *
 generalize hE:br _=E
 simp only[oZ]at hn
 have fin:∀ (σ : ai) (k:Nat) (ts:List Test),R.ts=ts→k=ts.length→σ[3]? = some (.vec ES (ts.map bx))→View σ (.agg [.bool false,.bool n,.own ES 3 k 0 k]) E:=fun σ k ts h1 h2 h3=>by
  rw[← hE,h1];exact Pa h2 h3
 clear hE
 refine aV.bH (FX (by simp) ?_) rfl (aO _ _ _)
 unfold w7 aM
 intro Q aC aD aE
 cases n
 all_goals
  simp only[Bool.false_eq_true,if_false,if_true]at e0
  rw[e0]at hR Mc
  repeat' first|refine aB ?_|refine aF hn ?_|refine aA (fun hw=>?_) (fun hw=>?_)<;>try omega|fail
  with_reducible refine a_ [17,18,19,20,21,22,23,24,25,26] (fun x:Lc=>([]:List (Nat × AV))) (fun x=>XN T _ x.p x.b x.acc) (fun x=>x.p≤T.length∧x.acc.length+x.f=T.length+1∧T.length+1≤x.f+x.p∧wh T _ (j8 T x.f x.acc x.p x.b)=R) (fun x=>x.f) ⟨[],_,false,T.length+1⟩ ⟨?_,?_,?_,hR⟩ rfl ?_ ?_
  ·dsimp only;omega
  ·dsimp only;simp
  ·dsimp only;omega
  ·exact at_
  rintro⟨acc,p,b,f⟩ r ⟨h1,h2,h3,h4⟩
  dsimp only at h1 h2 h3 h4
  obtain⟨f,rfl⟩:∃ g,f=g+1:=⟨f-1,by omega⟩
  rw[kE]at h4
  have ct:=XM T p b h1 (by omega) hs
  have gt:=BC (T:=T) (b:=b) h1
  generalize cP T p b=x at *
  obtain⟨xt,xp,xb⟩:=x
  dsimp only at ct gt h4
  obtain⟨o,ho⟩:∃ o,cn T xp xb 4 [44]=o:=⟨_,rfl⟩
  have FI:=uI T xp xb [44] o (by decide) (by omega) ho
  have iR:=fun n' p' b'=>Zj T n' p' b' acc xt
  simp only[bx,bP]at ct
  rw[ho]at h4
  cases o with
  | true =>
    have hlt:=(iK ho).1
    rw[if_pos rfl]at h4
    simp only[bn,if_true,Int.natCast_add,Int.cast_ofNat_Int]at ct FI
    cases acc with
    | nil =>
      simp only[List.length_nil]at h2
      rw[UI T _ p b]
      repeat' first|simp (disch:=omega) only[go_sem,aC,aD,aE,aj,au,ak,Nat.reduceAdd,Nat.reduceBEq,↓reduceIte,Int.natCast_add,Int.cast_ofNat_Int]|refine aB ?_|refine aS ct ?_|refine aS FI ?_|refine aA (fun hw=>?_) (fun hw=>?_)<;>try omega|fail
      refine⟨⟨[xt],xp+1,xb,f⟩,?_,?_,?_,bG,at_⟩<;>(try dsimp only)
      ·exact⟨by omega,by simp only[List.length_cons,List.length_nil];omega,by omega,h4⟩
      ·omega
      ·rfl
    | cons t0 acc =>
      simp only[List.length_cons]at h2
      rw[R_ T _ p b]
      repeat' first|simp (disch:=omega) only[go_sem,aC,aD,aE,aj,au,ak,Nat.reduceAdd,Nat.reduceBEq,↓reduceIte,Int.natCast_add,Int.cast_ofNat_Int]|refine aB ?_|refine aS ct ?_|refine aS FI ?_|refine aA (fun hw=>?_) (fun hw=>?_)<;>try omega|fail
      refine⟨⟨t0::acc++[xt],xp+1,xb,f⟩,?_,?_,?_,bG,at_⟩<;>(try dsimp only)
      ·exact⟨by omega,by simp only[List.length_cons,List.length_append,List.length_nil];omega,by omega,h4⟩
      ·omega
      ·rw[iR];simp[bn,bx,bP]
  | false =>
    rw[if_neg (by simp)]at h4
    simp only[bn,Bool.false_eq_true,if_false]at ct FI
    have cm:=HJ T xp xb [41] (by decide) (by omega)
    simp only[wh,Bool.false_eq_true,if_false,if_true]at h4
    subst h4
    dsimp only at fin aC aD aE cm
    generalize kX T xp xb 4 [41]=p9 at *
    generalize (xb || !(cn T xp xb 4 [41]))=b9 at *
    simp only[bn]at cm
    cases acc with
    | nil =>
      simp only[List.length_nil]at h2
      rw[UI T _ p b]
      repeat' first|refine aB ?_|refine aS ct ?_|refine aS FI ?_|refine aS cm ?_|refine aA (fun hw=>?_) (fun hw=>?_)<;>try omega|fail
      exact bE (fin _ _ _ rfl rfl rfl) (aQ.eqv rfl (aO _ _ _))
    | cons t0 acc =>
      simp only[List.length_cons]at h2
      rw[R_ T _ p b]
      repeat' first|refine aB ?_|refine aS ct ?_|refine aS FI ?_|refine aS cm ?_|refine aA (fun hw=>?_) (fun hw=>?_)<;>try omega|fail
      exact bE (fin _ _ _ rfl (by simp) (by simp[bx,bP])) (aQ.eqv rfl (aO _ _ _))
def Ci(T:List Tok): Prop:= ∀ q,(T.getD q default).s.length≤2 ^ 62∧ -9223372036854775808≤(T.getD q default).n∧(T.getD q default).n≤9223372036854775807
theorem rT: eH x0:=by simp[x0,eH,Jw,v0]
theorem Mn{op:Int}{l:List Expr}(h:Jw l): eH (.mk op v0 [] l):=by simp[eH,v0,h]
theorem XP{rd:Nat→Nat→RS}{l q:Nat}{b:Bool}(h:∀ l q,eH (rd l q).x): eH (mV rd l q b).x:=by
 unfold mV
 split
 ·exact rT
 ·exact h _ _
theorem Zk{s:aH}{v:dy}(h:mJ s=some v): v.s=[]∧0≤v.n∧v.n≤1:=by
 unfold mJ at h
 split at h
 ·cases h;exact⟨rfl,by decide,by decide⟩
 split at h
 ·cases h;exact⟨rfl,by decide,by decide⟩
 split at h
 ·cases h;exact⟨rfl,by decide,by decide⟩
 ·cases h
theorem aaU{T:List Tok}(hT:Ci T){rd:Nat→Nat→RS}(h:∀ l q,eH (rd l q).x)(p:Nat): eH (fE rd T p).x:=by
 have hp:=hT p
 unfold fE
 split
 ·exact h 0 (p+1)
 split
 ·simp[v_,eH,Jw];exact hp.2
 split
 ·simp[v_,eH,Jw];exact hp.1
 split
 ·split
  ·rename_i v hv
   have:=Zk hv
   simp[v_,eH,Jw,this.1];omega
  ·split
   ·simp[eH,Jw,v0];exact hp.1
   ·exact rT
 ·exact rT
theorem ad5{T:List Tok}(hT:Ci T)(f:Nat): ∀(m:Option Expr) (lvl p:Nat),(∀ x,m=some x→eH x)→eH (bh T f m lvl p).x:=by
 induction f with
 | zero=>intro m lvl p _;exact rT
 | succ f ih =>
   intro m lvl p hm
   have h:∀ l q,eH (bh T f none l q).x:=fun l q=>ih none l q (fun x hx=>by cases hx)
   cases m with
   | none =>
     simp only[bh]
     split
     ·split
      ·exact Mn ⟨h _ _,XP (rd:=fun l q=>bh T f none l q) h,XP (rd:=fun l q=>bh T f none l q) h,trivial⟩
      ·exact h _ _
     split
     ·exact Mn ⟨h _ _,trivial⟩
     split
     ·exact aaU hT h p
     split
     ·exact h _ _
     ·exact ih _ _ _ (fun x hx=>by cases hx;exact h _ _)
   | some x =>
     simp only[bh]
     split
     ·exact hm x rfl
     ·split
      ·exact Mn ⟨hm x rfl,h _ _,trivial⟩
      ·exact ih _ _ _ (fun y hy=>by cases hy;exact Mn ⟨hm x rfl,h _ _,trivial⟩)
theorem Sb{T:List Tok}(hT:Ci T)(fr lvl:Int): eH (cR T fr lvl).1:=by
 unfold cR
 split
 ·exact rT
 split
 ·exact rT
 ·exact ad5 hT _ _ _ _ (fun x hx=>by cases hx)
theorem V_(s:aH): (∀ c ∈ s,cw c=true)→ ∀ v:Int,0≤v→v≤9223372036854775807→ ∀ n,mz s v=some n→0≤n∧n≤9223372036854775807:=by
 induction s with
 | nil=>intro _ v h1 h2 n h;simp only[mz]at h;cases h;exact⟨h1,h2⟩
 | cons c r ih =>
   intro hd v h1 h2 n h
   have hc:=hd c (by simp)
   simp only[cw,Bool.and_eq_true,decide_eq_true_eq]at hc
   simp only[mz]at h
   split at h
   ·cases h
   ·exact ih (fun c hc=>hd c (List.mem_cons_of_mem _ hc)) _ (by omega) (by omega) n h
theorem Qr{p:UInt8→Bool}(s:aH): ∀ c ∈ s.takeWhile p,p c=true:=by
 induction s with
 | nil=>intro c h;cases h
 | cons x r ih =>
   intro c h
   rw[List.takeWhile_cons]at h
   split at h
   ·rename_i hx
    rcases List.mem_cons.1 h with rfl|h
    ·exact hx
    ·exact ih c h
   ·cases h
theorem acz(s:aH): 0≤(ey s).n∧(ey s).n≤9223372036854775807:=by
 have e:∀ k,0≤(PR.err k).n∧(PR.err k).n≤9223372036854775807:=fun k=>by simp[PR.err]
 unfold ey
 simp only
 split
 ·unfold yQ;split
  ·exact e _
  ·exact⟨by simp,by simp⟩
 split
 ·unfold kN
  simp only
  split
  ·exact e _
  ·split
   ·exact e _
   ·rename_i v hv
    exact V_ _ (Qr s) 0 (by omega) (by omega) v hv
 split
 ·have : ∀ (r b : aH) (i : Nat), 0 ≤ (gT r b i).n ∧ (gT r b i).n ≤ 9223372036854775807 := fun r b i => by
   fun_induction gT r b i<;>first|exact e _|assumption|exact⟨by simp,by simp⟩
  exact this _ _ _
 ·unfold o8;split
  ·exact⟨by simp,by simp⟩
  ·exact e _
theorem acA(f:Nat): ∀(s:aH) (pos:Nat) (acc:List Tok),(∀ t ∈ acc,0≤t.n∧t.n≤9223372036854775807)→ ∀ t ∈ (oN f s pos acc).1,0≤t.n∧t.n≤9223372036854775807:=by
 induction f with
 | zero=>intro s pos acc h;exact h
 | succ f ih =>
   intro s pos acc h
   cases s with
   | nil=>exact h
   | cons c r =>
     rw[tf]
     split
     ·exact ih r (pos+1) acc h
     ·split
      ·refine ih _ _ _ (fun t ht=>?_)
       rcases List.mem_append.1 ht with ht|ht
       ·exact h t ht
       ·simp only[List.mem_cons,List.not_mem_nil,or_false]at ht;subst ht;exact acz _
      ·intro t ht;cases ht
theorem Dh(s:aH): Ci (bf s).1:=by
 intro q
 have h1:=(mb s).2 q
 have h2:∀ t ∈ (bf s).1,0≤t.n∧t.n≤9223372036854775807:=by
  unfold bf
  split
  ·intro t ht;cases ht
  ·exact acA _ _ _ _ (fun t ht=>by cases ht)
 refine⟨by omega,?_⟩
 by_cases hq:q<(bf s).1.length
 ·have:=h2 _ (aY hq);omega
 ·rw[nM (by omega)];decide
theorem Ep{T:List Tok}(hT:Ci T)(p:Nat)(b:Bool): eH (eD T p b).x∧da (eD T p b).x≤1+4*T.length:=by
 unfold eD mV
 split
 ·exact⟨rT,by simp[x0,da,kW]⟩
 ·exact⟨Sb hT _ _,Ei T _ _⟩
theorem Zl{T:List Tok}(hT:Ci T)(hl:T.length≤2 ^ 50)(p:Nat)(b:Bool): Jz (cP T p b).t:=by
 have hx:∀ p b,eH (eD T p b).x∧da (eD T p b).x≤2 ^ 60:=fun p b=>⟨(Ep hT p b).1,by have:=(Ep hT p b).2;omega⟩
 have h0:eH x0∧da x0≤2 ^ 60:=⟨rT,RZ⟩
 have h1:∀ k p b,Jz (nO k (eD T p b)).t:=fun k p b=>⟨hx p b,h0⟩
 have h2:∀ lo,Jz (FH T p lo).t:=fun lo=>⟨hx _ _,hx _ _⟩
 unfold cP
 split
 ·exact h1 _ _ _
 split
 ·exact h1 _ _ _
 split
 ·exact h1 _ _ _
 split
 ·exact h1 _ _ _
 split
 ·exact h2 _
 split
 ·exact h2 _
 ·exact h1 _ _ _
theorem Zm{T:List Tok}(hT:Ci T)(hl:T.length≤2 ^ 50)(f:Nat): ∀(acc:List Test) (p:Nat) (b:Bool),(∀ t ∈ acc,Jz t)→(∀ t ∈ (j8 T f acc p b).ts,Jz t)∧(j8 T f acc p b).ts.length≤acc.length+f:=by
 induction f with
 | zero=>intro acc p b h;exact⟨h,Nat.le_refl _⟩
 | succ f ih =>
   intro acc p b h
   have h2:∀ t ∈ acc++[(cP T p b).t],Jz t:=fun t ht=>by
    rcases List.mem_append.1 ht with ht|ht
    ·exact h t ht
    ·simp only[List.mem_cons,List.not_mem_nil,or_false]at ht;subst ht;exact Zl hT hl p b
   rw[kE]
   split
   ·have:=ih _ ((cP T p b).p+1) (cP T p b).bad h2
    rw[List.length_append,List.length_cons,List.length_nil]at this
    exact⟨this.1,by omega⟩
   ·exact⟨h2,by rw[List.length_append,List.length_cons,List.length_nil];omega⟩
theorem N8(T:List Tok)(n:Bool)(c:CS): (wh T n c).ts=c.ts:=by unfold wh;split<;>rfl
theorem Kw{T:List Tok}(hT:Ci T)(hl:T.length≤2 ^ 50): JA ⟨false,jh T,(dQ T).ts⟩:=by
 have:=Zm hT hl (T.length+1) [] (BD T) false (fun t ht=>by cases ht)
 unfold dQ JA
 rw[N8]
 exact⟨by have:=this.2;simp only[List.length_nil]at this;dsimp only;omega,this.1⟩
theorem acB{T:List Tok}{n:Bool}{c:CS}(h:c.p≤T.length): (wh T n c).p≤T.length:=by
 unfold wh
 split
 ·dsimp only[kX]
  split
  ·rename_i h;exact(iK h).1
  ·exact h
 ·exact h
theorem UJ(T:List Tok): (dQ T).p≤T.length:=acB (V9 _ _ _ _ (R9 T))
theorem Zn{T:List Tok}(f:Nat): ∀(acc:List Test) (p:Nat) (b:Bool),(j8 T (f+1) acc p b).ts≠[]:=by
 induction f with
 | zero=>intro acc p b;rw[kE];split<;>simp[j8]
 | succ f ih=>intro acc p b;rw[kE];split<;>first|exact ih _ _ _|simp
theorem Zo(T:List Tok): (dQ T).ts≠[]:=by unfold dQ;rw[N8];exact Zn _ _ _ _
def c0: Cell:=⟨false,false,[]⟩
def Cj: Cell:=⟨true,false,[]⟩
def cZ(s:aH): Cell × Int × Int :=
 if(bf s).2.2≠0 then(c0,(bf s).2.1,(bf s).2.2)
 else if(bf s).1.length=1∧cn (bf s).1 0 false 4 [45]=true then(Cj,0,0)
 else if(dQ (bf s).1).p<(bf s).1.length then(c0,((bf s).1.getD (dQ (bf s).1).p default).pos,11)
 else if(dQ (bf s).1).bad=true then(c0,s.length,11)
 else if 12<(dQ (bf s).1).ts.length then(c0,0,24)
 else if eO ⟨false,jh (bf s).1,(dQ (bf s).1).ts⟩=false then(c0,0,12)
 else(⟨false,jh (bf s).1,(dQ (bf s).1).ts⟩,0,0)
def Sc(r:Cell × Int × Int): AV:= .bJ [br r.1,I r.2.1,I r.2.2]
theorem HK(s:aH): JA (cZ s).1:=by
 have h:=Kw (Dh s) (by have:=(mb s).1;omega)
 have h0:JA c0:=⟨Nat.zero_le _,fun t ht=>by cases ht⟩
 have h1:JA Cj:=⟨Nat.zero_le _,fun t ht=>by cases ht⟩
 unfold cZ
 repeat' split
 all_goals first|exact h0|exact h1|exact h
theorem UK{σ : ai}: View σ (.agg [.bool false,.bool false,.ae]) (br c0):=View.mq (.cons (.refl _ rfl) (.cons (.refl _ rfl) (.cons (.ae _) (.nil _))))
theorem Pb{σ : ai}: View σ (.agg [.bool true,.bool false,.ae]) (br Cj):=View.mq (.cons (.refl _ rfl) (.cons (.refl _ rfl) (.cons (.ae _) (.nil _))))
theorem acC(T:List Tok)(p:Nat): cn T p false 4 [45]=(uH T p==[45]):=by
 rw[wc T p false [45] (by decide),Bool.eq_iff_iff];simp
set_option maxHeartbeats 1000000 in
theorem Wa(s:aH)(hs:s.length≤2 ^ 30): aq Tryz.prog zR [.str s] (Sc (cZ s)):=by
 have cl:=UA s hs
 obtain⟨f1,f2⟩:=mb s
 have cm:=HI (bf s).1 0 false
 have cr:=XO (bf s).1 (by omega) (fun q=>by have:=f2 q;omega)
 have hok:=Kw (Dh s) (by omega)
 have cc:=Em _ hok
 have zq:=UJ (bf s).1
 have hd:=acC (bf s).1 0
 have hP:cZ s=if(bf s).2.2≠0 then(c0,(bf s).2.1,(bf s).2.2)
  else if(bf s).1.length=1∧cn (bf s).1 0 false 4 [45]=true then(Cj,0,0)
  else if(dQ (bf s).1).p<(bf s).1.length then(c0,((bf s).1.getD (dQ (bf s).1).p default).pos,11)
  else if(dQ (bf s).1).bad=true then(c0,(s.length:Int),11)
  else if 12<(dQ (bf s).1).ts.length then(c0,0,24)
  else if eO ⟨false,jh (bf s).1,(dQ (bf s).1).ts⟩=false then(c0,0,12)
  else(⟨false,jh (bf s).1,(dQ (bf s).1).ts⟩,0,0):=rfl
 rw[hP,hd]
 clear hP f2 hd hok
 generalize eO ⟨false,jh (bf s).1,(dQ (bf s).1).ts⟩=rb at *
 generalize dQ (bf s).1=r at *
 generalize uH (bf s).1 0=mt at *
 generalize jh (bf s).1=n at *
 generalize bf s=L at *
 obtain⟨T,la,le⟩:=L
 obtain⟨rts,rp,Wb⟩:=r
 dsimp only at *
 simp only[Sc]at ⊢
 simp only[Km,oZ]at cl
 simp only[bn,Int.cast_ofNat_Int]at cm cr
 simp only[br,dG]at cr cc
 have e1:∀ σ : ai,View σ (.agg [.bool false,.bool false,.ae]) (br c0):=fun σ=>UK
 have e2:∀ σ : ai,View σ (.agg [.bool true,.bool false,.ae]) (br Cj):=fun σ=>Pb
 have e3:∀ σ : ai,View σ (.agg [.bool false,.bool n,.aG false ES (rts.map bx)]) (br ⟨false,n,rts⟩):=fun σ=>View.eqv rfl (Bv _)
 by_cases h1:le≠0
 ·rw[if_pos h1]
  generalize br c0=E at *
  refine aq.of_nil (j0 (by simp) ?_) (by simp)
  unfold jE aM
  intro Q aC aD aE
  repeat' first|refine aB ?_|refine aF cl ?_|refine aA (fun hw=>?_) (fun hw=>?_)<;>try omega|fail
  all_goals exact bw (fF (e1 _))
 rw[if_neg h1]
 by_cases h2:T.length=1∧(mt==[45])=true
 ·rw[if_pos h2]
  generalize br Cj=E2 at *
  obtain⟨h2,h3⟩:=h2
  refine aq.of_nil (j0 (by simp) ?_) (by simp)
  unfold jE aM
  intro Q aC aD aE
  repeat' first|simp (disch:=omega) only[go_sem,aC,aD,aE,aj,au,ak,Nat.reduceAdd,Nat.reduceBEq,↓reduceIte,h2,h3]|refine aB ?_|refine aF cl ?_|refine aS cm ?_|refine aA (fun hw=>?_) (fun hw=>?_)<;>try omega|fail
  all_goals first|exact bw (fF (e2 _))|exact aZ
 rw[if_neg h2]
 by_cases h4:rp<T.length
 ·rw[if_pos h4]
  generalize br c0=E at *
  refine aq.of_nil (j0 (by simp) ?_) (by simp)
  unfold jE aM
  intro Q aC aD aE
  repeat' first|refine aB ?_|refine aF cl ?_|refine aS cm ?_|refine aS cr ?_|refine aA (fun hw=>?_) (fun hw=>?_)<;>try omega|fail
  all_goals first|exact bw (fF (e1 _))|exact aZ
 rw[if_neg h4]
 by_cases h5:Wb=true
 ·rw[if_pos h5]
  subst h5
  generalize br c0=E at *
  refine aq.of_nil (j0 (by simp) ?_) (by simp)
  unfold jE aM
  intro Q aC aD aE
  repeat' first|refine aB ?_|refine aF cl ?_|refine aS cm ?_|refine aS cr ?_|refine aA (fun hw=>?_) (fun hw=>?_)<;>try omega|fail
  all_goals first|exact bw (fF (e1 _))|exact aZ
 rw[if_neg h5]
 obtain rfl:Wb=false:=by simpa using h5
 by_cases h6:12<rts.length
 ·rw[if_pos h6]
  generalize br c0=E at *
  refine aq.of_nil (j0 (by simp) ?_) (by simp)
  unfold jE aM
  intro Q aC aD aE
  repeat' first|refine aB ?_|refine aF cl ?_|refine aS cm ?_|refine aS cr ?_|refine aA (fun hw=>?_) (fun hw=>?_)<;>try omega|fail
  all_goals first|exact bw (fF (e1 _))|exact aZ
 rw[if_neg h6]
 cases rb with
 | false =>
   rw[if_pos rfl]
   generalize br c0=E at *
   simp only[kV,Bool.false_eq_true,if_false]at cc
   refine aq.of_nil (j0 (by simp) ?_) (by simp)
   unfold jE aM
   intro Q aC aD aE
   repeat' first|refine aB ?_|refine aF cl ?_|refine aS cm ?_|refine aS cr ?_|refine aF cc ?_|refine aA (fun hw=>?_) (fun hw=>?_)<;>try omega|fail
   all_goals first|exact bw (fF (e1 _))|exact aZ
 | true =>
   rw[if_neg (by simp)]
   generalize br ⟨false,n,rts⟩=E3 at *
   simp only[kV,if_true]at cc
   refine aq.of_nil (j0 (by simp) ?_) (by simp)
   unfold jE aM
   intro Q aC aD aE
   repeat' first|refine aB ?_|refine aF cl ?_|refine aS cm ?_|refine aS cr ?_|refine aF cc ?_|refine aA (fun hw=>?_) (fun hw=>?_)<;>try omega|fail
   all_goals first|exact bw (fF (e3 _))|exact aZ
def ji: aI:=  .seq (.block 2 (.seq (.region [⟨.mv (.t 8),(some 103),none⟩,⟨.jn (.t 103),(some 104),none⟩,⟨.eV 1 (.t 104),(some 105),none⟩,⟨.load false 1 (.t 105),(some 106),none⟩,⟨.mv (.t 5),(some 107),none⟩,⟨.len false (.t 107),(some 108),none⟩,⟨.bin .lss (.t 106) (.t 108),(some 109),none⟩,⟨.mv (.t 109),(some 102),none⟩])<|
 .cond (.t 102) (.seq (.draw [⟨.build [(.bool false),(.bool false),.ae] [],(some 110),none⟩,⟨.mv (.t 5),(some 111),none⟩,⟨.mv (.t 8),(some 112),none⟩,⟨.jn (.t 112),(some 113),none⟩,⟨.eV 1 (.t 113),(some 114),none⟩,⟨.load false 1 (.t 114),(some 115),none⟩,⟨.bQ ⟨true,4⟩ none (.t 111) (.t 115),(some 116),none⟩,⟨.eV 3 (.t 116),(some 117),none⟩,⟨.load false 1 (.t 117),(some 118),none⟩,⟨.store 3 (.t 2) (.t 110),none,none⟩,⟨.mv (.t 118),(some 3),none⟩,⟨.mv (.c (.int .i64 11)),(some 4),none⟩] [((.t 114),(.t 2)),((.t 117),(.t 2))])<|
 .ret) (.seq (.region [⟨.mv (.t 8),(some 120),none⟩,⟨.jn (.t 120),(some 121),none⟩,⟨.eV 2 (.t 121),(some 122),none⟩,⟨.load false 1 (.t 122),(some 123),none⟩,⟨.mv (.t 123),(some 119),none⟩])<|
 .cond (.t 119) (.seq (.region [⟨.build [(.bool false),(.bool false),.ae] [],(some 124),none⟩,⟨.mv (.t 0),(some 125),none⟩,⟨.len true (.t 125),(some 126),none⟩,⟨.store 3 (.t 2) (.t 124),none,none⟩,⟨.mv (.t 126),(some 3),none⟩,⟨.mv (.c (.int .i64 11)),(some 4),none⟩])<|
 .ret) (.seq (.region [⟨.eV 2 (.t 9),(some 128),none⟩,⟨.load false 1 (.t 128),(some 129),none⟩,⟨.len false (.t 129),(some 130),none⟩,⟨.bin .gtr (.t 130) (.c (.int .i64 12)),(some 131),none⟩,⟨.mv (.t 131),(some 127),none⟩])<|
 .cond (.t 127) (.seq (.region [⟨.build [(.bool false),(.bool false),.ae] [],(some 132),none⟩,⟨.store 3 (.t 2) (.t 132),none,none⟩,⟨.mv (.c (.int .i64 0)),(some 3),none⟩,⟨.mv (.c (.int .i64 24)),(some 4),none⟩])<|
 .ret) (.seq (.region [⟨.load true 3 (.t 9),(some 134),none⟩,⟨.call false (.c (.fn (.func lP) [] [])) [(.t 134)],(some 135),none⟩,⟨.un .not (.t 135),(some 136),none⟩,⟨.mv (.t 136),(some 133),none⟩])<|
 .cond (.t 133) (.seq (.region [⟨.build [(.bool false),(.bool false),.ae] [],(some 137),none⟩,⟨.store 3 (.t 2) (.t 137),none,none⟩,⟨.mv (.c (.int .i64 0)),(some 3),none⟩,⟨.mv (.c (.int .i64 12)),(some 4),none⟩])<|
 .ret) (.skip))))))<|
 .seq (.region [⟨.load true 3 (.t 9),(some 138),none⟩,⟨.store 3 (.t 2) (.t 138),none,none⟩,⟨.mv (.c (.int .i64 0)),(some 3),none⟩,⟨.mv (.c (.int .i64 0)),(some 4),none⟩])<|
 .ret
def wj: aI:=  .seq (.draw [⟨.eV 2 (.t 9),(some 68),none⟩,⟨.load false 1 (.t 68),(some 69),none⟩,⟨.mv (.t 8),(some 70),none⟩,⟨.j9 (.c (.fn (.func gG) [] [])) [(.t 70)],(some 71),none⟩,⟨.bD false ⟨true,15⟩ (.agg [(.int .i64 0),(.int .i64 0),(.int .i64 0),(.int .i64 0),(.str []),(.str []),.ae,(.int .i64 0),(.int .i64 0),(.int .i64 0),(.str []),(.str []),.ae,(.bool false),(.bool false)]) 1 [(0,(.t 71))],(some 72),none⟩,⟨.app none ⟨true,15⟩ (.t 69) (.t 72),(some 73),none⟩,⟨.eV 2 (.t 9),(some 74),none⟩,⟨.store 1 (.t 74) (.t 73),none,none⟩] [((.t 68),(.t 70))])<|
 .seq (.block 0 (.loop (.seq (.seq (.region [⟨.mv (.t 8),(some 75),none⟩,⟨.call false (.c (.fn (.func c7) [] [])) [(.t 75),(.c (.str [44]))],(some 76),none⟩])<|
 .cond (.t 76) (.skip) (.exit 0))<|
 .block 1 (.seq (.region [⟨.mv (.t 8),(some 77),none⟩,⟨.jn (.t 77),(some 78),none⟩,⟨.eV 1 (.t 78),(some 79),none⟩,⟨.load false 1 (.t 79),(some 80),none⟩,⟨.bin .add (.t 80) (.c (.int .i64 1)),(some 81),none⟩,⟨.jn (.t 77),(some 82),none⟩,⟨.eV 1 (.t 82),(some 83),none⟩,⟨.store 1 (.t 83) (.t 81),none,none⟩])<|
 .draw [⟨.eV 2 (.t 9),(some 84),none⟩,⟨.load false 1 (.t 84),(some 85),none⟩,⟨.mv (.t 8),(some 86),none⟩,⟨.j9 (.c (.fn (.func gG) [] [])) [(.t 86)],(some 87),none⟩,⟨.bD false ⟨true,15⟩ (.agg [(.int .i64 0),(.int .i64 0),(.int .i64 0),(.int .i64 0),(.str []),(.str []),.ae,(.int .i64 0),(.int .i64 0),(.int .i64 0),(.str []),(.str []),.ae,(.bool false),(.bool false)]) 1 [(0,(.t 87))],(some 88),none⟩,⟨.app none ⟨true,15⟩ (.t 85) (.t 88),(some 89),none⟩,⟨.eV 2 (.t 9),(some 90),none⟩,⟨.store 1 (.t 90) (.t 89),none,none⟩] [((.t 84),(.t 86))]))))<|
 .seq (.seq (.region [⟨.eV 1 (.t 9),(some 91),none⟩,⟨.load false 1 (.t 91),(some 92),none⟩,⟨.mv (.t 92),(some 93),none⟩,⟨.mv (.t 8),(some 94),some (93,true)⟩,⟨.jn (.t 94),(some 95),some (93,true)⟩,⟨.eV 2 (.t 95),(some 96),some (93,true)⟩,⟨.load false 1 (.t 96),(some 97),some (93,true)⟩,⟨.un .not (.t 97),(some 98),some (93,true)⟩,⟨.pick (.t 93) (.t 98) (.c (.bool false)),(some 99),none⟩])<|
 .cond (.t 99) (.region [⟨.mv (.t 8),(some 100),none⟩,⟨.call false (.c (.fn (.func gH) [] [])) [(.t 100),(.c (.str [41]))],(some 101),none⟩]) (.skip))<|
 ji
theorem Mp: sw=(.seq (.region [⟨.alloc none [(.bool false),(.bool false),.ae],(some 2),none⟩,⟨.mv (.c (.int .i64 0)),(some 3),none⟩,⟨.mv (.c (.int .i64 0)),(some 4),none⟩])<|
 .seq (.region [⟨.mv (.t 0),(some 11),none⟩,⟨.call false (.c (.fn (.func rI) [] [])) [(.t 11)],(some 12),none⟩,⟨.mv (.t 12),(some 10),none⟩,⟨.ext (.t 10) 0,(some 13),none⟩,⟨.ext (.t 10) 1,(some 14),none⟩,⟨.ext (.t 10) 2,(some 15),none⟩,⟨.mv (.t 13),(some 5),none⟩,⟨.mv (.t 14),(some 6),none⟩,⟨.mv (.t 15),(some 7),none⟩])<|
 .seq (.seq (.region [⟨.mv (.t 7),(some 16),none⟩,⟨.bin .neq (.t 16) (.c (.int .i64 0)),(some 17),none⟩])<|
 .cond (.t 17) (.seq (.region [⟨.build [(.bool false),(.bool false),.ae] [],(some 18),none⟩,⟨.mv (.t 6),(some 19),none⟩,⟨.mv (.t 7),(some 20),none⟩,⟨.store 3 (.t 2) (.t 18),none,none⟩,⟨.mv (.t 19),(some 3),none⟩,⟨.mv (.t 20),(some 4),none⟩])<|
 .ret) (.skip))<|
 .seq (.region [⟨.mv (.t 5),(some 21),none⟩,⟨.build [.ae,(.int .i64 0),(.bool false)] [(0,1,(.t 21))],(some 22),none⟩,⟨.box (.t 22),(some 23),none⟩,⟨.mv (.t 23),(some 8),none⟩])<|
 .seq (.seq (.region [⟨.mv (.t 5),(some 24),none⟩,⟨.len false (.t 24),(some 25),none⟩,⟨.bin .eql (.t 25) (.c (.int .i64 1)),(some 26),none⟩,⟨.mv (.t 26),(some 27),none⟩,⟨.mv (.t 8),(some 28),some (27,true)⟩,⟨.call false (.c (.fn (.func c7) [] [])) [(.t 28),(.c (.str [45]))],(some 29),some (27,true)⟩,⟨.pick (.t 27) (.t 29) (.c (.bool false)),(some 30),none⟩])<|
 .cond (.t 30) (.seq (.region [⟨.build [(.bool false),(.bool false),.ae] [(0,1,(.c (.bool true)))],(some 31),none⟩,⟨.store 3 (.t 2) (.t 31),none,none⟩,⟨.mv (.c (.int .i64 0)),(some 3),none⟩,⟨.mv (.c (.int .i64 0)),(some 4),none⟩])<|
 .ret) (.skip))<|
 .seq (.region [⟨.build [(.bool false),(.bool false),.ae] [],(some 32),none⟩,⟨.alloc none [(.bool false),(.bool false),.ae],(some 9),none⟩,⟨.store 3 (.t 9) (.t 32),none,none⟩])<|
 .seq (.seq (.region [⟨.mv (.t 5),(some 33),none⟩,⟨.len false (.t 33),(some 34),none⟩,⟨.bin .gtr (.t 34) (.c (.int .i64 1)),(some 35),none⟩,⟨.mv (.t 35),(some 36),none⟩,⟨.mv (.t 5),(some 37),some (36,true)⟩,⟨.bQ ⟨true,4⟩ none (.t 37) (.c (.int .i64 0)),(some 38),some (36,true)⟩,⟨.eV 0 (.t 38),(some 39),some (36,true)⟩,⟨.load false 1 (.t 39),(some 40),some (36,true)⟩,⟨.bin .eql (.t 40) (.c (.int .i64 1)),(some 41),some (36,true)⟩,⟨.pick (.t 36) (.t 41) (.c (.bool false)),(some 42),none⟩,⟨.mv (.t 42),(some 43),none⟩,⟨.mv (.t 5),(some 44),some (43,true)⟩,⟨.bQ ⟨true,4⟩ none (.t 44) (.c (.int .i64 0)),(some 45),some (43,true)⟩,⟨.eV 1 (.t 45),(some 46),some (43,true)⟩,⟨.load false 1 (.t 46),(some 47),some (43,true)⟩,⟨.bin .eql (.t 47) (.c (.str [110,111,116])),(some 48),some (43,true)⟩,⟨.pick (.t 43) (.t 48) (.c (.bool false)),(some 49),none⟩,⟨.mv (.t 49),(some 50),none⟩,⟨.mv (.t 5),(some 51),some (50,true)⟩,⟨.bQ ⟨true,4⟩ none (.t 51) (.c (.int .i64 1)),(some 52),some (50,true)⟩,⟨.eV 0 (.t 52),(some 53),some (50,true)⟩,⟨.load false 1 (.t 53),(some 54),some (50,true)⟩,⟨.bin .eql (.t 54) (.c (.int .i64 4)),(some 55),some (50,true)⟩,⟨.pick (.t 50) (.t 55) (.c (.bool false)),(some 56),none⟩,⟨.mv (.t 56),(some 57),none⟩,⟨.mv (.t 5),(some 58),some (57,true)⟩,⟨.bQ ⟨true,4⟩ none (.t 58) (.c (.int .i64 1)),(some 59),some (57,true)⟩,⟨.eV 1 (.t 59),(some 60),some (57,true)⟩,⟨.load false 1 (.t 60),(some 61),some (57,true)⟩,⟨.bin .eql (.t 61) (.c (.str [40])),(some 62),some (57,true)⟩,⟨.pick (.t 57) (.t 62) (.c (.bool false)),(some 63),none⟩])<|
 .cond (.t 63) (.seq (.region [⟨.eV 1 (.t 9),(some 64),none⟩,⟨.store 1 (.t 64) (.c (.bool true)),none,none⟩])<|
 .region [⟨.mv (.t 8),(some 65),none⟩,⟨.jn (.t 65),(some 66),none⟩,⟨.eV 1 (.t 66),(some 67),none⟩,⟨.store 1 (.t 67) (.c (.int .i64 2)),none,none⟩]) (.skip))<|
 wj):=rfl
theorem Di{P:Program}{c:aI}{Q:AQ}{S:ai}{e:Env}(cs:List (Nat × AV))(hr:∀ r,fH P c Q (tN cs r) S)(bB:At cs e): fH P c Q e S:=by
 have:=hr e
 rwa[N2 cs bB]at this
def Wc(T:List Tok)(f:Nat)(acc:List Test)(p:Nat)(b:Bool): CS:=if cn T p b 4 [44]then j8 T f acc (p+1) b else⟨acc,p,b⟩
theorem JD(T:List Tok)(f:Nat)(acc:List Test)(p:Nat)(b:Bool): j8 T (f+1) acc p b=Wc T f (acc++[(cP T p b).t]) (cP T p b).p (cP T p b).bad:=rfl
def stP(T:List Tok)(n:Bool)(p:Nat)(b:Bool)(t:Test)(acc:List Test): ai :=
 [.cells [.bool false,.bool false,.ae],.cells [.aG false ET (T.map j3),I p,.bool b],.cells [.bool false,.bool n,.own ES 3 (acc.length+1) 0 (acc.length+1)],.vec ES (bx t::acc.map bx)]
theorem acD(T:List Tok)(n:Bool)(p:Nat)(b:Bool)(t:Test)(acc:List Test): stP T n p b t acc =
 [.cells [.bool false,.bool false,.ae],.cells [.aG false ET (T.map j3),I p,.bool b],.cells [.bool false,.bool n,.own ES 3 (acc.length+1) 0 (acc.length+1)],.vec ES (bx t::acc.map bx)]:=rfl
structure Lp2 where
 t:Test
 acc:List Test
 p:Nat
 b:Bool
 f:Nat
set_option maxHeartbeats 4000000 in
theorem JE(s:aH)(hs:s.length≤2 ^ 30): aq Tryz.prog xL [.str s] (Sc (cZ s)):=by
 have cl:=O3 s hs
 obtain⟨f1,f2⟩:=mb s
 obtain⟨od,Pc⟩:∃ o,cn (bf s).1 0 false 4 [45]=o:=⟨_,rfl⟩
 have cm:=oB (bf s).1 0 false [45] od Pc
 have hok:=Kw (Dh s) (by omega)
 have cc:=Cg _ hok
 have zq:=UJ (bf s).1
 have hne:=Zo (bf s).1
 have hR:wh (bf s).1 (jh (bf s).1) (j8 (bf s).1 ((bf s).1.length+1) [] (BD (bf s).1) false)=dQ (bf s).1:=rfl
 have Mc:=R9 (bf s).1
 have e0:BD (bf s).1=if jh (bf s).1 then 2 else 0:=rfl
 have hP:cZ s=if(bf s).2.2≠0 then(c0,(bf s).2.1,(bf s).2.2)
  else if(bf s).1.length=1∧cn (bf s).1 0 false 4 [45]=true then(Cj,0,0)
  else if(dQ (bf s).1).p<(bf s).1.length then(c0,((bf s).1.getD (dQ (bf s).1).p default).pos,11)
  else if(dQ (bf s).1).bad=true then(c0,(s.length:Int),11)
  else if 12<(dQ (bf s).1).ts.length then(c0,0,24)
  else if eO ⟨false,jh (bf s).1,(dQ (bf s).1).ts⟩=false then(c0,0,12)
  else(⟨false,jh (bf s).1,(dQ (bf s).1).ts⟩,0,0):=rfl
 rw[hP,Pc]
 clear hP hok
 have hnt:jh (bf s).1=(decide (1<(bf s).1.length) && (dO (bf s).1 0 1 wg && dO (bf s).1 1 4 [40])):=rfl
 generalize eO ⟨false,jh (bf s).1,(dQ (bf s).1).ts⟩=rb at *
 generalize dQ (bf s).1=R at *
 generalize jh (bf s).1=n at *
 generalize bf s=L at *
 obtain⟨T,la,le⟩:=L
 dsimp only at *
 have hTs:∀ q,(T.getD q default).s.length≤2 ^ 62:=fun q=>by have:=f2 q;omega
 clear f2
 simp only[Sc]at ⊢
 simp only[Km,oZ]at cl
 simp only[bn,Int.cast_ofNat_Int]at cm
 simp only[br,dG]at cc
 have e1:∀ σ : ai,View σ (.agg [.bool false,.bool false,.ae]) (br c0):=fun σ=>UK
 have e2:∀ σ : ai,View σ (.agg [.bool true,.bool false,.ae]) (br Cj):=fun σ=>Pb
 by_cases h1:le≠0
 ·rw[if_pos h1]
  generalize br c0=E at *
  refine aq.of_nil (vQ (by simp) ?_) (by simp)
  unfold sw aM
  intro Q aC aD aE
  repeat' first|refine aB ?_|refine aF cl ?_|refine aA (fun hw=>?_) (fun hw=>?_)<;>try omega|fail
  all_goals exact bw (fF (e1 _))
 rw[if_neg h1]
 by_cases h2:T.length=1∧od=true
 ·rw[if_pos h2]
  generalize br Cj=E2 at *
  obtain⟨h2,rfl⟩:=h2
  refine aq.of_nil (vQ (by simp) ?_) (by simp)
  unfold sw aM
  intro Q aC aD aE
  repeat' first|simp (disch:=omega) only[go_sem,aC,aD,aE,aj,au,ak,Nat.reduceAdd,Nat.reduceBEq,↓reduceIte,h2]|refine aB ?_|refine aF cl ?_|refine aS cm ?_|refine aA (fun hw=>?_) (fun hw=>?_)<;>try omega|fail
  all_goals first|exact bw (fF (e2 _))|exact aZ
 rw[if_neg h2]
 refine aq.of_nil (vQ (by simp) ?_) (by simp)
 unfold aM
 intro Q aC aD aE
 rw[Mp]
 have yW:∀ (r:Env),fH Tryz.prog ji Q (tN [(0,.str s),(2,.ref 0 0),(5,.aG false ET (T.map j3)),(8,.ref 1 0),(9,.ref 2 0)] r) [.cells [.bool false,.bool false,.ae],.cells [.aG false ET (T.map j3),I R.p,.bool R.bad],.cells [.bool false,.bool n,.own ES 3 R.ts.length 0 R.ts.length],.vec ES (R.ts.map bx)]:=by
  intro r
  clear hR cm cl Pc h2 hnt e0 Mc
  obtain⟨rts,rp,Wb⟩:=R
  dsimp only at *
  have e3:∀ σ : ai,σ[3]? = some (.vec ES (rts.map bx))→View σ (.agg [.bool false,.bool n,.own ES 3 rts.length 0 rts.length]) (br ⟨false,n,rts⟩):=fun σ h=>Pa rfl h
  by_cases h4:rp<T.length
  ·simp only[if_pos h4]at aC aD aE
   generalize br c0=E at *
   unfold ji
   repeat' first|refine aB ?_|refine aA (fun hw=>?_) (fun hw=>?_)<;>try omega|fail
   all_goals first|exact bw (fF (e1 _))|exact aZ
  simp only[if_neg h4]at aC aD aE
  cases Wb with
  | true =>
    simp only[if_true]at aC aD aE
    generalize br c0=E at *
    unfold ji
    repeat' first|refine aB ?_|refine aA (fun hw=>?_) (fun hw=>?_)<;>try omega|fail
    all_goals first|exact bw (fF (e1 _))|exact aZ
  | false =>
    simp only[Bool.false_eq_true,if_false]at aC aD aE
    by_cases h6:12<rts.length
    ·simp only[if_pos h6]at aC aD aE
     generalize br c0=E at *
     unfold ji
     repeat' first|refine aB ?_|refine aA (fun hw=>?_) (fun hw=>?_)<;>try omega|fail
     all_goals first|exact bw (fF (e1 _))|exact aZ
    simp only[if_neg h6]at aC aD aE
    cases rb with
    | false =>
      simp only[if_true]at aC aD aE
      generalize br c0=E at *
      unfold ji
      repeat' first|refine aB ?_|refine RB cc ?_|refine aA (fun hw=>?_) (fun hw=>?_)<;>try omega|fail
      all_goals first|exact bw (fF (e1 _))|exact aZ
    | true =>
      simp only[Bool.true_eq_false,if_false]at aC aD aE
      generalize br ⟨false,n,rts⟩=E3 at *
      unfold ji
      repeat' first|refine aB ?_|refine RB cc ?_|refine aA (fun hw=>?_) (fun hw=>?_)<;>try omega|fail
      all_goals first|exact bw (fF (e3 _ rfl))|exact aZ
 clear cc e1 e2
 have Mq:∀ (r:Env),fH Tryz.prog wj Q (tN [(0,.str s),(2,.ref 0 0),(5,.aG false ET (T.map j3)),(8,.ref 1 0),(9,.ref 2 0)] r) [.cells [.bool false,.bool false,.ae],.cells [.aG false ET (T.map j3),I (BD T),.bool false],.cells [.bool false,.bool n,.ae]]:=by
  intro r
  clear cl cm Pc h2 hnt e0
  rw[JD,List.nil_append]at hR
  have ct:=JC T (BD T) false Mc (by omega) hTs
  have gt:=BC (T:=T) (b:=false) Mc
  generalize cP T (BD T) false=x at *
  obtain⟨xt,xp,xb⟩:=x
  dsimp only at ct gt hR
  generalize BD T=p0 at *
  have et:bx xt = .agg [I xt.kind,I xt.a.op,I xt.a.v.kind,I xt.a.v.n,.str xt.a.v.s,.str xt.a.s,.aG false EX (xt.a.l.map aJ),I xt.b.op,I xt.b.v.kind,I xt.b.v.n,.str xt.b.v.s,.str xt.b.s,.aG false EX (xt.b.l.map aJ),.bool xt.lo,.bool xt.hi]:=rfl
  rw[et]at ct
  simp only[bn]at ct
  unfold wj
  repeat' first|refine aB ?_|refine aS ct ?_|refine aA (fun hw=>?_) (fun hw=>?_)<;>try omega|fail
  with_reducible refine a_ [75,76,77,78,79,80,81,82,83,84,85,86,87,88,89,90] (fun x:Lp2=>([]:List (Nat × AV))) (fun x=>stP T n x.p x.b x.t x.acc) (fun x=>x.p≤T.length∧x.acc.length+x.f=T.length∧T.length≤x.f+x.p∧wh T n (Wc T x.f (x.t::x.acc) x.p x.b)=R) (fun x=>x.f) ⟨xt,[],xp,xb,T.length⟩ ⟨gt.2,by simp,by simp,hR⟩ rfl ?_ ?_
  ·exact at_
  clear ct hR
  rintro⟨t0,acc,p,b,f⟩ r ⟨h1,h2,h3,h4⟩
  dsimp only at h1 h2 h3 h4
  obtain⟨o,ho⟩:∃ o,cn T p b 4 [44]=o:=⟨_,rfl⟩
  have FI:=oB T p b [44] o ho
  unfold Wc at h4
  rw[ho]at h4
  have et0:bx t0 = .agg [I t0.kind,I t0.a.op,I t0.a.v.kind,I t0.a.v.n,.str t0.a.v.s,.str t0.a.s,.aG false EX (t0.a.l.map aJ),I t0.b.op,I t0.b.v.kind,I t0.b.v.n,.str t0.b.v.s,.str t0.b.s,.aG false EX (t0.b.l.map aJ),.bool t0.lo,.bool t0.hi]:=rfl
  simp only[bn]at FI
  rw[acD T n p b]
  cases o with
  | true =>
    have hlt:=iK ho
    obtain⟨f,rfl⟩:∃ g,f=g+1:=⟨f-1,by omega⟩
    rw[if_pos rfl,JD]at h4
    have ct:=JC T (p+1) b hlt.1 (by omega) hTs
    have gt:=BC (T:=T) (p:=p+1) (b:=b) hlt.1
    generalize cP T (p+1) b=x at *
    obtain⟨xt,xp,xb⟩:=x
    dsimp only at ct gt h4
    have et:bx xt = .agg [I xt.kind,I xt.a.op,I xt.a.v.kind,I xt.a.v.n,.str xt.a.v.s,.str xt.a.s,.aG false EX (xt.a.l.map aJ),I xt.b.op,I xt.b.v.kind,I xt.b.v.n,.str xt.b.v.s,.str xt.b.s,.aG false EX (xt.b.l.map aJ),.bool xt.lo,.bool xt.hi]:=rfl
    rw[et]at ct
    simp only[bn,Int.natCast_add,Int.cast_ofNat_Int]at ct
    repeat' first|simp (disch:=omega) only[go_sem,aC,aD,aE,aj,au,ak,Nat.reduceAdd,Nat.reduceBEq,↓reduceIte,Int.natCast_add,Int.cast_ofNat_Int]|refine aB ?_|refine aS FI ?_|refine aS ct ?_|refine aA (fun hw=>?_) (fun hw=>?_)<;>try omega|fail
    refine⟨⟨t0,acc++[xt],xp,xb,f⟩,?_,?_,?_,bG,at_⟩<;>(try dsimp only)
    ·exact⟨gt.2,by simp only[List.length_append,List.length_cons,List.length_nil];omega,by omega,h4⟩
    ·omega
    ·simp[stP,bx,bP]
  | false =>
    rw[if_neg (by simp)]at h4
    have cmu:=En T p b [41] (by omega)
    have Eo:(n=false∨b=true)∨(n=true∧b=false):=by
     cases n with
     | false=>exact .inl (.inl rfl)
     | true => cases b with
       | false=>exact .inr ⟨rfl,rfl⟩
       | true=>exact .inl (.inr rfl)
    rcases Eo with Eo|⟨rfl,rfl⟩
    ·have h5 : (⟨t0 :: acc, p, b⟩ : CS) = R := by
      rw[← h4]
      unfold wh
      cases n with
      | false=>rfl
      | true =>
        rcases Eo with h|h
        ·cases h
        ·subst h
         have nj:cn T p true 4 [41]=false:=rfl
         rw[if_pos rfl]
         dsimp only
         unfold kX
         rw[nj];rfl
     subst h5
     rw[show (t0::acc).map bx=bx t0::acc.map bx from rfl,et0]at yW
     simp only[List.length_cons]at yW
     have hnb:(n && !b)=false:=by rcases Eo with rfl|rfl<;>simp
     cases n with
     | false =>
       repeat' first|refine aB ?_|refine aS FI ?_|refine aA (fun hw=>?_) (fun hw=>?_)<;>try omega|fail
       all_goals first|exact Di _ yW at_|exact aZ
     | true =>
       obtain rfl:b=true:=by simpa using Eo
       repeat' first|refine aB ?_|refine aS FI ?_|refine aA (fun hw=>?_) (fun hw=>?_)<;>try omega|fail
       all_goals first|exact Di _ yW at_|exact aZ
    ·simp only[wh,if_true]at h4
     subst h4
     dsimp only at yW
     rw[show (t0::acc).map bx=bx t0::acc.map bx from rfl,et0]at yW
     simp only[List.length_cons]at yW
     generalize kX T p false 4 [41]=p9 at *
     generalize (false || !(cn T p false 4 [41]))=b9 at *
     simp only[bn]at cmu
     repeat' first|refine aB ?_|refine aS FI ?_|refine aS cmu ?_|refine aA (fun hw=>?_) (fun hw=>?_)<;>try omega|fail
     all_goals first|exact Di _ yW at_|exact aZ
 clear yW hR hne zq
 by_cases hn:n=true
 ·subst hn
  rw[if_pos rfl]at e0
  rw[e0]at Mq
  symm at hnt
  simp only[Bool.and_eq_true,decide_eq_true_eq,dO,wg]at hnt
  obtain⟨q1,⟨q2,q3,q4⟩,q5,q6,q7⟩:=hnt
  have hl1:¬ T.length=1:=by omega
  repeat' first|simp (disch:=omega) only[go_sem,aC,aD,aE,aj,au,ak,Nat.reduceAdd,Nat.reduceBEq,↓reduceIte,q3,q4,q6,q7]|refine aB ?_|refine aF cl ?_|refine aA (fun hw=>?_) (fun hw=>?_)<;>try omega|fail
  all_goals first|exact Di _ Mq at_|exact aZ
 ·obtain rfl:n=false:=by simpa using hn
  rw[if_neg (by simp)]at e0
  rw[e0]at Mq
  have agk:1<T.length→(T.getD 0 default).kind=1→(T.getD 0 default).s=[110,111,116]→(T.getD 1 default).kind=4→(T.getD 1 default).s=[40]→False:=fun q1 q2 q3 q4 q5=>by
   have q0:0<T.length:=by omega
   rw[decide_eq_true q1]at hnt
   simp only[dO,wg,q0,q1,q2,q3,q4,q5]at hnt
   simp at hnt
  by_cases hl1:T.length=1
  ·obtain rfl : od = false := by
    cases od with
    | false=>rfl
    | true=>exact absurd ⟨hl1,rfl⟩ h2
   repeat' first|refine aB ?_|refine aF cl ?_|refine aS cm ?_|refine aA (fun hw=>?_) (fun hw=>?_)<;>try omega|fail
   all_goals first|exact Di _ Mq at_|exact aZ
  ·repeat' first|refine aB ?_|refine aF cl ?_|refine aA (fun hw=>?_) (fun hw=>?_)<;>try omega|fail
   all_goals first|exact Di _ Mq at_|(exact(agk (by omega) (by assumption) (by assumption) (by assumption) (by assumption)).elim)|exact aZ
end Go.Proofs.YtmbgnaoilncbnaaGreatDoor
