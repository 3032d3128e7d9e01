/- Part. -/
import Derived.Test.YtmbgnaoilncbnaaGreatDoorX22
set_option linter.all false
namespace Go.Proofs.YtmbgnaoilncbnaaGreatDoor
open Go.AM
set_option maxRecDepth 4000
def Wm: aJ:=[110,111,116]
def nE(T:List Tok): Bool:=decide (1<T.length) && (iM T 0 1 Wm && iM T 1 4 [40])
def adl(T:List Tok): ai Tryz.prog Hv [sD T] (.bool (nE T)):=by
 refine ai.aG (XE (by simp) ?_) (by simp);unfold Qd aP;intro Q au aA aB;repeat' first|refine aq ?_|refine ak ?_ ?_<;>intro hw<;>try omega|fail
 all_goals (refine aM ?_ rfl;refine congrArg AV.bool ?_;rw[aV];simp_all[nE,iM,Wm])
 all_goals (try omega)
 all_goals (exact⟨fun h=>⟨by omega,by omega,by omega,h⟩,fun h=>h.2.2.2⟩)
structure CS where
 ts:List Test
 p:Nat
 bad:Bool
deriving Inhabited
def nF(T:List Tok): Nat->List Test->Nat->Bool->CS
 | 0,acc,p,b=>⟨acc,p,b⟩
 | f+1,acc,p,b=>if ew T (ey T p b).p (ey T p b).bad 4 [44]then nF T f (acc++[(ey T p b).t]) ((ey T p b).p+1) (ey T p b).bad else⟨acc++[(ey T p b).t],(ey T p b).p,(ey T p b).bad⟩
def rQ(T:List Tok)(f:Nat)(acc:List Test)(p:Nat)(b:Bool): nF T (f+1) acc p b=if ew T (ey T p b).p (ey T p b).bad 4 [44]then nF T f (acc++[(ey T p b).t]) ((ey T p b).p+1) (ey T p b).bad else⟨acc++[(ey T p b).t],(ey T p b).p,(ey T p b).bad⟩:=rfl
def aat{T:List Tok}(f:Nat): ∀(acc:List Test) (p:Nat) (b:Bool),p<=T.length->(nF T f acc p b).p<=T.length:=by
 induction f with
 | zero=>intro acc p b hp;exact hp
 | succ f ih =>
   intro acc p b hp;rw[rQ];split
   ·rename_i h;exact ih _ _ _ (kD h).1
   ·exact(E8 hp).2
def DO(T:List Tok)(n:Bool)(c:CS): CS:=if n then⟨c.ts,rA T c.p c.bad 4 [41],c.bad || !(ew T c.p c.bad 4 [41])⟩else c
def Jv(T:List Tok): Nat:=if nE T then 2 else 0
def gG(T:List Tok): CS:=DO T (nE T) (nF T (T.length+1) [] (Jv T) false)
def Wn(T:List Tok): Jv T<=T.length:=by
 unfold Jv;split
 ·rename_i h;simp only[nE,aF,decide_eq_true_eq]at h;omega
 ·exact bP _
def stC(T:List Tok)(n:Bool)(p:Nat)(b:Bool): List Test->aj
 | []=>[.cells (bD T p b),.cells [.bool false,.bool false,.ae],.cells [.bool false,.bool n,.ae]]
 | t::acc=>[.cells (bD T p b),.cells [.bool false,.bool false,.ae],.cells [.bool false,.bool n,.own ES 3 (acc.length+1) 0 (acc.length+1)],.vec ES (bO t::acc.map bO)]
structure Lc where
 acc:List Test
 p:Nat
 b:Bool
 f:Nat
def YY(T:List Tok)(n:Bool)(p:Nat)(b:Bool): stC T n p b []=[.cells [.aK false ET (T.map mF),I p,.bool b],.cells [.bool false,.bool false,.ae],.cells [.bool false,.bool n,.ae]]:=rfl
def Wo(T:List Tok)(n:Bool)(p:Nat)(b:Bool)(t:Test)(acc:List Test): stC T n p b (t::acc)=[.cells [.aK false ET (T.map mF),I p,.bool b],.cells [.bool false,.bool false,.ae],.cells [.bool false,.bool n,.own ES 3 (acc.length+1) 0 (acc.length+1)],.vec ES (bO t::acc.map bO)]:=rfl
def adn(T:List Tok)(n:Bool)(p:Nat)(b:Bool)(acc:List Test)(t:Test): stC T n p b (acc++[t])=[.cells (bD T p b),.cells [.bool false,.bool false,.ae],.cells [.bool false,.bool n,.own ES 3 (acc.length+1) 0 (acc.length+1)],.vec ES (acc.map bO++[bO t])]:=by
 cases acc with
 | nil=>rfl
 | cons x acc=>simp[stC]
def Tq{σ : aj}{n:Bool}{ts:List Test}{k:Nat}(hk:k=ts.length)(h : σ[3]? = some (.vec ES (ts.map bO))): View σ (.agg [.bool false,.bool n,.own ES 3 k 0 k]) (bH ⟨false,n,ts⟩):=by
 subst hk;exact View.nU (.cons (.refl _ rfl) (.cons (.refl _ rfl) (.cons (View.vec h (by simp) (by simp) (Tf _)) (.nil _))))
set_option maxHeartbeats 2000000 in
def abO (T : List Tok) (hT : T.length <= 2 ^ 30) (hs : ∀ q, (T.getD q default).s.length <= 2 ^ 62) :
    bj Tryz.prog sR 0 [] (bD T 0 false) (bD T (gG T).p (gG T).bad) (bH ⟨false,nE T,(gG T).ts⟩):=by
 have hn:=adl T;have Qu:=Wn T;have e0:Jv T=if nE T then 2 else 0:=rfl
 generalize hR:gG T=R;unfold gG at hR;generalize nE T=n at *;generalize hE:bH _=E;simp only[sD]at hn
 have fin:∀ (σ : aj) (k:Nat) (ts:List Test),R.ts=ts->k=ts.length->σ[3]? = some (.vec ES (ts.map bO))->View σ (.agg [.bool false,.bool n,.own ES 3 k 0 k]) E:=fun σ k ts h1 h2 h3=>by
  rw[<-hE,h1];exact Tq h2 h3
 clear hE;refine bj.bV (JN (by simp) ?_) rfl (aS _ _ _);unfold zZ aP;intro Q au aA aB;cases n
 all_goals
  simp only[Bool.false_eq_true,if_false,if_true]at e0;rw[e0]at hR Qu;repeat' first|refine aq ?_|refine aC hn ?_|refine ak ?_ ?_<;>intro hw<;>try omega|fail
  with_reducible refine bn [17,18,19,20,21,22,23,24,25,26] (fun x:Lc=>([]:List (Nat × AV))) (fun x=>stC T _ x.p x.b x.acc) (fun x=>x.p<=T.length/\x.acc.length+x.f=T.length+1/\T.length+1<=x.f+x.p/\DO T _ (nF T x.f x.acc x.p x.b)=R) (fun x=>x.f) ⟨[],_,false,T.length+1⟩ ⟨?_,?_,?_,hR⟩ rfl ?_ ?_
  ·dsimp only;omega
  ·dsimp only;simp
  ·dsimp only;omega
  ·exact at_
  rintro⟨acc,p,b,f⟩ r ⟨h1,h2,h3,h4⟩;dsimp only at h1 h2 h3 h4;obtain⟨f,rfl⟩:∃ g,f=g+1:=⟨f-1,by omega⟩;rw[rQ]at h4;have ct:=abN T p b h1 (by omega) hs;have gt:=E8 (T:=T) (b:=b) h1;generalize ey T p b=x at *;obtain⟨xt,xp,xb⟩:=x;dsimp only at ct gt h4;obtain⟨o,ho⟩:∃ o,ew T xp xb 4 [44]=o:=⟨_,rfl⟩;have Jw:=yb T xp xb [44] o (by decide) (by omega) ho;have gH:=fun n' p' b'=>adn T n' p' b' acc xt;simp only[bO,cw]at ct;rw[ho]at h4;cases o with
  | true =>
    have hlt:=(kD ho).1;rw[if_pos rfl]at h4;simp only[bD,if_true,Int.natCast_add,Int.cast_ofNat_Int]at ct Jw;cases acc with
    | nil =>
      simp only[List.length_nil]at h2;rw[YY T _ p b];repeat' first|simp (disch:=omega) only[go_sem,au,aA,aB,Int.natCast_add,Int.cast_ofNat_Int]|refine aq ?_|refine bh ct ?_|refine bh Jw ?_|refine ak ?_ ?_<;>intro hw<;>try omega|fail
      refine⟨⟨[xt],xp+1,xb,f⟩,?_,?_,?_,bJ,at_⟩<;>(try dsimp only)
      ·exact⟨by omega,by simp only[List.length_cons,List.length_nil];omega,by omega,h4⟩
      ·omega
      ·rfl
    | cons t0 acc =>
      simp only[List.length_cons]at h2;rw[Wo T _ p b];repeat' first|simp (disch:=omega) only[go_sem,au,aA,aB,Int.natCast_add,Int.cast_ofNat_Int]|refine aq ?_|refine bh ct ?_|refine bh Jw ?_|refine ak ?_ ?_<;>intro hw<;>try omega|fail
      refine⟨⟨t0::acc++[xt],xp+1,xb,f⟩,?_,?_,?_,bJ,at_⟩<;>(try dsimp only)
      ·exact⟨by omega,by simp only[List.length_cons,List.length_append,List.length_nil];omega,by omega,h4⟩
      ·omega
      ·rw[gH];simp[bD,bO,cw]
  | false =>
    rw[if_neg (by simp)]at h4;simp only[bD,Bool.false_eq_true,if_false]at ct Jw;have cm:=Lw T xp xb [41] (by decide) (by omega);simp only[DO,Bool.false_eq_true,if_false,if_true]at h4;subst h4;dsimp only at fin au aA aB cm;generalize rA T xp xb 4 [41]=p9 at *;generalize (xb || !(ew T xp xb 4 [41]))=b9 at *;simp only[bD]at cm;cases acc with
    | nil =>
      simp only[List.length_nil]at h2;rw[YY T _ p b];repeat' first|refine aq ?_|refine bh ct ?_|refine bh Jw ?_|refine bh cm ?_|refine ak ?_ ?_<;>intro hw<;>try omega|fail
      exact bR (fin _ _ _ rfl rfl rfl) (aW.eqv rfl (aS _ _ _))
    | cons t0 acc =>
      simp only[List.length_cons]at h2;rw[Wo T _ p b];repeat' first|refine aq ?_|refine bh ct ?_|refine bh Jw ?_|refine bh cm ?_|refine ak ?_ ?_<;>intro hw<;>try omega|fail
      exact bR (fin _ _ _ rfl (by simp) (by simp[bO,cw])) (aW.eqv rfl (aS _ _ _))
def FC(T:List Tok): Prop:= ∀ q,(T.getD q default).s.length<=2 ^ 62/\ -9223372036854775808<=(T.getD q default).n/\(T.getD q default).n<=9223372036854775807
def vw: ic x0:=by simp[x0,ic,Nq,v0]
def QG{op:Int}{l:List Expr}(h:Nq l): ic (.mk op v0 [] l):=by simp[ic,v0,h]
def abP{rd:Nat->Nat->RS}{l q:Nat}{b:Bool}(h:∀ l q,ic (rd l q).x): ic (rB rd l q b).x:=by
 unfold rB;split
 ·exact vw
 ·exact h _ _
def ado{s:aJ}{v:eg}(h:uk s=some v): v.s=[]/\0<=v.n/\v.n<=1:=by
 unfold uk at h;split at h
 ·cases h;exact⟨rfl,by decide,by decide⟩
 split at h
 ·cases h;exact⟨rfl,by decide,by decide⟩
 split at h
 ·cases h;exact⟨rfl,by decide,by decide⟩
 ·cases h
def aeK{T:List Tok}(hT:FC T){rd:Nat->Nat->RS}(h:∀ l q,ic (rd l q).x)(p:Nat): ic (ja rd T p).x:=by
 have hp:=hT p;unfold ja;split
 ·exact h 0 (p+1)
 split
 ·simp[zl,ic,Nq];exact hp.2
 split
 ·simp[zl,ic,Nq];exact hp.1
 split
 ·split
  ·rename_i v hv;have:=ado hv;simp[zl,ic,Nq,this.1];omega
  ·split
   ·simp[ic,Nq,v0];exact hp.1
   ·exact vw
 ·exact vw
def ahM{T:List Tok}(hT:FC T)(f:Nat): ∀(m:Option Expr) (lvl p:Nat),(∀ x,m=some x->ic x)->ic (bI T f m lvl p).x:=by
 induction f with
 | zero=>intro m lvl p _;exact vw
 | succ f ih =>
   intro m lvl p hm;have h:∀ l q,ic (bI T f none l q).x:=fun l q=>ih none l q (fun x hx=>by cases hx);cases m with
   | none =>
     simp only[bI];split
     ·split
      ·exact QG ⟨h _ _,abP (rd:=fun l q=>bI T f none l q) h,abP (rd:=fun l q=>bI T f none l q) h,trivial⟩
      ·exact h _ _
     split
     ·exact QG ⟨h _ _,trivial⟩
     split
     ·exact aeK hT h p
     split
     ·exact h _ _
     ·exact ih _ _ _ (fun x hx=>by cases hx;exact h _ _)
   | some x =>
     simp only[bI];split
     ·exact hm x rfl
     ·split
      ·exact QG ⟨hm x rfl,h _ _,trivial⟩
      ·exact ih _ _ _ (fun y hy=>by cases hy;exact QG ⟨hm x rfl,h _ _,trivial⟩)
def Wp{T:List Tok}(hT:FC T)(fr lvl:Int): ic (d_ T fr lvl).1:=by
 unfold d_;split
 ·exact vw
 split
 ·exact vw
 ·exact ahM hT _ _ _ _ (fun x hx=>by cases hx)
def aau(s:aJ): (∀ c ∈ s,dP c=true)-> ∀ v:Int,0<=v->v<=9223372036854775807-> ∀ n,x4 s v=some n->0<=n/\n<=9223372036854775807:=by
 induction s with
 | nil=>intro _ v h1 h2 n h;simp only[x4]at h;cases h;exact⟨h1,h2⟩
 | cons c r ih =>
   intro hd v h1 h2 n h;have hc:=hd c (by simp);simp only[dP,aF,decide_eq_true_eq]at hc;simp only[x4]at h;split at h
   ·cases h
   ·exact ih (fun c hc=>hd c (cZ _ hc)) _ (by omega) (by omega) n h
def UJ{p:UInt8->Bool}(s:aJ): ∀ c ∈ s.takeWhile p,p c=true:=by
 induction s with
 | nil=>intro c h;cases h
 | cons x r ih =>
   intro c h;rw[eV]at h;split at h
   ·rename_i hx;rcases List.mem_cons.1 h with rfl|h
    ·exact hx
    ·exact ih c h
   ·cases h
def agf(s:aJ): 0<=(iE s).n/\(iE s).n<=9223372036854775807:=by
 have e:∀ k,0<=(PR.err k).n/\(PR.err k).n<=9223372036854775807:=fun k=>by simp[PR.err]
 unfold iE;simp only;split
 ·unfold EW;split
  ·exact e _
  ·exact⟨by simp,by simp⟩
 split
 ·unfold oq;simp only;split
  ·exact e _
  ·split
   ·exact e _
   ·rename_i v hv;exact aau _ (UJ s) 0 (by omega) (by omega) v hv
 split
 ·have : ∀ (r b : aJ) (i : Nat), 0 <= (j6 r b i).n /\ (j6 r b i).n <= 9223372036854775807 := fun r b i => by
   fun_induction j6 r b i<;>first|exact e _|assumption|exact⟨by simp,by simp⟩
  exact this _ _ _
 ·unfold vV;split
  ·exact⟨by simp,by simp⟩
  ·exact e _
def agh(f:Nat): ∀(s:aJ) (pos:Nat) (acc:List Tok),(∀ t ∈ acc,0<=t.n/\t.n<=9223372036854775807)-> ∀ t ∈ (tg f s pos acc).1,0<=t.n/\t.n<=9223372036854775807:=by
 induction f with
 | zero=>intro s pos acc h;exact h
 | succ f ih =>
   intro s pos acc h;cases s with
   | nil=>exact h
   | cons c r =>
     rw[wM];split
     ·exact ih r (pos+1) acc h
     ·split
      ·refine ih _ _ _ (fun t ht=>?_);rcases List.mem_append.1 ht with ht|ht
       ·exact h t ht
       ·simp only[List.mem_cons,List.not_mem_nil,or_false]at ht;subst ht;exact agf _
      ·intro t ht;cases ht
def GS(s:aJ): FC (bw s).1:=by
 intro q;have h1:=(oO s).2 q
 have h2:∀ t ∈ (bw s).1,0<=t.n/\t.n<=9223372036854775807:=by
  unfold bw;split
  ·intro t ht;cases ht
  ·exact agh _ _ _ _ (fun t ht=>by cases ht)
 refine⟨by omega,?_⟩;by_cases hq:q<(bw s).1.length
 ·have:=h2 _ (a_ hq);omega
 ·rw[qI (by omega)];decide
def Ia{T:List Tok}(hT:FC T)(p:Nat)(b:Bool): ic (gU T p b).x/\eK (gU T p b).x<=1+4*T.length:=by
 unfold gU rB;split
 ·exact⟨vw,by simp[x0,eK,nD]⟩
 ·exact⟨Wp hT _ _,HZ T _ _⟩
def adp{T:List Tok}(hT:FC T)(hl:T.length<=2 ^ 50)(p:Nat)(b:Bool): Nt (ey T p b).t:=by
 have hx:∀ p b,ic (gU T p b).x/\eK (gU T p b).x<=2 ^ 60:=fun p b=>⟨(Ia hT p b).1,by have:=(Ia hT p b).2;omega⟩;have h0:ic x0/\eK x0<=2 ^ 60:=⟨vw,Wg⟩;have h1:∀ k p b,Nt (tC k (gU T p b)).t:=fun k p b=>⟨hx p b,h0⟩;have h2:∀ lo,Nt (Nw T p lo).t:=fun lo=>⟨hx _ _,hx _ _⟩;unfold ey;split
 ·exact h1 _ _ _
 split
 ·exact h1 _ _ _
 split
 ·exact h1 _ _ _
 split
 ·exact h1 _ _ _
 split
 ·exact h2 _
 split
 ·exact h2 _
 ·exact h1 _ _ _
def adq{T:List Tok}(hT:FC T)(hl:T.length<=2 ^ 50)(f:Nat): ∀(acc:List Test) (p:Nat) (b:Bool),(∀ t ∈ acc,Nt t)->(∀ t ∈ (nF T f acc p b).ts,Nt t)/\(nF T f acc p b).ts.length<=acc.length+f:=by
 induction f with
 | zero=>intro acc p b h;exact⟨h,Nat.le_refl _⟩
 | succ f ih =>
   intro acc p b h
   have h2:∀ t ∈ acc++[(ey T p b).t],Nt t:=fun t ht=>by
    rcases List.mem_append.1 ht with ht|ht
    ·exact h t ht
    ·simp only[List.mem_cons,List.not_mem_nil,or_false]at ht;subst ht;exact adp hT hl p b
   rw[rQ];split
   ·have:=ih _ ((ey T p b).p+1) (ey T p b).bad h2;rw[List.length_append,List.length_cons,List.length_nil]at this;exact⟨this.1,by omega⟩
   ·exact⟨h2,by rw[List.length_append,List.length_cons,List.length_nil];omega⟩
def Sp(T:List Tok)(n:Bool)(c:CS): (DO T n c).ts=c.ts:=by unfold DO;split<;>rfl
def OM{T:List Tok}(hT:FC T)(hl:T.length<=2 ^ 50): Nu ⟨false,nE T,(gG T).ts⟩:=by
 have:=adq hT hl (T.length+1) [] (Jv T) false (fun t ht=>by cases ht);unfold gG Nu;rw[Sp];exact⟨by have:=this.2;simp only[List.length_nil]at this;dsimp only;omega,this.1⟩
def agi{T:List Tok}{n:Bool}{c:CS}(h:c.p<=T.length): (DO T n c).p<=T.length:=by
 unfold DO;split
 ·dsimp only[rA];split
  ·rename_i h;exact(kD h).1
  ·exact h
 ·exact h
def YZ(T:List Tok): (gG T).p<=T.length:=agi (aat _ _ _ _ (Wn T))
def adr{T:List Tok}(f:Nat): ∀(acc:List Test) (p:Nat) (b:Bool),(nF T (f+1) acc p b).ts≠[]:=by
 induction f with
 | zero=>intro acc p b;rw[rQ];split<;>simp[nF]
 | succ f ih=>intro acc p b;rw[rQ];split<;>first|exact ih _ _ _|simp
def ads(T:List Tok): (gG T).ts≠[]:=by unfold gG;rw[Sp];exact adr _ _ _ _
def c0: Cell:=⟨false,false,[]⟩
def FD: Cell:=⟨true,false,[]⟩
def fU(s:aJ): Cell × Int × Int :=
 if(bw s).2.2≠0 then(c0,(bw s).2.1,(bw s).2.2)
 else if(bw s).1.length=1/\ew (bw s).1 0 false 4 [45]=true then(FD,0,0)
 else if(gG (bw s).1).p<(bw s).1.length then(c0,((bw s).1.getD (gG (bw s).1).p default).pos,11)
 else if(gG (bw s).1).bad=true then(c0,s.length,11)
 else if 12<(gG (bw s).1).ts.length then(c0,0,24)
 else if jf ⟨false,nE (bw s).1,(gG (bw s).1).ts⟩=false then(c0,0,12)
 else(⟨false,nE (bw s).1,(gG (bw s).1).ts⟩,0,0)
def Wq(r:Cell × Int × Int): AV:= .bX [bH r.1,I r.2.1,I r.2.2]
def Ly(s:aJ): Nu (fU s).1:=by
 have h:=OM (GS s) (by have:=(oO s).1;omega);have h0:Nu c0:=⟨Nat.zero_le _,fun t ht=>by cases ht⟩;have h1:Nu FD:=⟨Nat.zero_le _,fun t ht=>by cases ht⟩;unfold fU;repeat' split
 all_goals first|exact h0|exact h1|exact h
def Y0{σ : aj}: View σ (.agg [.bool false,.bool false,.ae]) (bH c0):=View.nU (.cons (.refl _ rfl) (.cons (.refl _ rfl) (.cons (.ae _) (.nil _))))
def Tr{σ : aj}: View σ (.agg [.bool true,.bool false,.ae]) (bH FD):=View.nU (.cons (.refl _ rfl) (.cons (.refl _ rfl) (.cons (.ae _) (.nil _))))
def agj(T:List Tok)(p:Nat): ew T p false 4 [45]=(ya T p==[45]):=by
 rw[zm T p false [45] (by decide),aV];simp
set_option maxHeartbeats 1000000 in
def aav(s:aJ)(hs:s.length<=2 ^ 30): ai Tryz.prog C5 [.str s] (Wq (fU s)):=by
 have cl:=YR s hs;obtain⟨f1,f2⟩:=oO s;have cm:=Lv (bw s).1 0 false;have cr:=abO (bw s).1 (by omega) (fun q=>by have:=f2 q;omega);have hok:=OM (GS s) (by omega);have cc:=H8 _ hok;have CH:=YZ (bw s).1;have hd:=agj (bw s).1 0
 have hP:fU s=if(bw s).2.2≠0 then(c0,(bw s).2.1,(bw s).2.2)
  else if(bw s).1.length=1/\ew (bw s).1 0 false 4 [45]=true then(FD,0,0)
  else if(gG (bw s).1).p<(bw s).1.length then(c0,((bw s).1.getD (gG (bw s).1).p default).pos,11)
  else if(gG (bw s).1).bad=true then(c0,(s.length:Int),11)
  else if 12<(gG (bw s).1).ts.length then(c0,0,24)
  else if jf ⟨false,nE (bw s).1,(gG (bw s).1).ts⟩=false then(c0,0,12)
  else(⟨false,nE (bw s).1,(gG (bw s).1).ts⟩,0,0):=rfl
 rw[hP,hd];clear hP f2 hd hok;generalize jf ⟨false,nE (bw s).1,(gG (bw s).1).ts⟩=rb at *;generalize gG (bw s).1=r at *;generalize ya (bw s).1 0=mt at *;generalize nE (bw s).1=n at *;generalize bw s=L at *;obtain⟨T,la,le⟩:=L;obtain⟨rts,rp,aaw⟩:=r;dsimp only at *;simp only[Wq]at ⊢;simp only[OC,sD]at cl;simp only[bD,Int.cast_ofNat_Int]at cm cr;simp only[bH,fo]at cr cc;have e1:∀ σ : aj,View σ (.agg [.bool false,.bool false,.ae]) (bH c0):=fun σ=>Y0;have e2:∀ σ : aj,View σ (.agg [.bool true,.bool false,.ae]) (bH FD):=fun σ=>Tr;have e3:∀ σ : aj,View σ (.agg [.bool false,.bool n,.aK false ES (rts.map bO)]) (bH ⟨false,n,rts⟩):=fun σ=>View.eqv rfl (EU _);by_cases h1:le≠0
 ·rw[if_pos h1];generalize bH c0=E at *;refine ai.aG (mE (by simp) ?_) (by simp);unfold lS aP;intro Q au aA aB;repeat' first|refine aq ?_|refine aC cl ?_|refine ak ?_ ?_<;>intro hw<;>try omega|fail
  all_goals exact bq (iF (e1 _))
 rw[if_neg h1];by_cases h2:T.length=1/\(mt==[45])=true
 ·rw[if_pos h2];generalize bH FD=E2 at *;obtain⟨h2,h3⟩:=h2;refine ai.aG (mE (by simp) ?_) (by simp);unfold lS aP;intro Q au aA aB;repeat' first|simp (disch:=omega) only[go_sem,au,aA,aB,h2,h3]|refine aq ?_|refine aC cl ?_|refine bh cm ?_|refine ak ?_ ?_<;>intro hw<;>try omega|fail
  all_goals first|exact bq (iF (e2 _))|exact aY
 rw[if_neg h2];by_cases h4:rp<T.length
 ·rw[if_pos h4];generalize bH c0=E at *;refine ai.aG (mE (by simp) ?_) (by simp);unfold lS aP;intro Q au aA aB;repeat' first|refine aq ?_|refine aC cl ?_|refine bh cm ?_|refine bh cr ?_|refine ak ?_ ?_<;>intro hw<;>try omega|fail
  all_goals first|exact bq (iF (e1 _))|exact aY
 rw[if_neg h4];by_cases h5:aaw=true
 ·rw[if_pos h5];subst h5;generalize bH c0=E at *;refine ai.aG (mE (by simp) ?_) (by simp);unfold lS aP;intro Q au aA aB;repeat' first|refine aq ?_|refine aC cl ?_|refine bh cm ?_|refine bh cr ?_|refine ak ?_ ?_<;>intro hw<;>try omega|fail
  all_goals first|exact bq (iF (e1 _))|exact aY
 rw[if_neg h5];obtain rfl:aaw=false:=by simpa using h5
 by_cases h6:12<rts.length
 ·rw[if_pos h6];generalize bH c0=E at *;refine ai.aG (mE (by simp) ?_) (by simp);unfold lS aP;intro Q au aA aB;repeat' first|refine aq ?_|refine aC cl ?_|refine bh cm ?_|refine bh cr ?_|refine ak ?_ ?_<;>intro hw<;>try omega|fail
  all_goals first|exact bq (iF (e1 _))|exact aY
 rw[if_neg h6];cases rb with
 | false =>
   rw[if_pos rfl];generalize bH c0=E at *;simp only[mX,Bool.false_eq_true,if_false]at cc;refine ai.aG (mE (by simp) ?_) (by simp);unfold lS aP;intro Q au aA aB;repeat' first|refine aq ?_|refine aC cl ?_|refine bh cm ?_|refine bh cr ?_|refine aC cc ?_|refine ak ?_ ?_<;>intro hw<;>try omega|fail
   all_goals first|exact bq (iF (e1 _))|exact aY
 | true =>
   rw[if_neg (by simp)];generalize bH ⟨false,n,rts⟩=E3 at *;simp only[mX,if_true]at cc;refine ai.aG (mE (by simp) ?_) (by simp);unfold lS aP;intro Q au aA aB;repeat' first|refine aq ?_|refine aC cl ?_|refine bh cm ?_|refine bh cr ?_|refine aC cc ?_|refine ak ?_ ?_<;>intro hw<;>try omega|fail
   all_goals first|exact bq (iF (e3 _))|exact aY
def lu: aI:=  .seq (.block 2 (.seq (.region [⟨.mv (.t 8),(some 103),none⟩,⟨.lD (.t 103),(some 104),none⟩,⟨.gS 1 (.t 104),(some 105),none⟩,⟨.load false 1 (.t 105),(some 106),none⟩,⟨.mv (.t 5),(some 107),none⟩,⟨.len false (.t 107),(some 108),none⟩,⟨.bin .lss (.t 106) (.t 108),(some 109),none⟩,⟨.mv (.t 109),(some 102),none⟩])<|
 .cond (.t 102) (.seq (.draw [⟨.build [(.bool false),(.bool false),.ae] [],(some 110),none⟩,⟨.mv (.t 5),(some 111),none⟩,⟨.mv (.t 8),(some 112),none⟩,⟨.lD (.t 112),(some 113),none⟩,⟨.gS 1 (.t 113),(some 114),none⟩,⟨.load false 1 (.t 114),(some 115),none⟩,⟨.cz ⟨true,4⟩ none (.t 111) (.t 115),(some 116),none⟩,⟨.gS 3 (.t 116),(some 117),none⟩,⟨.load false 1 (.t 117),(some 118),none⟩,⟨.store 3 (.t 2) (.t 110),none,none⟩,⟨.mv (.t 118),(some 3),none⟩,⟨.mv (.c (.int .i64 11)),(some 4),none⟩] [((.t 114),(.t 2)),((.t 117),(.t 2))])<|
 .ret) (.seq (.region [⟨.mv (.t 8),(some 120),none⟩,⟨.lD (.t 120),(some 121),none⟩,⟨.gS 2 (.t 121),(some 122),none⟩,⟨.load false 1 (.t 122),(some 123),none⟩,⟨.mv (.t 123),(some 119),none⟩])<|
 .cond (.t 119) (.seq (.region [⟨.build [(.bool false),(.bool false),.ae] [],(some 124),none⟩,⟨.mv (.t 0),(some 125),none⟩,⟨.len true (.t 125),(some 126),none⟩,⟨.store 3 (.t 2) (.t 124),none,none⟩,⟨.mv (.t 126),(some 3),none⟩,⟨.mv (.c (.int .i64 11)),(some 4),none⟩])<|
 .ret) (.seq (.region [⟨.gS 2 (.t 9),(some 128),none⟩,⟨.load false 1 (.t 128),(some 129),none⟩,⟨.len false (.t 129),(some 130),none⟩,⟨.bin .gtr (.t 130) (.c (.int .i64 12)),(some 131),none⟩,⟨.mv (.t 131),(some 127),none⟩])<|
 .cond (.t 127) (.seq (.region [⟨.build [(.bool false),(.bool false),.ae] [],(some 132),none⟩,⟨.store 3 (.t 2) (.t 132),none,none⟩,⟨.mv (.c (.int .i64 0)),(some 3),none⟩,⟨.mv (.c (.int .i64 24)),(some 4),none⟩])<|
 .ret) (.seq (.region [⟨.load true 3 (.t 9),(some 134),none⟩,⟨.call false (.c (.fn (.func oa) [] [])) [(.t 134)],(some 135),none⟩,⟨.un .not (.t 135),(some 136),none⟩,⟨.mv (.t 136),(some 133),none⟩])<|
 .cond (.t 133) (.seq (.region [⟨.build [(.bool false),(.bool false),.ae] [],(some 137),none⟩,⟨.store 3 (.t 2) (.t 137),none,none⟩,⟨.mv (.c (.int .i64 0)),(some 3),none⟩,⟨.mv (.c (.int .i64 12)),(some 4),none⟩])<|
 .ret) (.skip))))))<|
 .seq (.region [⟨.load true 3 (.t 9),(some 138),none⟩,⟨.store 3 (.t 2) (.t 138),none,none⟩,⟨.mv (.c (.int .i64 0)),(some 3),none⟩,⟨.mv (.c (.int .i64 0)),(some 4),none⟩])<|
 .ret
def zo: aI:=  .seq (.draw [⟨.gS 2 (.t 9),(some 68),none⟩,⟨.load false 1 (.t 68),(some 69),none⟩,⟨.mv (.t 8),(some 70),none⟩,⟨.mL (.c (.fn (.func jD) [] [])) [(.t 70)],(some 71),none⟩,⟨.bK false ⟨true,15⟩ (.agg [(.int .i64 0),(.int .i64 0),(.int .i64 0),(.int .i64 0),(.str []),(.str []),.ae,(.int .i64 0),(.int .i64 0),(.int .i64 0),(.str []),(.str []),.ae,(.bool false),(.bool false)]) 1 [(0,(.t 71))],(some 72),none⟩,⟨.app none ⟨true,15⟩ (.t 69) (.t 72),(some 73),none⟩,⟨.gS 2 (.t 9),(some 74),none⟩,⟨.store 1 (.t 74) (.t 73),none,none⟩] [((.t 68),(.t 70))])<|
 .seq (.block 0 (.loop (.seq (.seq (.region [⟨.mv (.t 8),(some 75),none⟩,⟨.call false (.c (.fn (.func eC) [] [])) [(.t 75),(.c (.str [44]))],(some 76),none⟩])<|
 .cond (.t 76) (.skip) (.exit 0))<|
 .block 1 (.seq (.region [⟨.mv (.t 8),(some 77),none⟩,⟨.lD (.t 77),(some 78),none⟩,⟨.gS 1 (.t 78),(some 79),none⟩,⟨.load false 1 (.t 79),(some 80),none⟩,⟨.bin .add (.t 80) (.c (.int .i64 1)),(some 81),none⟩,⟨.lD (.t 77),(some 82),none⟩,⟨.gS 1 (.t 82),(some 83),none⟩,⟨.store 1 (.t 83) (.t 81),none,none⟩])<|
 .draw [⟨.gS 2 (.t 9),(some 84),none⟩,⟨.load false 1 (.t 84),(some 85),none⟩,⟨.mv (.t 8),(some 86),none⟩,⟨.mL (.c (.fn (.func jD) [] [])) [(.t 86)],(some 87),none⟩,⟨.bK false ⟨true,15⟩ (.agg [(.int .i64 0),(.int .i64 0),(.int .i64 0),(.int .i64 0),(.str []),(.str []),.ae,(.int .i64 0),(.int .i64 0),(.int .i64 0),(.str []),(.str []),.ae,(.bool false),(.bool false)]) 1 [(0,(.t 87))],(some 88),none⟩,⟨.app none ⟨true,15⟩ (.t 85) (.t 88),(some 89),none⟩,⟨.gS 2 (.t 9),(some 90),none⟩,⟨.store 1 (.t 90) (.t 89),none,none⟩] [((.t 84),(.t 86))]))))<|
 .seq (.seq (.region [⟨.gS 1 (.t 9),(some 91),none⟩,⟨.load false 1 (.t 91),(some 92),none⟩,⟨.mv (.t 92),(some 93),none⟩,⟨.mv (.t 8),(some 94),some (93,true)⟩,⟨.lD (.t 94),(some 95),some (93,true)⟩,⟨.gS 2 (.t 95),(some 96),some (93,true)⟩,⟨.load false 1 (.t 96),(some 97),some (93,true)⟩,⟨.un .not (.t 97),(some 98),some (93,true)⟩,⟨.pick (.t 93) (.t 98) (.c (.bool false)),(some 99),none⟩])<|
 .cond (.t 99) (.region [⟨.mv (.t 8),(some 100),none⟩,⟨.call false (.c (.fn (.func jE) [] [])) [(.t 100),(.c (.str [41]))],(some 101),none⟩]) (.skip))<|
 lu
def QH: vR=(.seq (.region [⟨.alloc none [(.bool false),(.bool false),.ae],(some 2),none⟩,⟨.mv (.c (.int .i64 0)),(some 3),none⟩,⟨.mv (.c (.int .i64 0)),(some 4),none⟩])<|
 .seq (.region [⟨.mv (.t 0),(some 11),none⟩,⟨.call false (.c (.fn (.func uZ) [] [])) [(.t 11)],(some 12),none⟩,⟨.mv (.t 12),(some 10),none⟩,⟨.ext (.t 10) 0,(some 13),none⟩,⟨.ext (.t 10) 1,(some 14),none⟩,⟨.ext (.t 10) 2,(some 15),none⟩,⟨.mv (.t 13),(some 5),none⟩,⟨.mv (.t 14),(some 6),none⟩,⟨.mv (.t 15),(some 7),none⟩])<|
 .seq (.seq (.region [⟨.mv (.t 7),(some 16),none⟩,⟨.bin .neq (.t 16) (.c (.int .i64 0)),(some 17),none⟩])<|
 .cond (.t 17) (.seq (.region [⟨.build [(.bool false),(.bool false),.ae] [],(some 18),none⟩,⟨.mv (.t 6),(some 19),none⟩,⟨.mv (.t 7),(some 20),none⟩,⟨.store 3 (.t 2) (.t 18),none,none⟩,⟨.mv (.t 19),(some 3),none⟩,⟨.mv (.t 20),(some 4),none⟩])<|
 .ret) (.skip))<|
 .seq (.region [⟨.mv (.t 5),(some 21),none⟩,⟨.build [.ae,(.int .i64 0),(.bool false)] [(0,1,(.t 21))],(some 22),none⟩,⟨.box (.t 22),(some 23),none⟩,⟨.mv (.t 23),(some 8),none⟩])<|
 .seq (.seq (.region [⟨.mv (.t 5),(some 24),none⟩,⟨.len false (.t 24),(some 25),none⟩,⟨.bin .eql (.t 25) (.c (.int .i64 1)),(some 26),none⟩,⟨.mv (.t 26),(some 27),none⟩,⟨.mv (.t 8),(some 28),some (27,true)⟩,⟨.call false (.c (.fn (.func eC) [] [])) [(.t 28),(.c (.str [45]))],(some 29),some (27,true)⟩,⟨.pick (.t 27) (.t 29) (.c (.bool false)),(some 30),none⟩])<|
 .cond (.t 30) (.seq (.region [⟨.build [(.bool false),(.bool false),.ae] [(0,1,(.c (.bool true)))],(some 31),none⟩,⟨.store 3 (.t 2) (.t 31),none,none⟩,⟨.mv (.c (.int .i64 0)),(some 3),none⟩,⟨.mv (.c (.int .i64 0)),(some 4),none⟩])<|
 .ret) (.skip))<|
 .seq (.region [⟨.build [(.bool false),(.bool false),.ae] [],(some 32),none⟩,⟨.alloc none [(.bool false),(.bool false),.ae],(some 9),none⟩,⟨.store 3 (.t 9) (.t 32),none,none⟩])<|
 .seq (.seq (.region [⟨.mv (.t 5),(some 33),none⟩,⟨.len false (.t 33),(some 34),none⟩,⟨.bin .gtr (.t 34) (.c (.int .i64 1)),(some 35),none⟩,⟨.mv (.t 35),(some 36),none⟩,⟨.mv (.t 5),(some 37),some (36,true)⟩,⟨.cz ⟨true,4⟩ none (.t 37) (.c (.int .i64 0)),(some 38),some (36,true)⟩,⟨.gS 0 (.t 38),(some 39),some (36,true)⟩,⟨.load false 1 (.t 39),(some 40),some (36,true)⟩,⟨.bin .eql (.t 40) (.c (.int .i64 1)),(some 41),some (36,true)⟩,⟨.pick (.t 36) (.t 41) (.c (.bool false)),(some 42),none⟩,⟨.mv (.t 42),(some 43),none⟩,⟨.mv (.t 5),(some 44),some (43,true)⟩,⟨.cz ⟨true,4⟩ none (.t 44) (.c (.int .i64 0)),(some 45),some (43,true)⟩,⟨.gS 1 (.t 45),(some 46),some (43,true)⟩,⟨.load false 1 (.t 46),(some 47),some (43,true)⟩,⟨.bin .eql (.t 47) (.c (.str [110,111,116])),(some 48),some (43,true)⟩,⟨.pick (.t 43) (.t 48) (.c (.bool false)),(some 49),none⟩,⟨.mv (.t 49),(some 50),none⟩,⟨.mv (.t 5),(some 51),some (50,true)⟩,⟨.cz ⟨true,4⟩ none (.t 51) (.c (.int .i64 1)),(some 52),some (50,true)⟩,⟨.gS 0 (.t 52),(some 53),some (50,true)⟩,⟨.load false 1 (.t 53),(some 54),some (50,true)⟩,⟨.bin .eql (.t 54) (.c (.int .i64 4)),(some 55),some (50,true)⟩,⟨.pick (.t 50) (.t 55) (.c (.bool false)),(some 56),none⟩,⟨.mv (.t 56),(some 57),none⟩,⟨.mv (.t 5),(some 58),some (57,true)⟩,⟨.cz ⟨true,4⟩ none (.t 58) (.c (.int .i64 1)),(some 59),some (57,true)⟩,⟨.gS 1 (.t 59),(some 60),some (57,true)⟩,⟨.load false 1 (.t 60),(some 61),some (57,true)⟩,⟨.bin .eql (.t 61) (.c (.str [40])),(some 62),some (57,true)⟩,⟨.pick (.t 57) (.t 62) (.c (.bool false)),(some 63),none⟩])<|
 .cond (.t 63) (.seq (.region [⟨.gS 1 (.t 9),(some 64),none⟩,⟨.store 1 (.t 64) (.c (.bool true)),none,none⟩])<|
 .region [⟨.mv (.t 8),(some 65),none⟩,⟨.lD (.t 65),(some 66),none⟩,⟨.gS 1 (.t 66),(some 67),none⟩,⟨.store 1 (.t 67) (.c (.int .i64 2)),none,none⟩]) (.skip))<|
 zo):=rfl
def GU{P:Program}{c:aI}{Q:AQ}{S:aj}{e:Env}(cs:List (Nat × AV))(hr:∀ r,iH P c Q (w_ cs r) S)(o_:At cs e): iH P c Q e S:=by
 have:=hr e;rwa[Sk cs o_]at this
def aax(T:List Tok)(f:Nat)(acc:List Test)(p:Nat)(b:Bool): CS:=if ew T p b 4 [44]then nF T f acc (p+1) b else⟨acc,p,b⟩
def Nz(T:List Tok)(f:Nat)(acc:List Test)(p:Nat)(b:Bool): nF T (f+1) acc p b=aax T f (acc++[(ey T p b).t]) (ey T p b).p (ey T p b).bad:=rfl
def stP(T:List Tok)(n:Bool)(p:Nat)(b:Bool)(t:Test)(acc:List Test): aj :=
 [.cells [.bool false,.bool false,.ae],.cells [.aK false ET (T.map mF),I p,.bool b],.cells [.bool false,.bool n,.own ES 3 (acc.length+1) 0 (acc.length+1)],.vec ES (bO t::acc.map bO)]
def agk(T:List Tok)(n:Bool)(p:Nat)(b:Bool)(t:Test)(acc:List Test): stP T n p b t acc =
 [.cells [.bool false,.bool false,.ae],.cells [.aK false ET (T.map mF),I p,.bool b],.cells [.bool false,.bool n,.own ES 3 (acc.length+1) 0 (acc.length+1)],.vec ES (bO t::acc.map bO)]:=rfl
structure Lp2 where
 t:Test
 acc:List Test
 p:Nat
 b:Bool
 f:Nat
set_option maxHeartbeats 4000000 in
def NA(s:aJ)(hs:s.length<=2 ^ 30): ai Tryz.prog AR [.str s] (Wq (fU s)):=by
 have cl:=Tj s hs;obtain⟨f1,f2⟩:=oO s;obtain⟨od,Ts⟩:∃ o,ew (bw s).1 0 false 4 [45]=o:=⟨_,rfl⟩;have cm:=rP (bw s).1 0 false [45] od Ts;have hok:=OM (GS s) (by omega);have cc:=FB _ hok;have CH:=YZ (bw s).1;have hne:=ads (bw s).1;have hR:DO (bw s).1 (nE (bw s).1) (nF (bw s).1 ((bw s).1.length+1) [] (Jv (bw s).1) false)=gG (bw s).1:=rfl;have Qu:=Wn (bw s).1;have e0:Jv (bw s).1=if nE (bw s).1 then 2 else 0:=rfl
 have hP:fU s=if(bw s).2.2≠0 then(c0,(bw s).2.1,(bw s).2.2)
  else if(bw s).1.length=1/\ew (bw s).1 0 false 4 [45]=true then(FD,0,0)
  else if(gG (bw s).1).p<(bw s).1.length then(c0,((bw s).1.getD (gG (bw s).1).p default).pos,11)
  else if(gG (bw s).1).bad=true then(c0,(s.length:Int),11)
  else if 12<(gG (bw s).1).ts.length then(c0,0,24)
  else if jf ⟨false,nE (bw s).1,(gG (bw s).1).ts⟩=false then(c0,0,12)
  else(⟨false,nE (bw s).1,(gG (bw s).1).ts⟩,0,0):=rfl
 rw[hP,Ts];clear hP hok;have hnt:nE (bw s).1=(decide (1<(bw s).1.length) && (iM (bw s).1 0 1 Wm && iM (bw s).1 1 4 [40])):=rfl;generalize jf ⟨false,nE (bw s).1,(gG (bw s).1).ts⟩=rb at *;generalize gG (bw s).1=R at *;generalize nE (bw s).1=n at *;generalize bw s=L at *;obtain⟨T,la,le⟩:=L;dsimp only at *;have hTs:∀ q,(T.getD q default).s.length<=2 ^ 62:=fun q=>by have:=f2 q;omega
 clear f2;simp only[Wq]at ⊢;simp only[OC,sD]at cl;simp only[bD,Int.cast_ofNat_Int]at cm;simp only[bH,fo]at cc;have e1:∀ σ : aj,View σ (.agg [.bool false,.bool false,.ae]) (bH c0):=fun σ=>Y0;have e2:∀ σ : aj,View σ (.agg [.bool true,.bool false,.ae]) (bH FD):=fun σ=>Tr;by_cases h1:le≠0
 ·rw[if_pos h1];generalize bH c0=E at *;refine ai.aG (zb (by simp) ?_) (by simp);unfold vR aP;intro Q au aA aB;repeat' first|refine aq ?_|refine aC cl ?_|refine ak ?_ ?_<;>intro hw<;>try omega|fail
  all_goals exact bq (iF (e1 _))
 rw[if_neg h1];by_cases h2:T.length=1/\od=true
 ·rw[if_pos h2];generalize bH FD=E2 at *;obtain⟨h2,rfl⟩:=h2;refine ai.aG (zb (by simp) ?_) (by simp);unfold vR aP;intro Q au aA aB;repeat' first|simp (disch:=omega) only[go_sem,au,aA,aB,h2]|refine aq ?_|refine aC cl ?_|refine bh cm ?_|refine ak ?_ ?_<;>intro hw<;>try omega|fail
  all_goals first|exact bq (iF (e2 _))|exact aY
 rw[if_neg h2];refine ai.aG (zb (by simp) ?_) (by simp);unfold aP;intro Q au aA aB;rw[QH]
 have Ca:∀ (r:Env),iH Tryz.prog lu Q (w_ [(0,.str s),(2,.ref 0 0),(5,.aK false ET (T.map mF)),(8,.ref 1 0),(9,.ref 2 0)] r) [.cells [.bool false,.bool false,.ae],.cells [.aK false ET (T.map mF),I R.p,.bool R.bad],.cells [.bool false,.bool n,.own ES 3 R.ts.length 0 R.ts.length],.vec ES (R.ts.map bO)]:=by
  intro r;clear hR cm cl Ts h2 hnt e0 Qu;obtain⟨rts,rp,aaw⟩:=R;dsimp only at *;have e3:∀ σ : aj,σ[3]? = some (.vec ES (rts.map bO))->View σ (.agg [.bool false,.bool n,.own ES 3 rts.length 0 rts.length]) (bH ⟨false,n,rts⟩):=fun σ h=>Tq rfl h;by_cases h4:rp<T.length
  ·simp only[if_pos h4]at au aA aB;generalize bH c0=E at *;unfold lu;repeat' first|refine aq ?_|refine ak ?_ ?_<;>intro hw<;>try omega|fail
   all_goals first|exact bq (iF (e1 _))|exact aY
  simp only[if_neg h4]at au aA aB;cases aaw with
  | true =>
    simp only[if_true]at au aA aB;generalize bH c0=E at *;unfold lu;repeat' first|refine aq ?_|refine ak ?_ ?_<;>intro hw<;>try omega|fail
    all_goals first|exact bq (iF (e1 _))|exact aY
  | false =>
    simp only[Bool.false_eq_true,if_false]at au aA aB;by_cases h6:12<rts.length
    ·simp only[if_pos h6]at au aA aB;generalize bH c0=E at *;unfold lu;repeat' first|refine aq ?_|refine ak ?_ ?_<;>intro hw<;>try omega|fail
     all_goals first|exact bq (iF (e1 _))|exact aY
    simp only[if_neg h6]at au aA aB;cases rb with
    | false =>
      simp only[if_true]at au aA aB;generalize bH c0=E at *;unfold lu;repeat' first|refine aq ?_|refine Td cc ?_|refine ak ?_ ?_<;>intro hw<;>try omega|fail
      all_goals first|exact bq (iF (e1 _))|exact aY
    | true =>
      simp only[gX,if_false]at au aA aB;generalize bH ⟨false,n,rts⟩=E3 at *;unfold lu;repeat' first|refine aq ?_|refine Td cc ?_|refine ak ?_ ?_<;>intro hw<;>try omega|fail
      all_goals first|exact bq (iF (e3 _ rfl))|exact aY
 clear cc e1 e2
 have QI:∀ (r:Env),iH Tryz.prog zo Q (w_ [(0,.str s),(2,.ref 0 0),(5,.aK false ET (T.map mF)),(8,.ref 1 0),(9,.ref 2 0)] r) [.cells [.bool false,.bool false,.ae],.cells [.aK false ET (T.map mF),I (Jv T),.bool false],.cells [.bool false,.bool n,.ae]]:=by
  intro r;clear cl cm Ts h2 hnt e0;rw[Nz,List.nil_append]at hR;have ct:=Ny T (Jv T) false Qu (by omega) hTs;have gt:=E8 (T:=T) (b:=false) Qu;generalize ey T (Jv T) false=x at *;obtain⟨xt,xp,xb⟩:=x;dsimp only at ct gt hR;generalize Jv T=p0 at *;have et:bO xt = .agg [I xt.kind,I xt.a.op,I xt.a.v.kind,I xt.a.v.n,.str xt.a.v.s,.str xt.a.s,.aK false EX (xt.a.l.map aL),I xt.b.op,I xt.b.v.kind,I xt.b.v.n,.str xt.b.v.s,.str xt.b.s,.aK false EX (xt.b.l.map aL),.bool xt.lo,.bool xt.hi]:=rfl;rw[et]at ct;simp only[bD]at ct;unfold zo;repeat' first|refine aq ?_|refine bh ct ?_|refine ak ?_ ?_<;>intro hw<;>try omega|fail
  with_reducible refine bn [75,76,77,78,79,80,81,82,83,84,85,86,87,88,89,90] (fun x:Lp2=>([]:List (Nat × AV))) (fun x=>stP T n x.p x.b x.t x.acc) (fun x=>x.p<=T.length/\x.acc.length+x.f=T.length/\T.length<=x.f+x.p/\DO T n (aax T x.f (x.t::x.acc) x.p x.b)=R) (fun x=>x.f) ⟨xt,[],xp,xb,T.length⟩ ⟨gt.2,by simp,by simp,hR⟩ rfl ?_ ?_
  ·exact at_
  clear ct hR;rintro⟨t0,acc,p,b,f⟩ r ⟨h1,h2,h3,h4⟩;dsimp only at h1 h2 h3 h4;obtain⟨o,ho⟩:∃ o,ew T p b 4 [44]=o:=⟨_,rfl⟩;have Jw:=rP T p b [44] o ho;unfold aax at h4;rw[ho]at h4;have et0:bO t0 = .agg [I t0.kind,I t0.a.op,I t0.a.v.kind,I t0.a.v.n,.str t0.a.v.s,.str t0.a.s,.aK false EX (t0.a.l.map aL),I t0.b.op,I t0.b.v.kind,I t0.b.v.n,.str t0.b.v.s,.str t0.b.s,.aK false EX (t0.b.l.map aL),.bool t0.lo,.bool t0.hi]:=rfl;simp only[bD]at Jw;rw[agk T n p b];cases o with
  | true =>
    have hlt:=kD ho;obtain⟨f,rfl⟩:∃ g,f=g+1:=⟨f-1,by omega⟩;rw[if_pos rfl,Nz]at h4;have ct:=Ny T (p+1) b hlt.1 (by omega) hTs;have gt:=E8 (T:=T) (p:=p+1) (b:=b) hlt.1;generalize ey T (p+1) b=x at *;obtain⟨xt,xp,xb⟩:=x;dsimp only at ct gt h4;have et:bO xt = .agg [I xt.kind,I xt.a.op,I xt.a.v.kind,I xt.a.v.n,.str xt.a.v.s,.str xt.a.s,.aK false EX (xt.a.l.map aL),I xt.b.op,I xt.b.v.kind,I xt.b.v.n,.str xt.b.v.s,.str xt.b.s,.aK false EX (xt.b.l.map aL),.bool xt.lo,.bool xt.hi]:=rfl;rw[et]at ct;simp only[bD,Int.natCast_add,Int.cast_ofNat_Int]at ct;repeat' first|simp (disch:=omega) only[go_sem,au,aA,aB,Int.natCast_add,Int.cast_ofNat_Int]|refine aq ?_|refine bh Jw ?_|refine bh ct ?_|refine ak ?_ ?_<;>intro hw<;>try omega|fail
    refine⟨⟨t0,acc++[xt],xp,xb,f⟩,?_,?_,?_,bJ,at_⟩<;>(try dsimp only)
    ·exact⟨gt.2,by simp only[List.length_append,List.length_cons,List.length_nil];omega,by omega,h4⟩
    ·omega
    ·simp[stP,bO,cw]
  | false =>
    rw[if_neg (by simp)]at h4;have cmu:=H9 T p b [41] (by omega)
    have H_:(n=false\/b=true)\/(n=true/\b=false):=by
     cases n with
     | false=>exact .inl (.inl rfl)
     | true => cases b with
       | false=>exact .inr ⟨rfl,rfl⟩
       | true=>exact .inl (.inr rfl)
    rcases H_ with H_|⟨rfl,rfl⟩
    ·have h5 : (⟨t0 :: acc, p, b⟩ : CS) = R := by
      rw[<-h4];unfold DO;cases n with
      | false=>rfl
      | true =>
        rcases H_ with h|h
        ·cases h
        ·subst h;have qf:ew T p true 4 [41]=false:=rfl;rw[if_pos rfl];dsimp only;unfold rA;rw[qf];rfl
     subst h5;rw[show (t0::acc).map bO=bO t0::acc.map bO from rfl,et0]at Ca;simp only[List.length_cons]at Ca;have hnb:(n && !b)=false:=by rcases H_ with rfl|rfl<;>simp
     cases n with
     | false =>
       repeat' first|refine aq ?_|refine bh Jw ?_|refine ak ?_ ?_<;>intro hw<;>try omega|fail
       all_goals first|exact GU _ Ca at_|exact aY
     | true =>
       obtain rfl:b=true:=by simpa using H_
       repeat' first|refine aq ?_|refine bh Jw ?_|refine ak ?_ ?_<;>intro hw<;>try omega|fail
       all_goals first|exact GU _ Ca at_|exact aY
    ·simp only[DO,if_true]at h4;subst h4;dsimp only at Ca;rw[show (t0::acc).map bO=bO t0::acc.map bO from rfl,et0]at Ca;simp only[List.length_cons]at Ca;generalize rA T p false 4 [41]=p9 at *;generalize (false || !(ew T p false 4 [41]))=b9 at *;simp only[bD]at cmu;repeat' first|refine aq ?_|refine bh Jw ?_|refine bh cmu ?_|refine ak ?_ ?_<;>intro hw<;>try omega|fail
     all_goals first|exact GU _ Ca at_|exact aY
 clear Ca hR hne CH;by_cases hn:n=true
 ·subst hn;rw[if_pos rfl]at e0;rw[e0]at QI
  symm at hnt
  simp only[aF,decide_eq_true_eq,iM,Wm]at hnt;obtain⟨q1,⟨q2,q3,q4⟩,q5,q6,q7⟩:=hnt;have hl1:¬ T.length=1:=by omega
  repeat' first|simp (disch:=omega) only[go_sem,au,aA,aB,q3,q4,q6,q7]|refine aq ?_|refine aC cl ?_|refine ak ?_ ?_<;>intro hw<;>try omega|fail
  all_goals first|exact GU _ QI at_|exact aY
 ·obtain rfl:n=false:=by simpa using hn
  rw[if_neg (by simp)]at e0;rw[e0]at QI
  have aj1:1<T.length->(T.getD 0 default).kind=1->(T.getD 0 default).s=[110,111,116]->(T.getD 1 default).kind=4->(T.getD 1 default).s=[40]->False:=fun q1 q2 q3 q4 q5=>by
   have q0:0<T.length:=by omega
   rw[decide_eq_true q1]at hnt;simp only[iM,Wm,q0,q1,q2,q3,q4,q5]at hnt;simp at hnt
  by_cases hl1:T.length=1
  ·obtain rfl : od = false := by
    cases od with
    | false=>rfl
    | true=>exact absurd ⟨hl1,rfl⟩ h2
   repeat' first|refine aq ?_|refine aC cl ?_|refine bh cm ?_|refine ak ?_ ?_<;>intro hw<;>try omega|fail
   all_goals first|exact GU _ QI at_|exact aY
  ·repeat' first|refine aq ?_|refine aC cl ?_|refine ak ?_ ?_<;>intro hw<;>try omega|fail
   all_goals first|exact GU _ QI at_|(exact(aj1 (by omega) (by assumption) (by assumption) (by assumption) (by assumption)).elim)|exact aY
end Go.Proofs.YtmbgnaoilncbnaaGreatDoor
