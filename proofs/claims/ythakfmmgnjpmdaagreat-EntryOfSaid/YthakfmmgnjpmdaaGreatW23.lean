/- Part. -/
import Derived.Test.YthakfmmgnjpmdaaGreatW22
set_option linter.all false
set_option maxHeartbeats 4000000
namespace Go.Proofs.YthakfmmgnjpmdaaGreat
open Go.AM
set_option maxRecDepth 4000
def PX: aS:=[110,111,116]
def mN(T:List cg): Bool:=decide (1<T.length) && (jA T 0 1 PX && jA T 1 4 [40])
def Zk(T:List cg): aF aD 207 [pT T] (.bool (mN T)):=by
 refine aK RA ?_;intro Q aq au aA;repeat' first|refine ak ?_|refine aj ?_ ?_<;>intro hw<;>try omega|fail
 all_goals (refine aN ?_ rfl;refine congrArg AV.bool ?_;rw[aW];simp_all[mN,jA,PX])
 all_goals (try omega)
 all_goals (exact⟨fun h=>⟨by omega,by omega,by omega,h⟩,fun h=>h.2.2.2⟩)
structure CS where
 ts:List Test
 p:Nat
 bad:Bool
deriving Inhabited
def mO(T:List cg): Nat->List Test->Nat->Bool->CS
 | 0,acc,p,b=>⟨acc,p,b⟩
 | f+1,acc,p,b=>if eG T (eF T p b).p (eF T p b).bad 4 [44]then mO T f (acc++[(eF T p b).t]) ((eF T p b).p+1) (eF T p b).bad else⟨acc++[(eF T p b).t],(eF T p b).p,(eF T p b).bad⟩
def pD(T:List cg)(f:Nat)(acc:List Test)(p:Nat)(b:Bool): mO T (f+1) acc p b=if eG T (eF T p b).p (eF T p b).bad 4 [44]then mO T f (acc++[(eF T p b).t]) ((eF T p b).p+1) (eF T p b).bad else⟨acc++[(eF T p b).t],(eF T p b).p,(eF T p b).bad⟩:=rfl
def U2{T:List cg}(f:Nat): ∀(acc:List Test) (p:Nat) (b:Bool),p<=T.length->(mO T f acc p b).p<=T.length:=by
 induction f with
 | zero=>intro acc p b hp;exact hp
 | succ f ih =>
   intro acc p b hp;rw[pD];split
   ·rename_i h;exact ih _ _ _ (kD h).1
   ·exact(yO hp).2
def xR(T:List cg)(n:Bool)(c:CS): CS:=if n then⟨c.ts,oS T c.p c.bad 4 [41],c.bad || !(eG T c.p c.bad 4 [41])⟩else c
def CH(T:List cg): Nat:=if mN T then 2 else 0
def gK(T:List cg): CS:=xR T (mN T) (mO T (T.length+1) [] (CH T) false)
def PY(T:List cg): CH T<=T.length:=by
 unfold CH;split
 ·rename_i h;simp only[mN,aC,decide_eq_true_eq]at h;omega
 ·exact fx _
def Xf(T:List cg)(n:Bool)(p:Nat)(b:Bool): List Test->ae
 | []=>[.cells (bN T p b),.cells [.bool false,.bool false,.ai],.cells [.bool false,.bool n,.ai]]
 | t::acc=>[.cells (bN T p b),.cells [.bool false,.bool false,.ai],.cells [.bool false,.bool n,.own ES 3 (acc.length+1) 0 (acc.length+1)],.vec ES (bS t::acc.map bS)]
structure Lc where
 acc:List Test
 p:Nat
 b:Bool
 f:Nat
def Ti(T:List cg)(n:Bool)(p:Nat)(b:Bool): Xf T n p b []=[.cells [.aG false ET (T.map lT),I p,.bool b],.cells [.bool false,.bool false,.ai],.cells [.bool false,.bool n,.ai]]:=rfl
def PZ(T:List cg)(n:Bool)(p:Nat)(b:Bool)(t:Test)(acc:List Test): Xf T n p b (t::acc)=[.cells [.aG false ET (T.map lT),I p,.bool b],.cells [.bool false,.bool false,.ai],.cells [.bool false,.bool n,.own ES 3 (acc.length+1) 0 (acc.length+1)],.vec ES (bS t::acc.map bS)]:=rfl
def Zl(T:List cg)(n:Bool)(p:Nat)(b:Bool)(acc:List Test)(t:Test): Xf T n p b (acc++[t])=[.cells (bN T p b),.cells [.bool false,.bool false,.ai],.cells [.bool false,.bool n,.own ES 3 (acc.length+1) 0 (acc.length+1)],.vec ES (acc.map bS++[bS t])]:=by
 cases acc with
 | nil=>rfl
 | cons x acc=>simp[Xf]
def Mw{σ : ae}{n:Bool}{ts:List Test}{k:Nat}(hk:k=ts.length)(h : σ[3]? = some (.vec ES (ts.map bS))): View σ (.agg [.bool false,.bool n,.own ES 3 k 0 k]) (bY ⟨false,n,ts⟩):=by
 subst hk;exact View.n9 (.cons (.refl _ rfl) (.cons (.refl _ rfl) (.cons (View.vec h (by simp) (by simp) (Mn _)) (.nil _))))
def Xg (T : List cg) (hT : T.length <= 2 ^ 30) (hs : ∀ q, (T.getD q default).s.length <= 2 ^ 62) :
    br aD 159 0 [] (bN T 0 false) (bN T (gK T).p (gK T).bad) (bY ⟨false,mN T,(gK T).ts⟩):=by
 have hn:=Zk T;have Jm:=PY T;have e0:CH T=if mN T then 2 else 0:=rfl
 generalize hR:gK T=R;unfold gK at hR;generalize mN T=n at *;generalize hE:bY _=E;simp only[pT]at hn
 have fin:∀ (σ : ae) (k:Nat) (ts:List Test),R.ts=ts->k=ts.length->σ[3]? = some (.vec ES (ts.map bS))->View σ (.agg [.bool false,.bool n,.own ES 3 k 0 k]) E:=fun σ k ts h1 h2 h3=>by
  rw[<-hE,h1];exact Mw h2 h3
 clear hE;refine br.bM (CW.go ?_) rfl (aT _ _ _);unfold cj;intro Q aq au aA;cases n
 all_goals
  simp only[aI,if_false,if_true]at e0;rw[e0]at hR Jm;repeat' first|refine ak ?_|refine aj ?_ ?_<;>intro hw<;>try omega|fail
  with_reducible refine aX [17,18,19,20,21,22,23,24,25,26] (fun x:Lc=>([]:List (Nat × AV))) (fun x=>Xf T _ x.p x.b x.acc) (fun x=>x.p<=T.length/\x.acc.length+x.f=T.length+1/\T.length+1<=x.f+x.p/\xR T _ (mO T x.f x.acc x.p x.b)=R) (fun x=>x.f) ⟨[],_,false,T.length+1⟩ ⟨?_,?_,?_,hR⟩ rfl ?_ ?_
  ·dsimp only;omega
  ·dsimp only;simp
  ·dsimp only;omega
  ·exact at_
  rintro⟨acc,p,b,f⟩ r ⟨h1,h2,h3,h4⟩;dsimp only at h1 h2 h3 h4;obtain⟨f,rfl⟩:∃ g,f=g+1:=⟨f-1,by omega⟩;rw[pD]at h4;have ct:=Xe T p b h1 (by omega) hs;have gt:=yO (T:=T) (b:=b) h1;generalize eF T p b=x at *;obtain⟨xt,xp,xb⟩:=x;dsimp only at ct gt h4;obtain⟨o,ho⟩:∃ o,eG T xp xb 4 [44]=o:=⟨_,rfl⟩;have CJ:=tJ T xp xb [44] o (by decide) (by omega) ho;have mA:=fun n' p' b'=>Zl T n' p' b' acc xt;simp only[bS,cH]at ct;rw[ho]at h4;cases o with
  | true =>
    have hlt:=(kD ho).1;rw[if_pos rfl]at h4;simp only[bN,if_true,Int.natCast_add,Int.cast_ofNat_Int]at ct CJ;cases acc with
    | nil =>
      simp only[List.length_nil]at h2;rw[Ti T _ p b];repeat' first|simp (disch:=omega) only[go_sem,aq,au,aA,Int.natCast_add,Int.cast_ofNat_Int]|refine ak ?_|refine bh ct ?_|refine bh CJ ?_|refine aj ?_ ?_<;>intro hw<;>try omega|fail
      refine⟨⟨[xt],xp+1,xb,f⟩,?_,?_,?_,bK,at_⟩<;>(try dsimp only)
      ·exact⟨by omega,by simp only[List.length_cons,List.length_nil];omega,by omega,h4⟩
      ·omega
      ·rfl
    | cons t0 acc =>
      simp only[List.length_cons]at h2;rw[PZ T _ p b];repeat' first|simp (disch:=omega) only[go_sem,aq,au,aA,Int.natCast_add,Int.cast_ofNat_Int]|refine ak ?_|refine bh ct ?_|refine bh CJ ?_|refine aj ?_ ?_<;>intro hw<;>try omega|fail
      refine⟨⟨t0::acc++[xt],xp+1,xb,f⟩,?_,?_,?_,bK,at_⟩<;>(try dsimp only)
      ·exact⟨by omega,by simp only[List.length_cons,List.length_append,List.length_nil];omega,by omega,h4⟩
      ·omega
      ·rw[mA];simp[bN,bS,cH]
  | false =>
    rw[if_neg (by simp)]at h4;simp only[bN,aI,if_false]at ct CJ;have cm:=Ed T xp xb [41] (by decide) (by omega);simp only[xR,aI,if_false,if_true]at h4;subst h4;dsimp only at fin aq au aA cm;generalize oS T xp xb 4 [41]=p9 at *;generalize (xb || !(eG T xp xb 4 [41]))=b9 at *;simp only[bN]at cm;cases acc with
    | nil =>
      simp only[List.length_nil]at h2;rw[Ti T _ p b];repeat' first|refine ak ?_|refine bh ct ?_|refine bh CJ ?_|refine bh cm ?_|refine aj ?_ ?_<;>intro hw<;>try omega|fail
      exact bZ (fin _ _ _ rfl rfl rfl) (bn.eqv rfl (aT _ _ _))
    | cons t0 acc =>
      simp only[List.length_cons]at h2;rw[PZ T _ p b];repeat' first|refine ak ?_|refine bh ct ?_|refine bh CJ ?_|refine bh cm ?_|refine aj ?_ ?_<;>intro hw<;>try omega|fail
      exact bZ (fin _ _ _ rfl (by simp) (by simp[bS,cH])) (bn.eqv rfl (aT _ _ _))
def zk(T:List cg): Prop:= ∀ q,(T.getD q default).s.length<=2 ^ 62/\ -9223372036854775808<=(T.getD q default).n/\(T.getD q default).n<=9223372036854775807
def rM: iG x0:=by simp[x0,iG,F3,v0]
def Jv{op:Int}{l:List Expr}(h:F3 l): iG (.mk op v0 [] l):=by simp[iG,v0,h]
def Xh{rd:Nat->Nat->RS}{l q:Nat}{b:Bool}(h:∀ l q,iG (rd l q).x): iG (oT rd l q b).x:=by
 unfold oT;split
 ·exact rM
 ·exact h _ _
def Zm{s:aS}{v:aH}(h:qS s=some v): v.s=[]/\0<=v.n/\v.n<=1:=by
 unfold qS at h;split at h
 ·cases h;exact⟨rfl,by decide,by decide⟩
 split at h
 ·cases h;exact⟨rfl,by decide,by decide⟩
 split at h
 ·cases h;exact⟨rfl,by decide,by decide⟩
 ·cases h
def abm{T:List cg}(hT:zk T){rd:Nat->Nat->RS}(h:∀ l q,iG (rd l q).x)(p:Nat): iG (jq rd T p).x:=by
 have hp:=hT p;unfold jq;split
 ·exact h 0 (p+1)
 split
 ·simp[uG,iG,F3];exact hp.2
 split
 ·simp[uG,iG,F3];exact hp.1
 split
 ·split
  ·rename_i v hv;have:=Zm hv;simp[uG,iG,F3,this.1];omega
  ·split
   ·simp[iG,F3,v0];exact hp.1
   ·exact rM
 ·exact rM
def aes{T:List cg}(hT:zk T)(f:Nat): ∀(m:Option Expr) (lvl p:Nat),(∀ x,m=some x->iG x)->iG (bV T f m lvl p).x:=by
 induction f with
 | zero=>intro m lvl p _;exact rM
 | succ f ih =>
   intro m lvl p hm;have h:∀ l q,iG (bV T f none l q).x:=fun l q=>ih none l q (fun x hx=>by cases hx);cases m with
   | none =>
     simp only[bV];split
     ·split
      ·exact Jv ⟨h _ _,Xh (rd:=fun l q=>bV T f none l q) h,Xh (rd:=fun l q=>bV T f none l q) h,trivial⟩
      ·exact h _ _
     split
     ·exact Jv ⟨h _ _,trivial⟩
     split
     ·exact abm hT h p
     split
     ·exact h _ _
     ·exact ih _ _ _ (fun x hx=>by cases hx;exact h _ _)
   | some x =>
     simp only[bV];split
     ·exact hm x rfl
     ·split
      ·exact Jv ⟨hm x rfl,h _ _,trivial⟩
      ·exact ih _ _ _ (fun y hy=>by cases hy;exact Jv ⟨hm x rfl,h _ _,trivial⟩)
def P2{T:List cg}(hT:zk T)(fr lvl:Int): iG (ez T fr lvl).1:=by
 unfold ez;split
 ·exact rM
 split
 ·exact rM
 ·exact aes hT _ _ _ _ (fun x hx=>by cases hx)
def U3(s:aS): (∀ c ∈ s,dZ c=true)-> ∀ v:Int,0<=v->v<=9223372036854775807-> ∀ n,tB s v=some n->0<=n/\n<=9223372036854775807:=by
 induction s with
 | nil=>intro _ v h1 h2 n h;simp only[tB]at h;cases h;exact⟨h1,h2⟩
 | cons c r ih =>
   intro hd v h1 h2 n h;have hc:=hd c (by simp);simp only[dZ,aC,decide_eq_true_eq]at hc;simp only[tB]at h;split at h
   ·cases h
   ·exact ih (fun c hc=>hd c (da _ hc)) _ (by omega) (by omega) n h
def N3{p:UInt8->Bool}(s:aS): ∀ c ∈ s.takeWhile p,p c=true:=by
 induction s with
 | nil=>intro c h;cases h
 | cons x r ih =>
   intro c h;rw[fg]at h;split at h
   ·rename_i hx;rcases List.mem_cons.1 h with rfl|h
    ·exact hx
    ·exact ih c h
   ·cases h
def ac8(s:aS): 0<=(i_ s).n/\(i_ s).n<=9223372036854775807:=by
 have e:∀ k,0<=(PR.err k).n/\(PR.err k).n<=9223372036854775807:=fun k=>by simp[PR.err]
 unfold i_;simp only;split
 ·unfold yI;split
  ·exact e _
  ·exact⟨by simp,by simp⟩
 split
 ·unfold nr;simp only;split
  ·exact e _
  ·split
   ·exact e _
   ·rename_i v hv;exact U3 _ (N3 s) 0 (by omega) (by omega) v hv
 split
 ·have : ∀ (r b : aS) (i : Nat), 0 <= (kj r b i).n /\ (kj r b i).n <= 9223372036854775807 := fun r b i => by
   fun_induction kj r b i<;>first|exact e _|assumption|exact⟨by simp,by simp⟩
  exact this _ _ _
 ·unfold rZ;split
  ·exact⟨by simp,by simp⟩
  ·exact e _
def ac9(f:Nat): ∀(s:aS) (pos:Nat) (acc:List cg),(∀ t ∈ acc,0<=t.n/\t.n<=9223372036854775807)-> ∀ t ∈ (su f s pos acc).1,0<=t.n/\t.n<=9223372036854775807:=by
 induction f with
 | zero=>intro s pos acc h;exact h
 | succ f ih =>
   intro s pos acc h;cases s with
   | nil=>exact h
   | cons c r =>
     rw[yJ];split
     ·exact ih r (pos+1) acc h
     ·split
      ·refine ih _ _ _ (fun t ht=>?_);rcases List.mem_append.1 ht with ht|ht
       ·exact h t ht
       ·simp only[List.mem_cons,List.not_mem_nil,or_false]at ht;subst ht;exact ac8 _
      ·intro t ht;cases ht
def Ar(s:aS): zk (bF s).1:=by
 intro q;have h1:=(nH s).2 q
 have h2:∀ t ∈ (bF s).1,0<=t.n/\t.n<=9223372036854775807:=by
  unfold bF;split
  ·intro t ht;cases ht
  ·exact ac9 _ _ _ _ (fun t ht=>by cases ht)
 refine⟨by omega,?_⟩;by_cases hq:q<(bF s).1.length
 ·have:=h2 _ (aO hq);omega
 ·rw[qh (by omega)];decide
def BI{T:List cg}(hT:zk T)(p:Nat)(b:Bool): iG (ij T p b).x/\fE (ij T p b).x<=1+4*T.length:=by
 unfold ij oT;split
 ·exact⟨rM,by simp[x0,fE,nY]⟩
 ·exact⟨P2 hT _ _,Bz T _ _⟩
def Zn{T:List cg}(hT:zk T)(hl:T.length<=2 ^ 50)(p:Nat)(b:Bool): F6 (eF T p b).t:=by
 have hx:∀ p b,iG (ij T p b).x/\fE (ij T p b).x<=2 ^ 60:=fun p b=>⟨(BI hT p b).1,by have:=(BI hT p b).2;omega⟩;have h0:iG x0/\fE x0<=2 ^ 60:=⟨rM,PO⟩;have h1:∀ k p b,F6 (qp k (ij T p b)).t:=fun k p b=>⟨hx p b,h0⟩;have h2:∀ lo,F6 (F9 T p lo).t:=fun lo=>⟨hx _ _,hx _ _⟩;unfold eF;split
 ·exact h1 _ _ _
 split
 ·exact h1 _ _ _
 split
 ·exact h1 _ _ _
 split
 ·exact h1 _ _ _
 split
 ·exact h2 _
 split
 ·exact h2 _
 ·exact h1 _ _ _
def Zo{T:List cg}(hT:zk T)(hl:T.length<=2 ^ 50)(f:Nat): ∀(acc:List Test) (p:Nat) (b:Bool),(∀ t ∈ acc,F6 t)->(∀ t ∈ (mO T f acc p b).ts,F6 t)/\(mO T f acc p b).ts.length<=acc.length+f:=by
 induction f with
 | zero=>intro acc p b h;exact⟨h,Nat.le_refl _⟩
 | succ f ih =>
   intro acc p b h
   have h2:∀ t ∈ acc++[(eF T p b).t],F6 t:=fun t ht=>by
    rcases List.mem_append.1 ht with ht|ht
    ·exact h t ht
    ·simp only[List.mem_cons,List.not_mem_nil,or_false]at ht;subst ht;exact Zn hT hl p b
   rw[pD];split
   ·have:=ih _ ((eF T p b).p+1) (eF T p b).bad h2;rw[List.length_append,List.length_cons,List.length_nil]at this;exact⟨this.1,by omega⟩
   ·exact⟨h2,by rw[List.length_append,List.length_cons,List.length_nil];omega⟩
def Lo(T:List cg)(n:Bool)(c:CS): (xR T n c).ts=c.ts:=by unfold xR;split<;>rfl
def Hz{T:List cg}(hT:zk T)(hl:T.length<=2 ^ 50): F7 ⟨false,mN T,(gK T).ts⟩:=by
 have:=Zo hT hl (T.length+1) [] (CH T) false (fun t ht=>by cases ht);unfold gK F7;rw[Lo];exact⟨by have:=this.2;simp only[List.length_nil]at this;dsimp only;omega,this.1⟩
def ac_{T:List cg}{n:Bool}{c:CS}(h:c.p<=T.length): (xR T n c).p<=T.length:=by
 unfold xR;split
 ·dsimp only[oS];split
  ·rename_i h;exact(kD h).1
  ·exact h
 ·exact h
def Tj(T:List cg): (gK T).p<=T.length:=ac_ (U2 _ _ _ _ (PY T))
def Zp{T:List cg}(f:Nat): ∀(acc:List Test) (p:Nat) (b:Bool),(mO T (f+1) acc p b).ts≠[]:=by
 induction f with
 | zero=>intro acc p b;rw[pD];split<;>simp[mO]
 | succ f ih=>intro acc p b;rw[pD];split<;>first|exact ih _ _ _|simp
def Zq(T:List cg): (gK T).ts≠[]:=by unfold gK;rw[Lo];exact Zp _ _ _ _
def c0: Cell:=⟨false,false,[]⟩
def zl: Cell:=⟨true,false,[]⟩
def fT(s:aS): Cell × Int × Int :=
 if(bF s).2.2≠0 then(c0,(bF s).2.1,(bF s).2.2)
 else if(bF s).1.length=1/\eG (bF s).1 0 false 4 [45]=true then(zl,0,0)
 else if(gK (bF s).1).p<(bF s).1.length then(c0,((bF s).1.getD (gK (bF s).1).p default).pos,11)
 else if(gK (bF s).1).bad=true then(c0,s.length,11)
 else if 12<(gK (bF s).1).ts.length then(c0,0,24)
 else if gW ⟨false,mN (bF s).1,(gK (bF s).1).ts⟩=false then(c0,0,12)
 else(⟨false,mN (bF s).1,(gK (bF s).1).ts⟩,0,0)
def P3(r:Cell × Int × Int): AV:= .bJ [bY r.1,I r.2.1,I r.2.2]
def Ee(s:aS): F7 (fT s).1:=by
 have h:=Hz (Ar s) (by have:=(nH s).1;omega);have h0:F7 c0:=⟨Nat.zero_le _,fun t ht=>by cases ht⟩;have h1:F7 zl:=⟨Nat.zero_le _,fun t ht=>by cases ht⟩;unfold fT;repeat' split
 all_goals first|exact h0|exact h1|exact h
def Tk{σ : ae}: View σ (.agg [.bool false,.bool false,.ai]) (bY c0):=View.n9 (.cons (.refl _ rfl) (.cons (.refl _ rfl) (.cons (.ai _) (.nil _))))
def Mx{σ : ae}: View σ (.agg [.bool true,.bool false,.ai]) (bY zl):=View.n9 (.cons (.refl _ rfl) (.cons (.refl _ rfl) (.cons (.ai _) (.nil _))))
def ada(T:List cg)(p:Nat): eG T p false 4 [45]=(tI T p==[45]):=by
 rw[uI T p false [45] (by decide),aW];simp
def U4(s:aS)(hs:s.length<=2 ^ 30): aF aD 110 [.str s] (P3 (fT s)):=by
 have cl:=Ta s hs;obtain⟨f1,f2⟩:=nH s;have cm:=Ec (bF s).1 0 false;have cr:=Xg (bF s).1 (by omega) (fun q=>by have:=f2 q;omega);have hok:=Hz (Ar s) (by omega);have cc:=BE _ hok;have s8:=Tj (bF s).1;have hd:=ada (bF s).1 0
 have hP:fT s=if(bF s).2.2≠0 then(c0,(bF s).2.1,(bF s).2.2)
  else if(bF s).1.length=1/\eG (bF s).1 0 false 4 [45]=true then(zl,0,0)
  else if(gK (bF s).1).p<(bF s).1.length then(c0,((bF s).1.getD (gK (bF s).1).p default).pos,11)
  else if(gK (bF s).1).bad=true then(c0,(s.length:Int),11)
  else if 12<(gK (bF s).1).ts.length then(c0,0,24)
  else if gW ⟨false,mN (bF s).1,(gK (bF s).1).ts⟩=false then(c0,0,12)
  else(⟨false,mN (bF s).1,(gK (bF s).1).ts⟩,0,0):=rfl
 rw[hP,hd];clear hP f2 hd hok;generalize gW ⟨false,mN (bF s).1,(gK (bF s).1).ts⟩=rb at *;generalize gK (bF s).1=r at *;generalize tI (bF s).1 0=mt at *;generalize mN (bF s).1=n at *;generalize bF s=L at *;obtain⟨T,la,le⟩:=L;obtain⟨rts,rp,U5⟩:=r;dsimp only at *;simp only[P3]at ⊢;simp only[Hs,pT]at cl;simp only[bN,Int.cast_ofNat_Int]at cm cr;simp only[bY,gG]at cr cc;have e1:∀ σ : ae,View σ (.agg [.bool false,.bool false,.ai]) (bY c0):=fun σ=>Tk;have e2:∀ σ : ae,View σ (.agg [.bool true,.bool false,.ai]) (bY zl):=fun σ=>Mx;have e3:∀ σ : ae,View σ (.agg [.bool false,.bool n,.aG false ES (rts.map bS)]) (bY ⟨false,n,rts⟩):=fun σ=>View.eqv rfl (yH _);by_cases h1:le≠0
 ·rw[if_pos h1];generalize bY c0=E at *;refine aK lR ?_;intro Q aq au aA;repeat' first|refine ak ?_|refine aj ?_ ?_<;>intro hw<;>try omega|fail
  all_goals exact cN (iU (e1 _))
 rw[if_neg h1];by_cases h2:T.length=1/\(mt==[45])=true
 ·rw[if_pos h2];generalize bY zl=E2 at *;obtain⟨h2,h3⟩:=h2;refine aK lR ?_;intro Q aq au aA;repeat' first|simp (disch:=omega) only[go_sem,aq,au,aA,h2,h3]|refine ak ?_|refine bh cm ?_|refine aj ?_ ?_<;>intro hw<;>try omega|fail
  all_goals first|exact cN (iU (e2 _))|exact aP
 rw[if_neg h2];by_cases h4:rp<T.length
 ·rw[if_pos h4];generalize bY c0=E at *;refine aK lR ?_;intro Q aq au aA;repeat' first|refine ak ?_|refine bh cm ?_|refine bh cr ?_|refine aj ?_ ?_<;>intro hw<;>try omega|fail
  all_goals first|exact cN (iU (e1 _))|exact aP
 rw[if_neg h4];by_cases h5:U5=true
 ·rw[if_pos h5];subst h5;generalize bY c0=E at *;refine aK lR ?_;intro Q aq au aA;repeat' first|refine ak ?_|refine bh cm ?_|refine bh cr ?_|refine aj ?_ ?_<;>intro hw<;>try omega|fail
  all_goals first|exact cN (iU (e1 _))|exact aP
 rw[if_neg h5];obtain rfl:U5=false:=by simpa using h5
 by_cases h6:12<rts.length
 ·rw[if_pos h6];generalize bY c0=E at *;refine aK lR ?_;intro Q aq au aA;repeat' first|refine ak ?_|refine bh cm ?_|refine bh cr ?_|refine aj ?_ ?_<;>intro hw<;>try omega|fail
  all_goals first|exact cN (iU (e1 _))|exact aP
 rw[if_neg h6];cases rb with
 | false =>
   rw[if_pos rfl];generalize bY c0=E at *;simp only[iz,aI,if_false]at cc;refine aK lR ?_;intro Q aq au aA;repeat' first|refine ak ?_|refine bh cm ?_|refine bh cr ?_|refine aj ?_ ?_<;>intro hw<;>try omega|fail
   all_goals first|exact cN (iU (e1 _))|exact aP
 | true =>
   rw[if_neg (by simp)];generalize bY ⟨false,n,rts⟩=E3 at *;simp only[iz,if_true]at cc;refine aK lR ?_;intro Q aq au aA;repeat' first|refine ak ?_|refine bh cm ?_|refine bh cr ?_|refine aj ?_ ?_<;>intro hw<;>try omega|fail
   all_goals first|exact cN (iU (e3 _))|exact aP
def kY: cY:=  .seq (.block 2 (.seq (.region [⟨.mv (.t 8),(some 103),none⟩,⟨.mc (.t 103),(some 104),none⟩,⟨.iD 1 (.t 104),(some 105),none⟩,⟨.load false 1 (.t 105),(some 106),none⟩,⟨.mv (.t 5),(some 107),none⟩,⟨.len false (.t 107),(some 108),none⟩,⟨.bin .lss (.t 106) (.t 108),(some 109),none⟩,⟨.mv (.t 109),(some 102),none⟩])<|
 .cond (.t 102) (.seq (.draw [⟨.build [(.bool false),(.bool false),.ai] [],(some 110),none⟩,⟨.mv (.t 5),(some 111),none⟩,⟨.mv (.t 8),(some 112),none⟩,⟨.mc (.t 112),(some 113),none⟩,⟨.iD 1 (.t 113),(some 114),none⟩,⟨.load false 1 (.t 114),(some 115),none⟩,⟨.fh ⟨true,4⟩ none (.t 111) (.t 115),(some 116),none⟩,⟨.iD 3 (.t 116),(some 117),none⟩,⟨.load false 1 (.t 117),(some 118),none⟩,⟨.store 3 (.t 2) (.t 110),none,none⟩,⟨.mv (.t 118),(some 3),none⟩,⟨.mv (.c (.int .i64 11)),(some 4),none⟩] [((.t 114),(.t 2)),((.t 117),(.t 2))])<|
 .ret) (.seq (.region [⟨.mv (.t 8),(some 120),none⟩,⟨.mc (.t 120),(some 121),none⟩,⟨.iD 2 (.t 121),(some 122),none⟩,⟨.load false 1 (.t 122),(some 123),none⟩,⟨.mv (.t 123),(some 119),none⟩])<|
 .cond (.t 119) (.seq (.region [⟨.build [(.bool false),(.bool false),.ai] [],(some 124),none⟩,⟨.mv (.t 0),(some 125),none⟩,⟨.len true (.t 125),(some 126),none⟩,⟨.store 3 (.t 2) (.t 124),none,none⟩,⟨.mv (.t 126),(some 3),none⟩,⟨.mv (.c (.int .i64 11)),(some 4),none⟩])<|
 .ret) (.seq (.region [⟨.iD 2 (.t 9),(some 128),none⟩,⟨.load false 1 (.t 128),(some 129),none⟩,⟨.len false (.t 129),(some 130),none⟩,⟨.bin .gtr (.t 130) (.c (.int .i64 12)),(some 131),none⟩,⟨.mv (.t 131),(some 127),none⟩])<|
 .cond (.t 127) (.seq (.region [⟨.build [(.bool false),(.bool false),.ai] [],(some 132),none⟩,⟨.store 3 (.t 2) (.t 132),none,none⟩,⟨.mv (.c (.int .i64 0)),(some 3),none⟩,⟨.mv (.c (.int .i64 24)),(some 4),none⟩])<|
 .ret) (.seq (.region [⟨.load true 3 (.t 9),(some 134),none⟩,⟨.call false (.c (.fn (.func 139) [] [])) [(.t 134)],(some 135),none⟩,⟨.un .not (.t 135),(some 136),none⟩,⟨.mv (.t 136),(some 133),none⟩])<|
 .cond (.t 133) (.seq (.region [⟨.build [(.bool false),(.bool false),.ai] [],(some 137),none⟩,⟨.store 3 (.t 2) (.t 137),none,none⟩,⟨.mv (.c (.int .i64 0)),(some 3),none⟩,⟨.mv (.c (.int .i64 12)),(some 4),none⟩])<|
 .ret) (.skip))))))<|
 .seq (.region [⟨.load true 3 (.t 9),(some 138),none⟩,⟨.store 3 (.t 2) (.t 138),none,none⟩,⟨.mv (.c (.int .i64 0)),(some 3),none⟩,⟨.mv (.c (.int .i64 0)),(some 4),none⟩])<|
 .ret
def uK: cY:=  .seq (.draw [⟨.iD 2 (.t 9),(some 68),none⟩,⟨.load false 1 (.t 68),(some 69),none⟩,⟨.mv (.t 8),(some 70),none⟩,⟨.n7 (.c (.fn (.func 137) [] [])) [(.t 70)],(some 71),none⟩,⟨.j7 false ⟨true,15⟩ (.agg [(.int .i64 0),(.int .i64 0),(.int .i64 0),(.int .i64 0),(.str []),(.str []),.ai,(.int .i64 0),(.int .i64 0),(.int .i64 0),(.str []),(.str []),.ai,(.bool false),(.bool false)]) 1 [(0,(.t 71))],(some 72),none⟩,⟨.app none ⟨true,15⟩ (.t 69) (.t 72),(some 73),none⟩,⟨.iD 2 (.t 9),(some 74),none⟩,⟨.store 1 (.t 74) (.t 73),none,none⟩] [((.t 68),(.t 70))])<|
 .seq (.block 0 (.loop (.seq (.seq (.region [⟨.mv (.t 8),(some 75),none⟩,⟨.call false (.c (.fn (.func 136) [] [])) [(.t 75),(.c (.str [44]))],(some 76),none⟩])<|
 .cond (.t 76) (.skip) (.exit 0))<|
 .block 1 (.seq (.region [⟨.mv (.t 8),(some 77),none⟩,⟨.mc (.t 77),(some 78),none⟩,⟨.iD 1 (.t 78),(some 79),none⟩,⟨.load false 1 (.t 79),(some 80),none⟩,⟨.bin .add (.t 80) (.c (.int .i64 1)),(some 81),none⟩,⟨.mc (.t 77),(some 82),none⟩,⟨.iD 1 (.t 82),(some 83),none⟩,⟨.store 1 (.t 83) (.t 81),none,none⟩])<|
 .draw [⟨.iD 2 (.t 9),(some 84),none⟩,⟨.load false 1 (.t 84),(some 85),none⟩,⟨.mv (.t 8),(some 86),none⟩,⟨.n7 (.c (.fn (.func 137) [] [])) [(.t 86)],(some 87),none⟩,⟨.j7 false ⟨true,15⟩ (.agg [(.int .i64 0),(.int .i64 0),(.int .i64 0),(.int .i64 0),(.str []),(.str []),.ai,(.int .i64 0),(.int .i64 0),(.int .i64 0),(.str []),(.str []),.ai,(.bool false),(.bool false)]) 1 [(0,(.t 87))],(some 88),none⟩,⟨.app none ⟨true,15⟩ (.t 85) (.t 88),(some 89),none⟩,⟨.iD 2 (.t 9),(some 90),none⟩,⟨.store 1 (.t 90) (.t 89),none,none⟩] [((.t 84),(.t 86))]))))<|
 .seq (.seq (.region [⟨.iD 1 (.t 9),(some 91),none⟩,⟨.load false 1 (.t 91),(some 92),none⟩,⟨.mv (.t 92),(some 93),none⟩,⟨.mv (.t 8),(some 94),some (93,true)⟩,⟨.mc (.t 94),(some 95),some (93,true)⟩,⟨.iD 2 (.t 95),(some 96),some (93,true)⟩,⟨.load false 1 (.t 96),(some 97),some (93,true)⟩,⟨.un .not (.t 97),(some 98),some (93,true)⟩,⟨.pick (.t 93) (.t 98) (.c (.bool false)),(some 99),none⟩])<|
 .cond (.t 99) (.region [⟨.mv (.t 8),(some 100),none⟩,⟨.call false (.c (.fn (.func 138) [] [])) [(.t 100),(.c (.str [41]))],(some 101),none⟩]) (.skip))<|
 kY
def Jw: rX=(.seq (.region [⟨.alloc none [(.bool false),(.bool false),.ai],(some 2),none⟩,⟨.mv (.c (.int .i64 0)),(some 3),none⟩,⟨.mv (.c (.int .i64 0)),(some 4),none⟩])<|
 .seq (.region [⟨.mv (.t 0),(some 11),none⟩,⟨.call false (.c (.fn (.func 135) [] [])) [(.t 11)],(some 12),none⟩,⟨.mv (.t 12),(some 10),none⟩,⟨.ext (.t 10) 0,(some 13),none⟩,⟨.ext (.t 10) 1,(some 14),none⟩,⟨.ext (.t 10) 2,(some 15),none⟩,⟨.mv (.t 13),(some 5),none⟩,⟨.mv (.t 14),(some 6),none⟩,⟨.mv (.t 15),(some 7),none⟩])<|
 .seq (.seq (.region [⟨.mv (.t 7),(some 16),none⟩,⟨.bin .neq (.t 16) (.c (.int .i64 0)),(some 17),none⟩])<|
 .cond (.t 17) (.seq (.region [⟨.build [(.bool false),(.bool false),.ai] [],(some 18),none⟩,⟨.mv (.t 6),(some 19),none⟩,⟨.mv (.t 7),(some 20),none⟩,⟨.store 3 (.t 2) (.t 18),none,none⟩,⟨.mv (.t 19),(some 3),none⟩,⟨.mv (.t 20),(some 4),none⟩])<|
 .ret) (.skip))<|
 .seq (.region [⟨.mv (.t 5),(some 21),none⟩,⟨.build [.ai,(.int .i64 0),(.bool false)] [(0,1,(.t 21))],(some 22),none⟩,⟨.box (.t 22),(some 23),none⟩,⟨.mv (.t 23),(some 8),none⟩])<|
 .seq (.seq (.region [⟨.mv (.t 5),(some 24),none⟩,⟨.len false (.t 24),(some 25),none⟩,⟨.bin .eql (.t 25) (.c (.int .i64 1)),(some 26),none⟩,⟨.mv (.t 26),(some 27),none⟩,⟨.mv (.t 8),(some 28),some (27,true)⟩,⟨.call false (.c (.fn (.func 136) [] [])) [(.t 28),(.c (.str [45]))],(some 29),some (27,true)⟩,⟨.pick (.t 27) (.t 29) (.c (.bool false)),(some 30),none⟩])<|
 .cond (.t 30) (.seq (.region [⟨.build [(.bool false),(.bool false),.ai] [(0,1,(.c (.bool true)))],(some 31),none⟩,⟨.store 3 (.t 2) (.t 31),none,none⟩,⟨.mv (.c (.int .i64 0)),(some 3),none⟩,⟨.mv (.c (.int .i64 0)),(some 4),none⟩])<|
 .ret) (.skip))<|
 .seq (.region [⟨.build [(.bool false),(.bool false),.ai] [],(some 32),none⟩,⟨.alloc none [(.bool false),(.bool false),.ai],(some 9),none⟩,⟨.store 3 (.t 9) (.t 32),none,none⟩])<|
 .seq (.seq (.region [⟨.mv (.t 5),(some 33),none⟩,⟨.len false (.t 33),(some 34),none⟩,⟨.bin .gtr (.t 34) (.c (.int .i64 1)),(some 35),none⟩,⟨.mv (.t 35),(some 36),none⟩,⟨.mv (.t 5),(some 37),some (36,true)⟩,⟨.fh ⟨true,4⟩ none (.t 37) (.c (.int .i64 0)),(some 38),some (36,true)⟩,⟨.iD 0 (.t 38),(some 39),some (36,true)⟩,⟨.load false 1 (.t 39),(some 40),some (36,true)⟩,⟨.bin .eql (.t 40) (.c (.int .i64 1)),(some 41),some (36,true)⟩,⟨.pick (.t 36) (.t 41) (.c (.bool false)),(some 42),none⟩,⟨.mv (.t 42),(some 43),none⟩,⟨.mv (.t 5),(some 44),some (43,true)⟩,⟨.fh ⟨true,4⟩ none (.t 44) (.c (.int .i64 0)),(some 45),some (43,true)⟩,⟨.iD 1 (.t 45),(some 46),some (43,true)⟩,⟨.load false 1 (.t 46),(some 47),some (43,true)⟩,⟨.bin .eql (.t 47) (.c (.str [110,111,116])),(some 48),some (43,true)⟩,⟨.pick (.t 43) (.t 48) (.c (.bool false)),(some 49),none⟩,⟨.mv (.t 49),(some 50),none⟩,⟨.mv (.t 5),(some 51),some (50,true)⟩,⟨.fh ⟨true,4⟩ none (.t 51) (.c (.int .i64 1)),(some 52),some (50,true)⟩,⟨.iD 0 (.t 52),(some 53),some (50,true)⟩,⟨.load false 1 (.t 53),(some 54),some (50,true)⟩,⟨.bin .eql (.t 54) (.c (.int .i64 4)),(some 55),some (50,true)⟩,⟨.pick (.t 50) (.t 55) (.c (.bool false)),(some 56),none⟩,⟨.mv (.t 56),(some 57),none⟩,⟨.mv (.t 5),(some 58),some (57,true)⟩,⟨.fh ⟨true,4⟩ none (.t 58) (.c (.int .i64 1)),(some 59),some (57,true)⟩,⟨.iD 1 (.t 59),(some 60),some (57,true)⟩,⟨.load false 1 (.t 60),(some 61),some (57,true)⟩,⟨.bin .eql (.t 61) (.c (.str [40])),(some 62),some (57,true)⟩,⟨.pick (.t 57) (.t 62) (.c (.bool false)),(some 63),none⟩])<|
 .cond (.t 63) (.seq (.region [⟨.iD 1 (.t 9),(some 64),none⟩,⟨.store 1 (.t 64) (.c (.bool true)),none,none⟩])<|
 .region [⟨.mv (.t 8),(some 65),none⟩,⟨.mc (.t 65),(some 66),none⟩,⟨.iD 1 (.t 66),(some 67),none⟩,⟨.store 1 (.t 67) (.c (.int .i64 2)),none,none⟩]) (.skip))<|
 uK):=rfl
def As{P:Program}{c:cY}{Q:AQ}{S:ae}{e:Env}(cs:List (Nat × AV))(hr:∀ r,iu P c Q (puts cs r) S)(gV:At cs e): iu P c Q e S:=by
 have:=hr e;rwa[Li cs gV]at this
def U6(T:List cg)(f:Nat)(acc:List Test)(p:Nat)(b:Bool): CS:=if eG T p b 4 [44]then mO T f acc (p+1) b else⟨acc,p,b⟩
def Gc(T:List cg)(f:Nat)(acc:List Test)(p:Nat)(b:Bool): mO T (f+1) acc p b=U6 T f (acc++[(eF T p b).t]) (eF T p b).p (eF T p b).bad:=rfl
def stP(T:List cg)(n:Bool)(p:Nat)(b:Bool)(t:Test)(acc:List Test): ae :=
 [.cells [.bool false,.bool false,.ai],.cells [.aG false ET (T.map lT),I p,.bool b],.cells [.bool false,.bool n,.own ES 3 (acc.length+1) 0 (acc.length+1)],.vec ES (bS t::acc.map bS)]
def adb(T:List cg)(n:Bool)(p:Nat)(b:Bool)(t:Test)(acc:List Test): stP T n p b t acc =
 [.cells [.bool false,.bool false,.ai],.cells [.aG false ET (T.map lT),I p,.bool b],.cells [.bool false,.bool n,.own ES 3 (acc.length+1) 0 (acc.length+1)],.vec ES (bS t::acc.map bS)]:=rfl
structure Lp2 where
 t:Test
 acc:List Test
 p:Nat
 b:Bool
 f:Nat
def Gd(s:aS)(hs:s.length<=2 ^ 30): aF aD 84 [.str s] (P3 (fT s)):=by
 have cl:=Mq s hs;obtain⟨f1,f2⟩:=nH s;obtain⟨od,hod⟩:∃ o,eG (bF s).1 0 false 4 [45]=o:=⟨_,rfl⟩;have cm:=pC (bF s).1 0 false [45] od hod;have hok:=Hz (Ar s) (by omega);have cc:=zj _ hok;have s8:=Tj (bF s).1;have hne:=Zq (bF s).1;have hR:xR (bF s).1 (mN (bF s).1) (mO (bF s).1 ((bF s).1.length+1) [] (CH (bF s).1) false)=gK (bF s).1:=rfl;have Jm:=PY (bF s).1;have e0:CH (bF s).1=if mN (bF s).1 then 2 else 0:=rfl
 have hP:fT s=if(bF s).2.2≠0 then(c0,(bF s).2.1,(bF s).2.2)
  else if(bF s).1.length=1/\eG (bF s).1 0 false 4 [45]=true then(zl,0,0)
  else if(gK (bF s).1).p<(bF s).1.length then(c0,((bF s).1.getD (gK (bF s).1).p default).pos,11)
  else if(gK (bF s).1).bad=true then(c0,(s.length:Int),11)
  else if 12<(gK (bF s).1).ts.length then(c0,0,24)
  else if gW ⟨false,mN (bF s).1,(gK (bF s).1).ts⟩=false then(c0,0,12)
  else(⟨false,mN (bF s).1,(gK (bF s).1).ts⟩,0,0):=rfl
 rw[hP,hod];clear hP hok;have hnt:mN (bF s).1=(decide (1<(bF s).1.length) && (jA (bF s).1 0 1 PX && jA (bF s).1 1 4 [40])):=rfl;generalize gW ⟨false,mN (bF s).1,(gK (bF s).1).ts⟩=rb at *;generalize gK (bF s).1=R at *;generalize mN (bF s).1=n at *;generalize bF s=L at *;obtain⟨T,la,le⟩:=L;dsimp only at *;have hTs:∀ q,(T.getD q default).s.length<=2 ^ 62:=fun q=>by have:=f2 q;omega
 clear f2;simp only[P3]at ⊢;simp only[Hs,pT]at cl;simp only[bN,Int.cast_ofNat_Int]at cm;simp only[bY,gG]at cc;have e1:∀ σ : ae,View σ (.agg [.bool false,.bool false,.ai]) (bY c0):=fun σ=>Tk;have e2:∀ σ : ae,View σ (.agg [.bool true,.bool false,.ai]) (bY zl):=fun σ=>Mx;by_cases h1:le≠0
 ·rw[if_pos h1];generalize bY c0=E at *;refine aK uy ?_;unfold rX;intro Q aq au aA;repeat' first|refine ak ?_|refine aj ?_ ?_<;>intro hw<;>try omega|fail
  all_goals exact cN (iU (e1 _))
 rw[if_neg h1];by_cases h2:T.length=1/\od=true
 ·rw[if_pos h2];generalize bY zl=E2 at *;obtain⟨h2,rfl⟩:=h2;refine aK uy ?_;unfold rX;intro Q aq au aA;repeat' first|simp (disch:=omega) only[go_sem,aq,au,aA,h2]|refine ak ?_|refine bh cm ?_|refine aj ?_ ?_<;>intro hw<;>try omega|fail
  all_goals first|exact cN (iU (e2 _))|exact aP
 rw[if_neg h2];refine aF.On (uy.go ?_) (by simp);unfold cj;intro Q aq au aA;rw[Jw]
 have wF:∀ (r:Env),iu aD kY Q (puts [(0,.str s),(2,.ref 0 0),(5,.aG false ET (T.map lT)),(8,.ref 1 0),(9,.ref 2 0)] r) [.cells [.bool false,.bool false,.ai],.cells [.aG false ET (T.map lT),I R.p,.bool R.bad],.cells [.bool false,.bool n,.own ES 3 R.ts.length 0 R.ts.length],.vec ES (R.ts.map bS)]:=by
  intro r;clear hR cm cl hod h2 hnt e0 Jm;obtain⟨rts,rp,U5⟩:=R;dsimp only at *;have e3:∀ σ : ae,σ[3]? = some (.vec ES (rts.map bS))->View σ (.agg [.bool false,.bool n,.own ES 3 rts.length 0 rts.length]) (bY ⟨false,n,rts⟩):=fun σ h=>Mw rfl h;by_cases h4:rp<T.length
  ·simp only[if_pos h4]at aq au aA;generalize bY c0=E at *;unfold kY;repeat' first|refine ak ?_|refine aj ?_ ?_<;>intro hw<;>try omega|fail
   all_goals first|exact cN (iU (e1 _))|exact aP
  simp only[if_neg h4]at aq au aA;cases U5 with
  | true =>
    simp only[if_true]at aq au aA;generalize bY c0=E at *;unfold kY;repeat' first|refine ak ?_|refine aj ?_ ?_<;>intro hw<;>try omega|fail
    all_goals first|exact cN (iU (e1 _))|exact aP
  | false =>
    simp only[aI,if_false]at aq au aA;by_cases h6:12<rts.length
    ·simp only[if_pos h6]at aq au aA;generalize bY c0=E at *;unfold kY;repeat' first|refine ak ?_|refine aj ?_ ?_<;>intro hw<;>try omega|fail
     all_goals first|exact cN (iU (e1 _))|exact aP
    simp only[if_neg h6]at aq au aA;cases rb with
    | false =>
      simp only[if_true]at aq au aA;generalize bY c0=E at *;unfold kY;repeat' first|refine ak ?_|refine Cx cc ?_|refine aj ?_ ?_<;>intro hw<;>try omega|fail
      all_goals first|exact cN (iU (e1 _))|exact aP
    | true =>
      simp only[ik,if_false]at aq au aA;generalize bY ⟨false,n,rts⟩=E3 at *;unfold kY;repeat' first|refine ak ?_|refine Cx cc ?_|refine aj ?_ ?_<;>intro hw<;>try omega|fail
      all_goals first|exact cN (iU (e3 _ rfl))|exact aP
 clear cc e1 e2
 have Jx:∀ (r:Env),iu aD uK Q (puts [(0,.str s),(2,.ref 0 0),(5,.aG false ET (T.map lT)),(8,.ref 1 0),(9,.ref 2 0)] r) [.cells [.bool false,.bool false,.ai],.cells [.aG false ET (T.map lT),I (CH T),.bool false],.cells [.bool false,.bool n,.ai]]:=by
  intro r;clear cl cm hod h2 hnt e0;rw[Gc,dP]at hR;have ct:=Gb T (CH T) false Jm (by omega) hTs;have gt:=yO (T:=T) (b:=false) Jm;generalize eF T (CH T) false=x at *;obtain⟨xt,xp,xb⟩:=x;dsimp only at ct gt hR;generalize CH T=p0 at *;have et:bS xt = .agg [I xt.kind,I xt.a.op,I xt.a.v.kind,I xt.a.v.n,.str xt.a.v.s,.str xt.a.s,.aG false EX (xt.a.l.map aJ),I xt.b.op,I xt.b.v.kind,I xt.b.v.n,.str xt.b.v.s,.str xt.b.s,.aG false EX (xt.b.l.map aJ),.bool xt.lo,.bool xt.hi]:=rfl;rw[et]at ct;simp only[bN]at ct;unfold uK;repeat' first|refine ak ?_|refine bh ct ?_|refine aj ?_ ?_<;>intro hw<;>try omega|fail
  with_reducible refine aX [75,76,77,78,79,80,81,82,83,84,85,86,87,88,89,90] (fun x:Lp2=>([]:List (Nat × AV))) (fun x=>stP T n x.p x.b x.t x.acc) (fun x=>x.p<=T.length/\x.acc.length+x.f=T.length/\T.length<=x.f+x.p/\xR T n (U6 T x.f (x.t::x.acc) x.p x.b)=R) (fun x=>x.f) ⟨xt,[],xp,xb,T.length⟩ ⟨gt.2,by simp,by simp,hR⟩ rfl ?_ ?_
  ·exact at_
  clear ct hR;rintro⟨t0,acc,p,b,f⟩ r ⟨h1,h2,h3,h4⟩;dsimp only at h1 h2 h3 h4;obtain⟨o,ho⟩:∃ o,eG T p b 4 [44]=o:=⟨_,rfl⟩;have CJ:=pC T p b [44] o ho;unfold U6 at h4;rw[ho]at h4;have et0:bS t0 = .agg [I t0.kind,I t0.a.op,I t0.a.v.kind,I t0.a.v.n,.str t0.a.v.s,.str t0.a.s,.aG false EX (t0.a.l.map aJ),I t0.b.op,I t0.b.v.kind,I t0.b.v.n,.str t0.b.v.s,.str t0.b.s,.aG false EX (t0.b.l.map aJ),.bool t0.lo,.bool t0.hi]:=rfl;simp only[bN]at CJ;rw[adb T n p b];cases o with
  | true =>
    have hlt:=kD ho;obtain⟨f,rfl⟩:∃ g,f=g+1:=⟨f-1,by omega⟩;rw[if_pos rfl,Gc]at h4;have ct:=Gb T (p+1) b hlt.1 (by omega) hTs;have gt:=yO (T:=T) (p:=p+1) (b:=b) hlt.1;generalize eF T (p+1) b=x at *;obtain⟨xt,xp,xb⟩:=x;dsimp only at ct gt h4;have et:bS xt = .agg [I xt.kind,I xt.a.op,I xt.a.v.kind,I xt.a.v.n,.str xt.a.v.s,.str xt.a.s,.aG false EX (xt.a.l.map aJ),I xt.b.op,I xt.b.v.kind,I xt.b.v.n,.str xt.b.v.s,.str xt.b.s,.aG false EX (xt.b.l.map aJ),.bool xt.lo,.bool xt.hi]:=rfl;rw[et]at ct;simp only[bN,Int.natCast_add,Int.cast_ofNat_Int]at ct;repeat' first|simp (disch:=omega) only[go_sem,aq,au,aA,Int.natCast_add,Int.cast_ofNat_Int]|refine ak ?_|refine bh CJ ?_|refine bh ct ?_|refine aj ?_ ?_<;>intro hw<;>try omega|fail
    refine⟨⟨t0,acc++[xt],xp,xb,f⟩,?_,?_,?_,bK,at_⟩<;>(try dsimp only)
    ·exact⟨gt.2,by simp only[List.length_append,List.length_cons,List.length_nil];omega,by omega,h4⟩
    ·omega
    ·simp[stP,bS,cH]
  | false =>
    rw[if_neg (by simp)]at h4;have cmu:=BG T p b [41] (by omega)
    have BH:(n=false\/b=true)\/(n=true/\b=false):=by
     cases n with
     | false=>exact .inl (.inl rfl)
     | true => cases b with
       | false=>exact .inr ⟨rfl,rfl⟩
       | true=>exact .inl (.inr rfl)
    rcases BH with BH|⟨rfl,rfl⟩
    ·have h5 : (⟨t0 :: acc, p, b⟩ : CS) = R := by
      rw[<-h4];unfold xR;cases n with
      | false=>rfl
      | true =>
        rcases BH with h|h
        ·cases h
        ·subst h;have oA:eG T p true 4 [41]=false:=rfl;rw[if_pos rfl];dsimp only;unfold oS;rw[oA];rfl
     subst h5;rw[show (t0::acc).map bS=bS t0::acc.map bS from rfl,et0]at wF;simp only[List.length_cons]at wF;have hnb:(n && !b)=false:=by rcases BH with rfl|rfl<;>simp
     cases n with
     | false =>
       repeat' first|refine ak ?_|refine bh CJ ?_|refine aj ?_ ?_<;>intro hw<;>try omega|fail
       all_goals first|exact As _ wF at_|exact aP
     | true =>
       obtain rfl:b=true:=by simpa using BH
       repeat' first|refine ak ?_|refine bh CJ ?_|refine aj ?_ ?_<;>intro hw<;>try omega|fail
       all_goals first|exact As _ wF at_|exact aP
    ·simp only[xR,if_true]at h4;subst h4;dsimp only at wF;rw[show (t0::acc).map bS=bS t0::acc.map bS from rfl,et0]at wF;simp only[List.length_cons]at wF;generalize oS T p false 4 [41]=p9 at *;generalize (false || !(eG T p false 4 [41]))=b9 at *;simp only[bN]at cmu;repeat' first|refine ak ?_|refine bh CJ ?_|refine bh cmu ?_|refine aj ?_ ?_<;>intro hw<;>try omega|fail
     all_goals first|exact As _ wF at_|exact aP
 clear wF hR hne s8;by_cases hn:n=true
 ·subst hn;rw[if_pos rfl]at e0;rw[e0]at Jx
  symm at hnt
  simp only[aC,decide_eq_true_eq,jA,PX]at hnt;obtain⟨q1,⟨q2,q3,q4⟩,q5,q6,q7⟩:=hnt;have FW:¬ T.length=1:=by omega
  repeat' first|simp (disch:=omega) only[go_sem,aq,au,aA,q3,q4,q6,q7]|refine ak ?_|refine aj ?_ ?_<;>intro hw<;>try omega|fail
  all_goals first|exact As _ Jx at_|exact aP
 ·obtain rfl:n=false:=by simpa using hn
  rw[if_neg (by simp)]at e0;rw[e0]at Jx
  have agj:1<T.length->(T.getD 0 default).kind=1->(T.getD 0 default).s=[110,111,116]->(T.getD 1 default).kind=4->(T.getD 1 default).s=[40]->False:=fun q1 q2 q3 q4 q5=>by
   have q0:0<T.length:=by omega
   rw[decide_eq_true q1]at hnt;simp only[jA,PX,q0,q1,q2,q3,q4,q5]at hnt;simp at hnt
  by_cases FW:T.length=1
  ·obtain rfl : od = false := by
    cases od with
    | false=>rfl
    | true=>exact absurd ⟨FW,rfl⟩ h2
   repeat' first|refine ak ?_|refine bh cm ?_|refine aj ?_ ?_<;>intro hw<;>try omega|fail
   all_goals first|exact As _ Jx at_|exact aP
  ·repeat' first|refine ak ?_|refine aj ?_ ?_<;>intro hw<;>try omega|fail
   all_goals first|exact As _ Jx at_|(exact(agj (by omega) (by assumption) (by assumption) (by assumption) (by assumption)).elim)|exact aP
