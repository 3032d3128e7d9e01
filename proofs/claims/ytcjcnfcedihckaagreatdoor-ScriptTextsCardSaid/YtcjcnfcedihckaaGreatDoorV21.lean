/- Part. -/
import Derived.Test.YtcjcnfcedihckaaGreatDoorV20
set_option linter.all false
set_option maxHeartbeats 1000000
namespace Go.Proofs.YtcjcnfcedihckaaGreatDoor
open Go.AM
set_option maxRecDepth 4000
def lE: aG:=[110,117,108,108]
def jO: aG:=[116,114,117,101]
def jh: aG:=[102,97,108,115,101]
def GF(T:List Tok)(p:Nat): bC aE 298 0 [] (bH T p true) (bH T p true) (aI x0):=by
 generalize hE:aI x0=E;refine bC.cC (dM.go ?_) rfl (aQ _ _ _);unfold dS;intro Q au aA aB;repeat' first|refine aq ?_|refine ak ?_ ?_<;>intro hw<;>try omega|fail
 exact cu (by rw[<-hE];exact iR (.ai _)) (bf.refl (aQ T p true))
def OM (T : List Tok) (p : Nat) (rd : Nat -> Nat -> RS) (hp : p <= T.length) (hT : T.length <= 2 ^ 60) (hs : ∀ q, (T.getD q default).s.length <= 2 ^ 62)
    (hrd:iC T p 4 [40]=true->mP T 276 rd 0 (p+1)/\(rd 0 (p+1)).p<=T.length) :
    bC aE 298 0 [] (bH T p false) (bH T (iQ rd T p).p (iQ rd T p).bad) (aI (iQ rd T p).x):=by
 by_cases hlt:p<T.length
 case neg =>
  have hno:iC T p 4 [40]=false:=by
   cases h:iC T p 4 [40]with
   | false=>rfl
   | true=>exact absurd (jM h) hlt
  have ha:iQ rd T p=⟨x0,p,true⟩:=by
   unfold iQ;rw[hno,my (by omega)];rfl
  rw[ha];dsimp only;generalize hE:aI x0=E;refine bC.cC (dM.go ?_) rfl (aQ _ _ _);unfold dS;intro Q au aA aB;repeat' first|refine aq ?_|refine ak ?_ ?_<;>intro hw<;>try omega|fail
  exact cu (by rw[<-hE];exact iR (.ai _)) (bf.refl (aQ T p true))
 have hsp:=hs p
 have Z5:∀ k s,iC T p k s=(decide ((T.getD p default).kind=k) && decide ((T.getD p default).s=s)):=fun k s=>by
  unfold iC;rw[decide_eq_true hlt,Bool.true_and]
 have ci:=fun k s o h=>pY T p false k s o h;simp only[Z5]at hrd ci
 have ha:iQ rd T p=if(decide ((T.getD p default).kind=4) && decide ((T.getD p default).s=[40]))=true then gW T (rd 0 (p+1)) 4 [41]else
  (if(T.getD p default).kind=2 then sS ⟨1,(T.getD p default).n,[]⟩ (p+1)
  else if(T.getD p default).kind=3 then sS ⟨2,0,(T.getD p default).s⟩ (p+1)
  else if(T.getD p default).kind=1 then
   (match pg (T.getD p default).s with
   | some v=>sS v (p+1)
   | none=>if fc (T.getD p default).s then⟨.mk 2 v0 (T.getD p default).s [],p+1,false⟩else ⟨x0,p,true⟩)
  else⟨x0,p,true⟩:RS):=by unfold iQ;rw[Z5]<;>rfl
 rw[ha];clear ha hs Z5;obtain⟨t,ht⟩:∃ t,T.getD p default=t:=⟨_,rfl⟩;rw[ht]at hrd ci hsp ⊢;obtain⟨tk,ts,tn,tp⟩:=t;simp only at hrd ci hsp ⊢;have hname:=rG ts hsp;by_cases rI:(decide (tk=4) && decide (ts=[40]))=true
 ·rw[if_pos rI];obtain⟨hr,hb⟩:=hrd rI;simp only[aD,decide_eq_true_eq]at rI;obtain⟨rfl,rfl⟩:=rI;have c1:=ci 1 lE false (by simp);have c2:=ci 1 jO false (by simp);have c3:=ci 1 jh false (by simp);have c4:=ci 4 [40] true (by simp);unfold mP at hr;generalize rd 0 (p+1)=r at *;have hm:=zw T r.p r.bad 4 [41] (by omega);generalize hE:aI (gW T r 4 [41]).x=E;have PO:aI r.x=E:=hE;rw[aO]at hr PO;simp only[bH,lE,jO,jh,Int.natCast_add,Int.cast_ofNat_Int]at c1 c2 c3 c4 hr hm;refine bC.cC (dM.go ?_) rfl (aQ _ _ _);unfold dS;intro Q au aA aB;repeat' first|simp (disch:=omega) only[go_sem,au,aA,aB,ht,Int.natCast_add,Int.cast_ofNat_Int]|refine aq ?_|refine bw c1 ?_|refine bw c2 ?_|refine bw c3 ?_|refine bw c4 ?_|refine bw hr ?_|refine bw hm ?_|refine ak ?_ ?_<;>intro hw<;>try omega|fail
  exact cu (by rw[<-PO];exact View.refl _ (by simp)) (bf.refl (aQ _ _ _))
 rw[if_neg rI];have LD:(decide (tk=4) && decide (ts=[40]))=false:=by simpa using rI
 have c4:=ci 4 [40] false LD;clear hrd rI;by_cases h2:tk=2
 ·rw[if_pos h2];generalize hE:aI _=E;refine bC.cC (dM.go ?_) rfl (aQ _ _ _);unfold dS;intro Q au aA aB;repeat' first|simp (disch:=omega) only[go_sem,au,aA,aB,ht]|refine aq ?_|refine ak ?_ ?_<;>intro hw<;>try omega|fail
  exact cu (by rw[<-hE];exact iR (.ai _)) (bf.eqv rfl (aQ T (p+1) false))
 rw[if_neg h2];by_cases h3:tk=3
 ·rw[if_pos h3];generalize hE:aI _=E;refine bC.cC (dM.go ?_) rfl (aQ _ _ _);unfold dS;intro Q au aA aB;repeat' first|simp (disch:=omega) only[go_sem,au,aA,aB,ht]|refine aq ?_|refine ak ?_ ?_<;>intro hw<;>try omega|fail
  exact cu (by rw[<-hE];exact iR (.ai _)) (bf.eqv rfl (aQ T (p+1) false))
 rw[if_neg h3];by_cases h1:tk=1
 case neg =>
  rw[if_neg h1];have c1:=ci 1 lE false (by simp[h1]);have c2:=ci 1 jO false (by simp[h1]);have c3:=ci 1 jh false (by simp[h1]);simp only[bH,lE,jO,jh]at c1 c2 c3 c4;generalize hE:aI _=E;refine bC.cC (dM.go ?_) rfl (aQ _ _ _);unfold dS;intro Q au aA aB;repeat' first|simp (disch:=omega) only[go_sem,au,aA,aB,ht]|refine aq ?_|refine bw c1 ?_|refine bw c2 ?_|refine bw c3 ?_|refine bw c4 ?_|refine ak ?_ ?_<;>intro hw<;>try omega|fail
  exact cu (by rw[<-hE];exact iR (.ai _)) (bf.eqv rfl (aQ T p true))
 rw[if_pos h1];have cb:∀ s b,decide (ts=s)=b->(decide (tk=1) && decide (ts=s))=b:=fun s b h=>by rw[decide_eq_true h1,c_,h]
 by_cases w1:ts=lE
 ·have hw:pg ts=some v0:=by rw[w1];rfl
  rw[hw];dsimp only;have c1:=ci 1 lE true (cb _ _ (decide_eq_true w1));simp only[bH,lE]at c1;generalize hE:aI _=E;refine bC.cC (dM.go ?_) rfl (aQ _ _ _);unfold dS;intro Q au aA aB;repeat' first|simp (disch:=omega) only[go_sem,au,aA,aB,ht]|refine aq ?_|refine bw c1 ?_|refine ak ?_ ?_<;>intro hw<;>try omega|fail
  exact cu (by rw[<-hE];exact iR (.ai _)) (bf.eqv rfl (aQ T (p+1) false))
 have c1:=ci 1 lE false (cb _ _ (decide_eq_false w1));by_cases w2:ts=jO
 ·have hw:pg ts=some ⟨3,1,[]⟩:=by rw[w2];rfl
  rw[hw];dsimp only;have c2:=ci 1 jO true (cb _ _ (decide_eq_true w2));simp only[bH,lE,jO]at c1 c2;generalize hE:aI _=E;refine bC.cC (dM.go ?_) rfl (aQ _ _ _);unfold dS;intro Q au aA aB;repeat' first|simp (disch:=omega) only[go_sem,au,aA,aB,ht]|refine aq ?_|refine bw c1 ?_|refine bw c2 ?_|refine ak ?_ ?_<;>intro hw<;>try omega|fail
  exact cu (by rw[<-hE];exact iR (.ai _)) (bf.eqv rfl (aQ T (p+1) false))
 have c2:=ci 1 jO false (cb _ _ (decide_eq_false w2));by_cases w3:ts=jh
 ·have hw:pg ts=some ⟨3,0,[]⟩:=by rw[w3];rfl
  rw[hw];dsimp only;have c3:=ci 1 jh true (cb _ _ (decide_eq_true w3));simp only[bH,lE,jO,jh]at c1 c2 c3;generalize hE:aI _=E;refine bC.cC (dM.go ?_) rfl (aQ _ _ _);unfold dS;intro Q au aA aB;repeat' first|simp (disch:=omega) only[go_sem,au,aA,aB,ht]|refine aq ?_|refine bw c1 ?_|refine bw c2 ?_|refine bw c3 ?_|refine ak ?_ ?_<;>intro hw<;>try omega|fail
  exact cu (by rw[<-hE];exact iR (.ai _)) (bf.eqv rfl (aQ T (p+1) false))
 have c3:=ci 1 jh false (cb _ _ (decide_eq_false w3))
 have hw:pg ts=none:=by
  exact(if_neg w1).trans ((if_neg w3).trans (if_neg w2))
 rw[hw];dsimp only;clear w1 w2 w3 hw cb ci;simp only[bH,lE,jO,jh]at c1 c2 c3 c4;cases hn:fc ts with
 | true =>
   rw[hn]at hname;simp only[if_true];generalize hE:aI _=E;refine bC.cC (dM.go ?_) rfl (aQ _ _ _);unfold dS;intro Q au aA aB;repeat' first|simp (disch:=omega) only[go_sem,au,aA,aB,ht]|refine aq ?_|refine bw c1 ?_|refine bw c2 ?_|refine bw c3 ?_|refine bw c4 ?_|refine ak ?_ ?_<;>intro hw<;>try omega|fail
   exact cu (by rw[<-hE];exact iR (.ai _)) (bf.eqv rfl (aQ T (p+1) false))
 | false =>
   rw[hn]at hname;simp only[Bool.false_eq_true,if_false];generalize hE:aI _=E;refine bC.cC (dM.go ?_) rfl (aQ _ _ _);unfold dS;intro Q au aA aB;repeat' first|simp (disch:=omega) only[go_sem,au,aA,aB,ht]|refine aq ?_|refine bw c1 ?_|refine bw c2 ?_|refine bw c3 ?_|refine bw c4 ?_|refine ak ?_ ?_<;>intro hw<;>try omega|fail
   exact cu (by rw[<-hE];exact iR (.ai _)) (bf.eqv rfl (aQ T p true))
def yq(T:List Tok)(lvl:Int)(p:Nat): bC aE 276 0 [I lvl] (bH T p true) (bH T p true) (aI x0):=by
 have hf:=GF T p;generalize hE:aI x0=E;rw[aO]at hf;simp only[bH]at hf;refine bC.cC (ij.go ?_) rfl (aQ _ _ _);unfold dS;intro Q au aA aB;repeat' first|refine aq ?_|refine bw hf ?_|refine ak ?_ ?_<;>intro hw<;>try omega|fail
 exact cu (by rw[<-hE];exact View.eqv (aO _).symm (da _)) (bf.refl (aQ T p true))
structure Lq where
 op:Int
 vk:Int
 vn:Int
 vs:aG
 s:aG
 fl:Bool
 zs:List AV
 x:Expr
 p:Nat
 b:Bool
 f:Nat
def Lq.cs(q:Lq): List AV:=[I q.op,I q.vk,I q.vn,.str q.vs,.str q.s,.aF q.fl EX q.zs]
def Lq.seen(q:Lq): Prop:=View [] (.agg q.cs) (aI q.x)
def Li (T : List Tok) (hT : T.length <= 2 ^ 60) (f lvl p : Nat) (h1 : 1 <= lvl) (h5 : lvl <= 5) (hp : p <= T.length) (hf : 8 * (T.length - p) + (8 - lvl) <= f)
    (ih:∀ j,j<=f-> ∀ l q,l<=7->q<=T.length->8*(T.length-q)+(8-l)<j->mP T 276 (fun l q=>bN T j none l q) l q) :
    bC aE 276 0 [I lvl] (bH T p false) (bH T (bN T (f+1) none lvl p).p (bN T (f+1) none lvl p).bad) (aI (bN T (f+1) none lvl p).x):=by
 have ga:=(mO T f none (lvl+1) p hp).1 rfl;have ca:=ih f (Nat.le_refl _) (lvl+1) p (by omega) hp (by omega);simp only[mP]at ca;obtain⟨ga1,ga2,ZY⟩:=ga
 have hR:bN T (f+1) none lvl p=if(bN T f none (lvl+1) p).bad then bN T f none (lvl+1) p else bN T f (some (bN T f none (lvl+1) p).x) lvl (bN T f none (lvl+1) p).p:=by
  rw[bN];rw[if_neg (by omega),if_neg (by omega),if_neg (by omega)]
 generalize bN T (f+1) none lvl p=R at *;generalize bN T f none (lvl+1) p=a at *;obtain⟨ax,ap,ab⟩:=a;dsimp only at *;have e0:∀ σ : ae,View σ (.agg [I ax.op,I ax.v.kind,I ax.v.n,.str ax.v.s,.str ax.s,.aF false EX (ax.l.map aI)]) (aI ax):=fun σ=>View.eqv (aO _).symm (da _)
 have hfp:ab=true\/8*(T.length-ap)+8<=f:=by
  cases ab with
  | true=>exact .inl rfl
  | false=>have:=ZY rfl;exact .inr (by omega)
 rw[aO]at ca;simp only[bH,Int.natCast_add,Int.cast_ofNat_Int]at ca;refine bC.cC (ij.go ?_) rfl (aQ _ _ _);unfold dS;intro Q au aA aB;repeat' first|refine aq ?_|refine bw ca ?_|refine ak ?_ ?_<;>intro hw<;>try omega|fail
 clear ca;with_reducible refine bn [9,83,84,85,86,87,88,89,90,91,92,93,94,95,96,97,98,99,100,101,102,103,104,105,106,107,108,109,110,111] (fun _:Lq=>[]) (fun q=>[.cells [.aF false ET (T.map jU),I q.p,.bool q.b],.cells [I 0,I 0,I 0,.str [],.str [],.ai],.cells [I q.op,I q.vk,I q.vn,.str q.vs,.str q.s,.aF q.fl EX q.zs]]) (fun q=>(q.seen/\AV.bX q.zs=true)/\q.p<=T.length/\q.f<=f/\(q.b=true->R=⟨q.x,q.p,true⟩)/\(q.b=false->8*(T.length-q.p)+8<=q.f/\R=bN T q.f (some q.x) lvl q.p)) (fun q=>q.f) (⟨ax.op,ax.v.kind,ax.v.n,ax.v.s,ax.s,false,ax.l.map aI,ax,ap,ab,f⟩) ?_ ?_ ?_ ?_
 ·refine⟨⟨e0 [],tO _⟩,ga2,Nat.le_refl _,fun h=>?_,fun h=>?_⟩
  ·dsimp only at h;subst h;exact hR
  ·dsimp only at h;subst h;refine⟨?_,hR⟩;rcases hfp with h|h
   ·cases h
   ·exact h
 ·rfl
 ·exact at_
 clear hR e0;rintro⟨yo,W1,W2,W3,xs,W4,xz,X,xp,xb,xf⟩ r0 ⟨⟨a1,a2⟩,a3,a4,a5,a6⟩;dsimp only at a3 a4 a5 a6;have ev:∀ σ : ae,View σ (.agg [I yo,I W1,I W2,.str W3,.str xs,.aF W4 EX xz]) (aI X):=fun σ=>View.mono (σ:=[]) (fun _ _ h=>by simp at h) a1;clear a1;cases xb with
 | true =>
   have a5:=a5 rfl;subst a5;dsimp only at au aA aB;generalize aI X=E at *;repeat' first|refine aq ?_|refine ak ?_ ?_<;>intro hw<;>try omega|fail
   exact cu (ev _) (bf.refl (aQ _ _ _))
 | false =>
   obtain⟨a7,a8⟩:=a6 rfl;clear a5 a6;obtain⟨j,rfl⟩:∃ j,xf=j+1:=⟨xf-1,by omega⟩;have cb:=VN T xp lvl;rw[bN]at a8;cases hq:pX T xp false lvl with
   | none =>
     rw[hq]at a8 cb;dsimp only at a8;subst a8;dsimp only at au aA aB;simp only[BR,bH]at cb;generalize aI X=E at *;repeat' first|refine aq ?_|refine bw cb ?_|refine ak ?_ ?_<;>intro hw<;>try omega|fail
     exact cu (ev _) (bf.refl (aQ _ _ _))
   | some o2 =>
     rw[hq]at a8 cb;dsimp only at a8;obtain⟨qH,_,Dq,WR⟩:=yn hq
     have adI:o2.op≠0:=by
      intro h;simp only[gj,List.mem_cons,List.not_mem_nil,or_false]at Dq;rcases Dq with rfl|rfl|rfl|rfl|rfl|rfl|rfl|rfl|rfl|rfl|rfl|rfl<;>simp at h
     have cc:=ih j (by omega) (lvl+1) (xp+1) (by omega) (by omega) (by omega);obtain⟨gd1,ZZ,Z0⟩:=(mO T j none (lvl+1) (xp+1) (by omega)).1 rfl;simp only[mP]at cc;simp only[BR,bH]at cb;generalize bN T j none (lvl+1) (xp+1)=d at *;obtain⟨dx,dp,db⟩:=d;dsimp only at *;have e1:∀ σ : ae,View σ (.agg (oA o2.op [.agg [I yo,I W1,I W2,.str W3,.str xs,.aF W4 EX xz],aI dx])) (aI (.mk o2.op v0 [] [X,dx])):=fun σ=>wQ (BU (ev _) (.refl _ (da _)));have hpz:AV.bX [.agg [I yo,I W1,I W2,.str W3,.str xs,.aF W4 EX xz],aI dx]=true:=by simp[AV.dh,AV.bX,a2,da]
     rw[aO dx]at cc e1 hpz;simp only[bH,Int.natCast_add,Int.cast_ofNat_Int]at cc;by_cases P3:lvl=3
     ·rw[if_pos (.inl P3)]at a8;subst a8;dsimp only at au aA aB;generalize hE:aI (.mk o2.op v0 [] [X,dx])=E at *;repeat' first|simp (disch:=omega) only[go_sem,au,aA,aB,Int.natCast_add,Int.cast_ofNat_Int]|refine aq ?_|refine bw cb ?_|refine bw cc ?_|refine ak ?_ ?_<;>intro hw<;>try omega|fail
      all_goals first|exact cu (e1 _) (bf.refl (aQ _ _ _))|(exfalso;omega)
     ·repeat' first|simp (disch:=omega) only[go_sem,au,aA,aB,Int.natCast_add,Int.cast_ofNat_Int]|refine aq ?_|refine bw cb ?_|refine bw cc ?_|refine ak ?_ ?_<;>intro hw<;>try omega|fail
      refine⟨⟨o2.op,0,0,[],[],true,[.agg [I yo,I W1,I W2,.str W3,.str xs,.aF W4 EX xz],.agg [I dx.op,I dx.v.kind,I dx.v.n,.str dx.v.s,.str dx.s,.aF false EX (dx.l.map aI)]],.mk o2.op v0 [] [X,dx],dp,db,j⟩,⟨⟨e1 [],hpz⟩,ZZ,by dsimp only;omega,fun h=>?_,fun h=>?_⟩,by dsimp only;omega,rfl,bL,at_⟩
      ·dsimp only at h ⊢;subst h;rw[if_pos (.inr rfl)]at a8;exact a8
      ·dsimp only at h ⊢;subst h;rw[if_neg (by simp[P3])]at a8;have:=Z0 rfl;exact⟨by omega,a8⟩
def ON (T : List Tok) (p : Nat) (rd : Nat -> Nat -> RS) (hp : p <= T.length) (hT : T.length <= 2 ^ 60) (hs : ∀ q, (T.getD q default).s.length <= 2 ^ 62)
    (hrd:iC T p 4 [40]=true->mP T 276 rd 0 (p+1)/\(rd 0 (p+1)).p<=T.length) :
    bC aE 276 0 [I 7] (bH T p false) (bH T (iQ rd T p).p (iQ rd T p).bad) (aI (iQ rd T p).x):=by
 have hf:=OM T p rd hp hT hs hrd;generalize iQ rd T p=R at *;generalize hE:aI R.x=E at *;rw[<-hE,aO]at hf;simp only[bH]at hf;refine bC.cC (ij.go ?_) rfl (aQ _ _ _);unfold dS;intro Q au aA aB;repeat' first|refine aq ?_|refine bw hf ?_|refine ak ?_ ?_<;>intro hw<;>try omega|fail
 exact cu (by rw[<-hE];exact View.eqv (aO _).symm (da _)) (bf.refl (aQ _ _ _))
def VO (T : List Tok) (p : Nat) (rd : Nat -> Nat -> RS) (hi : iC T p 1 [105, 102] = true) (hT : T.length <= 2 ^ 60) (mZ : ∀ l q, q <= T.length -> je T.length q (rd l q))
    (hrd:∀ q,p+1<=q->q<=T.length->mP T 276 rd 0 q) :
    bC aE 276 0 [I 0] (bH T p false) (bH T (ym rd T (p+1)).p (ym rd T (p+1)).bad) (aI (ym rd T (p+1)).x):=by
 have hp:p+1<=T.length:=jM hi;have co:=pY T p false 1 [105,102] true hi;have ga:=vR mZ hp;have gb:=vS mZ hp;have g0:=mZ 0 (p+1) hp;have g1:=zp mZ (l:=0) (b:=(jw rd T (p+1)).bad) ga.2.1;have c1:=hrd (p+1) (Nat.le_refl _) hp;have m1:=zw T (rd 0 (p+1)).p (rd 0 (p+1)).bad 1 thenS (by have:=g0.2.1;omega);have c2:=zq (l:=0) (q:=(jw rd T (p+1)).p) (b:=(jw rd T (p+1)).bad) (fun _=>hrd _ ga.1 ga.2.1) (yq T _ _);have m2:=zw T (nJ rd 0 (jw rd T (p+1)).p (jw rd T (p+1)).bad).p (nJ rd 0 (jw rd T (p+1)).p (jw rd T (p+1)).bad).bad 1 wP (by have:=g1.2.1;omega);have c3:=zq (l:=0) (q:=(ow rd T (p+1)).p) (b:=(ow rd T (p+1)).bad) (fun _=>hrd _ (bY ga.1 gb.1) gb.2.1) (yq T _ _)
 change bC _ _ _ _ _ (bH T (jw rd T (p+1)).p (jw rd T (p+1)).bad) _ at m1
 change bC _ _ _ _ _ (bH T (ow rd T (p+1)).p (ow rd T (p+1)).bad) _ at m2
 change bC _ _ _ _ _ (bH T (vQ rd T (p+1)).p (vQ rd T (p+1)).bad) (aI (vQ rd T (p+1)).x)at c3
 unfold mP at c1;simp only[ym];have xa:(jw rd T (p+1)).x=(rd 0 (p+1)).x:=rfl;have xb:(ow rd T (p+1)).x=(nJ rd 0 (jw rd T (p+1)).p (jw rd T (p+1)).bad).x:=rfl;rw[xa,xb];generalize nJ rd 0 (jw rd T (p+1)).p (jw rd T (p+1)).bad=rb at *;generalize jw rd T (p+1)=ra at *;generalize ow rd T (p+1)=rb2 at *;generalize vQ rd T (p+1)=rc at *;generalize rd 0 (p+1)=r1 at *;rw[aO]at c1 c2 c3;simp only[bH,thenS,wP,Int.natCast_add,Int.cast_ofNat_Int]at co c1 m1 c2 m2 c3;generalize hE:aI _=E;refine bC.cC (ij.go ?_) rfl (aQ _ _ _);unfold dS;intro Q au aA aB;repeat' first|simp (disch:=omega) only[go_sem,au,aA,aB,Int.natCast_add,Int.cast_ofNat_Int]|refine aq ?_|refine bw co ?_|refine bw c1 ?_|refine bw m1 ?_|refine bw c2 ?_|refine bw m2 ?_|refine bw c3 ?_|refine ak ?_ ?_<;>intro hw<;>try omega|fail
 refine cu ?_ (bf.refl (aQ _ _ _));rw[<-hE];refine iR ?_;rw[aR,aR,aR,bu,aO,aO,aO];refine View.weak _ _ _ ?_;simp
def RC(T:List Tok)(hT:T.length<=2 ^ 60)(hs:∀ q,(T.getD q default).s.length<=2 ^ 62): ∀ f,∀ lvl p,lvl<=7->p<=T.length->8*(T.length-p)+(8-lvl)<f->mP T 276 (fun l q=>bN T f none l q) lvl p:=by
 intro f
 induction f using Nat.strongRecOn with
 | ind f ih =>
 intro lvl p hl hp hf;obtain⟨f,rfl⟩:∃ f',f=f'+1:=⟨f-1,by omega⟩;have GC:=ih f (Nat.lt_succ_self _);have mZ:∀ l q,q<=T.length->je T.length q (bN T f none l q):=fun l q hq=>(mO T f none l q hq).1 rfl;simp only[mP];by_cases h5:1<=lvl/\lvl<=5
 ·exact Li T hT f lvl p h5.1 h5.2 hp (by omega) (fun j hj l q h1 h2 h3=>ih j (by omega) l q h1 h2 h3)
 by_cases h0:lvl=0
 ·subst h0
  have hR:bN T (f+1) none 0 p=if iC T p 1 [105,102]then ym (fun l q=>bN T f none l q) T (p+1)else bN T f none 1 p:=by
   rw[bN,if_pos rfl]
  by_cases hi:iC T p 1 [105,102]=true
  ·rw[if_pos hi]at hR;have qH:=jM hi;rw[hR];exact VO T p (fun l q=>bN T f none l q) hi hT mZ (fun q h1 h2=>GC 0 q (by omega) h2 (by omega))
  ·rw[if_neg hi]at hR;have hi':iC T p 1 [105,102]=false:=by simpa using hi
   have co:=pY T p false 1 [105,102] false hi';have cr:=GC 1 p (by omega) hp (by omega);rw[hR];simp only[mP]at cr;generalize bN T f none 1 p=R at *;generalize hE:aI R.x=E at *;rw[<-hE,aO]at cr;simp only[bH,Int.natCast_add,Int.cast_ofNat_Int]at co cr;refine bC.cC (ij.go ?_) rfl (aQ _ _ _);unfold dS;intro Q au aA aB;repeat' first|simp (disch:=omega) only[go_sem,au,aA,aB,Int.natCast_add,Int.cast_ofNat_Int,Int.reduceAdd]|refine aq ?_|refine bw co ?_|refine bw cr ?_|refine ak ?_ ?_<;>intro hw<;>try omega|fail
   exact cu (by rw[<-hE];exact View.eqv (aO _).symm (da _)) (bf.refl (aQ _ _ _))
 by_cases h6:lvl=6/\iC T p 4 [45]=true
 ·obtain⟨rfl,hi⟩:=h6;have qH:=jM hi
  have hR:bN T (f+1) none 6 p=⟨.mk 3 v0 [] [(bN T f none 6 (p+1)).x],(bN T f none 6 (p+1)).p,(bN T f none 6 (p+1)).bad⟩:=by
   rw[bN,if_neg h0,if_pos ⟨rfl,hi⟩]
  have co:=pY T p false 4 [45] true hi;have cr:=GC 6 (p+1) (by omega) qH (by omega);rw[hR];simp only[mP]at cr;generalize bN T f none 6 (p+1)=R at *;obtain⟨rx,rp,rb⟩:=R;dsimp only at *;have e1:∀ σ : ae,View σ (.agg (oA 3 [aI rx])) (aI (.mk 3 v0 [] [rx])):=fun σ=>wQ (.cons (.refl _ (da _)) (.nil _));rw[aO rx]at e1 cr;generalize hE:aI (.mk 3 v0 [] [rx])=E at *;simp only[bH,Int.natCast_add,Int.cast_ofNat_Int]at co cr;refine bC.cC (ij.go ?_) rfl (aQ _ _ _);unfold dS;intro Q au aA aB;repeat' first|simp (disch:=omega) only[go_sem,au,aA,aB,Int.natCast_add,Int.cast_ofNat_Int]|refine aq ?_|refine bw co ?_|refine bw cr ?_|refine ak ?_ ?_<;>intro hw<;>try omega|fail
  exact cu (e1 _) (bf.refl (aQ _ _ _))
 have Z1:6<=lvl:=by omega
 have hR:bN T (f+1) none lvl p=iQ (fun l q=>bN T f none l q) T p:=by
  rw[bN,if_neg h0,if_neg h6,if_pos Z1]
 have ca:=ON T p (fun l q=>bN T f none l q) hp hT hs (fun h=>⟨GC 0 (p+1) (by omega) (jM h) (by have:=jM h;omega),(mZ 0 (p+1) (jM h)).2.1⟩);rw[hR];by_cases TH:lvl=6
 ·have hno : iC T p 4 [45] = false := by
   cases hq:iC T p 4 [45]with
   | false=>rfl
   | true=>exact absurd ⟨TH,hq⟩ h6
  have co:=pY T p false 4 [45] false hno;subst TH;generalize iQ (fun l q=>bN T f none l q) T p=R at *;generalize hE:aI R.x=E at *;rw[<-hE,aO]at ca;simp only[bH,Int.natCast_add,Int.cast_ofNat_Int]at co ca;refine bC.cC (ij.go ?_) rfl (aQ _ _ _);unfold dS;intro Q au aA aB;repeat' first|simp (disch:=omega) only[go_sem,au,aA,aB,Int.natCast_add,Int.cast_ofNat_Int,Int.reduceAdd]|refine aq ?_|refine bw co ?_|refine bw ca ?_|refine ak ?_ ?_<;>intro hw<;>try omega|fail
  exact cu (by rw[<-hE];exact View.eqv (aO _).symm (da _)) (bf.refl (aQ _ _ _))
 ·obtain rfl:lvl=7:=by omega
  exact ca
def GG(T:List Tok)(fr lvl:Int)(hT:T.length<=2 ^ 50)(hs:∀ q,(T.getD q default).s.length<=2 ^ 62): aH aE 252 [nk T,I fr,I lvl] (tQ (dQ T fr lvl)):=by
 by_cases hg:fr<0\/(T.length:Int)<fr\/lvl<0\/7<lvl
 ·have e:dQ T fr lvl=(x0,0,2):=by unfold dQ;rw[if_pos hg]
  rw[e];have e1:∀ σ : ae,View σ (.agg [I 0,I 0,I 0,.str [],.str [],.ai]) (aI x0):=fun σ=>iR (.ai _);simp only[tQ];generalize aI x0=E at *;refine aJ tV ?_;intro Q au aA aB;repeat' first|refine aq ?_|refine ak ?_ ?_<;>intro hw<;>try omega|fail
  all_goals first|exact bG (gX (e1 _))|(exfalso;omega)
 ·obtain⟨p,rfl⟩:∃ p:Nat,fr=p:=⟨fr.toNat,by omega⟩;obtain⟨l,rfl⟩:∃ l:Nat,lvl=l:=⟨lvl.toNat,by omega⟩;have cr:=RC T (by omega) hs (8*T.length+9) l p (by omega) (by omega) (by omega)
  have e:dQ T p l=if(bN T (8*T.length+9) none l p).bad then(x0,((bN T (8*T.length+9) none l p).p:Int),11)else ((bN T (8*T.length+9) none l p).x,((bN T (8*T.length+9) none l p).p:Int),0):=by
   unfold dQ;rw[if_neg hg,Int.toNat_natCast,Int.toNat_natCast]
  rw[e];simp only[mP]at cr;generalize bN T (8*T.length+9) none l p=r at *;obtain⟨rx,rp,rb⟩:=r;dsimp only at *;have e1:∀ σ : ae,View σ (.agg [I 0,I 0,I 0,.str [],.str [],.ai]) (aI x0):=fun σ=>iR (.ai _);have e2:∀ σ : ae,View σ (.agg [I rx.op,I rx.v.kind,I rx.v.n,.str rx.v.s,.str rx.s,.aF false EX (rx.l.map aI)]) (aI rx):=fun σ=>View.eqv (aO _).symm (da _);rw[aO]at cr;simp only[bH]at cr;cases rb with
  | true =>
    simp only[if_true,tQ];generalize aI x0=E at *;refine aJ tV ?_;intro Q au aA aB;repeat' first|refine aq ?_|refine bw cr ?_|refine ak ?_ ?_<;>intro hw<;>try omega|fail
    all_goals first|exact bG (gX (e1 _))|(exfalso;omega)
  | false =>
    simp only[Bool.false_eq_true,if_false,tQ];generalize aI rx=E at *;refine aJ tV ?_;intro Q au aA aB;repeat' first|refine aq ?_|refine bw cr ?_|refine ak ?_ ?_<;>intro hw<;>try omega|fail
    all_goals first|exact bG (gX (e2 _))|(exfalso;omega)
def X4(T:List Tok): (dQ T 0 0).2.2=0\/(dQ T 0 0).2.2=11:=by
 unfold dQ;rw[if_neg (by omega)];split
 ·exact .inr rfl
 ·exact .inl rfl
def DA(s:aG)(hs:s.length<=2 ^ 30): aH aE 212 [.str s] (tQ (di s)):=by
 have cl:=J0 s hs;obtain⟨f1,f2⟩:=kP s;have cr:=GG (aX s).1 0 0 (by omega) (fun q=>by have:=f2 q;omega);have hz:=zu (aX s).1 0 0;obtain⟨GD,qH⟩:=C0 (aX s).1 0 0;have he:=X4 (aX s).1
 have hP:di s=if(aX s).2.2≠0 then(x0,(aX s).2.1,(aX s).2.2)
  else if(dQ (aX s).1 0 0).2.1<(aX s).1.length then(x0,((aX s).1.getD (dQ (aX s).1 0 0).2.1.toNat default).pos,11)
  else if(dQ (aX s).1 0 0).2.2≠0 then(x0,(s.length:Int),(dQ (aX s).1 0 0).2.2)
  else if 12<iP (dQ (aX s).1 0 0).1 then(x0,0,12)
  else((dQ (aX s).1 0 0).1,0,0):=rfl
 rw[hP];clear hP f2;generalize dQ (aX s).1 0 0=r at *;generalize aX s=L at *;obtain⟨T,la,le⟩:=L;obtain⟨rx,rn,re⟩:=r;dsimp only at *;have cd:=zn rx (by omega);obtain⟨n,rfl⟩:∃ n:Nat,rn=n:=⟨rn.toNat,by omega⟩;have e1:∀ σ : ae,View σ (.agg [I 0,I 0,I 0,.str [],.str [],.ai]) (aI x0):=fun σ=>iR (.ai _);have e2:∀ σ : ae,View σ (.agg [I rx.op,I rx.v.kind,I rx.v.n,.str rx.v.s,.str rx.s,.aF false EX (rx.l.map aI)]) (aI rx):=fun σ=>View.eqv (aO _).symm (da _);simp only[tQ]at cr ⊢;rw[aO]at cr cd;simp only[BL,nk]at cl cr;by_cases h1:le≠0
 ·rw[if_pos h1];generalize aI x0=E at *;refine aJ mN ?_;intro Q au aA aB;repeat' first|refine aq ?_|refine ak ?_ ?_<;>intro hw<;>try omega|fail
  all_goals exact bG (gX (e1 _))
 rw[if_neg h1];by_cases h2:(n:Int)<T.length
 ·rw[if_pos h2,fR];generalize aI x0=E at *;have hn:n<T.length:=by omega
  refine aJ mN ?_;intro Q au aA aB;repeat' first|refine aq ?_|refine ak ?_ ?_<;>intro hw<;>try omega|fail
  all_goals exact bG (gX (e1 _))
 rw[if_neg h2];by_cases h3:re≠0
 ·rw[if_pos h3]
  obtain rfl : re = 11 := by rcases he with h | h
                             ·exact absurd h h3
                             ·exact h
  generalize aI x0=E at *;refine aJ mN ?_;intro Q au aA aB;repeat' first|refine aq ?_|refine ak ?_ ?_<;>intro hw<;>try omega|fail
  all_goals exact bG (gX (e1 _))
 rw[if_neg h3];by_cases h4:12<iP rx
 ·rw[if_pos h4];generalize aI x0=E at *;refine aJ mN ?_;intro Q au aA aB;repeat' first|refine aq ?_|refine ak ?_ ?_<;>intro hw<;>try omega|fail
  all_goals exact bG (gX (e1 _))
 ·rw[if_neg h4];generalize aI rx=E at *;refine aJ mN ?_;intro Q au aA aB;repeat' first|refine aq ?_|refine ak ?_ ?_<;>intro hw<;>try omega|fail
  all_goals exact bG (gX (e2 _))
def eI(n:Int): AV:=I n
attribute [go_sem] eI
def Z6(n:Int): (eI n).dh=true:=rfl
def BW(l:List Int): AV.bX (l.map eI)=true:=ie _ _ Z6
def iS(a b:Int): Bool:=decide (a=b) || decide (a=0) || decide (b=0)
def P4(a b:Int): Int:=if a=0 then b else a
def nP(a b:Int): aH aE 235 [I a,I b] (.bool (iS a b)):=by
 refine aJ IL ?_;intro Q au aA aB;repeat' first|refine aq ?_|refine ak ?_ ?_<;>intro hw<;>try omega|fail
 all_goals refine aL ?_ rfl
 all_goals (refine congrArg AV.bool ?_;rw[aS];simp only[iS,aD,cz,decide_eq_true_eq,beq_iff_eq,bW,decide_eq_false_iff_not,beq_eq_false_iff_ne,ne_eq,true_iff,false_iff,iff_true,iff_false,Bool.false_eq_true,gy,not_and,not_or]at *;omega)
def po(a b:Int): aH aE 214 [I a,I b] (.bool (iS a b)):=by
 refine aJ K5 ?_;intro Q au aA aB;repeat' first|refine aq ?_|refine ak ?_ ?_<;>intro hw<;>try omega|fail
 all_goals refine aL ?_ rfl
 all_goals (refine congrArg AV.bool ?_;rw[aS];simp only[iS,aD,cz,decide_eq_true_eq,beq_iff_eq,bW,decide_eq_false_iff_not,beq_eq_false_iff_ne,ne_eq,true_iff,false_iff,iff_true,iff_false,Bool.false_eq_true,gy,not_and,not_or]at *;omega)
def Ap(a b:Int): aH aE 315 [I a,I b] (I (P4 a b)):=by
 refine aJ yd ?_;intro Q au aA aB;repeat' first|refine aq ?_|refine ak ?_ ?_<;>intro hw<;>try omega|fail
 all_goals refine aL ?_ rfl
 all_goals (unfold P4;first|rw[if_neg (by assumption)]|rw[if_pos (by assumption)]|(subst a;rfl))
def MK(a b:Int): aH aE 302 [I a,I b] (I (P4 a b)):=by
 refine aJ Oz ?_;intro Q au aA aB;repeat' first|refine aq ?_|refine ak ?_ ?_<;>intro hw<;>try omega|fail
 all_goals refine aL ?_ rfl
 all_goals (unfold P4;first|rw[if_neg (by assumption)]|rw[if_pos (by assumption)]|(subst a;rfl))
def P5{α : Type}{p : α->Bool}(l:List α): l.all p = !(l.any fun x=> !(p x)):=by
 induction l with
 | nil=>rfl
 | cons x r ih=>simp[ih]
def GH(w:Int)(l:List Int)(hl:l.length<=2 ^ 60): aH aE 314 [I w,.aF false E1 (l.map eI)] (.bool (l.all fun k=>iS k w)):=by
 refine aJ Lg ?_ (by simp[AV.dh,AV.bX,BW]);intro Q au aA aB;repeat' first|refine aq ?_|refine ak ?_ ?_<;>intro hw<;>try omega|fail
 with_reducible refine bn [4,6,9,10,11,12,13,14,15,16,17] (fun i:Nat=>[(9,I i)]) (fun _=>[]) (fun i=>i<=l.length/\ ∀ k,k<i->(!(iS (l.getD k default) w))=false) (fun i=>l.length-i) (0) ?_ ?_ ?_ ?_
 ·simp
 ·rfl
 ·exact at_
 rintro i r ⟨h1,h2⟩;by_cases hi:i<l.length
 ·repeat' first|refine aq ?_|refine d_ (nP _ _) ?_|refine ak ?_ ?_<;>intro hw<;>try omega|fail
  ·refine aL ?_ rfl;rw[P5,vO (p:=fun x=> !(iS x w)) hi (by simpa using hw)];rfl
  ·refine⟨i+1,?_,?_,by first|rfl|(simp[go_sem];done),bL,at_⟩<;>(try dsimp only)
   ·exact⟨by omega,aY h2 (by simpa using hw)⟩
   ·omega
 ·repeat' first|refine aq ?_|refine ak ?_ ?_<;>intro hw<;>try omega|fail
  refine aL ?_ rfl;rw[P5,sO (p:=fun x=> !(iS x w)) (fun k hk=>h2 k (by omega))];rfl
def Dj(l:List Int)(v:Int)(hl:l.length<=2 ^ 60): aH aE 322 [.aF false E1 (l.map eI),I v] (I (gN (fun x=>x==v) l)):=by
 refine aJ zh ?_ (by simp[AV.dh,AV.bX,BW]);intro Q au aA aB;repeat' first|refine aq ?_|refine ak ?_ ?_<;>intro hw<;>try omega|fail
 with_reducible refine bn [4,5,8,9,10,11,12,13,14,15,16,17,18] (fun i:Nat=>[(8,I i)]) (fun _=>[]) (fun i=>i<=l.length/\ ∀ k,k<i->(l.getD k default==v)=false) (fun i=>l.length-i) (0) ?_ ?_ ?_ ?_
 ·simp
 ·rfl
 ·exact at_
 rintro i r ⟨h1,h2⟩;by_cases hi:i<l.length
 ·repeat' first|refine aq ?_|refine ak ?_ ?_<;>intro hw<;>try omega|fail
  ·refine aL ?_ rfl;rw[lP (p:=fun x=>x==v) hi h2 (by simp_all)]
  ·refine⟨i+1,?_,?_,by first|rfl|(simp[go_sem];done),bL,at_⟩<;>(try dsimp only)
   ·exact⟨by omega,aY h2 (by rw[beq_eq_false_iff_ne];intro h;exact hw h.symm)⟩
   ·omega
 ·repeat' first|refine aq ?_|refine ak ?_ ?_<;>intro hw<;>try omega|fail
  refine aL ?_ rfl;rw[kT (p:=fun x=>x==v) (fun k hk=>h2 k (by omega))]
def zx(l:List Int)(v:Int)(hl:l.length<=2 ^ 60): aH aE 316 [.aF false E1 (l.map eI),I v] (.bool (decide (0<=gN (fun x=>x==v) l))):=by
 refine aJ wq ?_ (by simp[AV.dh,AV.bX,BW]);intro Q au aA aB;repeat' first|refine aq ?_|refine d_ (Dj l v hl) ?_|refine ak ?_ ?_<;>intro hw<;>try omega|fail
 all_goals exact aL rfl rfl
def oB(op:Int)(ks:List Int): Int × Bool :=
 if op=3\/op=5\/op=6\/op=7 then(1,ks.all fun k=>iS k 1)
 else if op=4 then(if P4 (ks.getD 0 0) (ks.getD 1 0)=2 then(2,ks.all fun k=>iS k 2)else (1,ks.all fun k=>iS k 1))
 else if op=8\/op=9 then(3,iS (ks.getD 0 0) (ks.getD 1 0))
 else if op=10\/op=11\/op=12\/op=13 then(3,iS (ks.getD 0 0) (ks.getD 1 0) && !(decide (0<=gN (fun x=>x==3) ks)))
 else if op=14\/op=15 then(3,ks.all fun k=>iS k 3)
 else(P4 (ks.getD 1 0) (ks.getD 2 0),iS (ks.getD 0 0) 3 && iS (ks.getD 1 0) (ks.getD 2 0))
def ML(a:Int): aH aE 293 [I 3,.aF false E1 ([a].map eI)] (.bJ [I (oB 3 [a]).1,.bool (oB 3 [a]).2]):=by
 have h:=fun w=>GH w [a] (by simp);simp only[List.map,eI]at h ⊢;refine aJ sL ?_;intro Q au aA aB;repeat' first|simp (disch:=omega) only[go_sem,au,aA,aB,Int.reduceToNat]|refine aq ?_|refine d_ (h _) ?_|refine ak ?_ ?_<;>intro hw<;>try omega|fail
 all_goals exact bp rfl rfl
def MN(op a b:Int)(h4:4<=op)(TJ:op<=15): aH aE 293 [I op,.aF false E1 ([a,b].map eI)] (.bJ [I (oB op [a,b]).1,.bool (oB op [a,b]).2]):=by
 have h:=fun w=>GH w [a,b] (by simp);have hc:=zx [a,b] 3 (by simp);simp only[List.map,eI]at h hc ⊢;generalize hR:oB op [a,b]=R;refine aJ sL ?_;intro Q au aA aB;repeat' first|simp (disch:=omega) only[go_sem,au,aA,aB,Int.reduceToNat]|refine aq ?_|refine d_ (h _) ?_|refine d_ (Ap a b) ?_|refine d_ (nP a b) ?_|refine ak ?_ ?_<;>intro hw<;>try omega|fail
 all_goals (refine bp ?_ rfl;clear au aA aB h hc;subst hR)
 all_goals (simp_all[oB];done)
def MO(a b c:Int): aH aE 293 [I 16,.aF false E1 ([a,b,c].map eI)] (.bJ [I (oB 16 [a,b,c]).1,.bool (oB 16 [a,b,c]).2]):=by
 simp only[List.map,eI];refine aJ sL ?_;intro Q au aA aB;repeat' first|simp (disch:=omega) only[go_sem,au,aA,aB,Int.reduceToNat]|refine aq ?_|refine d_ (Ap b c) ?_|refine d_ (nP a 3) ?_|refine d_ (nP b c) ?_|refine ak ?_ ?_<;>intro hw<;>try omega|fail
 all_goals (refine bp ?_ rfl;simp_all[oB])
def nn(op:Int)(ks:List Int): Int × Int:=if(oB op ks).2 then((oB op ks).1,0)else (0,14)
def adJ(a b:Int): decide (0<=gN (fun x=>x==3) [a,b])=(decide (a=3) || decide (b=3)):=by
 by_cases h1:a=3
 ·subst h1;simp[gN,List.findIdx?_cons]
 ·by_cases h2:b=3
  ·subst h2;simp[gN,List.findIdx?_cons,h1]
  ·simp[gN,List.findIdx?_cons,h1,h2]
def TL(a:Int): aH aE 277 [I 3,.aF false E1 ([a].map eI)] (.bJ [I (nn 3 [a]).1,I (nn 3 [a]).2]):=by
 simp only[List.map,eI];generalize hR:nn 3 [a]=R;refine aJ xn ?_;intro Q au aA aB;repeat' first|simp (disch:=omega) only[go_sem,au,aA,aB,Int.reduceToNat]|refine aq ?_|refine d_ (po _ _) ?_|refine ak ?_ ?_<;>intro hw<;>try omega|fail
 all_goals (refine bp ?_ rfl;clear au aA aB;subst hR;simp_all[nn,oB])
def TM(op a b:Int)(h4:4<=op)(TJ:op<=15): aH aE 277 [I op,.aF false E1 ([a,b].map eI)] (.bJ [I (nn op [a,b]).1,I (nn op [a,b]).2]):=by
 simp only[List.map,eI];generalize hR:nn op [a,b]=R;refine aJ xn ?_;intro Q au aA aB;repeat' first|simp (disch:=omega) only[go_sem,au,aA,aB,Int.reduceToNat]|refine aq ?_|refine d_ (po _ _) ?_|refine d_ (MK _ _) ?_|refine ak ?_ ?_<;>intro hw<;>try omega|fail
 all_goals (refine bp ?_ rfl;clear au aA aB;subst hR)
 all_goals first|(simp_all[nn,oB,adJ];done)|skip
def TN(a b c:Int): aH aE 277 [I 16,.aF false E1 ([a,b,c].map eI)] (.bJ [I (nn 16 [a,b,c]).1,I (nn 16 [a,b,c]).2]):=by
 simp only[List.map,eI];generalize hR:nn 16 [a,b,c]=R;refine aJ xn ?_;intro Q au aA aB;repeat' first|simp (disch:=omega) only[go_sem,au,aA,aB,Int.reduceToNat]|refine aq ?_|refine d_ (po _ _) ?_|refine d_ (MK _ _) ?_|refine ak ?_ ?_<;>intro hw<;>try omega|fail
 all_goals (refine bp ?_ rfl;clear au aA aB;subst hR;simp_all[nn,oB])
def pE (fn : FuncId) (cap : List AV) (hcap : AV.bX cap = true) (p : cL -> Bool) (l : List cL) (h : ∀ k, k < l.length -> aH aE fn (bF (l.getD k default) :: cap) (.bool (p (l.getD k default)))) (hl : l.length <= 2 ^ 62) :
    aH aE 262 [bP l,.fn (.func fn) [] cap] (I (gN p l)):=by
 refine aJ tW ?_ (by simp[AV.dh,AV.bX,hcap,e8]);intro Q au aA aB;repeat' first|refine aq ?_|refine ak ?_ ?_<;>intro hw<;>try omega|fail
 with_reducible refine bn [4,5,8,9,10,11,12,13,14,15,16,17,18] (fun i:Nat=>[(8,I i)]) (fun _=>[]) (fun i=>i<=l.length/\ ∀ k,k<i->p (l.getD k default)=false) (fun i=>l.length-i) (0) ?_ ?_ ?_ ?_
 ·simp
 ·rfl
 ·exact at_
 ·rintro i r ⟨hi,hp⟩;by_cases hin:i<l.length
  ·have hx:=h i hin;simp only[bF,cU]at hx;repeat' first|refine aq ?_|refine ak ?_ ?_<;>intro hw<;>try omega|fail
   ·refine aL ?_ rfl;refine congrArg I ?_;exact(lP hin hp hw).symm
   ·refine⟨i+1,?_,?_,by first|rfl|(simp[go_sem];done),bL,at_⟩<;>(try dsimp only)
    ·exact⟨by omega,aY hp hw⟩
    ·omega
  ·repeat' first|refine aq ?_|refine ak ?_ ?_<;>intro hw<;>try omega|fail
   refine aL ?_ rfl;refine congrArg I ?_;exact(kT fun k hk=>hp k (by omega)).symm
def pZ(l:List cL)(s:aG): Int:=gN (fun c=>c.name==s) l
def OO(c:cL)(s:aG): aH aE 287 [bF c,.eA E1 (.str s) 0] (.bool (c.name==s)):=by
 refine aJ IP ?_ (by simp[AV.dh,AV.bX,zi]);intro Q au aA aB;repeat' first|refine aq ?_|refine ak ?_ ?_<;>intro hw<;>try omega|fail
 all_goals exact aL rfl rfl
def J3(l:List cL)(s:aG)(hl:l.length<=2 ^ 60): aH aE 261 [bP l,.str s] (I (pZ l s)):=by
 have hc:=pE 287 [.eA E1 (.str s) 0] rfl (fun c=>c.name==s) l (fun k _=>OO _ s) (by omega);simp only[bP]at hc;refine aJ Ms ?_ (by simp[AV.dh,AV.bX,e8]);intro Q au aA aB;repeat' first|refine aq ?_|refine tN hc ?_|refine ak ?_ ?_<;>intro hw<;>try omega|fail
 all_goals exact aL rfl rfl
def MP(l:List cL)(s:aG)(hl:l.length<=2 ^ 60): aH aE 273 [bP l,.str s] (I (pZ l s)):=by
 refine aJ Ov ?_ (by simp[AV.dh,AV.bX,e8]);intro Q au aA aB;repeat' first|refine aq ?_|refine ak ?_ ?_<;>intro hw<;>try omega|fail
 with_reducible refine bn [4,5,6,7,8,9,10,11,12,13,14,15,16,17,18,19] (fun i:Nat=>[(5,I i)]) (fun _=>[]) (fun i=>i<=l.length/\ ∀ k,k<i->((l.getD k default).name==s)=false) (fun i=>l.length-i) (0) ?_ ?_ ?_ ?_
 ·simp
 ·rfl
 ·exact at_
 rintro i r ⟨hi,hp⟩;by_cases hin:i<l.length
 ·repeat' first|refine aq ?_|refine ak ?_ ?_<;>intro hw<;>try omega|fail
  ·refine aL ?_ rfl;refine congrArg I ?_;exact(lP (p:=fun c:cL=>c.name==s) hin hp (by simpa using hw)).symm
  ·refine⟨i+1,?_,?_,by first|rfl|(simp[go_sem];done),bL,at_⟩<;>(try dsimp only)
   ·exact⟨by omega,aY hp (by simpa using hw)⟩
   ·omega
 ·repeat' first|refine aq ?_|refine ak ?_ ?_<;>intro hw<;>try omega|fail
  refine aL ?_ rfl;refine congrArg I ?_;exact(kT (p:=fun c:cL=>c.name==s) fun k hk=>hp k (by omega)).symm
