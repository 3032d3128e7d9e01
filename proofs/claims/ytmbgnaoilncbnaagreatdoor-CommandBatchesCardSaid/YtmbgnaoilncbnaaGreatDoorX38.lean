/- Part. -/
import Derived.Test.YtmbgnaoilncbnaaGreatDoorX37
set_option linter.all false
set_option maxHeartbeats 4000000
namespace Go.Proofs.YtmbgnaoilncbnaaGreatDoor
open Go.AM
set_option maxRecDepth 4000
def rV(s:aJ)(hs:s.length<=2 ^ 60): bj Tryz.prog jl 0 [] [.str s] [.str (takeN s).2.1] (I (takeN s).1):=by
 have c:=oz s (by omega);generalize takeN s=t at *;obtain⟨n,r,e⟩:=t;simp only[eN]at c;refine bj.bV (Gh (by simp) ?_) rfl rfl;unfold xL aP;intro Q au aA aB;repeat' first|refine aq ?_|refine aC c ?_|refine ak ?_ ?_<;>intro hw<;>try omega|fail
 exact bR (View.eqv rfl rfl) (aW.eqv rfl rfl)
def D4(s:aJ)(hs:s.length<=2 ^ 60): bj Tryz.prog l9 0 [] [.str s] [.str (cj s 4000).2.1] (.str (cj s 4000).1):=by
 have c:=uv s 4000 (by omega);generalize cj s 4000=t at *;obtain⟨n,r,e⟩:=t;simp only[eS]at c;refine bj.bV (Fq (by simp) ?_) rfl rfl;unfold wG aP;intro Q au aA aB;repeat' first|refine aq ?_|refine aC c ?_|refine ak ?_ ?_<;>intro hw<;>try omega|fail
 exact bR (View.eqv rfl rfl) (aW.eqv rfl rfl)
def Ys(s:aJ)(hs:s.length<=2 ^ 30): bj Tryz.prog qA 0 [] [.str s] [.str (ig s 6).2.1] (cH (ig s 6).1):=by
 have c:=JC s 6 hs;generalize ig s 6=t at *;obtain⟨n,r,e⟩:=t;simp only[qP,cH]at c ⊢;refine bj.bV (Gi (by simp) ?_) rfl rfl;unfold xM aP;intro Q au aA aB;repeat' first|refine aq ?_|refine aC c ?_|refine ak ?_ ?_<;>intro hw<;>try omega|fail
 exact bR (View.eqv rfl (by simp)) (aW.eqv rfl rfl)
def UO(s:aJ)(hs:s.length<=2 ^ 60): bj Tryz.prog oV 0 [] [.str s] [.str (cj s 4000).2.1] (bS (fX false (cj s 4000).1).1):=by
 have c1:=D4 s hs;have c2:=W9 (cj s 4000).1;generalize cj s 4000=t at *;obtain⟨n,r,e⟩:=t;dsimp only at c1 c2 ⊢;generalize fX false n=p at *;obtain⟨t,x⟩:=p;simp only[qQ,bS,dy,bB,cW]at c2 ⊢;refine bj.bV (D_ (by simp) ?_) rfl rfl;unfold u_ aP;intro Q au aA aB;repeat' first|refine aq ?_|refine bh c1 ?_|refine aC c2 ?_|refine ak ?_ ?_<;>intro hw<;>try omega|fail
 exact bR (View.eqv rfl (by simp)) (aW.eqv rfl rfl)
section
variable {σ : aj} {K Kp:AV->aj->Prop} {p d:Int} {k:Nat} {F:FuncId} {cs ds:List AV} {r:AV}
def Mi{x y:aX}{o:aX}(h : σ[k]? = some o)(o':aX): (σ++[x]++[y]).set k o' = σ.set k o'++[x]++[y]:=by
 have:=(aN.1 h).1;rw[fA _ _ (by simp;omega),fA _ _ this]
def lC(hp:cU .and .i64 p d=0)(hk:jk (I 0) (.mk:Tg fun r=>K r σ)): oF Tryz.prog jX [I p,I d,.fn (.func F) [.ref k 0] []] σ (.mk:Tg (K,Kp)):=by
 refine yB (by simp) ?_;unfold sW aP;intro Q au aA aB;repeat' first|simp (disch:=omega) only[go_sem,au,aA,aB,hp]|refine aq ?_|refine ak ?_ ?_<;>intro hw<;>try omega|fail
 exact hk
def Iy(hp:cU .and .i64 p d=0)(hk:jk (.str []) (.mk:Tg fun r=>K r σ)): oF Tryz.prog l8 [I p,I d,.fn (.func F) [.ref k 0] []] σ (.mk:Tg (K,Kp)):=by
 refine vf (by simp) ?_;unfold pM aP;intro Q au aA aB;repeat' first|simp (disch:=omega) only[go_sem,au,aA,aB,hp]|refine aq ?_|refine ak ?_ ?_<;>intro hw<;>try omega|fail
 exact hk
def D5(hp:cU .and .i64 p d=0)(hk:jk .ae (.mk:Tg fun r=>K r σ)): oF Tryz.prog l_ [I p,I d,.fn (.func F) [.ref k 0] []] σ (.mk:Tg (K,Kp)):=by
 refine vg (by simp) ?_;unfold pN aP;intro Q au aA aB;repeat' first|simp (disch:=omega) only[go_sem,au,aA,aB,hp]|refine aq ?_|refine ak ?_ ?_<;>intro hw<;>try omega|fail
 exact hk
abbrev tc0: aX:= .cells [.str [],.ae,.ae,I 0,I 0,.ae]
def D6(hp:cU .and .i64 p d=0)(hk:jk (.agg [.str [],.ae,.ae,I 0,I 0,.ae]) (.mk:Tg fun r=>vH (σ++[tc0]++[tc0]) (.mk:Tg fun σ=>K r σ))): oF Tryz.prog mP [I p,I d,.fn (.func F) [.ref k 0] []] σ (.mk:Tg (K,Kp)):=by
 refine wF (by simp) ?_;unfold qH aP;intro Q au aA aB;repeat' first|simp (disch:=omega) only[go_sem,au,aA,aB,hp]|refine aq ?_|refine ak ?_ ?_<;>intro hw<;>try omega|fail
 exact hk
def Ma{n:Int}(hp:cU .and .i64 p d≠0)(h:bj Tryz.prog F 0 [] cs ds (I n))(qT : σ[k]? = some (.cells cs))(hk:jk (I n) (.mk:Tg fun r=>vH (σ.set k (.cells ds)) (.mk:Tg fun σ=>K r σ))): oF Tryz.prog jX [I p,I d,.fn (.func F) [.ref k 0] []] σ (.mk:Tg (K,Kp)):=by
 refine yB (by simp) ?_;unfold sW aP;intro Q au aA aB;repeat' first|simp (disch:=omega) only[go_sem,au,aA,aB,hp,qT]|refine aq ?_|with_reducible refine yR h qT ?_|refine ak ?_ ?_<;>intro hw<;>try omega|fail
 all_goals first|exact aY|exact hk
def acm{n:aJ}(hp:cU .and .i64 p d≠0)(h:bj Tryz.prog F 0 [] cs ds (.str n))(qT : σ[k]? = some (.cells cs))(hk:jk (.str n) (.mk:Tg fun r=>vH (σ.set k (.cells ds)) (.mk:Tg fun σ=>K r σ))): oF Tryz.prog l8 [I p,I d,.fn (.func F) [.ref k 0] []] σ (.mk:Tg (K,Kp)):=by
 refine vf (by simp) ?_;unfold pM aP;intro Q au aA aB;repeat' first|simp (disch:=omega) only[go_sem,au,aA,aB,hp,qT]|refine aq ?_|with_reducible refine yR h qT ?_|refine ak ?_ ?_<;>intro hw<;>try omega|fail
 all_goals first|exact aY|exact hk
def agz{l:List AV}(hp:cU .and .i64 p d≠0)(h:bj Tryz.prog F 0 [] cs ds (.aK false EV l))(qT : σ[k]? = some (.cells cs))(hk:jk (.aK false EV l) (.mk:Tg fun r=>vH (σ.set k (.cells ds)) (.mk:Tg fun σ=>K r σ))): oF Tryz.prog l_ [I p,I d,.fn (.func F) [.ref k 0] []] σ (.mk:Tg (K,Kp)):=by
 refine vg (by simp) ?_;unfold pN aP;intro Q au aA aB;repeat' first|simp (disch:=omega) only[go_sem,au,aA,aB,hp,qT]|refine aq ?_|with_reducible refine yR h qT ?_|refine ak ?_ ?_<;>intro hw<;>try omega|fail
 all_goals first|exact aY|exact hk
def agA{o:aX}(h : σ[k]? = some o)(x y:aX): (σ++[x]++[y])[k]? = some o:=by
 have:=(aN.1 h).1;rw[List.getElem?_append_left (by simp;omega),List.getElem?_append_left this];exact h
def agB{a:aJ}{b c f:List AV}{m n:Int}(hp:cU .and .i64 p d≠0)(h:bj Tryz.prog F 0 [] cs ds (.agg [.str a,.aK false EC b,.aK false EC c,I m,I n,.aK false ER f]))(qT : σ[k]? = some (.cells cs))(hk:jk (.agg [.str a,.aK false EC b,.aK false EC c,I m,I n,.aK false ER f]) (.mk:Tg fun r=>vH (σ.set k (.cells ds)++[.cells [.str a,.aK false EC b,.aK false EC c,I m,I n,.aK false ER f]]++[tc0]) (.mk:Tg fun σ=>K r σ))): oF Tryz.prog mP [I p,I d,.fn (.func F) [.ref k 0] []] σ (.mk:Tg (K,Kp)):=by
 have h1:=agA qT;have h2:∀ (x y o:aX),(σ++[x]++[y]).set k o = σ.set k o++[x]++[y]:=fun x y o=>Mi qT o
 have h3:∀ (x y o:aX),(σ.set k o++[x]++[y])[σ.length]? = some x:=fun x y o=>by
  rw[List.getElem?_append_left (by simp),bU (by simp)];simp
 have h4:∀ (x y z o:aX),(σ.set k o++[x]++[y]).set σ.length z = σ.set k o++[z]++[y]:=fun x y z o=>by
  rw[fA _ _ (by simp),List.set_append_right _ _ (by simp)];simp
 refine wF (by simp) ?_;unfold qH aP;intro Q au aA aB;repeat' first|simp (disch:=omega) only[go_sem,au,aA,aB,hp,h2,h3,h4]|refine aq ?_|with_reducible refine yR h (h1 _ _) ?_|refine ak ?_ ?_<;>intro hw<;>try omega|fail
 all_goals first|exact aY|exact hk
end
end Go.Proofs.YtmbgnaoilncbnaaGreatDoor
namespace Go.Proofs.YtmbgnaoilncbnaaGreatDoor
open Go.AM
set_option maxRecDepth 4000
def TN(p:eH × Int): AV:= .bX [cC p.1,I p.2]
def Zn{s:aJ}(h:(takeN s).1=1): jM s = { ik with kind:=1,table:=(fX false (cj (takeN s).2.1 4000).1).1 }:=by
 unfold jM;dsimp only;rw[h,if_pos rfl]
def Zo{s:aJ}(h:(takeN s).1=2): jM s = { ik with kind:=2,name:=(cj (takeN s).2.1 4000).1,di:=(takeN (cj (takeN s).2.1 4000).2.1).1,row:=(ig (takeN (cj (takeN s).2.1 4000).2.1).2.1 6).1 }:=by
 unfold jM;dsimp only;rw[h,if_neg (by decide),if_pos rfl]
def Zp{s:aJ}(h:(takeN s).1=3): jM s = { ik with kind:=3,name:=(cj (takeN s).2.1 4000).1,di:=(takeN (cj (takeN s).2.1 4000).2.1).1 }:=by
 unfold jM;dsimp only;rw[h,if_neg (by decide),if_neg (by decide),if_pos rfl]
def Zq{s:aJ}(h:(takeN s).1=5): jM s = { ik with kind:=5,kN:=(takeN (takeN s).2.1).1,lU:=(takeN (takeN (takeN s).2.1).2.1).1 }:=by
 unfold jM;dsimp only;rw[h,if_neg (by decide),if_neg (by decide),if_neg (by decide),if_pos rfl]
def Zr{s:aJ}(h:(takeN s).1=6): jM s = { ik with kind:=6,kN:=(takeN (takeN s).2.1).1 }:=by
 unfold jM;dsimp only;rw[h,if_neg (by decide),if_neg (by decide),if_neg (by decide),if_neg (by decide),if_pos rfl]
def Zs{s:aJ}(h:¬((takeN s).1=1\/(takeN s).1=2\/(takeN s).1=3\/(takeN s).1=5\/(takeN s).1=6)): jM s = { ik with kind:=(takeN s).1 }:=by
 unfold jM;dsimp only;rw[if_neg (by omega),if_neg (by omega),if_neg (by omega),if_neg (by omega),if_neg (by omega)]
def NU{s:aJ}(h:(dW (jM s)).2≠0\/(dW (jM s)).1≠s): parseCmd s=(ik,4):=by
 unfold parseCmd;rw[if_neg];intro e;rw[e]at h;rcases h with h|h<;>exact h rfl
def Mb{s:aJ}(h:(dW (jM s)).2=0)(h':(dW (jM s)).1=s): parseCmd s=(jM s,0):=by
 unfold parseCmd;rw[if_pos (Prod.ext h' h)]
def kO{σ : aj}: View σ (.agg [I 0,.str [],.ae,.ae,I 0,I 0,.ae,.str [],I 0,.ae,I 0,I 0]) (cC ik):=iG (c:=ik) (.ae _) (.ae _) (.ae _) (.ae _)
set_option maxHeartbeats 4000000 in
def rE(s:aJ)(hs:s.length<=2 ^ 20): ai Tryz.prog kg [.str s] (TN (parseCmd s)):=by
 have cB:=oB (jM s) (Sz hs);have hno:=@NU s;have hyes:=@Mb s;have c1:=rV s (by omega);have c2:=D3 (takeN s).1;obtain⟨u1,u2,u4,u8,u16⟩:=SE (takeN s).1;have hl:=(dZ s).1;have r1:=@Zn s;have r2:=@Zo s;have r3:=@Zp s;have r5:=@Zq s;have r6:=@Zr s;have r0:=@Zs s;generalize takeN s=t at *;obtain⟨n,r,e⟩:=t;dsimp only at *;generalize r_ n=p at *;generalize Xb n=o at *;by_cases k1:n=1
 ·subst k1;rw[r1 rfl]at cB hno hyes;clear r1 r2 r3 r5 r6 r0;have f1:=u1.2 (by omega);have f2:cU .and .i64 p 2=0:=Classical.not_not.1 fun h=>by have:=u2.1 h;omega
  have f4:cU .and .i64 p 4=0:=Classical.not_not.1 fun h=>by have:=u4.1 h;omega
  have f8:cU .and .i64 p 8=0:=Classical.not_not.1 fun h=>by have:=u8.1 h;omega
  have f16:cU .and .i64 p 16=0:=Classical.not_not.1 fun h=>by have:=u16.1 h;omega
  clear u1 u2 u4 u8 u16;have d1:=UO r (by omega);generalize cj r 4000=q at *;obtain⟨tx,r1,e1⟩:=q;dsimp only at *;generalize fX false tx=q at *;obtain⟨tb,e2⟩:=q;dsimp only at *;simp only[ik]at cB hno hyes;generalize dW ⟨1,tb,[],0,[],0,0⟩=B at *;obtain⟨bs,be⟩:=B;dsimp only at *;obtain⟨E,hE⟩:∃ E,parseCmd s=E:=⟨_,rfl⟩;rw[hE]at hno hyes ⊢;simp only[eB,bS,dy,bB,cW,cH,cC,dQ,bM,bt,eN,eS,qP,qQ]at cB c1 d1;refine ai.aG (lj (by simp) ?_) (by simp);unfold kx aP;intro Q au aA aB;repeat' first|refine aq ?_|refine bh c1 ?_|refine aC c2 ?_|with_reducible refine agB f1 d1 rfl ?_|with_reducible refine Iy f2 ?_|with_reducible refine lC f2 ?_|with_reducible refine D5 f4 ?_|with_reducible refine lC f8 ?_|with_reducible refine lC f16 ?_|refine qo cB ?_|refine ak ?_ ?_<;>intro hw<;>try omega|fail
  all_goals first
   | exact aY
   |(rw[hno (by first|exact .inl (by assumption)|exact .inr (by assumption))];exact bq (fN kO))
   |(rw[hyes (by assumption) (by assumption)];exact bq (fN (iG (c:=⟨1,tb,[],0,[],0,0⟩) (rD (tf _)) (rD (tf _)) (rD (Ae _)) (.ae _))))
   | trace_state
 by_cases k2:n=2
 ·subst k2;rw[r2 rfl]at cB hno hyes;clear r1 r2 r3 r5 r6 r0;have f1:cU .and .i64 p 1=0:=Classical.not_not.1 fun h=>by have:=u1.1 h;omega
  have f2:=u2.2 (by omega);have f4:=u4.2 (by omega);have f8:cU .and .i64 p 8=0:=Classical.not_not.1 fun h=>by have:=u8.1 h;omega
  have f16:cU .and .i64 p 16=0:=Classical.not_not.1 fun h=>by have:=u16.1 h;omega
  clear u1 u2 u4 u8 u16;have d1:=D4 r (by omega);have pX:=(jh r 4000).2.1;generalize cj r 4000=q at *;obtain⟨nm,r1,e1⟩:=q;dsimp only at *;have d2:=rV r1 (by omega);have Jt:=(dZ r1).1;generalize takeN r1=q at *;obtain⟨v,r2,e2⟩:=q;dsimp only at *;have d3:=Ys r2 (by omega);generalize ig r2 6=q at *;obtain⟨l,r3,e3⟩:=q;dsimp only at *;simp only[ik]at cB hno hyes;generalize dW ⟨2,bM,nm,v,l,0,0⟩=B at *;obtain⟨bs,be⟩:=B;dsimp only at *;obtain⟨E,hE⟩:∃ E,parseCmd s=E:=⟨_,rfl⟩;rw[hE]at hno hyes ⊢;simp only[eB,bS,dy,bB,cW,cH,cC,dQ,bM,bt,eN,eS,qP,qQ]at cB c1 d1 d2 d3;refine ai.aG (lj (by simp) ?_) (by simp);unfold kx aP;intro Q au aA aB;repeat' first|refine aq ?_|refine bh c1 ?_|refine aC c2 ?_|with_reducible refine D6 f1 ?_|with_reducible refine acm f2 d1 rfl ?_|with_reducible refine Ma f2 d2 rfl ?_|with_reducible refine agz f4 d3 rfl ?_|with_reducible refine lC f8 ?_|with_reducible refine lC f16 ?_|refine qo cB ?_|refine ak ?_ ?_<;>intro hw<;>try omega|fail
  all_goals first
   | exact aY
   |(rw[hno (by first|exact .inl (by assumption)|exact .inr (by assumption))];exact bq (fN kO))
   |(rw[hyes (by assumption) (by assumption)];exact bq (fN (iG (c:=⟨2,bM,nm,v,l,0,0⟩) (.ae _) (.ae _) (.ae _) (rD (GH _)))))
   | trace_state
 by_cases k3:n=3
 ·subst k3;rw[r3 rfl]at cB hno hyes;clear r1 r2 r3 r5 r6 r0;have f1:cU .and .i64 p 1=0:=Classical.not_not.1 fun h=>by have:=u1.1 h;omega
  have f2:=u2.2 (by omega);have f4:cU .and .i64 p 4=0:=Classical.not_not.1 fun h=>by have:=u4.1 h;omega
  have f8:cU .and .i64 p 8=0:=Classical.not_not.1 fun h=>by have:=u8.1 h;omega
  have f16:cU .and .i64 p 16=0:=Classical.not_not.1 fun h=>by have:=u16.1 h;omega
  clear u1 u2 u4 u8 u16;have d1:=D4 r (by omega);have pX:=(jh r 4000).2.1;generalize cj r 4000=q at *;obtain⟨nm,r1,e1⟩:=q;dsimp only at *;have d2:=rV r1 (by omega);have Jt:=(dZ r1).1;generalize takeN r1=q at *;obtain⟨v,r2,e2⟩:=q;dsimp only at *;simp only[ik]at cB hno hyes;generalize dW ⟨3,bM,nm,v,[],0,0⟩=B at *;obtain⟨bs,be⟩:=B;dsimp only at *;obtain⟨E,hE⟩:∃ E,parseCmd s=E:=⟨_,rfl⟩;rw[hE]at hno hyes ⊢;simp only[eB,bS,dy,bB,cW,cH,cC,dQ,bM,bt,eN,eS,qP,qQ]at cB c1 d1 d2;refine ai.aG (lj (by simp) ?_) (by simp);unfold kx aP;intro Q au aA aB;repeat' first|refine aq ?_|refine bh c1 ?_|refine aC c2 ?_|with_reducible refine D6 f1 ?_|with_reducible refine acm f2 d1 rfl ?_|with_reducible refine Ma f2 d2 rfl ?_|with_reducible refine D5 f4 ?_|with_reducible refine lC f8 ?_|with_reducible refine lC f16 ?_|refine qo cB ?_|refine ak ?_ ?_<;>intro hw<;>try omega|fail
  all_goals first
   | exact aY
   |(rw[hno (by first|exact .inl (by assumption)|exact .inr (by assumption))];exact bq (fN kO))
   |(rw[hyes (by assumption) (by assumption)];exact bq (fN (iG (c:=⟨3,bM,nm,v,[],0,0⟩) (.ae _) (.ae _) (.ae _) (.ae _))))
   | trace_state
 by_cases k5:n=5
 ·subst k5;rw[r5 rfl]at cB hno hyes;clear r1 r2 r3 r5 r6 r0;have f1:cU .and .i64 p 1=0:=Classical.not_not.1 fun h=>by have:=u1.1 h;omega
  have f2:cU .and .i64 p 2=0:=Classical.not_not.1 fun h=>by have:=u2.1 h;omega
  have f4:cU .and .i64 p 4=0:=Classical.not_not.1 fun h=>by have:=u4.1 h;omega
  have f8:=u8.2 (by omega);have f16:=u16.2 (by omega);clear u1 u2 u4 u8 u16;have d1:=rV r (by omega);have pX:=(dZ r).1;generalize takeN r=q at *;obtain⟨f,r1,e1⟩:=q;dsimp only at *;have d2:=rV r1 (by omega);generalize takeN r1=q at *;obtain⟨m,r2,e2⟩:=q;dsimp only at *;simp only[ik]at cB hno hyes;generalize dW ⟨5,bM,[],0,[],f,m⟩=B at *;obtain⟨bs,be⟩:=B;dsimp only at *;obtain⟨E,hE⟩:∃ E,parseCmd s=E:=⟨_,rfl⟩;rw[hE]at hno hyes ⊢;simp only[eB,bS,dy,bB,cW,cH,cC,dQ,bM,bt,eN,eS,qP,qQ]at cB c1 d1 d2;refine ai.aG (lj (by simp) ?_) (by simp);unfold kx aP;intro Q au aA aB;repeat' first|refine aq ?_|refine bh c1 ?_|refine aC c2 ?_|with_reducible refine D6 f1 ?_|with_reducible refine Iy f2 ?_|with_reducible refine lC f2 ?_|with_reducible refine D5 f4 ?_|with_reducible refine Ma f8 d1 rfl ?_|with_reducible refine Ma f16 d2 rfl ?_|refine qo cB ?_|refine ak ?_ ?_<;>intro hw<;>try omega|fail
  all_goals first
   | exact aY
   |(rw[hno (by first|exact .inl (by assumption)|exact .inr (by assumption))];exact bq (fN kO))
   |(rw[hyes (by assumption) (by assumption)];exact bq (fN (iG (c:=⟨5,bM,[],0,[],f,m⟩) (.ae _) (.ae _) (.ae _) (.ae _))))
   | trace_state
 by_cases k6:n=6
 ·subst k6;rw[r6 rfl]at cB hno hyes;clear r1 r2 r3 r5 r6 r0;have f1:cU .and .i64 p 1=0:=Classical.not_not.1 fun h=>by have:=u1.1 h;omega
  have f2:cU .and .i64 p 2=0:=Classical.not_not.1 fun h=>by have:=u2.1 h;omega
  have f4:cU .and .i64 p 4=0:=Classical.not_not.1 fun h=>by have:=u4.1 h;omega
  have f8:=u8.2 (by omega);have f16:cU .and .i64 p 16=0:=Classical.not_not.1 fun h=>by have:=u16.1 h;omega
  clear u1 u2 u4 u8 u16;have d1:=rV r (by omega);have pX:=(dZ r).1;generalize takeN r=q at *;obtain⟨f,r1,e1⟩:=q;dsimp only at *;simp only[ik]at cB hno hyes;generalize dW ⟨6,bM,[],0,[],f,0⟩=B at *;obtain⟨bs,be⟩:=B;dsimp only at *;obtain⟨E,hE⟩:∃ E,parseCmd s=E:=⟨_,rfl⟩;rw[hE]at hno hyes ⊢;simp only[eB,bS,dy,bB,cW,cH,cC,dQ,bM,bt,eN,eS,qP,qQ]at cB c1 d1;refine ai.aG (lj (by simp) ?_) (by simp);unfold kx aP;intro Q au aA aB;repeat' first|refine aq ?_|refine bh c1 ?_|refine aC c2 ?_|with_reducible refine D6 f1 ?_|with_reducible refine Iy f2 ?_|with_reducible refine lC f2 ?_|with_reducible refine D5 f4 ?_|with_reducible refine Ma f8 d1 rfl ?_|with_reducible refine lC f16 ?_|refine qo cB ?_|refine ak ?_ ?_<;>intro hw<;>try omega|fail
  all_goals first
   | exact aY
   |(rw[hno (by first|exact .inl (by assumption)|exact .inr (by assumption))];exact bq (fN kO))
   |(rw[hyes (by assumption) (by assumption)];exact bq (fN (iG (c:=⟨6,bM,[],0,[],f,0⟩) (.ae _) (.ae _) (.ae _) (.ae _))))
   | trace_state
 rw[r0 (by omega)]at cB hno hyes;clear r1 r2 r3 r5 r6 r0;have f1:cU .and .i64 p 1=0:=Classical.not_not.1 fun h=>by have:=u1.1 h;omega
 have f2:cU .and .i64 p 2=0:=Classical.not_not.1 fun h=>by have:=u2.1 h;omega
 have f4:cU .and .i64 p 4=0:=Classical.not_not.1 fun h=>by have:=u4.1 h;omega
 have f8:cU .and .i64 p 8=0:=Classical.not_not.1 fun h=>by have:=u8.1 h;omega
 have f16:cU .and .i64 p 16=0:=Classical.not_not.1 fun h=>by have:=u16.1 h;omega
 clear u1 u2 u4 u8 u16;simp only[ik]at cB hno hyes;generalize dW ⟨n,bM,[],0,[],0,0⟩=B at *;obtain⟨bs,be⟩:=B;dsimp only at *;obtain⟨E,hE⟩:∃ E,parseCmd s=E:=⟨_,rfl⟩;rw[hE]at hno hyes ⊢;simp only[eB,bS,dy,bB,cW,cH,cC,dQ,bM,bt,eN,eS,qP,qQ]at cB c1;refine ai.aG (lj (by simp) ?_) (by simp);unfold kx aP;intro Q au aA aB;repeat' first|refine aq ?_|refine bh c1 ?_|refine aC c2 ?_|with_reducible refine D6 f1 ?_|with_reducible refine Iy f2 ?_|with_reducible refine lC f2 ?_|with_reducible refine D5 f4 ?_|with_reducible refine lC f8 ?_|with_reducible refine lC f16 ?_|refine qo cB ?_|refine ak ?_ ?_<;>intro hw<;>try omega|fail
 all_goals first
  | exact aY
  |(rw[hno (by first|exact .inl (by assumption)|exact .inr (by assumption))];exact bq (fN kO))
  |(rw[hyes (by assumption) (by assumption)];exact bq (fN (iG (c:=⟨n,bM,[],0,[],0,0⟩) (.ae _) (.ae _) (.ae _) (.ae _))))
  | trace_state
set_option maxHeartbeats 4000000 in
def NV(s:aJ)(hs:s.length<=2 ^ 20): ai Tryz.prog vJ [.str s] (TN (parseCmd s)):=by
 have cB:=FR (jM s) (Sz hs);have hno:=@NU s;have hyes:=@Mb s;have c1:=gW s (by omega);have hl:=(dZ s).1;have r1:=@Zn s;have r2:=@Zo s;have r3:=@Zp s;have r5:=@Zq s;have r6:=@Zr s;have r0:=@Zs s;generalize takeN s=t at *;obtain⟨n,r,e⟩:=t;dsimp only at *;by_cases k1:n=1
 ·subst k1;rw[r1 rfl]at cB hno hyes;clear r1 r2 r3 r5 r6 r0;have d1:=nq r 4000 (by omega);have d2:=Yl (cj r 4000).1;rw[<-adH]at d2;generalize cj r 4000=q at *;obtain⟨tx,r1,e1⟩:=q;dsimp only at *;generalize fX false tx=q at *;obtain⟨tb,e2⟩:=q;dsimp only at *;simp only[ik]at cB hno hyes;generalize dW ⟨1,tb,[],0,[],0,0⟩=B at *;obtain⟨bs,be⟩:=B;dsimp only at *;obtain⟨E,hE⟩:∃ E,parseCmd s=E:=⟨_,rfl⟩;rw[hE]at hno hyes ⊢;simp only[eB,bS,dy,bB,cW,cH,cC,dQ,bM,bt,eN,eS,qP,qQ]at cB c1 d1 d2;refine ai.aG (nj (by simp) ?_) (by simp);unfold mD aP;intro Q au aA aB;repeat' first|refine aq ?_|refine aC c1 ?_|refine aC d1 ?_|refine aC d2 ?_|refine qo cB ?_|refine ak ?_ ?_<;>intro hw<;>try omega|fail
  all_goals first
   | exact aY
   |(rw[hno (by first|exact .inl (by assumption)|exact .inr (by assumption))];exact bq (fN kO))
   |(rw[hyes (by assumption) (by assumption)];exact bq (fN (iG (c:=⟨1,tb,[],0,[],0,0⟩) (rD (tf _)) (rD (tf _)) (rD (Ae _)) (.ae _))))
   | trace_state
 by_cases k2:n=2
 ·subst k2;rw[r2 rfl]at cB hno hyes;clear r1 r2 r3 r5 r6 r0;have d1:=nq r 4000 (by omega);have pX:=(jh r 4000).2.1;generalize cj r 4000=q at *;obtain⟨nm,r1,e1⟩:=q;dsimp only at *;have d2:=gW r1 (by omega);have Jt:=(dZ r1).1;generalize takeN r1=q at *;obtain⟨v,r2,e2⟩:=q;dsimp only at *;have d3:=JD r2 6 (by omega);generalize ig r2 6=q at *;obtain⟨l,r3,e3⟩:=q;dsimp only at *;simp only[ik]at cB hno hyes;generalize dW ⟨2,bM,nm,v,l,0,0⟩=B at *;obtain⟨bs,be⟩:=B;dsimp only at *;obtain⟨E,hE⟩:∃ E,parseCmd s=E:=⟨_,rfl⟩;rw[hE]at hno hyes ⊢;simp only[eB,bS,dy,bB,cW,cH,cC,dQ,bM,bt,eN,eS,qP,qQ]at cB c1 d1 d2 d3;refine ai.aG (nj (by simp) ?_) (by simp);unfold mD aP;intro Q au aA aB;repeat' first|refine aq ?_|refine aC c1 ?_|refine aC d1 ?_|refine aC d2 ?_|refine aC d3 ?_|refine qo cB ?_|refine ak ?_ ?_<;>intro hw<;>try omega|fail
  all_goals first
   | exact aY
   |(rw[hno (by first|exact .inl (by assumption)|exact .inr (by assumption))];exact bq (fN kO))
   |(rw[hyes (by assumption) (by assumption)];exact bq (fN (iG (c:=⟨2,bM,nm,v,l,0,0⟩) (.ae _) (.ae _) (.ae _) (rD (GH _)))))
   | trace_state
 by_cases k3:n=3
 ·subst k3;rw[r3 rfl]at cB hno hyes;clear r1 r2 r3 r5 r6 r0;have d1:=nq r 4000 (by omega);have pX:=(jh r 4000).2.1;generalize cj r 4000=q at *;obtain⟨nm,r1,e1⟩:=q;dsimp only at *;have d2:=gW r1 (by omega);have Jt:=(dZ r1).1;generalize takeN r1=q at *;obtain⟨v,r2,e2⟩:=q;dsimp only at *;simp only[ik]at cB hno hyes;generalize dW ⟨3,bM,nm,v,[],0,0⟩=B at *;obtain⟨bs,be⟩:=B;dsimp only at *;obtain⟨E,hE⟩:∃ E,parseCmd s=E:=⟨_,rfl⟩;rw[hE]at hno hyes ⊢;simp only[eB,bS,dy,bB,cW,cH,cC,dQ,bM,bt,eN,eS,qP,qQ]at cB c1 d1 d2;refine ai.aG (nj (by simp) ?_) (by simp);unfold mD aP;intro Q au aA aB;repeat' first|refine aq ?_|refine aC c1 ?_|refine aC d1 ?_|refine aC d2 ?_|refine qo cB ?_|refine ak ?_ ?_<;>intro hw<;>try omega|fail
  all_goals first
   | exact aY
   |(rw[hno (by first|exact .inl (by assumption)|exact .inr (by assumption))];exact bq (fN kO))
   |(rw[hyes (by assumption) (by assumption)];exact bq (fN (iG (c:=⟨3,bM,nm,v,[],0,0⟩) (.ae _) (.ae _) (.ae _) (.ae _))))
   | trace_state
 by_cases k5:n=5
 ·subst k5;rw[r5 rfl]at cB hno hyes;clear r1 r2 r3 r5 r6 r0;have d1:=gW r (by omega);have pX:=(dZ r).1;generalize takeN r=q at *;obtain⟨f,r1,e1⟩:=q;dsimp only at *;have d2:=gW r1 (by omega);generalize takeN r1=q at *;obtain⟨m,r2,e2⟩:=q;dsimp only at *;simp only[ik]at cB hno hyes;generalize dW ⟨5,bM,[],0,[],f,m⟩=B at *;obtain⟨bs,be⟩:=B;dsimp only at *;obtain⟨E,hE⟩:∃ E,parseCmd s=E:=⟨_,rfl⟩;rw[hE]at hno hyes ⊢;simp only[eB,bS,dy,bB,cW,cH,cC,dQ,bM,bt,eN,eS,qP,qQ]at cB c1 d1 d2;refine ai.aG (nj (by simp) ?_) (by simp);unfold mD aP;intro Q au aA aB;repeat' first|refine aq ?_|refine aC c1 ?_|refine aC d1 ?_|refine aC d2 ?_|refine qo cB ?_|refine ak ?_ ?_<;>intro hw<;>try omega|fail
  all_goals first
   | exact aY
   |(rw[hno (by first|exact .inl (by assumption)|exact .inr (by assumption))];exact bq (fN kO))
   |(rw[hyes (by assumption) (by assumption)];exact bq (fN (iG (c:=⟨5,bM,[],0,[],f,m⟩) (.ae _) (.ae _) (.ae _) (.ae _))))
   | trace_state
 by_cases k6:n=6
 ·subst k6;rw[r6 rfl]at cB hno hyes;clear r1 r2 r3 r5 r6 r0;have d1:=gW r (by omega);have pX:=(dZ r).1;generalize takeN r=q at *;obtain⟨f,r1,e1⟩:=q;dsimp only at *;simp only[ik]at cB hno hyes;generalize dW ⟨6,bM,[],0,[],f,0⟩=B at *;obtain⟨bs,be⟩:=B;dsimp only at *;obtain⟨E,hE⟩:∃ E,parseCmd s=E:=⟨_,rfl⟩;rw[hE]at hno hyes ⊢;simp only[eB,bS,dy,bB,cW,cH,cC,dQ,bM,bt,eN,eS,qP,qQ]at cB c1 d1;refine ai.aG (nj (by simp) ?_) (by simp);unfold mD aP;intro Q au aA aB;repeat' first|refine aq ?_|refine aC c1 ?_|refine aC d1 ?_|refine qo cB ?_|refine ak ?_ ?_<;>intro hw<;>try omega|fail
  all_goals first
   | exact aY
   |(rw[hno (by first|exact .inl (by assumption)|exact .inr (by assumption))];exact bq (fN kO))
   |(rw[hyes (by assumption) (by assumption)];exact bq (fN (iG (c:=⟨6,bM,[],0,[],f,0⟩) (.ae _) (.ae _) (.ae _) (.ae _))))
   | trace_state
 rw[r0 (by omega)]at cB hno hyes;clear r1 r2 r3 r5 r6 r0;simp only[ik]at cB hno hyes;generalize dW ⟨n,bM,[],0,[],0,0⟩=B at *;obtain⟨bs,be⟩:=B;dsimp only at *;obtain⟨E,hE⟩:∃ E,parseCmd s=E:=⟨_,rfl⟩;rw[hE]at hno hyes ⊢;simp only[eB,bS,dy,bB,cW,cH,cC,dQ,bM,bt,eN,eS,qP,qQ]at cB c1;refine ai.aG (nj (by simp) ?_) (by simp);unfold mD aP;intro Q au aA aB;repeat' first|refine aq ?_|refine aC c1 ?_|refine qo cB ?_|refine ak ?_ ?_<;>intro hw<;>try omega|fail
 all_goals first
  | exact aY
  |(rw[hno (by first|exact .inl (by assumption)|exact .inr (by assumption))];exact bq (fN kO))
  |(rw[hyes (by assumption) (by assumption)];exact bq (fN (iG (c:=⟨n,bM,[],0,[],0,0⟩) (.ae _) (.ae _) (.ae _) (.ae _))))
  | trace_state
end Go.Proofs.YtmbgnaoilncbnaaGreatDoor
namespace Go.Proofs.YtmbgnaoilncbnaaGreatDoor
open Go.AM
set_option maxRecDepth 4000
abbrev EM: El:=⟨true,12⟩
def jN(l:List eH): AV:= .aK false EM (l.map cC)
def Iz(l:List eH): AV.cy (l.map cC)=true:=gZ _ _ Xa
def acn(l:List eH): (jN l).dn=true:=by simp[jN,AV.dn,Iz]
attribute [simp] Iz acn
attribute [go_sem] cC dQ
def TP{l:List eH}{i:Nat}(hl:l.length<=64)(hi:i<l.length)(hk:∀ k,k<i->cY (l.getD k default)=0)(h:cY (l.getD i default)≠0): ji l=([],cY (l.getD i default)):=by
 unfold ji;rw[if_neg (by omega),wN hi (fun k h=>by rw[hk k h];rfl) (by simpa using h)]
def agC{l:List eH}(h:∀ k,k<l.length->cY (l.getD k default)=0): ∀ c ∈ l,cY c=0:=fun c hc=>by
 obtain⟨k,hk,rfl⟩:=bW hc;have:=h k hk;simpa[aE,hk]using this
def aa2{l:List eH}{i:Nat}(hi:i<l.length): ((l.take (i+1)).map gJ).map cS=((l.take i).map gJ).map cS++[.str (gJ (l.getD i default))]:=by
 rw[take_succ hi];simp[cS]
set_option maxHeartbeats 4000000 in
def Bp(l:List eH)(hl:l.length<=2 ^ 30)(ok:∀ c ∈ l,jo c): ai Tryz.prog oG [jN l] (eB (ji l)):=by
 obtain⟨E,hE⟩:∃ E,ji l=E:=⟨_,rfl⟩;rw[hE];simp only[eB,jN];refine ai.aG (Oc (by simp) ?_) (by simp);unfold Ew aP;intro Q au aA aB;by_cases kA:64<l.length
 ·repeat' first|refine aq ?_|refine ak ?_ ?_<;>intro hw<;>try omega|fail
  all_goals first|exact aY|(refine aT ?_ rfl;rw[<-hE];unfold ji;rw[if_pos kA])
 repeat' first|refine aq ?_|refine ak ?_ ?_<;>intro hw<;>try omega|fail
 all_goals first|exact aY|skip
 with_reducible refine bn [2,3,4,6,7,8,14,15,16,17,18,19,20,21,22,23,24,25,26,27,28,29,30] (fun q:Nat × List aX=>[(14,I q.1),(4,.own E1 0 q.1 0 q.1)]) (fun q=> .vec E1 (((l.take q.1).map gJ).map cS)::q.2) (fun q=>q.1<=l.length/\ ∀ k,k<q.1->cY (l.getD k default)=0) (fun q=>l.length-q.1) ((0,[])) ?_ ?_ ?_ ?_
 ·simp
 ·rfl
 ·exact at_
 rintro⟨i,τ⟩ r ⟨g1,g2⟩;dsimp only at g1 g2;by_cases hi:i<l.length
 ·have hc:=oB _ (ok _ (a_ hi));have gH:=aa2 hi;have bY:=fun he=>bf (q:=fun k=>cY (l.getD k default)=0) g2 (i:=i) he;have Mc:=TP (by omega) hi g2;have uK:(((l.take i).map gJ).map cS).length=i:=by simp;omega
  obtain⟨v,jy⟩:∃ v,l.getD i default=v:=⟨_,rfl⟩;rw[jy]at hc gH bY Mc;unfold dW at hc;generalize gJ v=S at *;by_cases h0:cY v=0
  ·rw[if_neg (by omega)]at hc;simp only[eB,cC,dQ]at hc;repeat' first|simp (disch:=omega) only[go_sem,au,aA,aB,jy,uK]|refine aq ?_|refine aC hc ?_|refine ak ?_ ?_<;>intro hw<;>try omega|fail
   all_goals first|exact aY|skip
   refine⟨(i+1,τ++[aX.cells (dQ v)]),?_,?_,?_,bJ,?_⟩
   ·exact⟨by dsimp only;omega,bY h0⟩
   ·dsimp only;omega
   ·dsimp only;rw[gH];first|done|rfl|(simp[go_sem];done)
   ·dsimp only;simp (disch:=omega) only[dm,cK,and_true,go_sem,au,aA,aB,Int.natCast_add,Int.cast_ofNat_Int]<;>(try trivial)<;>(try omega)<;>(try (repeat (first|trivial|(refine And.intro ?_ ?_)|(congr 1;omega))))
  ·rw[if_pos h0]at hc;rw[Mc h0]at hE;generalize cY v=e at *;simp only[eB,cC,dQ]at hc;repeat' first|simp (disch:=omega) only[go_sem,au,aA,aB,jy,uK]|refine aq ?_|refine aC hc ?_|refine ak ?_ ?_<;>intro hw<;>try omega|fail
   all_goals first|exact aY|(refine aT ?_ rfl;rw[<-hE])
 ·have agD:i=l.length:=by omega
  have hall:=agC (fun k hk=>g2 k (by omega))
  have hc:=Yo (l.map gJ) (by simp;omega) (fun t ht=>by
   obtain⟨c,hc,rfl⟩:=ek.1 ht;have:=DX (hall c hc);omega)
  rw[O8 (by omega) hall]at hE;generalize p_ (l.map gJ)=S at *;have ht:l.take i=l:=br (by omega);obtain⟨L,hL⟩:∃ L,l.map gJ=L:=⟨_,rfl⟩;have hLl:L.length=l.length:=by rw[<-hL];simp
  obtain rfl:i=L.length:=by omega
  rw[hL]at hc;simp only[eR]at hc;repeat' first|simp (disch:=omega) only[go_sem,au,aA,aB,ht,hL]|refine aq ?_|refine Td hc ?_|refine ak ?_ ?_<;>intro hw<;>try omega|fail
  all_goals first|exact aY|(refine aT ?_ rfl;rw[<-hE];done)|trace_state
def Yt{l:List eH}{i:Nat}(hi:i<l.length)(x:aJ): x++((l.take (i+1)).map gJ).flatMap bC=(x++((l.take i).map gJ).flatMap bC)++bC (gJ (l.getD i default)):=by
 rw[take_succ hi];simp
set_option maxHeartbeats 4000000 in
def Yu(l:List eH)(hl:l.length<=2 ^ 30)(ok:∀ c ∈ l,jo c): ai Tryz.prog Ay [jN l] (eB (ji l)):=by
 obtain⟨E,hE⟩:∃ E,ji l=E:=⟨_,rfl⟩;rw[hE];have h1:=jx l.length ⟨by omega,by omega⟩;have h2:=cM l.length;have Ho:=fun(h:l.length<=64) (hall:∀ c ∈ l,cY c=0)=>(O8 h hall).symm.trans hE;unfold p_ at Ho;simp only[cE]at Ho;generalize cG l.length=x at *;simp only[eB,jN];refine ai.aG (RK (by simp) ?_) (by simp);unfold IP aP;intro Q au aA aB;by_cases kA:64<l.length
 ·repeat' first|refine aq ?_|refine aC h1 ?_|refine ak ?_ ?_<;>intro hw<;>try omega|fail
  all_goals first|exact aY|(refine aT ?_ rfl;rw[<-hE];unfold ji;rw[if_pos kA])
 repeat' first|refine aq ?_|refine aC h1 ?_|refine ak ?_ ?_<;>intro hw<;>try omega|fail
 all_goals first|exact aY|skip
 with_reducible refine bn [2,3,4,5,6,7,14,15,16,17,18,19,20,21,22,23,24,25,26,27,28,29,30,31,32,33,34] (fun q:Nat=>[(5,I q),(4,.str (x++((l.take q).map gJ).flatMap bC))]) (fun q=>[]) (fun q=>q<=l.length/\x.length+(((l.take q).map gJ).flatMap bC).length<=10+q*4010/\ ∀ k,k<q->cY (l.getD k default)=0) (fun q=>l.length-q) (0) ?_ ?_ ?_ ?_
 ·simp;omega
 ·rfl
 ·simp only[eU,bt,eM,List.append_nil];simp (disch:=omega) only[dm,cK,and_true,go_sem,au,aA,aB,Int.natCast_add,Int.cast_ofNat_Int]<;>(try trivial)<;>(try omega)<;>(try (repeat (first|trivial|(refine And.intro ?_ ?_)|(congr 1;omega))))
 rintro i r ⟨g1,g3,g2⟩;by_cases hi:i<l.length
 ·have hc:=FR _ (ok _ (a_ hi));have gH:=Yt hi x;have bY:=fun he=>bf (q:=fun k=>cY (l.getD k default)=0) g2 (i:=i) he;have Mc:=TP (by omega) hi g2;obtain⟨v,jy⟩:∃ v,l.getD i default=v:=⟨_,rfl⟩;rw[jy]at hc gH bY Mc;unfold dW at hc;by_cases h0:cY v=0
  ·have hSl:=DX h0;rw[if_neg (by omega)]at hc;generalize gJ v=S at *;have h3:=oT S (by omega);have BC:=jz S;generalize bC S=z at *;obtain⟨y,hy⟩:∃ y,x++((l.take i).map gJ).flatMap bC=y:=⟨_,rfl⟩;have zP:y.length=x.length+(((l.take i).map gJ).flatMap bC).length:=by rw[<-hy,List.length_append]
   have o9:=congrArg List.length gH;rw[hy]at gH;simp only[List.length_append]at o9;have LX:=qa (a:=y.length) (b:=z.length) (by omega);simp only[eB,cC,dQ]at hc;repeat' first|simp (disch:=omega) only[go_sem,au,aA,aB,jy,hy]|refine aq ?_|refine aC hc ?_|refine aC h3 ?_|refine ak ?_ ?_<;>intro hw<;>try omega|fail
   all_goals first|exact aY|skip
   refine⟨i+1,?_,?_,?_,bJ,?_⟩
   ·exact⟨by omega,by omega,bY h0⟩
   ·dsimp only;omega
   ·first|rfl|(simp[go_sem];done)
   ·dsimp only;rw[gH];simp (disch:=omega) only[dm,cK,and_true,go_sem,au,aA,aB,Int.natCast_add,Int.cast_ofNat_Int]<;>(try trivial)<;>(try omega)<;>(try (repeat (first|trivial|(refine And.intro ?_ ?_)|(congr 1;omega))))
  ·rw[if_pos h0]at hc;rw[Mc h0]at hE;generalize cY v=e at *;simp only[eB,cC,dQ]at hc;repeat' first|simp (disch:=omega) only[go_sem,au,aA,aB,jy]|refine aq ?_|refine aC hc ?_|refine ak ?_ ?_<;>intro hw<;>try omega|fail
   all_goals first|exact aY|(refine aT ?_ rfl;rw[<-hE])
 ·have agD:i=l.length:=by omega
  subst agD;have ht:l.take l.length=l:=br (by omega);repeat' first|simp (disch:=omega) only[go_sem,au,aA,aB,ht]|refine aq ?_|refine ak ?_ ?_<;>intro hw<;>try omega|fail
  exact aT (by rw[<-Ho (by omega) (agC g2)]) rfl
end Go.Proofs.YtmbgnaoilncbnaaGreatDoor
namespace Go.Proofs.YtmbgnaoilncbnaaGreatDoor
open Go.AM
set_option maxRecDepth 4000
def Zt(p:List eH × Int): AV:= .bX [jN p.1,I p.2]
def FT(t:aJ): eH:=(parseCmd t).1
def Xd{s:aJ}(h:(dV s 64 4000).2.2≠0\/(dV s 64 4000).2.1≠[]): iv s=([],4):=by unfold iv;rw[if_pos h]
def TQ{s:aJ}{i:Nat}(h1:(dV s 64 4000).2.2=0)(h2:(dV s 64 4000).2.1=[])(hi:i<(dV s 64 4000).1.length)(h:(parseCmd ((dV s 64 4000).1.getD i default)).2≠0): iv s=([],4):=by
 unfold iv;rw[if_neg (by rw[h1,h2];simp),FJ (p:=fun t=>decide ((parseCmd t).2=0)) hi (by simpa using h)];rfl
def Xe{s:aJ}(h1:(dV s 64 4000).2.2=0)(h2:(dV s 64 4000).2.1=[])(h:∀ k,k<(dV s 64 4000).1.length->(parseCmd ((dV s 64 4000).1.getD k default)).2=0): iv s=((dV s 64 4000).1.map FT,0):=by
 unfold iv;rw[if_neg (by rw[h1,h2];simp),FI (p:=fun t=>decide ((parseCmd t).2=0)) (fun k hk=>by simpa using h k hk)];rfl
def IA{s:aJ}(h1:(dV s 64 4000).2.2=0)(h2:(dV s 64 4000).2.1=[]): (dV s 64 4000).1.length<=64/\ ∀ t ∈ (dV s 64 4000).1,t.length<=4000:=by
 have e:dV s 64 4000=((dV s 64 4000).1,[],0):=by rw[<-h1,<-h2]
 obtain⟨_,h3,h4⟩:=Q_ e;exact⟨by omega,fun t ht=>by have:=h4 t ht;omega⟩
def TR{l:List aJ}{i:Nat}(hi:i<l.length): ((l.take (i+1)).map FT).map cC=((l.take i).map FT).map cC++[cC (FT (l.getD i default))]:=by
 rw[take_succ hi];simp
set_option maxHeartbeats 4000000 in
def Bq(s:aJ)(hs:s.length<=2 ^ 20): ai Tryz.prog ko [.str s] (Zt (iv s)):=by
 have c1:=Rj s 64 4000 (by omega);have e1:=@Xd s;have e2:=@TQ s;have e3:=@Xe s;have hl:=@IA s;generalize dV s 64 4000=t at *;obtain⟨ts,rest,e⟩:=t;obtain⟨E,hE⟩:∃ E,iv s=E:=⟨_,rfl⟩;rw[hE]at e1 e3 ⊢;simp only[hE]at e2;dsimp only at *;simp only[Ri,eR]at c1;refine ai.aG (Od (by simp) ?_) (by simp);unfold Ex aP;intro Q au aA aB;by_cases hb:e≠0\/rest≠[]
 ·repeat' first|refine aq ?_|refine aC c1 ?_|refine ak ?_ ?_<;>intro hw<;>try omega|fail
  all_goals first|exact aY|(rw[e1 hb];exact bq (fN (View.ae _)))
 obtain⟨rfl,rfl⟩:e=0/\rest=[]:=⟨Classical.not_not.1 fun h=>hb (.inl h),Classical.not_not.1 fun h=>hb (.inr h)⟩;obtain⟨hl1,pX⟩:=hl rfl rfl;have e2:=fun i=>@e2 i rfl rfl;have e3:=e3 rfl rfl;repeat' first|refine aq ?_|refine aC c1 ?_|refine ak ?_ ?_<;>intro hw<;>try omega|fail
 all_goals first|exact aY|skip
 with_reducible refine bn [2,3,7,9,10,11,26,27,28,29,30,31,32,33,34,35,36,37,38,39,40,41] (fun q:Nat × List aX=>[(26,I q.1),(7,.own EM 0 q.1 0 q.1)]) (fun q=> .vec EM (((ts.take q.1).map FT).map cC)::q.2) (fun q=>q.1<=ts.length/\ ∀ k,k<q.1->(parseCmd (ts.getD k default)).2=0) (fun q=>ts.length-q.1) ((0,[])) ?_ ?_ ?_ ?_
 ·simp
 ·rfl
 ·exact at_
 rintro⟨i,τ⟩ r ⟨g1,g2⟩;dsimp only at g1 g2;by_cases hi:i<ts.length
 ·have hc:=rE (ts.getD i default) (by have:=pX _ (a_ hi);omega);have gH:=TR hi;have bY:=fun he=>bf (q:=fun k=>(parseCmd (ts.getD k default)).2=0) g2 (i:=i) he;have Mc:=e2 i hi;have uK:(((ts.take i).map FT).map cC).length=i:=by simp;omega
  obtain⟨v,jy⟩:∃ v,ts.getD i default=v:=⟨_,rfl⟩;rw[jy]at hc gH bY Mc;have hpv:FT v=(parseCmd v).1:=rfl;rw[hpv]at gH;generalize parseCmd v=P at *;obtain⟨c,x⟩:=P;dsimp only at *;simp only[TN,cC,dQ]at hc;by_cases h0:x=0
  ·repeat' first|simp (disch:=omega) only[go_sem,au,aA,aB,jy,uK]|refine aq ?_|refine aC hc ?_|refine ak ?_ ?_<;>intro hw<;>try omega|fail
   all_goals first|exact aY|skip
   refine⟨(i+1,τ++[aX.cells (dQ c)]),?_,?_,?_,bJ,?_⟩
   ·exact⟨by dsimp only;omega,bY h0⟩
   ·dsimp only;omega
   ·dsimp only;rw[gH];first|done|rfl|(simp[go_sem];done)
   ·dsimp only;simp (disch:=omega) only[dm,cK,and_true,go_sem,au,aA,aB,Int.natCast_add,Int.cast_ofNat_Int]<;>(try trivial)<;>(try omega)<;>(try (repeat (first|trivial|(refine And.intro ?_ ?_)|(congr 1;omega))))
  ·repeat' first|simp (disch:=omega) only[go_sem,au,aA,aB,jy,uK]|refine aq ?_|refine aC hc ?_|refine ak ?_ ?_<;>intro hw<;>try omega|fail
   all_goals first|exact aY|(rw[Mc h0];exact bq (fN (View.ae _)))
 ·have ht:ts.take i=ts:=br (by omega);repeat' first|simp (disch:=omega) only[go_sem,au,aA,aB,ht]|refine aq ?_|refine ak ?_ ?_<;>intro hw<;>try omega|fail
  rw[e3 (fun k hk=>g2 k (by omega))];exact bq (fN (View.vec rfl (by simp;omega) (by simp;omega) (Iz _)))
end Go.Proofs.YtmbgnaoilncbnaaGreatDoor
