/- Part. -/
import Derived.Test.YtcjcnfcedihckaaGreatDoorW33
set_option linter.all false
namespace Go.Proofs.YtcjcnfcedihckaaGreatDoor
open Go.AM
set_option maxRecDepth 4000
def kP(r:gu): List aI->Option gu
 | []=>some r
 | s::l=>if(eU r s).2=true then kP (eU r s).1 l else none
def PK{r:gu}{a b:List aI}: kP r (a++b)=(kP r a).bind fun q=>kP q b:=by
 induction a generalizing r with
 | nil=>rfl
 | cons s a ih =>
   rw[bD,kP,kP];split
   ·exact ih
   ·rfl
def G8{r q:gu}{a b:List aI}(h:kP r a=some q): kP r (a++b)=kP q b:=by rw[PK,h];rfl
def Qs{r q:gu}{s:aI}(h:eU r s=(q,true)): kP r [s]=some q:=by
 unfold kP;rw[h,if_pos rfl];rfl
def uv{r:gu}(h:r.now≠0)(s:aI): eU r s=jL r s:=by unfold eU;rw[if_pos h]
def IN{t u:Table}{w:aI}(h:eW u=eW t++[w]): j_ u w=true:=by
 unfold j_;rw[h];simp
def Vr(w n k:aI)(hw:kZ w)(o:List eu): (cH 32 (iL (cg [w,n,k]) o)).1=w:=by
 unfold iL;split
 ·rw[jU];exact nT hw
 ·rw[jU,bt,bt];exact nT hw
def x8{t:Table}(h:qQ t){c:cR}(hc:c ∈ t.ins): eV c.name=true/\1<=c.kind/\c.kind<=3/\c.order=[]:=by
 obtain⟨_,f2,_⟩:=jB h.frame;obtain⟨h1,h2,h3⟩:=gH f2;obtain⟨_,hz⟩:=mQ h1;obtain⟨i,hi,rfl⟩:=bC hc;have hg:t.ins.getD i default=t.ins[i]:=by simp[aj,hi]
 obtain⟨a,_,b,d⟩:=x7 (hz i hi);rw[hg]at a b d;have ho:=h3 _ hc;unfold iG at ho;simp only[aB,if_false,decide_eq_true_eq]at ho;exact⟨a,b,d,List.length_eq_zero_iff.1 ho⟩
def s4{t:Table}(h:qQ t){c:cR}(hc:c ∈ t.outs): eV c.name=true/\1<=c.kind/\c.kind<=3/\ ∀ v ∈ c.order,bT v=true:=by
 obtain⟨_,_,f3,_⟩:=jB h.frame;obtain⟨h1,h2,h3⟩:=gH f3;obtain⟨_,hz⟩:=mQ h1;obtain⟨i,hi,rfl⟩:=bC hc;have hg:t.outs.getD i default=t.outs[i]:=by simp[aj,hi]
 obtain⟨a,_,b,d⟩:=x7 (hz i hi);rw[hg]at a b d;have ho:=h3 _ hc;refine⟨a,b,d,fun v hv=>?_⟩;unfold iG at ho;split at ho
 ·simp only[aq,decide_eq_true_eq,aW]at ho;obtain⟨j,hj,rfl⟩:=bC hv;have:=ho.1 j (cU.2 hj);unfold pA at this;simp only[aq,decide_eq_true_eq]at this;simpa[aj,hj]using this.1.1
 ·simp only[decide_eq_true_eq]at ho;rw[List.length_eq_zero_iff.1 ho]at hv;cases hv
def CV{α : Type}{a b:List α}{x : α}: (a++x::b).take (a.length+1)=a++[x]:=by
 rw[List.take_append,bw (by omega)];simp
def Z7 {t : Table} (h : qQ t) (out : List dX) : ∀ (suf pre : List cR), pre ++ suf = t.ins -> ∀ n, (n = 1 \/ n = 2) -> ∃ n', (n' = 1 \/ n' = 2) /\ (n = 2 \/ suf ≠ [] -> n' = 2) /\
    kP ⟨out,n,⟨t.name,pre,[],t.aM,t.agg,[]⟩⟩ (suf.map pG)=some ⟨out,n',⟨t.name,t.ins,[],t.aM,t.agg,[]⟩⟩:=by
 intro suf
 induction suf with
 | nil =>
   intro pre hp n hn;rw[bS]at hp;subst hp;exact⟨n,hn,fun h=>h.resolve_right (fun h=>h rfl),rfl⟩
 | cons c suf ih =>
   intro pre hp n hn;have hc:c ∈ t.ins:=by rw[<-hp];simp
   obtain⟨a,b,d,e⟩:=x8 h hc;have hr:=NB lA.1 a b d (fun v hv=>by rw[e]at hv;cases hv);have hw:iL (cg [D_,c.name,lj c.kind]) c.order=pG c:=by unfold iL pG;rw[e];rfl
   have tY:=Vr D_ c.name (lj c.kind) lA.1 c.order;rw[hw]at hr tY
   have hst:dP ⟨t.name,pre++[c],[],t.aM,t.agg,[]⟩=true:=by
    have:=Z4 h (k:=pre.length+1) (by omega);rwa[<-hp,CV]at this
   have hla:j_ ⟨t.name,pre++[c],[],t.aM,t.agg,[]⟩ (pG c)=true:=IN (Fs (t:=⟨t.name,pre,[],t.aM,t.agg,[]⟩) rfl rfl c)
   have hl:eU ⟨out,n,⟨t.name,pre,[],t.aM,t.agg,[]⟩⟩ (pG c)=(⟨out,2,⟨t.name,pre++[c],[],t.aM,t.agg,[]⟩⟩,true):=by
    rw[uv (by dsimp only;omega)];unfold jL mP;rw[if_pos ⟨tY,by dsimp only;omega⟩,hr];dsimp only;rw[hst,hla];rfl
   obtain⟨n',q1,q2,q3⟩:=ih (pre++[c]) (by rw[<-hp];simp) 2 (.inr rfl);refine⟨n',q1,fun _=>q2 (.inl rfl),?_⟩;rw[aZ,kP,hl,if_pos rfl];exact q3
def XP {t : Table} (h : qQ t) (hg : ∀ c ∈ t.outs, ∀ v ∈ c.order, iE v.n) (out : List dX) : ∀ (suf pre : List cR), pre ++ suf = t.outs -> ∀ n, (n = 2 \/ n = 3) -> ∃ n', (n' = 2 \/ n' = 3) /\ (n = 3 \/ suf ≠ [] -> n' = 3) /\
    kP ⟨out,n,⟨t.name,t.ins,pre,t.aM,t.agg,[]⟩⟩ (suf.map ny)=some ⟨out,n',⟨t.name,t.ins,t.outs,t.aM,t.agg,[]⟩⟩:=by
 intro suf
 induction suf with
 | nil =>
   intro pre hp n hn;rw[bS]at hp;subst hp;exact⟨n,hn,fun h=>h.resolve_right (fun h=>h rfl),rfl⟩
 | cons c suf ih =>
   intro pre hp n hn;have hc:c ∈ t.outs:=by rw[<-hp];simp
   obtain⟨a,b,d,e⟩:=s4 h hc;have hr:=NB lA.2.1 a b d (fun v hv=>⟨e v hv,hg c hc v hv⟩);have tY:=Vr tW c.name (lj c.kind) lA.2.1 c.order;have hw:iL (cg [tW,c.name,lj c.kind]) c.order=ny c:=rfl;rw[hw]at hr tY
   have hst:dP ⟨t.name,t.ins,pre++[c],t.aM,t.agg,[]⟩=true:=by
    have:=XL h (k:=pre.length+1) (by omega);rwa[<-hp,CV]at this
   have hla:j_ ⟨t.name,t.ins,pre++[c],t.aM,t.agg,[]⟩ (ny c)=true:=IN (CM (t:=⟨t.name,t.ins,pre,t.aM,t.agg,[]⟩) rfl c)
   have hl:eU ⟨out,n,⟨t.name,t.ins,pre,t.aM,t.agg,[]⟩⟩ (ny c)=(⟨out,3,⟨t.name,t.ins,pre++[c],t.aM,t.agg,[]⟩⟩,true):=by
    rw[uv (by dsimp only;omega)];unfold jL l9;rw[if_neg (by rw[tY];rintro⟨h,_⟩;revert h;decide),if_pos ⟨tY,by dsimp only;omega⟩,hr];dsimp only;rw[hst,hla];rfl
   obtain⟨n',q1,q2,q3⟩:=ih (pre++[c]) (by rw[<-hp];simp) 3 (.inr rfl);refine⟨n',q1,fun _=>q2 (.inl rfl),?_⟩;rw[aZ,kP,hl,if_pos rfl];exact q3
def Vs {t : Table} (h : qQ t) (out : List dX) : ∀ (suf pre : List eE), pre ++ suf = t.rules -> ∀ n, (n = 3 \/ n = 4) -> ∃ n', (n' = 3 \/ n' = 4) /\
    kP ⟨out,n,⟨t.name,t.ins,t.outs,t.aM,t.agg,pre⟩⟩ (suf.map jg)=some ⟨out,n',t⟩:=by
 intro suf
 induction suf with
 | nil =>
   intro pre hp n hn;rw[bS]at hp;subst hp;exact⟨n,hn,rfl⟩
 | cons c suf ih =>
   intro pre hp n hn;have hc:c ∈ t.rules:=by rw[<-hp];simp
   obtain⟨_,f2,f3,_⟩:=jB h.frame;obtain⟨_,i2,_⟩:=gH f2;obtain⟨_,o2,_⟩:=gH f3;obtain⟨a,b,d,e⟩:=Aw h hc;have hr:=Vq (r:=c) (fun e=>by rw[e]at a;simp at a;omega) (fun e=>by rw[e]at b;simp at b;omega) d e;have tY:(cH 32 (jg c)).1=sY:=by unfold jg;rw[vU];exact nT lA.2.2.2.1
   have hst:dP ⟨t.name,t.ins,t.outs,t.aM,t.agg,pre++[c]⟩=true:=by
    have:=Vp h (pre.length+1);rwa[<-hp,CV]at this
   have hla:j_ ⟨t.name,t.ins,t.outs,t.aM,t.agg,pre++[c]⟩ (jg c)=true:=IN (Ar ⟨t.name,t.ins,t.outs,t.aM,t.agg,pre⟩ c)
   have hl:eU ⟨out,n,⟨t.name,t.ins,t.outs,t.aM,t.agg,pre⟩⟩ (jg c)=(⟨out,4,⟨t.name,t.ins,t.outs,t.aM,t.agg,pre++[c]⟩⟩,true):=by
    rw[uv (by dsimp only;omega)];unfold jL kB;rw[if_neg (by rw[tY];rintro⟨h,_⟩;revert h;decide),if_neg (by rw[tY];rintro⟨h,_⟩;revert h;decide),if_pos ⟨tY,by dsimp only;omega⟩,hr];dsimp only;rw[hst,hla];rfl
   obtain⟨n',q1,q3⟩:=ih (pre++[c]) (by rw[<-hp];simp) 4 (.inr rfl);refine⟨n',q1,?_⟩;rw[aZ,kP,hl,if_pos rfl];exact q3
def XQ{t:Table}(h:qQ t)(hg:∀ c ∈ t.outs,∀ v ∈ c.order,iE v.n)(out:List dX)(ho:out.length<64)(t0:Table): ∃ n,(n=3\/n=4)/\kP ⟨out,0,t0⟩ (eW t)=some ⟨out,n,t⟩:=by
 obtain⟨f1,f2,f3,f4,_⟩:=jB h.frame;obtain⟨_,i2,_⟩:=gH f2;obtain⟨_,o2,_⟩:=gH f3;obtain⟨p1,p2,p3,p4,p5⟩:=sZ f4;obtain⟨i1,b1⟩:=Z5 p1 p2;obtain⟨i3,b3⟩:=Z6 p3 p4
 have hw:∀ z ∈ [zc,t.name,u_ t.aM,ve t.agg],kZ z:=fun z hz=>by
  simp only[List.mem_cons,List.not_mem_nil,or_false]at hz;rcases hz with rfl|rfl|rfl|rfl
  ·exact lA.2.2.1
  ·exact w9 f1
  ·exact b1
  ·exact b3
 have e:=rR (n:=4) (by simp) hw rfl;have hpre:ur.isPrefixOf (kF t)=true:=by unfold kF;rw[vU];rfl
 have hb:gw ⟨out,0,t0⟩ (kF t)=(⟨out,1,⟨t.name,[],[],t.aM,t.agg,[]⟩⟩,true):=by
  unfold gw kF;rw[e];dsimp only;simp only[aT,cq];rw[if_neg (by simp[f1]),i1,i3,decide_eq_true (by omega),decide_eq_true (by omega)];rfl
 have hst:dP ⟨t.name,[],[],t.aM,t.agg,[]⟩=true:=by
  unfold dP;rw[if_pos (by rfl)];dsimp only;rcases p5 with p5|⟨p5,_⟩
  ·rw[decide_eq_true p5];rfl
  ·rw[decide_eq_true p5,Bool.or_true]
 have hh:eU ⟨out,0,t0⟩ (kF t)=(⟨out,1,⟨t.name,[],[],t.aM,t.agg,[]⟩⟩,true):=by
  unfold eU;rw[if_neg (by simp),if_neg (by dsimp only;omega),if_pos hpre,hb];dsimp only;rw[hst];have:kF ⟨t.name,[],[],t.aM,t.agg,[]⟩=kF t:=rfl;rw[this,decide_eq_true rfl];rfl
 obtain⟨n1,a1,a2,a3⟩:=Z7 h out t.ins [] rfl 1 (.inl rfl);have a2:n1=2:=a2 (.inr fun e=>by rw[e]at i2;simp at i2);subst a2;obtain⟨n2,c1,c2,c3⟩:=XP h hg out t.outs [] rfl 2 (.inl rfl);have c2:n2=3:=c2 (.inr fun e=>by rw[e]at o2;simp at o2);subst c2;obtain⟨n3,d1,d3⟩:=Vs h out t.rules [] rfl 3 (.inl rfl);refine⟨n3,d1,?_⟩;unfold eW;rw[kP,hh,if_pos rfl];dsimp only;rw[bt,G8 a3,G8 c3];exact d3
def Z8{t:Table}(h:qQ t)(hg:∀ c ∈ t.outs,∀ v ∈ c.order,iE v.n)(out:List dX)(ho:out.length<64)(t0:Table): kP ⟨out,0,t0⟩ (j5 t)=some ⟨out++[{ eS with kind:=1,table:=t }],0,t⟩:=by
 obtain⟨n,hn,hb⟩:=XQ h hg out ho t0;unfold j5;rw[G8 hb];refine Qs ?_;rw[uv (by dsimp only;omega)];have hc:(cH 32 qp).1=qp:=by decide
 unfold jL;rw[hc,if_neg (by rintro⟨h,_⟩;revert h;decide),if_neg (by rintro⟨h,_⟩;revert h;decide),if_neg (by rintro⟨h,_⟩;revert h;decide),if_pos ⟨rfl,by dsimp only;omega⟩]
def Vt{c:dX}(ok:iJ c)(h:dY c=0)(out:List dX)(ho:out.length<64)(t0:Table): ∃ t,kP ⟨out,0,t0⟩ (dR c)=some ⟨out++[c],0,t⟩:=by
 by_cases h1:c.kind=1
 ·obtain⟨z1,k1,k9,hp,hn,hf,hm,h6,hr⟩:=qO h;obtain⟨p1,p2,p3,p4,p5⟩:=Ap hp;obtain⟨r1,r2,r3,r4,r5,r6,r7⟩:=ok;obtain⟨k,t,n,v,row,f,m⟩:=c;dsimp only at *;subst h1;obtain⟨rfl,rfl⟩:=p2.resolve_left (by omega);have Bj:row=[]:=p3.resolve_left (by omega);have G7:m=0:=p5.resolve_left (by omega);have oQ:f=0:=p4.resolve_left (by omega);subst Bj;subst G7;subst oQ;refine⟨t,?_⟩;unfold dR;rw[if_pos rfl];exact Z8 (CP (z1 rfl)) (fun c hc v hv=>(r2.2.2.1.2 c hc).2.2 v hv |>.1) out ho t0
 ·obtain⟨w,w1,w2,w3⟩:=XO ok h h1;refine⟨t0,?_⟩;rw[w1];refine Qs ?_;unfold eU;rw[if_neg (by simp),if_neg (by dsimp only;omega),if_neg (by rw[w3];simp),w2];dsimp only;rw[w1,if_neg (by simp[h])]
def Vu: ∀(l out:List dX) (t0:Table),(∀ c ∈ l,iJ c/\dY c=0)->out.length+l.length<=64-> ∃ t,kP ⟨out,0,t0⟩ (l.flatMap dR)=some ⟨out++l,0,t⟩:=by
 intro l
 induction l with
 | nil=>intro out t0 _ _;exact⟨t0,by simp[kP]⟩
 | cons c l ih =>
   intro out t0 h hl;simp only[List.length_cons]at hl;obtain⟨t,ht⟩:=Vt (h c (by simp)).1 (h c (by simp)).2 out (by omega) t0;obtain⟨t',ht'⟩:=ih (out++[c]) t (fun d hd=>h d (by simp[hd])) (by simp;omega);refine⟨t',?_⟩;rw[da,G8 ht,ht'];simp
end Go.Proofs.YtcjcnfcedihckaaGreatDoor
namespace Go.Proofs.YtcjcnfcedihckaaGreatDoor
open Go.AM
set_option maxRecDepth 4000
def ep(s:aI): Prop:= ∀ c ∈ s,c≠(10:UInt8)
def ep.app{a b:aI}(ha:ep a)(hb:ep b): ep (a++b):=fun c hc=>(List.mem_append.1 hc).elim (ha c) (hb c)
def ep.join{l:List aI}{sep:aI}(h:∀ z ∈ l,ep z)(hs:ep sep): ep (Lib.join l sep):=by
 cases l with
 | nil=>intro c hc;simp[Lib.join,List.intercalate]at hc
 | cons x l =>
   rw[join_cons];refine(h x (by simp)).app fun c hc=>?_;obtain⟨z,hz,hc⟩:=List.mem_flatMap.1 hc;exact(hs.app (h z (by simp[hz]))) c hc
def Ok.ep{y:UInt8}{s:aI}(h:Ok y s): ep s:=fun c hc e=>h.nl c hc (by rw[e];rfl)
def zf{s:aI}(h:eV s=true): ep s:=by
 simp only[eV,aq,decide_eq_true_eq]at h;exact(Ok.word (y:=44) (.inl rfl) h.1.1.1 (xZ h.1.1.1 h.1.1.2).2).ep
def zg(n:Int): ep (Lib.itoa n):=(Ok.itoa (y:=44) (.inl rfl) n).ep
def ab1{l:List eu}(h:∀ v ∈ l,bT v=true): ep (pF l):=ep.join (fun z hz=>by
 obtain⟨v,hv,rfl⟩:=cC.1 hz;exact(Ok.val (y:=44) (.inl rfl) (h v hv)).ep) (by unfold ep nL;decide)
def Kk{s:aI}{l:List eu}(hs:ep s)(h:∀ v ∈ l,bT v=true): ep (iL s l):=by
 unfold iL;split
 ·exact hs
 ·exact(hs.app (by unfold ep;decide)).app (ab1 h)
def Fw{l:List aI}(h:∀ z ∈ l,ep z): ep (cg l):=ep.join h (by unfold ep;decide)
def IP{l:List aI}(h:∀ z ∈ l,ep z)(n:Nat): ep (l.getD n []):=by
 rw[aj];cases hq:l[n]? with
 | none=>intro c hc;cases hc
 | some z=>exact h z (fW hq)
def Vv(k:Int): ep (lj k):=IP (by unfold pE ep;decide) _
def ab2(k:Int): ep (u_ k):=IP (by unfold rB ep;decide) _
def ab3(k:Int): ep (ve k):=IP (by unfold rC ep;decide) _
def Vw{l:List aI}(h:∀ s ∈ l,Ok 58 s/\Ok 124 s): ep (kN l):=ep.join (fun z hz=>(h z hz).1.ep) (by unfold ep;decide)
def zh{a b c:aI}(h1:ep a)(h2:ep b)(h3:ep c): ep (cg [a,b,c]):=Fw (IL h1 h2 h3)
def Qu{a b c d:aI}(h1:ep a)(h2:ep b)(h3:ep c)(h4:ep d): ep (cg [a,b,c,d]):=Fw fun z hz=>by
 simp only[List.mem_cons,List.not_mem_nil,or_false]at hz;rcases hz with rfl|rfl|rfl|rfl<;>assumption
def ab4{t:Table}(h:qQ t): ∀ s ∈ j5 t,ep s:=by
 obtain⟨f1,_⟩:=jB h.frame;intro s hs;simp only[j5,eW,List.mem_append,List.mem_cons,cC,List.not_mem_nil,or_false]at hs;rcases hs with(rfl|(⟨c,hc,rfl⟩|⟨c,hc,rfl⟩)|⟨r,hr,rfl⟩)|rfl
 ·exact Qu (by unfold ep;decide) (zf f1) (ab2 _) (ab3 _)
 ·exact zh (by unfold ep;decide) (zf (x8 h hc).1) (Vv _)
 ·exact Kk (zh (by unfold ep;decide) (zf (s4 h hc).1) (Vv _)) (s4 h hc).2.2.2
 ·obtain⟨_,_,a,b⟩:=Aw h hr;exact Qu (by unfold ep;decide) (Vw a) (by unfold ep;decide) (Vw b)
 ·unfold ep;decide
def XR{c:dX}(h:dY c=0): ∀ s ∈ dR c,ep s:=by
 obtain⟨z1,k1,k9,hp,hn,hf,hm,h6,hr⟩:=qO h;have hr:=aW.1 hr;unfold dR;split
 ·rename_i h1;exact ab4 (CP (z1 h1))
 rename_i h1;split
 ·rename_i h2;intro s hs;obtain rfl:=bK.1 hs;exact Kk (zh (by unfold ep;decide) (zf (hn (.inl h2)).1) (zg _)) hr
 rename_i h2;split
 ·rename_i h3;intro s hs;obtain rfl:=bK.1 hs;exact zh (by unfold ep;decide) (zf (hn (.inr h3)).1) (zg _)
 split
 ·intro s hs;obtain rfl:=bK.1 hs;exact zh (by unfold ep;decide) (zg _) (zg _)
 split
 ·intro s hs;obtain rfl:=bK.1 hs;refine Fw fun z hz=>?_;simp only[List.mem_cons,List.not_mem_nil,or_false]at hz;rcases hz with rfl|rfl
  ·unfold ep;decide
  ·exact zg _
 ·intro s hs;obtain rfl:=bK.1 hs;unfold nM;repeat' split
  all_goals (unfold ep;decide)
def Vx(s:aI)(l:List aI)(r:aI): ei (s::l)++r=s++(10::(ei l++r)):=by simp[ei]
def Pd: ∀(ls:List aI) (r q:gu) (rest:aI) (n:Int) (f:Nat),(∀ s ∈ ls,ep s)->kP r ls=some q->(ei ls++rest).length<=f-> ∃ f',rest.length<=f'/\iz f r (ei ls++rest) n=iz f' q rest (n+ls.length):=by
 intro ls
 induction ls with
 | nil =>
   intro r q rest n f _ h hf;rw[kP]at h;injection h with h;subst h;exact⟨f,by simpa[ei]using hf,by simp[ei]⟩
 | cons s l ih =>
   intro r q rest n f hn h hf;rw[Vx]at hf ⊢;have hl:=hf;simp only[aA,List.length_cons]at hl;obtain⟨f,rfl⟩:∃ k,f=k+1:=⟨f-1,by omega⟩;rw[kP]at h;split at h
   ·rename_i hb;have hc:=ze (c:=10) (ei l++rest) (hn s (by simp));obtain⟨f',a,b⟩:=ih _ q rest (n+1) f (fun w hw=>hn w (by simp[hw])) h (by simp;omega);refine⟨f',a,?_⟩;rw[iz,if_neg (by simp),hc,if_neg (by simp)];dsimp only;rw[if_neg (by rw[hb];simp),b]
    congr 1
    rw[List.length_cons];omega
   ·cases h
def SE(l:List dX): fI l=ei (l.flatMap dR):=by
 unfold fI ei;rw[List.flatMap_assoc]
def Kl(f:Nat)(r:gu)(n:Int): iz f r [] n=(r,[],n):=by
 cases f with
 | zero=>rfl
 | succ f=>rw[iz,if_pos rfl]
def Z9{l:List dX}(h:∀ c ∈ l,iJ c/\dY c=0): ∀ s ∈ l.flatMap dR,ep s:=fun s hs=>by
 obtain⟨c,hc,hs⟩:=List.mem_flatMap.1 hs;exact XR (h c hc).2 s hs
def G9{l:List dX}(hl:l.length<=64)(h:∀ c ∈ l,iJ c/\dY c=0)(hs:(fI l).length<=65536): jv (fI l)=(l,0,0):=by
 obtain⟨t,ht⟩:=Vu l [] iH h (by simpa using hl);rw[SE]at hs ⊢;obtain⟨f',a,b⟩:=Pd (l.flatMap dR) wZ _ [] 1 (ei (l.flatMap dR)).length (Z9 h) ht (by simp);rw[bS,Kl]at b;unfold jv;rw[if_neg (by omega),b];dsimp only;rw[if_neg (by simp)];simp
section
variable {l:List dX} (hl:l.length<=64) (h:∀ c ∈ l,iJ c/\dY c=0)
include hl h
end
end Go.Proofs.YtcjcnfcedihckaaGreatDoor
namespace Go.Proofs.YtcjcnfcedihckaaGreatDoor
open Go.AM
set_option maxRecDepth 4000
def G_ {P : Program} {f : FuncId} {args : List AV} {r : AV} (hf : Has P f)
    (h : ∀ (g : aJ) (w : World) (σ : ae) (vs : Array Value), Rel g w σ -> args.length = vs.size -> (∀ i, i < args.length -> VR g w (args.getD i .undef) (vs.getD i Go.undef)) ->
      Calls P f vs w fun e w'=> ∃ v,e = .returned v/\(∀ g':aJ,(∀ b,w.heap.size<=b->b<w'.heap.size->g'.fC b)->VR g' w' r v)/\w'.os=w.os/\w'.tape=w.tape/\w'.output=w.output/\w.heap.size<=w'.heap.size/\ ∀ b,b<w.heap.size->w'.heap[b]? = w.heap[b]?):aP P f args r:=by
 intro σ;refine⟨hf,fun g w vs hR hl hv=>?_⟩;refine(h g w σ vs hR hl hv).mono ?_;rintro e w' ⟨v,rfl,h1,k1,k2,k3,k4,k5⟩;obtain⟨r1,r2⟩:=hR.sD k4 k1 k2 k3 k5;exact⟨.ret r,_,σ,r1,r2,h1 _ (fun b h1 h2=> .inr ⟨h1,h2⟩),rfl,rfl⟩
def NC(s:aI): (⟨s.toArray⟩:ByteArray).size=s.length:=by simp[ByteArray.size]
def CW(s:aI)(hs:s.length<=2 ^ 62): aP aK 25 [.str s,.str [32]] (.str (n9 s)):=by
 refine lV ⟨_,Tryz.func25,by kernel_rfl,by kernel_rfl⟩ fun g w σ vs hR hl hv=>?_;have h2:=hv 0 (by simp);have h3:=hv 1 (by simp);rw[GJ hl];generalize vs.getD 0 Go.undef=v at h2;generalize vs.getD 1 Go.undef=u at h3;simp only[aT,cq]at h2 h3;cases h2;cases h3;refine⟨_,fun g' w'=>VR.GI (n9 s),(Tryz.strings_Trim_one ⟨s.toArray⟩ 32 (by decide) w (by rw[NC];omega)).mono ?_⟩;rintro e w' ⟨rfl,rfl|rfl⟩
 ·exact⟨rfl,rfl,rfl,rfl,Nat.le_refl _,fun _ _=>rfl⟩
 ·exact⟨rfl,rfl,rfl,rfl,Nat.le_refl _,fun _ _=>rfl⟩
def CX(c:UInt8)(s:aI): Int:=if(cH c s).2.2=true then((cH c s).1.length:Int)else -1
def ND(c:UInt8): ∀ s:aI,Lib.indexByte s c=CX c s:=by
 intro s
 induction s with
 | nil=>rfl
 | cons b s ih =>
   unfold CX at ih ⊢;rw[Lib.indexByte,cH];by_cases h:b=c
   ·subst h;simp
   ·rw[if_neg h];dsimp only;have hb:(b==c)=false:=by simpa using h
    rw[ih];cases hc:(cH c s).2.2 with
    | true=>simp[hb]
    | false=>simp[hb]
def stringslite_Index(s:aI)(c:UInt8): aP aK 102 [.str s,.str [c]] (I (CX c s)):=by
 refine lV ⟨_,Tryz.func102,by kernel_rfl,by kernel_rfl⟩ fun g w σ vs hR hl hv=>?_;have h2:=hv 0 (by simp);have h3:=hv 1 (by simp);rw[GJ hl];generalize vs.getD 0 Go.undef=v at h2;generalize vs.getD 1 Go.undef=u at h3;simp only[aT,cq]at h2 h3;cases h2;cases h3;refine⟨_,fun g' w'=>VR.int .i64 (CX c s),(Tryz.stringslite_Index_one ⟨s.toArray⟩ c w).mono ?_⟩;rintro e w' ⟨rfl,rfl⟩;exact⟨by rw[<-ND],rfl,rfl,rfl,Nat.le_refl _,fun _ _=>rfl⟩
def strings_Index(s:aI)(c:UInt8): aP aK 226 [.str s,.str [c]] (I (CX c s)):=by
 refine lV ⟨_,Tryz.func226,by kernel_rfl,by kernel_rfl⟩ fun g w σ vs hR hl hv=>?_;have h2:=hv 0 (by simp);have h3:=hv 1 (by simp);rw[GJ hl];generalize vs.getD 0 Go.undef=v at h2;generalize vs.getD 1 Go.undef=u at h3;simp only[aT,cq]at h2 h3;cases h2;cases h3;refine⟨_,fun g' w'=>VR.int .i64 (CX c s),(Tryz.strings_Index_one ⟨s.toArray⟩ c w).mono ?_⟩;rintro e w' ⟨rfl,rfl⟩;exact⟨by rw[<-ND],rfl,rfl,rfl,Nat.le_refl _,fun _ _=>rfl⟩
abbrev YS: TypeId:=328
def SG(s:aI): AV:=match Lib.atoiAll s with
 | .ok n=> .bO [I n,.iT]
 | .syntax=> .bO [I 0,.kg YS .undef]
 | .range=> .bO [I (Lib.atoiSat s),.kg YS .undef]
def He{g:aJ}{w:World}{a b:AV}{x y:Value}(h1:VR g w a x)(h2:VR g w b y): VR g w (.bO [a,b]) (.tuple #[x,y]) :=
 .bO _ _ rfl fun i hi=>by
  match i,hi with
  | 0,_=>exact h1
  | 1,_=>exact h2
def strconv_Atoi(s:aI)(hs:s.length<=2 ^ 40): aP aK 223 [.str s] (SG s):=by
 refine G_ ⟨_,Tryz.func223,by kernel_rfl,by kernel_rfl⟩ fun g w σ vs hR hl hv=>?_;have h2:=hv 0 (by simp);rw[MX hl];generalize vs.getD 0 Go.undef=v at h2;simp only[aT]at h2;cases h2;have hz:(⟨s.toArray⟩:ByteArray).size<=2 ^ 40:=by rw[NC];exact hs
 have below:∀ w':World,RowKit.Below w.heap.size w w'->w'.os=w.os/\w'.tape=w.tape/\w'.output=w.output/\w.heap.size<=w'.heap.size/\ ∀ b,b<w.heap.size->w'.heap[b]? = w.heap[b]?:=fun w' h=>⟨h.os,h.tape,h.output,h.size,h.block⟩;obtain⟨_,⟨t1,p1,e1⟩,t2,p2,e2⟩:=hR.glob.2;unfold SG;cases ha:Lib.atoiAll s with
 | ok n =>
   refine(Tryz.strconv_Atoi_ok ⟨s.toArray⟩ (by omega) n ha w).mono ?_;rintro e w' ⟨rfl,rfl|⟨t,rfl⟩⟩
   ·exact⟨_,rfl,fun g' _=>He (.int .i64 n) .iT,rfl,rfl,rfl,Nat.le_refl _,fun _ _=>rfl⟩
   ·exact⟨_,rfl,fun g' _=>He (.int .i64 n) .iT,below _ (Lib.bytesWorld_below _ _ _)⟩
 | «syntax» =>
   refine(Tryz.strconv_Atoi_syntax_var ⟨s.toArray⟩ (by omega) ha t1 p1 w e1).mono ?_;rintro e w' ⟨k,rfl,_,_,hb⟩;exact⟨_,rfl,fun g' _=>He (.int .i64 0) (.kg _ _ _ (.undef _)),below _ hb⟩
 | range =>
   refine(Tryz.strconv_Atoi_range_var ⟨s.toArray⟩ (by omega) ha t2 p2 w e2).mono ?_;rintro e w' ⟨k,rfl,_,_,hb⟩;exact⟨_,rfl,fun g' _=>He (.int .i64 _) (.kg _ _ _ (.undef _)),below _ hb⟩
def Ax(c:UInt8)(s:aI): ((cH c s).2.2=true->(cH c s).1=s.take (cH c s).1.length/\(cH c s).2.1=s.drop ((cH c s).1.length+1)/\(cH c s).1.length<s.length)/\((cH c s).2.2=false->cH c s=(s,[],false)):=by
 refine⟨fun h=>?_,fun h=>?_⟩
 ·have e:=Nw c s h;clear h;generalize (cH c s).1=a at *;generalize (cH c s).2.1=r at *;subst e;exact⟨(List.take_left' rfl).symm,by rw[<-List.drop_drop,List.drop_left' rfl];rfl,by simp⟩
 ·induction s with
  | nil=>rfl
  | cons b s ih =>
    rw[cH]at h ⊢;by_cases hb:b=c
    ·rw[if_pos hb]at h;cases h
    ·rw[if_neg hb]at h ⊢;rw[ih h]
def vf(t:aI × aI × Bool): AV:= .bO [.str t.1,.str t.2.1,.bool t.2.2]
def Hf(s:aI)(c:UInt8)(hs:s.length<=2 ^ 60): aP aK 59 [.str s,.str [c]] (vf (cH c s)):=by
 have h1:=stringslite_Index s c;obtain⟨k1,k2⟩:=Ax c s;unfold CX at h1;generalize cH c s=t at *;obtain⟨a,r,b⟩:=t;dsimp only at *;simp only[vf];cases b with
 | true =>
   obtain⟨rfl',rfl,hl⟩:=k1 rfl;generalize ha:a.length=n at *;subst rfl';rw[if_pos rfl]at h1;refine aR nQ ?_;intro Q aF aG aH;repeat' first|refine aE ?_|refine aD ?_ ?_<;>intro hw<;>try omega|fail
   all_goals first|exact bN|(refine cG ?_;exact h_)|skip
 | false =>
   obtain⟨rfl,rfl,_⟩:a=s/\r=[]/\True:=by have:=k2 rfl;injection this with e1 e2;injection e2 with e2 _;exact⟨e1,e2,trivial⟩
   rw[if_neg (by decide)]at h1;refine aR nQ ?_;intro Q aF aG aH;repeat' first|refine aE ?_|refine aD ?_ ?_<;>intro hw<;>try omega|fail
   all_goals first|exact bN|(refine cG ?_;exact h_)|skip
def m_(s:aI)(c:UInt8)(hs:s.length<=2 ^ 60): aP aK 27 [.str s,.str [c]] (vf (cH c s)):=by
 have h1:=Hf s c hs;generalize cH c s=t at *;obtain⟨a,r,b⟩:=t;simp only[vf]at h1 ⊢;refine aR HS ?_;intro Q aF aG aH;repeat' first|refine aE ?_|refine aD ?_ ?_<;>intro hw<;>try omega|fail
 all_goals first|exact bN|(refine cG ?_;exact h_)|skip
end Go.Proofs.YtcjcnfcedihckaaGreatDoor
namespace Go.Proofs.YtcjcnfcedihckaaGreatDoor
open Go.AM
set_option maxRecDepth 4000
def x9: aP aK 87 [] (bX rB):=by
 refine aR BX ?_;intro Q aF aG aH;repeat' first|refine aE ?_|refine aD ?_ ?_<;>intro hw<;>try omega|fail
 all_goals exact iw (View.weak _ _ _ (by simp))
def Ec: aP aK 88 [] (bX rC):=by
 refine aR HZ ?_;intro Q aF aG aH;repeat' first|refine aE ?_|refine aD ?_ ?_<;>intro hw<;>try omega|fail
 all_goals exact iw (View.weak _ _ _ (by simp))
def CY: aP aK 89 [] (bX pE):=by
 refine aR Gl ?_;intro Q aF aG aH;repeat' first|refine aE ?_|refine aD ?_ ?_<;>intro hw<;>try omega|fail
 all_goals exact iw (View.weak _ _ _ (by simp))
def oL(l:List aI)(v:aI)(hl:l.length<=2 ^ 62): aP aK 108 [bX l,.str v] (I (fy (fun x=>x==v) l)):=by
 simp only[bX];refine aR yj ?_;intro Q aF aG aH;repeat' first|refine aE ?_|refine aD ?_ ?_<;>intro hw<;>try omega|fail
 with_reducible refine bZ [4,5,8,9,10,11,12,13,14,15,16,17,18] (fun i:Nat=>[(8,I i)]) (fun _=>[]) (fun i=>i<=l.length/\ ∀ k,k<i->(l.getD k default==v)=false) (fun i=>l.length-i) (0) ?_ ?_ ?_ ?_
 ·simp
 ·rfl
 ·exact at_
 rintro i r ⟨hi,hp⟩;by_cases hin:i<l.length
 ·have h1:=fun hw=>lU (p:=fun x:aI=>x==v) hin hp hw;have h2:=fun hw=>bI (q:=fun k=>(l.getD k default==v)=false) hp (i:=i) hw;obtain⟨x,hx⟩:∃ x,l.getD i default=x:=⟨_,rfl⟩;rw[hx]at h1 h2;repeat' first|simp (disch:=omega) only[go_sem,aF,aG,aH,hx]|refine aE ?_|refine aD ?_ ?_<;>intro hw<;>try omega|fail
  all_goals first
   | exact bN
   |(refine aU ?_ rfl;refine congrArg I ?_;rw[h1 (by simp_all)];done)
   | (refine ⟨i + 1, ?_, ?_, by first | rfl | (simp [go_sem]; done), dH, at_⟩ <;> (try dsimp only)
      ·exact⟨by omega,h2 (by rw[beq_eq_false_iff_ne];exact fun e=>hw e.symm)⟩
      ·omega)
   | skip
 ·repeat' first|refine aE ?_|refine aD ?_ ?_<;>intro hw<;>try omega|fail
  refine aU ?_ rfl;refine congrArg I ?_;exact(lO fun k hk=>hp k (by omega)).symm
def ya{s:aI}{a i:Nat}(h:a<=i)(hi:i<s.length): (s.drop a).take (i+1-a)=(s.drop a).take (i-a)++[s.getD i 0]:=by
 have e:i+1-a=(i-a)+1:=by omega
 rw[e,List.take_add_one,List.getElem?_drop];have e2:a+(i-a)=i:=by omega
 rw[e2,aj,aL hi];rfl
def Km{s:aI}{i:Nat}(hi:i<s.length): s.drop i=s.getD i 0::s.drop (i+1):=by
 rw[fK hi,aj,aL hi];rfl
def Vy {y : UInt8} {s : aI} {a i : Nat} (h : a <= i) (hi : i < s.length) (w : Bool) : eo y w ((s.drop a).take (i - a)) (s.drop i) =
    if w=true then(if(s.getD i 0).toNat=92 then eo y true ((s.drop a).take (i+2-a)) (s.drop (i+2))else eo y (decide ((s.getD i 0).toNat≠34)) ((s.drop a).take (i+1-a)) (s.drop (i+1)))
    else if s.getD i 0=y then n9 ((s.drop a).take (i-a))::eo y false ((s.drop (i+1)).take (i+1-(i+1))) (s.drop (i+1))
    else eo y (decide ((s.getD i 0).toNat=34)) ((s.drop a).take (i+1-a)) (s.drop (i+1)):=by
 rw[ya h hi,Km hi];generalize hc:(s.drop a).take (i-a)=cur;cases w with
 | true =>
   rw[if_pos rfl];by_cases hn:i+1<s.length
   ·have e2 : (s.drop a).take (i + 2 - a) = cur ++ [s.getD i 0, s.getD (i + 1) 0] := by
     rw[show i+2-a=i+1+1-a by omega,ya (by omega) hn,ya h hi,hc];simp
    rw[e2,Km hn,eo]
   ·have e1:s.drop (i+1)=[]:=iN (by omega);have e3:s.drop (i+2)=[]:=iN (by omega)
    have e2:(s.drop a).take (i+2-a)=cur++[s.getD i 0]:=by
     rw[<-hc,<-ya h hi,bw (by simp;omega),bw (by simp;omega)]
    rw[e1,e2,e3,eo,eo,eo];split<;>rfl
 | false =>
   rw[if_neg (by decide),eo];simp
def Vz{y:UInt8}{s:aI}{a i:Nat}(hi:s.length<=i)(w:Bool): eo y w ((s.drop a).take (i-a)) (s.drop i)=[n9 (s.drop a)]:=by
 rw[iN hi,bw (by simp;omega),eo]
def pH(s:aI)(y:UInt8)(hs:s.length<=2 ^ 30): aP aK 12 [.str s,.int .u8 y.toNat] (bX (fG s y)):=by
 obtain⟨E,hE⟩:∃ E,fG s y=E:=⟨_,rfl⟩;rw[hE];simp only[bX];refine aR Ge ?_;intro Q aF aG aH;repeat' first|refine aE ?_|refine aD ?_ ?_<;>intro hw<;>try omega|fail
 with_reducible refine bZ [5,6,7,8,9,10,11,12,13,14,15,16,17,18,19,20,21,22,23,24,25,26,27,28,29,30,31,32,33,34,35,36,37,38,39,40,41,42,43,44,45,46,47] (fun q:Nat × Nat × Bool × List aI=>[(5,.own E1 0 q.2.2.2.length 0 q.2.2.2.length),(6,I q.2.1),(7,.bool q.2.2.1),(8,I q.1)]) (fun q=>[.vec E1 (q.2.2.2.map cj)]) (fun q=>q.2.1<=q.1/\q.2.1<=s.length/\q.1<=s.length+1/\q.2.2.2.length<=q.1/\E=q.2.2.2++eo y q.2.2.1 ((s.drop q.2.1).take (q.1-q.2.1)) (s.drop q.1)) (fun q=>s.length+1-q.1) ((0,0,false,[])) ?_ ?_ ?_ ?_
 ·refine⟨by simp,by simp,by simp,by simp,?_⟩;rw[<-hE];rfl
 ·rfl
 ·exact at_
 rintro⟨i,a,w,out⟩ r ⟨g1,g2,g3,g4,g5⟩;dsimp only at g1 g2 g3 g4 g5;by_cases hi:i<s.length
 ·have hp:=Vy (y:=y) g1 hi w;rw[hp]at g5;clear hp;have hu:=UInt8.toNat_inj (a:=s.getD i 0) (b:=y);have tY:(s.take i).drop a=(s.drop a).take (i-a):=List.drop_take ..;have ct:=CW ((s.drop a).take (i-a)) (by simp;omega);obtain⟨cur,sj⟩:∃ cur,(s.drop a).take (i-a)=cur:=⟨_,rfl⟩;rw[sj]at ct g5;rw[sj]at tY;generalize hc:s.getD i 0=c at *;cases w with
  | true =>
    rw[if_pos rfl]at g5;by_cases h92:c.toNat=92
    ·rw[if_pos h92]at g5;repeat' first|simp (disch:=omega) only[go_sem,aF,aG,aH,hc]|refine aE ?_|refine aD ?_ ?_<;>intro hw<;>try omega|fail
     all_goals first
      | exact bN
      | skip
     refine⟨(i+2,a,true,out),?_,?_,?_,dH,?_⟩
     ·exact⟨by dsimp only;omega,g2,by dsimp only;omega,by dsimp only;omega,g5⟩
     ·dsimp only;omega
     ·first|rfl|(simp[go_sem];done)
     ·exact at_
    ·rw[if_neg h92]at g5;have nF:decide (c.toNat≠34) = !((c.toNat:Int)==34):=by rw[a_];simp;omega
     rw[nF]at g5;repeat' first|simp (disch:=omega) only[go_sem,aF,aG,aH,hc]|refine aE ?_|refine aD ?_ ?_<;>intro hw<;>try omega|fail
     all_goals first
      | exact bN
      | skip
     refine⟨(i+1,a,!((c.toNat:Int)==34),out),?_,?_,?_,dH,?_⟩
     ·exact⟨by dsimp only;omega,g2,by dsimp only;omega,by dsimp only;omega,g5⟩
     ·dsimp only;omega
     ·first|rfl|(simp[go_sem];done)
     ·exact at_
  | false =>
    rw[if_neg (by decide)]at g5;by_cases hy:c=y
    ·rw[if_pos hy]at g5;repeat' first|simp (disch:=omega) only[go_sem,aF,aG,aH,hc,tY,sj]|refine aE ?_|refine aD ?_ ?_<;>intro hw<;>try omega|fail
     all_goals first
      | exact bN
      | skip
     refine⟨(i+1,i+1,false,out++[n9 cur]),?_,?_,?_,dH,?_⟩
     ·exact⟨by dsimp only;omega,by dsimp only;omega,by dsimp only;omega,by simp;omega,by rw[g5];simp⟩
     ·dsimp only;omega
     ·first|rfl|(simp[go_sem,cj];done)
     ·exact at_
    ·rw[if_neg hy]at g5;have hy':¬ c.toNat=y.toNat:=fun e=>hy (hu.1 e);by_cases h34:c.toNat=34
     ·rw[decide_eq_true h34]at g5;repeat' first|simp (disch:=omega) only[go_sem,aF,aG,aH,hc]|refine aE ?_|refine aD ?_ ?_<;>intro hw<;>try omega|fail
      all_goals first
       | exact bN
       | skip
      refine⟨(i+1,a,true,out),?_,?_,?_,dH,?_⟩
      ·exact⟨by dsimp only;omega,g2,by dsimp only;omega,by dsimp only;omega,g5⟩
      ·dsimp only;omega
      ·first|rfl|(simp[go_sem];done)
      ·exact at_
     ·rw[decide_eq_false h34]at g5;repeat' first|simp (disch:=omega) only[go_sem,aF,aG,aH,hc]|refine aE ?_|refine aD ?_ ?_<;>intro hw<;>try omega|fail
      all_goals first
       | exact bN
       | skip
      refine⟨(i+1,a,false,out),?_,?_,?_,dH,?_⟩
      ·exact⟨by dsimp only;omega,g2,by dsimp only;omega,by dsimp only;omega,g5⟩
      ·dsimp only;omega
      ·first|rfl|(simp[go_sem];done)
      ·exact at_
 ·rw[Vz (by omega)]at g5;have ct:=CW (s.drop a) (by simp;omega);repeat' first|refine aE ?_|refine aD ?_ ?_<;>intro hw<;>try omega|fail
  all_goals first|exact bN|(refine iw ?_;rw[g5,fY];exact View.vec rfl (by simp) (by simp) (by have h:=uH (out++[n9 (s.drop a)]);rw[fY]at h;exact h))|skip
def SH: ∀(k m:Nat) (s:aI),s.length<=k->s.length<=m->pieces k s=pieces m s:=by
 intro k
 induction k with
 | zero =>
   intro m s h _;obtain rfl:=List.length_eq_zero_iff.1 (by omega:s.length=0);cases m with
   | zero=>rfl
   | succ m=>rfl
 | succ k ih =>
   intro m s h h2;cases m with
   | zero =>
     obtain rfl:=List.length_eq_zero_iff.1 (by omega:s.length=0);rfl
   | succ m =>
     rw[pieces,pieces];split
     ·rename_i hc;have:=((Ax 32 s).1 hc).2;have hl:(cH 32 s).2.1.length+1<=s.length:=by rw[this.1,List.length_drop];omega
      rw[ih m _ (by omega) (by omega)]
     ·rfl
def SI: ∀(k:Nat) (s:aI),1<=(pieces k s).length/\(pieces k s).length<=k+1:=by
 intro k
 induction k with
 | zero=>intro s;simp[pieces]
 | succ k ih =>
   intro s;rw[pieces];split
   ·have:=ih (cH 32 s).2.1;rw[List.length_cons];omega
   ·simp
def VA{l:List aI}{N:Nat}{x:aI}(h:l.length<N): (l.map cj++List.replicate (N-l.length) (AV.str [])).set l.length (.str x)=(l++[x]).map cj++List.replicate (N-(l++[x]).length) (AV.str []):=by
 obtain⟨m,hm⟩:∃ m,N-l.length=m+1:=⟨N-l.length-1,by omega⟩;have e:N-(l++[x]).length=m:=by simp;omega
 rw[hm,e,List.replicate_succ,List.set_append_right _ _ (by simp)];simp[cj]
def Kn{α : Type}{a b:List α}{i:Nat}{d : α}(h:i<a.length): (a++b).getD i d=a.getD i d:=by
 simp[aj,aC h]
def NG{xs ys:List AV}{n m:Nat}(hn:n=ys.length)(hm:m=(ys++xs).length)(hp:AV.cA ys=true): View [aY.vec E1 (ys++xs)] (.own E1 0 m 0 n) (.aO false E1 ys):=by
 subst hn;subst hm;exact .own none E1 0 0 ys.length (ys++xs) ys rfl rfl (by simp) (fun i hi=>by rw[bV,Kn hi];exact .refl _ (iX hp i))
def Fx(s:aI)(n:Nat)(hn:1<=n)(hn2:n<=2 ^ 20)(hs:s.length<=2 ^ 40): aP aK 185 [.str s,.str [32],I 0,I n] (bX (pieces (n-1) s)):=by
 obtain⟨k,hk,hk0,hN⟩:∃ k:Nat,pieces (n-1) s=pieces k s/\k+1<=n/\(if(s.length:Int)+1<n then(s.length:Int)+1 else n)=(k:Int)+1:=by
  by_cases h:n<s.length+1
  ·exact⟨n-1,rfl,by omega,by rw[if_neg (by omega)];omega⟩
  ·exact⟨s.length,SH _ _ _ (by omega) (by omega),by omega,by split<;>omega⟩
 rw[hk];obtain⟨E,hE⟩:∃ E,pieces k s=E:=⟨_,rfl⟩;rw[hE];simp only[bX];refine aR Bc ?_;intro Q aF aG aH;have Ti:((k:Int)+1).toNat=k+1:=by omega
 have kR:(k:Int)+1-1=k:=by omega
 repeat' first|simp (disch:=omega) only[go_sem,aF,aG,aH,hN,Ti,kR]|refine aE ?_|refine aD ?_ ?_<;>intro hw<;>try omega|fail
 all_goals first|(exfalso;omega)|(exfalso;simp_all;done)|skip
 with_reducible refine bZ [0,10,11,34,35,36,37,38,39,40,41,42,43,44,45,46,47,48,49,50,51,52,53,54,55,56,57] (fun q:List aI × aI=>[(0,.str q.2),(10,I q.1.length)]) (fun q=>[.vec E1 (q.1.map cj++List.replicate (k+1-q.1.length) (.str []))]) (fun q=>q.1.length<=k/\q.2.length<=s.length/\E=q.1++pieces (k-q.1.length) q.2) (fun q=>k-q.1.length) (([],s)) ?_ ?_ ?_ ?_
 ·exact⟨by simp,by simp,by simp[hE]⟩
 ·simp;rfl
 ·exact at_
 rintro⟨l,u⟩ r ⟨g1,g2,g3⟩;dsimp only at g1 g2 g3;have c1:=strings_Index u 32;obtain⟨q1,q2⟩:=Ax 32 u;have tE:=fun x=>VA (l:=l) (N:=k+1) (x:=x) (by omega);unfold CX at c1;by_cases hk:l.length<k
 ·obtain⟨m,hm⟩:∃ m,k-l.length=m+1:=⟨k-l.length-1,by omega⟩;rw[hm,pieces]at g3;cases hc:(cH 32 u).2.2 with
  | true =>
    rw[hc,if_pos rfl]at g3 c1;obtain⟨e1,e2,e3⟩:=q1 hc;generalize (cH 32 u).1=w at *;generalize (cH 32 u).2.1=rest at *;generalize w.length=j at *;subst e1;subst e2;repeat' first|simp (disch:=omega) only[go_sem,aF,aG,aH,aB,if_false,tE]|refine aE ?_|refine aD ?_ ?_<;>intro hw<;>try omega|fail
    all_goals first|(exfalso;omega)|skip
    refine⟨(l++[u.take j],u.drop (j+1)),?_,?_,?_,dH,?_⟩
    ·refine⟨by simp;omega,?_,?_⟩
     ·dsimp only;rw[List.length_drop];omega
     ·dsimp only;rw[g3,show k-(l++[u.take j]).length=m by simp;omega];simp
    ·simp;omega
    ·first|rfl|(simp[go_sem];done)
    ·exact at_
  | false =>
    rw[hc,if_neg (by decide)]at g3 c1;repeat' first|simp (disch:=omega) only[go_sem,aF,aG,aH,aB,if_false,tE,bH,aS]|refine aE ?_|refine aD ?_ ?_<;>intro hw<;>try omega|fail
    all_goals first|(exfalso;omega)|skip
    refine iw ?_;rw[g3];exact NG (by simp) (by simp;omega) (uH _)
 ·have hm:k-l.length=0:=by omega
  rw[hm,pieces]at g3;repeat' first|simp (disch:=omega) only[go_sem,aF,aG,aH,aB,if_false,tE,bH,aS]|refine aE ?_|refine aD ?_ ?_<;>intro hw<;>try omega|fail
  all_goals first|(exfalso;omega)|skip
  refine iw ?_;rw[g3];exact NG (by simp) (by simp;omega) (uH _)
