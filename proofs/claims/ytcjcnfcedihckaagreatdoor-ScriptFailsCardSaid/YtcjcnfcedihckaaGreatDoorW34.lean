/- Part. -/
import Derived.Test.YtcjcnfcedihckaaGreatDoorW33
set_option linter.all false
namespace Go.Proofs.YtcjcnfcedihckaaGreatDoor
open Go.AM
set_option maxRecDepth 4000
def jl(r:fV): List aI->Option fV
 | []=>some r
 | s::l=>if(eu r s).2=true then jl (eu r s).1 l else none
def I4{r:fV}{a b:List aI}: jl r (a++b)=(jl r a).bind fun q=>jl q b:=by
 induction a generalizing r with
 | nil=>rfl
 | cons s a ih =>
   rw[bD,jl,jl];split
   ·exact ih
   ·rfl
def Dr{r q:fV}{a b:List aI}(h:jl r a=some q): jl r (a++b)=jl q b:=by rw[I4,h];rfl
def RL{r q:fV}{s:aI}(h:eu r s=(q,true)): jl r [s]=some q:=by
 unfold jl;rw[h,if_pos rfl];rfl
def rC{r:fV}(h:r.now≠0)(s:aI): eu r s=jH r s:=by unfold eu;rw[if_pos h]
def JR{t u:Table}{w:aI}(h:eT u=eT t++[w]): kH u w=true:=by
 unfold kH;rw[h];simp
def WK(w n k:aI)(hw:lF w)(o:List ez): (cD 32 (fq (bQ [w,n,k]) o)).1=w:=by
 unfold fq;split
 ·rw[fj];exact og hw
 ·rw[fj,bx,bx];exact og hw
def vB{t:Table}(h:rB t){c:cV}(hc:c ∈ t.ins): fh c.name=true/\1<=c.kind/\c.kind<=3/\c.order=[]:=by
 obtain⟨_,f2,_⟩:=jv h.frame;obtain⟨h1,h2,h3⟩:=h_ f2;obtain⟨_,hz⟩:=nq h1;obtain⟨i,hi,rfl⟩:=bz hc;have hg:t.ins.getD i default=t.ins[i]:=by simp[aj,hi]
 obtain⟨a,_,b,d⟩:=yD (hz i hi);rw[hg]at a b d;have ho:=h3 _ hc;unfold iT at ho;simp only[aB,if_false,decide_eq_true_eq]at ho;exact⟨a,b,d,List.length_eq_zero_iff.1 ho⟩
def qz{t:Table}(h:rB t){c:cV}(hc:c ∈ t.outs): fh c.name=true/\1<=c.kind/\c.kind<=3/\ ∀ v ∈ c.order,bZ v=true:=by
 obtain⟨_,_,f3,_⟩:=jv h.frame;obtain⟨h1,h2,h3⟩:=h_ f3;obtain⟨_,hz⟩:=nq h1;obtain⟨i,hi,rfl⟩:=bz hc;have hg:t.outs.getD i default=t.outs[i]:=by simp[aj,hi]
 obtain⟨a,_,b,d⟩:=yD (hz i hi);rw[hg]at a b d;have ho:=h3 _ hc;refine⟨a,b,d,fun v hv=>?_⟩;unfold iT at ho;split at ho
 ·simp only[aq,decide_eq_true_eq,aX]at ho;obtain⟨j,hj,rfl⟩:=bz hv;have:=ho.1 j (cY.2 hj);unfold pV at this;simp only[aq,decide_eq_true_eq]at this;simpa[aj,hj]using this.1.1
 ·simp only[decide_eq_true_eq]at ho;rw[List.length_eq_zero_iff.1 ho]at hv;cases hv
def Ds{α : Type}{a b:List α}{x : α}: (a++x::b).take (a.length+1)=a++[x]:=by
 rw[List.take_append,bp (by omega)];simp
def abi {t : Table} (h : rB t) (out : List ef) : ∀ (suf pre : List cV), pre ++ suf = t.ins -> ∀ n, (n = 1 \/ n = 2) -> ∃ n', (n' = 1 \/ n' = 2) /\ (n = 2 \/ suf ≠ [] -> n' = 2) /\
    jl ⟨out,n,⟨t.name,pre,[],t.aL,t.agg,[]⟩⟩ (suf.map kx)=some ⟨out,n',⟨t.name,t.ins,[],t.aL,t.agg,[]⟩⟩:=by
 intro suf
 induction suf with
 | nil =>
   intro pre hp n hn;rw[bY]at hp;subst hp;exact⟨n,hn,fun h=>h.resolve_right (fun h=>h rfl),rfl⟩
 | cons c suf ih =>
   intro pre hp n hn;have hc:c ∈ t.ins:=by rw[<-hp];simp
   obtain⟨a,b,d,e⟩:=vB h hc;have hr:=OQ lO.1 a b d (fun v hv=>by rw[e]at hv;cases hv);have hw:fq (bQ [EW,c.name,jA c.kind]) c.order=kx c:=by unfold fq kx;rw[e];rfl
   have r8:=WK EW c.name (jA c.kind) lO.1 c.order;rw[hw]at hr r8
   have hst:ei ⟨t.name,pre++[c],[],t.aL,t.agg,[]⟩=true:=by
    have:=abf h (k:=pre.length+1) (by omega);rwa[<-hp,Ds]at this
   have hla:kH ⟨t.name,pre++[c],[],t.aL,t.agg,[]⟩ (kx c)=true:=JR (Gb (t:=⟨t.name,pre,[],t.aL,t.agg,[]⟩) rfl rfl c)
   have hl:eu ⟨out,n,⟨t.name,pre,[],t.aL,t.agg,[]⟩⟩ (kx c)=(⟨out,2,⟨t.name,pre++[c],[],t.aL,t.agg,[]⟩⟩,true):=by
    rw[rC (by dsimp only;omega)];unfold jH mE;rw[if_pos ⟨r8,by dsimp only;omega⟩,hr];dsimp only;rw[hst,hla];rfl
   obtain⟨n',q1,q2,q3⟩:=ih (pre++[c]) (by rw[<-hp];simp) 2 (.inr rfl);refine⟨n',q1,fun _=>q2 (.inl rfl),?_⟩;rw[aU,jl,hl,if_pos rfl];exact q3
def YW {t : Table} (h : rB t) (hg : ∀ c ∈ t.outs, ∀ v ∈ c.order, iu v.n) (out : List ef) : ∀ (suf pre : List cV), pre ++ suf = t.outs -> ∀ n, (n = 2 \/ n = 3) -> ∃ n', (n' = 2 \/ n' = 3) /\ (n = 3 \/ suf ≠ [] -> n' = 3) /\
    jl ⟨out,n,⟨t.name,t.ins,pre,t.aL,t.agg,[]⟩⟩ (suf.map iM)=some ⟨out,n',⟨t.name,t.ins,t.outs,t.aL,t.agg,[]⟩⟩:=by
 intro suf
 induction suf with
 | nil =>
   intro pre hp n hn;rw[bY]at hp;subst hp;exact⟨n,hn,fun h=>h.resolve_right (fun h=>h rfl),rfl⟩
 | cons c suf ih =>
   intro pre hp n hn;have hc:c ∈ t.outs:=by rw[<-hp];simp
   obtain⟨a,b,d,e⟩:=qz h hc;have hr:=OQ lO.2.1 a b d (fun v hv=>⟨e v hv,hg c hc v hv⟩);have r8:=WK uE c.name (jA c.kind) lO.2.1 c.order;have hw:fq (bQ [uE,c.name,jA c.kind]) c.order=iM c:=rfl;rw[hw]at hr r8
   have hst:ei ⟨t.name,t.ins,pre++[c],t.aL,t.agg,[]⟩=true:=by
    have:=YT h (k:=pre.length+1) (by omega);rwa[<-hp,Ds]at this
   have hla:kH ⟨t.name,t.ins,pre++[c],t.aL,t.agg,[]⟩ (iM c)=true:=JR (Dn (t:=⟨t.name,t.ins,pre,t.aL,t.agg,[]⟩) rfl c)
   have hl:eu ⟨out,n,⟨t.name,t.ins,pre,t.aL,t.agg,[]⟩⟩ (iM c)=(⟨out,3,⟨t.name,t.ins,pre++[c],t.aL,t.agg,[]⟩⟩,true):=by
    rw[rC (by dsimp only;omega)];unfold jH lN;rw[if_neg (by rw[r8];rintro⟨h,_⟩;revert h;decide),if_pos ⟨r8,by dsimp only;omega⟩,hr];dsimp only;rw[hst,hla];rfl
   obtain⟨n',q1,q2,q3⟩:=ih (pre++[c]) (by rw[<-hp];simp) 3 (.inr rfl);refine⟨n',q1,fun _=>q2 (.inl rfl),?_⟩;rw[aU,jl,hl,if_pos rfl];exact q3
def WL {t : Table} (h : rB t) (out : List ef) : ∀ (suf pre : List eL), pre ++ suf = t.rules -> ∀ n, (n = 3 \/ n = 4) -> ∃ n', (n' = 3 \/ n' = 4) /\
    jl ⟨out,n,⟨t.name,t.ins,t.outs,t.aL,t.agg,pre⟩⟩ (suf.map eW)=some ⟨out,n',t⟩:=by
 intro suf
 induction suf with
 | nil =>
   intro pre hp n hn;rw[bY]at hp;subst hp;exact⟨n,hn,rfl⟩
 | cons c suf ih =>
   intro pre hp n hn;have hc:c ∈ t.rules:=by rw[<-hp];simp
   obtain⟨_,f2,f3,_⟩:=jv h.frame;obtain⟨_,i2,_⟩:=h_ f2;obtain⟨_,o2,_⟩:=h_ f3;obtain⟨a,b,d,e⟩:=A_ h hc;have hr:=WJ (r:=c) (fun e=>by rw[e]at a;simp at a;omega) (fun e=>by rw[e]at b;simp at b;omega) d e;have r8:(cD 32 (eW c)).1=tM:=by unfold eW;rw[nr];exact og lO.2.2.2.1
   have hst:ei ⟨t.name,t.ins,t.outs,t.aL,t.agg,pre++[c]⟩=true:=by
    have:=WI h (pre.length+1);rwa[<-hp,Ds]at this
   have hla:kH ⟨t.name,t.ins,t.outs,t.aL,t.agg,pre++[c]⟩ (eW c)=true:=JR (A5 ⟨t.name,t.ins,t.outs,t.aL,t.agg,pre⟩ c)
   have hl:eu ⟨out,n,⟨t.name,t.ins,t.outs,t.aL,t.agg,pre⟩⟩ (eW c)=(⟨out,4,⟨t.name,t.ins,t.outs,t.aL,t.agg,pre++[c]⟩⟩,true):=by
    rw[rC (by dsimp only;omega)];unfold jH kz;rw[if_neg (by rw[r8];rintro⟨h,_⟩;revert h;decide),if_neg (by rw[r8];rintro⟨h,_⟩;revert h;decide),if_pos ⟨r8,by dsimp only;omega⟩,hr];dsimp only;rw[hst,hla];rfl
   obtain⟨n',q1,q3⟩:=ih (pre++[c]) (by rw[<-hp];simp) 4 (.inr rfl);refine⟨n',q1,?_⟩;rw[aU,jl,hl,if_pos rfl];exact q3
def YX{t:Table}(h:rB t)(hg:∀ c ∈ t.outs,∀ v ∈ c.order,iu v.n)(out:List ef)(ho:out.length<64)(t0:Table): ∃ n,(n=3\/n=4)/\jl ⟨out,0,t0⟩ (eT t)=some ⟨out,n,t⟩:=by
 obtain⟨f1,f2,f3,f4,_⟩:=jv h.frame;obtain⟨_,i2,_⟩:=h_ f2;obtain⟨_,o2,_⟩:=h_ f3;obtain⟨p1,p2,p3,p4,p5⟩:=pZ f4;obtain⟨i1,b1⟩:=abg p1 p2;obtain⟨i3,b3⟩:=abh p3 p4
 have hw:∀ z ∈ [zI,t.name,qP t.aL,rX t.agg],lF z:=fun z hz=>by
  simp only[List.mem_cons,List.not_mem_nil,or_false]at hz;rcases hz with rfl|rfl|rfl|rfl
  ·exact lO.2.2.1
  ·exact xI f1
  ·exact b1
  ·exact b3
 have e:=sE (n:=4) (by simp) hw rfl;have hpre:tN.isPrefixOf (jt t)=true:=by unfold jt;rw[nr];rfl
 have hb:gu ⟨out,0,t0⟩ (jt t)=(⟨out,1,⟨t.name,[],[],t.aL,t.agg,[]⟩⟩,true):=by
  unfold gu jt;rw[e];dsimp only;simp only[aV,cq];rw[if_neg (by simp[f1]),i1,i3,decide_eq_true (by omega),decide_eq_true (by omega)];rfl
 have hst:ei ⟨t.name,[],[],t.aL,t.agg,[]⟩=true:=by
  unfold ei;rw[if_pos (by rfl)];dsimp only;rcases p5 with p5|⟨p5,_⟩
  ·rw[decide_eq_true p5];rfl
  ·rw[decide_eq_true p5,Bool.or_true]
 have hh:eu ⟨out,0,t0⟩ (jt t)=(⟨out,1,⟨t.name,[],[],t.aL,t.agg,[]⟩⟩,true):=by
  unfold eu;rw[if_neg (by simp),if_neg (by dsimp only;omega),if_pos hpre,hb];dsimp only;rw[hst];have:jt ⟨t.name,[],[],t.aL,t.agg,[]⟩=jt t:=rfl;rw[this,decide_eq_true rfl];rfl
 obtain⟨n1,a1,a2,a3⟩:=abi h out t.ins [] rfl 1 (.inl rfl);have a2:n1=2:=a2 (.inr fun e=>by rw[e]at i2;simp at i2);subst a2;obtain⟨n2,c1,c2,c3⟩:=YW h hg out t.outs [] rfl 2 (.inl rfl);have c2:n2=3:=c2 (.inr fun e=>by rw[e]at o2;simp at o2);subst c2;obtain⟨n3,d1,d3⟩:=WL h out t.rules [] rfl 3 (.inl rfl);refine⟨n3,d1,?_⟩;unfold eT;rw[jl,hh,if_pos rfl];dsimp only;rw[bx,Dr a3,Dr c3];exact d3
def abj{t:Table}(h:rB t)(hg:∀ c ∈ t.outs,∀ v ∈ c.order,iu v.n)(out:List ef)(ho:out.length<64)(t0:Table): jl ⟨out,0,t0⟩ (gO t)=some ⟨out++[{ eV with kind:=1,table:=t }],0,t⟩:=by
 obtain⟨n,hn,hb⟩:=YX h hg out ho t0;unfold gO;rw[Dr hb];refine RL ?_;rw[rC (by dsimp only;omega)];have hc:(cD 32 mI).1=mI:=by decide
 unfold jH;rw[hc,if_neg (by rintro⟨h,_⟩;revert h;decide),if_neg (by rintro⟨h,_⟩;revert h;decide),if_neg (by rintro⟨h,_⟩;revert h;decide),if_pos ⟨rfl,by dsimp only;omega⟩]
def WM{r:fV}{s:aI}(h:r.now≠0)(hs:s≠mI)(hb:(eu r s).2=true): (eu r s).1.now≠0:=by
 rw[rC h]at hb ⊢;unfold jH at hb ⊢;split
 ·simp[mE]
 split
 ·simp[lN]
 split
 ·simp[kz]
 split
 ·rename_i h;exact absurd h.1 hs
 ·exact h
def YY: ∀(l:List aI) (r q:fV),r.now≠0->(∀ s ∈ l,s≠mI)->jl r l=some q->q.now≠0:=by
 intro l
 induction l with
 | nil=>intro r q h _ e;rw[jl]at e;injection e with e;rw[<-e];exact h
 | cons s l ih =>
   intro r q h hs e;rw[jl]at e;split at e
   ·rename_i hb;exact ih _ q (WM h (hs s (by simp)) hb) (fun w hw=>hs w (by simp[hw])) e
   ·cases e
def Lw{c:ef}(ok:g_ c)(h:dX c=0)(out:List ef)(ho:out.length<64)(t0:Table): ∃ t,jl ⟨out,0,t0⟩ (cC c)=some ⟨out++[c],0,t⟩:=by
 by_cases h1:c.kind=1
 ·obtain⟨z1,k1,k9,hp,hn,hf,hm,h6,hr⟩:=mc h;obtain⟨p1,p2,p3,p4,p5⟩:=A4 hp;obtain⟨r1,r2,r3,r4,r5,r6,r7⟩:=ok;obtain⟨k,t,n,v,row,f,m⟩:=c;dsimp only at *;subst h1;obtain⟨rfl,rfl⟩:=p2.resolve_left (by omega);have y6:row=[]:=p3.resolve_left (by omega);have H8:m=0:=p5.resolve_left (by omega);have pB:f=0:=p4.resolve_left (by omega);subst y6;subst H8;subst pB;refine⟨t,?_⟩;unfold cC;rw[if_pos rfl];exact abj (xJ (z1 rfl)) (fun c hc v hv=>(r2.2.2.1.2 c hc).2.2 v hv |>.1) out ho t0
 ·obtain⟨w,w1,w2,w3⟩:=YV ok h h1;refine⟨t0,?_⟩;rw[w1];refine RL ?_;unfold eu;rw[if_neg (by simp),if_neg (by dsimp only;omega),if_neg (by rw[w3];simp),w2];dsimp only;rw[w1,if_neg (by simp[h])]
def Ly: ∀(l out:List ef) (t0:Table),(∀ c ∈ l,g_ c/\dX c=0)->out.length+l.length<=64-> ∃ t,jl ⟨out,0,t0⟩ (l.flatMap cC)=some ⟨out++l,0,t⟩:=by
 intro l
 induction l with
 | nil=>intro out t0 _ _;exact⟨t0,by simp[jl]⟩
 | cons c l ih =>
   intro out t0 h hl;simp only[List.length_cons]at hl;obtain⟨t,ht⟩:=Lw (h c (by simp)).1 (h c (by simp)).2 out (by omega) t0;obtain⟨t',ht'⟩:=ih (out++[c]) t (fun d hd=>h d (by simp[hd])) (by simp;omega);refine⟨t',?_⟩;rw[dw,Dr ht,ht'];simp
end Go.Proofs.YtcjcnfcedihckaaGreatDoor
namespace Go.Proofs.YtcjcnfcedihckaaGreatDoor
open Go.AM
set_option maxRecDepth 4000
def dZ(s:aI): Prop:= ∀ c ∈ s,c≠(10:UInt8)
def dZ.app{a b:aI}(ha:dZ a)(hb:dZ b): dZ (a++b):=fun c hc=>(iz.1 hc).elim (ha c) (hb c)
def dZ.join{l:List aI}{sep:aI}(h:∀ z ∈ l,dZ z)(hs:dZ sep): dZ (Lib.join l sep):=by
 cases l with
 | nil=>intro c hc;simp[Lib.join,List.intercalate]at hc
 | cons x l =>
   rw[join_cons];refine(h x (by simp)).app fun c hc=>?_;obtain⟨z,hz,hc⟩:=List.mem_flatMap.1 hc;exact(hs.app (h z (by simp[hz]))) c hc
def Ok.dZ{y:UInt8}{s:aI}(h:Ok y s): dZ s:=fun c hc e=>h.nl c hc (by rw[e];rfl)
def zK{s:aI}(h:fh s=true): dZ s:=by
 simp only[fh,aq,decide_eq_true_eq]at h;exact(Ok.word (y:=44) (.inl rfl) h.1.1.1 (yx h.1.1.1 h.1.1.2).2).dZ
def zL(n:Int): dZ (Lib.itoa n):=(Ok.itoa (y:=44) (.inl rfl) n).dZ
def adh{l:List ez}(h:∀ v ∈ l,bZ v=true): dZ (lW l):=dZ.join (fun z hz=>by
 obtain⟨v,hv,rfl⟩:=cy.1 hz;exact(Ok.val (y:=44) (.inl rfl) (h v hv)).dZ) (by unfold dZ lU;decide)
def Lz{s:aI}{l:List ez}(hs:dZ s)(h:∀ v ∈ l,bZ v=true): dZ (fq s l):=by
 unfold fq;split
 ·exact hs
 ·exact(hs.app (by unfold dZ;decide)).app (adh h)
def Ge{l:List aI}(h:∀ z ∈ l,dZ z): dZ (bQ l):=dZ.join h (by unfold dZ;decide)
def JT{l:List aI}(h:∀ z ∈ l,dZ z)(n:Nat): dZ (l.getD n []):=by
 rw[aj];cases hq:l[n]? with
 | none=>intro c hc;cases hc
 | some z=>exact h z (gw hq)
def WN(k:Int): dZ (jA k):=JT (by unfold pY dZ;decide) _
def adi(k:Int): dZ (qP k):=JT (by unfold rW dZ;decide) _
def adj(k:Int): dZ (rX k):=JT (by unfold oE dZ;decide) _
def WO{l:List aI}(h:∀ s ∈ l,Ok 58 s/\Ok 124 s): dZ (jP l):=dZ.join (fun z hz=>(h z hz).1.dZ) (by unfold dZ;decide)
def zM{a b c:aI}(h1:dZ a)(h2:dZ b)(h3:dZ c): dZ (bQ [a,b,c]):=Ge (JQ h1 h2 h3)
def RM{a b c d:aI}(h1:dZ a)(h2:dZ b)(h3:dZ c)(h4:dZ d): dZ (bQ [a,b,c,d]):=Ge fun z hz=>by
 simp only[List.mem_cons,List.not_mem_nil,or_false]at hz;rcases hz with rfl|rfl|rfl|rfl<;>assumption
def adk{t:Table}(h:rB t): ∀ s ∈ gO t,dZ s:=by
 obtain⟨f1,_⟩:=jv h.frame;intro s hs;simp only[gO,eT,iz,List.mem_cons,cy,List.not_mem_nil,or_false]at hs;rcases hs with(rfl|(⟨c,hc,rfl⟩|⟨c,hc,rfl⟩)|⟨r,hr,rfl⟩)|rfl
 ·exact RM (by unfold dZ;decide) (zK f1) (adi _) (adj _)
 ·exact zM (by unfold dZ;decide) (zK (vB h hc).1) (WN _)
 ·exact Lz (zM (by unfold dZ;decide) (zK (qz h hc).1) (WN _)) (qz h hc).2.2.2
 ·obtain⟨_,_,a,b⟩:=A_ h hr;exact RM (by unfold dZ;decide) (WO a) (by unfold dZ;decide) (WO b)
 ·unfold dZ;decide
def OR{c:ef}(h:dX c=0): ∀ s ∈ cC c,dZ s:=by
 obtain⟨z1,k1,k9,hp,hn,hf,hm,h6,hr⟩:=mc h;have hr:=aX.1 hr;unfold cC;split
 ·rename_i h1;exact adk (xJ (z1 h1))
 rename_i h1;split
 ·rename_i h2;intro s hs;obtain rfl:=bR.1 hs;exact Lz (zM (by unfold dZ;decide) (zK (hn (.inl h2)).1) (zL _)) hr
 rename_i h2;split
 ·rename_i h3;intro s hs;obtain rfl:=bR.1 hs;exact zM (by unfold dZ;decide) (zK (hn (.inr h3)).1) (zL _)
 split
 ·intro s hs;obtain rfl:=bR.1 hs;exact zM (by unfold dZ;decide) (zL _) (zL _)
 split
 ·intro s hs;obtain rfl:=bR.1 hs;refine Ge fun z hz=>?_;simp only[List.mem_cons,List.not_mem_nil,or_false]at hz;rcases hz with rfl|rfl
  ·unfold dZ;decide
  ·exact zL _
 ·intro s hs;obtain rfl:=bR.1 hs;unfold kI;repeat' split
  all_goals (unfold dZ;decide)
def WQ(s:aI)(l:List aI)(r:aI): cP (s::l)++r=s++(10::(cP l++r)):=by simp[cP]
def E0: ∀(ls:List aI) (r q:fV) (rest:aI) (n:Int) (f:Nat),(∀ s ∈ ls,dZ s)->jl r ls=some q->(cP ls++rest).length<=f-> ∃ f',rest.length<=f'/\hY f r (cP ls++rest) n=hY f' q rest (n+ls.length):=by
 intro ls
 induction ls with
 | nil =>
   intro r q rest n f _ h hf;rw[jl]at h;injection h with h;subst h;exact⟨f,by simpa[cP]using hf,by simp[cP]⟩
 | cons s l ih =>
   intro r q rest n f hn h hf;rw[WQ]at hf ⊢;have hl:=hf;simp only[aA,List.length_cons]at hl;obtain⟨f,rfl⟩:∃ k,f=k+1:=⟨f-1,by omega⟩;rw[jl]at h;split at h
   ·rename_i hb;have hc:=xG (c:=10) (cP l++rest) (hn s (by simp));obtain⟨f',a,b⟩:=ih _ q rest (n+1) f (fun w hw=>hn w (by simp[hw])) h (by simp;omega);refine⟨f',a,?_⟩;rw[hY,if_neg (by simp),hc,if_neg (by simp)];dsimp only;rw[if_neg (by rw[hb];simp),b]
    congr 1
    rw[List.length_cons];omega
   ·cases h
def tO(l:List ef): dK l=cP (l.flatMap cC):=by
 unfold dK cP;rw[List.flatMap_assoc]
def Dt(f:Nat)(r:fV)(n:Int): hY f r [] n=(r,[],n):=by
 cases f with
 | zero=>rfl
 | succ f=>rw[hY,if_pos rfl]
def zN{l:List ef}(h:∀ c ∈ l,g_ c/\dX c=0): ∀ s ∈ l.flatMap cC,dZ s:=fun s hs=>by
 obtain⟨c,hc,hs⟩:=List.mem_flatMap.1 hs;exact OR (h c hc).2 s hs
def H9{l:List ef}(hl:l.length<=64)(h:∀ c ∈ l,g_ c/\dX c=0)(hs:(dK l).length<=65536): iE (dK l)=(l,0,0):=by
 obtain⟨t,ht⟩:=Ly l [] iD h (by simpa using hl);rw[tO]at hs ⊢;obtain⟨f',a,b⟩:=E0 (l.flatMap cC) qQ _ [] 1 (cP (l.flatMap cC)).length (zN h) ht (by simp);rw[bY,Dt]at b;unfold iE;rw[if_neg (by omega),b];dsimp only;rw[if_neg (by simp)];simp
def aeF(r:fV)(s:aI): Prop:=(s=[]/\r.now≠0)\/(s≠[]/\((cD 10 s).2.2=false\/(eu r (cD 10 s).1).2=false))
def Ba{ls:List aI}{q:fV}{rest:aI}(hn:∀ s ∈ ls,dZ s)(h:jl qQ ls=some q)(hl:(cP ls++rest).length<=65536)(hs:aeF q rest): iE (cP ls++rest)=([],1+(ls.length:Int),4):=by
 obtain⟨f',a,b⟩:=E0 ls qQ q rest 1 (cP ls++rest).length hn h (Nat.le_refl _);unfold iE;rw[if_neg (by omega),b];rcases hs with⟨rfl,h1⟩|⟨h1,h2⟩
 ·rw[Dt];dsimp only;rw[if_pos (.inr h1)]
 ·obtain ⟨f', rfl⟩ : ∃ k, f' = k + 1 := ⟨f' - 1, by
   cases rest with
   | nil=>exact absurd rfl h1
   | cons c s=>simp at a;omega⟩
  have e:∃ q',hY (f'+1) q rest (1+(ls.length:Int))=(q',rest,1+(ls.length:Int)):=by
   rw[hY,if_neg h1];by_cases h3:(cD 10 rest).2.2=false
   ·rw[if_pos h3];exact⟨_,rfl⟩
   ·rw[if_neg h3,if_pos (h2.resolve_left h3)];exact⟨_,rfl⟩
  obtain⟨q',e⟩:=e;rw[e];dsimp only;rw[if_pos (.inl h1)]
def abk(c:UInt8): ∀(s:aI),∀ x ∈ (cD c s).1,x ∈ s:=by
 intro s
 induction s with
 | nil=>intro x h;cases h
 | cons b s ih =>
   intro x h;rw[cD]at h;split at h
   ·cases h
   ·rcases List.mem_cons.1 h with rfl|h
    ·simp
    ·exact bI _ (ih x h)
def lowerB(c:UInt8): Bool:=decide (97<=c.toNat) && decide (c.toNat<=122)
def YZ{bad:aI}(h:∀ c ∈ bad,lowerB c=false){r:fV}(h0:r.now=0): (eu r bad).2=false:=by
 have hx:∀ (w:aI) (c:UInt8),c ∈ w->lowerB c=true->(∀ x ∈ w,x ∈ bad)->False:=fun w c hc hl hs=>by
  rw[h c (hs c hc)]at hl;cases hl
 have h1:∀ w:aI,(∃ c ∈ w,lowerB c=true)->(cD 32 bad).1≠w:=fun w ⟨c,hc,hl⟩ e=>hx w c hc hl (by rw[<-e];exact abk 32 bad);have h2:∀ w:aI,(∃ c ∈ w,lowerB c=true)->bad≠w:=fun w ⟨c,hc,hl⟩ e=>hx w c hc hl (by rw[e];exact fun x hx=>hx)
 have e:lJ bad=(eV,false):=by
  unfold lJ;rw[if_neg (h1 _ (by decide)),if_neg (h1 _ (by decide)),if_neg (h1 _ (by decide)),if_neg (h1 _ (by decide)),if_neg (h2 _ (by decide)),if_neg (h2 _ (by decide)),if_neg (h2 _ (by decide)),if_neg (h2 _ (by decide))]
 unfold eu;rw[if_neg (by simp[h0])];split
 ·rfl
 split
 ·rename_i hp;obtain⟨w,hw⟩:=List.isPrefixOf_iff_prefix.1 hp;exact absurd (h 116 (by rw[<-hw];simp)) (by decide)
 ·rw[e,if_pos (.inl rfl)]
def Y0{l:List aI}(h:∀ s ∈ l,dZ s): nJ (cP l)=l.length:=by
 induction l with
 | nil=>rfl
 | cons s l ih =>
   have e:cP (s::l)=s++(10::cP l):=by simp[cP]
   have z:nJ s=0:=by
    unfold nJ;rw[List.countP_eq_zero];intro a ha hh;exact h s (by simp) a ha (UInt8.toNat_inj.1 (by simpa using hh))
   have i:=ih (fun w hw=>h w (by simp[hw]));unfold nJ at z i ⊢;rw[e,List.countP_append,z,List.countP_cons,i];simp
section
variable {l:List ef} (hl:l.length<=64) (h:∀ c ∈ l,g_ c/\dX c=0)
include hl h
theorem Du(k:Nat): ∃ t,jl qQ ((l.take k).flatMap cC)=some ⟨l.take k,0,t⟩:=by
 have:=Ly (l.take k) [] iD (fun c hc=>h c (dn hc)) (by simp;omega);simpa[qQ]using this
theorem Gf(k:Nat): nJ (dK (l.take k))=((l.take k).flatMap cC).length:=by
 rw[tO];exact Y0 (zN fun c hc=>h c (dn hc))
theorem WR{bad s:aI}(hn:dZ bad)(hb:∀ c ∈ bad,lowerB c=false)(k:Nat)(hs:(dK (l.take k)++(bad++(10::s))).length<=65536): iE (dK (l.take k)++(bad++(10::s)))=([],(nJ (dK (l.take k)):Int)+1,4):=by
 obtain⟨t,ht⟩:=Du hl h k;have e:=Gf hl h k;rw[tO]at hs e ⊢;rw[Ba (zN fun c hc=>h c (dn hc)) ht hs (.inr ⟨by simp,.inr (by rw[xG s hn];exact YZ hb rfl)⟩),e,Int.add_comm]
theorem T1(k:Nat)(hs:(dK (l.take k)++[97,117,100,105]).length<=65536): iE (dK (l.take k)++[97,117,100,105])=([],(nJ (dK (l.take k)):Int)+1,4):=by
 obtain⟨t,ht⟩:=Du hl h k;have e:=Gf hl h k;rw[tO]at hs e ⊢;rw[Ba (zN fun c hc=>h c (dn hc)) ht hs (.inr ⟨by simp,.inl (by decide)⟩),e,Int.add_comm]
theorem WS {k i : Nat} (hk : k < l.length) (hi : i + 1 < (cC (l.getD k default)).length) (hs : (dK (l.take k) ++ cP ((cC (l.getD k default)).take (i + 1))).length <= 65536) :
    iE (dK (l.take k)++cP ((cC (l.getD k default)).take (i+1)))=([],(nJ (dK (l.take k)):Int)+i+2,4):=by
 obtain⟨t,ht⟩:=Du hl h k;have e:=Gf hl h k;have hc:=h _ (bH hk);generalize l.getD k default=c at *
 have hkd:c.kind=1:=by
  apply Classical.byContradiction;intro h1;obtain⟨w,hw⟩:=HU h1;rw[hw]at hi;simp at hi
 have ZW:cC c=gO c.table:=by unfold cC;rw[if_pos hkd]
 obtain⟨t',ht'⟩:=Lw hc.1 hc.2 (l.take k) (by simp;omega) t;have hsub:=OR hc.2;rw[ZW]at hi hs ht' hsub ⊢;have kr:=xJ ((mc hc.2).1 hkd)
 have r8:∃ q,jl ⟨l.take k,0,t⟩ ((gO c.table).take (i+1))=some q/\q.now≠0:=by
  rw[<-List.take_append_drop (i+1) (gO c.table),I4]at ht';cases hq:jl ⟨l.take k,0,t⟩ ((gO c.table).take (i+1))with
  | none=>rw[hq]at ht';cases ht'
  | some q =>
    refine⟨q,rfl,?_⟩
    have hb:(gO c.table).take (i+1)=jt c.table::((c.table.ins.map kx++c.table.outs.map iM++c.table.rules.map eW).take i):=by
     unfold gO eT at hi ⊢;rw[List.take_append_of_le_length (by simp at hi ⊢;omega),List.take_succ_cons]
    rw[hb,jl]at hq;split at hq
    ·rename_i nX;refine YY _ _ q ?_ (fun s hs=>?_) hq
     ·have hp:tN.isPrefixOf (jt c.table)=true:=by unfold jt;rw[nr];rfl
      unfold eu at nX ⊢;rw[if_neg (by simp)]at nX ⊢;split at nX
      ·cases nX
      rename_i Wx;rw[if_neg Wx];try rw[if_pos hp]
      try rw[if_pos hp]at nX
      simp only[aq]at nX;have nX:=nX.1.1;unfold gu at nX ⊢;split at nX
      ·cases nX
      ·rename_i hc;rw[if_neg hc];simp
     ·have hs:=dn hs
      have EP:(32:UInt8) ∈ s:=by
       simp only[iz,cy]at hs;rcases hs with(⟨c,hc,rfl⟩|⟨c,hc,rfl⟩)|⟨r,hr,rfl⟩
       ·unfold kx;rw[fj];simp
       ·unfold iM fq;split<;>(rw[fj];simp)
       ·unfold eW;rw[nr];simp
      intro e;rw[e]at EP;revert EP;decide
    ·cases hq
 obtain⟨q,q1,q2⟩:=r8;have hrun:jl qQ ((l.take k).flatMap cC++(gO c.table).take (i+1))=some q:=by rw[Dr ht];exact q1
 have hnl:∀ s ∈ (l.take k).flatMap cC++(gO c.table).take (i+1),dZ s:=fun s hs=>by
  rcases List.mem_append.1 hs with hs|hs
  ·exact zN (fun c hc=>h c (dn hc)) s hs
  ·exact hsub s (dn hs)
 have hfl:dK (l.take k)++cP ((gO c.table).take (i+1))=cP ((l.take k).flatMap cC++(gO c.table).take (i+1))++[]:=by
  rw[tO,List.append_nil];unfold cP;rw[List.flatMap_append]
 rw[hfl]at hs ⊢;rw[Ba hnl hrun hs (.inl ⟨rfl,q2⟩),aA,e,List.length_take,Nat.min_eq_left (by omega)]
 congr 2
 omega
end
end Go.Proofs.YtcjcnfcedihckaaGreatDoor
namespace Go.Proofs.YtcjcnfcedihckaaGreatDoor
open Go.AM
set_option maxRecDepth 4000
def H_ {P : Program} {f : FuncId} {args : List AV} {r : AV} (hf : Has P f)
    (h : ∀ (g : aJ) (w : World) (σ : ae) (vs : Array Value), Rel g w σ -> args.length = vs.size -> (∀ i, i < args.length -> VR g w (args.getD i .undef) (vs.getD i Go.undef)) ->
      Calls P f vs w fun e w'=> ∃ v,e = .returned v/\(∀ g':aJ,(∀ b,w.heap.size<=b->b<w'.heap.size->g'.fL b)->VR g' w' r v)/\w'.os=w.os/\w'.tape=w.tape/\w'.output=w.output/\w.heap.size<=w'.heap.size/\ ∀ b,b<w.heap.size->w'.heap[b]? = w.heap[b]?):aM P f args r:=by
 intro σ;refine⟨hf,fun g w vs hR hl hv=>?_⟩;refine(h g w σ vs hR hl hv).mono ?_;rintro e w' ⟨v,rfl,h1,k1,k2,k3,k4,k5⟩;obtain⟨r1,r2⟩:=hR.s6 k4 k1 k2 k3 k5;exact⟨.ret r,_,σ,r1,r2,h1 _ (fun b h1 h2=> .inr ⟨h1,h2⟩),rfl,rfl⟩
def OS(s:aI): (⟨s.toArray⟩:ByteArray).size=s.length:=by simp[ByteArray.size]
def Dv(s:aI)(hs:s.length<=2 ^ 62): aM aK 25 [.str s,.str [32]] (.str (oF s)):=by
 refine mq ⟨_,Tryz.func25,by kernel_rfl,by kernel_rfl⟩ fun g w σ vs hR hl hv=>?_;have h2:=hv 0 (by simp);have h3:=hv 1 (by simp);rw[HB hl];generalize vs.getD 0 Go.undef=v at h2;generalize vs.getD 1 Go.undef=u at h3;simp only[aV,cq]at h2 h3;cases h2;cases h3;refine⟨_,fun g' w'=>VR.HA (oF s),(Tryz.strings_Trim_one ⟨s.toArray⟩ 32 (by decide) w (by rw[OS];omega)).mono ?_⟩;rintro e w' ⟨rfl,rfl|rfl⟩
 ·exact⟨rfl,rfl,rfl,rfl,Nat.le_refl _,fun _ _=>rfl⟩
 ·exact⟨rfl,rfl,rfl,rfl,Nat.le_refl _,fun _ _=>rfl⟩
def Dw(c:UInt8)(s:aI): Int:=if(cD c s).2.2=true then((cD c s).1.length:Int)else -1
def OU(c:UInt8): ∀ s:aI,Lib.indexByte s c=Dw c s:=by
 intro s
 induction s with
 | nil=>rfl
 | cons b s ih =>
   unfold Dw at ih ⊢;rw[Lib.indexByte,cD];by_cases h:b=c
   ·subst h;simp
   ·rw[if_neg h];dsimp only;have hb:(b==c)=false:=by simpa using h
    rw[ih];cases hc:(cD c s).2.2 with
    | true=>simp[hb]
    | false=>simp[hb]
def stringslite_Index(s:aI)(c:UInt8): aM aK 102 [.str s,.str [c]] (I (Dw c s)):=by
 refine mq ⟨_,Tryz.func102,by kernel_rfl,by kernel_rfl⟩ fun g w σ vs hR hl hv=>?_;have h2:=hv 0 (by simp);have h3:=hv 1 (by simp);rw[HB hl];generalize vs.getD 0 Go.undef=v at h2;generalize vs.getD 1 Go.undef=u at h3;simp only[aV,cq]at h2 h3;cases h2;cases h3;refine⟨_,fun g' w'=>VR.int .i64 (Dw c s),(Tryz.stringslite_Index_one ⟨s.toArray⟩ c w).mono ?_⟩;rintro e w' ⟨rfl,rfl⟩;exact⟨by rw[<-OU],rfl,rfl,rfl,Nat.le_refl _,fun _ _=>rfl⟩
def strings_Index(s:aI)(c:UInt8): aM aK 226 [.str s,.str [c]] (I (Dw c s)):=by
 refine mq ⟨_,Tryz.func226,by kernel_rfl,by kernel_rfl⟩ fun g w σ vs hR hl hv=>?_;have h2:=hv 0 (by simp);have h3:=hv 1 (by simp);rw[HB hl];generalize vs.getD 0 Go.undef=v at h2;generalize vs.getD 1 Go.undef=u at h3;simp only[aV,cq]at h2 h3;cases h2;cases h3;refine⟨_,fun g' w'=>VR.int .i64 (Dw c s),(Tryz.strings_Index_one ⟨s.toArray⟩ c w).mono ?_⟩;rintro e w' ⟨rfl,rfl⟩;exact⟨by rw[<-OU],rfl,rfl,rfl,Nat.le_refl _,fun _ _=>rfl⟩
abbrev TNE: TypeId:=328
def T2(s:aI): AV:=match Lib.atoiAll s with
 | .ok n=> .bU [I n,.jn]
 | .range=> .bU [I (Lib.atoiSat s),.kP TNE .undef]
 | _=> .bU [I 0,.kP TNE .undef]
def Ia{g:aJ}{w:World}{a b:AV}{x y:Value}(h1:VR g w a x)(h2:VR g w b y): VR g w (.bU [a,b]) (.tuple #[x,y]) :=
 .bU _ _ rfl fun i hi=>by
  match i,hi with
  | 0,_=>exact h1
  | 1,_=>exact h2
def strconv_Atoi(s:aI)(hs:s.length<=2 ^ 40): aM aK 223 [.str s] (T2 s):=by
 refine H_ ⟨_,Tryz.func223,by kernel_rfl,by kernel_rfl⟩ fun g w σ vs hR hl hv=>?_;have h2:=hv 0 (by simp);rw[Oc hl];generalize vs.getD 0 Go.undef=v at h2;simp only[aV]at h2;cases h2;have hz:(⟨s.toArray⟩:ByteArray).size<=2 ^ 40:=by rw[OS];exact hs
 have below:∀ w':World,RowKit.Below w.heap.size w w'->w'.os=w.os/\w'.tape=w.tape/\w'.output=w.output/\w.heap.size<=w'.heap.size/\ ∀ b,b<w.heap.size->w'.heap[b]? = w.heap[b]?:=fun w' h=>⟨h.os,h.tape,h.output,h.size,h.block⟩;obtain⟨_,⟨t1,p1,e1⟩,t2,p2,e2⟩:=hR.glob.2;unfold T2;cases ha:Lib.atoiAll s
 case ok n =>
  refine(Tryz.strconv_Atoi_ok ⟨s.toArray⟩ (by omega) n ha w).mono ?_;rintro e w' ⟨rfl,rfl|⟨t,rfl⟩⟩
  ·exact⟨_,rfl,fun g' _=>Ia (.int .i64 n) .jn,rfl,rfl,rfl,Nat.le_refl _,fun _ _=>rfl⟩
  ·exact⟨_,rfl,fun g' _=>Ia (.int .i64 n) .jn,below _ (Lib.bytesWorld_below _ _ _)⟩
 case range =>
  refine(Tryz.strconv_Atoi_range_var ⟨s.toArray⟩ (by omega) ha t2 p2 w e2).mono ?_;rintro e w' ⟨k,rfl,_,_,hb⟩;exact⟨_,rfl,fun g' _=>Ia (.int .i64 _) (.kP _ _ _ (.undef _)),below _ hb⟩
 refine(Tryz.strconv_Atoi_syntax_var ⟨s.toArray⟩ (by omega) ha t1 p1 w e1).mono ?_;rintro e w' ⟨k,rfl,_,_,hb⟩;exact⟨_,rfl,fun g' _=>Ia (.int .i64 0) (.kP _ _ _ (.undef _)),below _ hb⟩
def Bb(c:UInt8)(s:aI): ((cD c s).2.2=true->(cD c s).1=s.take (cD c s).1.length/\(cD c s).2.1=s.drop ((cD c s).1.length+1)/\(cD c s).1.length<s.length)/\((cD c s).2.2=false->cD c s=(s,[],false)):=by
 refine⟨fun h=>?_,fun h=>?_⟩
 ·have e:=OL c s h;clear h;generalize (cD c s).1=a at *;generalize (cD c s).2.1=r at *;subst e;exact⟨(List.take_left' rfl).symm,by rw[<-List.drop_drop,List.drop_left' rfl];rfl,by simp⟩
 ·induction s with
  | nil=>rfl
  | cons b s ih =>
    rw[cD]at h ⊢;by_cases hb:b=c
    ·rw[if_pos hb]at h;cases h
    ·rw[if_neg hb]at h ⊢;rw[ih h]
def vN(t:aI × aI × Bool): AV:= .bU [.str t.1,.str t.2.1,.bool t.2.2]
def Ib(s:aI)(c:UInt8)(hs:s.length<=2 ^ 60): aM aK 59 [.str s,.str [c]] (vN (cD c s)):=by
 have h1:=stringslite_Index s c;obtain⟨k1,k2⟩:=Bb c s;unfold Dw at h1;generalize cD c s=t at *;obtain⟨a,r,b⟩:=t;dsimp only at *;simp only[vN];cases b with
 | true =>
   obtain⟨rfl',rfl,hl⟩:=k1 rfl;generalize ha:a.length=n at *;subst rfl';rw[if_pos rfl]at h1;refine aR od ?_;intro Q aC aD aE;repeat' first|refine aG ?_|refine aF ?_ ?_<;>intro hw<;>try omega|fail
   all_goals first|exact bK|(refine cK ?_;exact gM)|skip
 | false =>
   obtain⟨rfl,rfl,_⟩:a=s/\r=[]/\True:=by have:=k2 rfl;injection this with e1 e2;injection e2 with e2 _;exact⟨e1,e2,trivial⟩
   rw[if_neg (by decide)]at h1;refine aR od ?_;intro Q aC aD aE;repeat' first|refine aG ?_|refine aF ?_ ?_<;>intro hw<;>try omega|fail
   all_goals first|exact bK|(refine cK ?_;exact gM)|skip
def nG(s:aI)(c:UInt8)(hs:s.length<=2 ^ 60): aM aK 27 [.str s,.str [c]] (vN (cD c s)):=by
 have h1:=Ib s c hs;generalize cD c s=t at *;obtain⟨a,r,b⟩:=t;simp only[vN]at h1 ⊢;refine aR I_ ?_;intro Q aC aD aE;repeat' first|refine aG ?_|refine aF ?_ ?_<;>intro hw<;>try omega|fail
 all_goals first|exact bK|(refine cK ?_;exact gM)|skip
