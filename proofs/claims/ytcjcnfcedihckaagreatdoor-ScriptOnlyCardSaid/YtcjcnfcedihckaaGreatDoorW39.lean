/- Part. -/
import Derived.Test.YtcjcnfcedihckaaGreatDoorW38
set_option linter.all false
set_option maxHeartbeats 8000000
namespace Go.Proofs.YtcjcnfcedihckaaGreatDoor
open Go.AM
set_option maxRecDepth 4000
def Lv.D7 {S S' : ae} {k q1 : Nat} {cs : List AV} (hk : S[k]? = some (.cells cs)) {el el1 : El} {q : Nat} {v v1 : AV} {ys zs : List AV} (h : Lv S el q v ys) (h1 : Lv S el1 q1 v1 zs) (hne : el ≠ el1 \/ (ys ≠ [] -> zs ≠ [] -> q ≠ q1))
    (keep:∀ j o',S[j]? = some o'->j≠k->(zs≠[]->j≠q1)->S'[j]? = some o'):Lv S' el q v ys:=by
 rcases h with h|⟨a1,a2,a3⟩
 ·exact .inl h
 ·refine .inr ⟨a1,a2,keep _ _ a3 (fun e=>by subst e;rw[hk]at a3;cases a3) (fun hz=>?_)⟩;rcases hne with hne|hne
  ·rcases h1 with⟨e,_⟩|⟨_,_,b3⟩
   ·exact absurd e hz
   ·exact yI a3 b3 hne
  ·exact hne a1 hz
def Fz.scalar{el:El}{v:AV}{ys:List AV}(h:Fz el v ys): v.scalar=true:=by
 rcases h with⟨_,rfl⟩|rfl<;>rfl
def Uc {S : ae} {k : Nat} {r : fV} {o i u p : AV} {q0 q1 q2 q3 : Nat} {ys : List AV} (hn : 3 <= r.now) (hl : r.out.length < 64)
    (hk:S[k]? = some (.cells [o,I r.now,.str r.t.name,i,u,I r.t.aL,I r.t.agg,p])) (h0:jV S k r.out o q0 ys) (ht:nK S k r.t i u p q1 q2 q3) :
    cR aK 60 [.ref k 0,.str mI] S fun o' S'=>o' = .ret (.bool true)/\ ∃ o1 i1 u1 p1 q W6,S'[k]? = some (.cells [o1,I 0,.str r.t.name,i1,u1,I r.t.aL,I r.t.agg,p1])/\jV S' k (r.out++[{ eV with kind:=1,table:=r.t }]) o1 q W6:=by
 obtain⟨ti,tu,tp,td⟩:=ht;refine cR.Ub (pre:=[o,I r.now,.str r.t.name]) (post:=[u,I r.t.aL,I r.t.agg,p]) hk ti (fun S1 i1 f1 k1 g1=>?_);have o1:=h0.o.D7 hk ti (.inl (by decide)) g1;have u1:=tu.D7 hk ti (.inr (fun a b=>(td (fun e=>b (by rw[e];rfl)) (fun e=>a (by rw[e];rfl))).symm)) g1;have p1:=tp.D7 hk ti (.inl (by decide)) g1;refine cR.Ub (pre:=[o,I r.now,.str r.t.name,i1]) (post:=[I r.t.aL,I r.t.agg,p]) k1 u1 (fun S2 u2 f2 k2 g2=>?_);have o2:=o1.D7 k1 u1 (.inl (by decide)) g2;have p2:=p1.D7 k1 u1 (.inl (by decide)) g2;refine cR.Ub (pre:=[o,I r.now,.str r.t.name,i1,u2,I r.t.aL,I r.t.agg]) (post:=[]) k2 p2 (fun S3 p3 f3 k3 g3=>?_);have o3:=o2.D7 k2 p2 (.inl (by decide)) g3;refine(QA hn hl k3 ⟨h0.vw,o3⟩ f1 f2 f3 f1.scalar f2.scalar f3.scalar).mono ?_;rintro e s ⟨rfl,a,b,c,d⟩;exact⟨rfl,a,i1,u2,p3,b,c,d⟩
def W7 {S : ae} {k : Nat} {r : fV} {s : aI} {o i u p : AV} (hs : s.length <= 2 ^ 16) (h1 : ¬((cD 32 s).1 = EW /\ r.now <= 2)) (h2 : ¬((cD 32 s).1 = uE /\ (r.now = 2 \/ r.now = 3))) (h3 : ¬((cD 32 s).1 = tM /\ 3 <= r.now)) (h4 : ¬(s = mI /\ 3 <= r.now))
    (hk:S[k]? = some (.cells [o,I r.now,.str r.t.name,i,u,I r.t.aL,I r.t.agg,p])) :
    cR aK 60 [.ref k 0,.str s] S fun o' S'=>o' = .ret (.bool false)/\S'=S:=by
 have c1:=nG s 32 (by omega);generalize cD 32 s=X at *;obtain⟨w,rest,f⟩:=X;dsimp only at h1 h2 h3;simp only[vN]at c1;refine eS.go ?_;unfold eY;intro Q aC aD aE;repeat' first|simp (disch:=omega) only[go_sem,aC,aD,aE,hk]|refine aG ?_|refine aF ?_ ?_<;>intro hw<;>try omega|fail
 all_goals first|exact⟨rfl,trivial⟩|exact⟨rfl,rfl⟩|(exfalso;first|exact h1 ⟨by assumption,by assumption⟩|exact h3 ⟨by assumption,by assumption⟩|exact h4 ⟨by assumption,by assumption⟩|exact h2 ⟨by assumption,.inl (by assumption)⟩|exact h2 ⟨by assumption,.inr (by assumption)⟩)|exact bK|skip
def O9 {S : ae} {k : Nat} {r : fV} {s : aI} {o i u p : AV} {n a b : Int} {nm : aI} (hs : s.length <= 2 ^ 16)
    (hk:S[k]? = some (.cells [o,I n,.str nm,i,u,I a,I b,p])) :
    cR aK 62 [.ref k 0,.str s] S fun o' S'=>o' = .ret (.bool (gu r s).2)/\((gu r s).2=true->S'=S.set k (.cells [o,I 1,.str (gu r s).1.t.name,.au,.au,I (gu r s).1.t.aL,I (gu r s).1.t.agg,.au])):=by
 have c1:aM aK 107 [.str s,I 4] (uH (cn s 4)):=qb s 4 (by decide) (by decide) (by omega);obtain⟨s1,s2,s3⟩:=me s 4;obtain⟨R,hR⟩:∃ R,gu r s=R:=⟨_,rfl⟩;rw[hR];unfold gu at hR;generalize cn s 4=t at *;obtain⟨l,rest,ok⟩:=t;dsimp only at *;simp only[uH,bM]at c1;have g1:l.getD (Int.toNat 1) default=l.getD 1 []:=rfl;have g2:l.getD (Int.toNat 2) default=l.getD 2 []:=rfl;have g3:l.getD (Int.toNat 3) default=l.getD 3 []:=rfl;have c2:=uy (l.getD 1 []) (by have:=mN s2 1;omega);have c3:=yF;have c4:=E5;have c5:=pn rW (l.getD 2 []) (by decide);have c6:=pn oE (l.getD 3 []) (by decide);simp only[bM]at c3 c4 c5 c6;generalize l.getD 1 []=nm at *;generalize l.getD 2 []=w2 at *;generalize l.getD 3 []=w3 at *;generalize fI (fun x=>x==w2) rW=pi at *;generalize fI (fun x=>x==w3) oE=ai at *;have lt:=ey hk;have iQ:∀ c,(S.set k c)[k]? = some c:=fun c=>List.getElem?_set_self lt;cases ok with
 | false =>
   rw[if_pos (.inl rfl)]at hR;rw[<-hR];refine nE.go ?_;unfold eY;intro Q aC aD aE;repeat' first|simp (disch:=omega) only[go_sem,aC,aD,aE,hk]|refine aG ?_|refine aF ?_ ?_<;>intro hw<;>try omega|fail
   all_goals first|exact bK|exact⟨rfl,fun h=>by cases h⟩|skip
 | true =>
 have hl:=s1 rfl;generalize fh nm=bn at *;by_cases hc:rest≠[]\/bn=false
 ·rw[if_pos (.inr hc)]at hR;rw[<-hR];refine nE.go ?_;unfold eY;intro Q aC aD aE;cases bn
  all_goals
   repeat' first|simp (disch:=omega) only[go_sem,aC,aD,aE,hk,hl,g1]|refine aG ?_|refine aF ?_ ?_<;>intro hw<;>try omega|fail
  all_goals first|exact bK|exact⟨rfl,fun h=>by cases h⟩|skip
 ·have hc2 : rest = [] /\ bn = true := by
   refine⟨Classical.byContradiction fun h=>hc (.inl h),?_⟩;cases bn
   ·exact absurd (.inr rfl) hc
   ·rfl
  obtain⟨rfl,rfl⟩:=hc2;rw[if_neg (by simp)]at hR;rw[<-hR];refine nE.go ?_;unfold eY;intro Q aC aD aE;repeat' first|simp (disch:=omega) only[go_sem,aC,aD,aE,hk,hl,g1,g2,g3,iQ,bF]|refine aG ?_|refine aF ?_ ?_<;>intro hw<;>try omega|fail
  all_goals first|(refine⟨?_,fun _=>trivial⟩;rw[decide_eq_true (p:=0<pi) (by omega)];rfl)|(refine⟨?_,fun _=>trivial⟩;rw[decide_eq_false (p:=0<pi) (by omega)];rfl)|exact bK|skip
def xL{c:ef}(ok:g_ c)(h:dX c=0): Z3 c:=by
 obtain⟨k1,k2,k3,k4,k5⟩:=mc h;obtain⟨p1,p2,p3,p4,p5⟩:=A4 k4;obtain⟨q1,q2,q3,q4,q5,q6,q7⟩:=ok;refine⟨fun hk=>OZ (xJ (k1 hk)) (Ij q2),?_,q4,⟨by omega,fun v hv=>⟨aX.1 k5.2.2.2.2 v hv,(q5.2 v hv).1⟩⟩,q6,q7⟩;by_cases hk:c.kind=2\/c.kind=3
 ·have:=nH (k5.1 hk).1;omega
 ·rw[(p2.resolve_left hk).1];simp
def RR{ls:List aI}{m:Nat}(h:∀ s ∈ ls,s.length<=m): (cP ls).length<=ls.length*(m+1):=by
 induction ls with
 | nil=>simp[cP]
 | cons s l ih =>
   have e:cP (s::l)=s++(10::cP l):=by simp[cP]
   have:=ih (fun z hz=>h z (bI _ hz));have:=h s (List.mem_cons_self ..);rw[e,aA,List.length_cons,List.length_cons,bE];omega
def uI{l:List aI}{m:Nat}(h:∀ s ∈ l,s.length<=m): (bQ l).length<=l.length*(m+1):=sF h
def W8{l:List aI}{m:Nat}(h:∀ s ∈ l,s.length<=m): (jP l).length<=l.length*(m+3):=sF h
def adp{l:List ez}(h:∀ v ∈ l,bZ v=true/\iu v.n): (lW l).length<=l.length*84:=by
 have:=sF (l:=l.map dO) (sep:=lU) (m:=82) (fun z hz=>by
  obtain⟨v,hv,rfl⟩:=cy.1 hz;exact vt v (h v hv).2.1 (h v hv).2.2 (h v hv).1)
 rw[bt]at this;exact this
def LM{s:aI}{l:List ez}(h:∀ v ∈ l,bZ v=true/\iu v.n): (fq s l).length<=s.length+1+l.length*84:=by
 have:=adp h;unfold fq;split
 ·omega
 ·simp;omega
def J0{n:Int}(h:iu n): (Lib.itoa n).length<=21:=F2 n h.1 h.2
def adq{t:Table}(h:rB t)(hg:∀ c ∈ t.outs,∀ v ∈ c.order,iu v.n): (cP (gO t)).length<=2 ^ 20:=by
 obtain⟨l1,l2,l3⟩:=Gi h;have hn:=nH (jv h.frame).1;have hx:(gO t).length<=38:=by simp[gO,eT];omega
 have key:∀ s ∈ gO t,s.length<=5000:=by
  intro s hs;simp only[gO,eT,bD,List.mem_cons,iz,cy,List.not_mem_nil,or_false]at hs;rcases hs with rfl|((⟨c,hc,rfl⟩|⟨c,hc,rfl⟩)|⟨r,hr,rfl⟩)|rfl
  ·have := uI (l := [zI, t.name, qP t.aL, rX t.agg]) (m := 16) (fun z hz => by
    have:=JU t.aL;have:=JV t.agg;simp only[List.mem_cons,List.not_mem_nil,or_false]at hz;rcases hz with rfl|rfl|rfl|rfl<;>first|omega|decide)
   unfold jt;simp only[List.length_cons,List.length_nil]at this;omega
  ·have ko:=nH (vB h hc).1
   have:=uI (l:=[EW,c.name,jA c.kind]) (m:=16) (fun z hz=>by
    have:=uG c.kind;simp only[List.mem_cons,List.not_mem_nil,or_false]at hz;rcases hz with rfl|rfl|rfl<;>first|omega|decide)
   unfold kx;simp only[List.length_cons,List.length_nil]at this;omega
  ·obtain⟨a,b,d,e⟩:=qz h hc;have ko:=nH a;have ho:=OY h hc
   have:=uI (l:=[uE,c.name,jA c.kind]) (m:=16) (fun z hz=>by
    have:=uG c.kind;simp only[List.mem_cons,List.not_mem_nil,or_false]at hz;rcases hz with rfl|rfl|rfl<;>first|omega|decide)
   have hb:=LM (s:=bQ [uE,c.name,jA c.kind]) (l:=c.order) (fun v hv=>⟨e v hv,hg c hc v hv⟩);unfold iM;simp only[List.length_cons,List.length_nil]at this;omega
  ·obtain⟨a,b,_,_⟩:=A_ h hr;obtain⟨x,y⟩:=W2 h hr;have h1:=W8 x;have h2:=W8 y
   have:=uI (l:=[tM,jP r.cells,[58],jP r.outs]) (m:=1218) (fun z hz=>by
    simp only[List.mem_cons,List.not_mem_nil,or_false]at hz;rcases hz with rfl|rfl|rfl|rfl<;>first|omega|decide)
   unfold eW;simp only[List.length_cons,List.length_nil]at this;omega
  ·decide
 have:=RR key;have:=aY 5001 hx;omega
def Gj{c:ef}(ok:g_ c)(h:dX c=0): (cP (cC c)).length<=2 ^ 28:=by
 have tx:=xL ok h;obtain⟨k1,k2,k3,k4,k5⟩:=mc h;obtain⟨q1,q2,q3,q4,q5,q6,q7⟩:=ok;have i1:=J0 q4;have i2:=J0 q6;have i3:=J0 q7
 have one:∀ s:aI,s.length<=1000->(cP [s]).length<=2 ^ 28:=fun s hs=>by
  have:=RR (ls:=[s]) (m:=1000) (fun z hz=>by rw[bR.1 hz];exact hs);simp only[List.length_cons,List.length_nil]at this;omega
 have w3:∀ a b d:aI,a.length<=21->b.length<=21->d.length<=21->(bQ [a,b,d]).length<=66:=fun a b d ha hb hd=>by
  have:=uI (l:=[a,b,d]) (m:=21) (fun z hz=>by
   simp only[List.mem_cons,List.not_mem_nil,or_false]at hz;rcases hz with rfl|rfl|rfl<;>assumption)
  simpa using this
 have w2:∀ a b:aI,a.length<=21->b.length<=21->(bQ [a,b]).length<=66:=fun a b ha hb=>by
  have:=uI (l:=[a,b]) (m:=21) (fun z hz=>by
   simp only[List.mem_cons,List.not_mem_nil,or_false]at hz;rcases hz with rfl|rfl<;>assumption)
  simp only[List.length_cons,List.length_nil]at this;omega
 unfold cC;split
 ·rename_i hk;have:=adq (xJ (k1 hk)) (Ij q2);omega
 split
 ·rename_i hk;have hn:=nH (k5.1 (.inl hk)).1;have hb:=LM (s:=bQ [iW,c.name,Lib.itoa c.ver]) (l:=c.row) tx.row.2;have:=w3 iW c.name (Lib.itoa c.ver) (by decide) (by omega) i1;have:=k5.2.2.2.1;exact one _ (by omega)
 split
 ·rename_i hk;have hn:=nH (k5.1 (.inr hk)).1;have:=w3 jX c.name (Lib.itoa c.ver) (by decide) (by omega) i1;exact one _ (by omega)
 split
 ·have:=w3 qO (Lib.itoa c.jF) (Lib.itoa c.l9) (by decide) i2 i3;exact one _ (by omega)
 split
 ·have:=w2 jz (Lib.itoa c.jF) (by decide) i2;exact one _ (by omega)
 ·refine one _ ?_;unfold kI;repeat' split
  all_goals decide
def Ip(S:ae)(k:Nat)(r:fV): Prop:= ∃ o i u p q0 ys,S[k]? = some (.cells [o,I r.now,.str r.t.name,i,u,I r.t.aL,I r.t.agg,p])/\jV S k r.out o q0 ys/\(r.now≠0-> ∃ q1 q2 q3,nK S k r.t i u p q1 q2 q3)
def MA {S : ae} {k : Nat} {r : fV} {u s : aI} (h : Ip S k r) (hn : r.now ≠ 0) (hi : Inv r u) (hg : tQ r) (hs : s.length <= 2 ^ 16) :
    cR aK 60 [.ref k 0,.str s] S fun o' S'=>o' = .ret (.bool (jH r s).2)/\((jH r s).2=true->Ip S' k (jH r s).1):=by
 obtain⟨o,i,v,p,q0,ys,hk,h0,ht⟩:=h;obtain⟨q1,q2,q3,ht⟩:=ht hn;obtain⟨_,hl,n1,n4⟩:=hi.adf hn;have g:=hg.tab hn;unfold jH;split
 ·rename_i c;refine(W5 c.1 (by omega) hs hk h0 ht g).mono ?_;rintro e s' ⟨rfl,v',q',a,b,d⟩;exact⟨rfl,fun _=>⟨o,v',v,p,q0,ys,a,b,fun _=>⟨q',q2,q3,d⟩⟩⟩
 split
 ·rename_i c0 c;refine(Ua c.1 c.2 (hi.p1 (by omega)) hs hk h0 ht g).mono ?_;rintro e s' ⟨rfl,v',q',a,b,d⟩;exact⟨rfl,fun _=>⟨o,i,v',p,q0,ys,a,b,fun _=>⟨q1,q',q3,d⟩⟩⟩
 split
 ·rename_i c0 c1 c;refine(Qz c.1 c.2 (hi.p1 (by omega)) hs hk h0 ht g).mono ?_;rintro e s' ⟨rfl,v',q',a,b,d⟩;exact⟨rfl,fun _=>⟨o,i,v,v',q0,ys,a,b,fun _=>⟨q1,q2,q',d⟩⟩⟩
 split
 ·rename_i c0 c1 c2 c;obtain⟨rfl,c⟩:=c;refine(Uc c hl hk h0 ht).mono ?_;rintro e s' ⟨rfl,o1,i1,u1,p1,q,W6,a,b⟩;exact⟨rfl,fun _=>⟨o1,i1,u1,p1,q,W6,a,b,fun h=>absurd rfl h⟩⟩
 ·rename_i c0 c1 c2 c3;refine(W7 hs c0 c1 c2 c3 hk).mono ?_;rintro e s' ⟨rfl,rfl⟩;exact⟨rfl,fun h=>by cases h⟩
def Y9(t:Table): (gO t).getD 0 []=jt t:=rfl
def LN(c:ef): 1<=(cC c).length:=by
 unfold cC;repeat' split
 all_goals first|(simp;done)|(simp[gO,eT];done)
def abo{r:fV}{s:aI}(h:(gu r s).2=true): (gu r s).1.t.ins=[]/\(gu r s).1.t.outs=[]/\(gu r s).1.t.rules=[]:=by
 unfold gu at h ⊢;split at h
 ·cases h
 ·rename_i c;rw[if_neg c];exact⟨rfl,rfl,rfl⟩
def O_{r:fV}{s:aI}(hn:r.now≠0): eu r s=jH r s:=by unfold eu;rw[if_pos hn]
def Ud{r:fV}{s:aI}(hn:r.now=0)(h:r.out.length=64): eu r s=(r,false):=by unfold eu;rw[if_neg (by omega),if_pos h]
def W9{r:fV}{s:aI}(hn:r.now=0)(h:r.out.length≠64)(hp:tN.isPrefixOf s=true): eu r s=((gu r s).1,(gu r s).2 && ei (gu r s).1.t && decide (jt (gu r s).1.t=s)):=by unfold eu;rw[if_neg (by omega),if_neg h,if_pos hp]
def W_{r:fV}{s:aI}(hn:r.now=0)(h:r.out.length≠64)(hp:tN.isPrefixOf s=false): eu r s=if(lJ s).2=false\/dX (lJ s).1≠0\/(cC (lJ s).1).getD 0 []≠s then(r,false)else (⟨r.out++[(lJ s).1],r.now,r.t⟩,true):=by unfold eu;rw[if_neg (by omega),if_neg h,if_neg (by rw[hp];decide)]
def uY(S:ae)(k:Nat)(r:fV)(s:aI): Prop:=cR aK 28 [.ref k 0,.str s] S fun o' S'=>o' = .ret (.bool (eu r s).2)/\((eu r s).2=true->Ip S' k (eu r s).1)
def Pa{S:ae}{k:Nat}{r:fV}{u s:aI}(h:Ip S k r)(hn:r.now≠0)(hi:Inv r u)(hg:tQ r)(hs:s.length<=2 ^ 16): uY S k r s:=by
 unfold uY;have c:=MA h hn hi hg hs;rw[<-O_ hn]at c;obtain⟨o,i,v,p,q0,ys,hk,h0,ht⟩:=h;generalize eu r s=E at *;refine ij.go ?_;unfold eY;intro Q aC aD aE;repeat' first|simp (disch:=omega) only[go_sem,aC,aD,aE,hk]|refine aG ?_|with_reducible refine cA c ?_|refine aF ?_ ?_<;>intro hw<;>try omega|fail
 all_goals first|exact bK|skip
 rintro o' S' ⟨rfl,h'⟩;repeat' first|refine aG ?_|refine aF ?_ ?_<;>intro hw<;>try omega|fail
 all_goals first|exact⟨rfl,h'⟩|skip
def Ue{S:ae}{k:Nat}{r:fV}{s:aI}(h:Ip S k r)(hn:r.now=0)(hl:r.out.length=64): uY S k r s:=by
 unfold uY;rw[Ud hn hl];obtain⟨o,i,v,p,q0,ys,hk,h0,ht⟩:=h;have hlen:=Io h0;rcases h0.o with⟨he,rfl⟩|⟨he,rfl,hq⟩
 ·rw[he]at hlen;simp at hlen;omega
 ·refine ij.go ?_;unfold eY;intro Q aC aD aE;repeat' first|simp (disch:=omega) only[go_sem,aC,aD,aE,hk]|refine aG ?_|refine aF ?_ ?_<;>intro hw<;>try omega|fail
  all_goals first|exact bK|exact⟨rfl,fun h=>by cases h⟩|skip
def Y_{S:ae}{k:Nat}{l:List ef}{o:AV}{q0:Nat}{ys:List AV}{cs:List AV}{c:aZ}(hk:S[k]? = some (.cells cs))(h:jV S k l o q0 ys): jV (S.set k c) k l o q0 ys :=
 ⟨h.vw,h.o.uX hk (fun j o' hj hne=>by rw[List.getElem?_set_ne (Ne.symm hne)];exact hj)⟩
def Xa{S:ae}{k:Nat}{r:fV}{s:aI}(h:Ip S k r)(hn:r.now=0)(hl:r.out.length≠64)(vy:r.out.length<=64)(hs:s.length<=2 ^ 16)(hp:tN.isPrefixOf s=true): uY S k r s:=by
 unfold uY;rw[W9 hn hl hp];obtain⟨o,i,v,p,q0,ys,hk,h0,_⟩:=h;have hlen:=Io h0;have c0:=strings_HasPrefix s tN;rw[hp]at c0;have c1:=O9 (r:=r) hs hk;have ht:=abo (r:=r) (s:=s);have hg:=Il (r:=r) hs;generalize gu r s=B at *;obtain⟨⟨bo,bn,t⟩,b⟩:=B;dsimp only at c1 ht hg ⊢;have hsc:=h0.o.scalar;have tl:List.length s<2 ^ 62:=by omega
 have key:∀ (o':Out) (S':ae),(o' = .ret (.bool b)/\(b=true->S'=S.set k (.cells [o,I 1,.str t.name,.au,.au,I t.aL,I t.agg,.au])))->b=true ->
  S'[k]? = some (.cells [o,I 1,.str t.name,.au,.au,I t.aL,I t.agg,.au])/\jV S' k r.out o q0 ys/\nK S' k t .au .au .au 0 0 0/\j8 t/\Ie t/\bo=r.out/\bn=1:=fun o' S' h hb=>by
  obtain⟨e1,e2,e3⟩:=ht hb;obtain⟨g1,g2,g3⟩:=hg hb;rw[h.2 hb];exact⟨List.getElem?_set_self (ey hk),Y_ hk h0,⟨.inl ⟨by rw[e1];rfl,rfl⟩,.inl ⟨by rw[e2];rfl,rfl⟩,.inl ⟨by rw[e3];rfl,rfl⟩,fun h=>absurd e1 h⟩,g3.ok,g3.tx,g1,g2⟩
 have c2:b=true->aM aK 42 [.agg [.str t.name,.aO false EC [],.aO false EC [],I t.aL,I t.agg,.aO false ER []]] (.aO false E1 ((gO t).map bB)):=fun hb=>by
  obtain⟨e1,e2,e3⟩:=ht hb;have:=xK t (hg hb).2.2.tx;simp only[dS,gQ,cH,eA,e1,e2,e3,bf,bM]at this;exact this
 have e4:(gO t).getD 0 []=jt t:=Y9 t;have e5:1<=(gO t).length:=by simp[gO,eT]
 have e6:(gO t).getD 0 default=jt t:=e4;generalize gO t=TL at *;generalize jt t=HW at *;refine ij.go ?_;unfold eY;intro Q aC aD aE;rcases h0.o with⟨he,rfl⟩|⟨he,rfl,hq⟩
 all_goals
  repeat' first|simp (disch:=omega) only[go_sem,aC,aD,aE,hk]|refine aG ?_|refine eU c0 ?_|with_reducible refine cA c1 ?_|refine aF ?_ ?_<;>intro hw<;>try omega|fail
 all_goals first|exact bK|skip
 all_goals
  intro o' S' h';have hkey:=key o' S' h';obtain⟨rfl,h'⟩:=h';cases b
 ·repeat' first|refine aG ?_|refine aF ?_ ?_<;>intro hw<;>try omega|fail
  all_goals first|exact⟨rfl,fun h=>by cases h⟩|skip
 ·obtain⟨k1,k2,k3,k4,k5,k6,k7⟩:=hkey rfl;subst k6;subst k7;have c2:=c2 rfl;have hv:=sH (t:=t) k1 k2 k3;have x6:(HW==s)=decide (HW=s):=by rw[a_];simp
  repeat' first|refine aG ?_|refine aF ?_ ?_<;>intro hw<;>try omega|fail
  refine mg hv k4 ?_;cases hst:ei t
  ·repeat' first|refine aG ?_|refine aF ?_ ?_<;>intro hw<;>try omega|fail
   all_goals first|exact⟨by simp[hst,oneOf],fun h=>by simp[hst]at h⟩|skip
  ·repeat' first|simp (disch:=omega) only[go_sem,aC,aD,aE,k1,e6,e5]|refine aG ?_|refine ye c2 ?_|refine aF ?_ ?_<;>intro hw<;>try omega|fail
   all_goals first|exact⟨by rw[hst,x6];rfl,fun _=>⟨_,.au,.au,.au,q0,ys,k1,k2,fun _=>⟨0,0,0,k3⟩⟩⟩|exact bK|skip
 ·repeat' first|refine aG ?_|refine aF ?_ ?_<;>intro hw<;>try omega|fail
  all_goals first|exact⟨rfl,fun h=>by cases h⟩|skip
 ·obtain⟨k1,k2,k3,k4,k5,k6,k7⟩:=hkey rfl;subst k6;subst k7;have c2:=c2 rfl;have hv:=sH (t:=t) k1 k2 k3;have x6:(HW==s)=decide (HW=s):=by rw[a_];simp
  repeat' first|refine aG ?_|refine aF ?_ ?_<;>intro hw<;>try omega|fail
  refine mg hv k4 ?_;cases hst:ei t
  ·repeat' first|refine aG ?_|refine aF ?_ ?_<;>intro hw<;>try omega|fail
   all_goals first|exact⟨by simp[hst,oneOf],fun h=>by simp[hst]at h⟩|skip
  ·repeat' first|simp (disch:=omega) only[go_sem,aC,aD,aE,k1,e6,e5]|refine aG ?_|refine ye c2 ?_|refine aF ?_ ?_<;>intro hw<;>try omega|fail
   all_goals first|exact⟨by rw[hst,x6];rfl,fun _=>⟨_,.au,.au,.au,q0,ys,k1,k2,fun _=>⟨0,0,0,k3⟩⟩⟩|exact bK|skip
def Xb{S:ae}{k:Nat}{r:fV}{s:aI}(h:Ip S k r)(hn:r.now=0)(hl:r.out.length≠64)(vy:r.out.length<=64)(hs:s.length<=2 ^ 16)(hp:tN.isPrefixOf s=false): uY S k r s:=by
 unfold uY;rw[W_ hn hl hp];obtain⟨o,i,v,p,q0,ys,hk,h0,_⟩:=h;have hlen:=Io h0;have c0:=strings_HasPrefix s tN;rw[hp]at c0;have c1:=T7 s (by omega);have ok:=ok_one hs;generalize lJ s=B at *;obtain⟨c,b⟩:=B;dsimp only at c1 ok ⊢;have c2:=By c ok;have c3:=fun h=>Dz c (xL ok h);have e5:=LN c;generalize cC c=TL at *;obtain⟨HW,hHW⟩:∃ HW,TL.getD 0 []=HW:=⟨_,rfl⟩;rw[hHW];have e6:TL.getD 0 default=HW:=hHW;have hsc:=h0.o.scalar;have lt:=ey hk;have hx:View [] (dU c) (dU c):= .refl _ (by simp[dU,AV.dF,LH]);have ahT:(HW==s)=decide (HW=s):=by rw[a_];simp
 simp only[dU,iL]at c1 c2 c3;by_cases hb:b=false\/dX c≠0
 ·rw[if_pos (by rcases hb with h|h;exact .inl h;exact .inr (.inl h))];generalize dX c=e at *;refine ij.go ?_;unfold eY;intro Q aC aD aE;rcases h0.o with⟨he,rfl⟩|⟨he,rfl,hq⟩
  all_goals
   cases b
  all_goals
   repeat' first|simp (disch:=omega) only[go_sem,aC,aD,aE,hk]|refine aG ?_|refine eU c0 ?_|refine aF ?_ ?_<;>intro hw<;>try omega|fail
  all_goals first|exact⟨rfl,fun h=>by cases h⟩|exact bK|skip
 have gP:b=true/\dX c=0:=by
  refine⟨?_,Classical.byContradiction fun h=>hb (.inr h)⟩;cases b
  ·exact absurd (.inl rfl) hb
  ·rfl
 obtain⟨rfl,tG⟩:=gP;have c3:=c3 tG;rw[tG]at c2 ⊢;simp only[bM]at c3;by_cases hs1:HW≠s
 ·rw[if_pos (.inr (.inr hs1))];refine ij.go ?_;unfold eY;intro Q aC aD aE;rcases h0.o with⟨he,rfl⟩|⟨he,rfl,hq⟩
  all_goals
   repeat' first|simp (disch:=omega) only[go_sem,aC,aD,aE,hk,e5,e6]|refine aG ?_|refine eU c0 ?_|refine aF ?_ ?_<;>intro hw<;>try omega|fail
  all_goals first|exact⟨rfl,fun h=>by cases h⟩|exact bK|skip
 have hs0:HW=s:=Classical.not_not.1 hs1;rw[if_neg (by simp[hs0])];have ho:=h0.o;rcases ho with⟨he,rfl⟩|⟨he,rfl,hq⟩
 ·have hap:∀ d:aZ,(S++[d])[k]? = some (.cells [.au,I r.now,.str r.t.name,i,v,I r.t.aL,I r.t.agg,p]):=fun d=>by rw[aH lt];exact hk
  have jb:∀ d e:aZ,(S++[d]++[e])[k]? = some (.cells [.au,I r.now,.str r.t.name,i,v,I r.t.aL,I r.t.agg,p]):=fun d e=>by rw[aH (by simp;omega)];exact hap d
  have iQ:∀ d e c:aZ,((S++[d]++[e]).set k c)[k]? = some c:=fun d e c=>List.getElem?_set_self (by simp;omega)
  have fin:∀ d a:aZ,jV ((S++[d]++[aZ.vec EK [dU c]]).set k a) k (r.out++[c]) (.own EK (S.length+1) 1 0 1) (S.length+1) (ys++[dU c]):=fun d a =>
   O7 h0 he hx (by rw[List.getElem?_set_ne (by omega)];simp)
  refine ij.go ?_;unfold eY;intro Q aC aD aE;repeat' first|simp (disch:=omega) only[go_sem,aC,aD,aE,hk,hap,jb,iQ,e5,e6,bF,aB,if_false,bO,aT]|refine aG ?_|refine eU c0 ?_|refine aF ?_ ?_<;>intro hw<;>try omega|fail
  all_goals first|exact⟨rfl,fun _=>⟨_,i,v,p,_,_,iQ _ _ _,fin _ _,fun h=>absurd hn h⟩⟩|(exfalso;omega)|(exfalso;contradiction)|skip
 ·have sC:q0≠k:=fun e=>by subst e;rw[hq]at hk;cases hk
  have lq:=ey hq;have hap:∀ d:aZ,(S++[d])[k]? = some (.cells [.own EK q0 ys.length 0 ys.length,I r.now,.str r.t.name,i,v,I r.t.aL,I r.t.agg,p]):=fun d=>by rw[aH lt];exact hk
  have qR:∀ d:aZ,(S++[d])[q0]? = some (.vec EK ys):=fun d=>by rw[aH lq];exact hq
  have jb:∀ d e:aZ,((S++[d]).set q0 e)[k]? = some (.cells [.own EK q0 ys.length 0 ys.length,I r.now,.str r.t.name,i,v,I r.t.aL,I r.t.agg,p]):=fun d e=>by rw[List.getElem?_set_ne sC];exact hap d
  have iQ:∀ d e c:aZ,(((S++[d]).set q0 e).set k c)[k]? = some c:=fun d e c=>List.getElem?_set_self (by simp;omega)
  have fin:∀ d a:aZ,jV (((S++[d]).set q0 (aZ.vec EK (ys++[dU c]))).set k a) k (r.out++[c]) (.own EK q0 (ys.length+1) 0 (ys.length+1)) q0 (ys++[dU c]):=fun d a =>
   O8 h0 hx (by rw[List.getElem?_set_ne (Ne.symm sC),List.getElem?_set_self (by simp;omega)])
  refine ij.go ?_;unfold eY;intro Q aC aD aE;repeat' first|simp (disch:=omega) only[go_sem,aC,aD,aE,hk,hap,qR,jb,iQ,e5,e6,bF,aB,if_false,bO,aT]|refine aG ?_|refine eU c0 ?_|refine aF ?_ ?_<;>intro hw<;>try omega|fail
  all_goals first|exact⟨rfl,fun _=>⟨_,i,v,p,_,_,iQ _ _ _,fin _ _,fun h=>absurd hn h⟩⟩|(exfalso;omega)|(exfalso;contradiction)|skip
def QB{S:ae}{k:Nat}{r:fV}{u s:aI}(h:Ip S k r)(hi:Inv r u)(hg:tQ r)(hs:s.length<=2 ^ 16): uY S k r s:=by
 by_cases hn:r.now=0
 ·by_cases hl:r.out.length=64
  ·exact Ue h hn hl
  ·cases hp:tN.isPrefixOf s with
   | true=>exact Xa h hn hl hi.len hs hp
   | false=>exact Xb h hn hl hi.len hs hp
 ·exact Pa h hn hi hg hs
def Iq(p:List ef × Int × Int): AV:= .bU [jG p.1,I p.2.1,I p.2.2]
def Pb(s:aI)(h:(cD 10 s).2.2=true): (cD 10 s).2.1.length<s.length:=by
 have:=Bb 10 s;obtain⟨h1,h2,h3⟩:=this.1 h;rw[h2,List.length_drop];omega
def Uf{f:Nat}{r:fV}{s:aI}{n:Int}(hs:s≠[])(h1:(cD 10 s).2.2=true)(h2:(eu r (cD 10 s).1).2=true): hY (f+1) r s n=hY f (eu r (cD 10 s).1).1 (cD 10 s).2.1 (n+1):=by
 rw[hY,if_neg hs,if_neg (by rw[h1];decide),if_neg (by rw[h2];decide)]
def Xc{f:Nat}{r:fV}{s:aI}{n:Int}(h1:(cD 10 s).2.2=false): hY f r s n=(r,s,n):=by
 cases f with
 | zero=>rfl
 | succ f =>
   by_cases hs:s=[]
   ·rw[hY,if_pos hs]
   ·rw[hY,if_neg hs,if_pos h1]
def Xd{f:Nat}{r:fV}{s:aI}{n:Int}(hf:s.length<=f)(hs:s≠[])(h1:(cD 10 s).2.2=true)(h2:(eu r (cD 10 s).1).2=false): (hY f r s n).2=(s,n):=by
 cases f with
 | zero=>exact absurd (List.length_eq_zero_iff.1 (by omega)) hs
 | succ f=>rw[hY,if_neg hs,if_neg (by rw[h1];decide),if_pos h2]
structure PI (s0:aI) (F:fV × aI × Int) (s:aI) (n:Int) (S:ae):Prop where
 ex:∃ f r u,s.length<=f/\hY f r s n=F/\Inv r u/\tQ r/\Ip S 0 r
 len:s.length<=s0.length
 n1:1<=n
 n2:n+s.length<=s0.length+1
def n_(s:aI)(hs:s.length<=2 ^ 40): aM aK 14 [.str s] (Iq (iE s)):=by
 obtain⟨E,hE⟩:∃ E,iE s=E:=⟨_,rfl⟩;rw[hE];unfold iE at hE;unfold Iq jG;by_cases hbig:65536<s.length
 ·rw[if_pos hbig]at hE;refine aR ya ?_;intro Q aC aD aE;repeat' first|refine aG ?_|refine aF ?_ ?_<;>intro hw<;>try omega|fail
  all_goals first|exact bK|(rw[<-hE];exact cK gM)|skip
 rw[if_neg hbig]at hE;obtain⟨F,hF⟩:∃ F,hY s.length qQ s 1=F:=⟨_,rfl⟩;rw[hF]at hE
 have hi0:PI s F s 1 [.cells [.au,I 0,.str [],.au,.au,I 0,I 0,.au]] :=
  ⟨⟨_,qQ,[],Nat.le_refl _,hF,YM,Z5,_,_,_,_,0,[],rfl,⟨.nil _,.inl ⟨rfl,rfl⟩⟩,fun h=>absurd rfl h⟩,Nat.le_refl _,by omega,by omega⟩
 refine aR ya ?_;intro Q aC aD aE;repeat' first|refine aG ?_|refine aF ?_ ?_<;>intro hw<;>try omega|fail
 all_goals first|exact bK|skip
 with_reducible refine bX [0,6,7,8,9,15,16,17,18,19,20,21,22,23,24,25,26,27,28,29,30,31,32,33] (fun x:(aI × Int) × ae=>[(0,.str x.1.1),(6,I x.1.2)]) (fun x=>x.2) (fun x=>PI s F x.1.1 x.1.2 x.2) (fun x=>x.1.1.length) ((s,1),_) hi0 rfl ?_ ?_
 ·exact at_
 rintro⟨⟨z,n⟩,S⟩ rr ⟨⟨f,r,u,g1,g2,g3,g4,g5⟩,g6,g7,g8⟩;dsimp only at g1 g2 g3 g4 g5 g6 g7 g8;have hA:=g5;obtain⟨o,i,v,p,q0,ys,hk,h0,_⟩:=hA;by_cases hz:z=[]
 ·subst hz;rw[Dt]at g2;rw[<-g2]at hE;dsimp only at hE;by_cases hn:r.now=0
  ·rw[if_neg (by simp[hn])]at hE;repeat' first|simp (disch:=omega) only[go_sem,aC,aD,aE,hk]|refine aG ?_|refine aF ?_ ?_<;>intro hw<;>try omega|fail
   all_goals first|exact bK|(rw[<-hE];exact cK (mX (h0.o.view h0.vw)))|skip
  ·rw[if_pos (.inr hn)]at hE;repeat' first|simp (disch:=omega) only[go_sem,aC,aD,aE,hk]|refine aG ?_|refine aF ?_ ?_<;>intro hw<;>try omega|fail
   all_goals first|exact bK|(rw[<-hE];exact cK gM)|skip
 have c1:=nG z 10 (by omega);have Nj:=Pb z;have kr:=JX 10 z;obtain⟨X,hX⟩:∃ X,cD 10 z=X:=⟨_,rfl⟩;rw[hX]at c1 Nj kr;cases hb:X.2.2 with
 | false =>
   rw[Xc (by rw[hX];exact hb)]at g2;rw[<-g2,if_pos (.inl hz)]at hE;simp only[vN,hb]at c1;repeat' first|simp (disch:=omega) only[go_sem,aC,aD,aE,hk]|refine aG ?_|refine aF ?_ ?_<;>intro hw<;>try omega|fail
   all_goals first|exact bK|(rw[<-hE];exact cK gM)|skip
 | true =>
 have c2:=QB g5 g3 g4 (s:=X.1) (by omega);unfold uY at c2;simp only[vN,hb]at c1;cases hl:(eu r X.1).2 with
 | false =>
   have g2':=Xd (n:=n) (r:=r) g1 hz (by rw[hX];exact hb) (by rw[hX];exact hl);rw[g2]at g2';rw[g2',if_pos (.inl hz)]at hE;rw[hl]at c2;repeat' first|simp (disch:=omega) only[go_sem,aC,aD,aE,hk]|refine aG ?_|with_reducible refine cA c2 ?_|refine aF ?_ ?_<;>intro hw<;>try omega|fail
   all_goals first|exact bK|skip
   all_goals
    rintro o' S' ⟨rfl,h'⟩;repeat' first|refine aG ?_|refine aF ?_ ?_<;>intro hw<;>try omega|fail
   all_goals first|exact bK|(rw[<-hE];exact cK gM)|skip
 | true =>
   obtain⟨f,rfl⟩:∃ f',f=f'+1:=⟨f-1,by have:=List.length_pos_iff.2 hz;omega⟩;rw[Uf hz (by rw[hX];exact hb) (by rw[hX];exact hl),hX]at g2;have hlt:=Nj hb;have gi:=Gc g3 hl;have gg:=LK g3 g4 (by omega) hl;rw[hl]at c2;repeat' first|simp (disch:=omega) only[go_sem,aC,aD,aE,hk]|refine aG ?_|with_reducible refine cA c2 ?_|refine aF ?_ ?_<;>intro hw<;>try omega|fail
   all_goals first|exact bK|skip
   all_goals
    rintro o' S' ⟨rfl,h'⟩;repeat' first|refine aG ?_|refine aF ?_ ?_<;>intro hw<;>try omega|fail
   all_goals refine⟨((X.2.1,n+1),S'),⟨⟨f,_,_,by dsimp only;omega,g2,gi,gg,by first|exact h' trivial|exact h' rfl⟩,by dsimp only;omega,by dsimp only;omega,by dsimp only;omega⟩,by dsimp only;omega,rfl,da,at_⟩
abbrev sB: aI:=[108,111,103,32,50,32,53,10]
abbrev sP: aI:=[108,105,115,116,10,108,111,103,32,50,32,53,10]
def Ir: dX vZ=0:=by decide
def adr: dX BA=0:=by decide
def ads: Lib.itoa 2=[50]:=by unfold Lib.itoa;rw[if_neg (by decide)];exact lT (by decide)
def adt: Lib.itoa 5=[53]:=by unfold Lib.itoa;rw[if_neg (by decide)];exact lT (by decide)
def LO: cC vZ=[[108,111,103,32,50,32,53]]:=by
 have:cC vZ=[bQ [qO,Lib.itoa 2,Lib.itoa 5]]:=rfl;rw[this,ads,adt];rfl
def Xe: cC BA=[[108,105,115,116]]:=rfl
def Za: dK [vZ]=sB:=by simp[dK,LO,cP]
def Pc: dK [BA,vZ]=sP:=by simp[dK,LO,Xe,cP]
def Xf: kG [vZ]=(sB,0):=by
 unfold kG;rw[if_neg (by decide),List.find?_cons_of_neg (by rw[Ir];decide),List.find?_nil];dsimp only;rw[Za]
def Zb: iE sP=([BA,vZ],0,0):=by
 have:=H9 (l:=[BA,vZ]) (by decide) (fun c hc=>by
  rcases List.mem_cons.1 hc with rfl|hc
  ·exact⟨Ww,adr⟩
  ·rw[bR.1 hc];exact⟨Dm,Ir⟩) (by rw[Pc];decide)
 rw[Pc]at this;exact this
def Zc: gV mM [BA,vZ] [BA,vZ]=true:=by decide
def Zd: (fO [97,32,124,32,34,124,34] 124).length=2:=by decide
def y5: aM aK 8 [] (.bool true):=by
 have c1:=E6 [vZ] (by decide) (fun c hc=>by rw[bR.1 hc];exact Dm) (fun c hc h=>by rw[bR.1 hc];exact⟨xL Dm Ir,Gj Dm Ir⟩);have c2:=n_ sP (by decide);rw[Xf]at c1;rw[Zb]at c2
 have hok:∀ c ∈ [BA,vZ],g_ c:=fun c hc=>by
  rcases List.mem_cons.1 hc with rfl|hc
  ·exact Ww
  ·rw[bR.1 hc];exact Dm
 have c3:=Bz [BA,vZ] [BA,vZ] (by decide) (by decide) hok hok;rw[Zc]at c3;have c4:aM aK 12 [.str [97,32,124,32,34,124,34],.int .u8 124] (bM (fO [97,32,124,32,34,124,34] 124)):=p_ [97,32,124,32,34,124,34] 124 (by decide);have hl:=Zd;generalize fO [97,32,124,32,34,124,34] 124=L at *;simp only[bM]at c4;simp only[eB,Iq,jG,aU,bf,dU,iL,vZ,BA,eV,iD]at c1 c2 c3;refine aR I8 ?_;intro Q aC aD aE;repeat' first|simp (disch:=omega) only[go_sem,aC,aD,aE,hl]|refine aG ?_|refine ye c1 ?_|refine ye c3 ?_|refine aF ?_ ?_<;>intro hw<;>try omega|fail
 all_goals first|exact bK|exact fg gM|skip
def Xg: ∀(f:Nat) (r:fV) (s u:aI) (n:Int),s.length<=f->s.length<=2 ^ 16->Inv r u->tQ r->(hY f r s n).2.1=[]->tQ (hY f r s n).1/\ ∃ v,Inv (hY f r s n).1 v:=by
 intro f
 induction f with
 | zero =>
   intro r s u n hf hs hi hg _;exact⟨hg,u,hi⟩
 | succ f ih =>
   intro r s u n hf hs hi hg h0;rw[hY]at h0 ⊢;split at h0
   ·rename_i h;rw[if_pos h];exact⟨hg,u,hi⟩
   rename_i hz;rw[if_neg hz];split at h0
   ·exact absurd h0 hz
   rename_i hc;rw[if_neg hc];rw[Bool.not_eq_false]at hc;split at h0
   ·exact absurd h0 hz
   rename_i hl;rw[if_neg hl];rw[Bool.not_eq_false]at hl;have hlt:=Pb s hc;have kr:=JX 10 s;exact ih _ _ _ _ (by omega) (by omega) (Gc hi hl) (LK hi hg (by omega) hl) h0
def Ug(s:aI)(hs:s.length<=65536): (iE s).1.length<=64/\ ∀ c ∈ (iE s).1,g_ c/\dX c=0:=by
 unfold iE;rw[if_neg (by omega)];split
 ·exact⟨by simp,fun c hc=>by cases hc⟩
 ·rename_i h;simp only[not_or,Classical.not_not]at h;obtain⟨g,v,i⟩:=Xg s.length qQ s [] 1 (Nat.le_refl _) hs YM Z5 h.1;exact⟨i.len,fun c hc=>⟨g.out c hc,i.Lr c hc⟩⟩
def D8(l:List ef)(hl:l.length<=2 ^ 30)(h:∀ c ∈ l,g_ c): aM aK 9 [jG l] (eB (kG l)) :=
 E6 l hl h fun c hc hk=>⟨xL (h c hc) hk,Gj (h c hc) hk⟩
def RT{s:aI}{i:Nat}(h:i<s.length): nJ (s.take (i+1))=nJ (s.take i)+if (s.getD i 0).toNat=10 then 1 else 0:=by
 have e:s.take (i+1)=s.take i++[s.getD i 0]:=by
  rw[List.take_add_one,aj];simp[h]
 unfold nJ;rw[e,List.countP_append];simp[List.countP_cons]
def E_(s:aI): aM aK 5 [.str s] (.bool true):=by
 have c0:=y5;by_cases hbig:20000<s.length
 ·refine aR oZ ?_;intro Q aC aD aE;repeat' first|refine aG ?_|refine eU c0 ?_|refine aF ?_ ?_<;>intro hw<;>try omega|fail
  all_goals first|exact bK|exact fg gM|skip
 have c1:=n_ s (by omega);have hp:=TR s (by omega);have hg:=Ug s (by omega);have c2:=D8 (iE s).1 (by omega) (fun c hc=>(hg.2 c hc).1);obtain⟨VU,hg2⟩:=hg;generalize iE s=X at *;obtain⟨L,n,e⟩:=X;dsimp only at *;simp only[Iq,jG,eB]at c1 c2;rcases hp with⟨rfl,rfl,h3⟩|⟨rfl,rfl,h3,h4⟩
 ·rw[h3]at c2;refine aR oZ ?_;intro Q aC aD aE;repeat' first|refine aG ?_|refine eU c0 ?_|refine aF ?_ ?_<;>intro hw<;>try omega|fail
  all_goals first|exact bK|exact fg gM|skip
 ·simp only[bf]at c1;refine aR oZ ?_;intro Q aC aD aE;repeat' first|refine aG ?_|refine eU c0 ?_|refine aF ?_ ?_<;>intro hw<;>try omega|fail
  all_goals first|exact bK|skip
  with_reducible refine bX [6,7,22,23,24,25,26,27,28,29,30,31,32,33] (fun i:Nat=>[(6,I (nJ (s.take i))),(7,I i)]) (fun _=>[]) (fun i=>i<=s.length) (fun i=>s.length-i) 0 (bJ _) rfl ?_ ?_
  ·exact at_
  rintro i rr h1;by_cases hi:i<s.length
  ·have hn:=RT hi
   have hb:nJ (s.take i)<=i:=by
    unfold nJ;have:=List.countP_le_length (p:=fun c:UInt8=>decide (c.toNat=10)) (l:=s.take i);rw[List.length_take]at this;omega
   repeat' first|refine aG ?_|refine aF ?_ ?_<;>intro hw<;>try omega|fail
   all_goals first|exact bK|skip
   ·rw[if_pos (by omega)]at hn;refine⟨i+1,by dsimp only;omega,by dsimp only;omega,rfl,da,?_⟩;dsimp only;rw[hn];exact at_
   ·rw[if_neg (by omega)]at hn;refine⟨i+1,by dsimp only;omega,by dsimp only;omega,rfl,da,?_⟩;dsimp only;rw[hn];exact at_
  ·obtain rfl:i=s.length:=by omega
   have hb:nJ s<=s.length:=List.countP_le_length ..;have e:s.take s.length=s:=List.take_length ..;repeat' first|simp (disch:=omega) only[go_sem,aC,aD,aE,e]|refine aG ?_|refine eU c0 ?_|refine aF ?_ ?_<;>intro hw<;>try omega|fail
   all_goals first|exact bK|exact fg gM|skip
def LP{l:List ef}(h:(kG l).2≠0): (kG l).1=[]:=by
 unfold kG at h ⊢;split
 ·rfl
 ·rename_i c;rw[if_neg c]at h;split
  ·rfl
  ·rename_i hn;rw[hn]at h;exact absurd rfl h
def Iu{l:List ef}(h:(kG l).2=0): l.length<=64/\(∀ c ∈ l,dX c=0)/\kG l=(dK l,0):=by
 unfold kG at h;split at h
 ·cases h
 rename_i c;split at h
 ·rename_i x hx;have:=dW hx;dsimp only at h this;rw[h]at this;cases this
 ·rename_i hn
  have hc:∀ c ∈ l,dX c=0:=fun c hc=>by
   have:=dA.1 hn c hc;simpa using this
  exact⟨by omega,hc,A6 (by omega) hc⟩
def Xh{l:List ef}(h:∀ c ∈ l,g_ c/\dX c=0): (dK l).length<=l.length*2 ^ 28:=by
 induction l with
 | nil=>simp[dK]
 | cons c l ih =>
   have e:dK (c::l)=cP (cC c)++dK l:=by simp[dK]
   have h1:=Gj (h c (List.mem_cons_self ..)).1 (h c (List.mem_cons_self ..)).2;have h2:=ih (fun x hx=>h x (bI _ hx));rw[e,aA,List.length_cons,bE];omega
def Xi{s:aI}(h:65536<s.length): iE s=([],0,5):=by unfold iE;rw[if_pos h]
def E7(l:List ef)(hr:∀ c ∈ l,xC c): aM aK 4 [jG l] (.bool true):=by
 have c0:=y5;have cf:=Lo l;cases hf:Dl l with
 | false =>
   rw[hf]at cf;simp only[jG]at cf ⊢;refine aR mC ?_;intro Q aC aD aE;repeat' first|refine aG ?_|refine eU c0 ?_|refine aF ?_ ?_<;>intro hw<;>try omega|fail
   all_goals first|exact bK|exact fg gM|skip
 | true =>
 rw[hf]at cf;obtain⟨h70,ok⟩:=RC hf hr;have c1:=D8 l (by omega) ok;have hb:=LP (l:=l);have hg:=Iu (l:=l);by_cases he:(kG l).2=0
 ·obtain⟨g1,g2,g3⟩:=hg he;have hl:=Xh (l:=l) (fun c hc=>⟨ok c hc,g2 c hc⟩);have c2:=n_ (dK l) (by omega);have hp:=H9 g1 (fun c hc=>⟨ok c hc,g2 c hc⟩);have c3:=Bz l l (by omega) (by omega) ok ok;rw[rU _ (fun c _=>OH c)]at c3;rw[g3]at c1;by_cases hbig:65536<(dK l).length
  ·rw[Xi hbig]at c2;generalize dK l=T at *;simp only[Iq,jG,eB,bf]at c1 c2 c3 cf ⊢;refine aR mC ?_;intro Q aC aD aE;repeat' first|refine aG ?_|refine eU c0 ?_|refine aF ?_ ?_<;>intro hw<;>try omega|fail
   all_goals first|exact bK|exact fg gM|skip
  ·rw[hp (by omega)]at c2;generalize dK l=T at *;simp only[Iq,jG,eB,bf]at c1 c2 c3 cf ⊢;refine aR mC ?_;intro Q aC aD aE;repeat' first|refine aG ?_|refine eU c0 ?_|refine aF ?_ ?_<;>intro hw<;>try omega|fail
   all_goals first|exact bK|exact fg gM|skip
 ·have hb:=hb he;generalize kG l=T at *;obtain⟨a,e⟩:=T;dsimp only at hb he;subst hb;simp only[Iq,jG,eB,bf]at c1 cf ⊢;refine aR mC ?_;intro Q aC aD aE;repeat' first|refine aG ?_|refine eU c0 ?_|refine aF ?_ ?_<;>intro hw<;>try omega|fail
  all_goals first|exact bK|exact fg gM|skip
