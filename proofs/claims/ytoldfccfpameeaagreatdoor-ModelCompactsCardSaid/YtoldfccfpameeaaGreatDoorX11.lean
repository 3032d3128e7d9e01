/- Part. -/
import Derived.Test.YtoldfccfpameeaaGreatDoorX10
import Derived.Lib.Bytealg
set_option linter.all false
set_option maxHeartbeats 8000000
namespace Go.Proofs.YtoldfccfpameeaaGreatDoor
open Go.AM
set_option maxRecDepth 4000
def jN(a b:cV): Bool:=a.name==b.name && decide (a.kind=b.kind) && fR (fun x y=>x==y) a.order b.order
def lQ(a b:ia): Bool:=fR (fun x y=>x==y) a.cells b.cells && fR (fun x y=>x==y) a.outs b.outs
def qJ(a b:Table): Bool:=a.name==b.name && decide (a.bW=b.bW) && decide (a.agg=b.agg) && fR jN a.ins b.ins && fR jN a.outs b.outs && fR lQ a.rules b.rules
def Gu(l:List cV): Prop:=l.length<=2^60/\ ∀ c ∈ l,c.order.length<=2^60
def Tq(r:ia): Prop:=r.cells.length<=2^60/\r.outs.length<=2^60
def DQ(t:Table): Prop:=Gu t.ins/\Gu t.outs/\t.rules.length<=2^60/\ ∀ r ∈ t.rules,Tq r
def yb(a b:cV)(ha:a.order.length<=2^60)(hb:b.order.length<=2^60): aS aH 126 [dQ a,dQ b] (.bool (jN a b)):=by
 have c:=xo a.order b.order ha hb;have hS:jN a b=(a.name==b.name && decide (a.kind=b.kind) && fR (fun x y=>x==y) a.order b.order):=rfl;rw[hS];clear hS;generalize fR (fun x y=>x==y) a.order b.order=v at *;simp only[dQ,bu]at c |-;refine a_ Dv ?_;intro Q aJ aK aL;repeat' first|refine aB ?_|refine eU c ?_|refine aA ?_ ?_<;>intro hw<;>try omega|fail
 all_goals (refine aZ ?_ rfl;refine aW AV.bool ?_;rw[c7];simp_all)
def Mg(a b:ia)(ha:Tq a)(hb:Tq b): aS aH 128 [fY a,fY b] (.bool (lQ a b)):=by
 have c1:=vH a.cells b.cells ha.1 hb.1;have c2:=vH a.outs b.outs ha.2 hb.2;have hS:lQ a b=(fR (fun x y=>x==y) a.cells b.cells && fR (fun x y=>x==y) a.outs b.outs):=rfl;rw[hS];clear hS;generalize fR (fun x y=>x==y) a.cells b.cells=v at *;generalize fR (fun x y=>x==y) a.outs b.outs=u at *;simp only[fY,iY]at c1 c2 |-;refine a_ F0 ?_;intro Q aJ aK aL;repeat' first|refine aB ?_|refine aA ?_ ?_<;>intro hw<;>try omega|fail
 all_goals (refine aZ ?_ rfl;refine aW AV.bool ?_;rw[c7];simp_all)
def yc(l m:List cV)(hl:Gu l)(hm:Gu m): aS aH 70 [b_ l,b_ m] (.bool (fR jN l m)):=by
 obtain⟨Iz,Tr⟩:=hl;obtain⟨wY,Ai⟩:=hm;simp only[b_];refine a_ Du ?_;intro Q aJ aK aL;repeat' first|refine aB ?_|refine aA ?_ ?_<;>intro hw<;>try omega|fail
 ·refine aZ ?_ rfl;rw[nU ae]
 have qj:l.length=m.length:=ae;with_reducible refine bE [4,2,11,44] (fun i:Nat=>[(5,I i)]) (fun _=>[]) (fun i=>i<=l.length/\ ∀ k,k<i->jN (l.getD k default) (m.getD k default)=true) (fun i=>l.length-i) (0) ?_ ?_ ?_ ?_
 ·simp
 ·rfl
 ·exact at_
 rintro i r ⟨h1,h2⟩;by_cases hi:i<l.length
 ·have hi':i<m.length:=ae;have hne:jN (l.getD i default) (m.getD i default)=false->fR jN l m=false:=fun h=>qi hi h hi';have dR:=fun he=>cj h2 (i:=i) he;have c:=xV (l.getD i default).order (m.getD i default).order (Tr _ (bq hi)) (Ai _ (bq hi'));obtain⟨a,haq⟩:∃ t,l.getD i default=t:=⟨_,rfl⟩;obtain⟨b,WO⟩:∃ t,m.getD i default=t:=⟨_,rfl⟩;rw[haq]at hne dR c;rw[WO]at hne dR c;simp only[jN]at hne dR;generalize fR (fun x y=>x==y) a.order b.order=v at *;simp only[bu]at c;repeat' first|refine cz (zA haq WO) ?_|refine aB ?_|refine eU c ?_|refine aA ?_ ?_<;>intro hw<;>try omega|fail
  all_goals first
   |(refine aZ ?_ rfl;rw[hne (by clear hne dR;simp_all)];done)
   | (refine ⟨i + 1, ?_, ?_, ?_, da, at_⟩ <;> (try dsimp only)
      ·exact⟨ae,dR (by clear hne dR;simp_all)⟩
      ·omega
      all_goals (first|rfl|(simp[go_sem];done)))
   | exact bJ
 repeat' first|refine aB ?_|refine aA ?_ ?_<;>intro hw<;>try omega|fail
 refine aZ ?_ rfl;rw[nW qj (fun k hk=>h2 k ae)]
def Vk(a b:Table)(ha:DQ a)(hb:DQ b): aS aH 81 [dS a,dS b] (.bool (qJ a b)):=by
 have c1:=sF 126 [] rfl jN a.ins b.ins (fun k h1 h2=>yb _ _ (ha.1.2 _ (bq h1)) (hb.1.2 _ (bq h2))) (by have:=ha.1.1;omega) (by have:=hb.1.1;omega);have c2:=sF 126 [] rfl jN a.outs b.outs (fun k h1 h2=>yb _ _ (ha.2.1.2 _ (bq h1)) (hb.2.1.2 _ (bq h2))) (by have:=ha.2.1.1;omega) (by have:=hb.2.1.1;omega);have c3:=Cr 128 [] rfl lQ a.rules b.rules (fun k h1 h2=>Mg _ _ (ha.2.2.2 _ (bq h1)) (hb.2.2.2 _ (bq h2))) (by have:=ha.2.2.1;omega) (by have:=hb.2.2.1;omega);have hS:qJ a b=(a.name==b.name && decide (a.bW=b.bW) && decide (a.agg=b.agg) && fR jN a.ins b.ins && fR jN a.outs b.outs && fR lQ a.rules b.rules):=rfl;generalize fR jN a.ins b.ins=v1 at *;generalize fR jN a.outs b.outs=v2 at *;generalize fR lQ a.rules b.rules=v3 at *;obtain⟨E,hE⟩:=cq (qJ a b);rw[hE]at hS |-;clear hE;simp only[dS,gK,b_,eR]at c1 c2 c3 |-;refine a_ Nv ?_;intro Q aJ aK aL;dsimp (config:= { zeta:=true }) only;repeat' first|refine aB ?_|refine aA ?_ ?_<;>intro hw<;>try omega|fail
 all_goals first
  | exact bJ
  |(refine aZ ?_ rfl;refine aW AV.bool ?_;rw[hS,c7];simp_all;done)
def YV(a b:Table)(ha:DQ a)(hb:DQ b): aS aH 44 [dS a,dS b] (.bool (qJ a b)):=by
 obtain⟨a1,a2,a3,a4⟩:=ha;obtain⟨b1,b2,b3,b4⟩:=hb;have c1:=yc a.ins b.ins a1 b1;have c2:=yc a.outs b.outs a2 b2;obtain⟨E,hE⟩:=cq (qJ a b);rw[hE];have hS:(a.name==b.name && decide (a.bW=b.bW) && decide (a.agg=b.agg) && fR jN a.ins b.ins && fR jN a.outs b.outs && fR lQ a.rules b.rules)=E:=hE;clear hE;generalize fR jN a.ins b.ins=v1 at c1 hS;generalize fR jN a.outs b.outs=v2 at c2 hS;simp only[dS,gK,b_,eR]at c1 c2 |-;by_cases h0:a.name=b.name/\a.bW=b.bW/\a.agg=b.agg/\a.rules.length=b.rules.length
 case neg =>
  have hE:E=false:=by
   rw[<-hS,Bool.eq_false_iff];intro h;simp only[aD,beq_iff_eq,aM]at h;obtain⟨⟨⟨⟨⟨g1,g2⟩,g3⟩,g4⟩,g5⟩,g6⟩:=h;refine h0 ⟨g1,g2,g3,?_⟩;by_cases hl:a.rules.length=b.rules.length
   ·exact hl
   rw[nU hl]at g6;cases g6
  subst hE;clear hS c1 c2;refine a_ Ez ?_;intro Q aJ aK aL;repeat' first|refine aB ?_|refine aA ?_ ?_<;>intro hw<;>try omega|fail
  all_goals first
   | exact aZ rfl rfl
   | exact bJ
   |(exfalso;apply h0;refine⟨?_,?_,?_,?_⟩<;>first|assumption|omega|simp_all)
 obtain⟨g1,g2,g3,qj⟩:=h0;rw[g1,g2,g3,beq_self_eq_true,bQ rfl,bQ rfl,fF,fF,fF]at hS;refine a_ Ez ?_;intro Q aJ aK aL;repeat' first|refine cz (zB g1 g2 g3) ?_|refine aB ?_|refine aA ?_ ?_<;>intro hw<;>try omega|fail
 all_goals first|(exfalso;omega)|exact bJ|skip
 with_reducible refine bE [4,2,34,37] (fun i:Nat=>[(5,I i)]) (fun _=>[.cells [.str b.name,.aR false EC (a.ins.map dQ),.aR false EC (a.outs.map dQ),I b.bW,I b.agg,.aR false ER (a.rules.map fY)],.cells [.str b.name,.aR false EC (b.ins.map dQ),.aR false EC (b.outs.map dQ),I b.bW,I b.agg,.aR false ER (b.rules.map fY)]]) (fun i=>i<=a.rules.length/\ ∀ k,k<i->lQ (a.rules.getD k default) (b.rules.getD k default)=true) (fun i=>a.rules.length-i) (0) ?_ ?_ ?_ ?_
 ·simp
 ·rfl
 ·exact at_
 rintro i r ⟨h1,h2⟩;by_cases hi:i<a.rules.length
 ·have hi':i<b.rules.length:=ae;have k1:=AI _ _ (a4 _ (bq hi)).1 (b4 _ (bq hi')).1;have k2:=AI _ _ (a4 _ (bq hi)).2 (b4 _ (bq hi')).2;have hne:=fun h=>qi (p:=lQ) hi h hi';have dR:=fun he=>cj (q:=fun k=>lQ (a.rules.getD k default) (b.rules.getD k default)=true) h2 (i:=i) he;obtain⟨x,hx⟩:=cq (a.rules.getD i default);obtain⟨y,hy⟩:=cq (b.rules.getD i default);rw[hx]at k1 k2 hne dR;rw[hy]at k1 k2 hne dR;simp only[lQ]at hne dR;generalize fR (fun x y=>x==y) x.cells y.cells=w1 at k1 hne dR;generalize fR (fun x y=>x==y) x.outs y.outs=w2 at k2 hne dR;simp only[iY]at k1 k2;repeat' first|refine cz (zA hx hy) ?_|refine aB ?_|refine aA ?_ ?_<;>intro hw<;>try omega|fail
  all_goals first
   | exact bJ
   |(refine aZ ?_ rfl;rw[<-hS,hne (by clear hne dR hS;simp_all),h_];done)
   | (refine ⟨i + 1, ?_, ?_, ?_, da, at_⟩ <;> (try dsimp only)
      ·exact⟨ae,dR (by clear hne dR hS;simp_all)⟩
      ·omega
      all_goals (first|rfl|(simp[go_sem];done)))
 rw[nW qj (fun k hk=>h2 k ae),iQ]at hS;repeat' first|refine aB ?_|refine aA ?_ ?_<;>intro hw<;>try omega|fail
 all_goals first
  | exact bJ
  |(refine aZ ?_ rfl;rw[<-hS];simp_all;done)
def nG(l:kL)(m:Nat): aU × Int:=HM (l.cells.getD m default)
def qR(l:kL)(m:Nat): aU × Int:=AG (l.outs.getD m default)
def bY(l:kL)(n:Nat): List aU:=(List.range n).map fun m=>(nG l m).1
def tO(l:kL)(n:Nat): List aU:=(List.range n).map fun m=>(qR l m).1
def Vl(l:kL)(n:Nat): bY l (n+1)=bY l n++[(nG l n).1]:=by simp[bY,List.range_succ]
def YW(l:kL)(n:Nat): tO l (n+1)=tO l n++[(qR l n).1]:=by simp[tO,List.range_succ]
def DR(l:kL)(n:Nat): (bY l n).length=n:=by simp[bY]
def Gv(l:kL)(n:Nat): (tO l n).length=n:=by simp[tO]
def BG(w:Nat)(l:kL): ia × Int × Int :=
 match(List.range l.cells.length).find? (fun m=>(nG l m).2 != 0)with
 | some m=>(⟨bY l l.cells.length,tO l l.outs.length⟩,m,(nG l m).2)
 | none => match (List.range l.outs.length).find? (fun m => (qR l m).2 != 0) with
   | some m=>(⟨bY l l.cells.length,tO l l.outs.length⟩,w+m,(qR l m).2)
   | none=>(⟨bY l l.cells.length,tO l l.outs.length⟩,0,0)
def s7: Table:=⟨[],[],[],0,0,[]⟩
def DS(t:Table)(n:Nat): kL:=(eC t).1.lines.getD n default
def pT(t:Table)(n:Nat): ia × Int × Int:=BG t.ins.length (DS t n)
def wN(t:Table)(n:Nat): List ia:=(List.range n).map fun k=>(pT t k).1
def gk(t:Table): Table × Int × Int × Int :=
 if(eC t).2.2.2≠0 then(s7,(eC t).2.1,(eC t).2.2.1,(eC t).2.2.2)
 else match(List.range (eC t).1.lines.length).find? (fun n=>(pT t n).2.2 != 0)with
 | some n=>(s7,n,(pT t n).2.1,(pT t n).2.2)
 | none=>({ t with rules:=wN t (eC t).1.lines.length },0,0,0)
def eT4(r:Table × Int × Int × Int): AV:= .bU [dS r.1,I r.2.1,I r.2.2.1,I r.2.2.2]
def YX(t:Table)(n:Nat): wN t (n+1)=wN t n++[(pT t n).1]:=by simp[wN,List.range_succ]
def xw(t:Table)(n:Nat): (wN t n).length=n:=by simp[wN]
def Ts(w:Nat)(l:kL): (BG w l).1=⟨bY l l.cells.length,tO l l.outs.length⟩:=by
 unfold BG;split
 ·rfl
 split<;>rfl
def abb(w:Nat){l:kL}{m:Nat}(hm:m<l.cells.length)(h:∀ j,j<m->(nG l j).2=0)(he:(nG l m).2≠0): (BG w l).2=((m:Int),(nG l m).2):=by
 unfold BG;rw[wj (i:=m) hm (fun j hj=>by simp[h j hj]) (by simp[he])]
def adU(w:Nat){l:kL}(hc:∀ j,j<l.cells.length->(nG l j).2=0){m:Nat}(hm:m<l.outs.length)(h:∀ j,j<m->(qR l j).2=0)(he:(qR l m).2≠0): (BG w l).2=((w:Int)+m,(qR l m).2):=by
 unfold BG;rw[oB (fun j hj=>by simp[hc j hj])];dsimp only;rw[wj (i:=m) hm (fun j hj=>by simp[h j hj]) (by simp[he])]
def agw(w:Nat){l:kL}(hc:∀ j,j<l.cells.length->(nG l j).2=0)(h:∀ j,j<l.outs.length->(qR l j).2=0): (BG w l).2=(0,0):=by
 unfold BG;rw[oB (fun j hj=>by simp[hc j hj])];dsimp only;rw[oB (fun j hj=>by simp[h j hj])]
def s_{t:Table}(h:(eC t).2.2.2≠0): gk t=(s7,(eC t).2.1,(eC t).2.2.1,(eC t).2.2.2):=by unfold gk;rw[if_pos h]
def YY{t:Table}(h0:(eC t).2.2.2=0){n:Nat}(hn:n<(eC t).1.lines.length)(h:∀ j,j<n->(pT t j).2.2=0)(he:(pT t n).2.2≠0): gk t=(s7,(n:Int),(pT t n).2.1,(pT t n).2.2):=by
 unfold gk;rw[aj ae,wj (i:=n) hn (fun j hj=>by simp[h j hj]) (by simp[he])]
def Py{t:Table}(h0:(eC t).2.2.2=0)(h:∀ j,j<(eC t).1.lines.length->(pT t j).2.2=0): gk t=({ t with rules:=wN t (eC t).1.lines.length },0,0,0):=by
 unfold gk;rw[aj ae,oB (fun j hj=>by simp[h j hj])]
def abd(l:kL): Prop:=(l.cells.length<=2^30/\ ∀ c ∈ l.cells,pR c)/\l.outs.length<=2^30/\ ∀ x ∈ l.outs,jj x/\gV x<=2^30
def yB{t:Table}(h:(eC t).2.2.2=0): jV t=0/\(∀ j,j<t.rules.length->(lg t j).2.2=0)/\eC t=((⟨t,nq t t.rules.length⟩:Ready),(0:Int),(0:Int),(0:Int)):=by
 by_cases hf:jV t=0
 ·have hl : ∀ j, j < t.rules.length -> (lg t j).2.2 = 0 := by
   cases hq:(List.range t.rules.length).find? (fun k=>(lg t k).2.2 != 0)with
   | some k =>
     exfalso;unfold eC at h;rw[aj ae,hq]at h;have:=fJ hq;simp at this;exact this h
   | none =>
     intro j hj;have:=fL.1 hq j (eF.2 hj);simpa using this
  exact⟨hf,hl,Tp hf hl⟩
 rw[BE hf]at h;exact absurd h hf
def abe(t:Table)(r:ia)(h1:t.ins.length<=2^30)(h2:t.outs.length<=2^30)(hr:r.cells.length<=2^30)(ho:r.outs.length<=2^30): abd (l9 t r).1:=by
 have hc:∀ n,n<=2^30->(mR t r n).length<=2^30/\ ∀ c ∈ mR t r n,pR c:=fun n hn=>by
  refine⟨by rw[AK];exact hn,fun c hc=>?_⟩;obtain⟨k,_,rfl⟩:=cI.1 hc;exact Me _
 have hx:∀ n,n<=2^30->(pS t r n).length<=2^30/\ ∀ x ∈ pS t r n,jj x/\gV x<=2^30:=fun n hn=>by
  refine⟨by rw[Ke];exact hn,fun x hx=>?_⟩;obtain⟨k,_,rfl⟩:=cI.1 hx;exact AJ _
 have hk:∀ {n k:Nat} {p:Nat->Bool},(List.range n).find? p=some k->k<n:=fun h=>eF.1 (iy h);unfold l9;split
 ·exact⟨⟨aQ,aQ⟩,aQ,aQ⟩
 split
 ·rename_i k hq;have:=hk hq;exact⟨hc _ ae,aQ,aQ⟩
 split
 ·rename_i k hq;have:=hk hq;exact⟨hc _ hr,hx _ ae⟩
 exact⟨hc _ hr,hx _ ho⟩
def BH{t:Table}(h:j4 t)(h0:(eC t).2.2.2=0): (eC t).1.lines.length=t.rules.length/\ ∀ n,abd (DS t n):=by
 obtain⟨_,_,hm⟩:=yB h0;refine⟨by rw[hm];exact xu _ _,fun n=>?_⟩;unfold DS;rw[hm];dsimp only;by_cases hn:n<t.rules.length
 ·have : (nq t t.rules.length).getD n default = (lg t n).1 := by
   unfold nq;rw[aq,fP,List.getElem?_range hn];rfl
  rw[this];have hr:=h.2.2.2.2 _ (bq hn);exact abe t _ h.2.1.1 h.2.2.1.1 hr.1.1 hr.2.1
 rw[rC (by rw[xu];omega)];exact⟨⟨Nat.zero_le _,fun c hc=>by cases hc⟩,Nat.zero_le _,fun c hc=>by cases hc⟩
def vI(L:Nat)(S:ai)(v:AV)(xs:List aU): Prop:=(xs=[]/\v = .aV)\/(xs≠[]/\ ∃ q,L<=q/\v = .own E1 q xs.length 0 xs.length/\S[q]? = some (.vec E1 (xs.map fH)))
def vI.nil(L:Nat)(S:ai): vI L S .aV []:= .inl ⟨rfl,rfl⟩
def vI.scalar{L:Nat}{S:ai}{v:AV}{xs:List aU}(h:vI L S v xs): v.scalar=true:=by
 rcases h with⟨_,rfl⟩|⟨_,q,_,rfl,_⟩<;>rfl
def vI.view{L:Nat}{S:ai}{v:AV}{xs:List aU}(h:vI L S v xs): View S v (iY xs):=by
 rcases h with⟨rfl,rfl⟩|⟨_,q,_,rfl,hq⟩
 ·exact View.aV _
 exact View.vec hq aQ aQ (w9 _)
def vI.keep{L L':Nat}{S S':ai}{v:AV}{xs:List aU}(hL:L'<=L)(hs:∀ (q:Nat) (ys:List AV),L<=q->S[q]? = some (.vec E1 ys)->S'[q]? = some (.vec E1 ys))(h:vI L S v xs): vI L' S' v xs:=by
 rcases h with h|⟨h1,q,h2,h3,h4⟩
 ·exact .inl h
 exact .inr ⟨h1,q,cR hL h2,h3,hs _ _ h2 h4⟩
def adV(S:ai)(a:AV)(r:ia): Prop:= ∃ v w,a = .agg [v,w]/\vI 0 S v r.cells/\vI 0 S w r.outs
def oC(S:ai)(rs:List AV)(l:List ia): Prop:=rs.length=l.length/\ ∀ j,j<l.length->adV S (rs.getD j .undef) (l.getD j default)
def oC.nil(S:ai): oC S [] []:=⟨rfl,fun j hj=>by cases hj⟩
def oC.keep{S S':ai}{rs:List AV}{l:List ia}(hs:∀ (q:Nat) (ys:List AV),S[q]? = some (.vec E1 ys)->S'[q]? = some (.vec E1 ys))(h:oC S rs l): oC S' rs l:=by
 refine⟨h.1,fun j hj=>?_⟩;obtain⟨v,w,h1,h2,h3⟩:=h.2 j hj;exact⟨v,w,h1,h2.keep (bg _) (fun q ys _=>hs q ys),h3.keep (bg _) (fun q ys _=>hs q ys)⟩
def oC.snoc{S:ai}{rs:List AV}{l:List ia}{a:AV}{r:ia}(h:oC S rs l)(ha:adV S a r): oC S (rs++[a]) (l++[r]):=by
 refine⟨by simp[h.1],fun j hj=>?_⟩;have hl:=h.1;rw[aC,aO,bt]at hj;by_cases sD:j<l.length
 ·rw[aq,aq,aI ae,aI sD,<-aq,<-aq];exact h.2 j sD
 obtain rfl:j=l.length:=ae;rw[aq,aq,<-hl,bp (bg _),hl,bp (bg _)];simpa using ha
def oC.view{S:ai}{rs:List AV}{l:List ia}(h:oC S rs l): cY S rs (l.map fY):=by
 refine⟨by simp[h.1],fun j hj=>?_⟩;have hl:=h.1;obtain⟨v,w,h1,h2,h3⟩:=h.2 j ae;rw[h1,getD_map _ _ _ ae];exact View.nS (.cons h2.view (.cons h3.view (.nil _)))
def zD(L:Nat)(S:ai)(v:AV)(l:List ia): Prop:=(l=[]/\v = .aV)\/(l≠[]/\ ∃ q rs,L<=q/\v = .own ER q l.length 0 l.length/\S[q]? = some (.vec ER rs)/\oC S rs l)
def zD.nil(L:Nat)(S:ai): zD L S .aV []:= .inl ⟨rfl,rfl⟩
def zD.view{L:Nat}{S:ai}{v:AV}{l:List ia}(h:zD L S v l): View S v (eR l):=by
 rcases h with⟨rfl,rfl⟩|⟨_,q,rs,_,rfl,hq,hr⟩
 ·exact View.aV _
 exact View.amn hq hr.1.symm hr.1.symm hr.view
def zD.scalar{L:Nat}{S:ai}{v:AV}{l:List ia}(h:zD L S v l): v.scalar=true:=by
 rcases h with⟨_,rfl⟩|⟨_,q,_,_,rfl,_⟩<;>rfl
def zD.keep{L:Nat}{S S':ai}{v:AV}{l:List ia}(hs:∀ (q:Nat) (o:aY),S[q]? = some o->(∀ cs,o≠ .cells cs)->S'[q]? = some o)(h:zD L S v l): zD L S' v l:=by
 rcases h with h|⟨h1,q,rs,h2,h3,h4,h5⟩
 ·exact .inl h
 exact .inr ⟨h1,q,rs,h2,h3,hs _ _ h4 (fun cs=>by simp),h5.keep (fun q ys hq=>hs q _ hq (fun cs=>by simp))⟩
def Cu(σ : ai): View σ (.agg [.str [],.aV,.aV,I 0,I 0,.aV]) (dS s7) :=
 View.nS (.cons (.refl _ rfl) (.cons (.aV _) (.cons (.aV _) (.cons (.refl _ rfl) (.cons (.refl _ rfl) (.cons (.aV _) (.nil _)))))))
abbrev Tt(t:Table)(v:AV): aY:= .cells [.str t.name,.aR false EC (t.ins.map dQ),.aR false EC (t.outs.map dQ),I t.bW,I t.agg,v]
abbrev amI(t:Table)(ls:List kL): aY:= .cells [.str t.name,.aR false EC (t.ins.map dQ),.aR false EC (t.outs.map dQ),I t.bW,I t.agg,.aR false ER (t.rules.map fY),.aR false ER (ls.map mM)]
def Tv{S1:ai}{L k:Nat}{c:aY}{s:aU}(hL:L<=S1.length)(hk:k<S1.length): vI L ((S1++[aY.vec E1 [.str s]]).set k c) (.own E1 S1.length 1 0 1) [s] :=
 .inr ⟨aQ,S1.length,hL,rfl,by rw[aF ae];simp[fH]⟩
def WQ{S1:ai}{L k q:Nat}{c:aY}{s:aU}{xs:List aU}(hq:S1[q]? = some (.vec E1 (xs.map fH)))(hL:L<=q)(hk:k≠q): vI L ((S1.set q (.vec E1 (xs.map fH++[.str s]))).set k c) (.own E1 q (xs.length+1) 0 (xs.length+1)) (xs++[s]) :=
 .inr ⟨aQ,q,hL,aQ,by rw[aF hk,bw (j3 hq)];simp[fH]⟩
def mc{S1:ai}{k:Nat}{c d:aY}(j:Nat)(o:aY)(hj:S1[j]? = some o)(hne:j≠k): ((S1++[d]).set k c)[j]? = some o:=by
 rw[aF (Ne.symm hne),aI (j3 hj)];exact hj
def nB{S1:ai}{k q:Nat}{c d:aY}(j:Nat)(o:aY)(hj:S1[j]? = some o)(hne:j≠k)(hq:j≠q): ((S1.set q d).set k c)[j]? = some o:=by
 rw[aF (Ne.symm hne),aF (Ne.symm hq)];exact hj
def ako{σ : ai}{k:Nat}{w:AV}(h : σ[k]? = some (.cells [.aV,w]))(s:aU)(e:Int): cE aH 78 [.ref k 0,.str s,I e] σ fun o σ'=>o = .ret (.bool (e==0))/\σ'=(σ++[aY.vec E1 [.str s]]).set k (.cells [.own E1 σ.length 1 0 1,w]):=by
 have h2:∀ d:aY,(σ++[d])[k]? = some (.cells [.aV,w]):=fun d=>by rw[aI (j3 h)];exact h
 refine oR.go ?_;unfold dP;intro Q aJ aK aL;repeat' first|refine cz (zA h h2) ?_|refine aB ?_|refine aA ?_ ?_<;>intro hw<;>try omega|fail
 exact⟨rfl,by trivial⟩
def akp{σ : ai}{k:Nat}{w:AV}(h : σ[k]? = some (.cells [w,.aV]))(s:aU)(e:Int): cE aH 78 [.ref k 1,.str s,I e] σ fun o σ'=>o = .ret (.bool (e==0))/\σ'=(σ++[aY.vec E1 [.str s]]).set k (.cells [w,.own E1 σ.length 1 0 1]):=by
 have h2:∀ d:aY,(σ++[d])[k]? = some (.cells [w,.aV]):=fun d=>by rw[aI (j3 h)];exact h
 refine oR.go ?_;unfold dP;intro Q aJ aK aL;repeat' first|refine cz (zA h h2) ?_|refine aB ?_|refine aA ?_ ?_<;>intro hw<;>try omega|fail
 exact⟨rfl,by trivial⟩
def akq{σ : ai}{k q:Nat}{xs:List aU}{w:AV}(h : σ[k]? = some (.cells [.own E1 q xs.length 0 xs.length,w]))(hq : σ[q]? = some (.vec E1 (xs.map fH)))(hne:q≠k)(hl:xs.length<=2^30)(s:aU)(e:Int): cE aH 78 [.ref k 0,.str s,I e] σ fun o σ'=>o = .ret (.bool (e==0))/\σ'=(σ.set q (.vec E1 (xs.map fH++[.str s]))).set k (.cells [.own E1 q (xs.length+1) 0 (xs.length+1),w]):=by
 have h2:∀ d:aY,(σ.set q d)[k]? = some (.cells [.own E1 q xs.length 0 xs.length,w]):=fun d=>by rw[aF hne];exact h
 refine oR.go ?_;unfold dP;intro Q aJ aK aL;repeat' first|refine cz (zB h h2 hq) ?_|refine aB ?_|refine aA ?_ ?_<;>intro hw<;>try omega|fail
 exact⟨rfl,by trivial⟩
def akr{σ : ai}{k q:Nat}{xs:List aU}{w:AV}(h : σ[k]? = some (.cells [w,.own E1 q xs.length 0 xs.length]))(hq : σ[q]? = some (.vec E1 (xs.map fH)))(hne:q≠k)(hl:xs.length<=2^30)(s:aU)(e:Int): cE aH 78 [.ref k 1,.str s,I e] σ fun o σ'=>o = .ret (.bool (e==0))/\σ'=(σ.set q (.vec E1 (xs.map fH++[.str s]))).set k (.cells [w,.own E1 q (xs.length+1) 0 (xs.length+1)]):=by
 have h2:∀ d:aY,(σ.set q d)[k]? = some (.cells [w,.own E1 q xs.length 0 xs.length]):=fun d=>by rw[aF hne];exact h
 refine oR.go ?_;unfold dP;intro Q aJ aK aL;repeat' first|refine cz (zB h h2 hq) ?_|refine aB ?_|refine aA ?_ ?_<;>intro hw<;>try omega|fail
 exact⟨rfl,by trivial⟩
def iG{S:ai}{j:Nat}{o:aY}(h:S[j]? = some o)(d:aY): (S++[d])[j]? = some o:=by rw[aI (j3 h)];exact h
def Tw{S:ai}{j k:Nat}{o:aY}(h:S[j]? = some o)(hne:j≠k)(d:aY): (S.set k d)[j]? = some o:=by rw[aF (Ne.symm hne)];exact h
def Gw(t:Table)(h:j4 t): aS aH 52 [dS t] (eT4 (gk t)):=by
 have cm:=IP t h;obtain⟨E,hE⟩:=cq (eT4 (gk t));rw[hE];by_cases he:(eC t).2.2.2≠0
 ·have hc:=s_ he;obtain⟨M,hM⟩:=cq (eC t);rw[hM]at cm hc he;simp only[eR4,lH,dS,gK,b_,eR,qh]at cm |-;refine a_ Ap ?_;intro Q aJ aK aL;repeat' first|refine aB ?_|refine aA ?_ ?_<;>intro hw<;>try omega|fail
  all_goals first
   | exact bJ
   |(rw[<-hE,hc];exact gW (uY (Cu _)))
 have Tx:(eC t).2.2.2=0:=ae;obtain⟨hf,hl,hm⟩:=yB Tx;obtain⟨hlen,hok⟩:=BH h Tx;have hcr:=fun n=>YY (t:=t) Tx (n:=n);have hco:=Py Tx;obtain⟨ls,hls⟩:=cq ((eC t).1.lines);have Cv:∀ n,DS t n=ls.getD n default:=fun n=>by rw[<-hls];rfl
 have i_:nq t t.rules.length=ls:=by rw[<-hls,hm]
 rw[hls]at hlen hcr hco;rw[hm,i_]at cm;have amH:=h.2.2.2.1;have aoS:=h.2.1.1;clear hm i_ hl hf Tx hls he;simp only[eR4,lH,dS,gK,b_,eR,qh]at cm |-;refine a_ Ap ?_;intro Q aJ aK aL;repeat' first|refine aB ?_|refine aA ?_ ?_<;>intro hw<;>try omega|fail
 all_goals first|exact bJ|skip
 with_reducible refine bE [7,3,13,8,39,60] (fun q:Nat × ai=>[(39,I q.1),(9,I 0)]) (fun q=>q.2) (fun q=>q.1<=ls.length/\(∀ k,k<q.1->(pT t k).2.2=0)/\5<=q.2.length/\q.2[0]? = some (Tt t (.aR false ER (t.rules.map fY)))/\q.2[1]? = some (.cells [.str [],.aV,.aV,I 0,I 0,.aV])/\q.2[2]? = some (amI t ls)/\(∃ v,q.2[3]? = some (Tt t v)/\zD 5 q.2 v (wN t q.1))/\ ∃ a b,q.2[4]? = some (.cells [a,b])) (fun q=>ls.length-q.1) (0,_) ⟨ew _,fun k hk=>by omega,aQ,rfl,rfl,rfl,⟨_,rfl,zD.nil _ _⟩,_,_,rfl⟩ rfl ?_ ?_
 ·exact at_
 rintro⟨n,S⟩ rr ⟨h1,h2,h3,f0,f1,f2,⟨v,f3,h4⟩,xa,xb,f4⟩;dsimp only at h1 h2 h3 f0 f1 f2 f3 h4 f4;have hvs:=h4.scalar;by_cases hn:n<ls.length
 ·have adW:=hok n;have hrow:pT t n=BG t.ins.length (DS t n):=rfl;have Gx:=hcr n hn h2;have EI:=YX t n;rw[hrow,Ts]at EI;rw[hrow]at Gx;rw[Cv]at adW Gx EI;obtain⟨l,Gy⟩:=cq (ls.getD n default);rw[Gy]at adW Gx EI;obtain⟨⟨k1,k2⟩,k3,k4⟩:=adW;have f4a:∀ d:aY,(S++[d])[4]? = some (.cells [xa,xb]):=fun d=>iG f4 d;have Ty:(S++[aY.cells [.aR false EC (l.cells.map er),.aR false EX (l.outs.map br)]])[S.length]? = some (.cells [.aR false EC (l.cells.map er),.aR false EX (l.outs.map br)]):=Qv _ _;have aiz:∀ d:aY,((S++[aY.cells [.aR false EC (l.cells.map er),.aR false EX (l.outs.map br)]]).set 4 d)[S.length]? = some (.cells [.aR false EC (l.cells.map er),.aR false EX (l.outs.map br)]):=fun d=>Tw Ty ae d;repeat' first|refine cz (zC f0 f1 f2 (zC f3 f4 f4a (zA aiz Gy))) ?_|refine aB ?_|refine aA ?_ ?_<;>intro hw<;>try omega|fail
  with_reducible refine bE [8,2,15,3,49,18] (fun q:Nat × ai=>[(49,I q.1),(9,I 0)]) (fun q=>q.2) (fun q=>q.1<=l.cells.length/\(∀ k,k<q.1->(nG l k).2=0)/\S.length<q.2.length/\(∀ j o,S[j]? = some o->j≠4->q.2[j]? = some o)/\q.2[S.length]? = some (.cells [.aR false EC (l.cells.map er),.aR false EX (l.outs.map br)])/\ ∃ x,q.2[4]? = some (.cells [x,.aV])/\vI (S.length+1) q.2 x (bY l q.1)) (fun q=>l.cells.length-q.1) (0,_) ⟨ew _,fun k hk=>by omega,aQ,fun j o hj hne=>Tw (iG hj _) hne _,aiz _,.aV,bw (j3 (f4a _)),vI.nil _ _⟩ rfl ?_ ?_
  ·exact at_
  rintro⟨m,S1⟩ rr ⟨g1,g2,g3,g4,gl,x,g5,g6⟩;dsimp only at g1 g2 g3 g4 gl g5 g6;have e0:=g4 _ _ f0 ae;have e1:=g4 _ _ f1 ae;have e2:=g4 _ _ f2 ae;have e3:=g4 _ _ f3 ae;by_cases hml:m<l.cells.length
  ·have cT:aS aH 79 [er (l.cells.getD m default)] (.bU [.str (nG l m).1,I (nG l m).2]):=aa8 _ (k2 _ (bq hml));have hsc:=Vl l m;have qj:=DR l m;have hce:=abb t.ins.length hml g2;have iA:=fun he=>cj (q:=fun j=>(nG l j).2=0) g2 he;obtain⟨a,ha⟩:=cq (nG l m);rw[ha]at cT hsc hce iA;obtain⟨c,hc⟩:=cq (l.cells.getD m default);rw[hc]at cT;simp only[er,jr]at cT;obtain⟨xs,hxs⟩:=cq (bY l m);rw[hxs]at g6 hsc qj;rcases g6 with⟨rfl,rfl⟩|⟨hne,q,hq,rfl,Mh⟩
   ·repeat' first|simp (disch:=omega) only[go_sem,aJ,aK,aL,e0,e1,e2,e3,gl,g5,Gy,hc]|refine aB ?_|with_reducible refine bP (ako (iG g5 _) _ _) ?_|refine aA ?_ ?_<;>intro hw<;>try omega|fail
    rintro o s ⟨rfl,qu⟩;have y1:s[1]? = some (.cells [.str [],.aV,.aV,I 0,I 0,.aV]):=by rw[qu];exact mc _ _ (iG e1 _) ae
    have hs1:∀ d,(s.set 1 d)[1]? = some d:=fun d=>bw (j3 y1);repeat' first|refine cz (zA y1 hs1) ?_|refine aB ?_|refine aA ?_ ?_<;>intro hw<;>try omega|fail
    ·rw[hce (by assumption)]at Gx;rw[<-hE,Gx (by assumption)];exact gW (uY (Cu _))
    have ha0:a.2=0:=by assumption
    refine⟨(m+1,s),⟨ae,iA ha0,?_,?_,?_,.own E1 (S1.length+1) 1 0 1,?_,?_⟩,by dsimp only;omega,rfl,da,(by simp only[ha0];exact at_)⟩
    ·dsimp only;rw[qu];simp;omega
    ·intro j o hj hne;dsimp only;rw[qu];exact mc j o (iG (g4 _ _ hj hne) _) hne
    ·dsimp only;rw[qu];exact mc _ _ (iG gl _) ae
    ·dsimp only;rw[qu,List.getElem?_set_self (by simp;omega)]
    dsimp only;rw[hsc,qu];have:=Tv (S1:=S1++[aY.cells [.bool c.any,.bool c.neg,.aR false ES (c.tests.map dV)]]) (L:=S.length+1) (k:=4) (c:= .cells [.own E1 (S1++[aY.cells [.bool c.any,.bool c.neg,.aR false ES (c.tests.map dV)]]).length 1 0 1,.aV]) (s:=a.1) (by simp;omega) (by simp;omega);simpa using this
   have hqk:q≠4:=ae;repeat' first|simp (disch:=omega) only[go_sem,aJ,aK,aL,e0,e1,e2,e3,gl,g5,Gy,hc]|refine aB ?_|with_reducible refine bP (akq (iG g5 _) (iG Mh _) hqk ae _ _) ?_|refine aA ?_ ?_<;>intro hw<;>try omega|fail
   rintro o s ⟨rfl,qu⟩;have y1:s[1]? = some (.cells [.str [],.aV,.aV,I 0,I 0,.aV]):=by rw[qu];exact nB _ _ (iG e1 _) ae ae
   have hs1:∀ d,(s.set 1 d)[1]? = some d:=fun d=>bw (j3 y1);repeat' first|refine cz (zA y1 hs1) ?_|refine aB ?_|refine aA ?_ ?_<;>intro hw<;>try omega|fail
   ·rw[hce (by assumption)]at Gx;rw[<-hE,Gx (by assumption)];exact gW (uY (Cu _))
   have ha0:a.2=0:=by assumption
   refine⟨(m+1,s),⟨ae,iA ha0,?_,?_,?_,.own E1 q (xs.length+1) 0 (xs.length+1),?_,?_⟩,by dsimp only;omega,rfl,da,(by simp only[ha0];exact at_)⟩
   ·dsimp only;rw[qu];simp;omega
   ·intro j o hj hne;dsimp only;have:=j3 hj;rw[qu];exact nB j o (iG (g4 _ _ hj hne) _) hne ae
   ·dsimp only;rw[qu];exact nB _ _ (iG gl _) ae ae
   ·dsimp only;rw[qu,List.getElem?_set_self (by simp;omega)]
   dsimp only;rw[hsc,qu];exact WQ (iG Mh _) hq (Ne.symm hqk)
  obtain rfl:m=l.cells.length:=ae;have amJ:=fun {k:Nat}=>adU t.ins.length g2 (m:=k);have amK:=agw t.ins.length g2;repeat' first|simp (disch:=omega) only[go_sem,aJ,aK,aL,e0,e1,e2,e3,gl,g5,Gy]|refine aB ?_|refine aA ?_ ?_<;>intro hw<;>try omega|fail
  with_reducible refine bE [8,2,18,3,70,22] (fun q:Nat × ai=>[(70,I q.1),(9,I 0)]) (fun q=>q.2) (fun q=>q.1<=l.outs.length/\(∀ k,k<q.1->(qR l k).2=0)/\S1.length<=q.2.length/\(∀ j o,S1[j]? = some o->j≠4->q.2[j]? = some o)/\ ∃ y,q.2[4]? = some (.cells [x,y])/\vI S1.length q.2 y (tO l q.1)) (fun q=>l.outs.length-q.1) (0,_) ⟨ew _,fun k hk=>by omega,bg _,fun j o hj _=>hj,_,g5,vI.nil _ _⟩ rfl ?_ ?_
  ·exact at_
  rintro⟨m,S2⟩ rr ⟨p1,p2,p3,p4,y,p5,p6⟩;dsimp only at p1 p2 p3 p4 p5 p6;have e0:=p4 _ _ e0 ae;have e1:=p4 _ _ e1 ae;have e2:=p4 _ _ e2 ae;have e3:=p4 _ _ e3 ae;have gl:=p4 _ _ gl ae;have hS2:S.length<S2.length:=ae;by_cases hml:m<l.outs.length
  ·have cT:aS aH 80 [br (l.outs.getD m default)] (.bU [.str (qR l m).1,I (qR l m).2]):=IL _ (k4 _ (bq hml)).1 (k4 _ (bq hml)).2;have hsc:=YW l m;have qj:=Gv l m;have hce:=amJ hml p2;have iA:=fun he=>cj (q:=fun j=>(qR l j).2=0) p2 he;obtain⟨a,ha⟩:=cq (qR l m);rw[ha]at cT hsc hce iA;obtain⟨c,hc⟩:=cq (l.outs.getD m default);rw[hc,bM]at cT;obtain⟨xs,hxs⟩:=cq (tO l m);rw[hxs]at p6 hsc qj;rcases p6 with⟨rfl,rfl⟩|⟨hne,q,hq,rfl,Mh⟩
   ·have e0':=fun d=>iG e0 d;repeat' first|simp (disch:=omega) only[go_sem,aJ,aK,aL,e0,e0',e1,e2,e3,gl,p5,Gy,hc]|refine aB ?_|with_reducible refine bP (akp (iG p5 _) _ _) ?_|refine aA ?_ ?_<;>intro hw<;>try omega|fail
    rintro o s ⟨rfl,qu⟩;have y1:s[1]? = some (.cells [.str [],.aV,.aV,I 0,I 0,.aV]):=by rw[qu];exact mc _ _ (iG e1 _) ae
    have hs1:∀ d,(s.set 1 d)[1]? = some d:=fun d=>bw (j3 y1);repeat' first|refine cz (zA y1 hs1) ?_|refine aB ?_|refine aA ?_ ?_<;>intro hw<;>try omega|fail
    ·rw[hce (by assumption)]at Gx;rw[<-hE,Gx (by assumption)];exact gW (uY (Cu _))
    have ha0:a.2=0:=by assumption
    refine⟨(m+1,s),⟨ae,iA ha0,?_,?_,.own E1 (S2.length+1) 1 0 1,?_,?_⟩,by dsimp only;omega,rfl,da,(by simp only[ha0];exact at_)⟩
    ·dsimp only;rw[qu];simp;omega
    ·intro j o hj hne;dsimp only;rw[qu];exact mc j o (iG (p4 _ _ hj hne) _) hne
    ·dsimp only;rw[qu,List.getElem?_set_self (by simp;omega)]
    dsimp only;rw[hsc,qu];have:=Tv (S1:=S2++[aY.cells [I c.op,I c.v.kind,I c.v.n,.str c.v.s,.str c.s,.aR false EX (c.l.map br)]]) (L:=S1.length) (k:=4) (c:= .cells [x,.own E1 (S2++[aY.cells [I c.op,I c.v.kind,I c.v.n,.str c.v.s,.str c.s,.aR false EX (c.l.map br)]]).length 1 0 1]) (s:=a.1) (by simp;omega) (by simp;omega);simpa using this
   have hqk:q≠4:=ae;have e0':=fun d=>iG e0 d;repeat' first|simp (disch:=omega) only[go_sem,aJ,aK,aL,e0,e0',e1,e2,e3,gl,p5,Gy,hc]|refine aB ?_|with_reducible refine bP (akr (iG p5 _) (iG Mh _) hqk ae _ _) ?_|refine aA ?_ ?_<;>intro hw<;>try omega|fail
   rintro o s ⟨rfl,qu⟩;have y1:s[1]? = some (.cells [.str [],.aV,.aV,I 0,I 0,.aV]):=by rw[qu];exact nB _ _ (iG e1 _) ae ae
   have hs1:∀ d,(s.set 1 d)[1]? = some d:=fun d=>bw (j3 y1);repeat' first|refine cz (zA y1 hs1) ?_|refine aB ?_|refine aA ?_ ?_<;>intro hw<;>try omega|fail
   ·rw[hce (by assumption)]at Gx;rw[<-hE,Gx (by assumption)];exact gW (uY (Cu _))
   have ha0:a.2=0:=by assumption
   refine⟨(m+1,s),⟨ae,iA ha0,?_,?_,.own E1 q (xs.length+1) 0 (xs.length+1),?_,?_⟩,by dsimp only;omega,rfl,da,(by simp only[ha0];exact at_)⟩
   ·dsimp only;rw[qu];simp;omega
   ·intro j o hj hne;dsimp only;have:=j3 hj;rw[qu];exact nB j o (iG (p4 _ _ hj hne) _) hne ae
   ·dsimp only;rw[qu,List.getElem?_set_self (by simp;omega)]
   dsimp only;rw[hsc,qu];exact WQ (iG Mh _) hq (Ne.symm hqk)
  obtain rfl:m=l.outs.length:=ae;have aiA:=amK p2;have Sc:vI (S.length+1) S2 x (bY l l.cells.length):=g6.keep (bg _) (fun q ys hq Mh=>p4 q _ Mh ae);have hxs:=Sc.scalar;have hys:=p6.scalar;have Tk:adV S2 (.agg [x,y]) ⟨bY l l.cells.length,tO l l.outs.length⟩:=⟨x,y,rfl,Sc.keep (ew _) (fun _ _ _ h=>h),p6.keep (ew _) (fun _ _ _ h=>h)⟩;have hfit:([AV.agg [x,y]].all fun a=>AV.fits ⟨true,2⟩ a)=true:=by simp only[AV.fits,aO,bt,List.all_cons,List.all_nil,hxs,hys];rfl
  have afr:AV.fits ⟨true,2⟩ (.agg [x,y])=true:=by simpa using hfit
  have hkS:∀ (q:Nat) (o:aY),S[q]? = some o->q≠4->S2[q]? = some o:=fun q o hq hne=>p4 q o (g4 q o hq hne) hne;rcases h4 with⟨h4,rfl⟩|⟨h4,q,rs,hq,rfl,Mh,hr⟩
  ·have hap:∀ d:aY,(S2++[d])[3]? = some (Tt t .aV):=fun d=>iG e3 d;repeat' first|simp (disch:=omega) only[go_sem,aJ,aK,aL,e0,e1,e2,e3,p5,hap,hfit,afr,Gy]|refine aB ?_|refine aA ?_ ?_<;>intro hw<;>try omega|fail
   refine⟨(n+1,_),⟨ae,cj (q:=fun j=>(pT t j).2.2=0) h2 (by rw[hrow,Cv,Gy,aiA]),?_,?_,?_,?_,⟨.own ER S2.length 1 0 1,?_,?_⟩,x,y,?_⟩,by dsimp only;omega,rfl,da,at_⟩
   ·dsimp only;simp;omega
   ·exact mc _ _ e0 ae
   ·exact mc _ _ e1 ae
   ·exact mc _ _ e2 ae
   ·dsimp only;rw[List.getElem?_set_self (by simp;omega)]
   ·dsimp only;rw[EI,h4];refine .inr ⟨aQ,S2.length,[.agg [x,y]],ae,rfl,?_,oC.keep (fun q ys hq=>mc _ _ hq (fun e=>by subst e;rw[e3]at hq;cases hq)) (oC.snoc (oC.nil S2) Tk)⟩;rw[aF ae];simp
   exact mc _ _ p5 ae
  have hq3:q≠3:=ae;have e4:=hkS _ _ Mh ae;rw[xw]at e3;have hrn:rs.length=n:=by rw[hr.1,xw]
  have hap:∀ d:aY,(S2.set q d)[3]? = some (Tt t (.own ER q n 0 n)):=fun d=>by rw[aF hq3];exact e3
  repeat' first|simp (disch:=omega) only[go_sem,aJ,aK,aL,e0,e1,e2,e3,p5,hap,hfit,afr,e4,Gy,hrn]|refine aB ?_|refine aA ?_ ?_<;>intro hw<;>try omega|fail
  refine⟨(n+1,_),⟨ae,cj (q:=fun j=>(pT t j).2.2=0) h2 (by rw[hrow,Cv,Gy,aiA]),?_,?_,?_,?_,⟨.own ER q (n+1) 0 (n+1),?_,?_⟩,x,y,?_⟩,by dsimp only;omega,rfl,da,at_⟩
  ·dsimp only;simp;omega
  ·exact nB _ _ e0 ae ae
  ·exact nB _ _ e1 ae ae
  ·exact nB _ _ e2 ae ae
  ·dsimp only;rw[List.getElem?_set_self (by simp;omega)]
  ·dsimp only;rw[EI];have EK:oC S2 rs (wN t n):=hr.keep (fun q ys hq=>hkS _ _ hq (fun e=>by subst e;rw[f4]at hq;cases hq));refine .inr ⟨aQ,q,rs++[.agg [x,y]],hq,by simp[xw],?_,oC.keep (fun p ys hp=>nB _ _ hp (fun e=>by subst e;rw[e3]at hp;cases hp) (fun e=>by subst e;rw[e4]at hp;cases hp)) (oC.snoc EK Tk)⟩;rw[aF (Ne.symm hq3),bw (j3 e4)]
  exact nB _ _ p5 ae ae
 obtain rfl:n=ls.length:=ae;have hva:([AV.str t.name,.aR false EC (t.ins.map dQ),.aR false EC (t.outs.map dQ),I t.bW,I t.agg,v].all AV.scalar)=true:=by simp only[List.all_cons,List.all_nil,hvs];rfl
 have hs1:∀ o,(S.set 1 o)[1]? = some o:=fun o=>bw (j3 f1);repeat' first|refine cz (zC f0 f1 f2 (zB f3 hva hs1)) ?_|refine aB ?_|refine aA ?_ ?_<;>intro hw<;>try omega|fail
 have h5:=h4.keep (S':=S.set 1 (Tt t v)) (fun q o hq hne=>by
  rw[List.getElem?_set_ne (fun e=>by subst e;rw[f1]at hq;cases hq;exact hne _ rfl)];exact hq)
 rw[<-hE,hco h2];exact gW (uY (View.nS (.cons (.refl _ rfl) (.cons (.refl _ (kf _)) (.cons (.refl _ (kf _)) (.cons (.refl _ rfl) (.cons (.refl _ rfl) (.cons h5.view (.nil _)))))))))
def Gz{α : Type}[Inhabited α]{p : α->Bool}{l:List α}(h:∀ k,k<l.length->p (l.getD k default)=true): l.all p=true:=by
 rw[bf];intro x hx;obtain⟨i,hi,rfl⟩:=bV hx;have:=h i hi;rwa[aq,aG hi,bT]at this
def GA{α : Type}[Inhabited α]{p : α->Bool}{l:List α}{i:Nat}(hi:i<l.length)(h:p (l.getD i default)=false): l.all p=false:=by
 cases hq:l.all p with
 | false=>rfl
 | true=>rw[List.all_eq_true]at hq;rw[hq _ (bq hi)]at h;cases h
def NY(n:Nat)(s:aU): Bool:=decide (s.length<=n)
def GB(l:List aU): Bool:=decide (l.length<=10) && l.all (NY 300)
def IQ(l:List aU): aS aH 51 [iY l] (.bool (GB l)):=by
 obtain⟨E,hE⟩:=cq (GB l);rw[hE];unfold GB at hE;simp only[iY];refine a_ Nt ?_;intro Q aJ aK aL;repeat' first|refine aB ?_|refine aA ?_ ?_<;>intro hw<;>try omega|fail
 ·refine aZ ?_ rfl;rw[<-hE,cQ ae,g_]
 have h10:l.length<=10:=ae;rw[bQ h10,fF]at hE;with_reducible refine bE [2,2,7,12] (fun i:Nat=>[(3,I i)]) (fun _=>[]) (fun i=>i<=l.length/\ ∀ k,k<i->NY 300 (l.getD k default)=true) (fun i=>l.length-i) (0) ?_ ?_ ?_ ?_
 ·simp
 ·rfl
 ·exact at_
 rintro i r ⟨h1,h2⟩;by_cases hi:i<l.length
 ·have hne:=fun h=>GA (p:=NY 300) hi h;have dR:=fun he=>cj (q:=fun k=>NY 300 (l.getD k default)=true) h2 (i:=i) he;have hS:NY 300 (l.getD i default)=decide ((l.getD i default).length<=300):=rfl;rw[hS]at hne dR;repeat' first|refine aB ?_|refine aA ?_ ?_<;>intro hw<;>try omega|fail
  all_goals first
   | exact bJ
   |(refine aZ ?_ rfl;rw[<-hE,hne (cQ ae)])
   | (refine ⟨i + 1, ?_, ?_, by first | rfl | (simp [go_sem]; done), da, at_⟩ <;> (try dsimp only)
      ·exact⟨ae,dR (bQ ae)⟩
      ·omega)
 repeat' first|refine aB ?_|refine aA ?_ ?_<;>intro hw<;>try omega|fail
 refine aZ ?_ rfl;rw[<-hE,Gz (fun k hk=>h2 k ae)]
def HN(c:cV): Bool:=decide (c.name.length<=300)
def GC(l:List cV): Bool:=decide (l.length<=12) && l.all HN
def abf(l:List cV): aS aH 77 [b_ l] (.bool (GC l)):=by
 obtain⟨E,hE⟩:=cq (GC l);rw[hE];unfold GC at hE;simp only[b_];refine a_ H7 ?_;intro Q aJ aK aL;repeat' first|refine aB ?_|refine aA ?_ ?_<;>intro hw<;>try omega|fail
 ·refine aZ ?_ rfl;rw[<-hE,cQ ae,g_]
 have h10:l.length<=12:=ae;rw[bQ h10,fF]at hE;with_reducible refine bE [2,2,7,13] (fun i:Nat=>[(3,I i)]) (fun _=>[]) (fun i=>i<=l.length/\ ∀ k,k<i->HN (l.getD k default)=true) (fun i=>l.length-i) (0) ?_ ?_ ?_ ?_
 ·simp
 ·rfl
 ·exact at_
 rintro i r ⟨h1,h2⟩;by_cases hi:i<l.length
 ·have hne:=fun h=>GA (p:=HN) hi h;have dR:=fun he=>cj (q:=fun k=>HN (l.getD k default)=true) h2 (i:=i) he;have hS:HN (l.getD i default)=decide ((l.getD i default).name.length<=300):=rfl;rw[hS]at hne dR;repeat' first|refine aB ?_|refine aA ?_ ?_<;>intro hw<;>try omega|fail
  all_goals first
   | exact bJ
   |(refine aZ ?_ rfl;rw[<-hE,hne (cQ ae)])
   | (refine ⟨i + 1, ?_, ?_, by first | rfl | (simp [go_sem]; done), da, at_⟩ <;> (try dsimp only)
      ·exact⟨ae,dR (bQ ae)⟩
      ·omega)
 repeat' first|refine aB ?_|refine aA ?_ ?_<;>intro hw<;>try omega|fail
 refine aZ ?_ rfl;rw[<-hE,Gz (fun k hk=>h2 k ae)]
def rK(v:aX): Bool:=decide (v.s.length<=300)
def NZ(c:cV): Bool:=decide (c.order.length<=12) && c.order.all rK
def DU(l:List cV): Bool:=GC l && l.all NZ
def IS(l:List cV): aS aH 50 [b_ l] (.bool (DU l)):=by
 have cf:=abf l;obtain⟨E,hE⟩:=cq (DU l);rw[hE];unfold DU at hE;have h12:GC l=true->l.length<=12:=fun h=>by simp only[GC,aD,aM]at h;exact h.1
 simp only[b_]at cf |-;generalize GC l=fe at *;refine a_ Ns ?_;intro Q aJ aK aL;cases fe with
 | false =>
   repeat' first|refine aB ?_|refine aA ?_ ?_<;>intro hw<;>try omega|fail
   all_goals first
    | exact bJ
    |(refine aZ ?_ rfl;rw[<-hE,g_])
 | true =>
   rw[fF]at hE;have h12:=h12 rfl;repeat' first|refine aB ?_|refine aA ?_ ?_<;>intro hw<;>try omega|fail
   all_goals first|exact bJ|skip
   with_reducible refine bE [2,3,8,34] (fun i:Nat=>[(3,I i)]) (fun _=>[]) (fun i=>i<=l.length/\ ∀ k,k<i->NZ (l.getD k default)=true) (fun i=>l.length-i) (0) ?_ ?_ ?_ ?_
   ·simp
   ·rfl
   ·exact at_
   rintro i r ⟨h1,h2⟩;by_cases hi:i<l.length
   ·have hne:=fun h=>GA (p:=NZ) hi h;have dR:=fun he=>cj (q:=fun k=>NZ (l.getD k default)=true) h2 (i:=i) he;have hS:NZ (l.getD i default)=(decide ((l.getD i default).order.length<=12) && (l.getD i default).order.all rK):=rfl;rw[hS]at hne dR;obtain⟨c,hc⟩:=cq (l.getD i default);rw[hc]at hne dR;clear hS;repeat' first|refine cz hc ?_|refine aB ?_|refine aA ?_ ?_<;>intro hw<;>try omega|fail
    ·refine aZ ?_ rfl;rw[<-hE,hne (by rw[cQ ae,g_])]
    have ho:c.order.length<=12:=ae;rw[bQ ho,fF]at hne dR;with_reducible refine bE [2,1,4,1,21,21] (fun j:Nat=>[(4,I j)]) (fun _=>[]) (fun j=>j<=c.order.length/\ ∀ k,k<j->rK (c.order.getD k default)=true) (fun j=>c.order.length-j) (0) ?_ ?_ ?_ ?_
    ·simp
    ·rfl
    ·exact at_
    rintro j r2 ⟨g1,g2⟩;by_cases hj:j<c.order.length
    ·have aiB:=fun h=>GA (p:=rK) hj h;have lj:=fun he=>cj (q:=fun k=>rK (c.order.getD k default)=true) g2 (i:=j) he;have hS:rK (c.order.getD j default)=decide ((c.order.getD j default).s.length<=300):=rfl;rw[hS]at aiB lj;repeat' first|refine cz hc ?_|refine aB ?_|refine aA ?_ ?_<;>intro hw<;>try omega|fail
     all_goals first
      | exact bJ
      |(refine aZ ?_ rfl;rw[<-hE,hne (aiB (cQ ae))])
      | (refine ⟨j + 1, ?_, ?_, by first | rfl | (simp [go_sem]; done), da, at_⟩ <;> (try dsimp only)
         ·exact⟨ae,lj (bQ ae)⟩
         ·omega)
    repeat' first|refine cz hc ?_|refine aB ?_|refine aA ?_ ?_<;>intro hw<;>try omega|fail
    refine⟨i+1,?_,?_,by first|rfl|(simp[go_sem];done),da,at_⟩<;>(try dsimp only)
    ·exact⟨ae,dR (Gz (fun k hk=>g2 k ae))⟩
    omega
   repeat' first|refine aB ?_|refine aA ?_ ?_<;>intro hw<;>try omega|fail
   refine aZ ?_ rfl;rw[<-hE,Gz (fun k hk=>h2 k ae)]
def N0(r:ia): Bool:=GB r.cells && GB r.outs
def xx(t:Table): Bool:=decide (t.name.length<=300) && decide (t.rules.length<=26) && DU t.ins && DU t.outs && t.rules.all N0
def Vm(t:Table): aS aH 24 [dS t] (.bool (xx t)):=by
 have ci:=IS t.ins;have co:=IS t.outs;obtain⟨E,hE⟩:=cq (xx t);rw[hE];unfold xx at hE;simp only[dS,gK,b_,eR]at ci co |-;generalize DU t.ins=oi at *;generalize DU t.outs=oo at *;refine a_ JQ ?_;intro Q aJ aK aL;by_cases hb:(decide (t.name.length<=300) && decide (t.rules.length<=26) && oi && oo)=true
 case neg =>
  simp only[kF]at hb;rw[hb,g_]at hE;cases oi<;>cases oo
  all_goals
   repeat' first|refine aB ?_|refine aA ?_ ?_<;>intro hw<;>try omega|fail
  all_goals first
   | exact bJ
   |(refine aZ ?_ rfl;rw[<-hE])
   |(exfalso;simp at hb;omega)
 rw[hb,fF]at hE;simp only[aD,aM]at hb;obtain⟨⟨⟨b1,b2⟩,rfl⟩,rfl⟩:=hb;repeat' first|refine aB ?_|refine aA ?_ ?_<;>intro hw<;>try omega|fail
 all_goals first|exact bJ|skip
 with_reducible refine bE [2,2,26,25] (fun i:Nat=>[(3,I i)]) (fun _=>[.cells [.str t.name,.aR false EC (t.ins.map dQ),.aR false EC (t.outs.map dQ),I t.bW,I t.agg,.aR false ER (t.rules.map fY)]]) (fun i=>i<=t.rules.length/\ ∀ k,k<i->N0 (t.rules.getD k default)=true) (fun i=>t.rules.length-i) (0) ?_ ?_ ?_ ?_
 ·simp
 ·rfl
 ·exact at_
 rintro i r ⟨h1,h2⟩;by_cases hi:i<t.rules.length
 ·have hne:=fun h=>GA (p:=N0) hi h;have dR:=fun he=>cj (q:=fun k=>N0 (t.rules.getD k default)=true) h2 (i:=i) he;have hS:N0 (t.rules.getD i default)=(GB (t.rules.getD i default).cells && GB (t.rules.getD i default).outs):=rfl;have c1:=IQ (t.rules.getD i default).cells;have c2:=IQ (t.rules.getD i default).outs;rw[hS]at hne dR;simp only[iY]at c1 c2;generalize GB (t.rules.getD i default).cells=u1 at *;generalize GB (t.rules.getD i default).outs=u2 at *;cases u1<;>cases u2
  all_goals
   repeat' first|refine aB ?_|refine aA ?_ ?_<;>intro hw<;>try omega|fail
  all_goals first
   | exact bJ
   |(refine aZ ?_ rfl;rw[<-hE,hne rfl])
   | (refine ⟨i + 1, ?_, ?_, by first | rfl | (simp [go_sem]; done), da, at_⟩ <;> (try dsimp only)
      ·exact⟨ae,dR rfl⟩
      ·omega)
 repeat' first|refine aB ?_|refine aA ?_ ?_<;>intro hw<;>try omega|fail
 refine aZ ?_ rfl;rw[<-hE,Gz (fun k hk=>h2 k ae)]
set_option maxRecDepth 8000
def Tz(v:aX): Prop:= -9223372036854775808<=v.n/\v.n<=9223372036854775807
def YZ(l:List cV): Prop:= ∀ c ∈ l,∀ v ∈ c.order,Tz v
def JK(t:Table): Prop:=YZ t.ins/\YZ t.outs
def WR{l:List cV}(h:DU l=true)(hr:YZ l): l.length<=12/\ ∀ c ∈ l,wM c:=by
 simp only[DU,GC,aD,aM,bf]at h;obtain⟨⟨h1,h2⟩,h3⟩:=h;refine⟨h1,fun c hc=>?_⟩;have a:=h2 c hc;have b:=h3 c hc;simp only[HN,NZ,aD,aM,bf]at a b;refine⟨ae,ae,fun v hv=>⟨hr c hc v hv,?_⟩⟩;have:=b.2 v hv;simp only[rK,aM]at this;omega
def TA{l:List aU}(h:GB l=true): l.length<=10/\ ∀ s ∈ l,s.length<=300:=by
 simp only[GB,aD,aM,bf]at h;exact⟨h.1,fun s hs=>by have:=h.2 s hs;simpa[NY]using this⟩
def adX{t:Table}(h:xx t=true)(hr:JK t): j4 t:=by
 simp only[xx,aD,aM,bf]at h;obtain⟨⟨⟨⟨h1,h2⟩,h3⟩,h4⟩,h5⟩:=h;have ci:=WR h3 hr.1;have co:=WR h4 hr.2;refine⟨ae,⟨ae,ci.2⟩,⟨ae,co.2⟩,ae,fun r BY=>?_⟩;have:=h5 r BY;simp only[N0,aD]at this;have a:=TA this.1;have b:=TA this.2;exact⟨⟨ae,fun s hs=>by have:=a.2 s hs;omega⟩,ae,fun s hs=>by have:=b.2 s hs;omega⟩
def pU{α : Type}{p : α-> α->Bool}(l:List α)(h:∀ x ∈ l,p x x=true): fR p l l=true:=by
 induction l with
 | nil=>rfl
 | cons x l ih=>simp only[fR,h x aQ,fF];exact ih (fun y hy=>h y (dz _ hy))
def TC(t:Table): qJ t t=true:=by
 have hc:∀ l:List cV,fR jN l l=true:=fun l=>pU l (fun c _=>by
  unfold jN;rw[pU c.order (fun v _=>by simp)];simp)
 have hr:∀ l:List ia,fR lQ l l=true:=fun l=>pU l (fun r _=>by
  unfold lQ;rw[pU r.cells (fun v _=>by simp),pU r.outs (fun v _=>by simp)];rfl)
 unfold qJ;rw[hc,hc,hr];simp
def WS{l:List cV}(h:l.length<=2^30/\ ∀ c ∈ l,wM c): Gu l:=⟨ae,fun c hc=>(h.2 c hc).2.1⟩
def Mi{t:Table}(h:j4 t): DQ t:=⟨WS h.2.1,WS h.2.2.1,by have:=h.2.2.2.1;omega,fun r hr=>by
 have:=h.2.2.2.2 r hr;exact⟨ae,ae⟩⟩
def WT: DQ s7:=⟨⟨cW,fun c hc=>(by cases hc)⟩,⟨cW,fun c hc=>(by cases hc)⟩,cW,fun c hc=>(by cases hc)⟩
def adY{t:Table}(h:j4 t): DQ (gk t).1:=by
 by_cases he:(eC t).2.2.2=0
 ·unfold gk;rw[aj ae];split
  ·exact WT
  obtain⟨a,b,c,d⟩:=Mi h;obtain⟨h1,h2⟩:=BH h he;refine⟨a,b,?_,fun r hr=>?_⟩
  ·dsimp only;rw[xw];omega
  obtain⟨k,_,rfl⟩:=cI.1 hr;have hk:=h2 k;unfold pT;rw[Ts];refine⟨?_,?_⟩
  ·dsimp only;rw[DR];have:=hk.1.1;omega
  dsimp only;rw[Gv];have:=hk.2.1;omega
 rw[s_ he];exact WT
abbrev TK:=Int × aU × Int
def tk(t:Tok): TK:=(t.kind,t.s,t.n)
def Bs(r:aU): Prop:=r.head? = some 32
def Lx(B:aU->Prop)(s:aU)(ks:List TK): Prop:= ∀ r,B r-> ∀(f pos:Nat) (acc:List Tok),(s++r).length<f-> ∃ f' ts,r.length<f'/\tZ f (s++r) pos acc=tZ f' r (pos+s.length) (acc++ts)/\ts.map tk=ks
def Lx.nil(B:aU->Prop): Lx B [] []:=fun r _ f pos acc hf=>⟨f,[],hf,aQ,rfl⟩
def Lx.app{B1 B2:aU->Prop}{s1 s2:aU}{k1 k2:List TK}(h1:Lx B1 s1 k1)(h2:Lx B2 s2 k2)(hb:∀ r,B2 r->B1 (s2++r)): Lx B2 (s1++s2) (k1++k2):=by
 intro r hr f pos acc hf;obtain⟨f1,t1,a1,b1,c1⟩:=h1 (s2++r) (hb r hr) f pos acc (by rw[<-aT];exact hf);obtain⟨f2,t2,a2,b2,c2⟩:=h2 r hr f1 (pos+s1.length) (acc++t1) a1;refine⟨f2,t1++t2,a2,?_,by rw[fI,c1,c2]⟩;rw[aT,b1,b2,aC,aT,dG]
def Lx.weak{B B':aU->Prop}{s:aU}{ks:List TK}(h:Lx B s ks)(hb:∀ r,B' r->B r): Lx B' s ks:=fun r hr=>h r (hb r hr)
def Lx.sp(B:aU->Prop): Lx B [32] []:=by
 intro r _ f pos acc hf;obtain⟨f,rfl⟩:∃ k,f=k+1:=⟨f-1,by simp at hf;omega⟩;refine⟨f,[],by simp at hf;omega,?_,rfl⟩;rw[cJ,w_,au cW,bZ];rfl
def Lx.one{B:aU->Prop}{s:aU}{k:TK}(hs:s≠[])(h32:(s.getD 0 0).toNat≠32)(h:∀ r,B r->kM (s++r)=⟨k.1,k.2.1,k.2.2,s.length,0⟩): Lx B s [k]:=by
 intro r hr f pos acc hf;have h1:=h r hr;obtain⟨c,s',rfl⟩:∃ c s',s=c::s':=by cases s with|nil=>exact absurd rfl hs|cons c s'=>exact⟨c,s',rfl⟩
 obtain⟨f,rfl⟩:∃ k,f=k+1:=⟨f-1,by simp at hf;omega⟩;refine⟨f,[⟨k.1,k.2.1,k.2.2,pos⟩],by simp at hf;omega,?_,rfl⟩;rw[bK]at h1 |-;rw[w_,aj (by simpa using h32),h1,au rfl];simp
def Bs.cons{r:aU}(h:Bs r): ∃ r',r=32::r':=by
 cases r with
 | nil=>cases h
 | cons c r=>cases h;exact⟨r,rfl⟩
def amL(v:aX): TK:=if v.kind=1 then(2,[],v.n)else if v.kind=2 then(3,v.s,0)else if v.kind=3 then(1,if v.n=1 then AA else xk,0)else (1,L4,0)
def zE(w:Int × List TK)(lvl:Int): List TK:=if w.1<lvl then(4,[40],0)::(w.2++[(4,[41],0)])else w.2
def amM: TK:=(1,[105,102],0)
def aiC: TK:=(1,thenS,0)
def aiD: TK:=(1,HJ,0)
def aks(op:Int): TK:=(tN (fB op),(fB op).sign,0)
def akt(op:Int)(v:aX)(s:aU)(ws:List (Int × List TK)): List TK :=
 if op=1 then [amL v]else if op=2 then [(1,s,0)]
 else if op=3 then(4,[45],0)::zE (ws.getD 0 default) 6
 else if op=16 then amM::(zE (ws.getD 0 default) 0++(aiC::(zE (ws.getD 1 default) 0++(aiD::zE (ws.getD 2 default) 0))))
 else zE (ws.getD 0 default) (if(fB op).level=3 then 4 else(fB op).level)++(aks op::zE (ws.getD 1 default) ((fB op).level+1))
mutual
def adZ: Expr->List TK
 | .mk op v s l=>akt op v s (aiE l)
def aiE: List Expr->List (Int × List TK)
 | []=>[]
 | x::r=>(fT x.op,adZ x)::aiE r
end
def Mj(x:Expr)(lvl:Int): List TK:=zE (fT x.op,adZ x) lvl
def AL(T:List Tok): Nat->List TK->Prop
 | _,[]=>True
 | p,k::ks=>(p<T.length/\tk (T.getD p default)=k)/\AL T (p+1) ks
def AL.app{T:List Tok}{a b:List TK}: ∀ {p:Nat},AL T p (a++b)↔AL T p a/\AL T (p+a.length) b:=by
 induction a with
 | nil=>intro p;simp[AL]
 | cons k a ih =>
   intro p;rw[bK];simp only[AL,ih,aO];rw[show p+(a.length+1)=p+1+a.length by omega,and_assoc,and_assoc,and_assoc]
def AL.map(T:List Tok): ∀(p:Nat),p<=T.length->AL T p ((T.drop p).map tk):=by
 intro p hp
 induction hn:T.length-p generalizing p with
 | zero=>rw[List.drop_eq_nil_of_le ae];trivial
 | succ n ih =>
   have hlt:p<T.length:=ae;rw[dZ hlt,bB];refine⟨⟨hlt,?_⟩,ih (p+1) hlt ae⟩;rw[aq,aG hlt];rfl
def agx{T:List Tok}{p:Nat}(h:T.length<=p)(l:Int): zo T p false l=none:=by
 unfold zo;rw[fL];intro x _;have:qo T p (tN x) x.sign=false:=by simp only[qo,Bool.and_eq_false_iff,decide_eq_false_iff_not];left;omega
 simp[jn,this]
def DV(T:List Tok)(p lvl:Nat): Prop:= ∀ l:Nat,lvl<=l->zo T p false l=none
def DV.up{T:List Tok}{p a b:Nat}(h:DV T p a)(hab:a<=b): DV T p b:=fun l hl=>h l (cR hab hl)
def DV.end{T:List Tok}{p:Nat}(h:T.length<=p)(lvl:Nat): DV T p lvl:=fun l _=>agx h l
def Rd(T:List Tok)(x:Expr)(p q lvl:Nat): Prop:= ∀ f,8*(q-p)+(8-lvl)<=f->dM T f none lvl p=⟨x,q,false⟩
structure aoK (x:Expr):Prop where
 pos:1<=(adZ x).length
 a:∀ (T:List Tok) (p lvl:Nat) (i:Int),i=lvl->lvl<=7->AL T p (Mj x i)->DV T (p+(Mj x i).length) lvl->Rd T x p (p+(Mj x i).length) lvl
 c:∀ (T:List Tok) (p L:Nat) (i:Int),i=L->1<=L->L<=5->L≠3->AL T p (Mj x i)->DV T (p+(Mj x i).length) (L+1)-> ∀ f,8*(Mj x i).length+(8-L)<=f-> ∃ f',f<=f'+1+(Mj x i).length/\dM T f none L p=dM T f' (some x) L (p+(Mj x i).length)
 f:∀ (T:List Tok) (p lvl:Nat),1<=lvl->AL T p (Mj x lvl)->qo T p 1 [105,102]=false
def AL.le{T:List Tok}{ks:List TK}: ∀ {p:Nat},AL T p ks->p<=T.length->p+ks.length<=T.length:=by
 induction ks with
 | nil=>intro p _ hp;exact hp
 | cons k ks ih=>intro p h hp;rw[aO];have:=ih h.2 h.1.1;omega
def Ml{t:Table}{r:ia}(h:(l9 t r).2.2=0): r.cells.length=t.ins.length/\r.outs.length=t.outs.length/\(∀ j,j<r.cells.length->(rJ t r j).2=0)/\(∀ j,j<r.outs.length->(lG t r j).2=0)/\l9 t r=(⟨mR t r r.cells.length,pS t r r.outs.length⟩,0,0):=by
 by_cases hb:r.cells.length≠t.ins.length\/r.outs.length≠t.outs.length
 ·rw[Pw hb]at h;exact absurd h cW
 have h1:r.cells.length=t.ins.length:=ae;have h2:r.outs.length=t.outs.length:=ae
 have hc:∀ j,j<r.cells.length->(rJ t r j).2=0:=by
  cases hq:(List.range r.cells.length).find? (fun k=>(rJ t r k).2 != 0)with
  | some k =>
    exfalso;unfold l9 at h;rw[aj hb,hq]at h;have:=fJ hq;simp at this;exact this h
  | none =>
    intro j hj;have:=fL.1 hq j (eF.2 hj);simpa using this
 have ho:∀ j,j<r.outs.length->(lG t r j).2=0:=by
  cases hq:(List.range r.outs.length).find? (fun k=>(lG t r k).2 != 0)with
  | some k =>
    exfalso;unfold l9 at h;rw[aj hb,oB (fun j hj=>by simp[hc j hj])]at h;dsimp only at h;rw[hq]at h;have:=fJ hq;simp at this;exact this h
  | none =>
    intro j hj;have:=fL.1 hq j (eF.2 hj);simpa using this
 exact⟨h1,h2,hc,ho,Tn h1 h2 hc ho⟩
def IU{t:Table}(h:(gk t).2.2.2=0): (eC t).2.2.2=0/\(∀ j,j<(eC t).1.lines.length->(pT t j).2.2=0)/\gk t=({ t with rules:=wN t (eC t).1.lines.length },0,0,0):=by
 by_cases he:(eC t).2.2.2=0
 ·have hr : ∀ j, j < (eC t).1.lines.length -> (pT t j).2.2 = 0 := by
   cases hq:(List.range (eC t).1.lines.length).find? (fun k=>(pT t k).2.2 != 0)with
   | some k =>
     exfalso;unfold gk at h;rw[aj ae,hq]at h;have:=fJ hq;simp at this;exact this h
   | none =>
     intro j hj;have:=fL.1 hq j (eF.2 hj);simpa using this
  exact⟨he,hr,Py he hr⟩
 rw[s_ he]at h;exact absurd h he
def ko(a b:Int): Int:=if a<b then -1 else if b<a then 1 else 0
def jq(a b:aX): Int:=if ko a.kind b.kind≠0 then ko a.kind b.kind else if ko a.n b.n≠0 then ko a.n b.n else Lib.compareBytes a.s b.s
def iU: List aX->List aX->Int
 | [],[]=>0
 | [],_::_=> -1
 | _::_,[]=>1
 | a::r,b::t=>if jq a b≠0 then jq a b else iU r t
def GD(x:List aX): List (List aX)->List (List aX)
 | []=>[x]
 | y::r=>if iU x y<0 then x::y::r else y::GD x r
def yC: List (List aX)->List (List aX)->List (List aX)
 | [],acc=>acc
 | x::r,acc=>yC r (GD x acc)
inductive jE where
 | ok (v:aX)
 | err (e:Int)
deriving DecidableEq,Inhabited
def kA(n:Int): jE:=if -9223372036854775808<=n/\n<=9223372036854775807 then .ok ⟨1,n,[]⟩else .err 15
def xW(a b:Int): jE:=if b=0 then .err 16 else kA (a.tdiv b)
def fU(b:Bool): aX:=⟨3,if b then 1 else 0,[]⟩
def eu(v:aX): Bool:=decide (v.kind=0)
def qv(op a b:Int): jE:=if op=4 then kA (a+b)else if op=5 then kA (a-b)else if op=6 then kA (a*b)else xW a b
def kO(op:Int)(a b:aX): Bool:=decide (op=4) && (decide (a.kind=2) || decide (b.kind=2))
def wO(op:Int)(a b:aX): jE :=
 if !(cK a.kind (if kO op a b then 2 else 1)) || !(cK b.kind (if kO op a b then 2 else 1))then .err 14
 else if eu a || eu b then .ok v0
 else if kO op a b then(if 40<a.s.length+b.s.length then .err 5 else .ok ⟨2,0,a.s++b.s⟩)
 else qv op a.n b.n
def yD(op:Int)(a b:aX): jE :=
 if cK a.kind b.kind=false then .err 14
 else if op=8 then .ok (fU (decide (a=b)))
 else if op=9 then .ok (fU (!(decide (a=b))))
 else if a.kind=3\/b.kind=3 then .err 14
 else if eu a || eu b then .ok v0
 else if op=10 then .ok (fU (decide (jq a b<0)))
 else if op=11 then .ok (fU (decide (jq a b<=0)))
 else if op=12 then .ok (fU (decide (0<jq a b)))
 else .ok (fU (decide (0<=jq a b)))
def sn(op:Int)(a b:aX): jE :=
 if !(cK a.kind 3) || !(cK b.kind 3)then .err 14
 else if a=fU (decide (op=15))\/b=fU (decide (op=15))then .ok (fU (decide (op=15)))
 else if eu a || eu b then .ok v0
 else .ok (fU (decide (op=14)))
def N1(op:Int)(a b:aX): jE:=if op<=7 then wO op a b else if op<=13 then yD op a b else sn op a b
def N2(a:aX): jE:=if cK a.kind 1=false then .err 14 else if eu a then .ok a else kA (0-a.n)
def qS(cs:List cV)(row:List aX)(op:Int)(v:aX)(s:aU)(rs:List jE): jE :=
 if op=1 then .ok v
 else if op=2 then(if vG cs s<0 then .err 13 else .ok (row.getD (vG cs s).toNat default))
 else match rs.getD 0 default with
 | .err e=> .err e
 | .ok a => if op = 3 then N2 a
   else if op=16 then(if cK a.kind 3=false then .err 14 else if a=fU true then rs.getD 1 default else rs.getD 2 default)
   else match rs.getD 1 default with
   | .err e=> .err e
   | .ok b=>N1 op a b
mutual
def td(cs:List cV)(row:List aX): Expr->jE
 | .mk op v s l=>qS cs row op v s (IV cs row l)
def IV(cs:List cV)(row:List aX): List Expr->List jE
 | []=>[]
 | x::r=>td cs row x::IV cs row r
end
def HO(cs:List cV)(row:List aX)(l:List Expr): IV cs row l=l.map (td cs row):=by
 induction l with
 | nil=>rfl
 | cons x r ih=>simp[IV,ih]
def aiF(cs:List cV)(row:List aX){l:List Expr}{i:Nat}(h:i<l.length): (IV cs row l).getD i default=td cs row (l.getD i default):=by
 rw[HO];simp[aq,h]
def zF(row:List aX): Bool:=row.all cg
def j5(x:Expr)(cs:List cV)(row:List aX): jE:=if ef x && decide (cs.length=row.length) && zF row then td cs row x else .err 2
def uv(v:aX): Prop:=(-9223372036854775808<=v.n/\v.n<=9223372036854775807)/\v.s.length<=2^30
def iC(v:aX): Prop:=cg v=true/\uv v
def jE.good: jE->Prop
 | .ok v=>iC v
 | .err e=>e=2\/e=5\/e=13\/e=14\/e=15\/e=16
def GF: (jE.err 14).good:= .inr (.inr (.inr (.inl rfl)))
def WU(op:Int)(a b:aX)(k:Int)(hk:(if kO op a b then 2 else 1)=k): wO op a b=if cK a.kind k=true/\cK b.kind k=true then(if eu a || eu b then .ok v0 else if kO op a b then(if 40<a.s.length+b.s.length then .err 5 else .ok ⟨2,0,a.s++b.s⟩)else qv op a.n b.n)else .err 14:=by
 unfold wO;rw[hk];cases h1:cK a.kind k<;>cases h2:cK b.kind k<;>simp
def HP: iC v0:=by unfold iC uv;decide
def Mm(b:Bool): iC (fU b):=by unfold iC uv;cases b<;>decide
def Kg(n:Int): (kA n).good:=by
 unfold kA;split
 ·rename_i h;exact⟨by simp[cg],h,aQ⟩
 exact .inr (.inr (.inr (.inr (.inl rfl))))
def Y0{s:aU}: cg ⟨2,0,s⟩=mw s:=by simp[cg]
def Kh{v:aX}(h:cg v=true)(hk:v.kind=2): mw v.s=true:=by
 unfold cg at h;rw[if_neg ae,if_neg ae,if_pos hk]at h;simp only[aD]at h;exact h.2
def agy{v:aX}(h:cg v=true)(hk:v.kind=0): v=v0:=by
 obtain⟨k,n,s⟩:=v;dsimp only at hk;subst hk;rw[DG]at h;simp only[aD,aM]at h;rw[h.1,h.2];rfl
def ad0(a b:Int): (xW a b).good:=by
 unfold xW;split
 ·exact .inr (.inr (.inr (.inr (.inr rfl))))
 exact Kg _
def Y3(op a b:Int): (qv op a b).good:=by
 unfold qv;repeat' split
 all_goals first|exact Kg _|exact ad0 _ _
def abg{op:Int}{a b:aX}(ha:iC a)(hb:iC b): (wO op a b).good:=by
 obtain⟨k,hk⟩:∃ k:Int,(if kO op a b then 2 else 1)=k:=⟨_,rfl⟩;rw[WU op a b k hk];by_cases h1:cK a.kind k=true/\cK b.kind k=true
 ·rw[au h1];by_cases h2:(eu a || eu b)=true
  ·rw[au h2];exact HP
  rw[aj h2];by_cases h3:kO op a b=true
  ·rw[au h3];rw[au h3]at hk;subst hk;by_cases h4:40<a.s.length+b.s.length
   ·rw[au h4];exact .inr (.inl rfl)
   rw[aj h4];simp only[eu,cK,cN,aM,not_or]at h1 h2;have ka:a.kind=2:=ae;have kb:b.kind=2:=ae;have pa:=Kh ha.1 ka;have pb:=Kh hb.1 kb;refine⟨?_,⟨by show(-9223372036854775808:Int)<=0;decide,by show(0:Int)<=9223372036854775807;decide⟩,by simp only[aC];omega⟩;rw[Y0];unfold mw at pa pb |-;simp only[aD,aM,List.all_append,aC]at pa pb |-;exact⟨ae,pa.2,pb.2⟩
  rw[aj h3];exact Y3 _ _ _
 rw[aj h1];exact GF
def abh{op:Int}{a b:aX}: (yD op a b).good:=by
 unfold yD;repeat' split
 all_goals first|exact Mm _|exact HP|exact GF
def Vn{op:Int}{a b:aX}: (sn op a b).good:=by
 unfold sn;repeat' split
 all_goals first|exact Mm _|exact HP|exact GF
def ad1{op:Int}{a b:aX}(ha:iC a)(hb:iC b): (N1 op a b).good:=by
 unfold N1;repeat' split
 all_goals first|exact abg ha hb|exact abh|exact Vn
def ad2{a:aX}(ha:iC a): (N2 a).good:=by
 unfold N2;split
 ·exact GF
 split
 ·exact ha
 exact Kg _
def TD{l:List cV}{s:aU}: vG l s<l.length:=WD _ _
def abi{cs:List cV}{row:List aX}{op:Int}{v:aX}{s:aU}{rs:List jE}(hl:cs.length=row.length)(hrow:∀ w ∈ row,iC w)(hv:op=1->iC v)(h1:op≠1->op≠2->(rs.length:Int)=kg op)(h:∀ r ∈ rs,r.good): (qS cs row op v s rs).good:=by
 unfold qS;split
 ·rename_i e;exact hv e
 split
 ·split
  ·exact .inr (.inr (.inl rfl))
  rename_i h3;have:=TD (l:=cs) (s:=s);exact hrow _ (bq ae)
 rename_i o1 o2;have hc:=rF (h1 o1 o2) o1 o2;have at_:∀ i,i<rs.length->(rs.getD i default).good:=fun i hi=>h _ (bq hi);have g0:=at_ 0 ae;split
 ·rename_i e he;rw[he]at g0;exact g0
 rename_i a he;rw[he]at g0;split
 ·exact ad2 g0
 split
 ·split
  ·exact GF
  split
  ·exact at_ 1 ae
  exact at_ 2 ae
 have g1:=at_ 1 ae;split
 ·rename_i e hb;rw[hb]at g1;exact g1
 rename_i b hb;rw[hb]at g1;exact ad1 g0 g1
def DW{l:List Expr}(h:sZ l=true){y:Expr}(hy:y ∈ l): ef y=true:=by
 induction l with
 | nil=>cases hy
 | cons x r ih =>
   simp only[sZ,aD]at h;rcases List.mem_cons.1 hy with rfl|hy
   ·exact h.1
   exact ih h.2 hy
def TE{cs:List cV}{row:List aX}(hl:cs.length=row.length)(hrow:∀ w ∈ row,iC w)(x:Expr): ef x=true->jj x->(td cs row x).good:=by
 induction x using Expr.ind with
 | h op v s l ih =>
   intro hr hx;simp only[ef,aD,aM]at hr;simp only[jj]at hx;simp only[td];refine abi hl hrow (fun e=>?_) (fun _ _=>by rw[HO,cZ];exact hr.1) (fun r hr'=>?_)
   ·have h2:=hr.2;rw[au e]at h2;simp only[aD]at h2;refine⟨h2.1.2,⟨hx.2.2.1,hx.2.2.2.1⟩,?_⟩;have:=h2.1.2;by_cases k2:v.kind=2
    ·have:=Kh this k2;unfold mw at this;simp only[aD,aM]at this;omega
    have:v.s=[]:=by
     obtain⟨vk,vn,vs⟩:=v;dsimp only at k2 this |-;by_cases k0:vk=0
     ·subst k0;rw[DG]at this;simp at this;exact this.2
     by_cases k1:vk=1
     ·subst k1;rw[J3]at this;simpa using this
     by_cases k3:vk=3
     ·subst k3;rw[J4]at this;simp at this;exact this.1
     rw[SL _ _ _ k0 k1 k2 k3]at this;cases this
    rw[this];simp
   rw[HO]at hr';obtain⟨y,hy,rfl⟩:=cI.1 hr';refine ih y hy ?_ (Cm hx.2.2.2.2 hy);have h2:=hr.2;have hne:l≠[]:=fun e=>by rw[e]at hy;cases hy
   have hlen:0<l.length:=iR.2 hne;have n1:op≠1:=fun e=>by subst e;have:=hr.1;simp[kg]at this;exact hne (by simpa using this)
   have n2:op≠2:=fun e=>by subst e;have:=hr.1;simp[kg]at this;exact hne (by simpa using this)
   rw[aj n1,aj n2]at h2;simp only[aD]at h2;exact DW h2.2 hy
def pV{cs:List cV}{row:List aX}(hrow:∀ w ∈ row,uv w){x:Expr}(hx:jj x): (j5 x cs row).good:=by
 unfold j5;split
 ·rename_i h;simp only[aD,aM]at h;exact TE h.1.2 (fun w hw=>⟨bf.1 h.2 w hw,hrow w hw⟩) x h.1.1 hx
 exact .inl rfl
def jE.AN(k:Int): jE->Prop
 | .ok v=>v.kind=0\/v.kind=k
 | .err _=>True
def WV(n:Int): (kA n).AN 1:=by
 unfold kA;split
 ·exact .inr rfl
 trivial
def abj(op a b:Int): (qv op a b).AN 1:=by
 unfold qv xW;repeat' split
 all_goals first|exact WV _|trivial
def Pz{cs:List cV}: ∀ {l:List Expr} {ks:List Int},lF cs l=(ks,0)->ks.length=l.length/\ ∀ i,i<l.length->jZ cs (l.getD i default)=(ks.getD i 0,0)
 | [], ks, h => by
   simp only[lF,Prod.mk.injEq]at h;obtain⟨rfl,_⟩:=h;exact⟨rfl,fun i hi=>absurd hi (dm _)⟩
 | x :: r, ks, h => by
   simp only[lF]at h;split at h
   ·rename_i hx;simp only[Prod.mk.injEq]at h;exact absurd h.2 hx
   split at h
   ·rename_i hx;simp only[Prod.mk.injEq]at h;exact absurd h.2 hx
   rename_i h1 h2;simp only[Prod.mk.injEq,and_true]at h;subst h;have ih:=Pz (cs:=cs) (l:=r) (ks:=(lF cs r).1) (Prod.ext rfl (by simpa using h2));refine⟨by simp[ih.1],fun i hi=>?_⟩;cases i with
   | zero=>exact Prod.ext rfl (by simpa using h1)
   | succ i=>simpa using ih.2 i (by simpa using hi)
def GG{op:Int}{a b:aX}{k:Int}(ht:kO op a b=true->k=2)(hf:kO op a b=false->(eu a || eu b)=false->k=1): (wO op a b).AN k:=by
 obtain⟨c,hk⟩:∃ c:Int,(if kO op a b then 2 else 1)=c:=⟨_,rfl⟩;rw[WU op a b c hk];by_cases h1:cK a.kind c=true/\cK b.kind c=true
 ·rw[au h1];by_cases h2:(eu a || eu b)=true
  ·rw[au h2];exact .inl rfl
  rw[aj h2];cases h3:kO op a b with
  | true =>
    rw[au rfl,ht h3];by_cases h4:40<a.s.length+b.s.length
    ·rw[au h4];trivial
    rw[aj h4];exact .inr rfl
  | false =>
    rw[aj cW,hf h3 (by simpa using h2)];exact abj _ _ _
 rw[aj h1];trivial
def ad3{op:Int}{a b:aX}{k1 k2:Int}(ha:a.kind=0\/a.kind=k1)(hb:b.kind=0\/b.kind=k2)(h3:4<=op)(h7:op<=7)(h:(lP op [k1,k2]).2=true): (wO op a b).AN (lP op [k1,k2]).1:=by
 have hu:lP op [k1,k2]=if op=4 then(if oP k1 k2=2 then(2,[k1,k2].all fun k=>cK k 2)else (1,[k1,k2].all fun k=>cK k 1))else (1,[k1,k2].all fun k=>cK k 1):=by
  unfold lP;by_cases h4:op=4
  ·subst h4;simp
  rw[au ae,aj h4]
 rw[hu]at h |-;by_cases h4:op=4
 ·rw[au h4]at h |-;by_cases ho:oP k1 k2=2
  ·rw[au ho]at h |-;simp only[List.all_cons,List.all_nil,iQ,aD,cK,cN,aM]at h;refine GG (fun _=>rfl) (fun ht hn=>?_);exfalso;simp only[kO,eu,Bool.and_eq_false_iff,Bool.or_eq_false_iff,decide_eq_false_iff_not]at ht hn;omega
  rw[aj ho]at h |-;simp only[List.all_cons,List.all_nil,iQ,aD,cK,cN,aM]at h;refine GG (fun ht=>?_) (fun _ _=>rfl);exfalso;simp only[kO,aD,cN,aM]at ht;omega
 rw[aj h4]at h |-;exact GG (fun ht=>by simp[kO,h4]at ht) (fun _ _=>rfl)
def afs(b:Bool): (jE.ok (fU b)).AN 3:= .inr rfl
def afu(k:Int): (jE.ok v0).AN k:= .inl rfl
def afv(k e:Int): (jE.err e).AN k:=trivial
def ad4(op:Int)(a b:aX): (yD op a b).AN 3:=by
 unfold yD;repeat' split
 all_goals first|exact afs _|exact afu _|exact afv _ _
def Y4(op:Int)(a b:aX): (sn op a b).AN 3:=by
 unfold sn;repeat' split
 all_goals first|exact afs _|exact afu _|exact afv _ _
def agz{cs:List cV}{row:List aX}(hrow:∀ i,i<cs.length->(row.getD i default).kind=0\/(row.getD i default).kind=(cs.getD i default).kind)(x:Expr): ∀ k,ef x=true->jZ cs x=(k,0)->(td cs row x).AN k:=by
 induction x using Expr.ind with
 | h op v s l ih =>
   intro k hr hk;simp only[ef,aD,aM]at hr;simp only[jZ]at hk;simp only[td];unfold qS;by_cases o1:op=1
   ·rw[au o1]at hk |-;simp only[Prod.mk.injEq,and_true]at hk;exact .inr hk
   rw[aj o1]at hk |-;by_cases o2:op=2
   ·rw[au o2]at hk |-;split at hk
    ·simp at hk
    rename_i h3;rw[aj h3];simp only[Prod.mk.injEq,and_true]at hk;have:=TD (l:=cs) (s:=s);have:=hrow (vG cs s).toNat ae;rw[hk]at this;exact this
   rw[aj o2]at hk |-;have EK:=hr.2;rw[aj o1,aj o2]at EK;simp only[aD]at EK;split at hk
   case isFalse h=>simp only[Prod.mk.injEq]at hk;exact absurd hk.2 h
   rename_i hz;obtain⟨hl,hat⟩:=Pz (cs:=cs) (l:=l) (ks:=(lF cs l).1) (Prod.ext rfl hz);generalize (lF cs l).1=ks at hk hl hat
   have hc:=rF hr.1 o1 o2
   have ihk:∀ i,i<l.length->((IV cs row l).getD i default).AN (ks.getD i 0):=fun i hi=>by
    rw[aiF cs row hi];exact ih _ (bq hi) _ (DW EK.2 (bq hi)) (hat i hi)
   unfold Yy at hk;split at hk
   case isFalse h=>simp at hk
   rename_i ht;simp only[Prod.mk.injEq,and_true]at hk;subst hk;have g0:=ihk 0 ae;split
   ·trivial
   rename_i a he;rw[he]at g0;have g0:a.kind=0\/a.kind=ks.getD 0 0:=g0;by_cases o3:op=3
   ·rw[au o3];have:(lP op ks).1=1:=by unfold lP;rw[if_pos (.inl o3)]
    rw[this];unfold N2;split
    ·trivial
    split
    ·rename_i h1 h2;exact .inl (by simpa[eu]using h2)
    exact WV _
   rw[aj o3];by_cases o16:op=16
   ·subst o16;rw[au rfl];have g1:=ihk 1 ae;have g2:=ihk 2 ae
    have ht':cK (ks.getD 1 0) (ks.getD 2 0)=true:=by
     simp[lP]at ht;exact ht.2
    have e1:(lP 16 ks).1=oP (ks.getD 1 0) (ks.getD 2 0):=by simp[lP]
    rw[e1];simp only[cK,cN,aM]at ht'
    have m1:((IV cs row l).getD 1 default).AN (oP (ks.getD 1 0) (ks.getD 2 0)):=by
     revert g1;cases (IV cs row l).getD 1 default with
     | err=>intro _;trivial
     | ok v =>
       intro g1;have g1:v.kind=0\/v.kind=ks.getD 1 0:=g1;show v.kind=0\/v.kind=oP _ _;unfold oP;split<;>omega
    have m2:((IV cs row l).getD 2 default).AN (oP (ks.getD 1 0) (ks.getD 2 0)):=by
     revert g2;cases (IV cs row l).getD 2 default with
     | err=>intro _;trivial
     | ok v =>
       intro g2;have g2:v.kind=0\/v.kind=ks.getD 2 0:=g2;show v.kind=0\/v.kind=oP _ _;unfold oP;split<;>omega
    by_cases hf:cK a.kind 3=false
    ·rw[au hf];trivial
    rw[aj hf];by_cases ha:a=fU true
    ·rw[au ha];exact m1
    rw[aj ha];exact m2
   rw[aj o16];have g1:=ihk 1 ae
   obtain⟨k1,k2,rfl⟩:∃ k1 k2,ks=[k1,k2]:=by
    match ks,hl with
    | [a,b],_=>exact⟨a,b,rfl⟩
    | [],h=>simp at h;omega
    | [a],h=>simp at h;omega
    | a::b::c::r,h=>simp at h;omega
   split
   ·trivial
   rename_i b hb;rw[hb]at g1;have g1:b.kind=0\/b.kind=k2:=g1;unfold N1;by_cases h7:op<=7
   ·rw[au h7];exact ad3 g0 g1 ae h7 ht
   rw[aj h7];by_cases h13:op<=13
   ·rw[au h13]
    have:(lP op [k1,k2]).1=3:=by
     unfold lP;rw[aj ae,aj ae];by_cases h8:op=8\/op=9
     ·rw[au h8]
     rw[aj h8,au ae]
    rw[this];exact ad4 _ _ _
   rw[aj h13]
   have:(lP op [k1,k2]).1=3:=by
    unfold lP;rw[aj ae,aj ae,aj ae,aj ae,au ae]
   rw[this];exact Y4 _ _ _
def uZ(t:Test)(v a b:aX): Bool :=
 if t.kind=1 then decide (v=a)
 else if eu v || eu a || eu b then false
 else if t.kind=2 then decide (jq v a<0)
 else if t.kind=3 then decide (jq v a<=0)
 else if t.kind=4 then decide (0<jq v a)
 else if t.kind=5 then decide (0<=jq v a)
 else(decide (0<jq v a) ||(decide (jq v a=0) && !t.lo)) && (decide (jq v b<0) ||(decide (jq v b=0) && !t.hi))
def zG(t:Test)(v a b:aX): Bool × Int:=if oT t v.kind a.kind && oT t v.kind b.kind then(uZ t v a b,0)else (false,14)
def u0(cs:List cV)(row:List aX)(v:aX)(t:Test): Bool × Int:=match j5 t.a cs row with
 | .err e=>(false,e)
 | .ok a => if t.kind = 6 then (match j5 t.b cs row with
   | .err e=>(false,e)
   | .ok b=>zG t v a b)else zG t v a a
def u7(cs:List cV)(row:List aX)(v:aX)(any neg:Bool): List Test->Bool × Int
 | []=>(any || neg,0)
 | t::r=>if(u0 cs row v t).2≠0 then(false,(u0 cs row v t).2)else if(u0 cs row v t).1 then(!neg,0)else u7 cs row v any neg r
def nH(c:Cell)(v:aX)(cs:List cV)(row:List aX): Bool × Int :=
 if jH c && cg v && decide (cs.length=row.length) && zF row then u7 cs row v c.any c.neg c.tests else(false,2)
def nI(cs:List cV)(row:List aX): List Cell->Nat->Bool × Int
 | [],_=>(true,0)
 | c::r,k=>if(nH c (row.getD k default) cs row).2≠0\/(nH c (row.getD k default) cs row).1=false then(false,(nH c (row.getD k default) cs row).2)else nI cs row r (k+1)
def mB(ins:List cV)(row:List aX): Bool:=decide (row.length=ins.length) && (List.range row.length).all fun i=>cg (row.getD i default) && cK (row.getD i default).kind (ins.getD i default).kind
def tg(GH:Int)(cs:List cV)(row:List aX): List kL->Nat->List Int->List Int × Int × Int
 | [],_,acc=>(acc,0,0)
 | l :: r, k, acc => if (nI cs row l.cells 0).2 ≠ 0 then ([], k, (nI cs row l.cells 0).2)
   else if(nI cs row l.cells 0).1 then(if GH=2 then([(k:Int)],0,0)else tg GH cs row r (k+1) (acc++[(k:Int)]))
   else tg GH cs row r (k+1) acc
def eK(r:Ready)(row:List aX): List Int × Int × Int :=
 if mB r.table.ins row then tg r.table.bW r.table.ins row r.lines 0 []else ([],0,21)
def jJ(cs:List cV)(row:List aX): List Expr->List aX->List aX × Int
 | [],acc=>(acc,0)
 | x :: r, acc => match j5 x cs row with
   | .err e=>([],e)
   | .ok v=>jJ cs row r (acc++[v])
def me(r:Ready)(row:List aX): List Int->List (List aX)->List (List aX) × Int × Int
 | [],acc=>(acc,0,0)
 | i :: q, acc => if (jJ r.table.ins row (r.lines.getD i.toNat default).outs []).2 ≠ 0 then ([], i, (jJ r.table.ins row (r.lines.getD i.toNat default).outs []).2)
   else me r row q (acc++[(jJ r.table.ins row (r.lines.getD i.toNat default).outs []).1])
def k9(c:cV)(v:aX): Int:=if kW (fun x=>x==v) c.order<0 then c.order.length else kW (fun x=>x==v) c.order
def xy: List cV->List aX->List aX->Bool
 | c::cs,a::r,b::t=>if k9 c a≠k9 c b then decide (k9 c a<k9 c b)else xy cs r t
 | _,_,_=>false
def qx(outs:List cV)(rows:List (List aX)): List (List aX)->Nat->Nat->Nat
 | [],_,best=>best
 | a::r,i,best=>qx outs rows r (i+1) (if xy outs a (rows.getD best default)then i else best)
def BI: List aX->Int->jE
 | [],n=> .ok ⟨1,n,[]⟩
 | v :: r, n => match kA (n + v.n) with
   | .err e=> .err e
   | .ok w=>BI r w.n
def qy: List aX->aX->aX
 | [],m=>m
 | v::r,m=>qy r (if jq v m<0 then v else m)
def u_: List aX->aX->aX
 | [],m=>m
 | v::r,m=>u_ r (if 0<jq v m then v else m)
def kP(rows:List (List aX)): List aX:=(rows.map fun r=>r.getD 0 default).filter fun v=> !(eu v)
def mS(agg:Int)(rows:List (List aX)): jE :=
 if agg=4 then .ok ⟨1,rows.length,[]⟩
 else match kP rows with
 | []=> .ok v0
 | m::l=>if agg=1 then BI (m::l) 0 else if agg=2 then .ok (qy l m)else .ok (u_ l m)
structure ve where
 err:Int
 rules:List Int
 rows:List (List aX)
deriving Inhabited
def Cw(rows:List (List aX)): Bool:=rows.any fun r=> !(fR (fun a b=>a==b) r (rows.getD 0 default))
def nX(t:Table)(rules:List Int)(rows:List (List aX)): ve :=
 if t.bW=5 then(if t.agg=0 then⟨0,rules,yC rows []⟩else match mS t.agg rows with
  | .err e=>⟨e,rules,[]⟩
  | .ok v=>⟨0,rules,[[v]]⟩)
 else if t.bW=4 then(if Cw rows then⟨20,rules,[]⟩else ⟨0,rules,rows.take 1⟩)
 else if t.bW=6 then⟨0,rules,rows⟩
 else if rules=[]then ⟨0,[],[]⟩
 else if t.bW=3 then⟨0,[rules.getD (qx t.outs rows rows 0 0) default],[rows.getD (qx t.outs rows rows 0 0) default]⟩
 else⟨0,[rules.getD 0 default],[rows.getD 0 default]⟩
def jw(r:Ready)(row:List aX): ve × Int :=
 if(eK r row).2.2=21 then(⟨0,[],[]⟩,21)
 else if(eK r row).2.2≠0 then(⟨(eK r row).2.2,[(eK r row).2.1],[]⟩,0)
 else if r.table.bW=1/\1<(eK r row).1.length then(⟨19,(eK r row).1,[]⟩,0)
 else if(me r row (eK r row).1 []).2.2≠0 then(⟨(me r row (eK r row).1 []).2.2,[(me r row (eK r row).1 []).2.1],[]⟩,0)
 else(nX r.table (eK r row).1 (me r row (eK r row).1 []).1,0)
def rL(e:Int): AV:= .kZ 27 (I e)
def sK: jE->Out
 | .ok v=> .ret (c8 v)
 | .err e=> .panic (rL e)
def eS{r:jE}: ∀ v,sK r = .panic v->v.flat=true:=by
 intro v h;cases r with
 | ok v=>cases h
 | err e=>cases h;rfl
def agA{n:FuncId}{args:List AV}{σ : ai}{K Kp:AV->ai->Prop}{r:jE}(h:dF aH n args (sK r))(k1:∀ v,r = .ok v->jS (c8 v) (.mk:Tg fun r=>K r σ))(k2:∀ e,r = .err e->Kp (rL e) σ): oQ Tryz.prog n args σ (.mk:Tg (K,Kp)):=by
 cases r with
 | ok v=>exact yL h (k1 v rfl)
 | err e=>exact Nk h (k2 e rfl)
def agB{n:FuncId}{args:List AV}{σ : ai}{K Kp:AV->ai->Prop}{r:jE}(h:dF aH n args (sK r))(k1:∀ v,r = .ok v->jS (c8 v) (.mk:Tg fun r=>K r σ))(k2:∀ e,r = .err e-> ∀ s,Kp (rL e) s): Rh Tryz.prog n args σ (.mk:Tg (K,Kp)):=by
 cases r with
 | ok v=>exact Wr h (k1 v rfl)
 | err e=>exact Nl h (k2 e rfl)
def Cx {n : FuncId} {args : List AV} {r : jE} {K1 : aX -> Prop} {K2 : Int -> Prop} {G : Prop} (h : dF aH n args (sK r)) (k1 : ∀ v, r = .ok v -> K1 v) (k2 : ∀ e, r = .err e -> K2 e)
    (hg : dF aH n args (sK r) -> (∀ v, r = .ok v -> K1 v) -> (∀ e, r = .err e -> K2 e) -> G := by
      intro h k1 k2;with_reducible first|exact agA h k1 k2|exact agB h k1 k2):G:=hg h k1 k2
def Cy {n : FuncId} {args : List AV} {v : AV} {K G : Prop} (h : dF aH n args (.panic v)) (k : K) (hg : dF aH n args (.panic v) -> K -> G := by
    intro h k;with_reducible first|exact Nk h k|exact Nl h k):G:=hg h k
def TF {n : FuncId} {args' : List AV} {v : AV} {K G : Prop} (h : dF aH n args' (.panic v)) (k : K) (hg : dF aH n args' (.panic v) -> K -> G := by
    intro h k;with_reducible first|refine Nk (h.weak ?_) k|refine Nl (h.weak ?_) k
    exact vw_):G:=hg h k
def j6{σ : ai}{v:AV}{r:jE}{u:aX}(h:r = .ok u)(hv:v=c8 u): ac9 σ (.ret (oneOf [v])) (sK r):=by
 subst h;subst hv;exact View.refl _ (Dz u)
def iH{σ : ai}{r:jE}{e:Int}(h:r = .err e): ac9 σ (.panic (rL e)) (sK r):=by subst h;exact rfl
def pW(e:Int)(h:e≠0): dF aH 259 [I e] (.panic (rL e)):=by
 refine dF.of_nil (EB.go ?_) rfl rfl;unfold dP;intro Q aJ aK aL;repeat' first|refine aB ?_|refine aA ?_ ?_<;>intro hw<;>try omega|fail
 all_goals first|(simp only[go_sem,aL];done)|exact bJ|rfl
def Vo: aS aH 259 [I 0] (.bU []):=by
 refine a_ EB ?_;intro Q aJ aK aL;repeat' first|refine aB ?_|refine aA ?_ ?_<;>intro hw<;>try omega|fail
 all_goals first|exact bJ|exact⟨_,rfl,.refl _ rfl⟩
def Rk(n e:Int): jE:=if e=0 then .ok ⟨1,n,[]⟩else .err e
def tj(n e:Int): dF aH 230 [I n,I e] (sK (Rk n e)):=by
 unfold Rk;by_cases h:e=0
 ·subst h;rw[au rfl];refine a_ Cb ?_;intro Q aJ aK aL;repeat' first|refine aB ?_|refine eU Vo ?_|refine aA ?_ ?_<;>intro hw<;>try omega|fail
  exact aZ rfl rfl
 rw[aj h];refine dF.of_nil (Cb.go ?_) rfl rfl;unfold dP;intro Q aJ aK aL;repeat' first|refine aB ?_|refine Cy (pW e h) ?_|refine aA ?_ ?_<;>intro hw<;>try omega|fail
 all_goals first|(simp only[go_sem,aL];done)|exact bJ|rfl
def numOf: jE->Int
 | .ok v=>v.n
 | .err _=>0
def pX: jE->Int
 | .ok _=>0
 | .err e=>e
def isNum: jE->Prop
 | .ok v=>v=⟨1,v.n,[]⟩
 | .err e=>e≠0
def WW{r:jE}(h:isNum r): Rk (numOf r) (pX r)=r:=by
 unfold Rk;cases r with
 | ok v =>
   simp only[pX,numOf,if_true];exact aW jE.ok h.symm
 | err e =>
   have h:e≠0:=h;exact aj h
def GI(n:Int): isNum (kA n):=by unfold kA;split<;>simp[isNum]
def abk(a b:Int): isNum (xW a b):=by
 unfold xW;split
 ·simp[isNum]
 exact GI _
def Vp(op a b:Int): isNum (qv op a b):=by
 unfold qv;repeat' split
 all_goals first|exact GI _|exact abk _ _
def Cz{n:Int}(h : -9223372036854775808<=n/\n<=9223372036854775807): kA n = .ok ⟨1,n,[]⟩:=au h
def zH{n:Int}(h:¬ (-9223372036854775808<=n/\n<=9223372036854775807)): kA n = .err 15:=aj h
def kX(n:Int): Prop:= -9223372036854775808<=n/\n<=9223372036854775807
def PA{n:Int}(h:9223372036854775807<n)(h':n<=18446744073709551615): dw .i64 n=n-18446744073709551616:=by
 show IntKind.wrap .i64 n=_;simp only[IntKind.wrap,IntKind.bits,IntKind.signed];simp;omega
def Mn{n:Int}(h:n < -9223372036854775808)(h' : -18446744073709551616<=n): dw .i64 n=n+18446744073709551616:=by
 show IntKind.wrap .i64 n=_;simp only[IntKind.wrap,IntKind.bits,IntKind.signed];simp;omega
def TG(a b:Int)(ha:kX a)(hb:kX b): aS aH 267 [I a,I b] (.bU [I (numOf (kA (a+b))),I (pX (kA (a+b)))]):=by
 unfold kX at ha hb;by_cases h : -9223372036854775808<=a+b/\a+b<=9223372036854775807
 ·rw[Cz h];refine a_ Bn ?_;intro Q aJ aK aL;repeat' first|refine aB ?_|refine aA ?_ ?_<;>intro hw<;>try omega|fail
  all_goals first|exact cn rfl rfl|exact bJ
 rw[zH h];by_cases h1:9223372036854775807<a+b
 ·have hwr:=PA h1 ae;refine a_ Bn ?_;intro Q aJ aK aL;repeat' first|refine cz hwr ?_|refine aB ?_|refine aA ?_ ?_<;>intro hw<;>try omega|fail
  all_goals first|exact cn rfl rfl|exact bJ
 have hwr:=Mn (n:=a+b) ae ae;refine a_ Bn ?_;intro Q aJ aK aL;repeat' first|refine cz hwr ?_|refine aB ?_|refine aA ?_ ?_<;>intro hw<;>try omega|fail
 all_goals first|exact cn rfl rfl|exact bJ
def TH(a b:Int)(ha:kX a)(hb:kX b): aS aH 231 [I a,I b] (.bU [I (numOf (kA (a-b))),I (pX (kA (a-b)))]):=by
 unfold kX at ha hb;by_cases h : -9223372036854775808<=a-b/\a-b<=9223372036854775807
 ·rw[Cz h];refine a_ Bp ?_;intro Q aJ aK aL;repeat' first|refine aB ?_|refine aA ?_ ?_<;>intro hw<;>try omega|fail
  all_goals first|exact cn rfl rfl|exact bJ
 rw[zH h];by_cases h1:9223372036854775807<a-b
 ·have hwr:=PA h1 ae;refine a_ Bp ?_;intro Q aJ aK aL;repeat' first|refine cz hwr ?_|refine aB ?_|refine aA ?_ ?_<;>intro hw<;>try omega|fail
  all_goals first|exact cn rfl rfl|exact bJ
 have hwr:=Mn (n:=a-b) ae ae;refine a_ Bp ?_;intro Q aJ aK aL;repeat' first|refine cz hwr ?_|refine aB ?_|refine aA ?_ ?_<;>intro hw<;>try omega|fail
 all_goals first|exact cn rfl rfl|exact bJ
def ad5{a b:Int}(ha:kX a)(hb:b≠0)(h:¬ (a = -9223372036854775808/\b = -1)): kX (a.tdiv b):=by
 unfold kX at *;by_cases h1:b = -1
 ·subst h1;rw[Int.tdiv_neg,Int.tdiv_one];omega
 by_cases h2:b=1
 ·subst h2;rw[Int.tdiv_one];exact ha
 have:=Int.natAbs_tdiv_le_natAbs a b
 have h3:(a.tdiv b).natAbs<=a.natAbs / 2:=by
  rw[Int.natAbs_tdiv];exact Nat.div_le_div_left ae ae
 omega
def ad6(a b:Int)(ha:kX a)(hb:kX b): aS aH 284 [I a,I b] (.bU [I (numOf (xW a b)),I (pX (xW a b))]):=by
 by_cases h0:b=0
 ·subst h0;have e:xW a 0 = .err 16:=rfl;rw[e];refine a_ Bo ?_;intro Q aJ aK aL;repeat' first|refine aB ?_|refine aA ?_ ?_<;>intro hw<;>try omega|fail
  all_goals first|exact cn rfl rfl|exact bJ
 have e:xW a b=kA (a.tdiv b):=aj h0;rw[e];by_cases h:a = -9223372036854775808/\b = -1
 ·obtain⟨rfl,rfl⟩:=h;rw[zH cW];refine a_ Bo ?_;intro Q aJ aK aL;repeat' first|refine aB ?_|refine aA ?_ ?_<;>intro hw<;>try omega|fail
  all_goals first|exact cn rfl rfl|exact bJ
 have hr:=ad5 ha h0 h;have hwr:dw .i64 (a.tdiv b)=a.tdiv b:=FK hr.1 hr.2;rw[Cz hr];unfold kX at ha hb;refine a_ Bo ?_;intro Q aJ aK aL;repeat' first|refine cz hwr ?_|refine aB ?_|refine aA ?_ ?_<;>intro hw<;>try omega|fail
 all_goals first|exact cn rfl rfl|exact cn (aW (fun z=>[AV.int .i64 z,AV.int .i64 0]) hwr) rfl|skip
def aiG(a:Int)(h:0<=a)(h':a<=9223372036854775808): dw .u64 a=a:=by
 show IntKind.wrap .u64 a=_;simp only[IntKind.wrap,IntKind.bits,IntKind.signed];simp;omega
def agC(a:Int)(h:a<0)(h' : -9223372036854775808<=a): dw .u64 a=a+18446744073709551616:=by
 show IntKind.wrap .u64 a=_;simp only[IntKind.wrap,IntKind.bits,IntKind.signed];simp;omega
def PB(a:Int)(ha:kX a): aS aH 299 [I a] (.int .u64 (a.natAbs:Int)):=by
 unfold kX at ha;by_cases h:a<0
 ·have e1:=agC a h ha.1
  have e2:dw .u64 (0-(a+18446744073709551616)) = -a:=by
   show IntKind.wrap .u64 _=_;simp only[IntKind.wrap,IntKind.bits,IntKind.signed];simp;omega
  have e3:(a.natAbs:Int) = -a:=ae;rw[e3];refine a_ F2 ?_;intro Q aJ aK aL;repeat' first|refine cz (zA e1 e2) ?_|refine aB ?_|refine aA ?_ ?_<;>intro hw<;>try omega|fail
  all_goals first|exact aZ rfl rfl|(rw[e1,e2];exact aZ rfl rfl)|skip
 have e1:=aiG a ae ae;have e3:(a.natAbs:Int)=a:=ae;rw[e3];refine a_ F2 ?_;intro Q aJ aK aL;repeat' first|refine cz e1 ?_|refine aB ?_|refine aA ?_ ?_<;>intro hw<;>try omega|fail
 all_goals first|exact aZ rfl rfl|(rw[e1];exact aZ rfl rfl)|skip
def bits_Mul(x y:Nat)(hx:x<18446744073709551616)(hy:y<18446744073709551616): aS aH 86 [.int .u64 x,.int .u64 y] (.bU [.int .u64 ((x*y / 18446744073709551616:Nat):Int),.int .u64 ((x*y % 18446744073709551616:Nat):Int)]):=by
 refine nC ⟨_,Tryz.func86,fc,fc⟩ fun g w σ vs hR hl hv=>?_;have h3:=hv 0 aQ;have h4:=hv 1 aQ;rw[L_ hl];generalize vs.getD 0 Go.undef=v at h3;generalize vs.getD 1 Go.undef=u at h4;simp only[cH,iu]at h3 h4;cases h3;cases h4;refine⟨.tuple #[.int .u64 ((x*y / 18446744073709551616:Nat):Int),.int .u64 ((x*y % 18446744073709551616:Nat):Int)],fun g' w'=>?_,(Tryz.bits_Mul x y hx hy w).mono ?_⟩
 ·refine .bU _ _ rfl fun i hi=>?_;have:i=0\/i=1:=by simp at hi;omega
  rcases this with rfl|rfl
  ·exact .int _ _
  exact .int _ _
 rintro e w' ⟨rfl,rfl⟩;exact⟨rfl,rfl,rfl,rfl,bg _,fun _ _=>rfl⟩
def agD(a b:Int): ((a<0↔b<0)->a*b=((a.natAbs*b.natAbs:Nat):Int))/\(¬ (a<0↔b<0)->a*b = -((a.natAbs*b.natAbs:Nat):Int)):=by
 rw[Int.natCast_mul];by_cases h1:a<0<;>by_cases h2:b<0
 ·rw[show (a.natAbs:Int) = -a by omega,show(b.natAbs:Int) = -b by omega,Int.neg_mul_neg];simp[h1,h2]
 ·rw[show (a.natAbs:Int) = -a by omega,show(b.natAbs:Int)=b by omega,Int.neg_mul];simp[h1,h2]
 ·rw[show (a.natAbs:Int)=a by omega,show(b.natAbs:Int) = -b by omega,Int.mul_neg];simp[h1,h2]
 rw[show (a.natAbs:Int)=a by omega,show(b.natAbs:Int)=b by omega];simp[h1,h2]
def agE{L:Nat}(h:L<=9223372036854775808): dw .i64 (dw .u64 (0-(L:Int))) = -(L:Int):=by
 show IntKind.wrap .i64 (IntKind.wrap .u64 _)=_;simp only[IntKind.wrap,IntKind.bits,IntKind.signed];simp;omega
def ad7(a b:Int)(ha:kX a)(hb:kX b): aS aH 283 [I a,I b] (.bU [I (numOf (kA (a*b))),I (pX (kA (a*b)))]):=by
 have c1:=PB a ha;have c2:=PB b hb;have c3:=bits_Mul a.natAbs b.natAbs (by unfold kX at ha;omega) (by unfold kX at hb;omega);obtain⟨m1,m2⟩:=agD a b;generalize a.natAbs*b.natAbs=p at *;obtain⟨H,hH⟩:=cq (p / 18446744073709551616);obtain⟨L,hL⟩:=cq (p % 18446744073709551616);rw[hH,hL]at c3;have hp:p=H*18446744073709551616+L:=ae;have Gq:L<18446744073709551616:=ae;clear hH hL;by_cases hs:(a<0↔b<0)
 ·have m:=m1 hs;rw[m];clear m m1 m2;by_cases hr:H=0/\L<=9223372036854775807
  ·obtain⟨rfl,hr⟩:=hr;obtain rfl:p=L:=ae;rw[Cz ae];refine a_ wG ?_;intro Q aJ aK aL;by_cases hA:a<0
   ·have hB:=hs.1 hA;repeat' first|simp (disch:=omega) only[go_sem,aJ,aK,aL,bQ hA,bQ hB]|refine aB ?_|refine aA ?_ ?_<;>intro hw<;>try omega|fail
    all_goals first|exact cn rfl rfl|(exfalso;omega)|skip
   have hB:¬ b<0:=fun h=>hA (hs.2 h);repeat' first|simp (disch:=omega) only[go_sem,aJ,aK,aL,cQ hA,cQ hB]|refine aB ?_|refine aA ?_ ?_<;>intro hw<;>try omega|fail
   all_goals first|exact cn rfl rfl|(exfalso;omega)|skip
  rw[zH ae];refine a_ wG ?_;intro Q aJ aK aL;by_cases hA:a<0
  ·have hB:=hs.1 hA;repeat' first|simp (disch:=omega) only[go_sem,aJ,aK,aL,bQ hA,bQ hB]|refine aB ?_|refine aA ?_ ?_<;>intro hw<;>try omega|fail
   all_goals first|exact cn rfl rfl|(exfalso;omega)|skip
  have hB:¬ b<0:=fun h=>hA (hs.2 h);repeat' first|simp (disch:=omega) only[go_sem,aJ,aK,aL,cQ hA,cQ hB]|refine aB ?_|refine aA ?_ ?_<;>intro hw<;>try omega|fail
  all_goals first|exact cn rfl rfl|(exfalso;omega)|skip
 have m:=m2 hs;rw[m];clear m m1 m2;by_cases hr:H=0/\L<=9223372036854775808
 ·obtain⟨rfl,hr⟩:=hr;obtain rfl:p=L:=ae;have hwr:=agE hr;rw[Cz ae];refine a_ wG ?_;intro Q aJ aK aL;by_cases hA:a<0
  ·have hB:¬ b<0:=fun h=>hs ⟨fun _=>h,fun _=>hA⟩;repeat' first|simp (disch:=omega) only[go_sem,aJ,aK,aL,bQ hA,cQ hB,hwr]|refine aB ?_|refine aA ?_ ?_<;>intro hw<;>try omega|fail
   all_goals first|exact cn rfl rfl|exact cn (aW (fun z=>[AV.int .i64 z,AV.int .i64 0]) hwr) rfl|(exfalso;omega)|skip
  have hB:b<0:=Classical.not_not.1 fun h=>hs ⟨fun h'=>absurd h' hA,fun h'=>absurd h' h⟩;repeat' first|simp (disch:=omega) only[go_sem,aJ,aK,aL,cQ hA,bQ hB,hwr]|refine aB ?_|refine aA ?_ ?_<;>intro hw<;>try omega|fail
  all_goals first|exact cn rfl rfl|exact cn (aW (fun z=>[AV.int .i64 z,AV.int .i64 0]) hwr) rfl|(exfalso;omega)|skip
 rw[zH ae];refine a_ wG ?_;intro Q aJ aK aL;by_cases hA:a<0
 ·have hB:¬ b<0:=fun h=>hs ⟨fun _=>h,fun _=>hA⟩;repeat' first|simp (disch:=omega) only[go_sem,aJ,aK,aL,bQ hA,cQ hB]|refine aB ?_|refine aA ?_ ?_<;>intro hw<;>try omega|fail
  all_goals first|exact cn rfl rfl|(exfalso;omega)|skip
 have hB:b<0:=Classical.not_not.1 fun h=>hs ⟨fun h'=>absurd h' hA,fun h'=>absurd h' h⟩;repeat' first|simp (disch:=omega) only[go_sem,aJ,aK,aL,cQ hA,bQ hB]|refine aB ?_|refine aA ?_ ?_<;>intro hw<;>try omega|fail
 all_goals first|exact cn rfl rfl|(exfalso;omega)|skip
def vf(b:Bool): aS aH 232 [.bool b] (c8 (fU b)):=by
 cases b
 all_goals
  refine a_ QH ?_;intro Q aJ aK aL;repeat' first|refine aB ?_|refine aA ?_ ?_<;>intro hw<;>try omega|fail
  exact aZ rfl rfl
def Vq(op a b:Int)(ha:kX a)(hb:kX b): dF aH 261 [I op,I a,I b] (sK (qv op a b)):=by
 have hn:=WW (Vp op a b);have cA:=TG a b ha hb;have cS:=TH a b ha hb;have cM:=ad7 a b ha hb;have cD:=ad6 a b ha hb;have hu:qv op a b=if op=4 then kA (a+b)else if op=5 then kA (a-b)else if op=6 then kA (a*b)else xW a b:=rfl
 by_cases h4:op=4
 ·rw[au h4]at hu;rw[hu]at hn |-;subst h4;generalize kA (a+b)=r at *;generalize numOf r=x at *;generalize pX r=y at *;refine dF.iF (rZ.go ?_) rfl eS;unfold dP;intro Q aJ aK aL;repeat' first|refine aB ?_|refine Cx (tj x y) (fun v_ qz=>?_) (fun e_ pq=>?_)|refine aA ?_ ?_<;>intro hw<;>try omega|fail
  all_goals first
   | exact j6 (hn.symm.trans qz) rfl
   | exact iH (hn.symm.trans pq)
   |(exfalso;omega)
   | skip
 rw[aj h4]at hu;by_cases h5:op=5
 ·rw[au h5]at hu;rw[hu]at hn |-;subst h5;generalize kA (a-b)=r at *;generalize numOf r=x at *;generalize pX r=y at *;refine dF.iF (rZ.go ?_) rfl eS;unfold dP;intro Q aJ aK aL;repeat' first|refine aB ?_|refine Cx (tj x y) (fun v_ qz=>?_) (fun e_ pq=>?_)|refine aA ?_ ?_<;>intro hw<;>try omega|fail
  all_goals first
   | exact j6 (hn.symm.trans qz) rfl
   | exact iH (hn.symm.trans pq)
   |(exfalso;omega)
   | skip
 rw[aj h5]at hu;by_cases h6:op=6
 ·rw[au h6]at hu;rw[hu]at hn |-;subst h6;generalize kA (a*b)=r at *;generalize numOf r=x at *;generalize pX r=y at *;refine dF.iF (rZ.go ?_) rfl eS;unfold dP;intro Q aJ aK aL;repeat' first|refine aB ?_|refine Cx (tj x y) (fun v_ qz=>?_) (fun e_ pq=>?_)|refine aA ?_ ?_<;>intro hw<;>try omega|fail
  all_goals first
   | exact j6 (hn.symm.trans qz) rfl
   | exact iH (hn.symm.trans pq)
   |(exfalso;omega)
   | skip
 rw[aj h6]at hu;rw[hu]at hn |-;generalize xW a b=r at *;generalize numOf r=x at *;generalize pX r=y at *;refine dF.iF (rZ.go ?_) rfl eS;unfold dP;intro Q aJ aK aL;repeat' first|refine aB ?_|refine Cx (tj x y) (fun v_ qz=>?_) (fun e_ pq=>?_)|refine aA ?_ ?_<;>intro hw<;>try omega|fail
 all_goals first
  | exact j6 (hn.symm.trans qz) rfl
  | exact iH (hn.symm.trans pq)
  | (exfalso; omega)
    | skip
def abl(a b:aU)(ha:a.length<=2^40)(hb:b.length<=2^40): dF aH 260 [.str a,.str b] (sK (if 40<a.length+b.length then .err 5 else .ok ⟨2,0,a++b⟩)):=by
 by_cases h:40<a.length+b.length
 ·rw[au h];refine dF.of_nil (F1.go ?_) rfl rfl;unfold dP;intro Q aJ aK aL;repeat' first|refine aB ?_|refine Cy (pW 5 cW) ?_|refine aA ?_ ?_<;>intro hw<;>try omega|fail
  all_goals first|(simp only[go_sem,aL];done)|exact bJ|rfl
 rw[aj h];refine a_ F1 ?_;intro Q aJ aK aL;repeat' first|refine aB ?_|refine aA ?_ ?_<;>intro hw<;>try omega|fail
 all_goals first|exact bJ|exact aZ rfl rfl
def CA(k:Int)(v:aX): Bool:=decide (v.kind=k) || decide (v.kind=0)
def wm{k:Int}(v:aX)(h:k≠0): CA k v=cK v.kind k:=by
 unfold CA cK;rw[decide_eq_false h,Bool.or_false]
def qT(k:Int)(l:List aX)(n:Nat): Bool:=(l.take n).any fun v=>decide (v.kind≠k) && eu v
def Y5{k:Int}{l:List aX}{i:Nat}(h:i<l.length): qT k l (i+1)=(qT k l i ||(decide ((l.getD i default).kind≠k) && eu (l.getD i default))):=by
 unfold qT;rw[jz,List.any_append,aq,aG h];simp
def DX(k:Int)(l:List aX)(hl:l.length<=2^40)(h:∀ i,i<l.length->CA k (l.getD i default)=true): aS aH 229 [I k,bu l] (.bool (qT k l l.length)):=by
 refine a_ LK ?_;intro Q aJ aK aL;simp only[bu];repeat' first|refine aB ?_|refine aA ?_ ?_<;>intro hw<;>try omega|fail
 with_reducible refine bE [4,1,6,1,9,13] (fun q:Nat × List aY=>[(9,I q.1),(4,.bool (qT k l q.1))]) (fun q=>q.2) (fun q=>q.1<=l.length) (fun q=>l.length-q.1) (0,[]) ?_ ?_ ?_ ?_
 ·simp
 ·rfl
 ·simp only[qT,gZ,List.any_nil];exact at_
 rintro⟨i,τ⟩ r h1;dsimp only at h1;by_cases hi:i<l.length
 ·have hk:=h i hi;have hS:=Y5 (k:=k) hi;obtain⟨v,hv⟩:=cq (l.getD i default);rw[hv]at hk hS;unfold CA at hk;unfold eu at hS;simp only[cN,aM]at hk;by_cases h2:v.kind=k
  ·have hS':qT k l (i+1)=qT k l i:=by rw[hS,cQ (by simpa using h2),g_,Bool.or_false]
   repeat' first|refine cz hv ?_|refine aB ?_|refine aA ?_ ?_<;>intro hw<;>try omega|fail
   all_goals first
    | exact bJ
    | (refine ⟨(i + 1, τ ++ [.cells [I v.kind, I v.n, .str v.s]]), ?_, ?_, by first | rfl | (simp [go_sem]; done), da, ?_⟩
       ·dsimp only;omega
       ·dsimp only;omega
       ·dsimp only;rw[hS'];exact at_)
  have h3:v.kind=0:=ae;have hS':qT k l (i+1)=true:=by rw[hS,bQ h2,bQ h3];simp
  repeat' first|refine cz hv ?_|refine aB ?_|refine aA ?_ ?_<;>intro hw<;>try omega|fail
  all_goals first
   | exact bJ
   | (refine ⟨(i + 1, τ ++ [.cells [I v.kind, I v.n, .str v.s]]), ?_, ?_, by first | rfl | (simp [go_sem]; done), da, ?_⟩
      ·dsimp only;omega
      ·dsimp only;omega
      ·dsimp only;rw[hS'];exact at_)
 obtain rfl:i=l.length:=ae;repeat' first|refine aB ?_|refine aA ?_ ?_<;>intro hw<;>try omega|fail
 exact aZ rfl rfl
def tq(k:Int)(l:List aX)(hl:l.length<=2^40)(j:Nat)(hj:j<l.length)(hb:CA k (l.getD j default)=false): dF aH 229 [I k,bu l] (.panic (rL 14)):=by
 refine dF.of_nil (LK.go ?_) aQ rfl;unfold dP;intro Q aJ aK aL;simp only[bu];repeat' first|refine aB ?_|refine aA ?_ ?_<;>intro hw<;>try omega|fail
 with_reducible refine bE [4,1,6,1,9,13] (fun q:Nat × List aY × Bool=>[(9,I q.1),(4,.bool q.2.2)]) (fun q=>q.2.1) (fun q=>q.1<=j) (fun q=>l.length-q.1) (0,[],false) ?_ ?_ ?_ ?_
 ·simp
 ·rfl
 ·exact at_
 rintro⟨i,τ,n⟩ r h1;dsimp only at h1;have hi:i<l.length:=ae;have hij:i=j->CA k (l.getD i default)=false:=fun e=>by rw[e];exact hb
 obtain⟨v,hv⟩:=cq (l.getD i default);rw[hv]at hij;unfold CA at hij;simp only[Bool.or_eq_false_iff,decide_eq_false_iff_not]at hij;by_cases h2:v.kind=k
 ·have hne:i≠j:=fun e=>(hij e).1 h2;repeat' first|refine cz hv ?_|refine aB ?_|refine Cy (pW 14 cW) ?_|refine aA ?_ ?_<;>intro hw<;>try omega|fail
  all_goals first
   |(simp only[go_sem,aL];done)
   | exact bJ
   | (refine ⟨(i + 1, τ ++ [.cells [I v.kind, I v.n, .str v.s]], n), ?_, ?_, by first | rfl | (simp [go_sem]; done), da, at_⟩
      ·dsimp only;omega
      ·dsimp only;omega)
 by_cases h3:v.kind=0
 ·have hne:i≠j:=fun e=>(hij e).2 h3;repeat' first|refine cz hv ?_|refine aB ?_|refine Cy (pW 14 cW) ?_|refine aA ?_ ?_<;>intro hw<;>try omega|fail
  all_goals first
   |(simp only[go_sem,aL];done)
   | exact bJ
   | (refine ⟨(i + 1, τ ++ [.cells [I v.kind, I v.n, .str v.s]], true), ?_, ?_, by first | rfl | (simp [go_sem]; done), da, at_⟩
      ·dsimp only;omega
      ·dsimp only;omega)
 repeat' first|refine cz hv ?_|refine aB ?_|refine Cy (pW 14 cW) ?_|refine aA ?_ ?_<;>intro hw<;>try omega|fail
 all_goals first
  |(simp only[go_sem,aL];done)
  | exact bJ
