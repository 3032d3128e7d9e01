/- Part. -/
import Derived.Test.YtoldfccfpameeaaGreatDoorV10
import Derived.Lib.Bytealg
set_option linter.all false
set_option maxHeartbeats 8000000
namespace Go.Proofs.YtoldfccfpameeaaGreatDoor
open Go.AM
set_option maxRecDepth 4000
def nE(l:kF)(m:Nat): aT × Int:=Hg (l.cells.getD m default)
def qL(l:kF)(m:Nat): aT × Int:=Ak (l.outs.getD m default)
def bV(l:kF)(n:Nat): List aT:=(List.range n).map fun m=>(nE l m).1
def tF(l:kF)(n:Nat): List aT:=(List.range n).map fun m=>(qL l m).1
def UM(l:kF)(n:Nat): bV l (n+1)=bV l n++[(nE l n).1]:=by simp[bV,List.range_succ]
def Yg(l:kF)(n:Nat): tF l (n+1)=tF l n++[(qL l n).1]:=by simp[tF,List.range_succ]
def Ds(l:kF)(n:Nat): (bV l n).length=n:=by simp[bV]
def FZ(l:kF)(n:Nat): (tF l n).length=n:=by simp[tF]
def Bk(w:Nat)(l:kF): h_ × Int × Int :=
 match(List.range l.cells.length).find? (fun m=>(nE l m).2 != 0)with
 | some m=>(⟨bV l l.cells.length,tF l l.outs.length⟩,m,(nE l m).2)
 | none => match (List.range l.outs.length).find? (fun m => (qL l m).2 != 0) with
   | some m=>(⟨bV l l.cells.length,tF l l.outs.length⟩,w+m,(qL l m).2)
   | none=>(⟨bV l l.cells.length,tF l l.outs.length⟩,0,0)
def sZ: Table:=⟨[],[],[],0,0,[]⟩
def Dt(t:Table)(n:Nat): kF:=(er t).1.lines.getD n default
def pU(t:Table)(n:Nat): h_ × Int × Int:=Bk t.ins.length (Dt t n)
def wz(t:Table)(n:Nat): List h_:=(List.range n).map fun k=>(pU t k).1
def fW(t:Table): Table × Int × Int × Int :=
 if(er t).2.2.2≠0 then(sZ,(er t).2.1,(er t).2.2.1,(er t).2.2.2)
 else match(List.range (er t).1.lines.length).find? (fun n=>(pU t n).2.2 != 0)with
 | some n=>(sZ,n,(pU t n).2.1,(pU t n).2.2)
 | none=>({ t with rules:=wz t (er t).1.lines.length },0,0,0)
def eT4(r:Table × Int × Int × Int): AV:= .bR [dP r.1,I r.2.1,I r.2.2.1,I r.2.2.2]
def Yh(t:Table)(n:Nat): wz t (n+1)=wz t n++[(pU t n).1]:=by simp[wz,List.range_succ]
def w5(t:Table)(n:Nat): (wz t n).length=n:=by simp[wz]
def SL(w:Nat)(l:kF): (Bk w l).1=⟨bV l l.cells.length,tF l l.outs.length⟩:=by
 unfold Bk;split
 ·rfl
 split<;>rfl
def aaF(w:Nat){l:kF}{m:Nat}(hm:m<l.cells.length)(h:∀ j,j<m->(nE l j).2=0)(he:(nE l m).2≠0): (Bk w l).2=((m:Int),(nE l m).2):=by
 unfold Bk;rw[vU (i:=m) hm (fun j hj=>by simp[h j hj]) (by simp[he])]
def adl(w:Nat){l:kF}(hc:∀ j,j<l.cells.length->(nE l j).2=0){m:Nat}(hm:m<l.outs.length)(h:∀ j,j<m->(qL l j).2=0)(he:(qL l m).2≠0): (Bk w l).2=((w:Int)+m,(qL l m).2):=by
 unfold Bk;rw[ot (fun j hj=>by simp[hc j hj])];dsimp only;rw[vU (i:=m) hm (fun j hj=>by simp[h j hj]) (by simp[he])]
def afY(w:Nat){l:kF}(hc:∀ j,j<l.cells.length->(nE l j).2=0)(h:∀ j,j<l.outs.length->(qL l j).2=0): (Bk w l).2=(0,0):=by
 unfold Bk;rw[ot (fun j hj=>by simp[hc j hj])];dsimp only;rw[ot (fun j hj=>by simp[h j hj])]
def s0{t:Table}(h:(er t).2.2.2≠0): fW t=(sZ,(er t).2.1,(er t).2.2.1,(er t).2.2.2):=by unfold fW;rw[if_pos h]
def Yi{t:Table}(h0:(er t).2.2.2=0){n:Nat}(hn:n<(er t).1.lines.length)(h:∀ j,j<n->(pU t j).2.2=0)(he:(pU t n).2.2≠0): fW t=(sZ,(n:Int),(pU t n).2.1,(pU t n).2.2):=by
 unfold fW;rw[aj ae,vU (i:=n) hn (fun j hj=>by simp[h j hj]) (by simp[he])]
def ON{t:Table}(h0:(er t).2.2.2=0)(h:∀ j,j<(er t).1.lines.length->(pU t j).2.2=0): fW t=({ t with rules:=wz t (er t).1.lines.length },0,0,0):=by
 unfold fW;rw[aj ae,ot (fun j hj=>by simp[h j hj])]
def aaG(l:kF): Prop:=(l.cells.length<=2 ^ 30/\ ∀ c ∈ l.cells,pS c)/\l.outs.length<=2 ^ 30/\ ∀ x ∈ l.outs,jj x/\gM x<=2 ^ 30
def yc{t:Table}(h:(er t).2.2.2=0): jU t=0/\(∀ j,j<t.rules.length->(kW t j).2.2=0)/\er t=((⟨t,m_ t t.rules.length⟩:Ready),(0:Int),(0:Int),(0:Int)):=by
 by_cases hf:jU t=0
 ·have hl : ∀ j, j < t.rules.length -> (kW t j).2.2 = 0 := by
   cases hq:(List.range t.rules.length).find? (fun k=>(kW t k).2.2 != 0)with
   | some k =>
     exfalso;unfold er at h;rw[aj ae,hq]at h;have:=fA hq;simp at this;exact this h
   | none =>
     intro j hj;have:=fC.1 hq j (eN.2 hj);simpa using this
  exact⟨hf,hl,SI hf hl⟩
 rw[Bj hf]at h;exact absurd h hf
def aaH(t:Table)(r:h_)(h1:t.ins.length<=2 ^ 30)(h2:t.outs.length<=2 ^ 30)(hr:r.cells.length<=2 ^ 30)(ho:r.outs.length<=2 ^ 30): aaG (lU t r).1:=by
 have hc:∀ n,n<=2 ^ 30->(mK t r n).length<=2 ^ 30/\ ∀ c ∈ mK t r n,pS c:=fun n hn=>by
  refine⟨by rw[Am];exact hn,fun c hc=>?_⟩;obtain⟨k,_,rfl⟩:=dG.1 hc;exact Ls _
 have hx:∀ n,n<=2 ^ 30->(pT t r n).length<=2 ^ 30/\ ∀ x ∈ pT t r n,jj x/\gM x<=2 ^ 30:=fun n hn=>by
  refine⟨by rw[JC];exact hn,fun x hx=>?_⟩;obtain⟨k,_,rfl⟩:=dG.1 hx;exact Al _
 have hk:∀ {n k:Nat} {p:Nat->Bool},(List.range n).find? p=some k->k<n:=fun h=>eN.1 (ij h);unfold lU;split
 ·exact⟨⟨aR,aR⟩,aR,aR⟩
 split
 ·rename_i k hq;have:=hk hq;exact⟨hc _ ae,aR,aR⟩
 split
 ·rename_i k hq;have:=hk hq;exact⟨hc _ hr,hx _ ae⟩
 exact⟨hc _ hr,hx _ ho⟩
def Bl{t:Table}(h:jV t)(h0:(er t).2.2.2=0): (er t).1.lines.length=t.rules.length/\ ∀ n,aaG (Dt t n):=by
 obtain⟨_,_,hm⟩:=yc h0;refine⟨by rw[hm];exact wZ _ _,fun n=>?_⟩;unfold Dt;rw[hm];dsimp only;by_cases hn:n<t.rules.length
 ·have : (m_ t t.rules.length).getD n default = (kW t n).1 := by
   unfold m_;rw[aq,gZ,List.getElem?_range hn];rfl
  rw[this];have hr:=h.2.2.2.2 _ (bx hn);exact aaH t _ h.2.1.1 h.2.2.1.1 hr.1.1 hr.2.1
 rw[rz (by rw[wZ];omega)];exact⟨⟨Nat.zero_le _,fun c hc=>by cases hc⟩,Nat.zero_le _,fun c hc=>by cases hc⟩
def vu(L:Nat)(S:ai)(v:AV)(xs:List aT): Prop:=(xs=[]/\v = .aU)\/(xs≠[]/\ ∃ q,L<=q/\v = .own E1 q xs.length 0 xs.length/\S[q]? = some (.vec E1 (xs.map eZ)))
def vu.nil(L:Nat)(S:ai): vu L S .aU []:= .inl ⟨rfl,rfl⟩
def vu.scalar{L:Nat}{S:ai}{v:AV}{xs:List aT}(h:vu L S v xs): v.scalar=true:=by
 rcases h with⟨_,rfl⟩|⟨_,q,_,rfl,_⟩<;>rfl
def vu.view{L:Nat}{S:ai}{v:AV}{xs:List aT}(h:vu L S v xs): View S v (jL xs):=by
 rcases h with⟨rfl,rfl⟩|⟨_,q,_,rfl,hq⟩
 ·exact View.aU _
 exact View.vec hq aR aR (uF _)
def vu.keep{L L':Nat}{S S':ai}{v:AV}{xs:List aT}(hL:L'<=L)(hs:∀ (q:Nat) (ys:List AV),L<=q->S[q]? = some (.vec E1 ys)->S'[q]? = some (.vec E1 ys))(h:vu L S v xs): vu L' S' v xs:=by
 rcases h with h|⟨h1,q,h2,h3,h4⟩
 ·exact .inl h
 exact .inr ⟨h1,q,cZ hL h2,h3,hs _ _ h2 h4⟩
def adn(S:ai)(a:AV)(r:h_): Prop:= ∃ v w,a = .agg [v,w]/\vu 0 S v r.cells/\vu 0 S w r.outs
def ou(S:ai)(rs:List AV)(l:List h_): Prop:=rs.length=l.length/\ ∀ j,j<l.length->adn S (rs.getD j .undef) (l.getD j default)
def ou.nil(S:ai): ou S [] []:=⟨rfl,fun j hj=>by cases hj⟩
def ou.keep{S S':ai}{rs:List AV}{l:List h_}(hs:∀ (q:Nat) (ys:List AV),S[q]? = some (.vec E1 ys)->S'[q]? = some (.vec E1 ys))(h:ou S rs l): ou S' rs l:=by
 refine⟨h.1,fun j hj=>?_⟩;obtain⟨v,w,h1,h2,h3⟩:=h.2 j hj;exact⟨v,w,h1,h2.keep (bf _) (fun q ys _=>hs q ys),h3.keep (bf _) (fun q ys _=>hs q ys)⟩
def ou.snoc{S:ai}{rs:List AV}{l:List h_}{a:AV}{r:h_}(h:ou S rs l)(ha:adn S a r): ou S (rs++[a]) (l++[r]):=by
 refine⟨by simp[h.1],fun j hj=>?_⟩;have hl:=h.1;rw[aA,aO,bu]at hj;by_cases sy:j<l.length
 ·rw[aq,aq,aH ae,aH sy,<-aq,<-aq];exact h.2 j sy
 obtain rfl:j=l.length:=ae;rw[aq,aq,<-hl,bq (bf _),hl,bq (bf _)];simpa using ha
def ou.view{S:ai}{rs:List AV}{l:List h_}(h:ou S rs l): cN S rs (l.map fZ):=by
 refine⟨by simp[h.1],fun j hj=>?_⟩;have hl:=h.1;obtain⟨v,w,h1,h2,h3⟩:=h.2 j ae;rw[h1,getD_map _ _ _ ae];exact View.nO (.cons h2.view (.cons h3.view (.nil _)))
def zc(L:Nat)(S:ai)(v:AV)(l:List h_): Prop:=(l=[]/\v = .aU)\/(l≠[]/\ ∃ q rs,L<=q/\v = .own ER q l.length 0 l.length/\S[q]? = some (.vec ER rs)/\ou S rs l)
def zc.nil(L:Nat)(S:ai): zc L S .aU []:= .inl ⟨rfl,rfl⟩
def zc.view{L:Nat}{S:ai}{v:AV}{l:List h_}(h:zc L S v l): View S v (eL l):=by
 rcases h with⟨rfl,rfl⟩|⟨_,q,rs,_,rfl,hq,hr⟩
 ·exact View.aU _
 exact View.alN hq hr.1.symm hr.1.symm hr.view
def zc.scalar{L:Nat}{S:ai}{v:AV}{l:List h_}(h:zc L S v l): v.scalar=true:=by
 rcases h with⟨_,rfl⟩|⟨_,q,_,_,rfl,_⟩<;>rfl
def zc.keep{L:Nat}{S S':ai}{v:AV}{l:List h_}(hs:∀ (q:Nat) (o:aX),S[q]? = some o->(∀ cs,o≠ .cells cs)->S'[q]? = some o)(h:zc L S v l): zc L S' v l:=by
 rcases h with h|⟨h1,q,rs,h2,h3,h4,h5⟩
 ·exact .inl h
 exact .inr ⟨h1,q,rs,h2,h3,hs _ _ h4 (fun cs=>by simp),h5.keep (fun q ys hq=>hs q _ hq (fun cs=>by simp))⟩
def Cc(σ : ai): View σ (.agg [.str [],.aU,.aU,I 0,I 0,.aU]) (dP sZ) :=
 View.nO (.cons (.refl _ rfl) (.cons (.aU _) (.cons (.aU _) (.cons (.refl _ rfl) (.cons (.refl _ rfl) (.cons (.aU _) (.nil _)))))))
abbrev SM(t:Table)(v:AV): aX:= .cells [.str t.name,.aS false EC (t.ins.map dU),.aS false EC (t.outs.map dU),I t.bY,I t.agg,v]
abbrev al6(t:Table)(ls:List kF): aX:= .cells [.str t.name,.aS false EC (t.ins.map dU),.aS false EC (t.outs.map dU),I t.bY,I t.agg,.aS false ER (t.rules.map fZ),.aS false ER (ls.map mF)]
def SN{S1:ai}{L k:Nat}{c:aX}{s:aT}(hL:L<=S1.length)(hk:k<S1.length): vu L ((S1++[aX.vec E1 [.str s]]).set k c) (.own E1 S1.length 1 0 1) [s] :=
 .inr ⟨aR,S1.length,hL,rfl,by rw[aF ae];simp[eZ]⟩
def V9{S1:ai}{L k q:Nat}{c:aX}{s:aT}{xs:List aT}(hq:S1[q]? = some (.vec E1 (xs.map eZ)))(hL:L<=q)(hk:k≠q): vu L ((S1.set q (.vec E1 (xs.map eZ++[.str s]))).set k c) (.own E1 q (xs.length+1) 0 (xs.length+1)) (xs++[s]) :=
 .inr ⟨aR,q,hL,aR,by rw[aF hk,bw (jZ hq)];simp[eZ]⟩
def lV{S1:ai}{k:Nat}{c d:aX}(j:Nat)(o:aX)(hj:S1[j]? = some o)(hne:j≠k): ((S1++[d]).set k c)[j]? = some o:=by
 rw[aF (Ne.symm hne),aH (jZ hj)];exact hj
def nw{S1:ai}{k q:Nat}{c d:aX}(j:Nat)(o:aX)(hj:S1[j]? = some o)(hne:j≠k)(hq:j≠q): ((S1.set q d).set k c)[j]? = some o:=by
 rw[aF (Ne.symm hne),aF (Ne.symm hq)];exact hj
def ajO{σ : ai}{k:Nat}{w:AV}(h : σ[k]? = some (.cells [.aU,w]))(s:aT)(e:Int): cK aI 78 [.ref k 0,.str s,I e] σ fun o σ'=>o = .ret (.bool (e==0))/\σ'=(σ++[aX.vec E1 [.str s]]).set k (.cells [.own E1 σ.length 1 0 1,w]):=by
 have h2:∀ d:aX,(σ++[d])[k]? = some (.cells [.aU,w]):=fun d=>by rw[aH (jZ h)];exact h
 refine oN.go ?_;unfold dO;intro Q aJ aK aL;repeat' first|refine cB (zA h h2) ?_|refine aC ?_|refine aB ?_ ?_<;>intro hw<;>try omega|fail
 exact⟨rfl,by trivial⟩
def ajP{σ : ai}{k:Nat}{w:AV}(h : σ[k]? = some (.cells [w,.aU]))(s:aT)(e:Int): cK aI 78 [.ref k 1,.str s,I e] σ fun o σ'=>o = .ret (.bool (e==0))/\σ'=(σ++[aX.vec E1 [.str s]]).set k (.cells [w,.own E1 σ.length 1 0 1]):=by
 have h2:∀ d:aX,(σ++[d])[k]? = some (.cells [w,.aU]):=fun d=>by rw[aH (jZ h)];exact h
 refine oN.go ?_;unfold dO;intro Q aJ aK aL;repeat' first|refine cB (zA h h2) ?_|refine aC ?_|refine aB ?_ ?_<;>intro hw<;>try omega|fail
 exact⟨rfl,by trivial⟩
def ajQ{σ : ai}{k q:Nat}{xs:List aT}{w:AV}(h : σ[k]? = some (.cells [.own E1 q xs.length 0 xs.length,w]))(hq : σ[q]? = some (.vec E1 (xs.map eZ)))(hne:q≠k)(hl:xs.length<=2 ^ 30)(s:aT)(e:Int): cK aI 78 [.ref k 0,.str s,I e] σ fun o σ'=>o = .ret (.bool (e==0))/\σ'=(σ.set q (.vec E1 (xs.map eZ++[.str s]))).set k (.cells [.own E1 q (xs.length+1) 0 (xs.length+1),w]):=by
 have h2:∀ d:aX,(σ.set q d)[k]? = some (.cells [.own E1 q xs.length 0 xs.length,w]):=fun d=>by rw[aF hne];exact h
 refine oN.go ?_;unfold dO;intro Q aJ aK aL;repeat' first|refine cB (zB h h2 hq) ?_|refine aC ?_|refine aB ?_ ?_<;>intro hw<;>try omega|fail
 exact⟨rfl,by trivial⟩
def ajR{σ : ai}{k q:Nat}{xs:List aT}{w:AV}(h : σ[k]? = some (.cells [w,.own E1 q xs.length 0 xs.length]))(hq : σ[q]? = some (.vec E1 (xs.map eZ)))(hne:q≠k)(hl:xs.length<=2 ^ 30)(s:aT)(e:Int): cK aI 78 [.ref k 1,.str s,I e] σ fun o σ'=>o = .ret (.bool (e==0))/\σ'=(σ.set q (.vec E1 (xs.map eZ++[.str s]))).set k (.cells [w,.own E1 q (xs.length+1) 0 (xs.length+1)]):=by
 have h2:∀ d:aX,(σ.set q d)[k]? = some (.cells [w,.own E1 q xs.length 0 xs.length]):=fun d=>by rw[aF hne];exact h
 refine oN.go ?_;unfold dO;intro Q aJ aK aL;repeat' first|refine cB (zB h h2 hq) ?_|refine aC ?_|refine aB ?_ ?_<;>intro hw<;>try omega|fail
 exact⟨rfl,by trivial⟩
def iB{S:ai}{j:Nat}{o:aX}(h:S[j]? = some o)(d:aX): (S++[d])[j]? = some o:=by rw[aH (jZ h)];exact h
def SO{S:ai}{j k:Nat}{o:aX}(h:S[j]? = some o)(hne:j≠k)(d:aX): (S.set k d)[j]? = some o:=by rw[aF (Ne.symm hne)];exact h
def F0(t:Table)(h:jV t): aQ aI 52 [dP t] (eT4 (fW t)):=by
 have cm:=Ib t h;obtain⟨E,hE⟩:=cq (eT4 (fW t));rw[hE];by_cases he:(er t).2.2.2≠0
 ·have hc:=s0 he;obtain⟨M,hM⟩:=cq (er t);rw[hM]at cm hc he;simp only[eR4,lB,dP,fU,b_,eL,qb]at cm ⊢;refine aY z8 ?_;intro Q aJ aK aL;repeat' first|refine aC ?_|refine aB ?_ ?_<;>intro hw<;>try omega|fail
  all_goals first
   | exact bI
   |(rw[<-hE,hc];exact gN (uL (Cc _)))
 have SP:(er t).2.2.2=0:=ae;obtain⟨hf,hl,hm⟩:=yc SP;obtain⟨hlen,hok⟩:=Bl h SP;have hcr:=fun n=>Yi (t:=t) SP (n:=n);have hco:=ON SP;obtain⟨ls,hls⟩:=cq ((er t).1.lines);have F1:∀ n,Dt t n=ls.getD n default:=fun n=>by rw[<-hls];rfl
 have iX:m_ t t.rules.length=ls:=by rw[<-hls,hm]
 rw[hls]at hlen hcr hco;rw[hm,iX]at cm;have al5:=h.2.2.2.1;have aod:=h.2.1.1;clear hm iX hl hf SP hls he;simp only[eR4,lB,dP,fU,b_,eL,qb]at cm ⊢;refine aY z8 ?_;intro Q aJ aK aL;repeat' first|refine aC ?_|refine aB ?_ ?_<;>intro hw<;>try omega|fail
 all_goals first|exact bI|skip
 with_reducible refine bG [7,3,13,8,39,60] (fun q:Nat × ai=>[(39,I q.1),(9,I 0)]) (fun q=>q.2) (fun q=>q.1<=ls.length/\(∀ k,k<q.1->(pU t k).2.2=0)/\5<=q.2.length/\q.2[0]? = some (SM t (.aS false ER (t.rules.map fZ)))/\q.2[1]? = some (.cells [.str [],.aU,.aU,I 0,I 0,.aU])/\q.2[2]? = some (al6 t ls)/\(∃ v,q.2[3]? = some (SM t v)/\zc 5 q.2 v (wz t q.1))/\ ∃ a b,q.2[4]? = some (.cells [a,b])) (fun q=>ls.length-q.1) (0,_) ⟨ew _,fun k hk=>by omega,aR,rfl,rfl,rfl,⟨_,rfl,zc.nil _ _⟩,_,_,rfl⟩ rfl ?_ ?_
 ·exact at_
 rintro⟨n,S⟩ rr ⟨h1,h2,h3,f0,f1,f2,⟨v,f3,h4⟩,xa,xb,f4⟩;dsimp only at h1 h2 h3 f0 f1 f2 f3 h4 f4;have hvs:=h4.scalar;by_cases hn:n<ls.length
 ·have ado:=hok n;have hrow:pU t n=Bk t.ins.length (Dt t n):=rfl;have F2:=hcr n hn h2;have Ee:=Yh t n;rw[hrow,SL]at Ee;rw[hrow]at F2;rw[F1]at ado F2 Ee;obtain⟨l,F3⟩:=cq (ls.getD n default);rw[F3]at ado F2 Ee;obtain⟨⟨k1,k2⟩,k3,k4⟩:=ado;have f4a:∀ d:aX,(S++[d])[4]? = some (.cells [xa,xb]):=fun d=>iB f4 d;have SQ:(S++[aX.cells [.aS false EC (l.cells.map ei),.aS false EX (l.outs.map bt)]])[S.length]? = some (.cells [.aS false EC (l.cells.map ei),.aS false EX (l.outs.map bt)]):=PN _ _;have ah1:∀ d:aX,((S++[aX.cells [.aS false EC (l.cells.map ei),.aS false EX (l.outs.map bt)]]).set 4 d)[S.length]? = some (.cells [.aS false EC (l.cells.map ei),.aS false EX (l.outs.map bt)]):=fun d=>SO SQ ae d;repeat' first|refine cB (zC f0 f1 f2 (zC f3 f4 f4a (zA ah1 F3))) ?_|refine aC ?_|refine aB ?_ ?_<;>intro hw<;>try omega|fail
  with_reducible refine bG [8,2,15,3,49,18] (fun q:Nat × ai=>[(49,I q.1),(9,I 0)]) (fun q=>q.2) (fun q=>q.1<=l.cells.length/\(∀ k,k<q.1->(nE l k).2=0)/\S.length<q.2.length/\(∀ j o,S[j]? = some o->j≠4->q.2[j]? = some o)/\q.2[S.length]? = some (.cells [.aS false EC (l.cells.map ei),.aS false EX (l.outs.map bt)])/\ ∃ x,q.2[4]? = some (.cells [x,.aU])/\vu (S.length+1) q.2 x (bV l q.1)) (fun q=>l.cells.length-q.1) (0,_) ⟨ew _,fun k hk=>by omega,aR,fun j o hj hne=>SO (iB hj _) hne _,ah1 _,.aU,bw (jZ (f4a _)),vu.nil _ _⟩ rfl ?_ ?_
  ·exact at_
  rintro⟨m,S1⟩ rr ⟨g1,g2,g3,g4,gl,x,g5,g6⟩;dsimp only at g1 g2 g3 g4 gl g5 g6;have e0:=g4 _ _ f0 ae;have e1:=g4 _ _ f1 ae;have e2:=g4 _ _ f2 ae;have e3:=g4 _ _ f3 ae;by_cases hml:m<l.cells.length
  ·have cT:aQ aI 79 [ei (l.cells.getD m default)] (.bR [.str (nE l m).1,I (nE l m).2]):=aaC _ (k2 _ (bx hml));have hsc:=UM l m;have rq:=Ds l m;have hce:=aaF t.ins.length hml g2;have iE:=fun he=>cn (q:=fun j=>(nE l j).2=0) g2 he;obtain⟨a,ha⟩:=cq (nE l m);rw[ha]at cT hsc hce iE;obtain⟨c,hc⟩:=cq (l.cells.getD m default);rw[hc]at cT;simp only[ei,jt]at cT;obtain⟨xs,hxs⟩:=cq (bV l m);rw[hxs]at g6 hsc rq;rcases g6 with⟨rfl,rfl⟩|⟨hne,q,hq,rfl,Lw⟩
   ·repeat' first|simp (disch:=omega) only[go_sem,aJ,aK,aL,e0,e1,e2,e3,gl,g5,F3,hc]|refine aC ?_|with_reducible refine bS (ajO (iB g5 _) _ _) ?_|refine aB ?_ ?_<;>intro hw<;>try omega|fail
    rintro o s ⟨rfl,qg⟩;have y1:s[1]? = some (.cells [.str [],.aU,.aU,I 0,I 0,.aU]):=by rw[qg];exact lV _ _ (iB e1 _) ae
    have hs1:∀ d,(s.set 1 d)[1]? = some d:=fun d=>bw (jZ y1);repeat' first|refine cB (zA y1 hs1) ?_|refine aC ?_|refine aB ?_ ?_<;>intro hw<;>try omega|fail
    ·rw[hce (by assumption)]at F2;rw[<-hE,F2 (by assumption)];exact gN (uL (Cc _))
    have ha0:a.2=0:=by assumption
    refine⟨(m+1,s),⟨ae,iE ha0,?_,?_,?_,.own E1 (S1.length+1) 1 0 1,?_,?_⟩,by dsimp only;omega,rfl,c8,(by simp only[ha0];simp (disch:=omega) only[nC,lH,and_true,go_sem,aJ,aK,aL,Int.natCast_add,Int.cast_ofNat_Int]<;>(try trivial)<;>(try omega)<;>(try (repeat (first|trivial|(refine And.intro ?_ ?_)|(congr 1;omega)))))⟩
    ·dsimp only;rw[qg];simp;omega
    ·intro j o hj hne;dsimp only;rw[qg];exact lV j o (iB (g4 _ _ hj hne) _) hne
    ·dsimp only;rw[qg];exact lV _ _ (iB gl _) ae
    ·dsimp only;rw[qg,List.getElem?_set_self (by simp;omega)]
    dsimp only;rw[hsc,qg];have:=SN (S1:=S1++[aX.cells [.bool c.any,.bool c.neg,.aS false ES (c.tests.map dR)]]) (L:=S.length+1) (k:=4) (c:= .cells [.own E1 (S1++[aX.cells [.bool c.any,.bool c.neg,.aS false ES (c.tests.map dR)]]).length 1 0 1,.aU]) (s:=a.1) (by simp;omega) (by simp;omega);simpa using this
   have hqk:q≠4:=ae;repeat' first|simp (disch:=omega) only[go_sem,aJ,aK,aL,e0,e1,e2,e3,gl,g5,F3,hc]|refine aC ?_|with_reducible refine bS (ajQ (iB g5 _) (iB Lw _) hqk ae _ _) ?_|refine aB ?_ ?_<;>intro hw<;>try omega|fail
   rintro o s ⟨rfl,qg⟩;have y1:s[1]? = some (.cells [.str [],.aU,.aU,I 0,I 0,.aU]):=by rw[qg];exact nw _ _ (iB e1 _) ae ae
   have hs1:∀ d,(s.set 1 d)[1]? = some d:=fun d=>bw (jZ y1);repeat' first|refine cB (zA y1 hs1) ?_|refine aC ?_|refine aB ?_ ?_<;>intro hw<;>try omega|fail
   ·rw[hce (by assumption)]at F2;rw[<-hE,F2 (by assumption)];exact gN (uL (Cc _))
   have ha0:a.2=0:=by assumption
   refine⟨(m+1,s),⟨ae,iE ha0,?_,?_,?_,.own E1 q (xs.length+1) 0 (xs.length+1),?_,?_⟩,by dsimp only;omega,rfl,c8,(by simp only[ha0];simp (disch:=omega) only[nC,lH,and_true,go_sem,aJ,aK,aL,Int.natCast_add,Int.cast_ofNat_Int]<;>(try trivial)<;>(try omega)<;>(try (repeat (first|trivial|(refine And.intro ?_ ?_)|(congr 1;omega)))))⟩
   ·dsimp only;rw[qg];simp;omega
   ·intro j o hj hne;dsimp only;have:=jZ hj;rw[qg];exact nw j o (iB (g4 _ _ hj hne) _) hne ae
   ·dsimp only;rw[qg];exact nw _ _ (iB gl _) ae ae
   ·dsimp only;rw[qg,List.getElem?_set_self (by simp;omega)]
   dsimp only;rw[hsc,qg];exact V9 (iB Lw _) hq (Ne.symm hqk)
  obtain rfl:m=l.cells.length:=ae;have al7:=fun {k:Nat}=>adl t.ins.length g2 (m:=k);have al8:=afY t.ins.length g2;repeat' first|simp (disch:=omega) only[go_sem,aJ,aK,aL,e0,e1,e2,e3,gl,g5,F3]|refine aC ?_|refine aB ?_ ?_<;>intro hw<;>try omega|fail
  with_reducible refine bG [8,2,18,3,70,22] (fun q:Nat × ai=>[(70,I q.1),(9,I 0)]) (fun q=>q.2) (fun q=>q.1<=l.outs.length/\(∀ k,k<q.1->(qL l k).2=0)/\S1.length<=q.2.length/\(∀ j o,S1[j]? = some o->j≠4->q.2[j]? = some o)/\ ∃ y,q.2[4]? = some (.cells [x,y])/\vu S1.length q.2 y (tF l q.1)) (fun q=>l.outs.length-q.1) (0,_) ⟨ew _,fun k hk=>by omega,bf _,fun j o hj _=>hj,_,g5,vu.nil _ _⟩ rfl ?_ ?_
  ·exact at_
  rintro⟨m,S2⟩ rr ⟨p1,p2,p3,p4,y,p5,p6⟩;dsimp only at p1 p2 p3 p4 p5 p6;have e0:=p4 _ _ e0 ae;have e1:=p4 _ _ e1 ae;have e2:=p4 _ _ e2 ae;have e3:=p4 _ _ e3 ae;have gl:=p4 _ _ gl ae;have hS2:S.length<S2.length:=ae;by_cases hml:m<l.outs.length
  ·have cT:aQ aI 80 [bt (l.outs.getD m default)] (.bR [.str (qL l m).1,I (qL l m).2]):=Ia _ (k4 _ (bx hml)).1 (k4 _ (bx hml)).2;have hsc:=Yg l m;have rq:=FZ l m;have hce:=al7 hml p2;have iE:=fun he=>cn (q:=fun j=>(qL l j).2=0) p2 he;obtain⟨a,ha⟩:=cq (qL l m);rw[ha]at cT hsc hce iE;obtain⟨c,hc⟩:=cq (l.outs.getD m default);rw[hc,bK]at cT;obtain⟨xs,hxs⟩:=cq (tF l m);rw[hxs]at p6 hsc rq;rcases p6 with⟨rfl,rfl⟩|⟨hne,q,hq,rfl,Lw⟩
   ·have e0':=fun d=>iB e0 d;repeat' first|simp (disch:=omega) only[go_sem,aJ,aK,aL,e0,e0',e1,e2,e3,gl,p5,F3,hc]|refine aC ?_|with_reducible refine bS (ajP (iB p5 _) _ _) ?_|refine aB ?_ ?_<;>intro hw<;>try omega|fail
    rintro o s ⟨rfl,qg⟩;have y1:s[1]? = some (.cells [.str [],.aU,.aU,I 0,I 0,.aU]):=by rw[qg];exact lV _ _ (iB e1 _) ae
    have hs1:∀ d,(s.set 1 d)[1]? = some d:=fun d=>bw (jZ y1);repeat' first|refine cB (zA y1 hs1) ?_|refine aC ?_|refine aB ?_ ?_<;>intro hw<;>try omega|fail
    ·rw[hce (by assumption)]at F2;rw[<-hE,F2 (by assumption)];exact gN (uL (Cc _))
    have ha0:a.2=0:=by assumption
    refine⟨(m+1,s),⟨ae,iE ha0,?_,?_,.own E1 (S2.length+1) 1 0 1,?_,?_⟩,by dsimp only;omega,rfl,c8,(by simp only[ha0];simp (disch:=omega) only[nC,lH,and_true,go_sem,aJ,aK,aL,Int.natCast_add,Int.cast_ofNat_Int]<;>(try trivial)<;>(try omega)<;>(try (repeat (first|trivial|(refine And.intro ?_ ?_)|(congr 1;omega)))))⟩
    ·dsimp only;rw[qg];simp;omega
    ·intro j o hj hne;dsimp only;rw[qg];exact lV j o (iB (p4 _ _ hj hne) _) hne
    ·dsimp only;rw[qg,List.getElem?_set_self (by simp;omega)]
    dsimp only;rw[hsc,qg];have:=SN (S1:=S2++[aX.cells [I c.op,I c.v.kind,I c.v.n,.str c.v.s,.str c.s,.aS false EX (c.l.map bt)]]) (L:=S1.length) (k:=4) (c:= .cells [x,.own E1 (S2++[aX.cells [I c.op,I c.v.kind,I c.v.n,.str c.v.s,.str c.s,.aS false EX (c.l.map bt)]]).length 1 0 1]) (s:=a.1) (by simp;omega) (by simp;omega);simpa using this
   have hqk:q≠4:=ae;have e0':=fun d=>iB e0 d;repeat' first|simp (disch:=omega) only[go_sem,aJ,aK,aL,e0,e0',e1,e2,e3,gl,p5,F3,hc]|refine aC ?_|with_reducible refine bS (ajR (iB p5 _) (iB Lw _) hqk ae _ _) ?_|refine aB ?_ ?_<;>intro hw<;>try omega|fail
   rintro o s ⟨rfl,qg⟩;have y1:s[1]? = some (.cells [.str [],.aU,.aU,I 0,I 0,.aU]):=by rw[qg];exact nw _ _ (iB e1 _) ae ae
   have hs1:∀ d,(s.set 1 d)[1]? = some d:=fun d=>bw (jZ y1);repeat' first|refine cB (zA y1 hs1) ?_|refine aC ?_|refine aB ?_ ?_<;>intro hw<;>try omega|fail
   ·rw[hce (by assumption)]at F2;rw[<-hE,F2 (by assumption)];exact gN (uL (Cc _))
   have ha0:a.2=0:=by assumption
   refine⟨(m+1,s),⟨ae,iE ha0,?_,?_,.own E1 q (xs.length+1) 0 (xs.length+1),?_,?_⟩,by dsimp only;omega,rfl,c8,(by simp only[ha0];simp (disch:=omega) only[nC,lH,and_true,go_sem,aJ,aK,aL,Int.natCast_add,Int.cast_ofNat_Int]<;>(try trivial)<;>(try omega)<;>(try (repeat (first|trivial|(refine And.intro ?_ ?_)|(congr 1;omega)))))⟩
   ·dsimp only;rw[qg];simp;omega
   ·intro j o hj hne;dsimp only;have:=jZ hj;rw[qg];exact nw j o (iB (p4 _ _ hj hne) _) hne ae
   ·dsimp only;rw[qg,List.getElem?_set_self (by simp;omega)]
   dsimp only;rw[hsc,qg];exact V9 (iB Lw _) hq (Ne.symm hqk)
  obtain rfl:m=l.outs.length:=ae;have ah2:=al8 p2;have Rv:vu (S.length+1) S2 x (bV l l.cells.length):=g6.keep (bf _) (fun q ys hq Lw=>p4 q _ Lw ae);have hxs:=Rv.scalar;have hys:=p6.scalar;have SD:adn S2 (.agg [x,y]) ⟨bV l l.cells.length,tF l l.outs.length⟩:=⟨x,y,rfl,Rv.keep (ew _) (fun _ _ _ h=>h),p6.keep (ew _) (fun _ _ _ h=>h)⟩;have hfit:([AV.agg [x,y]].all fun a=>AV.fits ⟨true,2⟩ a)=true:=by simp only[AV.fits,aO,bu,List.all_cons,List.all_nil,hxs,hys];rfl
  have aeS:AV.fits ⟨true,2⟩ (.agg [x,y])=true:=by simpa using hfit
  have hkS:∀ (q:Nat) (o:aX),S[q]? = some o->q≠4->S2[q]? = some o:=fun q o hq hne=>p4 q o (g4 q o hq hne) hne;rcases h4 with⟨h4,rfl⟩|⟨h4,q,rs,hq,rfl,Lw,hr⟩
  ·have hap:∀ d:aX,(S2++[d])[3]? = some (SM t .aU):=fun d=>iB e3 d;repeat' first|simp (disch:=omega) only[go_sem,aJ,aK,aL,e0,e1,e2,e3,p5,hap,hfit,aeS,F3]|refine aC ?_|refine aB ?_ ?_<;>intro hw<;>try omega|fail
   refine⟨(n+1,_),⟨ae,cn (q:=fun j=>(pU t j).2.2=0) h2 (by rw[hrow,F1,F3,ah2]),?_,?_,?_,?_,⟨.own ER S2.length 1 0 1,?_,?_⟩,x,y,?_⟩,by dsimp only;omega,rfl,c8,at_⟩
   ·dsimp only;simp;omega
   ·exact lV _ _ e0 ae
   ·exact lV _ _ e1 ae
   ·exact lV _ _ e2 ae
   ·dsimp only;rw[List.getElem?_set_self (by simp;omega)]
   ·dsimp only;rw[Ee,h4];refine .inr ⟨aR,S2.length,[.agg [x,y]],ae,rfl,?_,ou.keep (fun q ys hq=>lV _ _ hq (fun e=>by subst e;rw[e3]at hq;cases hq)) (ou.snoc (ou.nil S2) SD)⟩;rw[aF ae];simp
   exact lV _ _ p5 ae
  have hq3:q≠3:=ae;have e4:=hkS _ _ Lw ae;rw[w5]at e3;have hrn:rs.length=n:=by rw[hr.1,w5]
  have hap:∀ d:aX,(S2.set q d)[3]? = some (SM t (.own ER q n 0 n)):=fun d=>by rw[aF hq3];exact e3
  repeat' first|simp (disch:=omega) only[go_sem,aJ,aK,aL,e0,e1,e2,e3,p5,hap,hfit,aeS,e4,F3,hrn]|refine aC ?_|refine aB ?_ ?_<;>intro hw<;>try omega|fail
  refine⟨(n+1,_),⟨ae,cn (q:=fun j=>(pU t j).2.2=0) h2 (by rw[hrow,F1,F3,ah2]),?_,?_,?_,?_,⟨.own ER q (n+1) 0 (n+1),?_,?_⟩,x,y,?_⟩,by dsimp only;omega,rfl,c8,at_⟩
  ·dsimp only;simp;omega
  ·exact nw _ _ e0 ae ae
  ·exact nw _ _ e1 ae ae
  ·exact nw _ _ e2 ae ae
  ·dsimp only;rw[List.getElem?_set_self (by simp;omega)]
  ·dsimp only;rw[Ee];have Eg:ou S2 rs (wz t n):=hr.keep (fun q ys hq=>hkS _ _ hq (fun e=>by subst e;rw[f4]at hq;cases hq));refine .inr ⟨aR,q,rs++[.agg [x,y]],hq,by simp[w5],?_,ou.keep (fun p ys hp=>nw _ _ hp (fun e=>by subst e;rw[e3]at hp;cases hp) (fun e=>by subst e;rw[e4]at hp;cases hp)) (ou.snoc Eg SD)⟩;rw[aF (Ne.symm hq3),bw (jZ e4)]
  exact nw _ _ p5 ae ae
 obtain rfl:n=ls.length:=ae;have hva:([AV.str t.name,.aS false EC (t.ins.map dU),.aS false EC (t.outs.map dU),I t.bY,I t.agg,v].all AV.scalar)=true:=by simp only[List.all_cons,List.all_nil,hvs];rfl
 have hs1:∀ o,(S.set 1 o)[1]? = some o:=fun o=>bw (jZ f1);repeat' first|refine cB (zC f0 f1 f2 (zB f3 hva hs1)) ?_|refine aC ?_|refine aB ?_ ?_<;>intro hw<;>try omega|fail
 have h5:=h4.keep (S':=S.set 1 (SM t v)) (fun q o hq hne=>by
  rw[List.getElem?_set_ne (fun e=>by subst e;rw[f1]at hq;cases hq;exact hne _ rfl)];exact hq)
 rw[<-hE,hco h2];exact gN (uL (View.nO (.cons (.refl _ rfl) (.cons (.refl _ (j7 _)) (.cons (.refl _ (j7 _)) (.cons (.refl _ rfl) (.cons (.refl _ rfl) (.cons h5.view (.nil _)))))))))
def F4{α : Type}[Inhabited α]{p : α->Bool}{l:List α}(h:∀ k,k<l.length->p (l.getD k default)=true): l.all p=true:=by
 rw[aZ];intro x hx;obtain⟨i,hi,rfl⟩:=bP hx;have:=h i hi;rwa[aq,aG hi,bO]at this
def F5{α : Type}[Inhabited α]{p : α->Bool}{l:List α}{i:Nat}(hi:i<l.length)(h:p (l.getD i default)=false): l.all p=false:=by
 cases hq:l.all p with
 | false=>rfl
 | true=>rw[List.all_eq_true]at hq;rw[hq _ (bx hi)]at h;cases h
def Na(n:Nat)(s:aT): Bool:=decide (s.length<=n)
def F6(l:List aT): Bool:=decide (l.length<=10) && l.all (Na 300)
def Ic(l:List aT): aQ aI 51 [jL l] (.bool (F6 l)):=by
 obtain⟨E,hE⟩:=cq (F6 l);rw[hE];unfold F6 at hE;simp only[jL];refine aY MG ?_;intro Q aJ aK aL;repeat' first|refine aC ?_|refine aB ?_ ?_<;>intro hw<;>try omega|fail
 ·refine a_ ?_ rfl;rw[<-hE,cI ae,gP]
 have h10:l.length<=10:=ae;rw[bN h10,gH]at hE;with_reducible refine bG [2,2,7,12] (fun i:Nat=>[(3,I i)]) (fun _=>[]) (fun i=>i<=l.length/\ ∀ k,k<i->Na 300 (l.getD k default)=true) (fun i=>l.length-i) (0) ?_ ?_ ?_ ?_
 ·simp
 ·rfl
 ·exact at_
 rintro i r ⟨h1,h2⟩;by_cases hi:i<l.length
 ·have hne:=fun h=>F5 (p:=Na 300) hi h;have eF:=fun he=>cn (q:=fun k=>Na 300 (l.getD k default)=true) h2 (i:=i) he;have hS:Na 300 (l.getD i default)=decide ((l.getD i default).length<=300):=rfl;rw[hS]at hne eF;repeat' first|refine aC ?_|refine aB ?_ ?_<;>intro hw<;>try omega|fail
  all_goals first
   | exact bI
   |(refine a_ ?_ rfl;rw[<-hE,hne (cI ae)])
   | (refine ⟨i + 1, ?_, ?_, by first | rfl | (simp [go_sem]; done), c8, at_⟩ <;> (try dsimp only)
      ·exact⟨ae,eF (bN ae)⟩
      ·omega)
 repeat' first|refine aC ?_|refine aB ?_ ?_<;>intro hw<;>try omega|fail
 refine a_ ?_ rfl;rw[<-hE,F4 (fun k hk=>h2 k ae)]
def Hh(c:cJ): Bool:=decide (c.name.length<=300)
def F7(l:List cJ): Bool:=decide (l.length<=12) && l.all Hh
def aaI(l:List cJ): aQ aI 77 [b_ l] (.bool (F7 l)):=by
 obtain⟨E,hE⟩:=cq (F7 l);rw[hE];unfold F7 at hE;simp only[b_];refine aY Hx ?_;intro Q aJ aK aL;repeat' first|refine aC ?_|refine aB ?_ ?_<;>intro hw<;>try omega|fail
 ·refine a_ ?_ rfl;rw[<-hE,cI ae,gP]
 have h10:l.length<=12:=ae;rw[bN h10,gH]at hE;with_reducible refine bG [2,2,7,13] (fun i:Nat=>[(3,I i)]) (fun _=>[]) (fun i=>i<=l.length/\ ∀ k,k<i->Hh (l.getD k default)=true) (fun i=>l.length-i) (0) ?_ ?_ ?_ ?_
 ·simp
 ·rfl
 ·exact at_
 rintro i r ⟨h1,h2⟩;by_cases hi:i<l.length
 ·have hne:=fun h=>F5 (p:=Hh) hi h;have eF:=fun he=>cn (q:=fun k=>Hh (l.getD k default)=true) h2 (i:=i) he;have hS:Hh (l.getD i default)=decide ((l.getD i default).name.length<=300):=rfl;rw[hS]at hne eF;repeat' first|refine aC ?_|refine aB ?_ ?_<;>intro hw<;>try omega|fail
  all_goals first
   | exact bI
   |(refine a_ ?_ rfl;rw[<-hE,hne (cI ae)])
   | (refine ⟨i + 1, ?_, ?_, by first | rfl | (simp [go_sem]; done), c8, at_⟩ <;> (try dsimp only)
      ·exact⟨ae,eF (bN ae)⟩
      ·omega)
 repeat' first|refine aC ?_|refine aB ?_ ?_<;>intro hw<;>try omega|fail
 refine a_ ?_ rfl;rw[<-hE,F4 (fun k hk=>h2 k ae)]
def rI(v:aW): Bool:=decide (v.s.length<=300)
def Nb(c:cJ): Bool:=decide (c.order.length<=12) && c.order.all rI
def Du(l:List cJ): Bool:=F7 l && l.all Nb
def Ie(l:List cJ): aQ aI 50 [b_ l] (.bool (Du l)):=by
 have cf:=aaI l;obtain⟨E,hE⟩:=cq (Du l);rw[hE];unfold Du at hE;have h12:F7 l=true->l.length<=12:=fun h=>by simp only[F7,aD,aM]at h;exact h.1
 simp only[b_]at cf ⊢;generalize F7 l=fe at *;refine aY ME ?_;intro Q aJ aK aL;cases fe with
 | false =>
   repeat' first|refine aC ?_|refine aB ?_ ?_<;>intro hw<;>try omega|fail
   all_goals first
    | exact bI
    |(refine a_ ?_ rfl;rw[<-hE,gP])
 | true =>
   rw[gH]at hE;have h12:=h12 rfl;repeat' first|refine aC ?_|refine aB ?_ ?_<;>intro hw<;>try omega|fail
   all_goals first|exact bI|skip
   with_reducible refine bG [2,3,8,34] (fun i:Nat=>[(3,I i)]) (fun _=>[]) (fun i=>i<=l.length/\ ∀ k,k<i->Nb (l.getD k default)=true) (fun i=>l.length-i) (0) ?_ ?_ ?_ ?_
   ·simp
   ·rfl
   ·exact at_
   rintro i r ⟨h1,h2⟩;by_cases hi:i<l.length
   ·have hne:=fun h=>F5 (p:=Nb) hi h;have eF:=fun he=>cn (q:=fun k=>Nb (l.getD k default)=true) h2 (i:=i) he;have hS:Nb (l.getD i default)=(decide ((l.getD i default).order.length<=12) && (l.getD i default).order.all rI):=rfl;rw[hS]at hne eF;obtain⟨c,hc⟩:=cq (l.getD i default);rw[hc]at hne eF;clear hS;repeat' first|refine cB hc ?_|refine aC ?_|refine aB ?_ ?_<;>intro hw<;>try omega|fail
    ·refine a_ ?_ rfl;rw[<-hE,hne (by rw[cI ae,gP])]
    have ho:c.order.length<=12:=ae;rw[bN ho,gH]at hne eF;with_reducible refine bG [2,1,4,1,21,21] (fun j:Nat=>[(4,I j)]) (fun _=>[]) (fun j=>j<=c.order.length/\ ∀ k,k<j->rI (c.order.getD k default)=true) (fun j=>c.order.length-j) (0) ?_ ?_ ?_ ?_
    ·simp
    ·rfl
    ·exact at_
    rintro j r2 ⟨g1,g2⟩;by_cases hj:j<c.order.length
    ·have ah3:=fun h=>F5 (p:=rI) hj h;have kZ:=fun he=>cn (q:=fun k=>rI (c.order.getD k default)=true) g2 (i:=j) he;have hS:rI (c.order.getD j default)=decide ((c.order.getD j default).s.length<=300):=rfl;rw[hS]at ah3 kZ;repeat' first|refine cB hc ?_|refine aC ?_|refine aB ?_ ?_<;>intro hw<;>try omega|fail
     all_goals first
      | exact bI
      |(refine a_ ?_ rfl;rw[<-hE,hne (ah3 (cI ae))])
      | (refine ⟨j + 1, ?_, ?_, by first | rfl | (simp [go_sem]; done), c8, at_⟩ <;> (try dsimp only)
         ·exact⟨ae,kZ (bN ae)⟩
         ·omega)
    repeat' first|refine cB hc ?_|refine aC ?_|refine aB ?_ ?_<;>intro hw<;>try omega|fail
    refine⟨i+1,?_,?_,by first|rfl|(simp[go_sem];done),c8,at_⟩<;>(try dsimp only)
    ·exact⟨ae,eF (F4 (fun k hk=>g2 k ae))⟩
    omega
   repeat' first|refine aC ?_|refine aB ?_ ?_<;>intro hw<;>try omega|fail
   refine a_ ?_ rfl;rw[<-hE,F4 (fun k hk=>h2 k ae)]
def Nc(r:h_): Bool:=F6 r.cells && F6 r.outs
def w6(t:Table): Bool:=decide (t.name.length<=300) && decide (t.rules.length<=26) && Du t.ins && Du t.outs && t.rules.all Nc
def UN(t:Table): aQ aI 24 [dP t] (.bool (w6 t)):=by
 have ci:=Ie t.ins;have co:=Ie t.outs;obtain⟨E,hE⟩:=cq (w6 t);rw[hE];unfold w6 at hE;simp only[dP,fU,b_,eL]at ci co ⊢;generalize Du t.ins=oi at *;generalize Du t.outs=oo at *;refine aY Jg ?_;intro Q aJ aK aL;by_cases hb:(decide (t.name.length<=300) && decide (t.rules.length<=26) && oi && oo)=true
 case neg =>
  simp only[kB]at hb;rw[hb,gP]at hE;cases oi<;>cases oo
  all_goals
   repeat' first|refine aC ?_|refine aB ?_ ?_<;>intro hw<;>try omega|fail
  all_goals first
   | exact bI
   |(refine a_ ?_ rfl;rw[<-hE])
   |(exfalso;simp at hb;omega)
 rw[hb,gH]at hE;simp only[aD,aM]at hb;obtain⟨⟨⟨b1,b2⟩,rfl⟩,rfl⟩:=hb;repeat' first|refine aC ?_|refine aB ?_ ?_<;>intro hw<;>try omega|fail
 all_goals first|exact bI|skip
 with_reducible refine bG [2,2,26,25] (fun i:Nat=>[(3,I i)]) (fun _=>[.cells [.str t.name,.aS false EC (t.ins.map dU),.aS false EC (t.outs.map dU),I t.bY,I t.agg,.aS false ER (t.rules.map fZ)]]) (fun i=>i<=t.rules.length/\ ∀ k,k<i->Nc (t.rules.getD k default)=true) (fun i=>t.rules.length-i) (0) ?_ ?_ ?_ ?_
 ·simp
 ·rfl
 ·exact at_
 rintro i r ⟨h1,h2⟩;by_cases hi:i<t.rules.length
 ·have hne:=fun h=>F5 (p:=Nc) hi h;have eF:=fun he=>cn (q:=fun k=>Nc (t.rules.getD k default)=true) h2 (i:=i) he;have hS:Nc (t.rules.getD i default)=(F6 (t.rules.getD i default).cells && F6 (t.rules.getD i default).outs):=rfl;have c1:=Ic (t.rules.getD i default).cells;have c2:=Ic (t.rules.getD i default).outs;rw[hS]at hne eF;simp only[jL]at c1 c2;generalize F6 (t.rules.getD i default).cells=u1 at *;generalize F6 (t.rules.getD i default).outs=u2 at *;cases u1<;>cases u2
  all_goals
   repeat' first|refine aC ?_|refine aB ?_ ?_<;>intro hw<;>try omega|fail
  all_goals first
   | exact bI
   |(refine a_ ?_ rfl;rw[<-hE,hne rfl])
   | (refine ⟨i + 1, ?_, ?_, by first | rfl | (simp [go_sem]; done), c8, at_⟩ <;> (try dsimp only)
      ·exact⟨ae,eF rfl⟩
      ·omega)
 repeat' first|refine aC ?_|refine aB ?_ ?_<;>intro hw<;>try omega|fail
 refine a_ ?_ rfl;rw[<-hE,F4 (fun k hk=>h2 k ae)]
set_option maxRecDepth 8000
def SR(v:aW): Prop:= -9223372036854775808<=v.n/\v.n<=9223372036854775807
def Yj(l:List cJ): Prop:= ∀ c ∈ l,∀ v ∈ c.order,SR v
def Jb(t:Table): Prop:=Yj t.ins/\Yj t.outs
def V_{l:List cJ}(h:Du l=true)(hr:Yj l): l.length<=12/\ ∀ c ∈ l,wv c:=by
 simp only[Du,F7,aD,aM,aZ]at h;obtain⟨⟨h1,h2⟩,h3⟩:=h;refine⟨h1,fun c hc=>?_⟩;have a:=h2 c hc;have b:=h3 c hc;simp only[Hh,Nb,aD,aM,aZ]at a b;refine⟨ae,ae,fun v hv=>⟨hr c hc v hv,?_⟩⟩;have:=b.2 v hv;simp only[rI,aM]at this;omega
def SS{l:List aT}(h:F6 l=true): l.length<=10/\ ∀ s ∈ l,s.length<=300:=by
 simp only[F6,aD,aM,aZ]at h;exact⟨h.1,fun s hs=>by have:=h.2 s hs;simpa[Na]using this⟩
def adp{t:Table}(h:w6 t=true)(hr:Jb t): jV t:=by
 simp only[w6,aD,aM,aZ]at h;obtain⟨⟨⟨⟨h1,h2⟩,h3⟩,h4⟩,h5⟩:=h;have ci:=V_ h3 hr.1;have co:=V_ h4 hr.2;refine⟨ae,⟨ae,ci.2⟩,⟨ae,co.2⟩,ae,fun r BG=>?_⟩;have:=h5 r BG;simp only[Nc,aD]at this;have a:=SS this.1;have b:=SS this.2;exact⟨⟨ae,fun s hs=>by have:=a.2 s hs;omega⟩,ae,fun s hs=>by have:=b.2 s hs;omega⟩
def Dv{α : Type}{p : α-> α->Bool}(l:List α)(h:∀ x ∈ l,p x x=true): fq p l l=true:=by
 induction l with
 | nil=>rfl
 | cons x l ih=>simp only[fq,h x aR,gH];exact ih (fun y hy=>h y (dm _ hy))
def Wa{l:List cJ}(h:l.length<=2 ^ 30/\ ∀ c ∈ l,wv c): SJ l:=⟨ae,fun c hc=>(h.2 c hc).2.1⟩
def aaJ{t:Table}(h:jV t): Lu t:=⟨Wa h.2.1,Wa h.2.2.1,by have:=h.2.2.2.1;omega,fun r hr=>by
 have:=h.2.2.2.2 r hr;exact⟨ae,ae⟩⟩
def Wb: Lu sZ:=⟨⟨da,fun c hc=>(by cases hc)⟩,⟨da,fun c hc=>(by cases hc)⟩,da,fun c hc=>(by cases hc)⟩
def adq{t:Table}(h:jV t): Lu (fW t).1:=by
 by_cases he:(er t).2.2.2=0
 ·unfold fW;rw[aj ae];split
  ·exact Wb
  obtain⟨a,b,c,d⟩:=aaJ h;obtain⟨h1,h2⟩:=Bl h he;refine⟨a,b,?_,fun r hr=>?_⟩
  ·dsimp only;rw[w5];omega
  obtain⟨k,_,rfl⟩:=dG.1 hr;have hk:=h2 k;unfold pU;rw[SL];refine⟨?_,?_⟩
  ·dsimp only;rw[Ds];have:=hk.1.1;omega
  dsimp only;rw[FZ];have:=hk.2.1;omega
 rw[s0 he];exact Wb
abbrev TK:=Int × aT × Int
def tk(t:Tok): TK:=(t.kind,t.s,t.n)
def Bs(r:aT): Prop:=r.head? = some 32
def Lx(B:aT->Prop)(s:aT)(ks:List TK): Prop:= ∀ r,B r-> ∀(f pos:Nat) (acc:List Tok),(s++r).length<f-> ∃ f' ts,r.length<f'/\tO f (s++r) pos acc=tO f' r (pos+s.length) (acc++ts)/\ts.map tk=ks
def Lx.nil(B:aT->Prop): Lx B [] []:=fun r _ f pos acc hf=>⟨f,[],hf,aR,rfl⟩
def Lx.app{B1 B2:aT->Prop}{s1 s2:aT}{k1 k2:List TK}(h1:Lx B1 s1 k1)(h2:Lx B2 s2 k2)(hb:∀ r,B2 r->B1 (s2++r)): Lx B2 (s1++s2) (k1++k2):=by
 intro r hr f pos acc hf;obtain⟨f1,t1,a1,b1,c1⟩:=h1 (s2++r) (hb r hr) f pos acc (by rw[<-aV];exact hf);obtain⟨f2,t2,a2,b2,c2⟩:=h2 r hr f1 (pos+s1.length) (acc++t1) a1;refine⟨f2,t1++t2,a2,?_,by rw[fH,c1,c2]⟩;rw[aV,b1,b2,aA,aV,dB]
def Lx.weak{B B':aT->Prop}{s:aT}{ks:List TK}(h:Lx B s ks)(hb:∀ r,B' r->B r): Lx B' s ks:=fun r hr=>h r (hb r hr)
def Lx.sp(B:aT->Prop): Lx B [32] []:=by
 intro r _ f pos acc hf;obtain⟨f,rfl⟩:∃ k,f=k+1:=⟨f-1,by simp at hf;omega⟩;refine⟨f,[],by simp at hf;omega,?_,rfl⟩;rw[dN,wR,au da,bW];rfl
def Lx.one{B:aT->Prop}{s:aT}{k:TK}(hs:s≠[])(h32:(s.getD 0 0).toNat≠32)(h:∀ r,B r->kG (s++r)=⟨k.1,k.2.1,k.2.2,s.length,0⟩): Lx B s [k]:=by
 intro r hr f pos acc hf;have h1:=h r hr;obtain⟨c,s',rfl⟩:∃ c s',s=c::s':=by cases s with|nil=>exact absurd rfl hs|cons c s'=>exact⟨c,s',rfl⟩
 obtain⟨f,rfl⟩:∃ k,f=k+1:=⟨f-1,by simp at hf;omega⟩;refine⟨f,[⟨k.1,k.2.1,k.2.2,pos⟩],by simp at hf;omega,?_,rfl⟩;rw[bQ]at h1 ⊢;rw[wR,aj (by simpa using h32),h1,au rfl];simp
def Bs.cons{r:aT}(h:Bs r): ∃ r',r=32::r':=by
 cases r with
 | nil=>cases h
 | cons c r=>cases h;exact⟨r,rfl⟩
def al9(v:aW): TK:=if v.kind=1 then(2,[],v.n)else if v.kind=2 then(3,v.s,0)else if v.kind=3 then(1,if v.n=1 then Ah else wV,0)else (1,Le,0)
def ze(w:Int × List TK)(lvl:Int): List TK:=if w.1<lvl then(4,[40],0)::(w.2++[(4,[41],0)])else w.2
def al_: TK:=(1,[105,102],0)
def ah4: TK:=(1,thenS,0)
def ah5: TK:=(1,G_,0)
def ajS(op:Int): TK:=(tE (fg op),(fg op).sign,0)
def ajT(op:Int)(v:aW)(s:aT)(ws:List (Int × List TK)): List TK :=
 if op=1 then [al9 v]else if op=2 then [(1,s,0)]
 else if op=3 then(4,[45],0)::ze (ws.getD 0 default) 6
 else if op=16 then al_::(ze (ws.getD 0 default) 0++(ah4::(ze (ws.getD 1 default) 0++(ah5::ze (ws.getD 2 default) 0))))
 else ze (ws.getD 0 default) (if(fg op).level=3 then 4 else(fg op).level)++(ajS op::ze (ws.getD 1 default) ((fg op).level+1))
mutual
def adr: Expr->List TK
 | .mk op v s l=>ajT op v s (ah6 l)
def ah6: List Expr->List (Int × List TK)
 | []=>[]
 | x::r=>(fJ x.op,adr x)::ah6 r
end
def Lz(x:Expr)(lvl:Int): List TK:=ze (fJ x.op,adr x) lvl
def Ao(T:List Tok): Nat->List TK->Prop
 | _,[]=>True
 | p,k::ks=>(p<T.length/\tk (T.getD p default)=k)/\Ao T (p+1) ks
def Ao.app{T:List Tok}{a b:List TK}: ∀ {p:Nat},Ao T p (a++b)↔Ao T p a/\Ao T (p+a.length) b:=by
 induction a with
 | nil=>intro p;simp[Ao]
 | cons k a ih =>
   intro p;rw[bQ];simp only[Ao,ih,aO];rw[show p+(a.length+1)=p+1+a.length by omega,and_assoc,and_assoc,and_assoc]
def Ao.map(T:List Tok): ∀(p:Nat),p<=T.length->Ao T p ((T.drop p).map tk):=by
 intro p hp
 induction hn:T.length-p generalizing p with
 | zero=>rw[List.drop_eq_nil_of_le ae];trivial
 | succ n ih =>
   have hlt:p<T.length:=ae;rw[dW hlt,bB];refine⟨⟨hlt,?_⟩,ih (p+1) hlt ae⟩;rw[aq,aG hlt];rfl
def afZ{T:List Tok}{p:Nat}(h:T.length<=p)(l:Int): y6 T p false l=none:=by
 unfold y6;rw[fC];intro x _;have:qc T p (tE x) x.sign=false:=by simp only[qc,Bool.and_eq_false_iff,decide_eq_false_iff_not];left;omega
 simp[jo,this]
def Dw(T:List Tok)(p lvl:Nat): Prop:= ∀ l:Nat,lvl<=l->y6 T p false l=none
def Dw.up{T:List Tok}{p a b:Nat}(h:Dw T p a)(hab:a<=b): Dw T p b:=fun l hl=>h l (cZ hab hl)
def Dw.end{T:List Tok}{p:Nat}(h:T.length<=p)(lvl:Nat): Dw T p lvl:=fun l _=>afZ h l
def Rd(T:List Tok)(x:Expr)(p q lvl:Nat): Prop:= ∀ f,8*(q-p)+(8-lvl)<=f->dJ T f none lvl p=⟨x,q,false⟩
structure an6 (x:Expr):Prop where
 pos:1<=(adr x).length
 a:∀ (T:List Tok) (p lvl:Nat) (i:Int),i=lvl->lvl<=7->Ao T p (Lz x i)->Dw T (p+(Lz x i).length) lvl->Rd T x p (p+(Lz x i).length) lvl
 c:∀ (T:List Tok) (p L:Nat) (i:Int),i=L->1<=L->L<=5->L≠3->Ao T p (Lz x i)->Dw T (p+(Lz x i).length) (L+1)-> ∀ f,8*(Lz x i).length+(8-L)<=f-> ∃ f',f<=f'+1+(Lz x i).length/\dJ T f none L p=dJ T f' (some x) L (p+(Lz x i).length)
 f:∀ (T:List Tok) (p lvl:Nat),1<=lvl->Ao T p (Lz x lvl)->qc T p 1 [105,102]=false
def Ao.le{T:List Tok}{ks:List TK}: ∀ {p:Nat},Ao T p ks->p<=T.length->p+ks.length<=T.length:=by
 induction ks with
 | nil=>intro p _ hp;exact hp
 | cons k ks ih=>intro p h hp;rw[aO];have:=ih h.2 h.1.1;omega
def LA{t:Table}{r:h_}(h:(lU t r).2.2=0): r.cells.length=t.ins.length/\r.outs.length=t.outs.length/\(∀ j,j<r.cells.length->(rH t r j).2=0)/\(∀ j,j<r.outs.length->(lA t r j).2=0)/\lU t r=(⟨mK t r r.cells.length,pT t r r.outs.length⟩,0,0):=by
 by_cases hb:r.cells.length≠t.ins.length\/r.outs.length≠t.outs.length
 ·rw[OL hb]at h;exact absurd h da
 have h1:r.cells.length=t.ins.length:=ae;have h2:r.outs.length=t.outs.length:=ae
 have hc:∀ j,j<r.cells.length->(rH t r j).2=0:=by
  cases hq:(List.range r.cells.length).find? (fun k=>(rH t r k).2 != 0)with
  | some k =>
    exfalso;unfold lU at h;rw[aj hb,hq]at h;have:=fA hq;simp at this;exact this h
  | none =>
    intro j hj;have:=fC.1 hq j (eN.2 hj);simpa using this
 have ho:∀ j,j<r.outs.length->(lA t r j).2=0:=by
  cases hq:(List.range r.outs.length).find? (fun k=>(lA t r k).2 != 0)with
  | some k =>
    exfalso;unfold lU at h;rw[aj hb,ot (fun j hj=>by simp[hc j hj])]at h;dsimp only at h;rw[hq]at h;have:=fA hq;simp at this;exact this h
  | none =>
    intro j hj;have:=fC.1 hq j (eN.2 hj);simpa using this
 exact⟨h1,h2,hc,ho,SH h1 h2 hc ho⟩
def Ig{t:Table}(h:(fW t).2.2.2=0): (er t).2.2.2=0/\(∀ j,j<(er t).1.lines.length->(pU t j).2.2=0)/\fW t=({ t with rules:=wz t (er t).1.lines.length },0,0,0):=by
 by_cases he:(er t).2.2.2=0
 ·have hr : ∀ j, j < (er t).1.lines.length -> (pU t j).2.2 = 0 := by
   cases hq:(List.range (er t).1.lines.length).find? (fun k=>(pU t k).2.2 != 0)with
   | some k =>
     exfalso;unfold fW at h;rw[aj ae,hq]at h;have:=fA hq;simp at this;exact this h
   | none =>
     intro j hj;have:=fC.1 hq j (eN.2 hj);simpa using this
  exact⟨he,hr,ON he hr⟩
 rw[s0 he]at h;exact absurd h he
def j_(a b:Int): Int:=if a<b then -1 else if b<a then 1 else 0
def jr(a b:aW): Int:=if j_ a.kind b.kind≠0 then j_ a.kind b.kind else if j_ a.n b.n≠0 then j_ a.n b.n else Lib.compareBytes a.s b.s
def iS: List aW->List aW->Int
 | [],[]=>0
 | [],_::_=> -1
 | _::_,[]=>1
 | a::r,b::t=>if jr a b≠0 then jr a b else iS r t
def F8(x:List aW): List (List aW)->List (List aW)
 | []=>[x]
 | y::r=>if iS x y<0 then x::y::r else y::F8 x r
def yd: List (List aW)->List (List aW)->List (List aW)
 | [],acc=>acc
 | x::r,acc=>yd r (F8 x acc)
inductive jG where
 | ok (v:aW)
 | err (e:Int)
deriving DecidableEq,Inhabited
def kq(n:Int): jG:=if -9223372036854775808<=n/\n<=9223372036854775807 then .ok ⟨1,n,[]⟩else .err 15
def xE(a b:Int): jG:=if b=0 then .err 16 else kq (a.tdiv b)
def fK(b:Bool): aW:=⟨3,if b then 1 else 0,[]⟩
def ek(v:aW): Bool:=decide (v.kind=0)
def qh(op a b:Int): jG:=if op=4 then kq (a+b)else if op=5 then kq (a-b)else if op=6 then kq (a*b)else xE a b
def kI(op:Int)(a b:aW): Bool:=decide (op=4) && (decide (a.kind=2) || decide (b.kind=2))
def wA(op:Int)(a b:aW): jG :=
 if !(cG a.kind (if kI op a b then 2 else 1)) || !(cG b.kind (if kI op a b then 2 else 1))then .err 14
 else if ek a || ek b then .ok v0
 else if kI op a b then(if 40<a.s.length+b.s.length then .err 5 else .ok ⟨2,0,a.s++b.s⟩)
 else qh op a.n b.n
def ye(op:Int)(a b:aW): jG :=
 if cG a.kind b.kind=false then .err 14
 else if op=8 then .ok (fK (decide (a=b)))
 else if op=9 then .ok (fK (!(decide (a=b))))
 else if a.kind=3\/b.kind=3 then .err 14
 else if ek a || ek b then .ok v0
 else if op=10 then .ok (fK (decide (jr a b<0)))
 else if op=11 then .ok (fK (decide (jr a b<=0)))
 else if op=12 then .ok (fK (decide (0<jr a b)))
 else .ok (fK (decide (0<=jr a b)))
def r_(op:Int)(a b:aW): jG :=
 if !(cG a.kind 3) || !(cG b.kind 3)then .err 14
 else if a=fK (decide (op=15))\/b=fK (decide (op=15))then .ok (fK (decide (op=15)))
 else if ek a || ek b then .ok v0
 else .ok (fK (decide (op=14)))
def Nd(op:Int)(a b:aW): jG:=if op<=7 then wA op a b else if op<=13 then ye op a b else r_ op a b
def Nf(a:aW): jG:=if cG a.kind 1=false then .err 14 else if ek a then .ok a else kq (0-a.n)
def qM(cs:List cJ)(row:List aW)(op:Int)(v:aW)(s:aT)(rs:List jG): jG :=
 if op=1 then .ok v
 else if op=2 then(if vq cs s<0 then .err 13 else .ok (row.getD (vq cs s).toNat default))
 else match rs.getD 0 default with
 | .err e=> .err e
 | .ok a => if op = 3 then Nf a
   else if op=16 then(if cG a.kind 3=false then .err 14 else if a=fK true then rs.getD 1 default else rs.getD 2 default)
   else match rs.getD 1 default with
   | .err e=> .err e
   | .ok b=>Nd op a b
mutual
def s4(cs:List cJ)(row:List aW): Expr->jG
 | .mk op v s l=>qM cs row op v s (Ih cs row l)
def Ih(cs:List cJ)(row:List aW): List Expr->List jG
 | []=>[]
 | x::r=>s4 cs row x::Ih cs row r
end
def Hi(cs:List cJ)(row:List aW)(l:List Expr): Ih cs row l=l.map (s4 cs row):=by
 induction l with
 | nil=>rfl
 | cons x r ih=>simp[Ih,ih]
def ah7(cs:List cJ)(row:List aW){l:List Expr}{i:Nat}(h:i<l.length): (Ih cs row l).getD i default=s4 cs row (l.getD i default):=by
 rw[Hi];simp[aq,h]
def zf(row:List aW): Bool:=row.all bZ
def j0(x:Expr)(cs:List cJ)(row:List aW): jG:=if dY x && decide (cs.length=row.length) && zf row then s4 cs row x else .err 2
def ug(v:aW): Prop:=(-9223372036854775808<=v.n/\v.n<=9223372036854775807)/\v.s.length<=2 ^ 30
def iw(v:aW): Prop:=bZ v=true/\ug v
def jG.good: jG->Prop
 | .ok v=>iw v
 | .err e=>e=2\/e=5\/e=13\/e=14\/e=15\/e=16
def F9: (jG.err 14).good:= .inr (.inr (.inr (.inl rfl)))
def Wc(op:Int)(a b:aW)(k:Int)(hk:(if kI op a b then 2 else 1)=k): wA op a b=if cG a.kind k=true/\cG b.kind k=true then(if ek a || ek b then .ok v0 else if kI op a b then(if 40<a.s.length+b.s.length then .err 5 else .ok ⟨2,0,a.s++b.s⟩)else qh op a.n b.n)else .err 14:=by
 unfold wA;rw[hk];cases h1:cG a.kind k<;>cases h2:cG b.kind k<;>simp
def Hj: iw v0:=by unfold iw ug;decide
def LB(b:Bool): iw (fK b):=by unfold iw ug;cases b<;>decide
def JE(n:Int): (kq n).good:=by
 unfold kq;split
 ·rename_i h;exact⟨by simp[bZ],h,aR⟩
 exact .inr (.inr (.inr (.inr (.inl rfl))))
def Yk{s:aT}: bZ ⟨2,0,s⟩=mj s:=by simp[bZ]
def JF{v:aW}(h:bZ v=true)(hk:v.kind=2): mj v.s=true:=by
 unfold bZ at h;rw[if_neg ae,if_neg ae,if_pos hk]at h;simp only[aD]at h;exact h.2
def af0{v:aW}(h:bZ v=true)(hk:v.kind=0): v=v0:=by
 obtain⟨k,n,s⟩:=v;dsimp only at hk;subst hk;rw[Dh]at h;simp only[aD,aM]at h;rw[h.1,h.2];rfl
def ads(a b:Int): (xE a b).good:=by
 unfold xE;split
 ·exact .inr (.inr (.inr (.inr (.inr rfl))))
 exact JE _
def Yl(op a b:Int): (qh op a b).good:=by
 unfold qh;repeat' split
 all_goals first|exact JE _|exact ads _ _
def aaK{op:Int}{a b:aW}(ha:iw a)(hb:iw b): (wA op a b).good:=by
 obtain⟨k,hk⟩:∃ k:Int,(if kI op a b then 2 else 1)=k:=⟨_,rfl⟩;rw[Wc op a b k hk];by_cases h1:cG a.kind k=true/\cG b.kind k=true
 ·rw[au h1];by_cases h2:(ek a || ek b)=true
  ·rw[au h2];exact Hj
  rw[aj h2];by_cases h3:kI op a b=true
  ·rw[au h3];rw[au h3]at hk;subst hk;by_cases h4:40<a.s.length+b.s.length
   ·rw[au h4];exact .inr (.inl rfl)
   rw[aj h4];simp only[ek,cG,cH,aM,not_or]at h1 h2;have ka:a.kind=2:=ae;have kb:b.kind=2:=ae;have pa:=JF ha.1 ka;have pb:=JF hb.1 kb;refine⟨?_,⟨by show(-9223372036854775808:Int)<=0;decide,by show(0:Int)<=9223372036854775807;decide⟩,by simp only[aA];omega⟩;rw[Yk];unfold mj at pa pb ⊢;simp only[aD,aM,List.all_append,aA]at pa pb ⊢;exact⟨ae,pa.2,pb.2⟩
  rw[aj h3];exact Yl _ _ _
 rw[aj h1];exact F9
def aaL{op:Int}{a b:aW}: (ye op a b).good:=by
 unfold ye;repeat' split
 all_goals first|exact LB _|exact Hj|exact F9
def UO{op:Int}{a b:aW}: (r_ op a b).good:=by
 unfold r_;repeat' split
 all_goals first|exact LB _|exact Hj|exact F9
def adt{op:Int}{a b:aW}(ha:iw a)(hb:iw b): (Nd op a b).good:=by
 unfold Nd;repeat' split
 all_goals first|exact aaK ha hb|exact aaL|exact UO
def adu{a:aW}(ha:iw a): (Nf a).good:=by
 unfold Nf;split
 ·exact F9
 split
 ·exact ha
 exact JE _
def SU{l:List cJ}{s:aT}: vq l s<l.length:=VU _ _
def aaM{cs:List cJ}{row:List aW}{op:Int}{v:aW}{s:aT}{rs:List jG}(hl:cs.length=row.length)(hrow:∀ w ∈ row,iw w)(hv:op=1->iw v)(h1:op≠1->op≠2->(rs.length:Int)=j8 op)(h:∀ r ∈ rs,r.good): (qM cs row op v s rs).good:=by
 unfold qM;split
 ·rename_i e;exact hv e
 split
 ·split
  ·exact .inr (.inr (.inl rfl))
  rename_i h3;have:=SU (l:=cs) (s:=s);exact hrow _ (bx ae)
 rename_i o1 o2;have hc:=rC (h1 o1 o2) o1 o2;have at_:∀ i,i<rs.length->(rs.getD i default).good:=fun i hi=>h _ (bx hi);have g0:=at_ 0 ae;split
 ·rename_i e he;rw[he]at g0;exact g0
 rename_i a he;rw[he]at g0;split
 ·exact adu g0
 split
 ·split
  ·exact F9
  split
  ·exact at_ 1 ae
  exact at_ 2 ae
 have g1:=at_ 1 ae;split
 ·rename_i e hb;rw[hb]at g1;exact g1
 rename_i b hb;rw[hb]at g1;exact adt g0 g1
def Dx{l:List Expr}(h:sU l=true){y:Expr}(hy:y ∈ l): dY y=true:=by
 induction l with
 | nil=>cases hy
 | cons x r ih =>
   simp only[sU,aD]at h;rcases List.mem_cons.1 hy with rfl|hy
   ·exact h.1
   exact ih h.2 hy
def SV{cs:List cJ}{row:List aW}(hl:cs.length=row.length)(hrow:∀ w ∈ row,iw w)(x:Expr): dY x=true->jj x->(s4 cs row x).good:=by
 induction x using Expr.ind with
 | h op v s l ih =>
   intro hr hx;simp only[dY,aD,aM]at hr;simp only[jj]at hx;simp only[s4];refine aaM hl hrow (fun e=>?_) (fun _ _=>by rw[Hi,dF];exact hr.1) (fun r hr'=>?_)
   ·have h2:=hr.2;rw[au e]at h2;simp only[aD]at h2;refine⟨h2.1.2,⟨hx.2.2.1,hx.2.2.2.1⟩,?_⟩;have:=h2.1.2;by_cases k2:v.kind=2
    ·have:=JF this k2;unfold mj at this;simp only[aD,aM]at this;omega
    have:v.s=[]:=by
     obtain⟨vk,vn,vs⟩:=v;dsimp only at k2 this ⊢;by_cases k0:vk=0
     ·subst k0;rw[Dh]at this;simp at this;exact this.2
     by_cases k1:vk=1
     ·subst k1;rw[Js]at this;simpa using this
     by_cases k3:vk=3
     ·subst k3;rw[Jt]at this;simp at this;exact this.1
     rw[R_ _ _ _ k0 k1 k2 k3]at this;cases this
    rw[this];simp
   rw[Hi]at hr';obtain⟨y,hy,rfl⟩:=dG.1 hr';refine ih y hy ?_ (B6 hx.2.2.2.2 hy);have h2:=hr.2;have hne:l≠[]:=fun e=>by rw[e]at hy;cases hy
   have hlen:0<l.length:=iR.2 hne;have n1:op≠1:=fun e=>by subst e;have:=hr.1;simp[j8]at this;exact hne (by simpa using this)
   have n2:op≠2:=fun e=>by subst e;have:=hr.1;simp[j8]at this;exact hne (by simpa using this)
   rw[aj n1,aj n2]at h2;simp only[aD]at h2;exact Dx h2.2 hy
def pV{cs:List cJ}{row:List aW}(hrow:∀ w ∈ row,ug w){x:Expr}(hx:jj x): (j0 x cs row).good:=by
 unfold j0;split
 ·rename_i h;simp only[aD,aM]at h;exact SV h.1.2 (fun w hw=>⟨aZ.1 h.2 w hw,hrow w hw⟩) x h.1.1 hx
 exact .inl rfl
def jG.Ap(k:Int): jG->Prop
 | .ok v=>v.kind=0\/v.kind=k
 | .err _=>True
def Wd(n:Int): (kq n).Ap 1:=by
 unfold kq;split
 ·exact .inr rfl
 trivial
def aaN(op a b:Int): (qh op a b).Ap 1:=by
 unfold qh xE;repeat' split
 all_goals first|exact Wd _|trivial
def OO{cs:List cJ}: ∀ {l:List Expr} {ks:List Int},lz cs l=(ks,0)->ks.length=l.length/\ ∀ i,i<l.length->jX cs (l.getD i default)=(ks.getD i 0,0)
 | [], ks, h => by
   simp only[lz,Prod.mk.injEq]at h;obtain⟨rfl,_⟩:=h;exact⟨rfl,fun i hi=>absurd hi (c9 _)⟩
 | x :: r, ks, h => by
   simp only[lz]at h;split at h
   ·rename_i hx;simp only[Prod.mk.injEq]at h;exact absurd h.2 hx
   split at h
   ·rename_i hx;simp only[Prod.mk.injEq]at h;exact absurd h.2 hx
   rename_i h1 h2;simp only[Prod.mk.injEq,and_true]at h;subst h;have ih:=OO (cs:=cs) (l:=r) (ks:=(lz cs r).1) (Prod.ext rfl (by simpa using h2));refine⟨by simp[ih.1],fun i hi=>?_⟩;cases i with
   | zero=>exact Prod.ext rfl (by simpa using h1)
   | succ i=>simpa using ih.2 i (by simpa using hi)
def Ga{op:Int}{a b:aW}{k:Int}(ht:kI op a b=true->k=2)(hf:kI op a b=false->(ek a || ek b)=false->k=1): (wA op a b).Ap k:=by
 obtain⟨c,hk⟩:∃ c:Int,(if kI op a b then 2 else 1)=c:=⟨_,rfl⟩;rw[Wc op a b c hk];by_cases h1:cG a.kind c=true/\cG b.kind c=true
 ·rw[au h1];by_cases h2:(ek a || ek b)=true
  ·rw[au h2];exact .inl rfl
  rw[aj h2];cases h3:kI op a b with
  | true =>
    rw[au rfl,ht h3];by_cases h4:40<a.s.length+b.s.length
    ·rw[au h4];trivial
    rw[aj h4];exact .inr rfl
  | false =>
    rw[aj da,hf h3 (by simpa using h2)];exact aaN _ _ _
 rw[aj h1];trivial
def adw{op:Int}{a b:aW}{k1 k2:Int}(ha:a.kind=0\/a.kind=k1)(hb:b.kind=0\/b.kind=k2)(h3:4<=op)(h7:op<=7)(h:(lJ op [k1,k2]).2=true): (wA op a b).Ap (lJ op [k1,k2]).1:=by
 have hu:lJ op [k1,k2]=if op=4 then(if oM k1 k2=2 then(2,[k1,k2].all fun k=>cG k 2)else (1,[k1,k2].all fun k=>cG k 1))else (1,[k1,k2].all fun k=>cG k 1):=by
  unfold lJ;by_cases h4:op=4
  ·subst h4;simp
  rw[au ae,aj h4]
 rw[hu]at h ⊢;by_cases h4:op=4
 ·rw[au h4]at h ⊢;by_cases ho:oM k1 k2=2
  ·rw[au ho]at h ⊢;simp only[List.all_cons,List.all_nil,jy,aD,cG,cH,aM]at h;refine Ga (fun _=>rfl) (fun ht hn=>?_);exfalso;simp only[kI,ek,Bool.and_eq_false_iff,Bool.or_eq_false_iff,decide_eq_false_iff_not]at ht hn;omega
  rw[aj ho]at h ⊢;simp only[List.all_cons,List.all_nil,jy,aD,cG,cH,aM]at h;refine Ga (fun ht=>?_) (fun _ _=>rfl);exfalso;simp only[kI,aD,cH,aM]at ht;omega
 rw[aj h4]at h ⊢;exact Ga (fun ht=>by simp[kI,h4]at ht) (fun _ _=>rfl)
def aeT(b:Bool): (jG.ok (fK b)).Ap 3:= .inr rfl
def aeU(k:Int): (jG.ok v0).Ap k:= .inl rfl
def aeV(k e:Int): (jG.err e).Ap k:=trivial
def adx(op:Int)(a b:aW): (ye op a b).Ap 3:=by
 unfold ye;repeat' split
 all_goals first|exact aeT _|exact aeU _|exact aeV _ _
def Ym(op:Int)(a b:aW): (r_ op a b).Ap 3:=by
 unfold r_;repeat' split
 all_goals first|exact aeT _|exact aeU _|exact aeV _ _
def af1{cs:List cJ}{row:List aW}(hrow:∀ i,i<cs.length->(row.getD i default).kind=0\/(row.getD i default).kind=(cs.getD i default).kind)(x:Expr): ∀ k,dY x=true->jX cs x=(k,0)->(s4 cs row x).Ap k:=by
 induction x using Expr.ind with
 | h op v s l ih =>
   intro k hr hk;simp only[dY,aD,aM]at hr;simp only[jX]at hk;simp only[s4];unfold qM;by_cases o1:op=1
   ·rw[au o1]at hk ⊢;simp only[Prod.mk.injEq,and_true]at hk;exact .inr hk
   rw[aj o1]at hk ⊢;by_cases o2:op=2
   ·rw[au o2]at hk ⊢;split at hk
    ·simp at hk
    rename_i h3;rw[aj h3];simp only[Prod.mk.injEq,and_true]at hk;have:=SU (l:=cs) (s:=s);have:=hrow (vq cs s).toNat ae;rw[hk]at this;exact this
   rw[aj o2]at hk ⊢;have Eg:=hr.2;rw[aj o1,aj o2]at Eg;simp only[aD]at Eg;split at hk
   case isFalse h=>simp only[Prod.mk.injEq]at hk;exact absurd hk.2 h
   rename_i hz;obtain⟨hl,hat⟩:=OO (cs:=cs) (l:=l) (ks:=(lz cs l).1) (Prod.ext rfl hz);generalize (lz cs l).1=ks at hk hl hat
   have hc:=rC hr.1 o1 o2
   have ihk:∀ i,i<l.length->((Ih cs row l).getD i default).Ap (ks.getD i 0):=fun i hi=>by
    rw[ah7 cs row hi];exact ih _ (bx hi) _ (Dx Eg.2 (bx hi)) (hat i hi)
   unfold XT at hk;split at hk
   case isFalse h=>simp at hk
   rename_i ht;simp only[Prod.mk.injEq,and_true]at hk;subst hk;have g0:=ihk 0 ae;split
   ·trivial
   rename_i a he;rw[he]at g0;have g0:a.kind=0\/a.kind=ks.getD 0 0:=g0;by_cases o3:op=3
   ·rw[au o3];have:(lJ op ks).1=1:=by unfold lJ;rw[if_pos (.inl o3)]
    rw[this];unfold Nf;split
    ·trivial
    split
    ·rename_i h1 h2;exact .inl (by simpa[ek]using h2)
    exact Wd _
   rw[aj o3];by_cases o16:op=16
   ·subst o16;rw[au rfl];have g1:=ihk 1 ae;have g2:=ihk 2 ae
    have ht':cG (ks.getD 1 0) (ks.getD 2 0)=true:=by
     simp[lJ]at ht;exact ht.2
    have e1:(lJ 16 ks).1=oM (ks.getD 1 0) (ks.getD 2 0):=by simp[lJ]
    rw[e1];simp only[cG,cH,aM]at ht'
    have m1:((Ih cs row l).getD 1 default).Ap (oM (ks.getD 1 0) (ks.getD 2 0)):=by
     revert g1;cases (Ih cs row l).getD 1 default with
     | err=>intro _;trivial
     | ok v =>
       intro g1;have g1:v.kind=0\/v.kind=ks.getD 1 0:=g1;show v.kind=0\/v.kind=oM _ _;unfold oM;split<;>omega
    have m2:((Ih cs row l).getD 2 default).Ap (oM (ks.getD 1 0) (ks.getD 2 0)):=by
     revert g2;cases (Ih cs row l).getD 2 default with
     | err=>intro _;trivial
     | ok v =>
       intro g2;have g2:v.kind=0\/v.kind=ks.getD 2 0:=g2;show v.kind=0\/v.kind=oM _ _;unfold oM;split<;>omega
    by_cases hf:cG a.kind 3=false
    ·rw[au hf];trivial
    rw[aj hf];by_cases ha:a=fK true
    ·rw[au ha];exact m1
    rw[aj ha];exact m2
   rw[aj o16];have g1:=ihk 1 ae
   obtain⟨k1,k2,rfl⟩:∃ k1 k2,ks=[k1,k2]:=by
    match ks,hl with
    | [a,b],_=>exact⟨a,b,rfl⟩
    | [],h=>simp at h;omega
    | [a],h=>simp at h;omega
    | a::b::c::r,h=>simp at h;omega
   split
   ·trivial
   rename_i b hb;rw[hb]at g1;have g1:b.kind=0\/b.kind=k2:=g1;unfold Nd;by_cases h7:op<=7
   ·rw[au h7];exact adw g0 g1 ae h7 ht
   rw[aj h7];by_cases h13:op<=13
   ·rw[au h13]
    have:(lJ op [k1,k2]).1=3:=by
     unfold lJ;rw[aj ae,aj ae];by_cases h8:op=8\/op=9
     ·rw[au h8]
     rw[aj h8,au ae]
    rw[this];exact adx _ _ _
   rw[aj h13]
   have:(lJ op [k1,k2]).1=3:=by
    unfold lJ;rw[aj ae,aj ae,aj ae,aj ae,au ae]
   rw[this];exact Ym _ _ _
def uM(t:Test)(v a b:aW): Bool :=
 if t.kind=1 then decide (v=a)
 else if ek v || ek a || ek b then false
 else if t.kind=2 then decide (jr v a<0)
 else if t.kind=3 then decide (jr v a<=0)
 else if t.kind=4 then decide (0<jr v a)
 else if t.kind=5 then decide (0<=jr v a)
 else(decide (0<jr v a) ||(decide (jr v a=0) && !t.lo)) && (decide (jr v b<0) ||(decide (jr v b=0) && !t.hi))
def zg(t:Test)(v a b:aW): Bool × Int:=if oP t v.kind a.kind && oP t v.kind b.kind then(uM t v a b,0)else (false,14)
def uN(cs:List cJ)(row:List aW)(v:aW)(t:Test): Bool × Int:=match j0 t.a cs row with
 | .err e=>(false,e)
 | .ok a => if t.kind = 6 then (match j0 t.b cs row with
   | .err e=>(false,e)
   | .ok b=>zg t v a b)else zg t v a a
def uO(cs:List cJ)(row:List aW)(v:aW)(any neg:Bool): List Test->Bool × Int
 | []=>(any || neg,0)
 | t::r=>if(uN cs row v t).2≠0 then(false,(uN cs row v t).2)else if(uN cs row v t).1 then(!neg,0)else uO cs row v any neg r
def nF(c:Cell)(v:aW)(cs:List cJ)(row:List aW): Bool × Int :=
 if jJ c && bZ v && decide (cs.length=row.length) && zf row then uO cs row v c.any c.neg c.tests else(false,2)
def nG(cs:List cJ)(row:List aW): List Cell->Nat->Bool × Int
 | [],_=>(true,0)
 | c::r,k=>if(nF c (row.getD k default) cs row).2≠0\/(nF c (row.getD k default) cs row).1=false then(false,(nF c (row.getD k default) cs row).2)else nG cs row r (k+1)
def mu(ins:List cJ)(row:List aW): Bool:=decide (row.length=ins.length) && (List.range row.length).all fun i=>bZ (row.getD i default) && cG (row.getD i default).kind (ins.getD i default).kind
def s5(Gb:Int)(cs:List cJ)(row:List aW): List kF->Nat->List Int->List Int × Int × Int
 | [],_,acc=>(acc,0,0)
 | l :: r, k, acc => if (nG cs row l.cells 0).2 ≠ 0 then ([], k, (nG cs row l.cells 0).2)
   else if(nG cs row l.cells 0).1 then(if Gb=2 then([(k:Int)],0,0)else s5 Gb cs row r (k+1) (acc++[(k:Int)]))
   else s5 Gb cs row r (k+1) acc
def eJ(r:Ready)(row:List aW): List Int × Int × Int :=
 if mu r.table.ins row then s5 r.table.bY r.table.ins row r.lines 0 []else ([],0,21)
def jM(cs:List cJ)(row:List aW): List Expr->List aW->List aW × Int
 | [],acc=>(acc,0)
 | x :: r, acc => match j0 x cs row with
   | .err e=>([],e)
   | .ok v=>jM cs row r (acc++[v])
def lW(r:Ready)(row:List aW): List Int->List (List aW)->List (List aW) × Int × Int
 | [],acc=>(acc,0,0)
 | i :: q, acc => if (jM r.table.ins row (r.lines.getD i.toNat default).outs []).2 ≠ 0 then ([], i, (jM r.table.ins row (r.lines.getD i.toNat default).outs []).2)
   else lW r row q (acc++[(jM r.table.ins row (r.lines.getD i.toNat default).outs []).1])
def kT(c:cJ)(v:aW): Int:=if kP (fun x=>x==v) c.order<0 then c.order.length else kP (fun x=>x==v) c.order
def w7: List cJ->List aW->List aW->Bool
 | c::cs,a::r,b::t=>if kT c a≠kT c b then decide (kT c a<kT c b)else w7 cs r t
 | _,_,_=>false
def qi(outs:List cJ)(rows:List (List aW)): List (List aW)->Nat->Nat->Nat
 | [],_,best=>best
 | a::r,i,best=>qi outs rows r (i+1) (if w7 outs a (rows.getD best default)then i else best)
def Bn: List aW->Int->jG
 | [],n=> .ok ⟨1,n,[]⟩
 | v :: r, n => match kq (n + v.n) with
   | .err e=> .err e
   | .ok w=>Bn r w.n
def qj: List aW->aW->aW
 | [],m=>m
 | v::r,m=>qj r (if jr v m<0 then v else m)
def uP: List aW->aW->aW
 | [],m=>m
 | v::r,m=>uP r (if 0<jr v m then v else m)
def kJ(rows:List (List aW)): List aW:=(rows.map fun r=>r.getD 0 default).filter fun v=> !(ek v)
def mL(agg:Int)(rows:List (List aW)): jG :=
 if agg=4 then .ok ⟨1,rows.length,[]⟩
 else match kJ rows with
 | []=> .ok v0
 | m::l=>if agg=1 then Bn (m::l) 0 else if agg=2 then .ok (qj l m)else .ok (uP l m)
structure uQ where
 err:Int
 rules:List Int
 rows:List (List aW)
deriving Inhabited
def Cd(rows:List (List aW)): Bool:=rows.any fun r=> !(fq (fun a b=>a==b) r (rows.getD 0 default))
def nQ(t:Table)(rules:List Int)(rows:List (List aW)): uQ :=
 if t.bY=5 then(if t.agg=0 then⟨0,rules,yd rows []⟩else match mL t.agg rows with
  | .err e=>⟨e,rules,[]⟩
  | .ok v=>⟨0,rules,[[v]]⟩)
 else if t.bY=4 then(if Cd rows then⟨20,rules,[]⟩else ⟨0,rules,rows.take 1⟩)
 else if t.bY=6 then⟨0,rules,rows⟩
 else if rules=[]then ⟨0,[],[]⟩
 else if t.bY=3 then⟨0,[rules.getD (qi t.outs rows rows 0 0) default],[rows.getD (qi t.outs rows rows 0 0) default]⟩
 else⟨0,[rules.getD 0 default],[rows.getD 0 default]⟩
def jk(r:Ready)(row:List aW): uQ × Int :=
 if(eJ r row).2.2=21 then(⟨0,[],[]⟩,21)
 else if(eJ r row).2.2≠0 then(⟨(eJ r row).2.2,[(eJ r row).2.1],[]⟩,0)
 else if r.table.bY=1/\1<(eJ r row).1.length then(⟨19,(eJ r row).1,[]⟩,0)
 else if(lW r row (eJ r row).1 []).2.2≠0 then(⟨(lW r row (eJ r row).1 []).2.2,[(lW r row (eJ r row).1 []).2.1],[]⟩,0)
 else(nQ r.table (eJ r row).1 (lW r row (eJ r row).1 []).1,0)
def rJ(e:Int): AV:= .kR 27 (I e)
def sH: jG->Out
 | .ok v=> .ret (cR v)
 | .err e=> .panic (rJ e)
def eO{r:jG}: ∀ v,sH r = .panic v->v.flat=true:=by
 intro v h;cases r with
 | ok v=>cases h
 | err e=>cases h;rfl
def af2{n:FuncId}{args:List AV}{σ : ai}{K Kp:AV->ai->Prop}{r:jG}(h:dA aI n args (sH r))(k1:∀ v,r = .ok v->kj (cR v) (.mk:Tg fun r=>K r σ))(k2:∀ e,r = .err e->Kp (rJ e) σ): pP Tryz.prog n args σ (.mk:Tg (K,Kp)):=by
 cases r with
 | ok v=>exact yn h (k1 v rfl)
 | err e=>exact My h (k2 e rfl)
def af3{n:FuncId}{args:List AV}{σ : ai}{K Kp:AV->ai->Prop}{r:jG}(h:dA aI n args (sH r))(k1:∀ v,r = .ok v->kj (cR v) (.mk:Tg fun r=>K r σ))(k2:∀ e,r = .err e-> ∀ s,Kp (rJ e) s): Qy Tryz.prog n args σ (.mk:Tg (K,Kp)):=by
 cases r with
 | ok v=>exact VG h (k1 v rfl)
 | err e=>exact Mz h (k2 e rfl)
def Ce {n : FuncId} {args : List AV} {r : jG} {K1 : aW -> Prop} {K2 : Int -> Prop} {G : Prop} (h : dA aI n args (sH r)) (k1 : ∀ v, r = .ok v -> K1 v) (k2 : ∀ e, r = .err e -> K2 e)
    (hg : dA aI n args (sH r) -> (∀ v, r = .ok v -> K1 v) -> (∀ e, r = .err e -> K2 e) -> G := by
      intro h k1 k2;with_reducible first|exact af2 h k1 k2|exact af3 h k1 k2):G:=hg h k1 k2
def Cf {n : FuncId} {args : List AV} {v : AV} {K G : Prop} (h : dA aI n args (.panic v)) (k : K) (hg : dA aI n args (.panic v) -> K -> G := by
    intro h k;with_reducible first|exact My h k|exact Mz h k):G:=hg h k
def SW {n : FuncId} {args' : List AV} {v : AV} {K G : Prop} (h : dA aI n args' (.panic v)) (k : K) (hg : dA aI n args' (.panic v) -> K -> G := by
    intro h k;with_reducible first|refine My (h.weak ?_) k|refine Mz (h.weak ?_) k
    exact vw_):G:=hg h k
def j3{σ : ai}{v:AV}{r:jG}{u:aW}(h:r = .ok u)(hv:v=cR u): acC σ (.ret (oneOf [v])) (sH r):=by
 subst h;subst hv;exact View.refl _ (Dc u)
def iC{σ : ai}{r:jG}{e:Int}(h:r = .err e): acC σ (.panic (rJ e)) (sH r):=by subst h;exact rfl
def pW(e:Int)(h:e≠0): dA aI 259 [I e] (.panic (rJ e)):=by
 refine dA.of_nil (D8.go ?_) rfl rfl;unfold dO;intro Q aJ aK aL;repeat' first|refine aC ?_|refine aB ?_ ?_<;>intro hw<;>try omega|fail
 all_goals first|(simp only[go_sem,aL];done)|exact bI|rfl
def UP: aQ aI 259 [I 0] (.bR []):=by
 refine aY D8 ?_;intro Q aJ aK aL;repeat' first|refine aC ?_|refine aB ?_ ?_<;>intro hw<;>try omega|fail
 all_goals first|exact bI|exact⟨_,rfl,.refl _ rfl⟩
def QB(n e:Int): jG:=if e=0 then .ok ⟨1,n,[]⟩else .err e
def s6(n e:Int): dA aI 230 [I n,I e] (sH (QB n e)):=by
 unfold QB;by_cases h:e=0
 ·subst h;rw[au rfl];refine aY BS ?_;intro Q aJ aK aL;repeat' first|refine aC ?_|refine eS UP ?_|refine aB ?_ ?_<;>intro hw<;>try omega|fail
  exact a_ rfl rfl
 rw[aj h];refine dA.of_nil (BS.go ?_) rfl rfl;unfold dO;intro Q aJ aK aL;repeat' first|refine aC ?_|refine Cf (pW e h) ?_|refine aB ?_ ?_<;>intro hw<;>try omega|fail
 all_goals first|(simp only[go_sem,aL];done)|exact bI|rfl
def numOf: jG->Int
 | .ok v=>v.n
 | .err _=>0
def pX: jG->Int
 | .ok _=>0
 | .err e=>e
def isNum: jG->Prop
 | .ok v=>v=⟨1,v.n,[]⟩
 | .err e=>e≠0
def Wf{r:jG}(h:isNum r): QB (numOf r) (pX r)=r:=by
 unfold QB;cases r with
 | ok v =>
   simp only[pX,numOf,if_true];exact bj jG.ok h.symm
 | err e =>
   have h:e≠0:=h;exact aj h
def Gc(n:Int): isNum (kq n):=by unfold kq;split<;>simp[isNum]
def aaO(a b:Int): isNum (xE a b):=by
 unfold xE;split
 ·simp[isNum]
 exact Gc _
def UQ(op a b:Int): isNum (qh op a b):=by
 unfold qh;repeat' split
 all_goals first|exact Gc _|exact aaO _ _
def Cg{n:Int}(h : -9223372036854775808<=n/\n<=9223372036854775807): kq n = .ok ⟨1,n,[]⟩:=au h
def zh{n:Int}(h:¬ (-9223372036854775808<=n/\n<=9223372036854775807)): kq n = .err 15:=aj h
def kQ(n:Int): Prop:= -9223372036854775808<=n/\n<=9223372036854775807
def OP{n:Int}(h:9223372036854775807<n)(h':n<=18446744073709551615): di .i64 n=n-18446744073709551616:=by
 show IntKind.wrap .i64 n=_;simp only[IntKind.wrap,IntKind.bits,IntKind.signed];simp;omega
def LC{n:Int}(h:n < -9223372036854775808)(h' : -18446744073709551616<=n): di .i64 n=n+18446744073709551616:=by
 show IntKind.wrap .i64 n=_;simp only[IntKind.wrap,IntKind.bits,IntKind.signed];simp;omega
def SZ(a b:Int)(ha:kQ a)(hb:kQ b): aQ aI 267 [I a,I b] (.bR [I (numOf (kq (a+b))),I (pX (kq (a+b)))]):=by
 unfold kQ at ha hb;by_cases h : -9223372036854775808<=a+b/\a+b<=9223372036854775807
 ·rw[Cg h];refine aY A6 ?_;intro Q aJ aK aL;repeat' first|refine aC ?_|refine aB ?_ ?_<;>intro hw<;>try omega|fail
  all_goals first|exact cg rfl rfl|exact bI
 rw[zh h];by_cases h1:9223372036854775807<a+b
 ·have hwr:=OP h1 ae;refine aY A6 ?_;intro Q aJ aK aL;repeat' first|refine cB hwr ?_|refine aC ?_|refine aB ?_ ?_<;>intro hw<;>try omega|fail
  all_goals first|exact cg rfl rfl|exact bI
 have hwr:=LC (n:=a+b) ae ae;refine aY A6 ?_;intro Q aJ aK aL;repeat' first|refine cB hwr ?_|refine aC ?_|refine aB ?_ ?_<;>intro hw<;>try omega|fail
 all_goals first|exact cg rfl rfl|exact bI
def S0(a b:Int)(ha:kQ a)(hb:kQ b): aQ aI 231 [I a,I b] (.bR [I (numOf (kq (a-b))),I (pX (kq (a-b)))]):=by
 unfold kQ at ha hb;by_cases h : -9223372036854775808<=a-b/\a-b<=9223372036854775807
 ·rw[Cg h];refine aY A8 ?_;intro Q aJ aK aL;repeat' first|refine aC ?_|refine aB ?_ ?_<;>intro hw<;>try omega|fail
  all_goals first|exact cg rfl rfl|exact bI
 rw[zh h];by_cases h1:9223372036854775807<a-b
 ·have hwr:=OP h1 ae;refine aY A8 ?_;intro Q aJ aK aL;repeat' first|refine cB hwr ?_|refine aC ?_|refine aB ?_ ?_<;>intro hw<;>try omega|fail
  all_goals first|exact cg rfl rfl|exact bI
 have hwr:=LC (n:=a-b) ae ae;refine aY A8 ?_;intro Q aJ aK aL;repeat' first|refine cB hwr ?_|refine aC ?_|refine aB ?_ ?_<;>intro hw<;>try omega|fail
 all_goals first|exact cg rfl rfl|exact bI
def ady{a b:Int}(ha:kQ a)(hb:b≠0)(h:¬ (a = -9223372036854775808/\b = -1)): kQ (a.tdiv b):=by
 unfold kQ at *;by_cases h1:b = -1
 ·subst h1;rw[Int.tdiv_neg,Int.tdiv_one];omega
 by_cases h2:b=1
 ·subst h2;rw[Int.tdiv_one];exact ha
 have:=Int.natAbs_tdiv_le_natAbs a b
 have h3:(a.tdiv b).natAbs<=a.natAbs / 2:=by
  rw[Int.natAbs_tdiv];exact Nat.div_le_div_left ae ae
 omega
def adz(a b:Int)(ha:kQ a)(hb:kQ b): aQ aI 284 [I a,I b] (.bR [I (numOf (xE a b)),I (pX (xE a b))]):=by
 by_cases h0:b=0
 ·subst h0;have e:xE a 0 = .err 16:=rfl;rw[e];refine aY A7 ?_;intro Q aJ aK aL;repeat' first|refine aC ?_|refine aB ?_ ?_<;>intro hw<;>try omega|fail
  all_goals first|exact cg rfl rfl|exact bI
 have e:xE a b=kq (a.tdiv b):=aj h0;rw[e];by_cases h:a = -9223372036854775808/\b = -1
 ·obtain⟨rfl,rfl⟩:=h;rw[zh da];refine aY A7 ?_;intro Q aJ aK aL;repeat' first|refine aC ?_|refine aB ?_ ?_<;>intro hw<;>try omega|fail
  all_goals first|exact cg rfl rfl|exact bI
 have hr:=ady ha h0 h;have hwr:di .i64 (a.tdiv b)=a.tdiv b:=Fg hr.1 hr.2;rw[Cg hr];unfold kQ at ha hb;refine aY A7 ?_;intro Q aJ aK aL;repeat' first|refine cB hwr ?_|refine aC ?_|refine aB ?_ ?_<;>intro hw<;>try omega|fail
 all_goals first|exact cg rfl rfl|exact cg (bj (fun z=>[AV.int .i64 z,AV.int .i64 0]) hwr) rfl|skip
def ah8(a:Int)(h:0<=a)(h':a<=9223372036854775808): di .u64 a=a:=by
 show IntKind.wrap .u64 a=_;simp only[IntKind.wrap,IntKind.bits,IntKind.signed];simp;omega
def af4(a:Int)(h:a<0)(h' : -9223372036854775808<=a): di .u64 a=a+18446744073709551616:=by
 show IntKind.wrap .u64 a=_;simp only[IntKind.wrap,IntKind.bits,IntKind.signed];simp;omega
def OQ(a:Int)(ha:kQ a): aQ aI 299 [I a] (.int .u64 (a.natAbs:Int)):=by
 unfold kQ at ha;by_cases h:a<0
 ·have e1:=af4 a h ha.1
  have e2:di .u64 (0-(a+18446744073709551616)) = -a:=by
   show IntKind.wrap .u64 _=_;simp only[IntKind.wrap,IntKind.bits,IntKind.signed];simp;omega
  have e3:(a.natAbs:Int) = -a:=ae;rw[e3];refine aY Fx ?_;intro Q aJ aK aL;repeat' first|refine cB (zA e1 e2) ?_|refine aC ?_|refine aB ?_ ?_<;>intro hw<;>try omega|fail
  all_goals first|exact a_ rfl rfl|(rw[e1,e2];exact a_ rfl rfl)|skip
 have e1:=ah8 a ae ae;have e3:(a.natAbs:Int)=a:=ae;rw[e3];refine aY Fx ?_;intro Q aJ aK aL;repeat' first|refine cB e1 ?_|refine aC ?_|refine aB ?_ ?_<;>intro hw<;>try omega|fail
 all_goals first|exact a_ rfl rfl|(rw[e1];exact a_ rfl rfl)|skip
def bits_Mul(x y:Nat)(hx:x<18446744073709551616)(hy:y<18446744073709551616): aQ aI 86 [.int .u64 x,.int .u64 y] (.bR [.int .u64 ((x*y / 18446744073709551616:Nat):Int),.int .u64 ((x*y % 18446744073709551616:Nat):Int)]):=by
 refine nx ⟨_,Tryz.func86,iQ,iQ⟩ fun g w σ vs hR hl hv=>?_;have h3:=hv 0 aR;have h4:=hv 1 aR;rw[Ll hl];generalize vs.getD 0 Go.undef=v at h3;generalize vs.getD 1 Go.undef=u at h4;simp only[de,ie]at h3 h4;cases h3;cases h4;refine⟨.tuple #[.int .u64 ((x*y / 18446744073709551616:Nat):Int),.int .u64 ((x*y % 18446744073709551616:Nat):Int)],fun g' w'=>?_,(Tryz.bits_Mul x y hx hy w).mono ?_⟩
 ·refine .bR _ _ rfl fun i hi=>?_;have:i=0\/i=1:=by simp at hi;omega
  rcases this with rfl|rfl
  ·exact .int _ _
  exact .int _ _
 rintro e w' ⟨rfl,rfl⟩;exact⟨rfl,rfl,rfl,rfl,bf _,fun _ _=>rfl⟩
def af5(a b:Int): ((a<0↔b<0)->a*b=((a.natAbs*b.natAbs:Nat):Int))/\(¬ (a<0↔b<0)->a*b = -((a.natAbs*b.natAbs:Nat):Int)):=by
 rw[Int.natCast_mul];by_cases h1:a<0<;>by_cases h2:b<0
 ·rw[show (a.natAbs:Int) = -a by omega,show(b.natAbs:Int) = -b by omega,Int.neg_mul_neg];simp[h1,h2]
 ·rw[show (a.natAbs:Int) = -a by omega,show(b.natAbs:Int)=b by omega,Int.neg_mul];simp[h1,h2]
 ·rw[show (a.natAbs:Int)=a by omega,show(b.natAbs:Int) = -b by omega,Int.mul_neg];simp[h1,h2]
 rw[show (a.natAbs:Int)=a by omega,show(b.natAbs:Int)=b by omega];simp[h1,h2]
def af6{L:Nat}(h:L<=9223372036854775808): di .i64 (di .u64 (0-(L:Int))) = -(L:Int):=by
 show IntKind.wrap .i64 (IntKind.wrap .u64 _)=_;simp only[IntKind.wrap,IntKind.bits,IntKind.signed];simp;omega
def adA(a b:Int)(ha:kQ a)(hb:kQ b): aQ aI 283 [I a,I b] (.bR [I (numOf (kq (a*b))),I (pX (kq (a*b)))]):=by
 have c1:=OQ a ha;have c2:=OQ b hb;have c3:=bits_Mul a.natAbs b.natAbs (by unfold kQ at ha;omega) (by unfold kQ at hb;omega);obtain⟨m1,m2⟩:=af5 a b;generalize a.natAbs*b.natAbs=p at *;obtain⟨H,hH⟩:=cq (p / 18446744073709551616);obtain⟨L,hL⟩:=cq (p % 18446744073709551616);rw[hH,hL]at c3;have hp:p=H*18446744073709551616+L:=ae;have FV:L<18446744073709551616:=ae;clear hH hL;by_cases hs:(a<0↔b<0)
 ·have m:=m1 hs;rw[m];clear m m1 m2;by_cases hr:H=0/\L<=9223372036854775807
  ·obtain⟨rfl,hr⟩:=hr;obtain rfl:p=L:=ae;rw[Cg ae];refine aY wj ?_;intro Q aJ aK aL;by_cases hA:a<0
   ·have hB:=hs.1 hA;repeat' first|simp (disch:=omega) only[go_sem,aJ,aK,aL,bN hA,bN hB]|refine aC ?_|refine aB ?_ ?_<;>intro hw<;>try omega|fail
    all_goals first|exact cg rfl rfl|(exfalso;omega)|skip
   have hB:¬ b<0:=fun h=>hA (hs.2 h);repeat' first|simp (disch:=omega) only[go_sem,aJ,aK,aL,cI hA,cI hB]|refine aC ?_|refine aB ?_ ?_<;>intro hw<;>try omega|fail
   all_goals first|exact cg rfl rfl|(exfalso;omega)|skip
  rw[zh ae];refine aY wj ?_;intro Q aJ aK aL;by_cases hA:a<0
  ·have hB:=hs.1 hA;repeat' first|simp (disch:=omega) only[go_sem,aJ,aK,aL,bN hA,bN hB]|refine aC ?_|refine aB ?_ ?_<;>intro hw<;>try omega|fail
   all_goals first|exact cg rfl rfl|(exfalso;omega)|skip
  have hB:¬ b<0:=fun h=>hA (hs.2 h);repeat' first|simp (disch:=omega) only[go_sem,aJ,aK,aL,cI hA,cI hB]|refine aC ?_|refine aB ?_ ?_<;>intro hw<;>try omega|fail
  all_goals first|exact cg rfl rfl|(exfalso;omega)|skip
 have m:=m2 hs;rw[m];clear m m1 m2;by_cases hr:H=0/\L<=9223372036854775808
 ·obtain⟨rfl,hr⟩:=hr;obtain rfl:p=L:=ae;have hwr:=af6 hr;rw[Cg ae];refine aY wj ?_;intro Q aJ aK aL;by_cases hA:a<0
  ·have hB:¬ b<0:=fun h=>hs ⟨fun _=>h,fun _=>hA⟩;repeat' first|simp (disch:=omega) only[go_sem,aJ,aK,aL,bN hA,cI hB,hwr]|refine aC ?_|refine aB ?_ ?_<;>intro hw<;>try omega|fail
   all_goals first|exact cg rfl rfl|exact cg (bj (fun z=>[AV.int .i64 z,AV.int .i64 0]) hwr) rfl|(exfalso;omega)|skip
  have hB:b<0:=Classical.not_not.1 fun h=>hs ⟨fun h'=>absurd h' hA,fun h'=>absurd h' h⟩;repeat' first|simp (disch:=omega) only[go_sem,aJ,aK,aL,cI hA,bN hB,hwr]|refine aC ?_|refine aB ?_ ?_<;>intro hw<;>try omega|fail
  all_goals first|exact cg rfl rfl|exact cg (bj (fun z=>[AV.int .i64 z,AV.int .i64 0]) hwr) rfl|(exfalso;omega)|skip
 rw[zh ae];refine aY wj ?_;intro Q aJ aK aL;by_cases hA:a<0
 ·have hB:¬ b<0:=fun h=>hs ⟨fun _=>h,fun _=>hA⟩;repeat' first|simp (disch:=omega) only[go_sem,aJ,aK,aL,bN hA,cI hB]|refine aC ?_|refine aB ?_ ?_<;>intro hw<;>try omega|fail
  all_goals first|exact cg rfl rfl|(exfalso;omega)|skip
 have hB:b<0:=Classical.not_not.1 fun h=>hs ⟨fun h'=>absurd h' hA,fun h'=>absurd h' h⟩;repeat' first|simp (disch:=omega) only[go_sem,aJ,aK,aL,cI hA,bN hB]|refine aC ?_|refine aB ?_ ?_<;>intro hw<;>try omega|fail
 all_goals first|exact cg rfl rfl|(exfalso;omega)|skip
def uR(b:Bool): aQ aI 232 [.bool b] (cR (fK b)):=by
 cases b
 all_goals
  refine aY P5 ?_;intro Q aJ aK aL;repeat' first|refine aC ?_|refine aB ?_ ?_<;>intro hw<;>try omega|fail
  exact a_ rfl rfl
def UR(op a b:Int)(ha:kQ a)(hb:kQ b): dA aI 261 [I op,I a,I b] (sH (qh op a b)):=by
 have hn:=Wf (UQ op a b);have cA:=SZ a b ha hb;have cS:=S0 a b ha hb;have cM:=adA a b ha hb;have cD:=adz a b ha hb;have hu:qh op a b=if op=4 then kq (a+b)else if op=5 then kq (a-b)else if op=6 then kq (a*b)else xE a b:=rfl
 by_cases h4:op=4
 ·rw[au h4]at hu;rw[hu]at hn ⊢;subst h4;generalize kq (a+b)=r at *;generalize numOf r=x at *;generalize pX r=y at *;refine dA.iA (rV.go ?_) rfl eO;unfold dO;intro Q aJ aK aL;repeat' first|refine aC ?_|refine Ce (s6 x y) (fun v_ qo=>?_) (fun e_ pg=>?_)|refine aB ?_ ?_<;>intro hw<;>try omega|fail
  all_goals first
   | exact j3 (hn.symm.trans qo) rfl
   | exact iC (hn.symm.trans pg)
   |(exfalso;omega)
   | skip
 rw[aj h4]at hu;by_cases h5:op=5
 ·rw[au h5]at hu;rw[hu]at hn ⊢;subst h5;generalize kq (a-b)=r at *;generalize numOf r=x at *;generalize pX r=y at *;refine dA.iA (rV.go ?_) rfl eO;unfold dO;intro Q aJ aK aL;repeat' first|refine aC ?_|refine Ce (s6 x y) (fun v_ qo=>?_) (fun e_ pg=>?_)|refine aB ?_ ?_<;>intro hw<;>try omega|fail
  all_goals first
   | exact j3 (hn.symm.trans qo) rfl
   | exact iC (hn.symm.trans pg)
   |(exfalso;omega)
   | skip
 rw[aj h5]at hu;by_cases h6:op=6
 ·rw[au h6]at hu;rw[hu]at hn ⊢;subst h6;generalize kq (a*b)=r at *;generalize numOf r=x at *;generalize pX r=y at *;refine dA.iA (rV.go ?_) rfl eO;unfold dO;intro Q aJ aK aL;repeat' first|refine aC ?_|refine Ce (s6 x y) (fun v_ qo=>?_) (fun e_ pg=>?_)|refine aB ?_ ?_<;>intro hw<;>try omega|fail
  all_goals first
   | exact j3 (hn.symm.trans qo) rfl
   | exact iC (hn.symm.trans pg)
   |(exfalso;omega)
   | skip
 rw[aj h6]at hu;rw[hu]at hn ⊢;generalize xE a b=r at *;generalize numOf r=x at *;generalize pX r=y at *;refine dA.iA (rV.go ?_) rfl eO;unfold dO;intro Q aJ aK aL;repeat' first|refine aC ?_|refine Ce (s6 x y) (fun v_ qo=>?_) (fun e_ pg=>?_)|refine aB ?_ ?_<;>intro hw<;>try omega|fail
 all_goals first
  | exact j3 (hn.symm.trans qo) rfl
  | exact iC (hn.symm.trans pg)
  | (exfalso; omega)
    | skip
def aaP(a b:aT)(ha:a.length<=2 ^ 40)(hb:b.length<=2 ^ 40): dA aI 260 [.str a,.str b] (sH (if 40<a.length+b.length then .err 5 else .ok ⟨2,0,a++b⟩)):=by
 by_cases h:40<a.length+b.length
 ·rw[au h];refine dA.of_nil (Fw.go ?_) rfl rfl;unfold dO;intro Q aJ aK aL;repeat' first|refine aC ?_|refine Cf (pW 5 da) ?_|refine aB ?_ ?_<;>intro hw<;>try omega|fail
  all_goals first|(simp only[go_sem,aL];done)|exact bI|rfl
 rw[aj h];refine aY Fw ?_;intro Q aJ aK aL;repeat' first|refine aC ?_|refine aB ?_ ?_<;>intro hw<;>try omega|fail
 all_goals first|exact bI|exact a_ rfl rfl
def Ch(k:Int)(v:aW): Bool:=decide (v.kind=k) || decide (v.kind=0)
def vX{k:Int}(v:aW)(h:k≠0): Ch k v=cG v.kind k:=by
 unfold Ch cG;rw[decide_eq_false h,Bool.or_false]
def qN(k:Int)(l:List aW)(n:Nat): Bool:=(l.take n).any fun v=>decide (v.kind≠k) && ek v
def Yn{k:Int}{l:List aW}{i:Nat}(h:i<l.length): qN k l (i+1)=(qN k l i ||(decide ((l.getD i default).kind≠k) && ek (l.getD i default))):=by
 unfold qN;rw[jB,List.any_append,aq,aG h];simp
def Dy(k:Int)(l:List aW)(hl:l.length<=2 ^ 40)(h:∀ i,i<l.length->Ch k (l.getD i default)=true): aQ aI 229 [I k,br l] (.bool (qN k l l.length)):=by
 refine aY KS ?_;intro Q aJ aK aL;simp only[br];repeat' first|refine aC ?_|refine aB ?_ ?_<;>intro hw<;>try omega|fail
 with_reducible refine bG [4,1,6,1,9,13] (fun q:Nat × List aX=>[(9,I q.1),(4,.bool (qN k l q.1))]) (fun q=>q.2) (fun q=>q.1<=l.length) (fun q=>l.length-q.1) (0,[]) ?_ ?_ ?_ ?_
 ·simp
 ·rfl
 ·simp only[qN,gO,List.any_nil];exact at_
 rintro⟨i,τ⟩ r h1;dsimp only at h1;by_cases hi:i<l.length
 ·have hk:=h i hi;have hS:=Yn (k:=k) hi;obtain⟨v,hv⟩:=cq (l.getD i default);rw[hv]at hk hS;unfold Ch at hk;unfold ek at hS;simp only[cH,aM]at hk;by_cases h2:v.kind=k
  ·have hS':qN k l (i+1)=qN k l i:=by rw[hS,cI (by simpa using h2),gP,Bool.or_false]
   repeat' first|refine cB hv ?_|refine aC ?_|refine aB ?_ ?_<;>intro hw<;>try omega|fail
   all_goals first
    | exact bI
    | (refine ⟨(i + 1, τ ++ [.cells [I v.kind, I v.n, .str v.s]]), ?_, ?_, by first | rfl | (simp [go_sem]; done), c8, ?_⟩
       ·dsimp only;omega
       ·dsimp only;omega
       ·dsimp only;rw[hS'];exact at_)
  have h3:v.kind=0:=ae;have hS':qN k l (i+1)=true:=by rw[hS,bN h2,bN h3];simp
  repeat' first|refine cB hv ?_|refine aC ?_|refine aB ?_ ?_<;>intro hw<;>try omega|fail
  all_goals first
   | exact bI
   | (refine ⟨(i + 1, τ ++ [.cells [I v.kind, I v.n, .str v.s]]), ?_, ?_, by first | rfl | (simp [go_sem]; done), c8, ?_⟩
      ·dsimp only;omega
      ·dsimp only;omega
      ·dsimp only;rw[hS'];exact at_)
 obtain rfl:i=l.length:=ae;repeat' first|refine aC ?_|refine aB ?_ ?_<;>intro hw<;>try omega|fail
 exact a_ rfl rfl
def s7(k:Int)(l:List aW)(hl:l.length<=2 ^ 40)(j:Nat)(hj:j<l.length)(hb:Ch k (l.getD j default)=false): dA aI 229 [I k,br l] (.panic (rJ 14)):=by
 refine dA.of_nil (KS.go ?_) aR rfl;unfold dO;intro Q aJ aK aL;simp only[br];repeat' first|refine aC ?_|refine aB ?_ ?_<;>intro hw<;>try omega|fail
 with_reducible refine bG [4,1,6,1,9,13] (fun q:Nat × List aX × Bool=>[(9,I q.1),(4,.bool q.2.2)]) (fun q=>q.2.1) (fun q=>q.1<=j) (fun q=>l.length-q.1) (0,[],false) ?_ ?_ ?_ ?_
 ·simp
 ·rfl
 ·exact at_
 rintro⟨i,τ,n⟩ r h1;dsimp only at h1;have hi:i<l.length:=ae;have hij:i=j->Ch k (l.getD i default)=false:=fun e=>by rw[e];exact hb
 obtain⟨v,hv⟩:=cq (l.getD i default);rw[hv]at hij;unfold Ch at hij;simp only[Bool.or_eq_false_iff,decide_eq_false_iff_not]at hij;by_cases h2:v.kind=k
 ·have hne:i≠j:=fun e=>(hij e).1 h2;repeat' first|refine cB hv ?_|refine aC ?_|refine Cf (pW 14 da) ?_|refine aB ?_ ?_<;>intro hw<;>try omega|fail
  all_goals first
   |(simp only[go_sem,aL];done)
   | exact bI
   | (refine ⟨(i + 1, τ ++ [.cells [I v.kind, I v.n, .str v.s]], n), ?_, ?_, by first | rfl | (simp [go_sem]; done), c8, at_⟩
      ·dsimp only;omega
      ·dsimp only;omega)
 by_cases h3:v.kind=0
 ·have hne:i≠j:=fun e=>(hij e).2 h3;repeat' first|refine cB hv ?_|refine aC ?_|refine Cf (pW 14 da) ?_|refine aB ?_ ?_<;>intro hw<;>try omega|fail
  all_goals first
   |(simp only[go_sem,aL];done)
   | exact bI
   | (refine ⟨(i + 1, τ ++ [.cells [I v.kind, I v.n, .str v.s]], true), ?_, ?_, by first | rfl | (simp [go_sem]; done), c8, at_⟩
      ·dsimp only;omega
      ·dsimp only;omega)
 repeat' first|refine cB hv ?_|refine aC ?_|refine Cf (pW 14 da) ?_|refine aB ?_ ?_<;>intro hw<;>try omega|fail
 all_goals first
  |(simp only[go_sem,aL];done)
  | exact bI
def Ng(a:Int): aQ aI 265 [I a] (.bool false):=by
 refine aY HF ?_;intro Q aJ aK aL;repeat' first|refine aC ?_|refine aB ?_ ?_<;>intro hw<;>try omega|fail
 all_goals first|exact a_ aR rfl|exact bI
def cmp_isNaN_int(a:Int): aQ aI 243 [I a] (.bool false):=by
 refine aY Jq ?_;intro Q aJ aK aL;repeat' first|refine aC ?_|refine aB ?_ ?_<;>intro hw<;>try omega|fail
 all_goals first|exact a_ aR rfl|exact bI
def Wg{a b:Int}(h:a<b): j_ a b = -1:=au h
def Wh{a b:Int}(h:b<a): j_ a b=1:=by unfold j_;rw[if_neg ae,if_pos h]
def Wi{a b:Int}(h:¬ a<b)(h':¬ b<a): j_ a b=0:=by unfold j_;rw[if_neg h,if_neg h']
def JG(a b:Int): aQ aI 238 [I a,I b] (I (j_ a b)):=by
 refine aY Ew ?_;intro Q aJ aK aL;repeat' first|refine aC ?_|refine eS (Ng _) ?_|refine aB ?_ ?_<;>intro hw<;>try omega|fail
 all_goals refine a_ ?_ rfl
 all_goals first|rw[Wg ae]|rw[Wh ae]|rw[Wi ae ae]
def cmp_Compare_int(a b:Int): aQ aI 197 [I a,I b] (I (j_ a b)):=by
 refine aY Fu ?_;intro Q aJ aK aL;repeat' first|refine aC ?_|refine eS (cmp_isNaN_int _) ?_|refine aB ?_ ?_<;>intro hw<;>try omega|fail
 all_goals refine a_ ?_ rfl
 all_goals first|rw[Wg ae]|rw[Wh ae]|rw[Wi ae ae]
def Wj(l:List Int): Int:=(l.find? fun x=>x != 0).getD 0
def Yo(l:List Int)(hl:l.length<=2 ^ 60): aQ aI 237 [.aS false E1 (l.map eI)] (I (Wj l)):=by
 refine aY PO ?_ (by simp[AV.dy,AV.cE,FO]);intro Q aJ aK aL;repeat' first|refine aC ?_|refine aB ?_ ?_<;>intro hw<;>try omega|fail
 with_reducible refine bG [2,1,5,1,8,9] (fun i:Nat=>[(8,I i)]) (fun _=>[]) (fun i=>i<=l.length/\ ∀ k,k<i->(l.getD k default != 0)=false) (fun i=>l.length-i) (0) ?_ ?_ ?_ ?_
 ·simp
 ·rfl
 ·exact at_
 rintro i r ⟨h1,h2⟩;by_cases hi:i<l.length
 ·repeat' first|refine aC ?_|refine aB ?_ ?_<;>intro hw<;>try omega|fail
  ·refine a_ ?_ rfl;unfold Wj;rw[yp (p:=fun x=>x != 0) hi h2 (by simpa using hw)];rfl
  refine⟨i+1,?_,?_,by first|rfl|(simp[go_sem];done),c8,at_⟩<;>(try dsimp only)
  ·exact⟨ae,cn h2 (by simpa using hw)⟩
  omega
 repeat' first|refine aC ?_|refine aB ?_ ?_<;>intro hw<;>try omega|fail
 refine a_ ?_ rfl;unfold Wj;rw[vR (p:=fun x=>x != 0) (fun k hk=>h2 k ae)];rfl
def strings_Compare(a b:aT): aQ aI 239 [.str a,.str b] (I (Lib.compareBytes a b)):=by
 refine nx ⟨_,Tryz.func239,iQ,iQ⟩ fun g w σ vs hR hl hv=>?_;have h3:=hv 0 aR;have h4:=hv 1 aR;rw[Ll hl];generalize vs.getD 0 Go.undef=v at h3;generalize vs.getD 1 Go.undef=u at h4;simp only[de,ie]at h3 h4;cases h3;cases h4;refine⟨.int .i64 (Lib.compareBytes a b),fun g' w'=> .int _ _,(Tryz.strings_Compare ⟨a.toArray⟩ ⟨b.toArray⟩ w).mono ?_⟩;rintro e w' ⟨rfl,rfl⟩;exact⟨rfl,rfl,rfl,rfl,bf _,fun _ _=>rfl⟩
def ama(a b:aW): Wj [j_ a.kind b.kind,j_ a.n b.n,Lib.compareBytes a.s b.s]=jr a b:=by
 unfold Wj jr;by_cases h1:j_ a.kind b.kind=0
 ·rw[aj (by simpa using h1),List.find?_cons_of_neg (by simpa using h1)];by_cases h2:j_ a.n b.n=0
  ·rw[aj (by simpa using h2),List.find?_cons_of_neg (by simpa using h2)];by_cases h3:Lib.compareBytes a.s b.s=0
   ·rw[List.find?_cons_of_neg (by simpa using h3),h3];rfl
   rw[List.find?_cons_of_pos (by simpa using h3)];rfl
  rw[au h2,List.find?_cons_of_pos (by simpa using h2)];rfl
 rw[au h1,List.find?_cons_of_pos (by simpa using h1)];rfl
def nR(a b:aW): aQ aI 194 [cR a,cR b] (I (jr a b)):=by
 rw[<-ama];have c:=Yo [j_ a.kind b.kind,j_ a.n b.n,Lib.compareBytes a.s b.s] aR;generalize Wj _=o at *;simp only[bB,cY,eI]at c;simp only[cR];refine aY Jp ?_;intro Q aJ aK aL;repeat' first|refine aC ?_|refine eS (JG _ _) ?_|refine eS (cmp_Compare_int _ _) ?_|refine eS (strings_Compare _ _) ?_|refine Ab c ?_|refine aB ?_ ?_<;>intro hw<;>try omega|fail
 all_goals exact a_ rfl rfl
def ah9{k:Int}(hk:k≠0)(a b:aW): qN k [a,b] 2=(ek a || ek b):=by
 have h:∀ v:aW,(decide (v.kind≠k) && ek v)=ek v:=fun v=>by
  unfold ek;rw[cQ];simp only[aD,aM];exact⟨fun h=>h.2,fun h=>⟨fun e=>hk ae,h⟩⟩
 unfold qN;simp only[List.take_succ_cons,gO,List.any_cons,List.any_nil,Bool.or_false,h]
def ah_{k:Int}(hk:k≠0)(a:aW): qN k [a] 1=ek a:=by
 unfold qN ek;simp only[List.take_succ_cons,gO,List.any_cons,List.any_nil,Bool.or_false];rw[cQ];simp only[aD,aM];exact⟨fun h=>h.2,fun h=>⟨fun e=>hk ae,h⟩⟩
def S6{k:Int}(hk:k≠0)(a b:aW)(ha:cG a.kind k=true)(hb:cG b.kind k=true): aQ aI 229 [I k,.aS false EV [cR a,cR b]] (.bool (ek a || ek b)):=by
 have:=Dy k [a,b] aR (fun i hi=>by
  rcases i with _|_|i
  ·exact(vX a hk).trans ha
  ·exact(vX b hk).trans hb
  ·simp at hi;omega)
 rw[show ([a,b]:List aW).length=2 from rfl,ah9 hk]at this;exact this
def Nh{k:Int}(hk:k≠0)(a b:aW)(h:cG a.kind k=false\/cG b.kind k=false): dA aI 229 [I k,.aS false EV [cR a,cR b]] (.panic (rJ 14)):=by
 rcases h with h|h
 ·exact s7 k [a,b] aR 0 aR ((vX a hk).trans h)
 exact s7 k [a,b] aR 1 aR ((vX b hk).trans h)
def aaQ{k:Int}(hk:k≠0)(a:aW)(ha:cG a.kind k=true): aQ aI 229 [I k,.aS false EV [cR a]] (.bool (ek a)):=by
 have:=Dy k [a] aR (fun i hi=>by
  rcases i with _|i
  ·exact(vX a hk).trans ha
  ·simp at hi)
 rw[show ([a]:List aW).length=1 from rfl,ah_ hk]at this;exact this
def Wk{k:Int}(hk:k≠0)(a:aW)(h:cG a.kind k=false): dA aI 229 [I k,.aS false EV [cR a]] (.panic (rJ 14)) :=
 s7 k [a] aR 0 aR ((vX a hk).trans h)
def S7{op:Int}{a b:aW}: kI op a b=true↔op=4/\(a.kind=2\/b.kind=2):=by simp[kI]
def adB{op:Int}{a b:aW}: kI op a b=false↔¬ (op=4/\(a.kind=2\/b.kind=2)):=by rw[<-S7,kB]
def aaR(op:Int)(a b:aW)(ha:ug a)(hb:ug b): dA aI 233 [I op,cR a,cR b] (sH (wA op a b)):=by
 have hS:wA op a b=if !(cG a.kind (if kI op a b then 2 else 1)) || !(cG b.kind (if kI op a b then 2 else 1))then .err 14
  else if ek a || ek b then .ok v0
  else if kI op a b then(if 40<a.s.length+b.s.length then .err 5 else .ok ⟨2,0,a.s++b.s⟩)
  else qh op a.n b.n:=rfl
 have hj:=aaP a.s b.s (by have:=ha.2;omega) (by have:=hb.2;omega);have hr:=UR op a.n b.n ha.1 hb.1;rw[hS];clear hS;cases ht:kI op a b with
 | true =>
   have hT:=S7.1 ht;simp only[if_true];by_cases hf:cG a.kind 2=true/\cG b.kind 2=true
   ·have c:=S6 (k:=2) da a b hf.1 hf.2;rw[aj (by simp[hf.1,hf.2])];generalize (ek a || ek b)=n at *;generalize (if 40<a.s.length+b.s.length then jG.err 5 else jG.ok ⟨2,0,a.s++b.s⟩)=J at *;simp only[cR]at c ⊢;refine dA.iA (uC.go ?_) rfl eO;unfold dO;intro Q aJ aK aL;cases n
    all_goals
     repeat' first|refine aC ?_|refine Ab c ?_|refine Ce hj (fun v_ qo=>?_) (fun e_ pg=>?_)|refine aB ?_ ?_<;>intro hw<;>try omega|fail
    all_goals first
     | exact bI
     | exact j3 rfl rfl
     | exact j3 qo rfl
     | exact iC pg
   have c:=Nh (k:=2) da a b (by revert hf;cases cG a.kind 2<;>cases cG b.kind 2<;>simp);rw[if_pos (by revert hf;cases cG a.kind 2<;>cases cG b.kind 2<;>simp)];simp only[cR]at c ⊢;refine dA.iA (uC.go ?_) rfl eO;unfold dO;intro Q aJ aK aL;repeat' first|refine aC ?_|refine SW c ?_|refine aB ?_ ?_<;>intro hw<;>try omega|fail
   all_goals first
    | exact bI
    | exact iC rfl
 | false =>
   have hT:=adB.1 ht;simp only[aP,if_false];by_cases hf:cG a.kind 1=true/\cG b.kind 1=true
   ·have c:=S6 (k:=1) da a b hf.1 hf.2;rw[aj (by simp[hf.1,hf.2])];generalize (ek a || ek b)=n at *;generalize qh op a.n b.n=J at *;simp only[cR]at c ⊢;refine dA.iA (uC.go ?_) rfl eO;unfold dO;intro Q aJ aK aL;cases n
    all_goals
     repeat' first|refine aC ?_|refine Ab c ?_|refine Ce hr (fun v_ qo=>?_) (fun e_ pg=>?_)|refine aB ?_ ?_<;>intro hw<;>try omega|fail
    all_goals first
     | exact bI
     | exact j3 rfl rfl
     | exact j3 qo rfl
     | exact iC pg
   have c:=Nh (k:=1) da a b (by revert hf;cases cG a.kind 1<;>cases cG b.kind 1<;>simp);rw[if_pos (by revert hf;cases cG a.kind 1<;>cases cG b.kind 1<;>simp)];simp only[cR]at c ⊢;refine dA.iA (uC.go ?_) rfl eO;unfold dO;intro Q aJ aK aL;repeat' first|refine aC ?_|refine SW c ?_|refine aB ?_ ?_<;>intro hw<;>try omega|fail
   all_goals first
    | exact bI
    | exact iC rfl
