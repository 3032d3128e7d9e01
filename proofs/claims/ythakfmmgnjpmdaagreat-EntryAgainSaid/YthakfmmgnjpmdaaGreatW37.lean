/- Part. -/
import Derived.Test.YthakfmmgnjpmdaaGreatW36
set_option linter.all false
set_option maxHeartbeats 4000000
namespace Go.Proofs.YthakfmmgnjpmdaaGreat
open Go.AM
set_option maxRecDepth 4000
section
variable {α : Type} (τ kr:List α) (x y z w : α)
def mg0: (τ++[z]++kr)[τ.length]? = some z:=by rw[aR,bR (Nat.le_refl _),Nat.sub_self];rfl
def ms0: (τ++[z]++kr).set τ.length w = τ++[w]++kr:=by rw[aR,eC _ _ (Nat.le_refl _),Nat.sub_self,aR];rfl
def mg2: (τ++[z]++kr++[x]++[y])[τ.length]? = some z:=by
 have:=mg0 τ (kr++[x]++[y]) z;simpa[aR]using this
def ms2: (τ++[z]++kr++[x]++[y]).set τ.length w = τ++[w]++kr++[x]++[y]:=by
 have:=ms0 τ (kr++[x]++[y]) z w;simpa[aR]using this
def ml: (τ++[z]++kr).length = τ.length+1+kr.length:=by simp;omega
def lx0: (τ++[z]++kr++[x])[τ.length+1+kr.length]? = some x:=by rw[<-ml τ kr z];simp
def lx1: (τ++[z]++kr++[x]).set (τ.length+1+kr.length) w = τ++[z]++kr++[w]:=by rw[<-ml τ kr z,eC _ _ (Nat.le_refl _),Nat.sub_self];rfl
def ly0: (τ++[z]++kr++[x]++[y])[τ.length+1+kr.length]? = some x:=by rw[<-ml τ kr z];exact xZ _ _ _
def ly1: (τ++[z]++kr++[x]++[y])[τ.length+1+kr.length+1]? = some y:=by rw[<-ml τ kr z];exact zq _ _ _
def ly2: (τ++[z]++kr++[x]++[y]).set (τ.length+1+kr.length+1) w = τ++[z]++kr++[x]++[w]:=by rw[<-ml τ kr z];exact zu _ _ _ _
end
def wL (r : Ready) (row : List aH) (i : Int) (q : List Int) (acc : List (List aH)) : j0 r row (i :: q) acc = if (fO r.table.ins row (r.lines.getD i.toNat default).outs []).2 ≠ 0 then ([], i, (fO r.table.ins row (r.lines.getD i.toNat default).outs []).2)
    else j0 r row q (acc++[(fO r.table.ins row (r.lines.getD i.toNat default).outs []).1]):=rfl
def aey(o1 o2:bE)(T:List (List aH) × Int × Int)(o:Out)(s:ae): Prop :=
 (T.2.2≠0/\o = .ret (.bJ [.ai,I T.2.1,I T.2.2])/\ ∃ τ,s=o1::o2:: τ)\/(T.2.2=0/\o = .ret (.bJ [sy 3 T.1,I 0,I 0])/\ ∃ o3 τ,s=o1::o2::o3::jP T.1:: τ)
def Z4 (r : Ready) (hr : B0 r) (row : List aH) (hrow : nN row) (rules : List Int) (Gg : ∀ i ∈ rules, 0 <= i /\ i.toNat < r.lines.length) (h24 : rules.length <= 24) (o1 o2 : bE) :
    eU aD 41 [iZ r,cJ rules,aL row] [o1,o2] (aey o1 o2 (j0 r row rules [])):=by
 have hz:=fun i (hi:i<rules.length)=>Gg _ (aO hi);have dI:=fun j (hj:j<r.lines.length) k (hk:k<(r.lines.getD j default).outs.length)=>(show aF aD 73 [aJ ((r.lines.getD j default).outs.getD k default),aY r.table.ins,aL row] (vT (gN ((r.lines.getD j default).outs.getD k default) r.table.ins row))/\(gN ((r.lines.getD j default).outs.getD k default) r.table.ins row).good from⟨EB _ r.table.ins row ((hr.line _ (aO hj)).2.2 _ (aO hk)).1 (by have:=((hr.line _ (aO hj)).2.2 _ (aO hk)).2;omega) (by have:=hr.ins;omega) (by have:=hrow.1;omega) hrow.2,lp hrow.2 ((hr.line _ (aO hj)).2.2 _ (aO hk)).1⟩);have Cy:=fun j (hj:j<r.lines.length)=>(hr.line _ (aO hj)).2.1;have agr:=hr.outs;clear Gg hr hrow;obtain⟨T,hT⟩:∃ T,j0 r row rules []=T:=⟨_,rfl⟩;rw[hT];simp only[iZ,aY,dy,l9,aL,cJ];refine Rt.go ?_;unfold cj;intro Q aq au aA;repeat' first|refine ak ?_|refine aj ?_ ?_<;>intro hw<;>try omega|fail
 with_reducible refine aX [6,7,8,9,11,12,14,15,16,19,20,21,22,23,24,25,26,27,28,29,30,31,32,33,34,35,36,37,38,39,40,41,42,43,44,45,46,47,48,49,50,51,52,53,54,55,56] (fun q:(Nat × List (List aH)) × List bE=>[(9,.own E1 3 q.1.2.length 0 q.1.2.length),(19,I q.1.1)]) (fun q=>o1::o2:: .cells [.str r.table.name,.aG false EC (r.table.ins.map bW),.aG false EC (r.table.outs.map bW),I r.table.bu,I r.table.agg,.aG false ER (r.table.rules.map dN),.aG false ER (r.lines.map jb)]:: .vec E1 (q.1.2.map aL)::q.2) (fun q=>q.1.1<=rules.length/\q.1.2.length=q.1.1/\j0 r row (rules.drop q.1.1) q.1.2=T) (fun q=>rules.length-q.1.1) ((0,[]),[]) ?_ ?_ ?_ ?_
 ·exact⟨by simp,rfl,hT⟩
 ·rfl
 ·exact at_
 rintro⟨⟨i,rows⟩,τ⟩ u ⟨g1,g2,g4⟩;dsimp only at g1 g2 g4;clear hT;by_cases hi:i<rules.length
 ·have hz:=hz i hi;rw[fZ hi,wL]at g4;obtain⟨z,T0⟩:∃ z,rules.getD i default=z:=⟨_,rfl⟩;rw[T0]at hz g4;obtain⟨j,rfl⟩:∃ j:Nat,z=j:=⟨z.toNat,by omega⟩;have hj:j<r.lines.length:=by omega
  have dI:=dI j hj;have Cy:=Cy j hj;rw[show ((j:Int)).toNat=j from rfl]at g4;obtain⟨ln,vB⟩:∃ ln,r.lines.getD j default=ln:=⟨_,rfl⟩;rw[vB]at dI Cy g4;obtain⟨ps,hps⟩:∃ ps,ln.outs=ps:=⟨_,rfl⟩;rw[hps]at dI Cy g4;have oU:ps.length<=2 ^ 30:=by omega
  obtain⟨P,hP⟩:∃ P,fO r.table.ins row ps []=P:=⟨_,rfl⟩;rw[hP]at g4;repeat' first|simp (disch:=omega) only[go_sem,aq,au,aA,T0,vB,hps]|refine ak ?_|refine aj ?_ ?_<;>intro hw<;>try omega|fail
  with_reducible refine aX [6,7,8,12,14,15,16,30,31,32,33,34,35,36,37,38,39,40,41,42,43,44,45,46,47,48,49,50,51] (fun q:List aH × List bE=>[(12,.own EV (τ.length+4) q.1.length 0 q.1.length),(30,I q.1.length)]) (fun q=>o1::o2:: .cells [.str r.table.name,.aG false EC (r.table.ins.map bW),.aG false EC (r.table.outs.map bW),I r.table.bu,I r.table.agg,.aG false ER (r.table.rules.map dN),.aG false ER (r.lines.map jb)]:: .vec E1 (rows.map aL)::(τ++[.vec EV (q.1.map bD)]++q.2)) (fun q=>q.1.length<=ps.length/\fO r.table.ins row (ps.drop q.1.length) q.1=P) (fun q=>ps.length-q.1.length) ([],[]) ?_ ?_ ?_ ?_
  ·exact⟨by simp,by simpa using hP⟩
  ·simp
  ·exact at_
  rintro⟨L,kr⟩ u' ⟨k1,k2⟩;dsimp only at k1 k2;clear hP;by_cases hk:L.length<ps.length
  ·have hx:=dI _ hk;rw[fZ hk]at k2;obtain⟨x,hx0⟩:∃ x,ps.getD L.length default=x:=⟨_,rfl⟩;rw[hx0]at hx k2;obtain⟨cA,gA⟩:=hx;simp only[fO]at k2;clear dI Cy;generalize gN x r.table.ins row=ra at *;rw[aU]at cA;simp only[aY,aL]at cA;cases ra with
   | err e =>
     rw[lV]at cA;have he:=mE gA;dsimp only at k2;simp only[c9]at cA;subst k2;rw[if_pos he]at g4;repeat' first|simp (disch:=omega) only[go_sem,aq,au,aA,hx0,mg0,ms0,mg2,ms2,lx0,lx1,ly0,ly1,ly2]|refine ak ?_|refine aj ?_ ?_<;>intro hw<;>try omega|fail
     all_goals first
      | exact aP
      | exact .inl (by rw[<-g4];exact⟨he,rfl,_,rfl⟩)
      | skip
   | ok a =>
     rw[qX]at cA;dsimp only at k2;simp only[c9]at cA;repeat' first|simp (disch:=omega) only[go_sem,aq,au,aA,hx0,mg0,ms0,mg2,ms2,lx0,lx1,ly0,ly1,ly2]|refine ak ?_|refine aj ?_ ?_<;>intro hw<;>try omega|fail
     all_goals first
      | exact aP
      |(refine⟨(L++[a],kr++[.cells [I x.op,I x.v.kind,I x.v.n,.str x.v.s,.str x.s,.aG false EX (x.l.map aJ)]]++[.cells [I a.kind,I a.n,.str a.s]]),⟨by dsimp only;simp only[List.length_append,List.length_cons,List.length_nil];omega,by dsimp only;simp only[List.length_append,List.length_cons,List.length_nil];exact k2⟩,by dsimp only;simp only[List.length_append,List.length_cons,List.length_nil];omega,by simp[go_sem],bK,at_⟩)
      | skip
  ·rw[a_ (by omega)]at k2;have k2:P=(L,0):=k2.symm;subst k2;rw[if_neg (by simp)]at g4;clear dI;repeat' first|simp (disch:=omega) only[go_sem,aq,au,aA,mg0,ms0,mg2,ms2]|refine ak ?_|refine aj ?_ ?_<;>intro hw<;>try omega|fail
   all_goals first
    | exact aP
    |(refine⟨((i+1,rows++[L]),τ++[.dead]++kr),⟨by dsimp only;omega,by dsimp only;simp only[List.length_append,List.length_cons,List.length_nil];omega,g4⟩,by dsimp only;omega,by simp[go_sem,aL],bK,at_⟩)
    | skip
 ·rw[a_ (by omega)]at g4;have g4:T=(rows,0,0):=g4.symm;subst g4;clear dI Cy hz;repeat' first|refine ak ?_|refine aj ?_ ?_<;>intro hw<;>try omega|fail
  all_goals first
   | exact aP
   | exact .inr ⟨rfl,rfl,_,_,rfl⟩
   | skip
end Go.Proofs.YthakfmmgnjpmdaaGreat
namespace Go.Proofs.YthakfmmgnjpmdaaGreat
open Go.AM
set_option maxRecDepth 4000
def QG: ∀ {l:List aH} {n e:Int},vR l n = .err e->e=15
 | [],_,_,h=>by cases h
 | v :: r, n, e, h => by
   rw[vD]at h;rcases tQ (n+v.n)with ⟨e1,_⟩|e1
   ·rw[e1]at h;exact QG h
   ·rw[e1]at h;cases h;rfl
def MW{agg:Int}{rows:List (List aH)}{e:Int}(h:kK agg rows = .err e): e=15:=by
 unfold kK at h;split at h
 ·cases h
 split at h
 ·cases h
 split at h
 ·exact QG h
 split at h<;>cases h
def Sw(agg:Int)(ha:agg≠0)(rules:List Int)(rows:List (List aH))(hr:rows.length<=2 ^ 30)(hw:∀ a ∈ rows,0<a.length/\ ∀ v ∈ a,dJ v.n): aF aD 74 [I agg,cJ rules,cu rows] (jR (wK agg rules rows)):=by
 have c:=Z0 agg rows hr hw;have he:=fun e=>MW (agg:=agg) (rows:=rows) (e:=e);unfold wK;generalize kK agg rows=R at *;obtain⟨O,hO⟩:∃ O,Z1 rules R=O:=⟨_,rfl⟩;rw[hO];simp only[cJ,cu]at c ⊢;cases R with
 | ok v =>
   rw[qX,c9]at c;refine aK ux ?_;intro Q aq au aA;repeat' first|refine ak ?_|refine cW c ?_|refine aj ?_ ?_<;>intro hw<;>try omega|fail
   all_goals first|exact QC hO.symm|exact aP|skip
 | err e =>
   have he:=he e rfl;subst he;rw[lV,c9]at c;refine aK ux ?_;intro Q aq au aA;repeat' first|refine ak ?_|refine cW c ?_|refine aj ?_ ?_<;>intro hw<;>try omega|fail
   all_goals first|exact TX hO.symm|exact aP|skip
def Z5{rows:List (List aH)}: List.take (if 1<(rows.length:Int)then (1:Int)else (rows.length:Int)).toNat (rows.map aL)=(rows.take 1).map aL:=by
 rw[List.map_take];split
 ·rfl
 ·rename_i h;have:rows.length<=1:=by omega
  rw[bX (by simp),bX (by simpa using this)]
def oF{σ : ae}{f:Bool}{l:List (List aH)}: View σ (.aG f E1 (l.map aL)) (cu l):=View.weak _ _ _ (AK _)
def Vv(t:Table)(hp:¬ (t.bu=5/\t.agg=0))(rules:List Int)(rows:List (List aH))(ho:t.outs.length<=2 ^ 30)(ho0:0<t.outs.length)(hc:∀ c ∈ t.outs,c.order.length<=2 ^ 60)(hr:rows.length<=2 ^ 30)(hlen:rules.length=rows.length)(hw:∀ a ∈ rows,a.length=t.outs.length/\ ∀ v ∈ a,dJ v.n): aF aD 42 [cI t,cJ rules,cu rows] (jR (gO t rules rows)):=by
 have cC:=fun ha=>Sw t.agg ha rules rows hr (fun a h=>⟨by have:=(hw a h).1;omega,(hw a h).2⟩);have cU:=Vq rows hr (fun a h=>by have:=(hw a h).1;omega);have cF:=XQ t.outs rows hc ho hr (fun a h=>(hw a h).1);have hF:=fun(h0:0<rows.length)=>yZ (outs:=t.outs) (rows:=rows) (l:=rows) (i:=0) (b:=0) (by omega) h0;clear hc hw;obtain⟨O,hO⟩:∃ O,gO t rules rows=O:=⟨_,rfl⟩;rw[hO];unfold gO at hO;by_cases hp5:t.bu=5
 ·have ha:t.agg≠0:=fun h=>hp ⟨hp5,h⟩;have cC:=cC ha;rw[if_pos hp5,if_neg ha]at hO
  have e:wK t.agg rules rows=O:=by
   rw[<-hO];unfold wK;cases kK t.agg rows<;>rfl
  rw[e]at cC;clear cU cF hF;simp only[cI,eJ,aY,dy,cJ,cu,jR]at cC ⊢;refine aK jY ?_;intro Q aq au aA;repeat' first|refine ak ?_|refine cW cC ?_|refine aj ?_ ?_<;>intro hw<;>try omega|fail
  all_goals first|exact lW (o:=O) rfl jg oF|exact aP|skip
 clear cC hp;rw[if_neg hp5]at hO;by_cases Me:t.bu=4
 ·rw[if_pos Me]at hO;generalize pE rows=B at *;clear cF hF;simp only[cI,eJ,aY,dy,cJ,cu]at cU ⊢;cases B with
  | true =>
    rw[if_pos rfl]at hO;subst hO;refine aK jY ?_;intro Q aq au aA;repeat' first|refine ak ?_|refine cW cU ?_|refine aj ?_ ?_<;>intro hw<;>try omega|fail
    all_goals first|exact lW (o:=⟨20,rules,[]⟩) rfl jg (.ai _)|exact aP|skip
  | false =>
    rw[if_neg (by decide)]at hO;subst hO;refine aK jY ?_;intro Q aq au aA;repeat' first|simp (disch:=omega) only[go_sem,aq,au,aA,Z5]|refine ak ?_|refine cW cU ?_|refine aj ?_ ?_<;>intro hw<;>try omega|fail
    all_goals first|exact lW (o:=⟨0,rules,rows.take 1⟩) rfl jg oF|exact aP|skip
 rw[if_neg Me]at hO;clear cU;by_cases hp6:t.bu=6
 ·rw[if_pos hp6]at hO;subst hO;clear cF hF;simp only[cI,eJ,aY,dy,cJ,cu];refine aK jY ?_;intro Q aq au aA;repeat' first|refine ak ?_|refine aj ?_ ?_<;>intro hw<;>try omega|fail
  all_goals first|exact lW (o:=⟨0,rules,rows⟩) rfl jg oF|exact aP|skip
 rw[if_neg hp6]at hO;generalize j_ t.outs rows rows 0 0=b at *;by_cases h0:rules=[]
 ·rw[if_pos h0]at hO;subst hO;have XJ:rows.length=0:=by rw[<-hlen,h0];rfl
  have FW:rules.length=0:=by rw[h0];rfl
  clear hF;by_cases Du:t.bu=3
  ·simp only[cI,eJ,aY,dy,cJ,cu]at cF ⊢;refine aK jY ?_;intro Q aq au aA;repeat' first|refine ak ?_|refine cW cF ?_|refine aj ?_ ?_<;>intro hw<;>try omega|fail
   all_goals first|exact lW (o:=⟨0,[],[]⟩) rfl (.ai _) (.ai _)|exact aP|skip
  ·clear cF;simp only[cI,eJ,aY,dy,cJ,cu];refine aK jY ?_;intro Q aq au aA;repeat' first|refine ak ?_|refine aj ?_ ?_<;>intro hw<;>try omega|fail
   all_goals first|exact lW (o:=⟨0,[],[]⟩) rfl (.ai _) (.ai _)|exact aP|skip
 rw[if_neg h0]at hO;have XJ:0<rules.length:=List.length_pos_iff.2 h0;have hb:=hF (by omega);clear hF;by_cases Du:t.bu=3
 ·rw[if_pos Du]at hO;subst hO;have s1:=vE lG (l:=rules) (b:=b) (by omega) (n:=b+1-b) (by omega);have s2:=vE aL (l:=rows) (b:=b) (by omega) (n:=b+1-b) (by omega);simp only[cI,eJ,aY,dy,cJ,cu]at cF ⊢;refine aK jY ?_;intro Q aq au aA;repeat' first|simp (disch:=omega) only[go_sem,aq,au,aA,s1,s2]|refine ak ?_|refine cW cF ?_|refine aj ?_ ?_<;>intro hw<;>try omega|fail
  all_goals first|exact lW (o:=⟨0,[rules.getD b default],[rows.getD b default]⟩) rfl mq y3|exact aP|skip
 ·rw[if_neg Du]at hO;subst hO;clear cF;have s1:(rules.map lG).take (((0:Int)+1).toNat-0)=[lG (rules.getD 0 default)]:=vE lG (l:=rules) (b:=0) (by omega) rfl;have s2:(rows.map aL).take (((0:Int)+1).toNat-0)=[aL (rows.getD 0 default)]:=vE aL (l:=rows) (b:=0) (by omega) rfl;simp only[cI,eJ,aY,dy,cJ,cu];refine aK jY ?_;intro Q aq au aA;repeat' first|simp (disch:=omega) only[go_sem,aq,au,aA,s1,s2]|refine ak ?_|refine aj ?_ ?_<;>intro hw<;>try omega|fail
  all_goals first|exact lW (o:=⟨0,[rules.getD 0 default],[rows.getD 0 default]⟩) rfl mq y3|exact aP|skip
end Go.Proofs.YthakfmmgnjpmdaaGreat
namespace Go.Proofs.YthakfmmgnjpmdaaGreat
open Go.AM
set_option maxRecDepth 4000
section
variable {σ : ae} {k:Nat} {o:bE}
def kl(h : σ[k]? = some o): k < σ.length:=(aQ.1 h).1
def ks1(h : σ[k]? = some o)(v x:bE): (σ++[x]).set k v = σ.set k v++[x]:=by rw[List.set_append_left _ _ (kl h)]
def kg1(h : σ[k]? = some o)(x:bE): (σ++[x])[k]? = some o:=by rw[aV (kl h)];exact h
def kt1(v x:bE): (σ.set k v++[x])[σ.length]? = some x:=by
 have:(σ.set k v).length = σ.length:=fI;rw[<-this];simp
def ku1(v x y:bE): (σ.set k v++[x]).set σ.length y = σ.set k v++[y]:=by
 have:(σ.set k v).length = σ.length:=fI;rw[<-this,eC _ _ (Nat.le_refl _),Nat.sub_self];rfl
def ks2(h : σ[k]? = some o)(v x y:bE): (σ++[x]++[y]).set k v = σ.set k v++[x]++[y]:=by rw[aR,List.set_append_left _ _ (kl h),aR]
def kl2(v x:bE): (σ.set k v++[x]).length = σ.length+1:=by simp
def kg3(v x y z:bE): (σ.set k v++[x]++[y]++[z])[σ.length+1]? = some y:=by rw[<-kl2 (k:=k) v x];exact xZ _ _ _
def ku3(v x y z w:bE): (σ.set k v++[x]++[y]++[z]).set (σ.length+1) w = σ.set k v++[x]++[w]++[z]:=by
 rw[<-kl2 (k:=k) v x,XI,eC _ _ (Nat.le_refl _),Nat.sub_self,aR _ [w] [z]];rfl
end
def HS (rules : List Int) (L : List Row) (hl : L.length < 40) (hw : ∀ a ∈ L, a.length <= 2 ^ 30) (σ : ae) (k : Nat) (gE : σ[k]? = some (jP L)) :
    eU aD 74 [I 0,cJ rules,sy k L] σ fun o s=>o = .ret (.agg [I 0,cJ rules,sy k L])/\ ∃ c,s = σ.set k (jP (dV L))++[c]:=by
 have h:=Vi 121 L (fun x hx y hy=>N8 x y (hw x hx) (hw y hy)) hl;obtain⟨M,hM⟩:∃ M,dV L=M:=⟨_,rfl⟩;rw[hM]at h ⊢;have s1:=ks1 gE;have g1:=kg1 gE;have t1:=fun v x=>kt1 (σ:=σ) (k:=k) v x;have u1:=fun v x y=>ku1 (σ:=σ) (k:=k) v x y;simp only[cJ];refine ux.go ?_;unfold cj;intro Q aq au aA;repeat' first|simp (disch:=omega) only[go_sem,aq,au,aA,g1,s1,t1,u1]|refine ak ?_|with_reducible refine TD h (g1 _) ?_|refine aj ?_ ?_<;>intro hw<;>try omega|fail
 all_goals first|exact⟨rfl,_,rfl⟩|exact aP|skip
def JZ (t : Table) (hp : t.bu = 5) (ha : t.agg = 0) (rules : List Int) (L : List Row) (hl : L.length < 40) (hw : ∀ a ∈ L, a.length <= 2 ^ 30) (σ : ae) (k : Nat) (gE : σ[k]? = some (jP L)) :
    eU aD 42 [cI t,cJ rules,sy k L] σ fun o s=>o = .ret (.agg [I 0,cJ rules,sy k L])/\ ∃ τ,s = σ.set k (jP (dV L))++ τ:=by
 have hc:=fun(b c:bE)=>HS rules L hl hw (σ++[b]++[c]) k (by
  rw[aR,aV (kl gE)];exact gE)
 have hk:=kl gE;obtain⟨M,hM⟩:∃ M,dV L=M:=⟨_,rfl⟩;rw[hM]at hc ⊢;simp only[cI,eJ,aY,dy,cJ]at hc ⊢;refine jY.go ?_;unfold cj;intro Q aq au aA;repeat' first|simp (disch:=omega) only[go_sem,aq,au,aA,hp,ha]|refine ak ?_|with_reducible refine yC ((hc _ _)) ?_|refine aj ?_ ?_<;>intro hw<;>try omega|fail
 rintro o s' ⟨rfl,c,rfl⟩;have s2:=ks2 gE;have g3:=fun v x y z=>kg3 (σ:=σ) (k:=k) v x y z;have u3:=fun v x y z w=>ku3 (σ:=σ) (k:=k) v x y z w;rw[s2];clear hc;repeat' first|simp (disch:=omega) only[go_sem,aq,au,aA,g3,u3]|refine ak ?_|refine aj ?_ ?_<;>intro hw<;>try omega|fail
 all_goals first|exact⟨rfl,_,by rw[aR,aR]⟩|exact aP|skip
end Go.Proofs.YthakfmmgnjpmdaaGreat
namespace Go.AM
variable {P:Program}
def View.live{σ σ':ae}(hs:∀ (l:Nat) o,σ[l]? = some o->o.live=true->σ'[l]? = some o){a b:AV}(h:View σ a b): View σ' a b:=by
 induction h with
 | refl a h=>exact .refl a h
 | ai el=>exact .ai el
 | weak f el xs h=>exact .weak f el xs h
 | aG f el xs ys hl _ ih=>exact .aG f el xs ys hl ih
 | own T el l lo n xs ys hl hy hn _ ih=>exact .own T el l lo n xs ys (hs _ _ hl rfl) hy hn ih
 | agg cs ds hl _ ih=>exact .agg cs ds hl ih
 | bJ cs ds hl _ ih=>exact .bJ cs ds hl ih
 | cell l v hl h hp=>exact .cell l v (hs _ _ hl rfl) h hp
 | cells l n cs hl hn hp=>exact .cells l n cs (hs _ _ hl rfl) hn hp
 | xm l n cs ds hl hn hd h ih=>exact .xm l n cs ds (hs _ _ hl rfl) hn hd ih
 | pM a l o hl ho h=>exact .pM a l o (hs _ _ hl ho) ho h
 | fn f az bs cs ds hl _ hl' _ ih mX=>exact .fn f az bs cs ds hl ih hl' mX
def Vw(q:Nat)(o:bE): ae:=List.replicate q .dead++[o]
def X3{q:Nat}{o:bE}(l:Nat)(o':bE)(h:(Vw q o)[l]? = some o')(hl:o'.live=true): l=q/\o'=o:=by
 unfold Vw at h;by_cases h1:l<q
 ·rw[aV (by simpa using h1)]at h;simp[List.getElem?_replicate,h1]at h;subst h;cases hl
 ·rw[bR (by simpa using h_ h1)]at h;simp only[fP]at h
  have:l-q=0:=by
   apply Nat.eq_zero_of_not_pos;intro hp;rw[List.getElem?_eq_none (by simp;omega)]at h;cases h
  rw[this]at h;simp at h;exact⟨by omega,h.symm⟩
def aF.freeze {f : FuncId} {az bz : List AV} {r : AV} {σ : ae} {q : Nat} {o : bE} (h : aF P f bz r) (hq : σ[q]? = some o) (ho : o.live = true) (hv : bn (Vw q o) az bz) (hr : r.cQ = true) :
    eU P f az σ fun out s=>out = .ret r/\s = σ.set q .dead:=by
 refine⟨(h []).1,fun g w vs hR hlen hvs=>?_⟩;have hqn:q<g.n:=by rw[<-hR.len];exact(aQ.1 hq).1
 have QH:Live σ q:=⟨o,hq,ho⟩
 let I:Nat->Prop:=fun b=>g.fM b\/g.base q=some b
 have hlt:∀ b,I b->b<w.heap.size:=fun b hb=>by
  rcases hb with hb|hb
  ·exact hR.lt b hb
  ·exact hR.j6 QH hb
 let MX:ae:=σ.zipIdx.map fun x=>if x.2=q then x.1 else .dead
 have QI:∀ (l:Nat) o',MX[l]? = some o'->o'.live=true->l=q/\σ[l]? = some o':=fun l o' hl hlv=>by
  simp only[MX,List.getElem?_map,List.getElem?_zipIdx,Option.map_map]at hl;obtain⟨x,hx,JQ⟩:=aZ.1 hl;simp at JQ;split at JQ
  ·rename_i e;subst JQ;exact⟨e,hx⟩
  ·subst JQ;cases hlv
 have adx:MX.length = σ.length:=by simp[MX]
 have aez:MX[q]? = some o:=by
  simp only[MX,List.getElem?_map,List.getElem?_zipIdx,Option.map_map];rw[hq];simp
 have hRq:Rel g w MX:=by
  refine⟨by rw[adx];exact hR.len,hR.lt,fun l o' ho'=>?_,fun l l' b hl hl'=>?_,fun l b hl=>?_,hR.glob⟩
  ·by_cases hlv:o'.live=true
   ·exact hR.ok l o' (QI l o' ho' hlv).2
   ·cases o'<;>simp[bE.live]at hlv;trivial
  ·obtain⟨o1,h1,h2⟩:=hl;obtain⟨o2,h3,h4⟩:=hl';exact hR.inj l l' b ⟨o1,(QI l o1 h1 h2).2,h2⟩ ⟨o2,(QI l' o2 h3 h4).2,h4⟩
  ·obtain⟨o1,h1,h2⟩:=hl;exact hR.u5 l b ⟨o1,(QI l o1 h1 h2).2,h2⟩
 have IP:∀ {x y:AV},View (Vw q o) x y->View MX x y:=fun hxy=>hxy.live (fun l o' hl hlv=>by
  obtain⟨rfl,rfl⟩:=X3 l o' hl hlv;exact aez)
 refine((h []).2 (aM.bare I) w vs (Rel.bare hlt ⟨fun b hb=> .inl (hR.glob.1 b hb),hR.glob.2⟩) (hv.1 ▸ hlen) (fun i hi=>?_)).mono ?_
 ·refine(IP (hv.2 i (hv.1 ▸ hi))).vr (g':=aM.bare I) hRq (fun b hb=> .inl hb) (fun b hb=>?_) (hvs i (hv.1 ▸ hi));obtain⟨l,⟨o1,h1,h2⟩,hb⟩:=hb;obtain⟨rfl,_⟩:=QI l o1 h1 h2;exact .inr hb
 rintro e w' ⟨out,g',σ',nX,hE,hO,rfl,rfl⟩;have hfr:∀ b,b<w.heap.size->w'.heap[b]? = w.heap[b]?:=fun b hb=>hE.frame b hb iF
 let g2:aM:= { g with fM:=fun b=>I b\/(w.heap.size<=b/\b<w'.heap.size) }
 have hm:lu g w g2 w':=⟨fun b hb=>⟨.inl (.inl hb),hfr b (hR.lt b hb)⟩,Nat.le_refl _,fun _ _=>⟨Nat.le_refl _,fun _=>⟨rfl,rfl,rfl⟩⟩⟩
 have GL:∀ (l:Nat) o',(σ.set q .dead)[l]? = some o'->o'.live=true->l≠q/\σ[l]? = some o':=fun l o' hl hlv=>by
  by_cases e:l=q
  ·subst e;rw[fG (aQ.1 hq).1]at hl;cases hl;cases hlv
  ·rw[bP (Ne.symm e)]at hl;exact⟨e,hl⟩
 have Cn:Rel g2 w' (σ.set q .dead):=by
  refine⟨by simp[g2,hR.len],fun b hb=>?_,fun l o' ho'=>?_,fun l l' b hl hl'=>?_,fun l b hl hb hi=>?_,hR.glob.mono hm.fM⟩
  ·rcases hb with hb|hb
   ·exact dz (hlt b hb) hE.size
   ·exact hb.2
  ·by_cases hlv:o'.live=true
   ·obtain⟨_,h2⟩:=GL l o' ho' hlv;have hl:l<g.n:=by rw[<-hR.len];exact(aQ.1 h2).1
    exact(hR.ok l o' h2).step hm hl rfl (fun b hb=>hfr b (hR.j6 ⟨o',h2,hlv⟩ hb))
   ·cases o'<;>simp[bE.live]at hlv;trivial
  ·obtain⟨o1,h1,h2⟩:=hl;obtain⟨o2,h3,h4⟩:=hl';exact hR.inj l l' b ⟨o1,(GL l o1 h1 h2).2,h2⟩ ⟨o2,(GL l' o2 h3 h4).2,h4⟩
  ·obtain⟨o1,h1,h2⟩:=hl;obtain⟨hne,h3⟩:=GL l o1 h1 h2;rcases hi with(hi|hi)|hi
   ·exact hR.u5 l b ⟨o1,h3,h2⟩ hb hi
   ·exact hne (hR.inj l q b ⟨o1,h3,h2⟩ QH hb hi)
   ·have:=hR.j6 ⟨o1,h3,h2⟩ hb;omega
 refine⟨.ret r,g2,_,Cn,⟨hm,hE.size,hE.os,hE.tape,hE.output,fun b hb _=>hfr b hb,fun b hb hi=>?_,fun b hb ht=>?_⟩,?_,rfl,rfl⟩
 ·rcases hi with(hi|hi)|hi
  ·exact .inl hi
  ·exact .inr ⟨q,QH,hi⟩
  ·omega
 ·obtain⟨l,⟨o1,h1,h2⟩,k9⟩:=ht;exact⟨l,⟨o1,(GL l o1 h1 h2).2,h2⟩,k9⟩
 ·cases e with
  | returned v =>
    refine VR.cQ (g:=g') (g':=g2) (fun b hb=>⟨?_,rfl⟩) hO hr;by_cases PC:b<w.heap.size
    ·rcases hE.w5 b PC hb with h3|h3
     ·exact .inl h3
     ·exact absurd h3 iF
    ·exact .inr ⟨by omega,nX.lt b hb⟩
  | panicked c=>exact hO.elim
  | outgrown=>exact hO.elim
end Go.AM
namespace Go.Proofs.YthakfmmgnjpmdaaGreat
open Go.AM
def r8(e:Int): Prop:=e=2\/e=5\/e=13\/e=14\/e=15\/e=16
def AN{e:Int}(h:r8 e): e≠0/\e≠21/\0<=e/\e<=99:=by unfold r8 at h;omega
def ady{cs:List bQ}{row:List aH}(hrow:∀ w ∈ row,og w)(v:aH){t:Test}(ht:zm t): (kH cs row v t).2=0\/r8 (kH cs row v t).2:=by
 have ga:=lp (cs:=cs) hrow ht.1.1;have gb:=lp (cs:=cs) hrow ht.2.1
 have hT:∀ a b,(tL t v a b).2=0\/r8 (tL t v a b).2:=fun a b=>by
  unfold tL;split
  ·exact .inl rfl
  ·exact .inr (.inr (.inr (.inr (.inl rfl))))
 unfold kH;revert ga gb;generalize gN t.a cs row=ra;generalize gN t.b cs row=rb;intro ga gb;cases ra with
 | err e=>exact .inr ga
 | ok a =>
   dsimp only;split
   ·cases rb with
    | err e=>exact .inr gb
    | ok b=>exact hT _ _
   ·exact hT _ _
def QJ{cs:List bQ}{row:List aH}(hrow:∀ w ∈ row,og w)(v:aH)(any neg:Bool): ∀ {l:List Test},(∀ t ∈ l,zm t)->(oh cs row v any neg l).2=0\/r8 (oh cs row v any neg l).2
 | [],_=> .inl rfl
 | t :: r, h => by
   have ht:=ady (cs:=cs) hrow v (h t (by simp));unfold oh;split
   ·rename_i he;rcases ht with ht|ht
    ·exact absurd ht he
    ·exact .inr ht
   split
   ·exact .inl rfl
   ·exact QJ hrow v any neg (fun t ht=>h t (by simp[ht]))
def Z6{cs:List bQ}{row:List aH}(hrow:∀ w ∈ row,og w)(v:aH){c:Cell}(hc:pI c): (lD c v cs row).2=0\/r8 (lD c v cs row).2:=by
 unfold lD;split
 ·exact QJ hrow v _ _ hc.2
 ·exact .inr (.inl rfl)
def QK{cs:List bQ}{row:List aH}(hrow:∀ w ∈ row,og w): ∀ {l:List Cell} {k:Nat},(∀ c ∈ l,pI c)->(kI cs row l k).2=0\/r8 (kI cs row l k).2
 | [],_,_=> .inl rfl
 | c :: r, k, h => by
   rw[zy];split
   ·exact Z6 hrow _ (h c (by simp))
   ·exact QK hrow (fun c hc=>h c (by simp[hc]))
def EK {Ek : Int} {cs : List bQ} {row : List aH} (hrow : ∀ w ∈ row, og w) : ∀ {ls : List pG} {k : Nat} {acc : List Int}, (∀ l ∈ ls, ∀ c ∈ l.cells, pI c) -> acc.Pairwise (· < ·) -> (∀ i ∈ acc, 0 <= i /\ i < k) ->
    let R:=oX Ek cs row ls k acc
    (R.1.Pairwise (· < ·)/\ ∀ i ∈ R.1,0<=i/\i<(k+ls.length:Nat))/\(R.2.2=0\/(R.1=[]/\r8 R.2.2/\0<=R.2.1/\R.2.1<(k+ls.length:Nat)))
 | [],k,acc,_,h1,h2=>⟨⟨h1,fun i hi=>by have:=h2 i hi;simp;omega⟩,.inl rfl⟩
 | l :: r, k, acc, hc, h1, h2 => by
   have he:=QK (cs:=cs) hrow (k:=0) (hc l (by simp));have hr:∀ l ∈ r,∀ c ∈ l.cells,pI c:=fun l hl=>hc l (by simp[hl])
   have a1:(acc++[(k:Int)]).Pairwise (· < ·):=eR.2 ⟨h1,by simp,fun a ha b hb=>by
    have:=h2 a ha;obtain rfl:b=k:=by simpa using hb
    omega⟩
   have a2:∀ i ∈ acc++[(k:Int)],0<=i/\i<(k+1:Nat):=fun i hi=>by
    rcases List.mem_append.1 hi with hi|hi
    ·have:=h2 i hi;omega
    ·obtain rfl:i=k:=by simpa using hi
     omega
   have e:k+(l::r).length=k+1+r.length:=by simp;omega
   rw[e];dsimp only;rw[zz];split
   ·rename_i hne;refine⟨⟨.nil,fun i hi=>by cases hi⟩,.inr ⟨rfl,?_,by dsimp only;omega,by dsimp only;omega⟩⟩;rcases he with he|he
    ·exact absurd he hne
    ·exact he
   split
   ·split
    ·exact ⟨⟨by simp, fun i hi => by
      obtain rfl:i=k:=by simpa using hi
      omega⟩,.inl rfl⟩
    ·exact EK hrow hr a1 a2
   ·exact EK hrow hr h1 (fun i hi=>by have:=h2 i hi;omega)
def MY: ∀ {l:List Int} {n:Int},l.Pairwise (· < ·)->(∀ i ∈ l,n<=i)-> ∀ {m:Nat},(∀ i ∈ l,i<n+m)->l.length<=m
 | [],_,_,_,_,_=>by simp
 | a :: r, n, h1, h2, m, h3 => by
   have ha:=h2 a (by simp);have hb:=h3 a (by simp);have h4:=er.1 h1;obtain⟨m',rfl⟩:∃ m',m=m'+1:=⟨m-1,by omega⟩;have:=MY (l:=r) (n:=n+1) h4.2 (fun i hi=>by have:=h4.1 i hi;omega) (m:=m') (fun i hi=>by have:=h3 i (by simp[hi]);omega);simp only[List.length_cons];omega
def EL {r : Ready} (hr : B0 r) {row : List aH} (hrow : nN row) :
    ((cZ r row).1.Pairwise (· < ·) /\ (∀ i ∈ (cZ r row).1, 0 <= i /\ i.toNat < r.lines.length) /\ (cZ r row).1.length <= 24) /\
      ((cZ r row).2.2=0\/(cZ r row).2.2=21\/(r8 (cZ r row).2.2/\0<=(cZ r row).2.1/\(cZ r row).2.1.toNat<r.lines.length)):=by
 unfold cZ;split
 ·have h:=EK (Ek:=r.table.bu) (cs:=r.table.ins) hrow.2 (ls:=r.lines) (k:=0) (acc:=[]) (fun l hl=>(hr.line l hl).1.2) .nil (fun i hi=>by cases hi);dsimp only at h;generalize oX r.table.bu r.table.ins row r.lines 0 []=R at *;have hl:=hr.lines;refine⟨⟨h.1.1,fun i hi=>by have:=h.1.2 i hi;omega,?_⟩,?_⟩
  ·have:=MY (n:=0) h.1.1 (fun i hi=>(h.1.2 i hi).1) (m:=r.lines.length) (fun i hi=>by have:=h.1.2 i hi;omega);omega
  ·rcases h.2 with h2|⟨_,h3,h4,h5⟩
   ·exact .inl h2
   ·exact .inr (.inr ⟨h3,h4,by omega⟩)
 ·exact⟨⟨.nil,⟨fun i hi=>(by cases hi),Nat.zero_le _⟩⟩,.inr (.inl rfl)⟩
def J0 {cs : List bQ} {row : List aH} (hrow : ∀ w ∈ row, og w) : ∀ {xs : List Expr} {acc : List aH}, (∀ x ∈ xs, iG x) -> (∀ v ∈ acc, fC v) ->
    ((fO cs row xs acc).2=0/\(fO cs row xs acc).1.length=acc.length+xs.length/\ ∀ v ∈ (fO cs row xs acc).1,fC v)\/r8 (fO cs row xs acc).2
 | [],acc,_,h=> .inl ⟨rfl,by simp[fO],h⟩
 | x :: r, acc, hx, h => by
   have g:=lp (cs:=cs) hrow (hx x (by simp));simp only[fO];revert g;cases gN x cs row with
   | err e=>intro g;exact .inr g
   | ok v =>
     intro g
     have:=J0 (cs:=cs) hrow (xs:=r) (acc:=acc++[v]) (fun x h=>hx x (by simp[h])) (fun w hw=>by
      rcases List.mem_append.1 hw with hw|hw
      ·exact h w hw
      ·obtain rfl:w=v:=by simpa using hw
       exact g)
     rcases this with⟨h1,h2,h3⟩|h1
     ·exact .inl ⟨h1,by rw[h2];simp;omega,h3⟩
     ·exact .inr h1
def B_ {r : Ready} (hr : B0 r) {row : List aH} (hrow : nN row) : ∀ {q : List Int} {acc : List (List aH)}, (∀ i ∈ q, 0 <= i /\ i.toNat < r.lines.length) -> (∀ a ∈ acc, a.length = r.table.outs.length /\ ∀ v ∈ a, fC v) ->
    ((j0 r row q acc).2.2=0/\(j0 r row q acc).1.length=acc.length+q.length/\ ∀ a ∈ (j0 r row q acc).1,a.length=r.table.outs.length/\ ∀ v ∈ a,fC v)\/(r8 (j0 r row q acc).2.2/\(j0 r row q acc).2.1 ∈ q)
 | [],acc,_,h=> .inl ⟨rfl,by simp[j0],h⟩
 | i :: q, acc, hq, h => by
   have hi:=hq i (by simp);have hl:=hr.line _ (aO hi.2);have ho:=J0 (cs:=r.table.ins) hrow.2 (xs:=(r.lines.getD i.toNat default).outs) (acc:=[]) (fun x hx=>(hl.2.2 x hx).1) (fun v hv=>by cases hv);rw[wL];rcases ho with⟨h1,h2,h3⟩|h1
   ·rw[if_neg (by omega)]
    have:=B_ hr hrow (q:=q) (acc:=acc++[(fO r.table.ins row (r.lines.getD i.toNat default).outs []).1]) (fun j hj=>hq j (by simp[hj])) (fun a ha=>by
     rcases List.mem_append.1 ha with ha|ha
     ·exact h a ha
     ·obtain rfl:=List.mem_singleton.1 ha;exact⟨by rw[h2,hl.2.1];simp,h3⟩)
    rcases this with⟨k1,k2,k3⟩|⟨k1,k2⟩
    ·exact .inl ⟨k1,by rw[k2];simp;omega,k3⟩
    ·exact .inr ⟨k1,da _ k2⟩
   ·rw[if_pos (AN h1).1];exact .inr ⟨h1,by simp⟩
end Go.Proofs.YthakfmmgnjpmdaaGreat
namespace Go.Proofs.YthakfmmgnjpmdaaGreat
open Go.AM
set_option maxRecDepth 4000
def tS(p:qx × Int): AV:= .bJ [jR p.1,I p.2]
def k7{σ : ae}{r0 r1:AV}{o:qx}{e c:Int}{p:qx × Int}(hp:p=(o,c))(h:I o.err=I e)(h1:View σ r0 (cJ o.rules))(h2:View σ r1 (cu o.rows)): ∃ r,Out.ret (oneOf [.agg [I e,r0,r1],I c])=Out.ret r/\View σ r (tS p):=by
 subst hp;unfold tS jR;rw[h];exact cN (.cons (View.n9 (.cons (.refl _ rfl) (.cons h1 (.cons h2 (.nil _))))) (.cons (.refl _ rfl) (.nil _)))
structure Oz (r:Ready) (row:List aH):Prop where
 tT:B0 r
 Gp:nN row
 Vx:0<r.table.outs.length
 ord:∀ c ∈ r.table.outs,c.order.length<=2 ^ 60
 agg:r.table.bu=5->0<=r.table.agg/\r.table.agg<=4
 sum:kJ r.table.ins row=true->r.table.bu=5->r.table.agg=1-> ∀ l ∈ r.lines,(fO r.table.ins row l.outs []).2=0->(oO (fO r.table.ins row l.outs []).1).kind=0\/(oO (fO r.table.ins row l.outs []).1).kind=1
def X4{r:Ready}{row:List aH}(h:(cZ r row).2.2=0): kJ r.table.ins row=true:=by
 unfold cZ at h;split at h
 ·assumption
 ·exact absurd h (by decide)
def vU{r:Ready}{row:List aH}(h:(cZ r row).2.2=21): gw r row=(⟨0,[],[]⟩,21):=by unfold gw;exact if_pos h
def zC{r:Ready}{row:List aH}(h:(cZ r row).2.2≠21)(h0:(cZ r row).2.2≠0): gw r row=(⟨(cZ r row).2.2,[(cZ r row).2.1],[]⟩,0):=by unfold gw;rw[if_neg h,if_pos h0]
def uM{r:Ready}{row:List aH}(h0:(cZ r row).2.2=0)(h1:r.table.bu=1/\1<(cZ r row).1.length): gw r row=(⟨19,(cZ r row).1,[]⟩,0):=by unfold gw;rw[if_neg (by omega),if_neg (by omega),if_pos h1]
def x6{r:Ready}{row:List aH}(h0:(cZ r row).2.2=0)(h1:¬ (r.table.bu=1/\1<(cZ r row).1.length)): gw r row=if(j0 r row (cZ r row).1 []).2.2≠0 then(⟨(j0 r row (cZ r row).1 []).2.2,[(j0 r row (cZ r row).1 []).2.1],[]⟩,0)else (gO r.table (cZ r row).1 (j0 r row (cZ r row).1 []).1,0):=by unfold gw;rw[if_neg (by omega),if_neg (by omega),if_neg h1]
def QL{o1 o2 o3:bE}{τ : List bE}{M:List (List aH)}{n:Nat}(h:n=M.length): View (o1::o2::o3::jP M:: τ) (.own E1 3 n 0 n) (cu M):=by
 subst h
 have:=View.own (σ:=o1::o2::o3::jP M:: τ) none E1 3 0 M.length (M.map aL) (M.map aL) rfl (by simp) (by simp) (fun i hi=>by
  rw[cE];exact .refl _ (jx (AK _) i))
 rw[List.length_map]at this;exact this
def Vy(r:Ready)(row:List aH)(h:Oz r row): aF aD 22 [iZ r,aL row] (tS (gw r row)):=by
 have c1:=XO r h.tT row h.Gp;have hR:=(EL h.tT h.Gp).1;have d1:=vU (r:=r) (row:=row);have d2:=zC (r:=r) (row:=row);have d3:=uM (r:=r) (row:=row);have d4:=x6 (r:=r) (row:=row);obtain⟨D,hD⟩:∃ D,gw r row=D:=⟨_,rfl⟩;rw[hD]at d1 d2 d3 d4 ⊢;clear hD;have cT:=fun o1 o2=>Z4 r h.tT row h.Gp (cZ r row).1 hR.2.1 hR.2.2 o1 o2;have hT:=B_ h.tT h.Gp (q:=(cZ r row).1) (acc:=[]) hR.2.1 (fun a h=>by cases h);have cC:=fun(hp:¬ (r.table.bu=5/\r.table.agg=0)) rows hr hlen hw=>Vv r.table hp (cZ r row).1 rows h.tT.outs h.Vx h.ord hr hlen hw;have hs:=fun(hp:r.table.bu=5) (ha:r.table.agg=0) rows (hl:rows.length<40) hw σ k gE=>JZ r.table hp ha (cZ r row).1 rows hl hw σ k gE;have agr:=h.tT.outs;have h24:=hR.2.2;clear h hR;generalize cZ r row=R at *;obtain⟨rules,ags,e⟩:=R;dsimp only at *;have y4:∀ rows,gO r.table rules rows=gO r.table rules rows:=fun _=>rfl;simp only[iZ,aY,dy,l9,aL,XM,cJ]at c1 cT ⊢;by_cases CN:e=21
 ·have d1:=d1 CN;subst d1;subst CN;clear cT cC hs d2 d3 d4 hT;refine aK rW ?_ (by simp[tS,jR,AV.cQ,AV.bG]);intro Q aq au aA;repeat' first|refine ak ?_|refine cW c1 ?_|refine aj ?_ ?_<;>intro hw<;>try omega|fail
  all_goals first|exact k7 rfl rfl (.ai _) (.ai _)|exact aP|skip
 by_cases h0:e≠0
 ·have d2:=d2 CN h0;subst d2;clear cT cC hs d1 d3 d4 hT;refine aK rW ?_ (by simp[tS,jR,AV.cQ,AV.bG]);intro Q aq au aA;repeat' first|refine ak ?_|refine cW c1 ?_|refine aj ?_ ?_<;>intro hw<;>try omega|fail
  all_goals first|exact k7 rfl rfl mq (.ai _)|exact aP|skip
 have h0:e=0:=by omega
 subst h0;by_cases hu:r.table.bu=1/\1<rules.length
 ·have d3:=d3 rfl hu;subst d3;clear cT cC hs d1 d2 d4 hT;refine aK rW ?_ (by simp[tS,jR,AV.cQ,AV.bG]);intro Q aq au aA;repeat' first|refine ak ?_|refine cW c1 ?_|refine aj ?_ ?_<;>intro hw<;>try omega|fail
  all_goals first|exact k7 rfl rfl jg (.ai _)|exact aP|skip
 have d4:=d4 rfl hu;clear d1 d2 d3;generalize j0 r row rules []=T at *;obtain⟨rows,ahM,e⟩:=T;dsimp only at *;refine aK rW ?_ (by simp[tS,jR,AV.cQ,AV.bG]);intro Q aq au aA;repeat' first|refine ak ?_|refine cW c1 ?_|with_reducible refine yC ((cT _ _)) ?_|refine aj ?_ ?_<;>intro hw<;>try omega|fail
 all_goals
  rintro o s (⟨he,rfl,τ,rfl⟩|⟨he,rfl,o3,τ,rfl⟩)
  ·dsimp only at he;rw[if_pos he]at d4;subst d4;clear cT cC hs hT y4;repeat' first|refine ak ?_|refine aj ?_ ?_<;>intro hw<;>try omega|fail
   all_goals first|exact k7 rfl rfl mq (.ai _)|exact aP|skip
  ·dsimp only at he;subst he;rw[if_neg (by simp)]at d4
   obtain⟨_,hlen,hw⟩:(0:Int)=0/\rows.length=[].length+rules.length/\ ∀ a ∈ rows,a.length=r.table.outs.length/\ ∀ v ∈ a,fC v:=by
    rcases hT with hT|hT
    ·exact hT
    ·exact absurd rfl (AN hT.1).1
   have hlen:rules.length=rows.length:=by simp at hlen;omega
   clear hT cT;by_cases hp:r.table.bu=5/\r.table.agg=0
   ·have Xu:=fun o1 o2 o3 τ=>hs hp.1 hp.2 rows (by omega) (fun a h=>by have:=(hw a h).1;omega) (o1::o2::o3::jP rows:: τ) 3 rfl;have y4:gO r.table rules rows=⟨0,rules,dV rows⟩:=by unfold gO;rw[if_pos hp.1,if_pos hp.2];rfl
    rw[y4]at d4;have hlM:=nW rows;clear hs cC;generalize dV rows=M at *;subst d4;simp only[cI,eJ,aY,dy,cJ]at Xu;repeat' first|refine ak ?_|with_reducible refine yC ((Xu _ _ _ _)) ?_|refine aj ?_ ?_<;>intro hw<;>try omega|fail
    rintro o s' ⟨rfl,kr,rfl⟩;repeat' first|refine ak ?_|refine aj ?_ ?_<;>intro hw<;>try omega|fail
    all_goals first|exact k7 rfl rfl jg (QL hlM.symm)|exact aP|skip
   ·have iE:=cC hp rows (by omega) hlen (fun a h=>⟨(hw a h).1,fun v hv=>((hw a h).2 v hv).2.1⟩);clear hs cC;generalize gO r.table rules rows=O at *;subst d4;have hf:=fun o1 o2 o3 τ=>aF.freeze (az:=[cI r.table,cJ rules,sy 3 rows]) (σ:=o1::o2::o3::jP rows:: τ) (q:=3) (o:=jP rows) iE rfl rfl (.cons (.refl _ (by simp)) (.cons (.refl _ (by simp)) (.cons (QL (o1:= .dead) (o2:= .dead) (o3:= .dead) (τ:=[]) rfl) (.nil _)))) (by simp);simp only[cI,eJ,aY,dy,cJ,jR,cu]at hf;clear iE;repeat' first|refine ak ?_|with_reducible refine yC ((hf _ _ _ _)) ?_|refine aj ?_ ?_<;>intro hw<;>try omega|fail
    rintro o s' ⟨rfl,rfl⟩;repeat' first|refine ak ?_|refine aj ?_ ?_<;>intro hw<;>try omega|fail
    all_goals first|exact k7 rfl rfl jg oF|exact aP|skip
