/- Part. -/
import Derived.Test.YthakfmmgnjpmdaaGreatW37
set_option linter.all false
set_option maxHeartbeats 8000000
namespace Go.Proofs.YthakfmmgnjpmdaaGreat
open Go.AM
set_option maxRecDepth 4000
def QM{r:Ready}{row:List aH}{P:List aH->Prop}(hl:∀ j,j<r.lines.length->(fO r.table.ins row (r.lines.getD j default).outs []).2=0->P (fO r.table.ins row (r.lines.getD j default).outs []).1): ∀ {q:List Int} {acc:List (List aH)},(∀ i ∈ q,0<=i/\i.toNat<r.lines.length)->(∀ a ∈ acc,P a)->(j0 r row q acc).2.2=0-> ∀ a ∈ (j0 r row q acc).1,P a
 | [],acc,_,h,_=>h
 | i :: q, acc, hq, h, h0 => by
   have hi:=hq i (by simp);rw[wL]at h0 ⊢;by_cases he:(fO r.table.ins row (r.lines.getD i.toNat default).outs []).2=0
   ·rw[if_neg (by omega)]at h0 ⊢
    exact QM hl (fun j hj=>hq j (by simp[hj])) (fun a ha=>by
     rcases List.mem_append.1 ha with ha|ha
     ·exact h a ha
     ·obtain rfl:=List.mem_singleton.1 ha;exact hl _ hi.2 he) h0
   ·rw[if_pos he]at h0 ⊢;intro a ha;cases ha
def QN(t:Table): gO t [] []=⟨0,[],[]⟩\/(t.bu=5/\t.agg≠0):=by
 by_cases h:t.bu=5/\t.agg≠0
 ·exact .inr h
 ·refine .inl ?_;unfold gO;by_cases h5:t.bu=5
  ·have h0 : t.agg = 0 := by
    by_cases h0:t.agg=0
    ·exact h0
    ·exact absurd ⟨h5,h0⟩ h
   rw[if_pos h5,if_pos h0];rfl
  ·rw[if_neg h5];split
   ·rfl
   split
   ·rfl
   ·exact if_pos rfl
def QO(r:Ready)(row:List aH)(h:Oz r row): aF aD 25 [iZ r,aL row] (tS (gw r row)):=by
 have c1:=Sp r h.tT row h.Gp;have hR:=(EL h.tT h.Gp).1;have d1:=vU (r:=r) (row:=row);have d2:=zC (r:=r) (row:=row);have d3:=uM (r:=r) (row:=row);have d4:=x6 (r:=r) (row:=row);obtain⟨D,hD⟩:∃ D,gw r row=D:=⟨_,rfl⟩;rw[hD]at d1 d2 d3 d4 ⊢;clear hD;have hz:=fun i (hi:i<(cZ r row).1.length)=>hR.2.1 _ (aO hi);have cA:=fun j (hj:j<r.lines.length)=>Sv (r.lines.getD j default) r.table.ins (by have:=h.tT.ins;omega) row h.Gp (by have:=(h.tT.line _ (aO hj)).2.1;have:=h.tT.outs;omega) (h.tT.line _ (aO hj)).2.2;have hT:=B_ h.tT h.Gp (q:=(cZ r row).1) (acc:=[]) hR.2.1 (fun a h=>by cases h);have hS:=fun(h0:(cZ r row).2.2=0) (hp:r.table.bu=5) (ha:r.table.agg=1)=>QM (r:=r) (row:=row) (P:=fun a=>(oO a).kind=0\/(oO a).kind=1) (fun j hj e=>h.sum (X4 h0) hp ha _ (aO hj) e) (q:=(cZ r row).1) (acc:=[]) hR.2.1 (fun a h=>by cases h);have cM:=fun(hp:r.table.bu=5) (ha:r.table.agg≠0) rows hr hw=>Vt r.table.agg (by have:=h.agg hp;omega) (cZ r row).1 rows hr hw;have cO:=fun h5 h6 rows hr hlen h0 hw=>XZ r.table h5 h6 (cZ r row).1 rows h.tT.outs h.ord hr hlen h0 hw;have cS:=fun rows hr hw=>QE rows r.table.outs.length h.tT.outs hr hw;have Vx:=h.Vx;have h24:=hR.2.2;have dM:=h.tT.lines;clear h hR;generalize cZ r row=R at *;obtain⟨rules,ags,e⟩:=R;dsimp only at *;simp only[iZ,aY,dy,l9,aL,XM,cJ]at c1 cA ⊢;by_cases CN:e=21
 ·have d1:=d1 CN;subst d1;subst CN;clear cA cM cO cS d2 d3 d4 hT hS hz;refine aK pS ?_ (by simp[tS,jR,AV.cQ,AV.bG]);intro Q aq au aA;repeat' first|refine ak ?_|refine cW c1 ?_|refine aj ?_ ?_<;>intro hw<;>try omega|fail
  all_goals first|exact k7 rfl rfl (.ai _) (.ai _)|exact aP|skip
 by_cases h0:e≠0
 ·have d2:=d2 CN h0;subst d2;clear cA cM cO cS d1 d3 d4 hT hS hz;refine aK pS ?_ (by simp[tS,jR,AV.cQ,AV.bG]);intro Q aq au aA;repeat' first|refine ak ?_|refine cW c1 ?_|refine aj ?_ ?_<;>intro hw<;>try omega|fail
  all_goals first|exact k7 rfl rfl mq (.ai _)|exact aP|skip
 have h0:e=0:=by omega
 subst h0;by_cases hu:r.table.bu=1/\1<rules.length
 ·have d3:=d3 rfl hu;subst d3;clear cA cM cO cS d1 d2 d4 hT hS hz;refine aK pS ?_ (by simp[tS,jR,AV.cQ,AV.bG]);intro Q aq au aA;repeat' first|refine ak ?_|refine cW c1 ?_|refine aj ?_ ?_<;>intro hw<;>try omega|fail
  all_goals first|exact k7 rfl rfl jg (.ai _)|exact aP|skip
 have d4:=d4 rfl hu;clear d1 d2 d3;obtain⟨T,hTe⟩:∃ T,j0 r row rules []=T:=⟨_,rfl⟩;rw[hTe]at d4 hT;have hS:r.table.bu=5->r.table.agg=1->T.2.2=0-> ∀ a ∈ T.1,(oO a).kind=0\/(oO a).kind=1:=fun a b=>by have:=hS rfl a b;rw[hTe]at this;exact this
 refine aK pS ?_ (by simp[tS,jR,AV.cQ,AV.bG]);intro Q aq au aA;repeat' first|refine ak ?_|refine cW c1 ?_|refine aj ?_ ?_<;>intro hw<;>try omega|fail
 all_goals
  with_reducible refine aX [5,9,10,11,12,44,45,46,47,48,49,50,51,52,53,54,55,56,57,58,59,60,61,62,63,64,65,66,67,68,69,70,71,72,73,74,75,76,77,78] (fun q:Nat × List (List aH)=>[(9,.own E1 2 q.2.length 0 q.2.length),(10,I q.1)]) (fun q=>[.cells [.str r.table.name,.aG false EC (r.table.ins.map bW),.aG false EC (r.table.outs.map bW),I r.table.bu,I r.table.agg,.aG false ER (r.table.rules.map dN),.aG false ER (r.lines.map jb)],.cells [I 0,.ai,.ai],.vec E1 (q.2.map aL)]) (fun q=>q.1<=rules.length/\q.2.length=q.1/\j0 r row (rules.drop q.1) q.2=T) (fun q=>rules.length-q.1) (0,[]) ?_ ?_ ?_ ?_
  ·exact⟨by simp,rfl,hTe⟩
  ·rfl
  ·exact at_
  rintro⟨i,rows⟩ u ⟨g1,g2,g4⟩;dsimp only at g1 g2 g4;clear hTe;by_cases hi:i<rules.length
  ·have hz:=hz i hi;rw[fZ hi,wL]at g4;obtain⟨z,T0⟩:∃ z,rules.getD i default=z:=⟨_,rfl⟩;rw[T0]at hz g4;obtain⟨j,rfl⟩:∃ j:Nat,z=j:=⟨z.toNat,by omega⟩;have hj:j<r.lines.length:=by omega
   have cA:=cA j hj;rw[show ((j:Int)).toNat=j from rfl]at g4;obtain⟨ln,vB⟩:∃ ln,r.lines.getD j default=ln:=⟨_,rfl⟩;rw[vB]at cA g4;generalize fO r.table.ins row ln.outs []=p at *;obtain⟨l,e⟩:=p;dsimp only at g4;simp only[eTl,jb,nG,cH,aL]at cA;clear cM cO cS hS hz;by_cases he:e=0
   ·subst he;rw[if_neg (by simp)]at g4;clear hT d4;repeat' first|simp (disch:=omega) only[go_sem,aq,au,aA,T0,vB]|refine ak ?_|refine cW cA ?_|refine aj ?_ ?_<;>intro hw<;>try omega|fail
    all_goals first
     | exact aP
     |(refine⟨(i+1,rows++[l]),⟨by dsimp only;omega,by dsimp only;simp only[List.length_append,List.length_cons,List.length_nil];omega,g4⟩,by dsimp only;omega,by simp[go_sem,aL],bK,at_⟩)
     | skip
   ·rw[if_pos he]at g4;subst g4;rw[if_pos he]at d4;subst d4;clear hT;repeat' first|simp (disch:=omega) only[go_sem,aq,au,aA,T0,vB]|refine ak ?_|refine cW cA ?_|refine aj ?_ ?_<;>intro hw<;>try omega|fail
    all_goals first|exact k7 rfl rfl mq (.ai _)|exact aP|skip
  ·rw[a_ (by omega)]at g4;have g4:T=(rows,0,0):=g4.symm;subst g4;dsimp only at *;rw[if_neg (by simp)]at d4
   obtain⟨_,hlen,hw⟩:(0:Int)=0/\rows.length=[].length+rules.length/\ ∀ a ∈ rows,a.length=r.table.outs.length/\ ∀ v ∈ a,fC v:=by
    rcases hT with hT|hT
    ·exact hT
    ·exact absurd rfl (AN hT.1).1
   have hlen:rules.length=rows.length:=by omega
   clear hT cA hz;by_cases hm:r.table.bu=5/\r.table.agg≠0
   ·have cM:=cM hm.1 hm.2 rows (by omega) (fun a h=>⟨by have:=(hw a h).1;omega,(hw _ h).2 _ (aO (by have:=(hw a h).1;omega)) |>.1,((hw _ h).2 _ (aO (by have:=(hw a h).1;omega))).2.1,fun ha=>hS hm.1 ha rfl a h⟩)
    have y4:gO r.table rules rows=wK r.table.agg rules rows:=by
     unfold gO wK;rw[if_pos hm.1,if_neg hm.2];cases kK r.table.agg rows<;>rfl
    rw[y4]at d4;clear cO cS hS y4;generalize wK r.table.agg rules rows=O at *;subst d4;simp only[cJ,cu,jR]at cM;repeat' first|refine ak ?_|refine cW cM ?_|refine aj ?_ ?_<;>intro hw<;>try omega|fail
    all_goals first|exact k7 rfl rfl jg oF|exact aP|skip
   clear cM hS;by_cases h0:rules.length=0
   ·have e1:rules=[]:=List.length_eq_zero_iff.1 h0;have e2:rows=[]:=List.length_eq_zero_iff.1 (by omega)
    have y4:gO r.table rules rows=⟨0,[],[]⟩:=by
     rw[e1,e2];rcases QN r.table with h|h
     ·exact h
     ·exact absurd h hm
    rw[y4]at d4;subst d4;clear cO cS;repeat' first|refine ak ?_|refine aj ?_ ?_<;>intro hw<;>try omega|fail
    all_goals first|exact k7 rfl rfl (.ai _) (.ai _)|exact aP|skip
   by_cases h5:r.table.bu=5
   ·have ha : r.table.agg = 0 := by
     by_cases ha:r.table.agg=0
     ·exact ha
     ·exact absurd ⟨h5,ha⟩ hm
    have y4:gO r.table rules rows=⟨0,rules,nK rows []⟩:=by unfold gO;rw[if_pos h5,if_pos ha]
    rw[y4]at d4;have cS:=cS rows (by omega) (fun a h=>(hw a h).1);clear cO y4;generalize nK rows []=M at *;subst d4;simp only[cu]at cS;repeat' first|refine ak ?_|refine cW cS ?_|refine aj ?_ ?_<;>intro hw<;>try omega|fail
    all_goals first|exact k7 rfl rfl jg oF|exact aP|skip
   clear cS;by_cases h6:r.table.bu=6
   ·have y4:gO r.table rules rows=⟨0,rules,rows⟩:=by unfold gO;rw[if_neg h5,if_neg (by omega),if_pos h6]
    rw[y4]at d4;subst d4;clear cO y4;repeat' first|refine ak ?_|refine aj ?_ ?_<;>intro hw<;>try omega|fail
    all_goals first|exact k7 rfl rfl jg oF|exact aP|skip
   ·have cO:=cO h5 h6 rows (by omega) hlen (by omega) (fun a h=>(hw a h).1);rw[<-St h5 h6 (fun e=>h0 (by rw[e];rfl))]at cO;generalize gO r.table rules rows=O at *;subst d4;simp only[cI,eJ,aY,dy,cJ,cu,jR]at cO;repeat' first|refine ak ?_|refine cW cO ?_|refine aj ?_ ?_<;>intro hw<;>try omega|fail
    all_goals first|exact k7 rfl rfl jg oF|exact aP|skip
def pY(n:Int): Nat:=if n<0 then(2*(-1-n)+1).toNat else(2*n).toNat
def x7(c:Nat): Int:=if c % 2=1 then -1-(c / 2:Nat)else (c / 2:Nat)
def sB: Nat->Nat->aS
 | 0,c=>[UInt8.ofNat c]
 | f+1,c=>if c<128 then [UInt8.ofNat c]else UInt8.ofNat (128+c % 128)::sB f (c / 128)
def fj(n:Int): aS:=sB 9 (pY n)
def rQ(i c:Nat): aS->Int × aS × Int
 | []=>(0,[],3)
 | b :: r => if (0 < i /\ b.toNat = 0) \/ (i = 9 /\ 1 < b.toNat) then (0, [], 4)
   else if b.toNat<128 then(x7 (c+b.toNat % 128*128 ^ i),r,0)
   else rQ (i+1) (c+b.toNat % 128*128 ^ i) r
def takeN(s:aS): Int × aS × Int:=rQ 0 0 s
def kL(s:aS): aS:=fj s.length++s
def jc(s:aS)(most:Int): aS × aS × Int :=
 if(takeN s).2.2≠0 then([],[],(takeN s).2.2)else if(takeN s).1<0 then([],[],4)else if(takeN s).1>most then([],[],5)else if(takeN s).1>(takeN s).2.1.length then([],[],3)
 else((takeN s).2.1.take (takeN s).1.toNat,(takeN s).2.1.drop (takeN s).1.toNat,0)
def Vz(n:Int): x7 (pY n)=n:=by
 unfold x7 pY;split<;>split<;>omega
def HT{n:Int}(h : -9223372036854775808<=n)(h':n<=9223372036854775807): pY n<18446744073709551616:=by
 unfold pY;split<;>omega
def u8(n:Nat)(h:n<256): (UInt8.ofNat n).toNat=n:=by simp[UInt8.toNat_ofNat'];omega
def Z7(r:aS): ∀(k i c:Nat),i+k=9->c*128 ^ i<18446744073709551616->(0<i->0<c)-> ∀ d,rQ i d (sB k c++r)=(x7 (d+c*128 ^ i),r,0):=by
 intro k
 induction k with
 | zero =>
   intro i c h1 h2 h3 d;obtain rfl:i=9:=by omega
   have e:(128:Nat) ^ 9=9223372036854775808:=by decide
   rw[e]at h2;rw[sB,List.singleton_append,rQ,u8 c (by omega),if_neg (by omega),if_pos (by omega),hJ (by omega)]
 | succ k ih =>
   intro i c h1 h2 h3 d;rw[sB];by_cases hc:c<128
   ·rw[if_pos hc,List.singleton_append,rQ,u8 c (by omega),if_neg (by omega),if_pos hc,hJ hc]
   ·rw[if_neg hc,cV,rQ,u8 _ (by omega),if_neg (by omega),if_neg (by omega)]
    have e2:c / 128*128 ^ (i+1)=128*(c / 128)*128 ^ i:=by
     rw[Nat.pow_succ,fL (128 ^ i) 128,<-Nat.mul_assoc,fL (c / 128) 128]
    have e:(128+c % 128) % 128=c % 128:=by omega
    rw[ih (i+1) (c / 128) (by omega) (Nat.lt_of_le_of_lt (by rw[e2];exact bL _ (by omega)) h2) (by omega),e,e2,dF,← ep];rw[show c % 128+128*(c / 128)=c by omega]
def sU{n:Int}(h : -9223372036854775808<=n/\n<=9223372036854775807)(r:aS): takeN (fj n++r)=(n,r,0):=by
 have:=HT h.1 h.2;unfold takeN fj;rw[Z7 r 9 0 (pY n) (by omega) (by omega) (by omega) 0];simp[Vz]
def J1{s:aS}{most:Int}(h:s.length<=most)(h':(s.length:Int)<=9223372036854775807)(r:aS): jc (kL s++r) most=(s,r,0):=by
 unfold jc kL;rw[aR,sU ⟨by omega,h'⟩];dsimp only;rw[if_neg (by omega),if_neg (by omega),if_neg (by omega),if_neg (by rw[List.length_append];omega)];simp
def abJ: ∀(s:aS) (i c:Nat),(rQ i c s).2.1.length<=s.length/\((rQ i c s).2.2=0->(rQ i c s).2.1.length<s.length)/\((rQ i c s).2.2≠0->(rQ i c s).1=0/\(rQ i c s).2.1=[]):=by
 intro s
 induction s with
 | nil=>intro i c;simp[rQ]
 | cons b r ih =>
   intro i c;rw[rQ];split
   ·simp
   ·split
    ·simp
    ·have:=ih (i+1) (c+b.toNat % 128*128 ^ i);simp only[List.length_cons];refine⟨by omega,fun h=>?_,this.2.2⟩;have:=this.2.1 h;omega
def Z8{c:Nat}(h:c<18446744073709551616): -9223372036854775808<=x7 c/\x7 c<=9223372036854775807:=by
 unfold x7;split<;>omega
def abK: ∀(s:aS) (i c:Nat),i<=9->c<128 ^ i-> -9223372036854775808<=(rQ i c s).1/\(rQ i c s).1<=9223372036854775807:=by
 intro s
 induction s with
 | nil=>intro i c _ _;simp[rQ]
 | cons b r ih =>
   intro i c hi hc;rw[rQ];split
   ·simp
   ·rename_i h1;have hb:b.toNat<256:=b.toNat_lt;split
    ·rename_i h2;apply Z8;by_cases h9:i=9
     ·subst h9;have e:(128:Nat) ^ 9=9223372036854775808:=by decide
      rw[e]at hc ⊢;omega
     ·have e:(128:Nat) ^ (i+1)<=128 ^ 9:=Nat.pow_le_pow_right (by decide) (by omega);rw[Nat.pow_succ]at e;have e2:(128:Nat) ^ 9=9223372036854775808:=by decide
      have:b.toNat % 128*128 ^ i<=127*128 ^ i:=bL _ (by omega);omega
    ·rename_i h2;have h9:i≠9:=fun e=>by subst e;omega
     apply ih _ _ (by omega);rw[Nat.pow_succ];have:b.toNat % 128*128 ^ i<=127*128 ^ i:=bL _ (by omega);omega
def qD(s:aS): -9223372036854775808<=(takeN s).1/\(takeN s).1<=9223372036854775807:=abK s 0 0 (by omega) (by decide)
def jC(s:aS): (takeN s).2.1.length<=s.length/\((takeN s).2.2=0->(takeN s).2.1.length<s.length)/\((takeN s).2.2≠0->(takeN s).1=0/\(takeN s).2.1=[]):=abJ s 0 0
def EM(s:aS)(m:Int): (jc s m).1.length<=s.length/\(jc s m).2.1.length<=s.length/\((jc s m).2.2=0->(jc s m).2.1.length<s.length/\(jc s m).1.length<=m)/\((jc s m).2.2≠0->(jc s m).1=[]/\(jc s m).2.1=[]):=by
 have:=jC s;unfold jc;repeat' split
 all_goals first
  |(refine⟨by simp,by simp,fun h=>?_,fun _=>⟨rfl,rfl⟩⟩;dsimp only at h;omega)
  |(dsimp only;rw[List.length_take,List.length_drop];refine⟨by omega,by omega,fun _=>?_,fun h=>absurd rfl h⟩;have:=this.2.1 (by omega);omega)
def iB(v:aH): aS:=fj v.kind++(if v.kind=2 then kL v.s else if v.kind=1\/v.kind=3 then fj v.n else [])
def EN(v:aH)(r:aS): aH × aS × Int:=if bp v then(v,r,0)else (v0,[],4)
def mw(s:aS): aH × aS × Int :=
 if(takeN s).2.2≠0 then(v0,[],(takeN s).2.2)
 else if(takeN s).1=0 then(v0,(takeN s).2.1,0)
 else if(takeN s).1=1\/(takeN s).1=3 then
  if(takeN (takeN s).2.1).2.2≠0 then(v0,[],(takeN (takeN s).2.1).2.2)else EN ⟨(takeN s).1,(takeN (takeN s).2.1).1,[]⟩ (takeN (takeN s).2.1).2.1
 else if(takeN s).1=2 then
  if(jc (takeN s).2.1 40).2.2≠0 then(v0,[],(jc (takeN s).2.1 40).2.2)else EN ⟨2,0,(jc (takeN s).2.1 40).1⟩ (jc (takeN s).2.1 40).2.1
 else(v0,[],4)
def kM(l:List aH): aS:=fj l.length++l.flatMap iB
def kN: Nat->List aH->aS->List aH × aS × Int
 | 0,out,s=>(out,s,0)
 | k+1,out,s=>if(mw s).2.2≠0 then([],[],(mw s).2.2)else kN k (out++[(mw s).1]) (mw s).2.1
def ju(s:aS)(most:Int): List aH × aS × Int :=
 if(takeN s).2.2≠0 then([],[],(takeN s).2.2)else if(takeN s).1<0 then([],[],4)else if(takeN s).1>most then([],[],5)
 else kN (takeN s).1.toNat [] (takeN s).2.1
def uZ{v:aH}(h:bp v=true): v.kind=0/\v=v0\/v.kind=1/\v.s=[]\/v.kind=2/\v.n=0/\v.s.length<=40\/v.kind=3/\v.s=[]:=by
 obtain⟨k,n,s⟩:=v;unfold bp at h;dsimp only at h ⊢;split at h
 ·left;simp at h;simp[v0, *]
 split at h
 ·right;left;simp at h;simp[*]
 split at h
 ·right;right;left;simp[lA]at h;simp[*]
 split at h
 ·right;right;right;simp at h;simp[*]
 ·cases h
def Sx{v:aH}(h:bp v=true)(hn : -9223372036854775808<=v.n/\v.n<=9223372036854775807)(r:aS): mw (iB v++r)=(v,r,0):=by
 have hk:=uZ h;have hT:∀ x,takeN (fj v.kind++x)=(v.kind,x,0):=fun x=>sU (by omega) x;unfold mw iB;rw[aR,hT];dsimp only;rw[if_neg (by simp)];rcases hk with⟨hk,hv⟩|⟨hk,hs⟩|⟨hk,h0,hs⟩|⟨hk,hs⟩
 ·rw[if_pos hk,if_neg (by omega),if_neg (by omega),hv];rfl
 ·have e:(if v.kind=2 then kL v.s else if v.kind=1\/v.kind=3 then fj v.n else [])=fj v.n:=by rw[if_neg (by omega),if_pos (by omega)]
  rw[if_neg (by omega),if_pos (by omega),e,sU hn];dsimp only;rw[if_neg (by simp),<-hs];unfold EN;rw[if_pos h]
 ·rw[if_neg (by omega),if_neg (by omega),if_pos hk,if_pos hk,J1 (by omega) (by omega)];dsimp only;rw[if_neg (by simp)];unfold EN;rw[<-hk,<-h0,if_pos h]
 ·have e:(if v.kind=2 then kL v.s else if v.kind=1\/v.kind=3 then fj v.n else [])=fj v.n:=by rw[if_neg (by omega),if_pos (by omega)]
  rw[if_neg (by omega),if_pos (by omega),e,sU hn];dsimp only;rw[if_neg (by simp),<-hs];unfold EN;rw[if_pos h]
def X5(v:aH)(r:aS)(hv : -9223372036854775808<=v.n/\v.n<=9223372036854775807): (EN v r).2.1.length<=r.length/\bp (EN v r).1=true/\(-9223372036854775808<=(EN v r).1.n/\(EN v r).1.n<=9223372036854775807):=by
 unfold EN;split
 ·rename_i h;exact⟨by simp,h,hv⟩
 ·exact⟨by simp,by decide,by decide⟩
def J2: bp v0=true/\(-9223372036854775808<=v0.n/\v0.n<=9223372036854775807):=by decide
def QS(s:aS): (mw s).2.1.length<=s.length/\((mw s).2.2=0->(mw s).2.1.length<s.length)/\bp (mw s).1=true/\(-9223372036854775808<=(mw s).1.n/\(mw s).1.n<=9223372036854775807):=by
 have h1:=jC s;have h2:=jC (takeN s).2.1;have h3:=EM (takeN s).2.1 40;unfold mw;split
 ·exact⟨by simp,fun h=>absurd h (by assumption),J2⟩
 have h4:=h1.2.1 (by omega);split
 ·exact⟨by dsimp only;omega,fun _=>h4,J2⟩
 split
 ·split
  ·exact⟨by simp,fun h=>absurd h (by assumption),J2⟩
  ·have:=X5 ⟨(takeN s).1,(takeN (takeN s).2.1).1,[]⟩ (takeN (takeN s).2.1).2.1 (qD _);exact⟨by omega,fun _=>by omega,this.2⟩
 split
 ·split
  ·exact⟨by simp,fun h=>absurd h (by assumption),J2⟩
  ·have:=X5 ⟨2,0,(jc (takeN s).2.1 40).1⟩ (jc (takeN s).2.1 40).2.1 ⟨by simp,by simp⟩;exact⟨by omega,fun _=>by omega,this.2⟩
 ·exact⟨by simp,fun h=>absurd h (by decide),J2⟩
def QU(r:aS): ∀(l out:List aH),(∀ v ∈ l,bp v=true/\(-9223372036854775808<=v.n/\v.n<=9223372036854775807))->kN l.length out (l.flatMap iB++r)=(out++l,r,0):=by
 intro l
 induction l with
 | nil=>intro out _;simp[kN]
 | cons v l ih =>
   intro out h;have hv:=h v (by simp);rw[List.length_cons,kN,List.flatMap_cons,aR,Sx hv.1 hv.2];dsimp only;rw[if_neg (by omega),ih _ (fun w hw=>h w (by simp[hw]))];simp
def X6{l:List aH}{most:Int}(h:∀ v ∈ l,bp v=true/\(-9223372036854775808<=v.n/\v.n<=9223372036854775807))(hl:l.length<=most)(MZ:l.length<=2 ^ 60)(r:aS): ju (kM l++r) most=(l,r,0):=by
 unfold ju kM;rw[aR,sU ⟨by omega,by omega⟩];dsimp only;rw[if_neg (by omega),if_neg (by omega),if_neg (by omega),ff,QU r l [] h];simp
def M0 : ∀ (k : Nat) (out : List aH) (s : aS), (∀ v ∈ out, bp v = true /\ (-9223372036854775808 <= v.n /\ v.n <= 9223372036854775807)) ->
    (kN k out s).2.1.length<=s.length/\(∀ v ∈ (kN k out s).1,bp v=true/\(-9223372036854775808<=v.n/\v.n<=9223372036854775807))/\(kN k out s).1.length<=out.length+s.length/\((kN k out s).2.2≠0->(kN k out s).1=[]/\(kN k out s).2.1=[])/\(kN k out s).1.length<=out.length+k:=by
 intro k
 induction k with
 | zero=>intro out s h;exact⟨by simp[kN],h,by simp[kN],fun h=>absurd rfl h,by simp[kN]⟩
 | succ k ih =>
   intro out s h;have hv:=QS s;rw[kN];split
   ·exact⟨by simp,by simp,by simp,fun _=>⟨rfl,rfl⟩,by simp⟩
   ·rename_i h1;have h2:=hv.2.1 (by omega)
    have:=ih (out++[(mw s).1]) (mw s).2.1 (fun w hw=>by
     rcases List.mem_append.1 hw with hw|hw
     ·exact h w hw
     ·rw[List.mem_singleton.1 hw];exact hv.2.2)
    rw[List.length_append,List.length_singleton]at this;exact⟨by omega,this.2.1,by omega,this.2.2.2.1,by omega⟩
def HU(s:aS)(most:Int): (ju s most).2.1.length<=s.length/\(∀ v ∈ (ju s most).1,bp v=true/\(-9223372036854775808<=v.n/\v.n<=9223372036854775807))/\(ju s most).1.length<=s.length/\((ju s most).2.2≠0->(ju s most).1=[]/\(ju s most).2.1=[])/\(0<=most->(ju s most).1.length<=most):=by
 have h1:=jC s;unfold ju;repeat' split
 ·exact⟨by simp,by simp,by simp,fun _=>⟨rfl,rfl⟩,by simp⟩
 ·exact⟨by simp,by simp,by simp,fun _=>⟨rfl,rfl⟩,by simp⟩
 ·exact⟨by simp,by simp,by simp,fun _=>⟨rfl,rfl⟩,by simp⟩
 ·have:=M0 (takeN s).1.toNat [] (takeN s).2.1 (by simp);rw[List.length_nil]at this;exact⟨by omega,this.2.1,by omega,this.2.2.2.1,fun _=>by omega⟩
def mz(n:Int): Prop:= -9223372036854775808<=n/\n<=9223372036854775807
def mQ(l:List aH): Prop:=l.length<=2 ^ 30/\ ∀ v ∈ l,mz v.n/\v.s.length<=2 ^ 30
def ot(s:aS)(b:Bool): Int × aS × Bool:=((takeN s).1,(takeN s).2.1,b ||(takeN s).2.2 != 0)
def Fs(s:aS)(b:Bool): aS × aS × Bool:=((jc s 1400).1,(jc s 1400).2.1,b ||(jc s 1400).2.2 != 0)
def x8(o:Option Int)(s:aS)(b:Bool): List aH × aS × Bool:=match o with
 | none=>([],s,b)
 | some m=>((ju s m).1,(ju s m).2.1,b ||(ju s m).2.2 != 0)
def x9{n:Int}(h:mz n)(r:aS): ot (fj n++r) false=(n,r,false):=by unfold ot;rw[sU h];rfl
def VA{s:aS}(h:s.length<=1400)(r:aS): Fs (kL s++r) false=(s,r,false):=by unfold Fs;rw[J1 (by omega) (by omega)];rfl
def HV{s:aS}(h:jH s=true): s.length<=16:=by
 simp only[jH,aC,decide_eq_true_eq]at h;exact h.1.2
def adz: mz 0:=⟨by decide,by decide⟩
def HW{v:aH}(h:bp v=true): v.s.length<=40:=by
 rcases uZ h with⟨_,h⟩|⟨_,h⟩|⟨_,_,h⟩|⟨_,h⟩
 ·rw[h];decide
 ·rw[h];decide
 ·exact h
 ·rw[h];decide
def Z9: ∀(k c:Nat),(sB k c).length<=k+1:=by
 intro k
 induction k with
 | zero=>intro c;simp[sB]
 | succ k ih => intro c; rw [sB]; split
                ·simp
                ·have:=ih (c / 128);simp;omega
def fD(n:Int): (fj n).length<=10:=Z9 9 _
structure jl where
 table:aS
 ver:Int
 input:List aH
 err:Int
 rules:List Int
 rows:List (List aH)
deriving Inhabited
def zD: jl:=⟨[],0,[],0,[],[]⟩
def jm(l:List aH): Bool:=decide (l.length<=6) && l.all bp
def tU(l:List Int)(k:Nat): Int:=if k=0 then -1 else l.getD (k-1) 0
def y5(l:List Int)(k:Nat): Bool:=decide (tU l k<l.getD k 0/\l.getD k 0<24)
def r9(l:List Int): Bool:=(List.range l.length).all (y5 l)
def ou(e:jl): Bool:=jH e.table && decide (1<=e.ver/\e.ver<=2147483648) && decide (0<=e.err/\e.err<=99) && r9 e.rules && decide (e.rows.length<=24) && jm e.input && e.rows.all jm
def mW(e:jl): aS:=kL e.table++fj e.ver++kM e.input++(fj e.err++fj e.rules.length)++e.rules.flatMap fj++fj e.rows.length++e.rows.flatMap kM
def rR(e:jl): Int:=if ou e=false then 2 else if 1400<(mW e).length then 5 else 0
def jN(e:jl): aS × Int:=if rR e≠0 then([],rR e)else (mW e,0)
def pZ: Nat->List Int->aS->Bool->List Int × aS × Bool
 | 0,out,s,b=>(out,s,b)
 | k+1,out,s,b=>if b then(out,s,b)else pZ k (out++[(ot s b).1]) (ot s b).2.1 (ot s b).2.2
def qY: Nat->List (List aH)->aS->Bool->List (List aH) × aS × Bool
 | 0,out,s,b=>(out,s,b)
 | k+1,out,s,b=>if b then(out,s,b)else qY k (out++[(x8 (some 6) s b).1]) (x8 (some 6) s b).2.1 (x8 (some 6) s b).2.2
def Ft(s:aS)(b:Bool): List Int × aS × Bool:=pZ (ot s b).1.toNat [] (ot s b).2.1 (ot s b).2.2
def Fu(s:aS)(b:Bool): List (List aH) × aS × Bool:=qY (ot s b).1.toNat [] (ot s b).2.1 (ot s b).2.2
def u0(s:aS): jl × aS × Bool :=
 let t:=Fs s false
 let v:=ot t.2.1 t.2.2
 let i:=x8 (some 6) v.2.1 v.2.2
 let e:=ot i.2.1 i.2.2
 let r:=Ft e.2.1 e.2.2
 let q:=Fu r.2.1 r.2.2
 (⟨t.1,v.1,i.1,e.1,r.1,q.1⟩,q.2.1,q.2.2)
def vF(s:aS): jl × Int:=if(u0 s).2.2=true\/jN (u0 s).1≠(s,0)then (zD,4)else ((u0 s).1,0)
def LD{l:List Int}(h:r9 l=true){k:Nat}(hk:k<l.length): tU l k<l.getD k 0/\l.getD k 0<24:=by
 have:=bg.1 h k (gj.2 hk);simpa[y5]using this
def abL{l:List Int}(h:r9 l=true): ∀ k,k<l.length->(k:Int)<=l.getD k 0:=by
 intro k
 induction k with
 | zero=>intro hk;have:=(LD h hk).1;unfold tU at this;rw[if_pos rfl]at this;omega
 | succ k ih =>
   intro hk;have h1:=ih (by omega);have h2:=(LD h hk).1;unfold tU at h2;rw[if_neg (by omega),Nat.add_sub_cancel]at h2;omega
def HX{l:List Int}(h:r9 l=true): l.length<=24:=by
 rcases Nat.lt_or_ge 24 l.length with hn|hn
 ·have h1:=abL h 24 hn;have h2:=(LD h hn).2;omega
 ·exact hn
def Ca{e:jl}(h:ou e=true): jH e.table=true/\(1<=e.ver/\e.ver<=2147483648)/\(0<=e.err/\e.err<=99)/\r9 e.rules=true/\e.rows.length<=24/\jm e.input=true/\ ∀ l ∈ e.rows,jm l=true:=by
 simp only[ou,aC,decide_eq_true_eq,bg]at h;obtain⟨⟨⟨⟨⟨⟨h1,h2⟩,h3⟩,h4⟩,h5⟩,h6⟩,h7⟩:=h;exact⟨h1,h2,h3,h4,h5,h6,h7⟩
def nO(e:jl): Prop:=e.table.length<=2 ^ 30/\mz e.ver/\mQ e.input/\mz e.err/\(e.rules.length<=2 ^ 30/\ ∀ n ∈ e.rules,mz n)/\e.rows.length<=2 ^ 30/\ ∀ l ∈ e.rows,mQ l
def J3{l:List aH}(h:jm l=true): l.length<=6/\ ∀ v ∈ l,bp v=true:=by
 simp only[jm,aC,decide_eq_true_eq,bg]at h;exact h
def QV{l:List aH}(h:jm l=true)(ok:mQ l)(r:aS): x8 (some 6) (kM l++r) false=(l,r,false):=by
 obtain⟨h1,h2⟩:=J3 h;unfold x8;dsimp only;rw[X6 (fun v hv=>⟨h2 v hv,(ok.2 v hv).1⟩) (by omega) (by omega)];rfl
def VB(r:aS): ∀(l out:List (List aH)),(∀ x ∈ l,jm x=true/\mQ x)->qY l.length out (l.flatMap kM++r) false=(out++l,r,false):=by
 intro l
 induction l with
 | nil=>intro out _;simp[qY]
 | cons c l ih =>
   intro out h;rw[List.length_cons,qY,List.flatMap_cons,aR,QV (h c (by simp)).1 (h c (by simp)).2,if_neg (by simp),ih _ (fun w hw=>h w (by simp[hw]))];simp
def VC(r:aS): ∀(l out:List Int),(∀ n ∈ l,mz n)->pZ l.length out (l.flatMap fj++r) false=(out++l,r,false):=by
 intro l
 induction l with
 | nil=>intro out _;simp[pZ]
 | cons c l ih =>
   intro out h;rw[List.length_cons,pZ,List.flatMap_cons,aR,x9 (h c (by simp)),if_neg (by simp),ih _ (fun w hw=>h w (by simp[hw]))];simp
def VD{e:jl}(ok:nO e)(h:ou e=true): u0 (mW e)=(e,[],false):=by
 obtain⟨h1,h2,h3,h4,h5,h6,h7⟩:=Ca h;obtain⟨o1,o2,o3,o4,o5,o6,o7⟩:=ok;have hn:=HV h1;have hl:=HX h4;unfold u0 mW;simp only[aR];rw[VA (by omega)];dsimp only;rw[x9 o2];dsimp only;rw[QV h6 o3];dsimp only;rw[x9 o4];dsimp only;unfold Ft;rw[x9 ⟨by omega,by omega⟩];dsimp only;rw[ff,VC _ _ _ o5.2];dsimp only;unfold Fu;rw[x9 ⟨by omega,by omega⟩];dsimp only;have:=VB [] e.rows [] (fun x hx=>⟨h7 x hx,o7 x hx⟩);rw[bH]at this;rw[ff,this];rfl
def zE{e:jl}(h:rR e=0): ou e=true/\(mW e).length<=1400:=by
 unfold rR at h;split at h
 ·cases h
 ·rename_i h1;split at h
  ·cases h
  ·exact⟨by simpa using h1,by omega⟩
def zF{e:jl}(h:(jN e).2=0): rR e=0/\jN e=(mW e,0):=by
 unfold jN at *;split at h
 ·rename_i h1;exact absurd h h1
 ·rename_i h1;exact⟨by omega,by rw[if_neg h1]⟩
def X7{e:jl}(ok:nO e)(h:(jN e).2=0): vF (jN e).1=(e,0):=by
 obtain⟨h1,h2⟩:=zF h;obtain⟨h3,h4⟩:=zE h1;rw[h2];unfold vF;dsimp only;rw[VD ok h3,if_neg (by rw[h2];simp)]
def Z_ (n : Nat) : ∀ (k : Nat) (out : List Int) (s : aS) (b : Bool), out.length + s.length + (if b then 0 else 1) <= n -> (∀ x ∈ out, mz x) ->
    (pZ k out s b).1.length+(pZ k out s b).2.1.length+(if(pZ k out s b).2.2 then 0 else 1)<=n/\ ∀ x ∈ (pZ k out s b).1,mz x:=by
 intro k
 induction k with
 | zero=>intro out s b h1 h2;rw[pZ];exact⟨h1,h2⟩
 | succ k ih =>
   intro out s b h1 h2;rw[pZ];cases b with
   | true=>rw[if_pos rfl];exact⟨h1,h2⟩
   | false =>
     simp only[aI,if_false]at h1 ⊢;have hg:=qD s;have hl:=jC s;refine ih _ _ _ ?_ ?_
     ·unfold ot;rw[List.length_append,List.length_singleton];dsimp only;by_cases he:(takeN s).2.2=0
      ·have:=hl.2.1 he;rw[he];simp;omega
      ·have:((takeN s).2.2 != 0)=true:=by simpa using he
       simp[this];omega
     ·intro x hx;rcases List.mem_append.1 hx with hx|hx
      ·exact h2 x hx
      ·rw[List.mem_singleton.1 hx];exact hg
def QW(s:aS)(m:Int)(h:(ju s m).2.2=0): (ju s m).2.1.length<s.length:=by
 have hn:=jC s;unfold ju at *;split at h
 ·rename_i h1;exact absurd h h1
 rename_i h1;rw[if_neg h1];split at h
 ·cases h
 rename_i h2;rw[if_neg h2];split at h
 ·cases h
 rename_i h3;rw[if_neg h3];have:=(M0 (takeN s).1.toNat [] (takeN s).2.1 (fun v hv=>by cases hv)).1;have:=hn.2.1 (by omega);omega
def aac (n : Nat) (hn : n <= 2 ^ 30) : ∀ (k : Nat) (out : List (List aH)) (s : aS) (b : Bool), out.length + s.length + (if b then 0 else 1) <= n -> (∀ x ∈ out, mQ x) ->
    (qY k out s b).1.length+(qY k out s b).2.1.length+(if(qY k out s b).2.2 then 0 else 1)<=n/\ ∀ x ∈ (qY k out s b).1,mQ x:=by
 intro k
 induction k with
 | zero=>intro out s b h1 h2;rw[qY];exact⟨h1,h2⟩
 | succ k ih =>
   intro out s b h1 h2;rw[qY];cases b with
   | true=>rw[if_pos rfl];exact⟨h1,h2⟩
   | false =>
     simp only[aI,if_false]at h1 ⊢;have hr:=HU s 6;have e:x8 (some 6) s false=((ju s 6).1,(ju s 6).2.1,(ju s 6).2.2 != 0):=by simp[x8]
     rw[e];have hlt:=QW s 6;refine ih _ _ _ ?_ ?_
     ·rw[List.length_append,List.length_singleton];dsimp only;by_cases he:(ju s 6).2.2=0
      ·have:=hlt he;rw[if_neg (by simp[he])];omega
      ·rw[if_pos (by simpa using he)];omega
     ·intro x hx;rcases List.mem_append.1 hx with hx|hx
      ·exact h2 x hx
      ·rw[List.mem_singleton.1 hx];exact⟨by have:=hr.2.2.2.2 (by omega);dsimp only;omega,fun v hv=>⟨(hr.2.1 v hv).2,by have:=HW (hr.2.1 v hv).1;omega⟩⟩
def aad{s:aS}(hs:s.length<=2 ^ 20): nO (u0 s).1:=by
 have h1:=EM s 1400;have l1:=jC (jc s 1400).2.1;have r1:=qD (jc s 1400).2.1;unfold u0;obtain⟨t,ht⟩:∃ t,Fs s false=t:=⟨_,rfl⟩;have e1:t.1.length<=s.length/\t.2.1.length<=s.length:=by rw[<-ht];exact⟨h1.1,h1.2.1⟩
 rw[ht];dsimp only;obtain⟨v,hv⟩:∃ v,ot t.2.1 t.2.2=v:=⟨_,rfl⟩;have e2:mz v.1/\v.2.1.length<=t.2.1.length:=by rw[<-hv];exact⟨qD _,(jC _).1⟩
 rw[hv];obtain⟨i,hi⟩:∃ i,x8 (some 6) v.2.1 v.2.2=i:=⟨_,rfl⟩;have hr:=HU v.2.1 6
 have e3:mQ i.1/\i.2.1.length<=v.2.1.length:=by
  rw[<-hi];exact⟨⟨by have:=hr.2.2.2.2 (by omega);show(ju v.2.1 6).1.length<=_;omega,fun x hx=>⟨(hr.2.1 x hx).2,by have:=HW (hr.2.1 x hx).1;omega⟩⟩,hr.1⟩
 rw[hi];obtain⟨e,he⟩:∃ e,ot i.2.1 i.2.2=e:=⟨_,rfl⟩;have e4:mz e.1/\e.2.1.length<=i.2.1.length:=by rw[<-he];exact⟨qD _,(jC _).1⟩
 rw[he];unfold Ft;obtain⟨n,hn⟩:∃ n,ot e.2.1 e.2.2=n:=⟨_,rfl⟩;have e5:n.2.1.length<=e.2.1.length:=by rw[<-hn];exact(jC _).1
 rw[hn];obtain⟨a1,a2⟩:=Z_ (2 ^ 20+1) n.1.toNat [] n.2.1 n.2.2 (by simp;split<;>omega) (fun x hx=>by cases hx);generalize pZ n.1.toNat [] n.2.1 n.2.2=q at *;unfold Fu;obtain⟨m,hm⟩:∃ n,ot q.2.1 q.2.2=n:=⟨_,rfl⟩;have e6:m.2.1.length<=q.2.1.length:=by rw[<-hm];exact(jC _).1
 rw[hm];obtain⟨b1,b2⟩:=aac (2 ^ 21) (by decide) m.1.toNat [] m.2.1 m.2.2 (by simp;split<;>omega) (fun x hx=>by cases hx);exact⟨by dsimp only;omega,e2.1,e3.1,e4.1,⟨by dsimp only;omega,a2⟩,by dsimp only;omega,b2⟩
def Fv: nO zD:=⟨by decide,adz,⟨by decide,fun c hc=>(by cases hc)⟩,adz,⟨by decide,fun c hc=>(by cases hc)⟩,by decide,fun c hc=>(by cases hc)⟩
def r_(a b:jl): Bool:=decide (a.table=b.table) && decide (a.ver=b.ver) && fm (fun x y=>x==y) a.input b.input && decide (a.err=b.err) && fm (fun x y:Int=>x==y) a.rules b.rules && fm (fm fun x y=>x==y) a.rows b.rows
def wM(a:jl): r_ a a=true:=by
 unfold r_;rw[x4 a.input (fun x _=>by simp),x4 a.rules (fun x _=>by simp),x4 a.rows (fun x _=>x4 x (fun y _=>by simp))];simp
