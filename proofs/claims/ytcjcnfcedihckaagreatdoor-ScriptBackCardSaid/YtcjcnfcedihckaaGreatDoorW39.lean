/- Part. -/
import Derived.Test.YtcjcnfcedihckaaGreatDoorW38
import Derived.WalkKit
import Derived.ProofKit
import Derived.OpenShut
import Derived.ReadAgain
import Derived.Deep.SlicePairs
set_option linter.all false
set_option maxHeartbeats 8000000
namespace Go.Proofs.YtcjcnfcedihckaaGreatDoor
open Go.AM
set_option maxRecDepth 4000
def Hs(S:ae)(k:Nat)(r:gu): Prop:= ∃ o i u p q0 ys,S[k]? = some (.cells [o,I r.now,.str r.t.name,i,u,I r.t.aM,I r.t.agg,p])/\jC S k r.out o q0 ys/\(r.now≠0-> ∃ q1 q2 q3,nj S k r.t i u p q1 q2 q3)
def Lj {S : ae} {k : Nat} {r : gu} {u s : aI} (h : Hs S k r) (hn : r.now ≠ 0) (hi : Inv r u) (hg : s6 r) (hs : s.length <= 2 ^ 16) :
    cN aK 60 [.ref k 0,.str s] S fun o' S'=>o' = .ret (.bool (jL r s).2)/\((jL r s).2=true->Hs S' k (jL r s).1):=by
 obtain⟨o,i,v,p,q0,ys,hk,h0,ht⟩:=h;obtain⟨q1,q2,q3,ht⟩:=ht hn;obtain⟨_,hl,n1,n4⟩:=hi.abZ hn;have g:=hg.tab hn;unfold jL;split
 ·rename_i c;refine(VM c.1 (by omega) hs hk h0 ht g).mono ?_;rintro e s' ⟨rfl,v',q',a,b,d⟩;exact⟨rfl,fun _=>⟨o,v',v,p,q0,ys,a,b,fun _=>⟨q',q2,q3,d⟩⟩⟩
 split
 ·rename_i c0 c;refine(SP c.1 c.2 (hi.p1 (by omega)) hs hk h0 ht g).mono ?_;rintro e s' ⟨rfl,v',q',a,b,d⟩;exact⟨rfl,fun _=>⟨o,i,v',p,q0,ys,a,b,fun _=>⟨q1,q',q3,d⟩⟩⟩
 split
 ·rename_i c0 c1 c;refine(Ph c.1 c.2 (hi.p1 (by omega)) hs hk h0 ht g).mono ?_;rintro e s' ⟨rfl,v',q',a,b,d⟩;exact⟨rfl,fun _=>⟨o,i,v,v',q0,ys,a,b,fun _=>⟨q1,q2,q',d⟩⟩⟩
 split
 ·rename_i c0 c1 c2 c;obtain⟨rfl,c⟩:=c;refine(SR c hl hk h0 ht).mono ?_;rintro e s' ⟨rfl,o1,i1,u1,p1,q,VN,a,b⟩;exact⟨rfl,fun _=>⟨o1,i1,u1,p1,q,VN,a,b,fun h=>absurd rfl h⟩⟩
 ·rename_i c0 c1 c2 c3;refine(VO hs c0 c1 c2 c3 hk).mono ?_;rintro e s' ⟨rfl,rfl⟩;exact⟨rfl,fun h=>by cases h⟩
def X1(t:Table): (j5 t).getD 0 []=kF t:=rfl
def VQ(c:dX): 1<=(dR c).length:=by
 unfold dR;repeat' split
 all_goals first|(simp;done)|(simp[j5,eW];done)
def aaf{r:gu}{s:aI}(h:(gw r s).2=true): (gw r s).1.t.ins=[]/\(gw r s).1.t.outs=[]/\(gw r s).1.t.rules=[]:=by
 unfold gw at h ⊢;split at h
 ·cases h
 ·rename_i c;rw[if_neg c];exact⟨rfl,rfl,rfl⟩
def NU{r:gu}{s:aI}(hn:r.now≠0): eU r s=jL r s:=by unfold eU;rw[if_pos hn]
def SS{r:gu}{s:aI}(hn:r.now=0)(h:r.out.length=64): eU r s=(r,false):=by unfold eU;rw[if_neg (by omega),if_pos h]
def VT{r:gu}{s:aI}(hn:r.now=0)(h:r.out.length≠64)(hp:ur.isPrefixOf s=true): eU r s=((gw r s).1,(gw r s).2 && dP (gw r s).1.t && decide (kF (gw r s).1.t=s)):=by unfold eU;rw[if_neg (by omega),if_neg h,if_pos hp]
def VU{r:gu}{s:aI}(hn:r.now=0)(h:r.out.length≠64)(hp:ur.isPrefixOf s=false): eU r s=if(l8 s).2=false\/dY (l8 s).1≠0\/(dR (l8 s).1).getD 0 []≠s then(r,false)else (⟨r.out++[(l8 s).1],r.now,r.t⟩,true):=by unfold eU;rw[if_neg (by omega),if_neg h,if_neg (by rw[hp];decide)]
def uy(S:ae)(k:Nat)(r:gu)(s:aI): Prop:=cN aK 28 [.ref k 0,.str s] S fun o' S'=>o' = .ret (.bool (eU r s).2)/\((eU r s).2=true->Hs S' k (eU r s).1)
def NV{S:ae}{k:Nat}{r:gu}{u s:aI}(h:Hs S k r)(hn:r.now≠0)(hi:Inv r u)(hg:s6 r)(hs:s.length<=2 ^ 16): uy S k r s:=by
 unfold uy;have c:=Lj h hn hi hg hs;rw[<-NU hn]at c;obtain⟨o,i,v,p,q0,ys,hk,h0,ht⟩:=h;generalize eU r s=E at *;refine gP.go ?_;unfold eP;intro Q aF aG aH;repeat' first|simp (disch:=omega) only[go_sem,aF,aG,aH,hk]|refine aE ?_|with_reducible refine cz c ?_|refine aD ?_ ?_<;>intro hw<;>try omega|fail
 all_goals first|exact bN|skip
 rintro o' S' ⟨rfl,h'⟩;repeat' first|refine aE ?_|refine aD ?_ ?_<;>intro hw<;>try omega|fail
 all_goals first|exact⟨rfl,h'⟩|skip
def SU{S:ae}{k:Nat}{r:gu}{s:aI}(h:Hs S k r)(hn:r.now=0)(hl:r.out.length=64): uy S k r s:=by
 unfold uy;rw[SS hn hl];obtain⟨o,i,v,p,q0,ys,hk,h0,ht⟩:=h;have hlen:=Hr h0;rcases h0.o with⟨he,rfl⟩|⟨he,rfl,hq⟩
 ·rw[he]at hlen;simp at hlen;omega
 ·refine gP.go ?_;unfold eP;intro Q aF aG aH;repeat' first|simp (disch:=omega) only[go_sem,aF,aG,aH,hk]|refine aE ?_|refine aD ?_ ?_<;>intro hw<;>try omega|fail
  all_goals first|exact bN|exact⟨rfl,fun h=>by cases h⟩|skip
end Go.Proofs.YtcjcnfcedihckaaGreatDoor
namespace Go.Proofs.YtcjcnfcedihckaaGreatDoor
open Go.AM
set_option maxRecDepth 4000
def X2{S:ae}{k:Nat}{l:List dX}{o:AV}{q0:Nat}{ys:List AV}{cs:List AV}{c:aY}(hk:S[k]? = some (.cells cs))(h:jC S k l o q0 ys): jC (S.set k c) k l o q0 ys :=
 ⟨h.vw,h.o.ux hk (fun j o' hj hne=>by rw[List.getElem?_set_ne (Ne.symm hne)];exact hj)⟩
def VW{S:ae}{k:Nat}{r:gu}{s:aI}(h:Hs S k r)(hn:r.now=0)(hl:r.out.length≠64)(uQ:r.out.length<=64)(hs:s.length<=2 ^ 16)(hp:ur.isPrefixOf s=true): uy S k r s:=by
 unfold uy;rw[VT hn hl hp];obtain⟨o,i,v,p,q0,ys,hk,h0,_⟩:=h;have hlen:=Hr h0;have c0:=strings_HasPrefix s ur;rw[hp]at c0;have c1:=NS (r:=r) hs hk;have ht:=aaf (r:=r) (s:=s);have hg:=Hp (r:=r) hs;generalize gw r s=B at *;obtain⟨⟨bo,bn,t⟩,b⟩:=B;dsimp only at c1 ht hg ⊢;have hsc:=h0.o.scalar;have tl:List.length s<2 ^ 62:=by omega
 have key:∀ (o':Out) (S':ae),(o' = .ret (.bool b)/\(b=true->S'=S.set k (.cells [o,I 1,.str t.name,.au,.au,I t.aM,I t.agg,.au])))->b=true ->
  S'[k]? = some (.cells [o,I 1,.str t.name,.au,.au,I t.aM,I t.agg,.au])/\jC S' k r.out o q0 ys/\nj S' k t .au .au .au 0 0 0/\jQ t/\Hh t/\bo=r.out/\bn=1:=fun o' S' h hb=>by
  obtain⟨e1,e2,e3⟩:=ht hb;obtain⟨g1,g2,g3⟩:=hg hb;rw[h.2 hb];exact⟨List.getElem?_set_self (ef hk),X2 hk h0,⟨.inl ⟨by rw[e1];rfl,rfl⟩,.inl ⟨by rw[e2];rfl,rfl⟩,.inl ⟨by rw[e3];rfl,rfl⟩,fun h=>absurd e1 h⟩,g3.ok,g3.tx,g1,g2⟩
 have c2:b=true->aP aK 42 [.agg [.str t.name,.aO false EC [],.aO false EC [],I t.aM,I t.agg,.aO false ER []]] (.aO false E1 ((j5 t).map cj)):=fun hb=>by
  obtain⟨e1,e2,e3⟩:=ht hb;have:=w_ t (hg hb).2.2.tx;simp only[dV,ia,cJ,eF,e1,e2,e3,br,bX]at this;exact this
 have e4:(j5 t).getD 0 []=kF t:=X1 t;have e5:1<=(j5 t).length:=by simp[j5,eW]
 have e6:(j5 t).getD 0 default=kF t:=e4;generalize j5 t=TL at *;generalize kF t=HW at *;refine gP.go ?_;unfold eP;intro Q aF aG aH;rcases h0.o with⟨he,rfl⟩|⟨he,rfl,hq⟩
 all_goals
  repeat' first|simp (disch:=omega) only[go_sem,aF,aG,aH,hk]|refine aE ?_|refine fm c0 ?_|with_reducible refine cz c1 ?_|refine aD ?_ ?_<;>intro hw<;>try omega|fail
 all_goals first|exact bN|skip
 all_goals
  intro o' S' h';have hkey:=key o' S' h';obtain⟨rfl,h'⟩:=h';cases b
 ·repeat' first|refine aE ?_|refine aD ?_ ?_<;>intro hw<;>try omega|fail
  all_goals first|exact⟨rfl,fun h=>by cases h⟩|skip
 ·obtain⟨k1,k2,k3,k4,k5,k6,k7⟩:=hkey rfl;subst k6;subst k7;have c2:=c2 rfl;have hv:=rT (t:=t) k1 k2 k3;have AO:(HW==s)=decide (HW=s):=by rw[a_];simp
  repeat' first|refine aE ?_|refine aD ?_ ?_<;>intro hw<;>try omega|fail
  refine lS hv k4 ?_;cases hst:dP t
  ·repeat' first|refine aE ?_|refine aD ?_ ?_<;>intro hw<;>try omega|fail
   all_goals first|exact⟨by simp[hst,oneOf],fun h=>by simp[hst]at h⟩|skip
  ·repeat' first|simp (disch:=omega) only[go_sem,aF,aG,aH,k1,e6,e5]|refine aE ?_|refine xJ c2 ?_|refine aD ?_ ?_<;>intro hw<;>try omega|fail
   all_goals first|exact⟨by rw[hst,AO];rfl,fun _=>⟨_,.au,.au,.au,q0,ys,k1,k2,fun _=>⟨0,0,0,k3⟩⟩⟩|exact bN|skip
 ·repeat' first|refine aE ?_|refine aD ?_ ?_<;>intro hw<;>try omega|fail
  all_goals first|exact⟨rfl,fun h=>by cases h⟩|skip
 ·obtain⟨k1,k2,k3,k4,k5,k6,k7⟩:=hkey rfl;subst k6;subst k7;have c2:=c2 rfl;have hv:=rT (t:=t) k1 k2 k3;have AO:(HW==s)=decide (HW=s):=by rw[a_];simp
  repeat' first|refine aE ?_|refine aD ?_ ?_<;>intro hw<;>try omega|fail
  refine lS hv k4 ?_;cases hst:dP t
  ·repeat' first|refine aE ?_|refine aD ?_ ?_<;>intro hw<;>try omega|fail
   all_goals first|exact⟨by simp[hst,oneOf],fun h=>by simp[hst]at h⟩|skip
  ·repeat' first|simp (disch:=omega) only[go_sem,aF,aG,aH,k1,e6,e5]|refine aE ?_|refine xJ c2 ?_|refine aD ?_ ?_<;>intro hw<;>try omega|fail
   all_goals first|exact⟨by rw[hst,AO];rfl,fun _=>⟨_,.au,.au,.au,q0,ys,k1,k2,fun _=>⟨0,0,0,k3⟩⟩⟩|exact bN|skip
end Go.Proofs.YtcjcnfcedihckaaGreatDoor
namespace Go.Proofs.YtcjcnfcedihckaaGreatDoor
open Go.AM
set_option maxRecDepth 4000
def VX{S:ae}{k:Nat}{r:gu}{s:aI}(h:Hs S k r)(hn:r.now=0)(hl:r.out.length≠64)(uQ:r.out.length<=64)(hs:s.length<=2 ^ 16)(hp:ur.isPrefixOf s=false): uy S k r s:=by
 unfold uy;rw[VU hn hl hp];obtain⟨o,i,v,p,q0,ys,hk,h0,_⟩:=h;have hlen:=Hr h0;have c0:=strings_HasPrefix s ur;rw[hp]at c0;have c1:=SL s (by omega);have ok:=ok_one hs;generalize l8 s=B at *;obtain⟨c,b⟩:=B;dsimp only at c1 ok ⊢;have c2:=A5 c ok;have c3:=fun h=>C0 c (AB ok h);have e5:=VQ c;generalize dR c=TL at *;obtain⟨HW,hHW⟩:∃ HW,TL.getD 0 []=HW:=⟨_,rfl⟩;rw[hHW];have e6:TL.getD 0 default=HW:=hHW;have hsc:=h0.o.scalar;have lt:=ef hk;have hx:View [] (ey c) (ey c):= .refl _ (by simp[ey,AV.dz,Kr]);have agE:(HW==s)=decide (HW=s):=by rw[a_];simp
 simp only[ey,ju]at c1 c2 c3;by_cases hb:b=false\/dY c≠0
 ·rw[if_pos (by rcases hb with h|h;exact .inl h;exact .inr (.inl h))];generalize dY c=e at *;refine gP.go ?_;unfold eP;intro Q aF aG aH;rcases h0.o with⟨he,rfl⟩|⟨he,rfl,hq⟩
  all_goals
   cases b
  all_goals
   repeat' first|simp (disch:=omega) only[go_sem,aF,aG,aH,hk]|refine aE ?_|refine fm c0 ?_|refine aD ?_ ?_<;>intro hw<;>try omega|fail
  all_goals first|exact⟨rfl,fun h=>by cases h⟩|exact bN|skip
 have gN:b=true/\dY c=0:=by
  refine⟨?_,Classical.byContradiction fun h=>hb (.inr h)⟩;cases b
  ·exact absurd (.inl rfl) hb
  ·rfl
 obtain⟨rfl,sR⟩:=gN;have c3:=c3 sR;rw[sR]at c2 ⊢;simp only[bX]at c3;by_cases hs1:HW≠s
 ·rw[if_pos (.inr (.inr hs1))];refine gP.go ?_;unfold eP;intro Q aF aG aH;rcases h0.o with⟨he,rfl⟩|⟨he,rfl,hq⟩
  all_goals
   repeat' first|simp (disch:=omega) only[go_sem,aF,aG,aH,hk,e5,e6]|refine aE ?_|refine fm c0 ?_|refine aD ?_ ?_<;>intro hw<;>try omega|fail
  all_goals first|exact⟨rfl,fun h=>by cases h⟩|exact bN|skip
 have hs0:HW=s:=Classical.not_not.1 hs1;rw[if_neg (by simp[hs0])];have ho:=h0.o;rcases ho with⟨he,rfl⟩|⟨he,rfl,hq⟩
 ·have hap:∀ d:aY,(S++[d])[k]? = some (.cells [.au,I r.now,.str r.t.name,i,v,I r.t.aM,I r.t.agg,p]):=fun d=>by rw[aC lt];exact hk
  have iQ:∀ d e:aY,(S++[d]++[e])[k]? = some (.cells [.au,I r.now,.str r.t.name,i,v,I r.t.aM,I r.t.agg,p]):=fun d e=>by rw[aC (by simp;omega)];exact hap d
  have iD:∀ d e c:aY,((S++[d]++[e]).set k c)[k]? = some c:=fun d e c=>List.getElem?_set_self (by simp;omega)
  have fin:∀ d a:aY,jC ((S++[d]++[aY.vec EK [ey c]]).set k a) k (r.out++[c]) (.own EK (S.length+1) 1 0 1) (S.length+1) (ys++[ey c]):=fun d a =>
   NQ h0 he hx (by rw[List.getElem?_set_ne (by omega)];simp)
  refine gP.go ?_;unfold eP;intro Q aF aG aH;repeat' first|simp (disch:=omega) only[go_sem,aF,aG,aH,hk,hap,iQ,iD,e5,e6,bA,aB,if_false,bH,aS]|refine aE ?_|refine fm c0 ?_|refine aD ?_ ?_<;>intro hw<;>try omega|fail
  all_goals first|exact⟨rfl,fun _=>⟨_,i,v,p,_,_,iD _ _ _,fin _ _,fun h=>absurd hn h⟩⟩|(exfalso;omega)|(exfalso;contradiction)|skip
 ·have rP:q0≠k:=fun e=>by subst e;rw[hq]at hk;cases hk
  have lq:=ef hq;have hap:∀ d:aY,(S++[d])[k]? = some (.cells [.own EK q0 ys.length 0 ys.length,I r.now,.str r.t.name,i,v,I r.t.aM,I r.t.agg,p]):=fun d=>by rw[aC lt];exact hk
  have qt:∀ d:aY,(S++[d])[q0]? = some (.vec EK ys):=fun d=>by rw[aC lq];exact hq
  have iQ:∀ d e:aY,((S++[d]).set q0 e)[k]? = some (.cells [.own EK q0 ys.length 0 ys.length,I r.now,.str r.t.name,i,v,I r.t.aM,I r.t.agg,p]):=fun d e=>by rw[List.getElem?_set_ne rP];exact hap d
  have iD:∀ d e c:aY,(((S++[d]).set q0 e).set k c)[k]? = some c:=fun d e c=>List.getElem?_set_self (by simp;omega)
  have fin:∀ d a:aY,jC (((S++[d]).set q0 (aY.vec EK (ys++[ey c]))).set k a) k (r.out++[c]) (.own EK q0 (ys.length+1) 0 (ys.length+1)) q0 (ys++[ey c]):=fun d a =>
   NR h0 hx (by rw[List.getElem?_set_ne (Ne.symm rP),List.getElem?_set_self (by simp;omega)])
  refine gP.go ?_;unfold eP;intro Q aF aG aH;repeat' first|simp (disch:=omega) only[go_sem,aF,aG,aH,hk,hap,qt,iQ,iD,e5,e6,bA,aB,if_false,bH,aS]|refine aE ?_|refine fm c0 ?_|refine aD ?_ ?_<;>intro hw<;>try omega|fail
  all_goals first|exact⟨rfl,fun _=>⟨_,i,v,p,_,_,iD _ _ _,fin _ _,fun h=>absurd hn h⟩⟩|(exfalso;omega)|(exfalso;contradiction)|skip
def Pk{S:ae}{k:Nat}{r:gu}{u s:aI}(h:Hs S k r)(hi:Inv r u)(hg:s6 r)(hs:s.length<=2 ^ 16): uy S k r s:=by
 by_cases hn:r.now=0
 ·by_cases hl:r.out.length=64
  ·exact SU h hn hl
  ·cases hp:ur.isPrefixOf s with
   | true=>exact VW h hn hl hi.len hs hp
   | false=>exact VX h hn hl hi.len hs hp
 ·exact NV h hn hi hg hs
end Go.Proofs.YtcjcnfcedihckaaGreatDoor
namespace Go.Proofs.YtcjcnfcedihckaaGreatDoor
open Go.AM
set_option maxRecDepth 4000
def NW(p:List dX × Int × Int): AV:= .bO [lI p.1,I p.2.1,I p.2.2]
def NX(s:aI)(h:(cH 10 s).2.2=true): (cH 10 s).2.1.length<s.length:=by
 have:=Ax 10 s;obtain⟨h1,h2,h3⟩:=this.1 h;rw[h2,List.length_drop];omega
def SV{f:Nat}{r:gu}{s:aI}{n:Int}(hs:s≠[])(h1:(cH 10 s).2.2=true)(h2:(eU r (cH 10 s).1).2=true): iz (f+1) r s n=iz f (eU r (cH 10 s).1).1 (cH 10 s).2.1 (n+1):=by
 rw[iz,if_neg hs,if_neg (by rw[h1];decide),if_neg (by rw[h2];decide)]
def VY{f:Nat}{r:gu}{s:aI}{n:Int}(h1:(cH 10 s).2.2=false): iz f r s n=(r,s,n):=by
 cases f with
 | zero=>rfl
 | succ f =>
   by_cases hs:s=[]
   ·rw[iz,if_pos hs]
   ·rw[iz,if_neg hs,if_pos h1]
def VZ{f:Nat}{r:gu}{s:aI}{n:Int}(hf:s.length<=f)(hs:s≠[])(h1:(cH 10 s).2.2=true)(h2:(eU r (cH 10 s).1).2=false): (iz f r s n).2=(s,n):=by
 cases f with
 | zero=>exact absurd (List.length_eq_zero_iff.1 (by omega)) hs
 | succ f=>rw[iz,if_neg hs,if_neg (by rw[h1];decide),if_pos h2]
structure PI (s0:aI) (F:gu × aI × Int) (s:aI) (n:Int) (S:ae):Prop where
 ex:∃ f r u,s.length<=f/\iz f r s n=F/\Inv r u/\s6 r/\Hs S 0 r
 len:s.length<=s0.length
 n1:1<=n
 n2:n+s.length<=s0.length+1
def xd(s:aI)(hs:s.length<=2 ^ 40): aP aK 14 [.str s] (NW (jv s)):=by
 obtain⟨E,hE⟩:∃ E,jv s=E:=⟨_,rfl⟩;rw[hE];unfold jv at hE;unfold NW lI;by_cases hbig:65536<s.length
 ·rw[if_pos hbig]at hE;refine aR xF ?_;intro Q aF aG aH;repeat' first|refine aE ?_|refine aD ?_ ?_<;>intro hw<;>try omega|fail
  all_goals first|exact bN|(rw[<-hE];exact cG h_)|skip
 rw[if_neg hbig]at hE;obtain⟨F,hF⟩:∃ F,iz s.length wZ s 1=F:=⟨_,rfl⟩;rw[hF]at hE
 have hi0:PI s F s 1 [.cells [.au,I 0,.str [],.au,.au,I 0,I 0,.au]] :=
  ⟨⟨_,wZ,[],Nat.le_refl _,hF,XE,YU,_,_,_,_,0,[],rfl,⟨.nil _,.inl ⟨rfl,rfl⟩⟩,fun h=>absurd rfl h⟩,Nat.le_refl _,by omega,by omega⟩
 refine aR xF ?_;intro Q aF aG aH;repeat' first|refine aE ?_|refine aD ?_ ?_<;>intro hw<;>try omega|fail
 all_goals first|exact bN|skip
 with_reducible refine bZ [0,6,7,8,9,15,16,17,18,19,20,21,22,23,24,25,26,27,28,29,30,31,32,33] (fun x:(aI × Int) × ae=>[(0,.str x.1.1),(6,I x.1.2)]) (fun x=>x.2) (fun x=>PI s F x.1.1 x.1.2 x.2) (fun x=>x.1.1.length) ((s,1),_) hi0 rfl ?_ ?_
 ·exact at_
 rintro⟨⟨z,n⟩,S⟩ rr ⟨⟨f,r,u,g1,g2,g3,g4,g5⟩,g6,g7,g8⟩;dsimp only at g1 g2 g3 g4 g5 g6 g7 g8;have hA:=g5;obtain⟨o,i,v,p,q0,ys,hk,h0,_⟩:=hA;by_cases hz:z=[]
 ·subst hz;rw[Kl]at g2;rw[<-g2]at hE;dsimp only at hE;by_cases hn:r.now=0
  ·rw[if_neg (by simp[hn])]at hE;repeat' first|simp (disch:=omega) only[go_sem,aF,aG,aH,hk]|refine aE ?_|refine aD ?_ ?_<;>intro hw<;>try omega|fail
   all_goals first|exact bN|(rw[<-hE];exact cG (mI (h0.o.view h0.vw)))|skip
  ·rw[if_pos (.inr hn)]at hE;repeat' first|simp (disch:=omega) only[go_sem,aF,aG,aH,hk]|refine aE ?_|refine aD ?_ ?_<;>intro hw<;>try omega|fail
   all_goals first|exact bN|(rw[<-hE];exact cG h_)|skip
 have c1:=m_ z 10 (by omega);have L8:=NX z;have kj:=IS 10 z;obtain⟨X,hX⟩:∃ X,cH 10 z=X:=⟨_,rfl⟩;rw[hX]at c1 L8 kj;cases hb:X.2.2 with
 | false =>
   rw[VY (by rw[hX];exact hb)]at g2;rw[<-g2,if_pos (.inl hz)]at hE;simp only[vf,hb]at c1;repeat' first|simp (disch:=omega) only[go_sem,aF,aG,aH,hk]|refine aE ?_|refine aD ?_ ?_<;>intro hw<;>try omega|fail
   all_goals first|exact bN|(rw[<-hE];exact cG h_)|skip
 | true =>
 have c2:=Pk g5 g3 g4 (s:=X.1) (by omega);unfold uy at c2;simp only[vf,hb]at c1;cases hl:(eU r X.1).2 with
 | false =>
   have g2':=VZ (n:=n) (r:=r) g1 hz (by rw[hX];exact hb) (by rw[hX];exact hl);rw[g2]at g2';rw[g2',if_pos (.inl hz)]at hE;rw[hl]at c2;repeat' first|simp (disch:=omega) only[go_sem,aF,aG,aH,hk]|refine aE ?_|with_reducible refine cz c2 ?_|refine aD ?_ ?_<;>intro hw<;>try omega|fail
   all_goals first|exact bN|skip
   all_goals
    rintro o' S' ⟨rfl,h'⟩;repeat' first|refine aE ?_|refine aD ?_ ?_<;>intro hw<;>try omega|fail
   all_goals first|exact bN|(rw[<-hE];exact cG h_)|skip
 | true =>
   obtain⟨f,rfl⟩:∃ f',f=f'+1:=⟨f-1,by have:=List.length_pos_iff.2 hz;omega⟩;rw[SV hz (by rw[hX];exact hb) (by rw[hX];exact hl),hX]at g2;have hlt:=L8 hb;have gi:=Ft g3 hl;have gg:=Ku g3 g4 (by omega) hl;rw[hl]at c2;repeat' first|simp (disch:=omega) only[go_sem,aF,aG,aH,hk]|refine aE ?_|with_reducible refine cz c2 ?_|refine aD ?_ ?_<;>intro hw<;>try omega|fail
   all_goals first|exact bN|skip
   all_goals
    rintro o' S' ⟨rfl,h'⟩;repeat' first|refine aE ?_|refine aD ?_ ?_<;>intro hw<;>try omega|fail
   all_goals refine⟨((X.2.1,n+1),S'),⟨⟨f,_,_,by dsimp only;omega,g2,gi,gg,by first|exact h' trivial|exact h' rfl⟩,by dsimp only;omega,by dsimp only;omega,by dsimp only;omega⟩,by dsimp only;omega,rfl,dH,at_⟩
end Go.Proofs.YtcjcnfcedihckaaGreatDoor
namespace Go.Proofs.YtcjcnfcedihckaaGreatDoor
open Go.AM
set_option maxRecDepth 4000
abbrev sB: aI:=[108,111,103,32,50,32,53,10]
abbrev sP: aI:=[108,105,115,116,10,108,111,103,32,50,32,53,10]
def Ht: dY vA=0:=by decide
def acd: dY A7=0:=by decide
def ace: Lib.itoa 2=[50]:=by unfold Lib.itoa;rw[if_neg (by decide)];exact pU (by decide)
def acf: Lib.itoa 5=[53]:=by unfold Lib.itoa;rw[if_neg (by decide)];exact pU (by decide)
def Kx: dR vA=[[108,111,103,32,50,32,53]]:=by
 have:dR vA=[cg [tX,Lib.itoa 2,Lib.itoa 5]]:=rfl;rw[this,ace,acf];rfl
def V5: dR A7=[[108,105,115,116]]:=rfl
def X3: fI [vA]=sB:=by simp[fI,Kx,ei]
def NY: fI [A7,vA]=sP:=by simp[fI,Kx,V5,ei]
def V6: lJ [vA]=(sB,0):=by
 unfold lJ;rw[if_neg (by decide),List.find?_cons_of_neg (by rw[Ht];decide),List.find?_nil];dsimp only;rw[X3]
def X4: jv sP=([A7,vA],0,0):=by
 have:=G9 (l:=[A7,vA]) (by decide) (fun c hc=>by
  rcases List.mem_cons.1 hc with rfl|hc
  ·exact⟨Vf,acd⟩
  ·rw[bK.1 hc];exact⟨CL,Ht⟩) (by rw[NY];decide)
 rw[NY]at this;exact this
def X5: gy mw [A7,vA] [A7,vA]=true:=by decide
def X6: (fG [97,32,124,32,34,124,34] 124).length=2:=by decide
def Ee: aP aK 8 [] (.bool true):=by
 have c1:=Ed [vA] (by decide) (fun c hc=>by rw[bK.1 hc];exact CL) (fun c hc h=>by rw[bK.1 hc];exact⟨AB CL Ht,FA CL Ht⟩);have c2:=xd sP (by decide);rw[V6]at c1;rw[X4]at c2
 have hok:∀ c ∈ [A7,vA],iJ c:=fun c hc=>by
  rcases List.mem_cons.1 hc with rfl|hc
  ·exact Vf
  ·rw[bK.1 hc];exact CL
 have c3:=A6 [A7,vA] [A7,vA] (by decide) (by decide) hok hok;rw[X5]at c3;have c4:aP aK 12 [.str [97,32,124,32,34,124,34],.int .u8 124] (bX (fG [97,32,124,32,34,124,34] 124)):=pH [97,32,124,32,34,124,34] 124 (by decide);have hl:=X6;generalize fG [97,32,124,32,34,124,34] 124=L at *;simp only[bX]at c4;simp only[eB,NW,lI,aZ,br,ey,ju,vA,A7,eS,iH]at c1 c2 c3;refine aR HQ ?_;intro Q aF aG aH;repeat' first|simp (disch:=omega) only[go_sem,aF,aG,aH,hl]|refine aE ?_|refine xJ c1 ?_|refine xJ c3 ?_|refine aD ?_ ?_<;>intro hw<;>try omega|fail
 all_goals first|exact bN|exact iw h_|skip
end Go.Proofs.YtcjcnfcedihckaaGreatDoor
namespace Go.Proofs.YtcjcnfcedihckaaGreatDoor
open Go.AM
set_option maxRecDepth 4000
def V7: ∀(f:Nat) (r:gu) (s u:aI) (n:Int),s.length<=f->s.length<=2 ^ 16->Inv r u->s6 r->(iz f r s n).2.1=[]->s6 (iz f r s n).1/\ ∃ v,Inv (iz f r s n).1 v:=by
 intro f
 induction f with
 | zero =>
   intro r s u n hf hs hi hg _;exact⟨hg,u,hi⟩
 | succ f ih =>
   intro r s u n hf hs hi hg h0;rw[iz]at h0 ⊢;split at h0
   ·rename_i h;rw[if_pos h];exact⟨hg,u,hi⟩
   rename_i hz;rw[if_neg hz];split at h0
   ·exact absurd h0 hz
   rename_i hc;rw[if_neg hc];rw[Bool.not_eq_false]at hc;split at h0
   ·exact absurd h0 hz
   rename_i hl;rw[if_neg hl];rw[Bool.not_eq_false]at hl;have hlt:=NX s hc;have kj:=IS 10 s;exact ih _ _ _ _ (by omega) (by omega) (Ft hi hl) (Ku hi hg (by omega) hl) h0
def SW(s:aI)(hs:s.length<=65536): (jv s).1.length<=64/\ ∀ c ∈ (jv s).1,iJ c/\dY c=0:=by
 unfold jv;rw[if_neg (by omega)];split
 ·exact⟨by simp,fun c hc=>by cases hc⟩
 ·rename_i h;simp only[not_or,Classical.not_not]at h;obtain⟨g,v,i⟩:=V7 s.length wZ s [] 1 (Nat.le_refl _) hs XE YU h.1;exact⟨i.len,fun c hc=>⟨g.out c hc,i.Kg c hc⟩⟩
def QC(l:List dX)(hl:l.length<=2 ^ 30)(h:∀ c ∈ l,iJ c): aP aK 9 [lI l] (eB (lJ l)) :=
 Ed l hl h fun c hc hk=>⟨AB (h c hc) hk,FA (h c hc) hk⟩
def aag{s:aI}{i:Nat}(h:i<s.length): w5 (s.take (i+1))=w5 (s.take i)+if (s.getD i 0).toNat=10 then 1 else 0:=by
 have e:s.take (i+1)=s.take i++[s.getD i 0]:=by
  rw[List.take_add_one,aj];simp[h]
 unfold w5;rw[e,List.countP_append];simp[List.countP_cons]
def Eg(s:aI): aP aK 5 [.str s] (.bool true):=by
 have c0:=Ee;by_cases hbig:20000<s.length
 ·refine aR oG ?_;intro Q aF aG aH;repeat' first|refine aE ?_|refine fm c0 ?_|refine aD ?_ ?_<;>intro hw<;>try omega|fail
  all_goals first|exact bN|exact iw h_|skip
 have c1:=xd s (by omega);have hp:=Sy s (by omega);have hg:=SW s (by omega);have c2:=QC (jv s).1 (by omega) (fun c hc=>(hg.2 c hc).1);obtain⟨UJ,hg2⟩:=hg;generalize jv s=X at *;obtain⟨L,n,e⟩:=X;dsimp only at *;simp only[NW,lI,eB]at c1 c2;rcases hp with⟨rfl,rfl,h3⟩|⟨rfl,rfl,h3,h4⟩
 ·rw[h3]at c2;refine aR oG ?_;intro Q aF aG aH;repeat' first|refine aE ?_|refine fm c0 ?_|refine aD ?_ ?_<;>intro hw<;>try omega|fail
  all_goals first|exact bN|exact iw h_|skip
 ·simp only[br]at c1;refine aR oG ?_;intro Q aF aG aH;repeat' first|refine aE ?_|refine fm c0 ?_|refine aD ?_ ?_<;>intro hw<;>try omega|fail
  all_goals first|exact bN|skip
  with_reducible refine bZ [6,7,22,23,24,25,26,27,28,29,30,31,32,33] (fun i:Nat=>[(6,I (w5 (s.take i))),(7,I i)]) (fun _=>[]) (fun i=>i<=s.length) (fun i=>s.length-i) 0 (bR _) rfl ?_ ?_
  ·exact at_
  rintro i rr h1;by_cases hi:i<s.length
  ·have hn:=aag hi
   have hb:w5 (s.take i)<=i:=by
    unfold w5;have:=List.countP_le_length (p:=fun c:UInt8=>decide (c.toNat=10)) (l:=s.take i);rw[List.length_take]at this;omega
   repeat' first|refine aE ?_|refine aD ?_ ?_<;>intro hw<;>try omega|fail
   all_goals first|exact bN|skip
   ·rw[if_pos (by omega)]at hn;refine⟨i+1,by dsimp only;omega,by dsimp only;omega,rfl,dH,?_⟩;dsimp only;rw[hn];exact at_
   ·rw[if_neg (by omega)]at hn;refine⟨i+1,by dsimp only;omega,by dsimp only;omega,rfl,dH,?_⟩;dsimp only;rw[hn];exact at_
  ·obtain rfl:i=s.length:=by omega
   have hb:w5 s<=s.length:=List.countP_le_length ..;have e:s.take s.length=s:=List.take_length ..;repeat' first|simp (disch:=omega) only[go_sem,aF,aG,aH,e]|refine aE ?_|refine fm c0 ?_|refine aD ?_ ?_<;>intro hw<;>try omega|fail
   all_goals first|exact bN|exact iw h_|skip
end Go.Proofs.YtcjcnfcedihckaaGreatDoor
namespace Go.Proofs.YtcjcnfcedihckaaGreatDoor
open Go.AM
set_option maxRecDepth 4000
def V8{l:List dX}(h:(lJ l).2≠0): (lJ l).1=[]:=by
 unfold lJ at h ⊢;split
 ·rfl
 ·rename_i c;rw[if_neg c]at h;split
  ·rfl
  ·rename_i hn;rw[hn]at h;exact absurd rfl h
def SX{l:List dX}(h:(lJ l).2=0): l.length<=64/\(∀ c ∈ l,dY c=0)/\lJ l=(fI l,0):=by
 unfold lJ at h;split at h
 ·cases h
 rename_i c;split at h
 ·rename_i x hx;have:=dN hx;dsimp only at h this;rw[h]at this;cases this
 ·rename_i hn
  have hc:∀ c ∈ l,dY c=0:=fun c hc=>by
   have:=dm.1 hn c hc;simpa using this
  exact⟨by omega,hc,Fu (by omega) hc⟩
def V9{l:List dX}(h:∀ c ∈ l,iJ c/\dY c=0): (fI l).length<=l.length*2 ^ 28:=by
 induction l with
 | nil=>simp[fI]
 | cons c l ih =>
   have e:fI (c::l)=ei (dR c)++fI l:=by simp[fI]
   have h1:=FA (h c (List.mem_cons_self ..)).1 (h c (List.mem_cons_self ..)).2;have h2:=ih (fun x hx=>h x (bF _ hx));rw[e,aA,List.length_cons,bz];omega
def V_{s:aI}(h:65536<s.length): jv s=([],0,5):=by unfold jv;rw[if_pos h]
def Ef(l:List dX)(hr:∀ c ∈ l,zb c): aP aK 4 [lI l] (.bool true):=by
 have c0:=Ee;have cf:=Ve l;cases hf:IJ l with
 | false =>
   rw[hf]at cf;simp only[lI]at cf ⊢;refine aR mc ?_;intro Q aF aG aH;repeat' first|refine aE ?_|refine fm c0 ?_|refine aD ?_ ?_<;>intro hw<;>try omega|fail
   all_goals first|exact bN|exact iw h_|skip
 | true =>
 rw[hf]at cf;obtain⟨h70,ok⟩:=ZZ hf hr;have c1:=QC l (by omega) ok;have hb:=V8 (l:=l);have hg:=SX (l:=l);by_cases he:(lJ l).2=0
 ·obtain⟨g1,g2,g3⟩:=hg he;have hl:=V9 (l:=l) (fun c hc=>⟨ok c hc,g2 c hc⟩);have c2:=xd (fI l) (by omega);have hp:=G9 g1 (fun c hc=>⟨ok c hc,g2 c hc⟩);have c3:=A6 l l (by omega) (by omega) ok ok;rw[rz _ (fun c _=>Nt c)]at c3;rw[g3]at c1;by_cases hbig:65536<(fI l).length
  ·rw[V_ hbig]at c2;generalize fI l=T at *;simp only[NW,lI,eB,br]at c1 c2 c3 cf ⊢;refine aR mc ?_;intro Q aF aG aH;repeat' first|refine aE ?_|refine fm c0 ?_|refine aD ?_ ?_<;>intro hw<;>try omega|fail
   all_goals first|exact bN|exact iw h_|skip
  ·rw[hp (by omega)]at c2;generalize fI l=T at *;simp only[NW,lI,eB,br]at c1 c2 c3 cf ⊢;refine aR mc ?_;intro Q aF aG aH;repeat' first|refine aE ?_|refine fm c0 ?_|refine aD ?_ ?_<;>intro hw<;>try omega|fail
   all_goals first|exact bN|exact iw h_|skip
 ·have hb:=hb he;generalize lJ l=T at *;obtain⟨a,e⟩:=T;dsimp only at hb he;subst hb;simp only[NW,lI,eB,br]at c1 cf ⊢;refine aR mc ?_;intro Q aF aG aH;repeat' first|refine aE ?_|refine fm c0 ?_|refine aD ?_ ?_<;>intro hw<;>try omega|fail
  all_goals first|exact bN|exact iw h_|skip
end Go.Proofs.YtcjcnfcedihckaaGreatDoor
namespace Go.Proofs.YtcjcnfcedihckaaGreatDoor
open Go.AM
set_option maxRecDepth 4000
end Go.Proofs.YtcjcnfcedihckaaGreatDoor
namespace Go.Proofs.YtcjcnfcedihckaaGreatDoor
open Go.AM
set_option maxRecDepth 4000
end Go.Proofs.YtcjcnfcedihckaaGreatDoor
namespace Go.Proofs.YtcjcnfcedihckaaGreatDoor
open Go.AM
set_option maxRecDepth 4000
end Go.Proofs.YtcjcnfcedihckaaGreatDoor
namespace Go.Proofs.YtcjcnfcedihckaaGreatDoor
open Go.AM
set_option maxRecDepth 4000
structure TxR (t:Table):Prop where
 tx:Hh t
 pol:1<=t.aM
 ins:∀ c ∈ t.ins,1<=c.kind
 outs:∀ c ∈ t.outs,1<=c.kind
end Go.Proofs.YtcjcnfcedihckaaGreatDoor
namespace Go.Proofs.YtcjcnfcedihckaaGreatDoor
open Go.AM
set_option maxRecDepth 4000
end Go.Proofs.YtcjcnfcedihckaaGreatDoor
namespace Go.Proofs.YtcjcnfcedihckaaGreatDoor
open Go.AM
set_option maxRecDepth 4000
end Go.Proofs.YtcjcnfcedihckaaGreatDoor
namespace Go.Proofs.YtcjcnfcedihckaaGreatDoor
open Go.AM
set_option maxRecDepth 4000
end Go.Proofs.YtcjcnfcedihckaaGreatDoor
namespace Go.Proofs.YtcjcnfcedihckaaGreatDoor
open Go.AM
set_option maxRecDepth 4000
end Go.Proofs.YtcjcnfcedihckaaGreatDoor
namespace Go.AM
open Go.ChangeShapes Go.WideShapes
section
variable {H:Type} {enc:TypeId × Value->H} {P:Program} {w w':World} {base:Nat} {spare:Nat->Bool} {held:Bool}
def tA: ∀ {ts:List TypeId} {vs:List Value} {ds:List (DataW H)} {ps:List MemPlace},DataW.TrodAll enc P w base spare held ts vs ds ps->(∀ p ∈ ps,w.sameAt w' p)->DataW.TrodAll enc P w' base spare held ts vs ds ps
 | [],[],[],_,h,_=>h
 | _::_,_::_,_::_,_,⟨p,q,⟨n,hn⟩,h2,e⟩,hs=>⟨p,q,⟨n,DataW.trod_carry n _ _ _ hn (fun x hx=>hs x (by rw[e];exact fB _ hx))⟩,tA h2 (fun x hx=>hs x (by rw[e];exact List.mem_append_right _ hx)),e⟩
def Hu{may:MemPlace->Prop}(h1:w'.os=w.os)(h2:w'.output=w.output)(h3:∀ b,b<w.heap.size->w'.heap[b]? = w.heap[b]?): w.keptBut w' may:=by
 refine⟨h1,h2,fun i hi=>?_⟩;rw[h3 i hi];split
 ·rename_i a b ha hb;rw[ha]at hb;cases Option.some.inj hb;exact⟨rfl,rfl,rfl,fun _ _=>rfl⟩
 ·rename_i a b ha hb;rw[ha]at hb;cases Option.some.inj hb;exact .inr ⟨rfl,rfl⟩
 ·rfl
def IX(h3:∀ b,b<w.heap.size->w'.heap[b]? = w.heap[b]?){p:MemPlace}(hp:p.block<w.heap.size): w.sameAt w' p:=by
 cases p with
 | cell b off=>exact mo (h3 b hp) off none
 | map b=>exact h3 b hp
def aJ.all(w:World): aJ:=aJ.bare (· < w.heap.size)
def AE {f : FuncId} {fn : Func} {s : ChangeSpec} {t : TypeId} {args' : List AV} {W : World} {args : Array Value} {ds gs : List (DataW H)} {before : List MemPlace}
    (h:aP P f args' (.bool true)) (hW:DataW.Whole enc P fn.params.toList s.vars false W args.toList ds gs before) (hG:xk (aJ.all W) W)
    (K:Kids P (· < P.types.size)) (hz:∀ t e,t<P.types.size->P.underlying t=some (.slice e)->0<P.cellsOf e) (hps:∀ t ∈ fn.params.toList,t<P.types.size)
    (hvars:s.vars=[]) (hrt:fn.resultTypes = #[t]) (ht:P.underlying t=some .bool) (hfn:s.fn H (ds++gs) = { results:=[.lit (.bool true)],args:=ds,vars:=[] })
    (hl:args'.length=args.size) (hv:∀ i,i<args'.length->VR (aJ.all W) W (args'.getD i .undef) (args.getD i Go.undef)) :
    Calls P f args W fun e W'=> ∃ v,e = .returned v/\s.post enc P fn false true false false W args v W':=by
 refine((h []).2 (aJ.all W) W args (Rel.bare (fun _ h=>h) hG) hl hv).mono ?_;rintro e W' ⟨out,g',σ',hR,hE,hO,rfl,rfl⟩;have hfr:∀ b,b<W.heap.size->W'.heap[b]? = W.heap[b]?:=fun b hb=>hE.frame b hb jj;cases e with
 | panicked c=>exact hO.elim
 | outgrown=>exact hO.elim
 | returned v =>
   have hb:v = .bool true:=by cases hO;rfl
   subst hb;refine⟨_,rfl,ds,gs,before,[],before,[],hW,?_,?_,?_,Hu hE.os hE.output hfr,fun h=>by cases h⟩
   ·rw[hfn,hrt];exact trodAll_mk1 (RowKit.shut_bool ht true)
   ·rw[hfn];have hlt:=hW.lt;obtain⟨p,q,h1,h2,rfl,_,_⟩:=hW;rw[hvars]at h2;obtain⟨rfl,rfl⟩:=trodVars_none h2;rw[bS]at hlt ⊢;refine tA (DataW.TrodAll.respare K hz hps h1 (fun x hx=>by simpa using hlt x hx)) (fun x hx=>IX hfr (hlt x hx))
   ·rw[hfn,hvars];rfl
def VR.string{g:aJ}{w:World}(s:ByteArray): VR g w (.str s.data.toList) (.string s):=VR.str s.data.toList
end
end Go.AM
namespace Go.AM
open Go.ChangeShapes Go.WideShapes
def rV(g:aJ)(w:World)(az:List AV)(vs:List Value): Prop:=az.length=vs.length/\ ∀ i,i<az.length->VR g w (az.getD i .undef) (vs.getD i Go.undef)
def rV.nil(g:aJ)(w:World): rV g w [] []:=⟨rfl,fun i hi=>by cases hi⟩
def rV.app{g:aJ}{w:World}{a b:List AV}{x y:List Value}(h:rV g w a x)(k:rV g w b y): rV g w (a++b) (x++y):=by
 have h1:=h.1;refine⟨by simp[h.1,k.1],fun i hi=>?_⟩;rw[aA]at hi;by_cases hl:i<a.length
 ·have:=h.2 i hl;rw[aj,aj]at this ⊢;rw[aC hl,aC (by omega)];exact this
 ·have:=k.2 (i-a.length) (by omega);rw[aj,aj]at this ⊢;rw[bE (by omega),bE (by omega),<-h1];exact this
def rV.one{g:aJ}{w:World}{a:AV}{x:Value}(h:VR g w a x): rV g w [a] [x]:=⟨rfl,fun i hi=>by
 match i,hi with
 | 0,_=>exact h⟩
def rV.agg{g:aJ}{w:World}{az:List AV}{vs:Array Value}(h:rV g w az vs.toList)(hs:az.all AV.scalar=true): VR g w (.agg az) (.agg vs):=by
 refine .agg az vs (by simpa using h.1) hs (fun i hi=>?_);have:=h.2 i hi;simpa[aj,eC]using this
section
variable {H:Type} {enc:TypeId × Value->H} {P:Program} {w:World}
def Reads(enc:TypeId × Value->H)(P:Program)(w:World)(N:Nat)(t:TypeId)(n:Nat){α : Type}(E : α->List AV)(G : α->Prop): Prop :=
 P.cellsOf t=n/\(∀ a,(E a).length=n)/\ ∀ fuel cs x,fuel<=N->DataW.trod enc P w 0 (fun _=>true) true fuel t cs=some x-> ∃ a,G a/\rV (aJ.all w) w (E a) cs
def Reads.weak{N t n:Nat}{α : Type}{E : α->List AV}{G G' : α->Prop}(h:Reads enc P w N t n E G)(hg:∀ a,G a->G' a): Reads enc P w N t n E G' :=
 ⟨h.1,h.2.1,fun f cs x hf hx=>by obtain⟨a,h1,h2⟩:=h.2.2 f cs x hf hx;exact⟨a,hg a h1,h2⟩⟩
def Reads.map{N t n:Nat}{α β : Type}{E : α->List AV}{G : α->Prop}{E' : β->List AV}{G' : β->Prop}(h:Reads enc P w N t n E G)(f : α-> β)(hE:∀ a,E' (f a)=E a)(hl:∀ b,(E' b).length=n)(hg:∀ a,G a->G' (f a)): Reads enc P w N t n E' G' :=
 ⟨h.1,hl,fun fu cs x hf hx=>by obtain⟨a,h1,h2⟩:=h.2.2 fu cs x hf hx;exact⟨f a,hg a h1,by rw[hE];exact h2⟩⟩
def Reads.int{N t:Nat}(ht:P.underlying t=some (.int .i64))(hc:P.cellsOf t=1): Reads enc P w N t 1 (fun n:Int=>[.int .i64 n]) (fun n=> -9223372036854775808<=n/\n<=9223372036854775807) :=
 ⟨hc, fun _ => rfl, fun f cs x _ hx => by
   obtain⟨n,rfl,_,wf⟩:=DataW.trod_int ht hx;exact⟨n,by simpa[Lit.wf,IntKind.min,IntKind.max,IntKind.signed,IntKind.bits]using wf,rV.one (.int _ _)⟩⟩
def Reads.str{N t:Nat}(ht:P.underlying t=some .string)(hc:P.cellsOf t=1): Reads enc P w N t 1 (fun s:List UInt8=>[.str s]) (fun _=>True) :=
 ⟨hc, fun _ => rfl, fun f cs x _ hx => by
   obtain⟨s,rfl,_,_⟩:=DataW.trod_string ht hx;exact⟨s.data.toList,trivial,rV.one (VR.string s)⟩⟩
def Reads.bool{N t:Nat}(ht:P.underlying t=some .bool)(hc:P.cellsOf t=1): Reads enc P w N t 1 (fun b:Bool=>[.bool b]) (fun _=>True) :=
 ⟨hc, fun _ => rfl, fun f cs x _ hx => by
   obtain⟨b,rfl,_⟩:=DataW.trod_bool ht hx;exact⟨b,trivial,rV.one (.bool b)⟩⟩
def Reads.slice {N t e n : Nat} {α : Type} [Inhabited α] {E : α -> List AV} {G : α -> Prop} (el : El) (mk : α -> AV) (ht : P.underlying t = some (.slice e)) (hc : P.cellsOf t = 1) (h : Reads enc P w N e n E G) (Jv : 0 < n) (hsz : el.sz = n)
    (hfit:∀ a,(mk a).fits el=true) (hcell:∀ a c,c<n->(mk a).cell c=(E a).getD c .undef):Reads enc P w (N+1) t 1 (fun l:List α=>[.aO false el (l.map mk)]) (fun l=> ∀ a ∈ l,G a):=by
 refine⟨hc,fun _=>rfl,fun fuel cs x hf hx=>?_⟩;rcases DataW.trod_slice ht hx with⟨rfl,rfl⟩|⟨a,len,cap,elems,rest,k,hk,rfl,_,_,hl,_,hlen,hel,_,_⟩
 ·exact⟨[],by simp,rV.one (.iB _ _ _ _ (fun h=>by cases h))⟩
 have each:∀ i,i<len-> ∃ q : α,G q/\ ∃ cs',w.cells? 0 (a.add (i*P.cellsOf e)) (P.cellsOf e)=some cs'/\rV (aJ.all w) w (E q) cs':=fun i hi=>by
  have h1:=hel i hi;rw[aL (by omega)]at h1;obtain⟨cs',h2,h3⟩:=fx.1 h1;obtain⟨q,h4,h5⟩:=h.2.2 k cs' _ (by omega) h3;exact⟨q,h4,cs',h2,h5⟩
 obtain⟨q,hq⟩:=Deep.choose_lt each;refine⟨(List.range len).map q,fun x hx=>by obtain⟨i,hi,rfl⟩:=cC.1 hx;exact(hq i (cU.1 hi)).1,rV.one ?_⟩;have hn:=h.1;by_cases h0:len=0
 ·subst h0;exact .iB _ _ _ _ (fun h=>by cases h)
 have hcells:∀ i c,i<len->c<n-> ∃ v,w.cell? (a.add (i*n+c))=some v/\VR (aJ.all w) w ((E (q i)).getD c .undef) v:=fun i c hi fX=>by
  obtain⟨_,cs',h2,h3⟩:=hq i hi;rw[hn]at h2;obtain⟨_,h4,h5⟩:=World.cells?_some h2;have h6:=h5 c fX;rw[Deep.add_add,aL (by omega)]at h6;have h7:=h3.2 c (by rw[h.2.1];exact fX);rw[aj (l:=cs'),aL (by omega)]at h7;exact⟨_,h6,h7⟩
 obtain⟨v0,lK,_⟩:=hcells 0 0 (by omega) (by omega)
 have YV:a.spot=none:=by
  have:=World.cell?_spot lK;simpa[Addr.add]using this
 obtain⟨b,off,sp⟩:=a;simp only at YV;subst YV
 have hlt:b<w.heap.size:=by
  rw[add_plain]at lK;simp only[World.cell?]at lK;split at lK
  ·rename_i x hx;exact(dh.1 hx).1
  ·cases lK
 have mS:∀ i,i<len->(((List.range len).map q).map mk).getD i .undef=mk (q i):=fun i hi=>by
  simp[aj,hi]
 have:=VR.aO (g:=aJ.all w) (w:=w) false el (((List.range len).map q).map mk) b off cap hlt (fun h=>by cases h) (by simpa using hl)
  (fun i hi=>by rw[mS i (by simpa using hi)];exact hfit _)
  (fun i c hi fX => by
    obtain⟨v,hv,_⟩:=hcells i c (by simpa using hi) (by omega);rw[add_plain]at hv;rw[hsz,hv];rfl)
  (fun i c hi fX => by
    obtain⟨v,hv,hr⟩:=hcells i c (by simpa using hi) (by omega);rw[add_plain]at hv;rw[mS i (by simpa using hi),dw,hsz,hv,hcell _ _ (by omega)];exact hr)
 simpa using this
def wj(enc:TypeId × Value->H)(P:Program)(w:World)(N:Nat)(fs:List Field)(o:Nat){α : Type}(E : α->List AV)(G : α->Prop): Prop :=
 ∀ (cs : List Value) (fuel : Nat) (ys : List (DataW H × List MemPlace)), fuel <= N -> (∀ (i : Nat) (f : Field), fs[i]? = some f -> DataW.trod enc P w 0 (fun _ => true) true fuel f.type ((cs.drop f.offset).take (P.cellsOf f.type)) = ys[i]?) -> ys.length = fs.length ->
   ∃ a,G a/\rV (aJ.all w) w (E a) ((cs.drop o).take (E a).length)
def wj.nil{N o:Nat}: wj enc P w N [] o (fun _:Unit=>[]) (fun _=>True):=fun cs fuel ys _ _ _=>⟨(),trivial,by simpa using rV.nil _ _⟩
def wj.cons {N o n : Nat} {f : Field} {fs : List Field} {α β : Type} {E : α -> List AV} {G : α -> Prop} {E' : β -> List AV} {G' : β -> Prop} (h : Reads enc P w N f.type n E G) (ho : f.offset = o) (hk : wj enc P w N fs (o + n) E' G') :
    wj enc P w N (f::fs) o (fun p : α × β=>E p.1++E' p.2) (fun p=>G p.1/\G' p.2):=by
 intro cs fuel ys hf hx hl;cases ys with
 | nil=>simp at hl
 | cons y ys =>
   have h0:=hx 0 f rfl;rw[ho,h.1]at h0;obtain⟨a,g1,v1⟩:=h.2.2 fuel _ _ hf (by simpa using h0);obtain⟨b,g2,v2⟩:=hk cs fuel ys hf (fun i f' vp=>by have:=hx (i+1) f' (by simpa using vp);simpa using this) (by simpa using hl);refine⟨(a,b),⟨g1,g2⟩,?_⟩;have:=v1.app v2;have hlen:=h.2.1 a
   have e:(cs.drop o).take n++(cs.drop (o+n)).take (E' b).length=(cs.drop o).take (E a++E' b).length:=by
    rw[aA,hlen,List.take_add,List.drop_drop]
   rwa[e]at this
def Reads.struct{N t n:Nat}{fs:Array Field}{α : Type}{E : α->List AV}{G : α->Prop}(ht:P.underlying t=some (.struct fs))(hc:P.cellsOf t=n)(hE:∀ a,(E a).length=n)(h:wj enc P w N fs.toList 0 E G): Reads enc P w (N+1) t n E G:=by
 refine⟨hc,hE,fun fuel cs x hf hx=>?_⟩;obtain⟨xs,k,hk,_,hlen,hxl,Jk⟩:=DataW.trod_struct ht hx;obtain⟨a,g,v⟩:=h cs k xs (by omega) (fun i f hf=>Jk i f (by simpa using hf)) (by simpa using hxl);refine⟨a,g,?_⟩;rw[hE,List.drop_zero,bw (by omega)]at v;exact v
def Reads.deep{t n:Nat}{α : Type}{E : α->List AV}{G : α->Prop}(h:∀ N,Reads enc P w N t n E G){v:Value}{d:DataW H}{ps:List MemPlace}(hd:DataW.Trod enc P w 0 (fun _=>true) true t v d ps): ∃ a,G a/\rV (aJ.all w) w (E a) v.cells.toList:=by
 obtain⟨f,hf⟩:=hd;exact(h f).2.2 f _ _ (Nat.le_refl _) hf
end
