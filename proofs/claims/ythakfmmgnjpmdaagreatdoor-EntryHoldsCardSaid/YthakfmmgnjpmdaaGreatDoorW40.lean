/- Part. -/
import Derived.Test.YthakfmmgnjpmdaaGreatDoorW39
import Derived.WalkKit
import Derived.ProofKit
import Derived.OpenShut
import Derived.ReadAgain
import Derived.Deep.SlicePairs
set_option linter.all false
set_option maxHeartbeats 4000000
namespace Go.Proofs.YthakfmmgnjpmdaaGreatDoor
open Go.AM
set_option maxRecDepth 4000
def j3(t:Table)(ver:Int)(row:List aL)(o:ux): jL:=⟨t.name,ver,row,o.err,o.rules,o.rows⟩
def mZ(t:Table)(ver:Int)(row:List aL): jL × Int :=
 if ver<1\/2147483648<ver then(uD,2)
 else if(bS t).2.2.2≠0 then(uD,(bS t).2.2.2)
 else if(di (bS t).1 row).2≠0 then(uD,(di (bS t).1 row).2)
 else if 1400<(lH (j3 t ver row (di (bS t).1 row).1)).length then(uD,5)else (j3 t ver row (di (bS t).1 row).1,0)
def adL: ∀ {l:List Int},l.Pairwise (· < ·)->(∀ i ∈ l,0<=i/\i<24)->sy l=true:=fun {l} h1 h2=>by
 refine QO fun k hk=>?_;have hb:=h2 _ (bn hk)
 have hp:0<k->l.getD (k-1) default<l.getD k default:=fun h0=>by
  have:=List.pairwise_iff_getElem.1 h1 (k-1) k (by omega) hk (by omega);rwa[ai,ai,aF hk,aF (by omega:k-1<l.length)]
 have hb:0<=l.getD k 0/\l.getD k 0<24:=hb;have hp:0<k->l.getD (k-1) 0<l.getD k 0:=hp;unfold zw uE;rw[decide_eq_true_eq];split
 ·omega
 ·exact⟨hp (by omega),hb.2⟩
def E7 {t : Table} (ht : oP t) {ver : Int} (hv : 1 <= ver /\ ver <= 2147483648) {row : List aL} (hrow : qo row) (hm : (bS t).2.2.2 = 0) (hd : (di (bS t).1 row).2 = 0) :
    pG (j3 t ver row (di (bS t).1 row).1)=true/\qt (j3 t ver row (di (bS t).1 row).1):=by
 have aiW:=MX ht hm hrow;obtain⟨h0,h1,_⟩:=JT hm;obtain⟨f1,f2,f3,f4,f5⟩:=Gx h0;have i6:=zx (tu f2).1;have o6:=zx (tu f3).1;obtain⟨hin,ho⟩:=NR aiW hd;rw[h1]at hin ho;dsimp only at hin ho;have hl:=HM hin;have hr:=QU hin;rw[h1];generalize (di ⟨t,kX t t.rules.length⟩ row).1=o at *
 have pin:jl row=true:=by
  unfold jl;rw[decide_eq_true (by omega),aV.2 hr];rfl
 have aiX:∀ a ∈ o.rows,jl a=true:=fun a ha=>by
  have:=ho.row a ha;unfold jl;rw[decide_eq_true (by omega),aV.2 (fun v hv=>(this.2 v hv).1)];rfl
 refine⟨?_,?_⟩
 ·unfold pG j3;dsimp only;rw[f1,decide_eq_true hv,decide_eq_true ho.err,adL ho.aiV ho.rules,decide_eq_true ho.rows,pin,aV.2 aiX];rfl
 ·have e1:=ho.err;refine⟨ht.1,⟨by show _<=ver;omega,by show ver<=_;omega⟩,⟨by have:=hrow.1;exact this,fun v hv=>⟨(hrow.2 v hv).1,(hrow.2 v hv).2⟩⟩,⟨by show _<=o.err;omega,by show o.err<=_;omega⟩,⟨by show o.rules.length<=_;have:=ho.few;omega,fun n hn=>?_⟩,by show o.rows.length<=_;have:=ho.rows;omega,fun l hl=>?_⟩
  ·have:=ho.rules n hn;exact⟨by omega,by omega⟩
  ·have:=ho.row l hl;exact⟨by omega,fun v hv=>(this.2 v hv).2⟩
def Y_{σ : ae}: View σ (.agg [.str [],I 0,.aA,I 0,.aA,.aA]) (jP uD) :=
 View.nV (.cons (.refl _ rfl) (.cons (.refl _ rfl) (.cons (.aA _) (.cons (.refl _ rfl) (.cons (.aA _) (.cons (.aA _) (.nil _)))))))
def Bh(p:jL × Int): AV:= .bH [jP p.1,I p.2]
def FF{σ : ae}{e:Int}{p:jL × Int}(h:p=(uD,e)): ∃ r,Out.ret (oneOf [.agg [.str [],I 0,.aA,I 0,.aA,.aA],I e])=Out.ret r/\View σ r (Bh p):=by
 subst h;exact fD (.cons Y_ (.cons (.refl _ rfl) (.nil _)))
def afH{σ : ae}{x:jL}{p:jL × Int}(h:p=(x,0)): ∃ r,Out.ret (oneOf [.agg [.str x.table,I x.ver,.aN false EV (x.input.map bX),I x.err,.aN false E1 (x.rules.map pY),.aN false E1 (x.rows.map aW)],I 0])=Out.ret r/\View σ r (Bh p):=by
 subst h;exact fD (.cons (.refl (jP x) (by simp)) (.cons (.refl _ rfl) (.nil _)))
def Cu(t:Table)(ht:oP t)(ver:Int)(row:List aL)(hrow:qo row): aM aH 7 [dP t,I ver,aW row] (Bh (mZ t ver row)):=by
 have c1:=Gi t ht;have c2:=fun hm=>Wa (bS t).1 row (MX ht hm hrow);have hE:=fun hv hm hd=>E7 ht (ver:=ver) hv hrow hm hd;obtain⟨P,hP⟩:∃ P,mZ t ver row=P:=⟨_,rfl⟩;rw[hP];unfold mZ at hP;clear ht hrow;simp only[dP,ic,bV,fj,X_,kZ,o_,aW,EP,nN,dL,dU]at c1 c2 ⊢;by_cases hv:ver<1\/2147483648<ver
 ·rw[if_pos hv]at hP;clear c1 c2 hE;refine aR rR ?_ (by simp[Bh,AV.dz,AV.cg]);intro Q aB aC aD;repeat' first|refine au ?_|refine aq ?_ ?_<;>intro hw<;>try omega|fail
  all_goals first|exact FF hP.symm|exact a_|skip
 rw[if_neg hv]at hP;have hE:=hE (by omega);obtain⟨M,hM⟩:∃ M,bS t=M:=⟨_,rfl⟩;rw[hM]at c1 c2 hE hP;clear hM;obtain⟨r,a1,a2,e1⟩:=M;dsimp only at c1 c2 hE hP;by_cases he:e1≠0
 ·rw[if_pos he]at hP;clear c2 hE;refine aR rR ?_ (by simp[Bh,AV.dz,AV.cg]);intro Q aB aC aD;repeat' first|refine au ?_|refine aq ?_ ?_<;>intro hw<;>try omega|fail
  all_goals first|exact FF hP.symm|exact a_|skip
 rw[if_neg he]at hP;have he:e1=0:=by omega
 subst he;have c2:=c2 rfl;have hE:=hE rfl;generalize di r row=D at *;obtain⟨o,e2⟩:=D;dsimp only at c2 hE hP;by_cases he:e2≠0
 ·rw[if_pos he]at hP;clear hE;refine aR rR ?_ (by simp[Bh,AV.dz,AV.cg]);intro Q aB aC aD;repeat' first|refine au ?_|refine aq ?_ ?_<;>intro hw<;>try omega|fail
  all_goals first|exact FF hP.symm|exact a_|skip
 rw[if_neg he]at hP;have he:e2=0:=by omega
 subst he;obtain⟨k1,k2⟩:=hE rfl;have c3:=Aa (j3 t ver row o) k2;have hC:pH (j3 t ver row o)=if 1400<(lH (j3 t ver row o)).length then 5 else 0:=by unfold pH;rw[if_neg (by rw[k1];decide)]
 rw[hC]at c3;clear k1 k2 hC;generalize lH (j3 t ver row o)=s at *;simp only[jP,pZ,j3,aW,dL,dU]at c3;by_cases hs:1400<s.length
 ·rw[if_pos hs]at hP c3;refine aR rR ?_ (by simp[Bh,AV.dz,AV.cg]);intro Q aB aC aD;repeat' first|refine au ?_|refine aq ?_ ?_<;>intro hw<;>try omega|fail
  all_goals first|exact FF hP.symm|exact a_|skip
 ·rw[if_neg hs]at hP c3;refine aR rR ?_ (by simp[Bh,AV.dz,AV.cg]);intro Q aB aC aD;repeat' first|refine au ?_|refine aq ?_ ?_<;>intro hw<;>try omega|fail
  all_goals first|exact afH (x:=j3 t ver row o) hP.symm|exact a_|skip
end Go.Proofs.YthakfmmgnjpmdaaGreatDoor
namespace Go.Proofs.YthakfmmgnjpmdaaGreatDoor
open Go.AM
set_option maxRecDepth 4000
def HS{l:List aL}(h:oF l): qo l:=⟨h.1,fun w hw=>⟨(h.2 w hw).1,(h.2 w hw).2⟩⟩
def QV{t:Table}(ht:oP t)(ver:Int){row:List aL}(hrow:qo row): qt (mZ t ver row).1:=by
 unfold mZ;by_cases h1:ver<1\/2147483648<ver
 ·rw[if_pos h1];exact xO
 rw[if_neg h1];by_cases h2:(bS t).2.2.2≠0
 ·rw[if_pos h2];exact xO
 rw[if_neg h2];by_cases h3:(di (bS t).1 row).2≠0
 ·rw[if_pos h3];exact xO
 rw[if_neg h3];split
 ·exact xO
 ·exact(E7 ht (by omega) hrow (by omega) (by omega)).2
def pJ(x:jL)(t:Table): Bool:=decide ((mZ t x.ver x.input).2=0) && mD x (mZ t x.ver x.input).1
def Ac(x:jL)(hx:qt x)(t:Table)(ht:oP t): aM aH 11 [jP x,dP t] (.bool (pJ x t)):=by
 have c1:=Cu t ht x.ver x.input (HS hx.2.2.1);have c2:=Ct x (mZ t x.ver x.input).1 hx.sm (QV ht x.ver (HS hx.2.2.1)).sm;unfold pJ;generalize mZ t x.ver x.input=P at *;obtain⟨y,e⟩:=P;dsimp only at c2 ⊢;generalize mD x y=B at *;simp only[jP,pZ,dP,ic,bV,fj,aW,dL,dU,Bh]at c1 c2 ⊢;refine aR Ap ?_;intro Q aB aC aD;by_cases he:e=0
 ·subst he;repeat' first|refine au ?_|refine aq ?_ ?_<;>intro hw<;>try omega|fail
  all_goals first|exact uA rfl (by simp)|exact a_|skip
 ·repeat' first|refine au ?_|refine aq ?_ ?_<;>intro hw<;>try omega|fail
  all_goals first|exact uA rfl (by simp[he])|exact a_|skip
end Go.Proofs.YthakfmmgnjpmdaaGreatDoor
namespace Go.Proofs.YthakfmmgnjpmdaaGreatDoor
open Go.AM
set_option maxRecDepth 4000
def uT(s:aO)(e:Int): List AV:=[.str s,I e]
def FG(s:aO)(e:Int): AV.cg (uT s e)=true:=rfl
def MY(e x:Int): Int:=if x≠0 then x else e
def T1(e x:Int): (MY e x != 0)=((e != 0) ||(x != 0)):=by
 unfold MY;by_cases h:x=0
 ·subst h;simp
 ·rw[if_pos h];have:(x != 0)=true:=by simpa using h
  rw[this];simp
def kU(s:aO)(e:Int): Int × aO × Int:=((takeN s).1,(takeN s).2.1,MY e (takeN s).2.2)
def p7(s:aO)(e:Int): List aL × aO × Int:=((jz s 6).1,(jz s 6).2.1,MY e (jz s 6).2.2)
def Za(s:aO)(e:Int): oG s (e != 0)=((kU s e).1,(kU s e).2.1,(kU s e).2.2 != 0):=by
 unfold oG kU;dsimp only;rw[T1]
def Zb(s:aO)(e:Int): yH (some 6) s (e != 0)=((p7 s e).1,(p7 s e).2.1,(p7 s e).2.2 != 0):=by
 unfold yH p7;dsimp only;rw[T1]
def sB: Nat->List Int->aO->Int->List Int × aO × Int
 | 0,out,s,e=>(out,s,e)
 | k+1,out,s,e=>if e≠0 then(out,s,e)else sB k (out++[(kU s e).1]) (kU s e).2.1 (kU s e).2.2
def vO: Nat->List (List aL)->aO->Int->List (List aL) × aO × Int
 | 0,out,s,e=>(out,s,e)
 | k+1,out,s,e=>if e≠0 then(out,s,e)else vO k (out++[(p7 s e).1]) (p7 s e).2.1 (p7 s e).2.2
def adM: ∀(k:Nat) (out:List Int) (s:aO) (e:Int),qp k out s (e != 0)=((sB k out s e).1,(sB k out s e).2.1,(sB k out s e).2.2 != 0):=by
 intro k
 induction k with
 | zero=>intro out s e;rfl
 | succ k ih =>
   intro out s e;rw[qp,sB];by_cases h:e=0
   ·subst h;rw[if_neg (by simp),if_neg (by simp)];have:=Za s 0;rw[this,ih]
   ·rw[if_pos (by simpa using h),if_pos h]
def adN: ∀(k:Nat) (out:List (List aL)) (s:aO) (e:Int),rB k out s (e != 0)=((vO k out s e).1,(vO k out s e).2.1,(vO k out s e).2.2 != 0):=by
 intro k
 induction k with
 | zero=>intro out s e;rfl
 | succ k ih =>
   intro out s e;rw[rB,vO];by_cases h:e=0
   ·subst h;rw[if_neg (by simp),if_neg (by simp)];have:=Zb s 0;rw[this,ih]
   ·rw[if_pos (by simpa using h),if_pos h]
def xC(s:aO)(e:Int): List Int × aO × Int:=sB (kU s e).1.toNat [] (kU s e).2.1 (kU s e).2.2
def zy(s:aO)(e:Int): List (List aL) × aO × Int:=vO (kU s e).1.toNat [] (kU s e).2.1 (kU s e).2.2
def mE(s:aO): jL × Int :=
 let t:=jd s 1400
 let v:=kU t.2.1 t.2.2
 let i:=p7 v.2.1 v.2.2
 let e:=kU i.2.1 i.2.2
 let r:=xC e.2.1 e.2.2
 let q:=zy r.2.1 r.2.2
 (⟨t.1,v.1,i.1,e.1,r.1,q.1⟩,q.2.2)
def QW(s:aO): (vN s).1=(mE s).1/\(vN s).2.2=((mE s).2 != 0):=by
 have h0:FA s false=((jd s 1400).1,(jd s 1400).2.1,(jd s 1400).2.2 != 0):=by unfold FA;simp
 unfold vN mE FB FC xC zy;rw[h0];dsimp only;simp only[Za,Zb,adM,adN];exact⟨trivial,trivial⟩
def wC(s:aO)(e:Int)(hs:s.length<=2 ^ 60): dh aH 32 0 [] (uT s e) (uT (kU s e).2.1 (kU s e).2.2) (I (kU s e).1):=by
 have c:=pI s (by omega);unfold kU MY;generalize takeN s=t at *;obtain⟨n,r,x⟩:=t;simp only[eN]at c;refine dh.fS (CX.go ?_) rfl (FG _ _);unfold dO;intro Q aB aC aD;simp only[uT];repeat' first|refine au ?_|refine eZ c ?_|refine aq ?_ ?_<;>intro hw<;>try omega|fail
 ·exact fE (View.eqv rfl rfl) (bN.eqv (by rw[if_pos (by omega)];rfl) rfl)
 ·exact fE (View.eqv rfl rfl) (bN.eqv (by rw[if_neg (by omega)];rfl) rfl)
def MZ(s:aO)(e:Int)(hs:s.length<=2 ^ 30): dh aH 33 0 [] (uT s e) (uT (p7 s e).2.1 (p7 s e).2.2) (aW (p7 s e).1):=by
 have c:=NM s 6 hs;unfold p7 MY;generalize jz s 6=t at *;obtain⟨n,r,x⟩:=t;simp only[abE,aW]at c ⊢;refine dh.fS (CY.go ?_) rfl (FG _ _);unfold dO;intro Q aB aC aD;simp only[uT];repeat' first|refine au ?_|refine eZ c ?_|refine aq ?_ ?_<;>intro hw<;>try omega|fail
 ·exact fE (View.eqv rfl (by simp)) (bN.eqv (by rw[if_pos (by omega)];rfl) rfl)
 ·exact fE (View.eqv rfl (by simp)) (bN.eqv (by rw[if_neg (by omega)];rfl) rfl)
def sQ(s:aO)(e:Int): (kU s e).2.1.length<=s.length/\((kU s e).2.2=0->(kU s e).2.1.length<s.length):=by
 have h:=jK s;refine⟨h.1,fun h0=>h.2.1 ?_⟩;unfold kU MY at h0;dsimp only at h0;split at h0
 ·assumption
 ·omega
def QX(s:aO)(e:Int): (p7 s e).2.1.length<=s.length/\((p7 s e).2.2=0->(p7 s e).2.1.length<s.length):=by
 have h:=HP s 6;have h2:=QJ s 6;refine⟨h.1,fun h0=>h2 ?_⟩;unfold p7 MY at h0;dsimp only at h0;split at h0
 ·assumption
 ·omega
def K4(s:aO)(e:Int)(hs:s.length<=2 ^ 28): yc aH 34 (uT s e) (uT (xC s e).2.1 (xC s e).2.2) (dL (xC s e).1) 32:=by
 obtain⟨E,hE⟩:∃ E,xC s e=E:=⟨_,rfl⟩;rw[hE];unfold xC at hE;have c1:=wC s e (by omega);have hn:=sQ s e;generalize kU s e=t at *;obtain⟨n,s0,e0⟩:=t;dsimp only at hE hn;simp only[uT]at c1;refine yc.fS (FM.go ?_) (FG _ _);unfold dO;intro Q aB aC aD;simp only[uT];repeat' first|refine au ?_|refine da c1 ?_|refine aq ?_ ?_<;>intro hw<;>try omega|fail
 with_reducible refine bE [5,7,10,11,12,13,14,15,16,17,18,19,20,21,22,23,24,25,26] (fun q:List Int × aO × Int=>[(5,.own E1 1 q.1.length 0 q.1.length)]) (fun q=>[.cells [.str q.2.1,I q.2.2],.vec E1 (q.1.map pY)]) (fun q=>q.1.length+q.2.1.length+(if q.2.2≠0 then 0 else 1)<=2 ^ 28+1/\E=sB (n.toNat-q.1.length) q.1 q.2.1 q.2.2) (fun q=>n.toNat-q.1.length) (([],s0,e0)) ?_ ?_ ?_ ?_
 ·refine⟨?_,by simpa using hE.symm⟩;dsimp only;split<;>simp<;>omega
 ·rfl
 ·exact at_
 rintro⟨out,s1,e1⟩ u ⟨g1,g2⟩;dsimp only at g1 g2;by_cases pn:(out.length:Int)<n/\e1=0
 ·obtain⟨hlt,rfl⟩:=pn;obtain⟨j,hj⟩:∃ j,n.toNat-out.length=j+1:=⟨n.toNat-out.length-1,by omega⟩;rw[hj,sB,if_neg (by simp)]at g2;rw[if_neg (by simp)]at g1;have c2:=wC s1 0 (by omega);have hl:=sQ s1 0;generalize kU s1 0=t at *;obtain⟨x,s2,e2⟩:=t;dsimp only at g2 hl;simp only[uT]at c2;repeat' first|refine au ?_|refine da c2 ?_|refine aq ?_ ?_<;>intro hw<;>try omega|fail
  all_goals first|exact a_|skip
  refine⟨(out++[x],s2,e2),?_,?_,?_,cZ,?_⟩
  ·have e:n.toNat-(out++[x]).length=j:=by simp;omega
   dsimp only;rw[e];refine⟨?_,g2⟩;rw[List.length_append,List.length_singleton];by_cases h0:e2=0
   ·have:=hl.2 h0;rw[if_neg (by simpa using h0)];omega
   ·rw[if_pos h0];omega
  ·simp;omega
  ·first|rfl|(simp[go_sem];done)
  ·dsimp only;simp only[List.length_append,List.length_singleton];simp (disch:=omega) only[qA,og,and_true,go_sem,aB,aC,aD,Int.natCast_add,Int.cast_ofNat_Int]<;>(try trivial)<;>(try omega)<;>(try (repeat (first|trivial|(refine And.intro ?_ ?_)|(congr 1;omega))))
 ·have YF : E = (out, s1, e1) := by
   rw[g2];cases hk:n.toNat-out.length with
   | zero=>rw[sB]
   | succ j =>
     rw[sB,if_pos];intro h0;exact absurd ⟨by omega,h0⟩ pn
  repeat' first|refine au ?_|refine aq ?_ ?_<;>intro hw<;>try omega|fail
  all_goals first
   | exact a_
   |(exfalso;refine pn ⟨?_,?_⟩<;>omega)
   |(rw[YF];exact fE (View.vec rfl (by simp) (by simp) (AL _)) (bN.refl rfl))
def FV(s:aO)(e:Int)(hs:s.length<=2 ^ 28): yc aH 35 (uT s e) (uT (zy s e).2.1 (zy s e).2.2) (dU (zy s e).1) 33:=by
 obtain⟨E,hE⟩:∃ E,zy s e=E:=⟨_,rfl⟩;rw[hE];unfold zy at hE;have c1:=wC s e (by omega);have hn:=sQ s e;generalize kU s e=t at *;obtain⟨n,s0,e0⟩:=t;dsimp only at hE hn;simp only[uT]at c1;refine yc.fS (BI.go ?_) (FG _ _);unfold dO;intro Q aB aC aD;simp only[uT];repeat' first|refine au ?_|refine da c1 ?_|refine aq ?_ ?_<;>intro hw<;>try omega|fail
 with_reducible refine bE [5,7,10,11,12,13,14,15,16,17,18,19,20,21,22,23,24,25,26] (fun q:List (List aL) × aO × Int=>[(5,.own E1 1 q.1.length 0 q.1.length)]) (fun q=>[.cells [.str q.2.1,I q.2.2],.vec E1 (q.1.map aW)]) (fun q=>q.1.length+q.2.1.length+(if q.2.2≠0 then 0 else 1)<=2 ^ 28+1/\E=vO (n.toNat-q.1.length) q.1 q.2.1 q.2.2) (fun q=>n.toNat-q.1.length) (([],s0,e0)) ?_ ?_ ?_ ?_
 ·refine⟨?_,by simpa using hE.symm⟩;dsimp only;split<;>simp<;>omega
 ·rfl
 ·exact at_
 rintro⟨out,s1,e1⟩ u ⟨g1,g2⟩;dsimp only at g1 g2;by_cases pn:(out.length:Int)<n/\e1=0
 ·obtain⟨hlt,rfl⟩:=pn;obtain⟨j,hj⟩:∃ j,n.toNat-out.length=j+1:=⟨n.toNat-out.length-1,by omega⟩;rw[hj,vO,if_neg (by simp)]at g2;rw[if_neg (by simp)]at g1;have c2:=MZ s1 0 (by omega);have hl:=QX s1 0;generalize p7 s1 0=t at *;obtain⟨x,s2,e2⟩:=t;dsimp only at g2 hl;simp only[uT,aW]at c2;repeat' first|refine au ?_|refine da c2 ?_|refine aq ?_ ?_<;>intro hw<;>try omega|fail
  all_goals first|exact a_|skip
  refine⟨(out++[x],s2,e2),?_,?_,?_,cZ,?_⟩
  ·have e:n.toNat-(out++[x]).length=j:=by simp;omega
   dsimp only;rw[e];refine⟨?_,g2⟩;rw[List.length_append,List.length_singleton];by_cases h0:e2=0
   ·have:=hl.2 h0;rw[if_neg (by simpa using h0)];omega
   ·rw[if_pos h0];omega
  ·simp;omega
  ·first|rfl|(simp[go_sem];done)
  ·dsimp only;simp only[List.length_append,List.length_singleton];simp (disch:=omega) only[qA,og,and_true,go_sem,aB,aC,aD,Int.natCast_add,Int.cast_ofNat_Int]<;>(try trivial)<;>(try omega)<;>(try (repeat (first|trivial|(refine And.intro ?_ ?_)|(congr 1;omega))))
 ·have YF : E = (out, s1, e1) := by
   rw[g2];cases hk:n.toNat-out.length with
   | zero=>rw[vO]
   | succ j =>
     rw[vO,if_pos];intro h0;exact absurd ⟨by omega,h0⟩ pn
  repeat' first|refine au ?_|refine aq ?_ ?_<;>intro hw<;>try omega|fail
  all_goals first
   | exact a_
   |(exfalso;refine pn ⟨?_,?_⟩<;>omega)
   |(rw[YF];exact fE (View.vec rfl (by simp) (by simp) (Ju _)) (bN.refl rfl))
def Zc: ∀(k:Nat) (out:List Int) (s:aO) (e:Int),(sB k out s e).2.1.length<=s.length:=by
 intro k
 induction k with
 | zero=>intro out s e;exact Nat.le_refl _
 | succ k ih =>
   intro out s e;rw[sB];split
   ·exact Nat.le_refl _
   ·exact bW (ih _ _ _) (sQ s e).1
def Zd(s:aO)(e:Int): (xC s e).2.1.length<=s.length:=bW (Zc _ _ _ _) (sQ s e).1
end Go.Proofs.YthakfmmgnjpmdaaGreatDoor
namespace Go.Proofs.YthakfmmgnjpmdaaGreatDoor
open Go.AM
set_option maxRecDepth 4000
def eEP(p:jL × Int): AV:= .bH [jP p.1,I p.2]
def QY(s:aO): wB s=if(mE s).2≠0\/(jm (mE s).1).2≠0\/(jm (mE s).1).1≠s then(uD,4)else ((mE s).1,0):=by
 obtain⟨h1,h2⟩:=QW s;unfold wB;rw[h1,h2];by_cases h:(mE s).2≠0\/(jm (mE s).1).2≠0\/(jm (mE s).1).1≠s
 ·rw[if_pos h,if_pos];rcases h with h|h|h
  ·exact .inl (by simpa using h)
  ·exact .inr fun e=>h (by rw[e])
  ·exact .inr fun e=>h (by rw[e])
 ·rw[if_neg h,if_neg];rintro(h'|h')
  ·exact h (.inl (by simpa using h'))
  ·exact h (Classical.or_iff_not_imp_left.2 fun a=>Classical.or_iff_not_imp_left.2 fun b c=>h' (Prod.ext c (Classical.not_not.1 b)))
def Ze{s:aO}(h:(mE s).2≠0\/(jm (mE s).1).2≠0\/(jm (mE s).1).1≠s): wB s=(uD,4):=by rw[QY,if_pos h]
def Wr{s:aO}(h1:(mE s).2=0)(h2:(jm (mE s).1).2=0)(h3:(jm (mE s).1).1=s): wB s=((mE s).1,0):=by
 rw[QY,if_neg];rintro(h|h|h)
 ·exact h h1
 ·exact h h2
 ·exact h h3
def So(s:aO)(hs:s.length<=2 ^ 20): aM aH 18 [.str s] (eEP (wB s)):=by
 have ok:=abB hs;rw[(QW s).1]at ok;have cB:=Ab (mE s).1 ok;have hn:=@Ze s;have hy:=@Wr s;obtain⟨E,hE⟩:∃ E,wB s=E:=⟨_,rfl⟩;rw[hE]at hn hy ⊢;clear hE ok;unfold mE at cB hn hy;have c0:=Bg s 1400 (by omega);have l0:=(EW s 1400).2.1;generalize jd s 1400=t at *;obtain⟨A,s1,e1⟩:=t;dsimp only at cB hn hy l0;have c1:=wC s1 e1 (by omega);have l1:=(sQ s1 e1).1;generalize kU s1 e1=t at *;obtain⟨B,s2,e2⟩:=t;dsimp only at cB hn hy l1;have c2:=MZ s2 e2 (by omega);have l2:=(QX s2 e2).1;generalize p7 s2 e2=t at *;obtain⟨C,s3,e3⟩:=t;dsimp only at cB hn hy l2;have c3:=wC s3 e3 (by omega);have l3:=(sQ s3 e3).1;generalize kU s3 e3=t at *;obtain⟨D,s4,e4⟩:=t;dsimp only at cB hn hy l3;have c4:=K4 s4 e4 (by omega);have l4:=Zd s4 e4;generalize xC s4 e4=t at *;obtain⟨F,s5,e5⟩:=t;dsimp only at cB hn hy l4;have c5:=FV s5 e5 (by omega);generalize zy s5 e5=t at *;obtain⟨G,s6,e6⟩:=t;dsimp only at cB hn hy c4 c5;generalize jm ⟨A,B,C,D,F,G⟩=b at *;obtain⟨bs,be⟩:=b;simp only[eS,uT,T0,jP,pZ,dL,aW,dU]at c0 c1 c2 c3 c4 c5 cB;refine aR Km ?_ (by simp[eEP]);intro Q aB aC aD;repeat' first|refine au ?_|refine eZ c0 ?_|refine da c1 ?_|refine da c2 ?_|refine da c3 ?_|with_reducible refine OU c4 rfl ?_|with_reducible refine OU c5 rfl ?_|refine aq ?_ ?_<;>intro hw<;>try omega|fail
 all_goals first
  | exact a_
  |(refine fD ?_;rw[hn (by first|exact .inl (by assumption)|exact .inr (.inl (by assumption))|exact .inr (.inr (by assumption)))];exact DR)
  |(refine fD ?_;rw[hy (by assumption) (by assumption) (by assumption)];exact DR)
  | skip
end Go.Proofs.YthakfmmgnjpmdaaGreatDoor
namespace Go.Proofs.YthakfmmgnjpmdaaGreatDoor
open Go.AM
set_option maxRecDepth 4000
def Gy: Table:=⟨[116],[⟨[97],1,[]⟩],[⟨[111],1,[]⟩],2,0,[⟨[[45]],[[97]]⟩]⟩
def v3: aL:=⟨1,3,[]⟩
def x3: jL:=⟨[116],2,[v3],0,[0],[[v3]]⟩
def Ws: mZ Gy 2 [v3]=(x3,0):=by kernel_rfl
def Cv: (jm x3).2=0:=by kernel_rfl
def QZ: oP Gy:=by
 refine⟨by decide,⟨by decide,fun c hc=>?_⟩,⟨by decide,fun c hc=>?_⟩,by decide,fun r hr=>?_⟩
 ·obtain rfl:=List.mem_singleton.1 hc;exact⟨by decide,by decide,fun v hv=>by cases hv⟩
 ·obtain rfl:=List.mem_singleton.1 hc;exact⟨by decide,by decide,fun v hv=>by cases hv⟩
 ·obtain rfl:=List.mem_singleton.1 hr;exact⟨⟨by decide,fun s hs=>by obtain rfl:=List.mem_singleton.1 hs;decide⟩,by decide,fun s hs=>by obtain rfl:=List.mem_singleton.1 hs;decide⟩
def acm: qo [v3]:=⟨by decide,fun w hw=>by obtain rfl:=List.mem_singleton.1 hw;exact⟨by decide,by decide⟩⟩
def JU: qt x3:=by have:=QV QZ 2 acm;rw[Ws]at this;exact this
def abM: pJ x3 Gy=true:=by
 have h:mZ Gy x3.ver x3.input=(x3,0):=Ws;unfold pJ;rw[h];simp[uF]
def NS: aM aH 16 [] (dP Gy):=by
 obtain⟨E,hE⟩:∃ E,dP Gy=E:=⟨_,rfl⟩;rw[hE];refine aR G6 ?_;intro Q aB aC aD;repeat' first|refine au ?_|refine aq ?_ ?_<;>intro hw<;>try omega|fail
 rw[<-hE];refine y_ ?_;have v1:∀ σ s (k:Int),View σ (.agg [.str s,I k,.aA]) (ew ⟨s,k,[]⟩):=fun σ s k=>View.nV (.cons (.refl _ rfl) (.cons (.refl _ rfl) (.cons (.aA _) (.nil _))));have v2:∀ σ s,View σ (.aN true E1 [.str s]) (lC [s]):=fun σ s=> .weak _ _ _ rfl;exact View.nV (.cons (.refl _ rfl) (.cons (View.Kc (.cons (v1 _ _ _) (.nil _))) (.cons (View.Kc (.cons (v1 _ _ _) (.nil _))) (.cons (.refl _ rfl) (.cons (.refl _ rfl) (.cons (View.Kc (.cons (View.nV (.cons (v2 _ _) (.cons (v2 _ _) (.nil _)))) (.nil _))) (.nil _)))))))
def Zf: aM aH 17 [I 3] (.agg [I 1,I 3,.str []]):=by
 refine aR OY ?_;intro Q aB aC aD;repeat' first|refine au ?_|refine aq ?_ ?_<;>intro hw<;>try omega|fail
 all_goals exact aU rfl rfl
def Sp: aM aH 6 [] (.bool true):=by
 have c1:=NS;have c2:=Zf;have c3:=Cu Gy QZ 2 [v3] acm;have c4:=Ab x3 JU
 have c5:=So (jm x3).1 (by
  have:=(z8 Cv).1;have:=(zZ this).2;rw[(z8 Cv).2];dsimp only;omega)
 rw[YV JU Cv]at c5;have hb:jm x3=((jm x3).1,0):=Prod.ext rfl Cv;rw[hb]at c4;have c6:=JN x3 x3 JU.sm JU.sm;rw[uF]at c6;have c7:=Ac x3 JU Gy QZ;rw[abM]at c7;rw[Ws]at c3;generalize (jm x3).1=s at *;clear hb;have hT:=I0 Gy;generalize dP Gy=T at *;have eX:jP x3 = .agg [.str [116],I 2,.aN false EV [.agg [I 1,I 3,.str []]],I 0,.aN false E1 [I 0],.aN false E1 [.aN false EV [.agg [I 1,I 3,.str []]]]]:=rfl;have eO:Bh (x3,0) = .bH [.agg [.str [116],I 2,.aN false EV [.agg [I 1,I 3,.str []]],I 0,.aN false E1 [I 0],.aN false E1 [.aN false EV [.agg [I 1,I 3,.str []]]]],I 0]:=rfl;have eP:eEP (x3,0) = .bH [.agg [.str [116],I 2,.aN false EV [.agg [I 1,I 3,.str []]],I 0,.aN false E1 [I 0],.aN false E1 [.aN false EV [.agg [I 1,I 3,.str []]]]],I 0]:=rfl;have eB:T0 (s,0) = .bH [.str s,I 0]:=rfl;have eV:aW [v3] = .aN false EV [.agg [I 1,I 3,.str []]]:=rfl;rw[eO,eV]at c3;rw[eX,eB]at c4;rw[eP]at c5;rw[eX]at c6 c7;clear eX eO eP eB eV;have c3:=aM.weak (args:=[T,I 2,.aN true EV [.agg [I 1,I 3,.str []]]]) c3 (.cons (.refl _ hT) (.cons (.refl _ rfl) (.cons (.weak _ _ _ rfl) (.nil _))));refine aR Kj ?_;intro Q aB aC aD;dsimp (config:= { zeta:=true }) only;repeat' first|refine au ?_|refine zd c6 ?_|refine aq ?_ ?_<;>intro hw<;>try omega|fail
 all_goals first|exact aU rfl rfl|exact a_|skip
end Go.Proofs.YthakfmmgnjpmdaaGreatDoor
namespace Go.Proofs.YthakfmmgnjpmdaaGreatDoor
open Go.AM
set_option maxRecDepth 4000
def E8(v:aL): Prop:=p8 v.n
def K5(l:List aL): Bool:=decide (l.length<=12) && l.all sP
def Wt{l:List aL}(h:K5 l=true)(hr:∀ v ∈ l,E8 v): oF l:=by
 simp only[K5,aj,decide_eq_true_eq,aV]at h;refine⟨by omega,fun v hv=>?_⟩;have h2:=h.2 v hv;have hS:sP v=decide (v.s.length<=300):=rfl;rw[hS,decide_eq_true_eq]at h2;have h3:=hr v hv;exact⟨h3,by omega⟩
end Go.Proofs.YthakfmmgnjpmdaaGreatDoor
namespace Go.Proofs.YthakfmmgnjpmdaaGreatDoor
open Go.AM
set_option maxRecDepth 4000
def Wu(l:List cN): Prop:= ∀ c ∈ l,∀ v ∈ c.order,E8 v
def DH(t:Table): Prop:=Wu t.ins/\Wu t.outs
def T2{l:List cN}(h:Cr l=true)(hr:Wu l): l.length<=12/\ ∀ c ∈ l,Fu c:=by
 simp only[Cr,E6,aj,decide_eq_true_eq,aV]at h;obtain⟨⟨h1,h2⟩,h3⟩:=h;refine⟨h1,fun c hc=>?_⟩;have a:=h2 c hc;have b:=h3 c hc;simp only[FE,K0,aj,decide_eq_true_eq,aV]at a b;refine⟨by omega,by omega,fun v hv=>⟨hr c hc v hv,?_⟩⟩;have:=b.2 v hv;simp only[sP,decide_eq_true_eq]at this;omega
def Q0{l:List aO}(h:E5 l=true): l.length<=10/\ ∀ s ∈ l,s.length<=300:=by
 simp only[E5,aj,decide_eq_true_eq,aV]at h;exact⟨h.1,fun s hs=>by have:=h.2 s hs;simpa[KZ]using this⟩
def abN{t:Table}(h:yM t=true)(hr:DH t): oP t:=by
 simp only[yM,aj,decide_eq_true_eq,aV]at h;obtain⟨⟨⟨⟨h1,h2⟩,h3⟩,h4⟩,h5⟩:=h;have ci:=T2 h3 hr.1;have co:=T2 h4 hr.2;refine⟨by omega,⟨by omega,ci.2⟩,⟨by omega,co.2⟩,by omega,fun r Ai=>?_⟩;have:=h5 r Ai;simp only[K3,aj]at this;have a:=Q0 this.1;have b:=Q0 this.2;exact⟨⟨by omega,fun s hs=>by have:=a.2 s hs;omega⟩,by omega,fun s hs=>by have:=b.2 s hs;omega⟩
def Zg{l:List aL}(h:K5 l=true)(hr:∀ v ∈ l,E8 v): qo l:=HS (Wt h hr)
end Go.Proofs.YthakfmmgnjpmdaaGreatDoor
namespace Go.Proofs.YthakfmmgnjpmdaaGreatDoor
open Go.AM
set_option maxRecDepth 4000
def Cw{α : Type}{p : α-> α->Bool}(hp:∀ a b,p a b=p b a): ∀ l m:List α,fO p l m=fO p m l
 | [],[]=>rfl
 | [],_::_=>rfl
 | _::_,[]=>rfl
 | x::r,y::t=>by simp only[fO];rw[hp x y,Cw hp r t]
def Wv(a b:jL): mD a b=mD b a:=by
 have v:∀ l m:List aL,fO (fun x y=>x==y) l m=fO (fun x y=>x==y) m l:=Cw fun a b=>BEq.comm;have n:∀ l m:List Int,fO (fun x y:Int=>x==y) l m=fO (fun x y:Int=>x==y) m l:=Cw fun a b=>BEq.comm;have d1:decide (a.table=b.table)=decide (b.table=a.table):=decide_eq_decide.2 eq_comm;have d2:decide (a.ver=b.ver)=decide (b.ver=a.ver):=decide_eq_decide.2 eq_comm;have d3:decide (a.err=b.err)=decide (b.err=a.err):=decide_eq_decide.2 eq_comm;unfold mD;rw[v a.input,n a.rules,Cw v a.rows,d1,d2,d3]
def abO {t : Table} {ver : Int} {row : List aL} (h : (mZ t ver row).2 = 0) : (1 <= ver /\ ver <= 2147483648) /\ (bS t).2.2.2 = 0 /\ (di (bS t).1 row).2 = 0 /\
    (lH (j3 t ver row (di (bS t).1 row).1)).length<=1400/\mZ t ver row=(j3 t ver row (di (bS t).1 row).1,0):=by
 unfold mZ at *;by_cases h1:ver<1\/2147483648<ver
 ·rw[if_pos h1]at h;simp at h
 rw[if_neg h1]at h ⊢;by_cases h2:(bS t).2.2.2≠0
 ·rw[if_pos h2]at h;exact absurd h h2
 rw[if_neg h2]at h ⊢;by_cases h3:(di (bS t).1 row).2≠0
 ·rw[if_pos h3]at h;exact absurd h h3
 rw[if_neg h3]at h ⊢;by_cases h4:1400<(lH (j3 t ver row (di (bS t).1 row).1)).length
 ·rw[if_pos h4]at h;simp at h
 rw[if_neg h4];exact⟨by omega,by omega,by omega,by omega,rfl⟩
def adO{t:Table}{ver:Int}{row:List aL}(h:(mZ t ver row).2≠0): mZ t ver row=(uD,(mZ t ver row).2):=by
 unfold mZ at *;by_cases h1:ver<1\/2147483648<ver
 ·rw[if_pos h1]
 rw[if_neg h1]at h ⊢;by_cases h2:(bS t).2.2.2≠0
 ·rw[if_pos h2]
 rw[if_neg h2]at h ⊢;by_cases h3:(di (bS t).1 row).2≠0
 ·rw[if_pos h3]
 rw[if_neg h3]at h ⊢;by_cases h4:1400<(lH (j3 t ver row (di (bS t).1 row).1)).length
 ·rw[if_pos h4]
 rw[if_neg h4]at h;exact absurd rfl h
def Sq(t:Table)(R:List iq)(ls:List jn)(row:List aL): di ⟨{ t with rules:=R },ls⟩ row=di ⟨t,ls⟩ row:=by
 have h2:∀ q acc,kF ⟨{ t with rules:=R },ls⟩ row q acc=kF ⟨t,ls⟩ row q acc:=by
  intro q
  induction q with
  | nil=>intro acc;rfl
  | cons i q ih=>intro acc;simp only[kF,ih]
 unfold di dS mM;simp only[h2]
def Zh{t:Table}(h:(iy t).2.2.2=0)(ver:Int)(row:List aL): mZ (iy t).1 ver row=mZ t ver row:=by
 obtain⟨h1,_,h3⟩:=Gl h;have h4:=(RZ h).1;have h5:=(xx h1).2.2;rw[h3]at h4 ⊢;dsimp only at h4 ⊢;generalize kE t (bS t).1.lines.length=R at *;rw[h5]at h4;dsimp only at h4;unfold mZ;rw[h4,h5];dsimp only;rw[Sq];rfl
def Zi(c:Cell): (n8 c).1.length<=200:=by
 unfold n8;repeat' split
 all_goals (dsimp only;first|(simp;done)|omega)
def Zj(x:Expr): (nK x).1.length<=200:=by
 unfold nK ow;repeat' split
 all_goals (dsimp only;first|(simp;done)|(simp_all;done)|(simp_all;omega))
def abP{t:Table}(h:oP t): oP (iy t).1:=by
 have ok0:oP AW:=⟨by decide,⟨by decide,fun c hc=>(by cases hc)⟩,⟨by decide,fun c hc=>(by cases hc)⟩,by decide,fun c hc=>(by cases hc)⟩;by_cases he:(bS t).2.2.2=0
 ·unfold iy;rw[if_neg (by omega)];split
  ·exact ok0
  ·obtain⟨a,b,c,d⟩:=h;obtain⟨h1,h2⟩:=Gj ⟨a,b,c,d⟩ he;refine⟨a,b,c,?_,fun r hr=>?_⟩
   ·dsimp only;rw[qO];have:=d.1;omega
   ·obtain⟨k,_,rfl⟩:=dW.1 hr;have hk:=h2 k;unfold mW;rw[P2];refine⟨⟨?_,fun s hs=>?_⟩,?_,fun s hs=>?_⟩
    ·dsimp only;rw[um];have:=hk.1.1;omega
    ·obtain⟨m,_,rfl⟩:=dW.1 hs;have:=Zi ((vK t k).cells.getD m default);unfold jY;omega
    ·dsimp only;rw[wu];have:=hk.2.1;omega
    ·obtain⟨m,_,rfl⟩:=dW.1 hs;have:=Zj ((vK t k).outs.getD m default);unfold my;omega
 ·rw[zU he];exact ok0
def abQ(n:Int): 0<(ja n).length:=by
 unfold ja;by_cases h:sx n<128
 ·rw[QM h];simp
 ·rw[MS (by omega)];simp
def abR(e:jL): lH e≠[]:=by
 intro h;have:=congrArg List.length h;have h2:=abQ e.ver;simp only[lH,List.length_append,List.length_nil]at this;omega
def FH(x o:jL): jL:=⟨x.table,x.ver,x.input,o.err,o.rules,o.rows⟩
def Q5(x:jL)(hs:CW x)(hi:qo x.input)(t:Table)(ht:oP t): aM aH 11 [jP x,dP t] (.bool (pJ x t)):=by
 have c1:=Cu t ht x.ver x.input hi;have c2:=Ct x (mZ t x.ver x.input).1 hs (QV ht x.ver hi).sm;unfold pJ;generalize mZ t x.ver x.input=P at *;obtain⟨y,e⟩:=P;dsimp only at c2 ⊢;generalize mD x y=B at *;simp only[jP,pZ,dP,ic,bV,fj,aW,dL,dU,Bh]at c1 c2 ⊢;refine aR Ap ?_;intro Q aB aC aD;by_cases he:e=0
 ·subst he;repeat' first|refine au ?_|refine aq ?_ ?_<;>intro hw<;>try omega|fail
  all_goals first|exact uA rfl (by simp)|exact a_|skip
 ·repeat' first|refine au ?_|refine aq ?_ ?_<;>intro hw<;>try omega|fail
  all_goals first|exact uA rfl (by simp[he])|exact a_|skip
def Gz (t : Table) (ver : Int) (row : List aL) (o : jL) (ht : DH t) (_ : p8 ver) (hr : ∀ v ∈ row, E8 v) (ho : CW o) :
    aM aH 3 [dP t,I ver,aW row,.agg (uG o)] (.bool true):=by
 have c0:=Sp;have c1:=Sm t;have c2:aM aH 5 [aW row] (.bool (K5 row)):=Y4 row;by_cases h:yM t=true/\K5 row=true/\o.rules.length<=30/\o.rows.length<=30
 ·obtain⟨h1,h2,h3,h4⟩:=h;rw[h1]at c1;rw[h2]at c2;have ok:=abN h1 ht;have Zk:=Zg h2 hr;have c3:=Cu t ok ver row Zk;by_cases he:(mZ t ver row).2=0
  ·obtain⟨hv,hm,hd,hl,hx⟩:=abO he;obtain⟨hrt,hok⟩:=E7 ok hv Zk hm hd;have hc:pH (j3 t ver row (di (bS t).1 row).1)=0:=by unfold pH;rw[if_neg (by rw[hrt];simp),if_neg (by omega)]
   have hb:jm (j3 t ver row (di (bS t).1 row).1)=(lH (j3 t ver row (di (bS t).1 row).1),0):=by unfold jm;rw[if_neg (by omega)]
   have hne:=abR (j3 t ver row (di (bS t).1 row).1);have c4:=Ab _ hok;rw[hb]at c4;have c5:=Aa _ hok;rw[hc]at c5
   have ha:pJ (j3 t ver row (di (bS t).1 row).1) t=true:=by
    unfold pJ;show(decide ((mZ t ver row).2=0) && mD _ (mZ t ver row).1)=true;rw[hx];simp[uF]
   have c6:=Ac _ hok t ok;rw[ha]at c6;have c7:=P6 t ok
   have c8:(iy t).2.2.2=0->aM aH 11 [jP (j3 t ver row (di (bS t).1 row).1),dP (iy t).1] (.bool true):=by
    intro hg;have:=Ac _ hok (iy t).1 (abP ok)
    have e2:pJ (j3 t ver row (di (bS t).1 row).1) (iy t).1=true:=by
     unfold pJ;show(decide ((mZ (iy t).1 ver row).2=0) && mD _ (mZ (iy t).1 ver row).1)=true;rw[Zh hg,hx];simp[uF]
    rwa[e2]at this
   have c9:=Q5 (FH (j3 t ver row (di (bS t).1 row).1) o) ⟨hok.sm.1,ho.2.1,ho.2.2.1,ho.2.2.2⟩ Zk t ok
   have e9:pJ (FH (j3 t ver row (di (bS t).1 row).1) o) t=mD (j3 t ver row (di (bS t).1 row).1) (FH (j3 t ver row (di (bS t).1 row).1) o):=by
    unfold pJ;show(decide ((mZ t ver row).2=0) && mD _ (mZ t ver row).1)=_;rw[hx,Wv];simp
   rw[e9]at c9;have c10:=Ct (j3 t ver row (di (bS t).1 row).1) (FH (j3 t ver row (di (bS t).1 row).1) o) hok.sm ⟨hok.sm.1,ho.2.1,ho.2.2.1,ho.2.2.2⟩;rw[hx]at c3;clear e9 ha hb hc hrt hok hx hl hd hm he ok Zk ht hr ho h1 h2;generalize mD (j3 t ver row (di (bS t).1 row).1) (FH (j3 t ver row (di (bS t).1 row).1) o)=B at *;generalize lH (j3 t ver row (di (bS t).1 row).1)=s at *;generalize (di (bS t).1 row).1=D at *;generalize iy t=Q at *;obtain⟨c,q1,q2,g⟩:=Q;dsimp only at c8;simp only[jP,pZ,dP,ic,bV,fj,aW,dL,dU,Bh,j3,FH,T0,eT4,uG]at c1 c2 c3 c4 c5 c6 c7 c8 c9 c10 ⊢;refine aR pW ?_;intro Q aB aC aD;by_cases hg:g=0
   ·subst hg;have c8:=c8 rfl;repeat' first|refine au ?_|refine eZ c0 ?_|refine aq ?_ ?_<;>intro hw<;>try omega|fail
    all_goals first|exact aU rfl rfl|exact a_|exact uA rfl (by simp)|skip
   ·clear c8;repeat' first|refine au ?_|refine eZ c0 ?_|refine aq ?_ ?_<;>intro hw<;>try omega|fail
    all_goals first|exact aU rfl rfl|exact a_|exact uA rfl (by simp)|skip
  ·have e1:=adO he;have c4:=JN uD uD xO.sm xO.sm;rw[uF]at c4;rw[e1]at c3;clear e1 ok Zk ht hr ho h1 h2;generalize (mZ t ver row).2=e at *;simp only[jP,pZ,dP,ic,bV,fj,aW,dL,dU,Bh,uD,uG]at c1 c2 c3 c4 ⊢;refine aR pW ?_;intro Q aB aC aD;repeat' first|refine au ?_|refine eZ c0 ?_|refine zd c4 ?_|refine aq ?_ ?_<;>intro hw<;>try omega|fail
   all_goals first|exact aU rfl rfl|exact a_|skip
 ·clear ht hr ho;generalize yM t=B1 at *;generalize K5 row=B2 at *;simp only[jP,pZ,dP,ic,bV,fj,aW,dL,dU,uG]at c1 c2 ⊢;refine aR pW ?_;intro Q aB aC aD;cases B1<;>cases B2
  all_goals
   repeat' first|refine au ?_|refine eZ c0 ?_|refine aq ?_ ?_<;>intro hw<;>try omega|fail
   all_goals first|exact aU rfl rfl|exact a_|skip
end Go.Proofs.YthakfmmgnjpmdaaGreatDoor
namespace Go.AM
open Go.ChangeShapes Go.WideShapes
section
variable {H:Type} {enc:TypeId × Value->H} {P:Program} {w w':World} {base:Nat} {spare:Nat->Bool} {held:Bool}
def uU: ∀ {ts:List TypeId} {vs:List Value} {ds:List (DataW H)} {ps:List MemPlace},DataW.TrodAll enc P w base spare held ts vs ds ps->(∀ p ∈ ps,w.sameAt w' p)->DataW.TrodAll enc P w' base spare held ts vs ds ps
 | [],[],[],_,h,_=>h
 | _::_,_::_,_::_,_,⟨p,q,⟨n,hn⟩,h2,e⟩,hs=>⟨p,q,⟨n,DataW.trod_carry n _ _ _ hn (fun x hx=>hs x (by rw[e];exact cW _ hx))⟩,uU h2 (fun x hx=>hs x (by rw[e];exact ek _ hx)),e⟩
def JV{may:MemPlace->Prop}(h1:w'.os=w.os)(h2:w'.output=w.output)(h3:∀ b,b<w.heap.size->w'.heap[b]? = w.heap[b]?): w.keptBut w' may:=by
 refine⟨h1,h2,fun i hi=>?_⟩;rw[h3 i hi];split
 ·rename_i a b ha hb;rw[ha]at hb;cases Option.some.inj hb;exact⟨rfl,rfl,rfl,fun _ _=>rfl⟩
 ·rename_i a b ha hb;rw[ha]at hb;cases Option.some.inj hb;exact .inr ⟨rfl,rfl⟩
 ·rfl
def K6(h3:∀ b,b<w.heap.size->w'.heap[b]? = w.heap[b]?){p:MemPlace}(hp:p.block<w.heap.size): w.sameAt w' p:=by
 cases p with
 | cell b off=>exact nk (h3 b hp) off none
 | map b=>exact h3 b hp
def aE.all(w:World): aE:=aE.bare (· < w.heap.size)
def M0 {f : FuncId} {fn : Func} {s : ChangeSpec} {t : TypeId} {args' : List AV} {W : World} {args : Array Value} {ds gs : List (DataW H)} {before : List MemPlace}
    (h:aM P f args' (.bool true)) (hW:DataW.Whole enc P fn.params.toList s.vars false W args.toList ds gs before) (hG:wW (aE.all W) W)
    (K:Kids P (· < P.types.size)) (hz:∀ t e,t<P.types.size->P.underlying t=some (.slice e)->0<P.cellsOf e) (hps:∀ t ∈ fn.params.toList,t<P.types.size)
    (hvars:s.vars=[]) (hrt:fn.resultTypes = #[t]) (ht:P.underlying t=some .bool) (hfn:s.fn H (ds++gs) = { results:=[.lit (.bool true)],args:=ds,vars:=[] })
    (hl:args'.length=args.size) (hv:∀ i,i<args'.length->VR (aE.all W) W (args'.getD i .undef) (args.getD i Go.undef)) :
    Calls P f args W fun e W'=> ∃ v,e = .returned v/\s.post enc P fn false true false false W args v W':=by
 refine((h []).2 (aE.all W) W args (Rel.bare (fun _ h=>h) hG) hl hv).mono ?_;rintro e W' ⟨out,g',σ',hR,hE,hO,rfl,rfl⟩;have hfr:∀ b,b<W.heap.size->W'.heap[b]? = W.heap[b]?:=fun b hb=>hE.frame b hb iK;cases e with
 | panicked c=>exact hO.elim
 | outgrown=>exact hO.elim
 | returned v =>
   have hb:v = .bool true:=by cases hO;rfl
   subst hb;refine⟨_,rfl,ds,gs,before,[],before,[],hW,?_,?_,?_,JV hE.os hE.output hfr,fun h=>by cases h⟩
   ·rw[hfn,hrt];exact trodAll_mk1 (RowKit.shut_bool ht true)
   ·rw[hfn];have hlt:=hW.lt;obtain⟨p,q,h1,h2,rfl,_,_⟩:=hW;rw[hvars]at h2;obtain⟨rfl,rfl⟩:=trodVars_none h2;rw[bB]at hlt ⊢;refine uU (DataW.TrodAll.respare K hz hps h1 (fun x hx=>by simpa using hlt x hx)) (fun x hx=>K6 hfr (hlt x hx))
   ·rw[hfn,hvars];rfl
def VR.string{g:aE}{w:World}(s:ByteArray): VR g w (.str s.data.toList) (.string s):=VR.str s.data.toList
end
