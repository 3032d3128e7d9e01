/- Part. -/
import Derived.Test.YtcjcnfcedihckaaGreatDoorW39
import Derived.WalkKit
import Derived.ProofKit
import Derived.OpenShut
import Derived.ReadAgain
import Derived.Deep.SlicePairs
set_option linter.all false
set_option maxHeartbeats 8000000
namespace Go.Proofs.YtcjcnfcedihckaaGreatDoor
open Go.AM
set_option maxRecDepth 4000
def abp{l:List aI}{i:Nat}(hi:i<l.length)(sep:aI): Lib.join (l.take (i+1)) sep=if i=0 then l.getD i default else Lib.join (l.take i) sep++sep++l.getD i default:=by
 rw[take_succ hi,V5];by_cases h:i=0
 ·rw[if_pos (by rw[h];rfl),if_pos h]
 ·rw[if_neg (fun e=>by have:=congrArg List.length e;rw[List.length_take,List.length_nil]at this;omega),if_neg h]
def Be(l:List aI)(sep:aI)(hl:l.length<=2 ^ 30)(hj:∀ k,(Lib.join (l.take k) sep).length<=2 ^ 60): aM aK 70 [bM l,.str sep] (.str (Lib.join l sep)):=by
 obtain⟨E,hE⟩:∃ E,Lib.join l sep=E:=⟨_,rfl⟩;rw[hE];simp only[bM];refine aR Mf ?_;intro Q aC aD aE;repeat' first|refine aG ?_|refine aF ?_ ?_<;>intro hw<;>try omega|fail
 with_reducible refine bX [5,6,7,8,9,10,11,12,13,14,15,16,17,18,19,20,21,22,23] (fun i:Nat=>[(5,.str (Lib.join (l.take i) sep)),(6,I i)]) (fun _=>[]) (fun i=>i<=l.length) (fun i=>l.length-i) (0) ?_ ?_ ?_ ?_
 ·exact bJ _
 ·rfl
 ·exact at_
 rintro i r g1;by_cases hi:i<l.length
 ·have e:=abp hi sep;have h1:=hj i;have h2:=hj (i+1);obtain⟨x,hx⟩:∃ x,l.getD i default=x:=⟨_,rfl⟩;rw[hx]at e;by_cases h0:i=0
  ·subst h0;rw[if_pos rfl]at e;rw[e]at h2;have ej:Lib.join [] sep=[]:=rfl;repeat' first|simp (disch:=omega) only[go_sem,aC,aD,aE,ej,hx]|refine aG ?_|refine aF ?_ ?_<;>intro hw<;>try omega|fail
   all_goals first|exact bK|skip
   refine⟨1,by dsimp only;omega,by dsimp only;omega,rfl,da,?_⟩;dsimp only;rw[show (1:Nat)=0+1 from rfl,e];exact at_
  ·rw[if_neg h0]at e;have h4:=congrArg List.length e;simp only[aA]at h4;generalize Lib.join (l.take i) sep=J at *;repeat' first|simp (disch:=omega) only[go_sem,aC,aD,aE,hx]|refine aG ?_|refine aF ?_ ?_<;>intro hw<;>try omega|fail
   all_goals first|exact bK|skip
   refine⟨i+1,by dsimp only;omega,by dsimp only;omega,rfl,da,?_⟩;dsimp only;rw[e];exact at_
 ·obtain rfl:i=l.length:=by omega
  have e:l.take l.length=l:=List.take_length ..;rw[e,hE];repeat' first|refine aG ?_|refine aF ?_ ?_<;>intro hw<;>try omega|fail
  all_goals first|exact bK|exact fg gM|skip
def Gk{l:List aI}{sep:aI}{m n:Nat}(h:∀ z ∈ l,z.length<=m)(hn:l.length*(m+sep.length)<=n)(k:Nat): (Lib.join (l.take k) sep).length<=n:=by
 have h1:=sF (l:=l.take k) (sep:=sep) (m:=m) (fun z hz=>h z (dn hz));have h2:(l.take k).length*(m+sep.length)<=l.length*(m+sep.length):=aY _ (by rw[List.length_take];omega);omega
def DC(l:List ez)(h:OW l): aM aK 32 [dh l] (.str (lW l)):=by
 have hl:=h.1
 have hj:=Be (l.map dO) lU (by simp;omega) (Gk (m:=82) (fun z hz=>by
  obtain⟨v,hv,rfl⟩:=cy.1 hz
  exact vt v (h.2 v hv).2.1 (h.2 v hv).2.2 (h.2 v hv).1) (by
   have:lU.length=2:=rfl;rw[bt,this];omega))
 have hE:Lib.join (l.map dO) lU=lW l:=rfl;rw[hE]at hj;generalize lW l=E at *;simp only[dh];refine aR G2 ?_;intro Q aC aD aE;repeat' first|refine aG ?_|refine aF ?_ ?_<;>intro hw<;>try omega|fail
 with_reducible refine bX [3,4,5,6,7,8,9,10,11,12,13,14,15,16,17,18] (fun i:Nat=>[(3,.own E1 0 i 0 i),(4,I i)]) (fun i=>[.vec E1 (((l.take i).map dO).map bB)]) (fun i=>i<=l.length) (fun i=>l.length-i) (0) ?_ ?_ ?_ ?_
 ·simp
 ·rfl
 ·exact at_
 rintro i r g1;by_cases hi:i<l.length
 ·have hv:=h.2 _ (bH hi);have ht:=take_succ hi;have kZ:(((l.take i).map dO).map bB).length=i:=by simp;omega
  obtain⟨v,nn⟩:∃ v,l.getD i default=v:=⟨_,rfl⟩;rw[nn]at hv ht;have hvs:v.s.length<=2 ^ 38:=by have:=F7 hv.1;omega
  have c:=Ti v hv.2.1 hv.2.2 hvs;have ja:((l.take (i+1)).map dO).map bB=((l.take i).map dO).map bB++[.str (dO v)]:=by rw[ht];simp[bB]
  generalize dO v=t at *;simp only[fD]at c;repeat' first|simp (disch:=omega) only[go_sem,aC,aD,aE,nn,kZ]|refine aG ?_|refine eU c ?_|refine aF ?_ ?_<;>intro hw<;>try omega|fail
  all_goals first|exact bK|skip
  refine⟨i+1,?_,?_,?_,da,?_⟩
  ·dsimp only;omega
  ·dsimp only;omega
  ·dsimp only;rw[ja];first|done|rfl|(simp[go_sem];done)
  ·dsimp only;simp (disch:=omega) only[iS,gC,and_true,go_sem,aC,aD,aE,Int.natCast_add,Int.cast_ofNat_Int]<;>(try trivial)<;>(try omega)<;>(try (repeat (first|trivial|(refine And.intro ?_ ?_)|(congr 1;omega))))
 ·have ht:l.take i=l:=bp (by omega);simp only[bM,lU]at hj;have n6:(l.map dO).length=l.length:=by simp
  obtain⟨L,hL⟩:∃ L,l.map dO=L:=⟨_,rfl⟩;rw[hL]at hj n6;obtain rfl:i=L.length:=by omega
  repeat' first|simp (disch:=omega) only[go_sem,aC,aD,aE,ht,hL]|refine aG ?_|refine xj hj ?_|refine aF ?_ ?_<;>intro hw<;>try omega|fail
  all_goals first|exact bK|exact aS rfl rfl|skip
end Go.Proofs.YtcjcnfcedihckaaGreatDoor
namespace Go.Proofs.YtcjcnfcedihckaaGreatDoor
open Go.AM
set_option maxRecDepth 4000
end Go.Proofs.YtcjcnfcedihckaaGreatDoor
namespace Go.Proofs.YtcjcnfcedihckaaGreatDoor
open Go.AM
set_option maxRecDepth 4000
def Pd: List aI:=[[117,110,105,113,117,101],[102,105,114,115,116],[112,114,105,111,114,105,116,121],[97,110,121],[99,111,108,108,101,99,116],[114,117,108,101]]
def Gl: List aI:=[[105,110,116],[116,101,120,116],[98,111,111,108]]
def J1: aM aK 67 [] (bM Pd):=by
 refine aR Eg ?_;intro Q aC aD aE;repeat' first|refine aG ?_|refine aF ?_ ?_<;>intro hw<;>try omega|fail
 exact fg gM
def Uh: aM aK 68 [] (bM oE):=by
 refine aR Me ?_;intro Q aC aD aE;repeat' first|refine aG ?_|refine aF ?_ ?_<;>intro hw<;>try omega|fail
 exact fg gM
def QC: aM aK 69 [] (bM Gl):=by
 refine aR Jd ?_;intro Q aC aD aE;repeat' first|refine aG ?_|refine aF ?_ ?_<;>intro hw<;>try omega|fail
 exact fg gM
def Ze{p:Int}(h1:1<=p)(h6:p<=6): Pd.getD (p-1).toNat []=qP p:=by
 have:p=1\/p=2\/p=3\/p=4\/p=5\/p=6:=by omega
 rcases this with rfl|rfl|rfl|rfl|rfl|rfl<;>rfl
def Pe{p:Int}(h1:1<=p)(h3:p<=3): Gl.getD (p-1).toNat []=jA p:=by
 have:p=1\/p=2\/p=3:=by omega
 rcases this with rfl|rfl|rfl<;>rfl
structure TxR (t:Table):Prop where
 tx:Ie t
 pol:1<=t.aL
 ins:∀ c ∈ t.ins,1<=c.kind
 outs:∀ c ∈ t.outs,1<=c.kind
abbrev Pf(t:Table): aZ:= .cells [.str t.name,.aO false EC (t.ins.map bu),.aO false EC (t.outs.map bu),I t.aL,I t.agg,.aO false ER (t.rules.map cu)]
def QD(t:Table)(h:TxR t): aM aK 30 [dS t] (bM (gO t)):=by
 obtain⟨⟨h1,⟨p0,p1⟩,⟨a0,a1⟩,⟨i1,i2⟩,⟨o1,o2⟩,r1,r2⟩,zb,Kr,KX⟩:=h;have c1:=J1;have c2:=Uh;have c3:=QC;have g1:(Pd.map bB).getD (t.aL-1).toNat .undef = .str (qP t.aL):=by rw[<-Ze zb p1];exact qa (by omega) (by simp[Pd];omega)
 have g2:(oE.map bB).getD t.agg.toNat .undef = .str (rX t.agg):=qa a0 (by simp[oE];omega);have l1:Pd.length=6:=rfl;have l2:oE.length=5:=rfl;have l3:Gl.length=3:=rfl;have hh : [116,97,98,108,101,32]++t.name++[32]++qP t.aL++[32]++rX t.agg=jt t:=by simp[jt,nr]
 have M1:=JU t.aL;have hal:=JV t.agg;obtain⟨E,hE⟩:∃ E,gO t=E:=⟨_,rfl⟩;rw[hE];unfold gO eT at hE;generalize jt t=hd at *;generalize qP t.aL=pw at *;generalize rX t.agg=aw at *;simp only[bM,aU,bf,bB]at c1 c2 c3;simp only[dS,gQ,cH,eA,bM];refine aR Gh ?_;intro Q aC aD aE;repeat' first|simp (disch:=omega) only[go_sem,aC,aD,aE,g1,g2,l1,l2,l3,bt]|refine aG ?_|refine aF ?_ ?_<;>intro hw<;>try omega|fail
 all_goals first|(exfalso;omega)|skip
 with_reducible refine bX [3,4,27,28,29,30,31,32,33,34,35,36,37,38,39,40,41,42,43,44,45,46,47,48,49,50,51,52,53,54,55] (fun i:Nat=>[(4,I i),(3,.own E1 1 (i+1) 0 (i+1))]) (fun i=>[Pf t,.vec E1 ((hd::(t.ins.take i).map kx).map bB)]) (fun i=>i<=t.ins.length) (fun i=>t.ins.length-i) 0 (bJ _) (by rw[<-hh];simp[bB]) ?_ ?_
 ·exact at_
 rintro i r k1;by_cases hi:i<t.ins.length
 ·have hc:=i2 _ (bH hi);have hk:=Kr _ (bH hi);have hts:=take_succ hi;obtain⟨c,hce⟩:∃ c,t.ins.getD i default=c:=⟨_,rfl⟩;rw[hce]at hc hts hk;have g3:(Gl.map bB).getD (c.kind-1).toNat .undef = .str (jA c.kind):=by rw[<-Pe hk hc.2.2];exact qa (by omega) (by simp[Gl];omega)
  have Xj : [105,110,32]++c.name++[32]++jA c.kind=kx c:=by simp[kx,fj]
  have oL:=uG c.kind;have ja:((hd::(t.ins.take (i+1)).map kx).map bB)=((hd::(t.ins.take i).map kx).map bB)++[.str (kx c)]:=by rw[hts];simp[bB]
  have kZ:((hd::(t.ins.take i).map kx).map bB).length=i+1:=by simp;omega
  generalize kx c=w at *;generalize jA c.kind=kw at *;generalize ((hd::(t.ins.take i).map kx).map bB)=X at *;repeat' first|simp (disch:=omega) only[go_sem,aC,aD,aE,g3,l3,bt,hce,kZ]|refine aG ?_|refine aF ?_ ?_<;>intro hw<;>try omega|fail
  all_goals first|(exfalso;omega)|skip
  refine⟨i+1,by dsimp only;omega,by dsimp only;omega,?_,da,?_⟩
  ·refine Eq.trans ?_ (congrArg (fun z=>[Pf t,aZ.vec E1 z]) ja.symm);rw[<-Xj];rfl
  ·dsimp only;simp (disch:=omega) only[iS,gC,and_true,go_sem,aC,aD,aE,Int.natCast_add,Int.cast_ofNat_Int]<;>(try trivial)<;>(try omega)<;>(try (repeat (first|trivial|(refine And.intro ?_ ?_)|(congr 1;omega))))
 have hi:i=t.ins.length:=by omega
 subst hi;rw[bp (by omega)];repeat' first|refine aG ?_|refine aF ?_ ?_<;>intro hw<;>try omega|fail
 obtain⟨A,hA⟩:∃ A,hd::t.ins.map kx=A:=⟨_,rfl⟩;have Hv:t.ins.length+1=A.length:=by rw[<-hA];simp
 have z0:A.map bB=(A++(t.outs.take 0).map iM).map bB:=by simp
 with_reducible refine bX [3,5,6,56,57,58,59,60,61,62,63,64,65,66,67,68,69,70,71,72,73,74,75,76,77,78,79,80,81,82,83,84,85,86,87,88,89,90,91,92,93,94,95,96,97,98,99,100,101,102,103] (fun i:Nat=>[(5,I i),(3,.own E1 1 (A.length+i) 0 (A.length+i))]) (fun i=>[Pf t,.vec E1 ((A++(t.outs.take i).map iM).map bB)]) (fun i=>i<=t.outs.length) (fun i=>t.outs.length-i) 0 (bJ _) (by rw[<-z0,<-hA];first|done|rfl|simp[bB]) ?_ ?_
 ·simp only[<-Hv,cQ];exact at_
 rintro i r k1;by_cases hi:i<t.outs.length
 ·have hc:=o2 _ (bH hi);have hk:=KX _ (bH hi);have hts:=take_succ hi;obtain⟨c,hce⟩:∃ c,t.outs.getD i default=c:=⟨_,rfl⟩;rw[hce]at hc hts hk;have g3:(Gl.map bB).getD (c.kind-1).toNat .undef = .str (jA c.kind):=by rw[<-Pe hk hc.1.2.2];exact qa (by omega) (by simp[Gl];omega)
  have c6:=DC c.order hc.2;have hro:=Bc hc.2;have Xj:c.order.length=0->[111,117,116,32]++c.name++[32]++jA c.kind=iM c:=fun e=>by simp[iM,fj,fq,e]
  have hwv:c.order.length≠0->[111,117,116,32]++c.name++[32]++jA c.kind++[32]++lW c.order=iM c:=fun e=>by simp only[iM,fj,fq];rw[if_neg e];simp
  have oL:=uG c.kind;have ZQ:=hc.2.1;have ja:((A++(t.outs.take (i+1)).map iM).map bB)=((A++(t.outs.take i).map iM).map bB)++[.str (iM c)]:=by rw[hts];simp[bB]
  have kZ:((A++(t.outs.take i).map iM).map bB).length=A.length+i:=by simp;omega
  generalize iM c=w at *;generalize jA c.kind=kw at *;generalize lW c.order=rw' at *;generalize ((A++(t.outs.take i).map iM).map bB)=X at *;simp only[dh]at c6;repeat' first|simp (disch:=omega) only[go_sem,aC,aD,aE,g3,l3,bt,hce,kZ]|refine aG ?_|refine aF ?_ ?_<;>intro hw<;>try omega|fail
  all_goals first|(exfalso;omega)|skip
  ·refine⟨i+1,by dsimp only;omega,by dsimp only;omega,?_,da,?_⟩
   ·refine Eq.trans ?_ (congrArg (fun z=>[Pf t,aZ.vec E1 z]) ja.symm);rw[<-hwv (by omega)];rfl
   ·dsimp only;simp (disch:=omega) only[iS,gC,and_true,go_sem,aC,aD,aE,Int.natCast_add,Int.cast_ofNat_Int]<;>(try trivial)<;>(try omega)<;>(try (repeat (first|trivial|(refine And.intro ?_ ?_)|(congr 1;omega))))
  ·refine⟨i+1,by dsimp only;omega,by dsimp only;omega,?_,da,?_⟩
   ·refine Eq.trans ?_ (congrArg (fun z=>[Pf t,aZ.vec E1 z]) ja.symm);rw[<-Xj (by omega)];rfl
   ·dsimp only;simp (disch:=omega) only[iS,gC,and_true,go_sem,aC,aD,aE,Int.natCast_add,Int.cast_ofNat_Int]<;>(try trivial)<;>(try omega)<;>(try (repeat (first|trivial|(refine And.intro ?_ ?_)|(congr 1;omega))))
 have hi:i=t.outs.length:=by omega
 subst hi;rw[bp (by omega)];repeat' first|refine aG ?_|refine aF ?_ ?_<;>intro hw<;>try omega|fail
 obtain⟨B,hB⟩:∃ B,A++t.outs.map iM=B:=⟨_,rfl⟩;have hBl:A.length+t.outs.length=B.length:=by rw[<-hB];simp
 have z0:B.map bB=(B++(t.rules.take 0).map eW).map bB:=by simp
 with_reducible refine bX [3,7,104,105,106,107,108,109,110,111,112,113,114,115,116,117,118,119,120,121,122,123,124,125,126,127,128,129,130] (fun i:Nat=>[(7,I i),(3,.own E1 1 (B.length+i) 0 (B.length+i))]) (fun i=>[Pf t,.vec E1 ((B++(t.rules.take i).map eW).map bB)]) (fun i=>i<=t.rules.length) (fun i=>t.rules.length-i) 0 (bJ _) (by rw[<-z0,<-hB];first|done|rfl|simp[bB]) ?_ ?_
 ·simp only[<-hBl,cQ];exact at_
 rintro i r k1;by_cases hi:i<t.rules.length
 ·have hc:=r2 _ (bH hi);have hts:=take_succ hi;obtain⟨c,hce⟩:∃ c,t.rules.getD i default=c:=⟨_,rfl⟩;rw[hce]at hc hts;have kr:=hc.1.1;have agD:=hc.2.1;have c5:=Be c.cells [32,124,32] (by omega) (Gk (m:=2 ^ 17) hc.1.2 (by simp only[List.length_cons,List.length_nil];omega));have c6:=Be c.outs [32,124,32] (by omega) (Gk (m:=2 ^ 17) hc.2.2 (by simp only[List.length_cons,List.length_nil];omega));have b1:=uF hc.1;have b2:=uF hc.2;have Xj : [114,117,108,101,32]++jP c.cells++[32,58,32]++jP c.outs=eW c:=by simp[eW,nr]
  have tT:Lib.join c.cells [32,124,32]=jP c.cells:=rfl;have gP:Lib.join c.outs [32,124,32]=jP c.outs:=rfl;rw[tT]at c5;rw[gP]at c6;have ja:((B++(t.rules.take (i+1)).map eW).map bB)=((B++(t.rules.take i).map eW).map bB)++[.str (eW c)]:=by rw[hts];simp[bB]
  have kZ:((B++(t.rules.take i).map eW).map bB).length=B.length+i:=by simp;omega
  generalize eW c=w at *;generalize jP c.cells=wa at *;generalize jP c.outs=wb at *;generalize ((B++(t.rules.take i).map eW).map bB)=X at *;simp only[bM,aU,bf,OX]at c5 c6;repeat' first|simp (disch:=omega) only[go_sem,aC,aD,aE,l3,bt,hce,kZ]|refine aG ?_|refine aF ?_ ?_<;>intro hw<;>try omega|fail
  all_goals first|(exfalso;omega)|skip
  refine⟨i+1,by dsimp only;omega,by dsimp only;omega,?_,da,?_⟩
  ·refine Eq.trans ?_ (congrArg (fun z=>[Pf t,aZ.vec E1 z]) ja.symm);rw[<-Xj];rfl
  ·dsimp only;simp (disch:=omega) only[iS,gC,and_true,go_sem,aC,aD,aE,Int.natCast_add,Int.cast_ofNat_Int]<;>(try trivial)<;>(try omega)<;>(try (repeat (first|trivial|(refine And.intro ?_ ?_)|(congr 1;omega))))
 have hi:i=t.rules.length:=by omega
 subst hi;rw[bp (by omega)];have kZ:((B++t.rules.map eW).map bB).length=B.length+t.rules.length:=by simp
 have hEl:E=(B++t.rules.map eW)++[mI]:=by rw[<-hE,<-hB,<-hA];simp
 generalize B++t.rules.map eW=X at *;have hp:=tq (X++[mI]);have hm:(X++[mI]).map bB=X.map bB++[.str mI]:=by simp[bB]
 repeat' first|simp (disch:=omega) only[go_sem,aC,aD,aE,kZ]|refine aG ?_|refine aF ?_ ?_<;>intro hw<;>try omega|fail
 all_goals first|(exfalso;omega)|skip
 refine fg ?_;rw[hEl];rw[hm]at hp;simp only[hm];exact View.vec (T:=none) rfl (by simp at kZ ⊢;omega) (by simp at kZ ⊢;omega) hp
end Go.Proofs.YtcjcnfcedihckaaGreatDoor
namespace Go.Proofs.YtcjcnfcedihckaaGreatDoor
open Go.AM
set_option maxRecDepth 4000
def xM{σ : ae}{a b:aI}(h:a=b): View σ (.aO true E1 [.str a]) (.aO false E1 [.str b]):=by subst h;exact .weak _ _ _ rfl
def QE(c:ef)(h:Z3 c)(ht:c.kind=1->TxR c.table)(h1k:1<=c.kind)(h9:c.kind<=9): aM aK 16 [dU c] (bM (cC c)):=by
 obtain⟨h1,h2,h3,h4,h5,h6⟩:=h;have i1:=qA h3;have i2:=qA h5;have i3:=qA h6;have c1:=rH c.ver h3.1 h3.2;have c2:=rH c.jF h5.1 h5.2;have c3:=rH c.l9 h6.1 h6.2;have hrow:=h4.1;have hro:=Bc h4;by_cases k1:c.kind=1
 ·have ct:=QD c.table (ht k1);have e:cC c=gO c.table:=by unfold cC;rw[if_pos k1]
  rw[e];generalize gO c.table=L at *;simp only[dS,gQ,cH,eA,bM]at ct;simp only[dU,iL,bM];refine aR mj ?_;intro Q aC aD aE;repeat' first|simp (disch:=omega) only[go_sem,aC,aD,aE,k1]|refine aG ?_|refine aF ?_ ?_<;>intro hw<;>try omega|fail
  all_goals first|exact bK|exact fg gM|exact aS rfl (by simp)|skip
 by_cases k2:c.kind=2
 ·have e:cC c=[fq (bQ [iW,c.name,Lib.itoa c.ver]) c.row]:=by unfold cC;rw[if_neg k1,if_pos k2]
  have c5:=DC c.row h4;have e0:c.row.length=0->[100,101,99,105,100,101,32]++c.name++[32]++Lib.itoa c.ver=fq (bQ [iW,c.name,Lib.itoa c.ver]) c.row:=fun e=>by simp[fj,fq,e]
  have e1:c.row.length≠0->[100,101,99,105,100,101,32]++c.name++[32]++Lib.itoa c.ver++[32]++lW c.row=fq (bQ [iW,c.name,Lib.itoa c.ver]) c.row:=fun e=>by simp only[fj,fq];rw[if_neg e];simp
  rw[e];generalize fq (bQ [iW,c.name,Lib.itoa c.ver]) c.row=z at *;generalize Lib.itoa c.ver=t at *;generalize lW c.row=w at *;simp only[dh]at c5;simp only[dU,iL,bM,aU,bf,bB];refine aR mj ?_;intro Q aC aD aE;repeat' first|simp (disch:=omega) only[go_sem,aC,aD,aE,k2]|refine aG ?_|refine aF ?_ ?_<;>intro hw<;>try omega|fail
  all_goals first|exact bK|(refine fg ?_;exact xM (e0 (by omega)))|(refine fg ?_;exact xM (e1 (by omega)))|skip
 by_cases k3:c.kind=3
 ·have e:cC c=[bQ [jX,c.name,Lib.itoa c.ver]]:=by unfold cC;rw[if_neg k1,if_neg k2,if_pos k3]
  have e0 : [118,101,114,115,105,111,110,32]++c.name++[32]++Lib.itoa c.ver=bQ [jX,c.name,Lib.itoa c.ver]:=by simp[fj]
  rw[e];generalize bQ [jX,c.name,Lib.itoa c.ver]=w at *;generalize Lib.itoa c.ver=t at *;simp only[dU,iL,bM,aU,bf,bB];refine aR mj ?_;intro Q aC aD aE;repeat' first|simp (disch:=omega) only[go_sem,aC,aD,aE,k3]|refine aG ?_|refine aF ?_ ?_<;>intro hw<;>try omega|fail
  all_goals first|exact bK|(refine fg ?_;exact xM e0)|skip
 by_cases k5:c.kind=5
 ·have e:cC c=[bQ [qO,Lib.itoa c.jF,Lib.itoa c.l9]]:=by unfold cC;rw[if_neg k1,if_neg k2,if_neg k3,if_pos k5]
  have e0 : [108,111,103,32]++Lib.itoa c.jF++[32]++Lib.itoa c.l9=bQ [qO,Lib.itoa c.jF,Lib.itoa c.l9]:=by simp[fj]
  rw[e];generalize bQ [qO,Lib.itoa c.jF,Lib.itoa c.l9]=w at *;generalize Lib.itoa c.jF=t at *;generalize Lib.itoa c.l9=u at *;simp only[dU,iL,bM,aU,bf,bB];refine aR mj ?_;intro Q aC aD aE;repeat' first|simp (disch:=omega) only[go_sem,aC,aD,aE,k5]|refine aG ?_|refine aF ?_ ?_<;>intro hw<;>try omega|fail
  all_goals first|exact bK|(refine fg ?_;exact xM e0)|skip
 by_cases k6:c.kind=6
 ·have e:cC c=[bQ [jz,Lib.itoa c.jF]]:=by unfold cC;rw[if_neg k1,if_neg k2,if_neg k3,if_neg k5,if_pos k6]
  have e0 : [99,111,109,112,97,99,116,32]++Lib.itoa c.jF=bQ [jz,Lib.itoa c.jF]:=by simp[yE]
  rw[e];generalize bQ [jz,Lib.itoa c.jF]=w at *;generalize Lib.itoa c.jF=t at *;simp only[dU,iL,bM,aU,bf,bB];refine aR mj ?_;intro Q aC aD aE;repeat' first|simp (disch:=omega) only[go_sem,aC,aD,aE,k6]|refine aG ?_|refine aF ?_ ?_<;>intro hw<;>try omega|fail
  all_goals first|exact bK|(refine fg ?_;exact xM e0)|skip
 have e:cC c=[kI c.kind]:=by unfold cC;rw[if_neg k1,if_neg k2,if_neg k3,if_neg k5,if_neg k6]
 rw[e];have hk:c.kind=4\/c.kind=7\/c.kind=8\/c.kind=9:=by omega
 have p4:kI 4=[108,105,115,116]:=rfl;have p7:kI 7=[97,117,100,105,116]:=rfl;have p8:kI 8=[109,97,114,107]:=rfl;have p9:kI 9=[115,121,110,99]:=rfl;simp only[dU,iL,bM,aU,bf,bB];rcases hk with k|k|k|k
 all_goals
  rw[k];first|rw[p4]|rw[p7]|rw[p8]|rw[p9]
  refine aR mj ?_;intro Q aC aD aE;repeat' first|refine aG ?_|refine aF ?_ ?_<;>intro hw<;>try omega|fail
  all_goals first|exact bK|exact fg gM|skip
end Go.Proofs.YtcjcnfcedihckaaGreatDoor
namespace Go.Proofs.YtcjcnfcedihckaaGreatDoor
open Go.AM
set_option maxRecDepth 4000
def Xk{c:ef}(ok:g_ c)(h:dX c=0)(hk:c.kind=1): TxR c.table:=by
 obtain⟨k1,k2,k3,k4,k5⟩:=mc h;have hc:=xJ (k1 hk);obtain⟨f1,f2,f3,f4,f5⟩:=jv hc.frame;obtain⟨p1,p2,p3,p4,p5⟩:=pZ f4;exact⟨OZ hc (Ij ok.2.1),p1,fun c ko=>(vB hc ko).2.1,fun c ko=>(qz hc ko).2.1⟩
end Go.Proofs.YtcjcnfcedihckaaGreatDoor
namespace Go.Proofs.YtcjcnfcedihckaaGreatDoor
open Go.AM
set_option maxRecDepth 4000
end Go.Proofs.YtcjcnfcedihckaaGreatDoor
namespace Go.Proofs.YtcjcnfcedihckaaGreatDoor
open Go.AM
set_option maxRecDepth 4000
def abq(n:Int){m:Nat}(h:0<m)(hm:m<=2 ^ 30): ∃ k:Nat,eK IntKind.i64 ((eK IntKind.u64 n).tmod m)=(k:Int)/\k<m:=by
 have h0:0<=eK IntKind.u64 n:=by rw[Mb];exact Int.emod_nonneg _ (by decide)
 have h1:0<=(eK IntKind.u64 n).tmod m:=Int.tmod_nonneg _ h0;have h2:(eK IntKind.u64 n).tmod m<m:=Int.tmod_lt_of_pos _ (by omega);refine⟨((eK IntKind.u64 n).tmod m).toNat,?_,by omega⟩;rw[x7 (by omega) (by omega)];omega
def Ec(l:List ef)(n:Int)(bad:aI)(hr:∀ c ∈ l,xC c)(hn:iu n): aM aK 6 [jG l,I n,.str bad] (.bool true):=by
 have c0:=y5;have cf:=Lo l;by_cases adu:Dl l=true/\l.length≠0/\bad.length<=300
 case neg =>
  generalize Dl l=b at *;simp only[jG]at cf ⊢;refine aR ov ?_;intro Q aC aD aE;cases b
  all_goals
   repeat' first|simp (disch:=omega) only[go_sem,aC,aD,aE,bt]|refine aG ?_|refine eU c0 ?_|refine aF ?_ ?_<;>intro hw<;>try omega|fail
  all_goals first|exact bK|exact aS rfl rfl|(exfalso;exact adu ⟨rfl,by omega,by omega⟩)|skip
 obtain⟨hf,hl0,CV⟩:=adu;rw[hf]at cf;obtain⟨h70,ok⟩:=RC hf hr;have c1:=D8 l (by omega) ok;have hbT:=LP (l:=l);have hgT:=Iu (l:=l);by_cases he:(kG l).2=0/\(kG l).1.length<=30000
 case neg =>
  generalize kG l=T at *;obtain⟨a,e⟩:=T;dsimp only at he;simp only[eB,jG]at c1 cf ⊢;refine aR ov ?_;intro Q aC aD aE;repeat' first|simp (disch:=omega) only[go_sem,aC,aD,aE,bt]|refine aG ?_|refine eU c0 ?_|refine aF ?_ ?_<;>intro hw<;>try omega|fail
  all_goals first|exact aS rfl rfl|(exfalso;exact he ⟨by omega,by omega⟩)|exact bK|skip
 obtain⟨he,hlen⟩:=he;obtain⟨t1,t2,t3⟩:=hgT he;rw[t3]at hlen c1;dsimp only at hlen;have Ac:∀ c ∈ l,g_ c/\dX c=0:=fun c hc=>⟨ok c hc,t2 c hc⟩;simp only[eB,jG]at c1 cf ⊢;refine aR ov ?_;intro Q aC aD aE;repeat' first|simp (disch:=omega) only[go_sem,aC,aD,aE,bt]|refine aG ?_|refine eU c0 ?_|refine aF ?_ ?_<;>intro hw<;>try omega|fail
 all_goals first|exact bK|skip
 with_reducible refine bX [6,9,51,52,53,54,55,56,57,58,59,60,61,62,63,64,65,66,67,68,69,70,71,72,73] (fun i:Nat=>[(9,I i)]) (fun _=>[]) (fun i=>i<=bad.length/\ ∀ j,j<i->(bad.getD j 0).toNat≠10/\lowerB (bad.getD j 0)=false) (fun i=>bad.length-i) 0 ⟨bJ _,fun j hj=>by omega⟩ rfl ?_ ?_
 ·exact at_
 rintro i rr ⟨g1,g2⟩;by_cases hi:i<bad.length
 ·repeat' first|refine aG ?_|refine eU c0 ?_|refine aF ?_ ?_<;>intro hw<;>try omega|fail
  all_goals first|exact bK|exact aS rfl rfl|skip
  all_goals
   have hlb:(bad.getD i 0).toNat≠10/\lowerB (bad.getD i 0)=false:=by
    refine⟨by omega,?_⟩;unfold lowerB;rw[Bool.and_eq_false_iff,decide_eq_false_iff_not,decide_eq_false_iff_not];omega
   refine⟨i+1,⟨by omega,fun j hj=>?_⟩,by dsimp only;omega,rfl,da,at_⟩;by_cases hji:j<i
   ·exact g2 j hji
   ·obtain rfl:j=i:=by omega
    exact hlb
 ·obtain rfl:i=bad.length:=by omega
  have hno:dZ bad:=fun c hc=>by
   obtain⟨k,hk,rfl⟩:=bz hc;have:=(g2 k hk).1;intro e;apply this;simp[aj,hk,e]
  have hlo:∀ c ∈ bad,lowerB c=false:=fun c hc=>by
   obtain⟨k,hk,rfl⟩:=bz hc;have:=(g2 k hk).2;simpa[aj,hk]using this
  obtain⟨k,hk,oL⟩:=abq n (by omega:0<l.length) (by omega);have okt:∀ c ∈ l.take k,g_ c:=fun c hc=>ok c (dn hc);have c2:=D8 (l.take k) (by rw[List.length_take];omega) okt;rw[A6 (by rw[List.length_take];omega) (fun c hc=>t2 c (dn hc))]at c2;have hT:(dK (l.take k)).length<=(dK l).length:=vA _ l k;have hT1:(dK (l.take (k+1))).length<=(dK l).length:=vA _ l (k+1);have hT2:dK (l.take (k+1))=dK (l.take k)++cP (cC (l.getD k default)):=by rw[take_succ oL,wE]
  have pb:=fun s h=>WR t1 Ac (bad:=bad) (s:=s) hno hlo k h;have pa:=T1 t1 Ac k;have pc:=fun i hi h=>WS t1 Ac (i:=i) oL hi h;have okv:=ok _ (bH oL);have Z6:=t2 _ (bH oL);obtain⟨v,nn⟩:∃ v,l.getD k default=v:=⟨_,rfl⟩;rw[nn]at okv Z6 hT2;simp only[nn]at pc;obtain⟨q1,q2,q3,_⟩:=mc Z6;have c5:=QE v (xL okv Z6) (Xk okv Z6) q2 q3;have hpos:=LN v;rw[hT2,aA]at hT1;clear hT2;generalize cC v=own at *;generalize dK (l.take k)=T at *;generalize dK l=SL at *;simp only[eB,jG]at c2;repeat' first|simp (disch:=omega) only[go_sem,aC,aD,aE,bt,hk,<-List.map_take]|refine aG ?_|refine aF ?_ ?_<;>intro hw<;>try omega|fail
  all_goals first|exact bK|skip
  with_reducible refine bX [13,14,88,89,90,91,92,93,94,95,96,97,98,99] (fun i:Nat=>[(13,I (nJ (T.take i))),(14,I i)]) (fun _=>[]) (fun i=>i<=T.length) (fun i=>T.length-i) 0 (bJ _) rfl ?_ ?_
  ·exact at_
  rintro i rr h1;by_cases hi:i<T.length
  ·have hn:=RT hi
   have hb:nJ (T.take i)<=i:=by
    unfold nJ;have:=List.countP_le_length (p:=fun c:UInt8=>decide (c.toNat=10)) (l:=T.take i);rw[List.length_take]at this;omega
   repeat' first|refine aG ?_|refine aF ?_ ?_<;>intro hw<;>try omega|fail
   all_goals first|exact bK|skip
   ·rw[if_pos (by omega)]at hn;refine⟨i+1,by dsimp only;omega,by dsimp only;omega,rfl,da,?_⟩;dsimp only;rw[hn];exact at_
   ·rw[if_neg (by omega)]at hn;refine⟨i+1,by dsimp only;omega,by dsimp only;omega,rfl,da,?_⟩;dsimp only;rw[hn];exact at_
  obtain rfl:i=T.length:=by omega
  have hb:nJ T<=T.length:=List.countP_le_length ..;have e:T.take T.length=T:=List.take_length ..;rw[e];generalize nJ T=nl at *;have c3:=n_ (T++bad++[10]++SL) (by simp;omega);have e3:T++bad++[10]++SL=T++(bad++(10::SL)):=by simp
  rw[e3,pb SL (by simp;omega),<-e3]at c3;have c4:=n_ (T++[97,117,100,105]) (by simp;omega);rw[pa (by simp;omega)]at c4;simp only[Iq,jG,bf,dU,iL,bM]at c3 c4 c5;repeat' first|simp (disch:=omega) only[go_sem,aC,aD,aE,bt,nn]|refine aG ?_|refine aF ?_ ?_<;>intro hw<;>try omega|fail
  all_goals first|exact bK|skip
  have e0:T++cP (own.take 0)=T:=by simp[cP]
  with_reducible refine bX [6,19,20,21,22,23,150,151,152,153,154,155,156,157,158,159,160,161,162,163,164,165,166,167,168,169,170,171,172,173,174,175,176,177,178,179] (fun i:Nat=>[(20,I i),(19,.str (T++cP (own.take i)))]) (fun _=>[]) (fun i=>i+1<=own.length) (fun i=>own.length-i) 0 (by omega) rfl ?_ ?_
  ·rw[e0];exact at_
  rintro i rr h1;have tW:=RN own;by_cases hi:i+1<own.length
  ·have xX:=LD (ls:=own) (j:=i) (by omega) T;have hft:=BE own (i+1);obtain⟨z,hz⟩:∃ z,own.getD i default=z:=⟨_,rfl⟩;rw[hz]at xX;have gz:(List.map bB own).getD i .undef = .str z:=by rw[getD_map _ _ _ (by omega),hz];rfl
   have agF:∀ U:aI,U++(z++[10])=U++z++[10]:=fun U=>by simp
   rw[agF]at xX;have hfl:=congrArg List.length xX;simp only[aA,List.length_cons,List.length_nil]at hfl;have c6:=n_ (T++cP (own.take (i+1))) (by simp only[aA];omega);rw[pc i hi (by simp only[aA];omega),xX]at c6;have hU:(T++cP (own.take i)).length=T.length+(cP (own.take i)).length:=aA;simp only[Iq,jG,bf]at c6;generalize hW:T++cP (own.take i)=U at *;repeat' first|simp (disch:=omega) only[go_sem,aC,aD,aE,gz,hz,bt]|refine aG ?_|refine aF ?_ ?_<;>intro hw<;>try omega|fail
   all_goals first|exact bK|skip
   refine⟨i+1,by dsimp only;omega,by dsimp only;omega,rfl,da,?_⟩;dsimp only;rw[xX];exact at_
  ·repeat' first|simp (disch:=omega) only[go_sem,aC,aD,aE,bt]|refine aG ?_|refine eU c0 ?_|refine aF ?_ ?_<;>intro hw<;>try omega|fail
   all_goals first|exact bK|exact aS rfl rfl|skip
end Go.Proofs.YtcjcnfcedihckaaGreatDoor
namespace Go.AM
open Go.ChangeShapes Go.WideShapes
section
variable {H:Type} {enc:TypeId × Value->H} {P:Program} {w w':World} {base:Nat} {spare:Nat->Bool} {held:Bool}
def ua: ∀ {ts:List TypeId} {vs:List Value} {ds:List (DataW H)} {ps:List MemPlace},DataW.TrodAll enc P w base spare held ts vs ds ps->(∀ p ∈ ps,w.sameAt w' p)->DataW.TrodAll enc P w' base spare held ts vs ds ps
 | [],[],[],_,h,_=>h
 | _::_,_::_,_::_,_,⟨p,q,⟨n,hn⟩,h2,e⟩,hs=>⟨p,q,⟨n,DataW.trod_carry n _ _ _ hn (fun x hx=>hs x (by rw[e];exact fK _ hx))⟩,ua h2 (fun x hx=>hs x (by rw[e];exact List.mem_append_right _ hx)),e⟩
def Iv{may:MemPlace->Prop}(h1:w'.os=w.os)(h2:w'.output=w.output)(h3:∀ b,b<w.heap.size->w'.heap[b]? = w.heap[b]?): w.keptBut w' may:=by
 refine⟨h1,h2,fun i hi=>?_⟩;rw[h3 i hi];split
 ·rename_i a b ha hb;rw[ha]at hb;cases Option.some.inj hb;exact⟨rfl,rfl,rfl,fun _ _=>rfl⟩
 ·rename_i a b ha hb;rw[ha]at hb;cases Option.some.inj hb;exact .inr ⟨rfl,rfl⟩
 ·rfl
def J2(h3:∀ b,b<w.heap.size->w'.heap[b]? = w.heap[b]?){p:MemPlace}(hp:p.block<w.heap.size): w.sameAt w' p:=by
 cases p with
 | cell b off=>exact mJ (h3 b hp) off none
 | map b=>exact h3 b hp
def aJ.all(w:World): aJ:=aJ.bare (· < w.heap.size)
def vD {f : FuncId} {fn : Func} {s : ChangeSpec} {t : TypeId} {args' : List AV} {W : World} {args : Array Value} {ds gs : List (DataW H)} {before : List MemPlace}
    (h:aM P f args' (.bool true)) (hW:DataW.Whole enc P fn.params.toList s.vars false W args.toList ds gs before) (hG:xR (aJ.all W) W)
    (K:Kids P (· < P.types.size)) (hz:∀ t e,t<P.types.size->P.underlying t=some (.slice e)->0<P.cellsOf e) (hps:∀ t ∈ fn.params.toList,t<P.types.size)
    (hvars:s.vars=[]) (hrt:fn.resultTypes = #[t]) (ht:P.underlying t=some .bool) (hfn:s.fn H (ds++gs) = { results:=[.lit (.bool true)],args:=ds,vars:=[] })
    (hl:args'.length=args.size) (hv:∀ i,i<args'.length->VR (aJ.all W) W (args'.getD i .undef) (args.getD i Go.undef)) :
    Calls P f args W fun e W'=> ∃ v,e = .returned v/\s.post enc P fn false true false false W args v W':=by
 refine((h []).2 (aJ.all W) W args (Rel.bare (fun _ h=>h) hG) hl hv).mono ?_;rintro e W' ⟨out,g',σ',hR,hE,hO,rfl,rfl⟩;have hfr:∀ b,b<W.heap.size->W'.heap[b]? = W.heap[b]?:=fun b hb=>hE.frame b hb jB;cases e with
 | panicked c=>exact hO.elim
 | outgrown=>exact hO.elim
 | returned v =>
   have hb:v = .bool true:=by cases hO;rfl
   subst hb;refine⟨_,rfl,ds,gs,before,[],before,[],hW,?_,?_,?_,Iv hE.os hE.output hfr,fun h=>by cases h⟩
   ·rw[hfn,hrt];exact trodAll_mk1 (RowKit.shut_bool ht true)
   ·rw[hfn];have hlt:=hW.lt;obtain⟨p,q,h1,h2,rfl,_,_⟩:=hW;rw[hvars]at h2;obtain⟨rfl,rfl⟩:=trodVars_none h2;rw[bY]at hlt ⊢;refine ua (DataW.TrodAll.respare K hz hps h1 (fun x hx=>by simpa using hlt x hx)) (fun x hx=>J2 hfr (hlt x hx))
   ·rw[hfn,hvars];rfl
def VR.string{g:aJ}{w:World}(s:ByteArray): VR g w (.str s.data.toList) (.string s):=VR.str s.data.toList
end
end Go.AM
namespace Go.AM
open Go.ChangeShapes Go.WideShapes
def sJ(g:aJ)(w:World)(az:List AV)(vs:List Value): Prop:=az.length=vs.length/\ ∀ i,i<az.length->VR g w (az.getD i .undef) (vs.getD i Go.undef)
def sJ.nil(g:aJ)(w:World): sJ g w [] []:=⟨rfl,fun i hi=>by cases hi⟩
def sJ.app{g:aJ}{w:World}{a b:List AV}{x y:List Value}(h:sJ g w a x)(k:sJ g w b y): sJ g w (a++b) (x++y):=by
 have h1:=h.1;refine⟨by simp[h.1,k.1],fun i hi=>?_⟩;rw[aA]at hi;by_cases hl:i<a.length
 ·have:=h.2 i hl;rw[aj,aj]at this ⊢;rw[aH hl,aH (by omega)];exact this
 ·have:=k.2 (i-a.length) (by omega);rw[aj,aj]at this ⊢;rw[bL (by omega),bL (by omega),<-h1];exact this
def sJ.one{g:aJ}{w:World}{a:AV}{x:Value}(h:VR g w a x): sJ g w [a] [x]:=⟨rfl,fun i hi=>by
 match i,hi with
 | 0,_=>exact h⟩
def sJ.agg{g:aJ}{w:World}{az:List AV}{vs:Array Value}(h:sJ g w az vs.toList)(hs:az.all AV.scalar=true): VR g w (.agg az) (.agg vs):=by
 refine .agg az vs (by simpa using h.1) hs (fun i hi=>?_);have:=h.2 i hi;simpa[aj,eH]using this
section
variable {H:Type} {enc:TypeId × Value->H} {P:Program} {w:World}
def Reads(enc:TypeId × Value->H)(P:Program)(w:World)(N:Nat)(t:TypeId)(n:Nat){α : Type}(E : α->List AV)(G : α->Prop): Prop :=
 P.cellsOf t=n/\(∀ a,(E a).length=n)/\ ∀ fuel cs x,fuel<=N->DataW.trod enc P w 0 (fun _=>true) true fuel t cs=some x-> ∃ a,G a/\sJ (aJ.all w) w (E a) cs
def Reads.weak{N t n:Nat}{α : Type}{E : α->List AV}{G G' : α->Prop}(h:Reads enc P w N t n E G)(hg:∀ a,G a->G' a): Reads enc P w N t n E G' :=
 ⟨h.1,h.2.1,fun f cs x hf hx=>by obtain⟨a,h1,h2⟩:=h.2.2 f cs x hf hx;exact⟨a,hg a h1,h2⟩⟩
def Reads.map{N t n:Nat}{α β : Type}{E : α->List AV}{G : α->Prop}{E' : β->List AV}{G' : β->Prop}(h:Reads enc P w N t n E G)(f : α-> β)(hE:∀ a,E' (f a)=E a)(hl:∀ b,(E' b).length=n)(hg:∀ a,G a->G' (f a)): Reads enc P w N t n E' G' :=
 ⟨h.1,hl,fun fu cs x hf hx=>by obtain⟨a,h1,h2⟩:=h.2.2 fu cs x hf hx;exact⟨f a,hg a h1,by rw[hE];exact h2⟩⟩
def Reads.int{N t:Nat}(ht:P.underlying t=some (.int .i64))(hc:P.cellsOf t=1): Reads enc P w N t 1 (fun n:Int=>[.int .i64 n]) (fun n=> -9223372036854775808<=n/\n<=9223372036854775807) :=
 ⟨hc, fun _ => rfl, fun f cs x _ hx => by
   obtain⟨n,rfl,_,wf⟩:=DataW.trod_int ht hx;exact⟨n,by simpa[Lit.wf,IntKind.min,IntKind.max,IntKind.signed,IntKind.bits]using wf,sJ.one (.int _ _)⟩⟩
def Reads.str{N t:Nat}(ht:P.underlying t=some .string)(hc:P.cellsOf t=1): Reads enc P w N t 1 (fun s:List UInt8=>[.str s]) (fun _=>True) :=
 ⟨hc, fun _ => rfl, fun f cs x _ hx => by
   obtain⟨s,rfl,_,_⟩:=DataW.trod_string ht hx;exact⟨s.data.toList,trivial,sJ.one (VR.string s)⟩⟩
def Reads.bool{N t:Nat}(ht:P.underlying t=some .bool)(hc:P.cellsOf t=1): Reads enc P w N t 1 (fun b:Bool=>[.bool b]) (fun _=>True) :=
 ⟨hc, fun _ => rfl, fun f cs x _ hx => by
   obtain⟨b,rfl,_⟩:=DataW.trod_bool ht hx;exact⟨b,trivial,sJ.one (.bool b)⟩⟩
def Reads.slice {N t e n : Nat} {α : Type} [Inhabited α] {E : α -> List AV} {G : α -> Prop} (el : El) (mk : α -> AV) (ht : P.underlying t = some (.slice e)) (hc : P.cellsOf t = 1) (h : Reads enc P w N e n E G) (KC : 0 < n) (hsz : el.sz = n)
    (hfit:∀ a,(mk a).fits el=true) (hcell:∀ a c,c<n->(mk a).cell c=(E a).getD c .undef):Reads enc P w (N+1) t 1 (fun l:List α=>[.aO false el (l.map mk)]) (fun l=> ∀ a ∈ l,G a):=by
 refine⟨hc,fun _=>rfl,fun fuel cs x hf hx=>?_⟩;rcases DataW.trod_slice ht hx with⟨rfl,rfl⟩|⟨a,len,cap,elems,rest,k,hk,rfl,_,_,hl,_,hlen,hel,_,_⟩
 ·exact⟨[],by simp,sJ.one (.iO _ _ _ _ (fun h=>by cases h))⟩
 have each:∀ i,i<len-> ∃ q : α,G q/\ ∃ cs',w.cells? 0 (a.add (i*P.cellsOf e)) (P.cellsOf e)=some cs'/\sJ (aJ.all w) w (E q) cs':=fun i hi=>by
  have h1:=hel i hi;rw[aN (by omega)]at h1;obtain⟨cs',h2,h3⟩:=fH.1 h1;obtain⟨q,h4,h5⟩:=h.2.2 k cs' _ (by omega) h3;exact⟨q,h4,cs',h2,h5⟩
 obtain⟨q,hq⟩:=Deep.choose_lt each;refine⟨(List.range len).map q,fun x hx=>by obtain⟨i,hi,rfl⟩:=cy.1 hx;exact(hq i (cY.1 hi)).1,sJ.one ?_⟩;have hn:=h.1;by_cases h0:len=0
 ·subst h0;exact .iO _ _ _ _ (fun h=>by cases h)
 have hcells:∀ i c,i<len->c<n-> ∃ v,w.cell? (a.add (i*n+c))=some v/\VR (aJ.all w) w ((E (q i)).getD c .undef) v:=fun i c hi gy=>by
  obtain⟨_,cs',h2,h3⟩:=hq i hi;rw[hn]at h2;obtain⟨_,h4,h5⟩:=World.cells?_some h2;have h6:=h5 c gy;rw[Deep.add_add,aN (by omega)]at h6;have h7:=h3.2 c (by rw[h.2.1];exact gy);rw[aj (l:=cs'),aN (by omega)]at h7;exact⟨_,h6,h7⟩
 obtain⟨v0,lg,_⟩:=hcells 0 0 (by omega) (by omega)
 have Z7:a.spot=none:=by
  have:=World.cell?_spot lg;simpa[Addr.add]using this
 obtain⟨b,off,sp⟩:=a;simp only at Z7;subst Z7
 have hlt:b<w.heap.size:=by
  rw[add_plain]at lg;simp only[World.cell?]at lg;split at lg
  ·rename_i x hx;exact(dz.1 hx).1
  ·cases lg
 have nx:∀ i,i<len->(((List.range len).map q).map mk).getD i .undef=mk (q i):=fun i hi=>by
  simp[aj,hi]
 have:=VR.aO (g:=aJ.all w) (w:=w) false el (((List.range len).map q).map mk) b off cap hlt (fun h=>by cases h) (by simpa using hl)
  (fun i hi=>by rw[nx i (by simpa using hi)];exact hfit _)
  (fun i c hi gy => by
    obtain⟨v,hv,_⟩:=hcells i c (by simpa using hi) (by omega);rw[add_plain]at hv;rw[hsz,hv];rfl)
  (fun i c hi gy => by
    obtain⟨v,hv,hr⟩:=hcells i c (by simpa using hi) (by omega);rw[add_plain]at hv;rw[nx i (by simpa using hi),dD,hsz,hv,hcell _ _ (by omega)];exact hr)
 simpa using this
def wQ(enc:TypeId × Value->H)(P:Program)(w:World)(N:Nat)(fs:List Field)(o:Nat){α : Type}(E : α->List AV)(G : α->Prop): Prop :=
 ∀ (cs : List Value) (fuel : Nat) (ys : List (DataW H × List MemPlace)), fuel <= N -> (∀ (i : Nat) (f : Field), fs[i]? = some f -> DataW.trod enc P w 0 (fun _ => true) true fuel f.type ((cs.drop f.offset).take (P.cellsOf f.type)) = ys[i]?) -> ys.length = fs.length ->
   ∃ a,G a/\sJ (aJ.all w) w (E a) ((cs.drop o).take (E a).length)
def wQ.nil{N o:Nat}: wQ enc P w N [] o (fun _:Unit=>[]) (fun _=>True):=fun cs fuel ys _ _ _=>⟨(),trivial,by simpa using sJ.nil _ _⟩
def wQ.cons {N o n : Nat} {f : Field} {fs : List Field} {α β : Type} {E : α -> List AV} {G : α -> Prop} {E' : β -> List AV} {G' : β -> Prop} (h : Reads enc P w N f.type n E G) (ho : f.offset = o) (hk : wQ enc P w N fs (o + n) E' G') :
    wQ enc P w N (f::fs) o (fun p : α × β=>E p.1++E' p.2) (fun p=>G p.1/\G' p.2):=by
 intro cs fuel ys hf hx hl;cases ys with
 | nil=>simp at hl
 | cons y ys =>
   have h0:=hx 0 f rfl;rw[ho,h.1]at h0;obtain⟨a,g1,v1⟩:=h.2.2 fuel _ _ hf (by simpa using h0);obtain⟨b,g2,v2⟩:=hk cs fuel ys hf (fun i f' vS=>by have:=hx (i+1) f' (by simpa using vS);simpa using this) (by simpa using hl);refine⟨(a,b),⟨g1,g2⟩,?_⟩;have:=v1.app v2;have hlen:=h.2.1 a
   have e:(cs.drop o).take n++(cs.drop (o+n)).take (E' b).length=(cs.drop o).take (E a++E' b).length:=by
    rw[aA,hlen,List.take_add,List.drop_drop]
   rwa[e]at this
def Reads.struct{N t n:Nat}{fs:Array Field}{α : Type}{E : α->List AV}{G : α->Prop}(ht:P.underlying t=some (.struct fs))(hc:P.cellsOf t=n)(hE:∀ a,(E a).length=n)(h:wQ enc P w N fs.toList 0 E G): Reads enc P w (N+1) t n E G:=by
 refine⟨hc,hE,fun fuel cs x hf hx=>?_⟩;obtain⟨xs,k,hk,_,hlen,hxl,xX⟩:=DataW.trod_struct ht hx;obtain⟨a,g,v⟩:=h cs k xs (by omega) (fun i f hf=>xX i f (by simpa using hf)) (by simpa using hxl);refine⟨a,g,?_⟩;rw[hE,List.drop_zero,bp (by omega)]at v;exact v
def Reads.deep{t n:Nat}{α : Type}{E : α->List AV}{G : α->Prop}(h:∀ N,Reads enc P w N t n E G){v:Value}{d:DataW H}{ps:List MemPlace}(hd:DataW.Trod enc P w 0 (fun _=>true) true t v d ps): ∃ a,G a/\sJ (aJ.all w) w (E a) v.cells.toList:=by
 obtain⟨f,hf⟩:=hd;exact(h f).2.2 f _ _ (Nat.le_refl _) hf
end
