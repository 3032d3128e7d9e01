/- Part. -/
import Derived.Test.YtoldfccfpameeaaGreatDoorV15
import Derived.WalkKit
import Derived.ProofKit
import Derived.OpenShut
import Derived.ReadAgain
import Derived.Deep.SlicePairs
import Derived.Test.YtoldfccfpameeaaGreatDoorRows
import Derived.SevenTiedAt
import Derived.LaidLaws
import Derived.LaidHandle
import Derived.Lib.LaidTab
set_option linter.all false
set_option maxHeartbeats 4000000
namespace Go.Proofs.YtoldfccfpameeaaGreatDoor
open Go.AM
set_option maxRecDepth 4000
section
@[go_sem] def amG (sz off n : Nat) (cs : List AV) (K : AV -> Prop) (h : ¬(off = 0 /\ n = sz)) : tC false ⟨true, sz⟩ (.agg cs) off true n (.mk : Tg K) = req (off + n <= sz) (.mk : Tg (K (.agg ((cs.drop off).take n)))) := by
  refine afw _ _ _ _ _ ?_;rw[Bool.eq_false_iff];intro hh;simp at hh;exact h hh
end
def AL(l:List Act): AV:= .aS false EA (l.map zw)
def TQ(a:Act): (zw a).dy=true:=by simp[zw,TP,AV.dy,AV.cE,j7,rZ]
def Bv(a:Act): Bool:=w6 a.table && decide (a.name.length<=300) && (decide (a.row.length<=12) && a.row.all rI)
def GN(l:List Act): Bool:=decide (l.length<=30) && l.all Bv
def abM(l:List Act): aQ aI 6 [AL l] (.bool (GN l)):=by
 unfold AL;obtain⟨E,hE⟩:=cq (GN l);rw[hE];unfold GN at hE;refine aY Hy ?_ (by simp[AV.dy,AV.cE,fN _ _ TQ]);intro Q aJ aK aL;repeat' first|refine aC ?_|refine aB ?_ ?_<;>intro hw<;>try omega|fail
 ·rw[cI ae,gP]at hE;subst hE;exact a_ rfl rfl
 with_reducible refine bG [2,2,7,31] (fun i:Nat=>[(3,I i)]) (fun _=>[]) (fun i=>i<=l.length/\ ∀ k,k<i->Bv (l.getD k default)=true) (fun i=>l.length-i) (0) ?_ ?_ ?_ ?_
 ·exact⟨ae,fun k h=>absurd h (c9 _)⟩
 ·rfl
 ·exact at_
 rintro i r ⟨hi,hall⟩;try dsimp only at hi
 by_cases mg:i<l.length
 ·have c1:=UN (l.getD i default).table;have c2:=abn (l.getD i default).row;have hg:(l.map zw).getD i .undef=zw (l.getD i default):=getD_map _ _ _ mg;have hf:Bv (l.getD i default)=(w6 (l.getD i default).table && decide ((l.getD i default).name.length<=300) && (decide ((l.getD i default).row.length<=12) && (l.getD i default).row.all rI)):=rfl;have hmem:=bx mg;generalize ha:l.getD i default=a at *;generalize w6 a.table=b1 at *;generalize (decide (a.row.length<=12) && a.row.all rI)=b2 at *;simp only[dP,fU,b_,eL,br]at c1 c2;simp only[zw,TP,b_,eL,br]at hg;cases b1<;>cases b2
  ·repeat' first|refine cB hg ?_|refine aC ?_|refine aB ?_ ?_<;>intro hw<;>try omega|fail
   all_goals (
    have hx:l.all Bv=false:=by
     rw[g_];exact⟨a,hmem,by rw[hf];simp;try omega⟩
    rw[hx,iI]at hE;subst hE;exact a_ rfl rfl)
  ·repeat' first|refine cB hg ?_|refine aC ?_|refine aB ?_ ?_<;>intro hw<;>try omega|fail
   all_goals (
    have hx:l.all Bv=false:=by
     rw[g_];exact⟨a,hmem,by rw[hf];simp;try omega⟩
    rw[hx,iI]at hE;subst hE;exact a_ rfl rfl)
  ·repeat' first|refine cB hg ?_|refine aC ?_|refine aB ?_ ?_<;>intro hw<;>try omega|fail
   all_goals (
    have hx:l.all Bv=false:=by
     rw[g_];exact⟨a,hmem,by rw[hf];simp;try omega⟩
    rw[hx,iI]at hE;subst hE;exact a_ rfl rfl)
  repeat' first|refine cB hg ?_|refine aC ?_|refine aB ?_ ?_<;>intro hw<;>try omega|fail
  ·refine⟨i+1,?_,?_,?_,c8,?_⟩
   ·refine⟨Nat.succ_le_of_lt mg,fun k hk=>?_⟩;by_cases e:k=i
    ·rw[e,ha,hf];simp;omega
    exact hall k ae
   ·try dsimp only
    omega
   ·rfl
   exact at_
  have hx:l.all Bv=false:=by
   rw[g_];exact⟨a,hmem,by rw[hf];simp;omega⟩
  rw[hx,iI]at hE;subst hE;exact a_ rfl rfl
 obtain rfl:i=l.length:=ae
 have hx:l.all Bv=true:=by
  rw[aZ];intro a ha;obtain⟨k,hk,rfl⟩:=bP ha;have:=hall k hk;rw[show l.getD k default=l[k] by simp[aq,hk]]at this;exact this
 rw[hx,bN ae,Bool.and_self]at hE;subst hE;repeat' first|refine aC ?_|refine aB ?_ ?_<;>intro hw<;>try omega|fail
 exact a_ rfl rfl
def strings_Repeat(s:List UInt8)(m:Nat)(h1:m<=1000000)(h2:s.length*m<=1000000): aQ aI 55 [.str s,.int .i64 m] (.str (Lib.repeatL s m)):=by
 refine nx ⟨_,Tryz.func55,iQ,iQ⟩ fun g w σ vs hR hl hv=>?_;have h3:=hv 0 aR;have h4:=hv 1 aR;rw[Ll hl];generalize vs.getD 0 Go.undef=v at h3;generalize vs.getD 1 Go.undef=u at h4;simp only[de,ie]at h3 h4;cases h3;cases h4;refine⟨.string ⟨(Lib.repeatL s m).toArray⟩,fun g' w'=>VR.str _,(Tryz.strings_Repeat ⟨s.toArray⟩ m w ae (by show s.toArray.size*m<=_;rw[List.size_toArray];omega)).mono ?_⟩;rintro e w' ⟨rfl,h⟩;refine⟨?_,h.os,h.tape,h.output,h.size,h.block⟩;simp
noncomputable def z32:aT:=List.replicate 32 0
def Va: aQ aI 30 [] (.agg [I 0,I 0,.str z32,.str z32]):=by
 have h1:=strings_Repeat [0] 32 ae aR;rw[show Lib.repeatL [(0:UInt8)] 32=z32 from rfl]at h1;obtain⟨E,hE⟩:=cq z32;rw[hE]at h1 ⊢;refine aY MC ?_;intro Q aJ aK aL;repeat' first|refine aC ?_|refine aB ?_ ?_<;>intro hw<;>try omega|fail
 all_goals exact a_ rfl rfl
def abN(S:ai): cK aI 8 [] S (fun o S'=>o = .ret (.ref (S.length+1) 0)/\S'=S++[.map [],.cells [.mp S.length,I 0,I 0,.str z32,.str z32,.aS false ⟨true,6⟩ []]]):=by
 have h0:cK aI 8 [] S (fun o S'=>o = .ret (.ref (S.length+1) 0)/\S'=S++[.map [],.cells [.mp S.length,I 0,I 0,.str z32,.str z32,.aU]]):=by
  have h1:=Va;refine RP.go ?_;unfold dO;intro Q aJ aK aL;repeat' first|refine aC ?_|refine aB ?_ ?_<;>intro hw<;>try omega|fail
  refine G5 ⟨trivial,rfl,by show 5<=6;omega⟩ fun _=>?_;repeat' first|refine aC ?_|refine aB ?_ ?_<;>intro hw<;>try omega|fail
  refine G5 rfl fun _=>?_;repeat' first|refine aC ?_|refine aB ?_ ?_<;>intro hw<;>try omega|fail
  rw[aV];exact⟨by simp[oneOf],rfl⟩
 have h2:=h0.amE (p:=S.length+1) (j:=5) (cs:=[.mp S.length,I 0,I 0,.str z32,.str z32,.aU]) (el:=⟨true,6⟩) aR aR rfl;refine h2.mono ?_;rintro o S' ⟨rfl,rfl⟩;exact⟨rfl,aR⟩
noncomputable def mA:Mo:=⟨[],⟨0,0,z32,z32⟩,[]⟩
def GO: nj mA/\qG 0 mA:=by
 refine⟨⟨⟨by simp[mA],by simp[mA],fun p hp=>(by cases hp),⟨by simp[mA],by simp[mA],by simp[mA],by simp[mA,z32],by simp[mA,z32],fun _=>rfl⟩,by simp[mA],by simp[mA],fun e he=>(by cases he)⟩,⟨by simp[mA,gE],rfl⟩,by simp[mA],fun e he=>(by cases he)⟩,⟨by simp[mA],fun p hp=>(by cases hp),by simp[mA],by simp[mA]⟩⟩
def aeZ(S:ai): cK aI 8 [] S (fun o S'=>o = .ret (.ref (S.length+1) 0)/\lj S' (S.length+1) S.length mA/\fT S S'):=by
 refine(abN S).mono ?_;rintro o S' ⟨rfl,rfl⟩;refine⟨rfl,⟨?_,?_⟩,fT.app _ _⟩
 ·rw[nH];rfl
 rw[nS];rfl
def TR: Table:=⟨[116],[⟨[97],1,[]⟩],[⟨[111],1,[]⟩],2,0,[⟨[[60,53]],[[97,32,43,32,49]]⟩]⟩
def Cw: Table:=⟨[116],[⟨[97],1,[]⟩],[⟨[111],1,[]⟩],2,0,[⟨[[60,32,53]],[[97,32,43,32,49]]⟩]⟩
def nV(n:Int): aW:=⟨1,n,[]⟩
def GP: iY:=⟨[116],1,[nV 1],0,[0],[[nV 2]]⟩
def u9: iY:=⟨[116],1,[nV 2],0,[0],[[nV 3]]⟩
def abO: fW TR=(Cw,0,0,0):=iQ
def abP: (mT Cw).2=0:=iQ
def abQ: mU Cw 1 [nV 1]=(GP,0):=iQ
def abR: mU Cw 1 [nV 2]=(u9,0):=iQ
def Pt: (gV GP).2=0:=iQ
def Pu: (gV u9).2=0:=iQ
def TT: jV TR:=by
 refine⟨da,⟨da,fun c hc=>?_⟩,⟨da,fun c hc=>?_⟩,da,fun r hr=>?_⟩
 ·obtain rfl:=List.mem_singleton.1 hc;exact⟨da,da,fun v hv=>by cases hv⟩
 ·obtain rfl:=List.mem_singleton.1 hc;exact⟨da,da,fun v hv=>by cases hv⟩
 obtain rfl:=eC.1 hr;exact⟨⟨da,fun s hs=>by obtain rfl:=eC.1 hs;decide⟩,da,fun s hs=>by obtain rfl:=eC.1 hs;decide⟩
def ae0{n:Int}(h:pC n): mM [nV n]:=⟨by show 1<=2 ^ 30;omega,fun w hw=>by obtain rfl:=eC.1 hw;exact⟨h,by show 0<=2 ^ 30;omega⟩⟩
def Qq: aQ aI 27 [] (dP TR):=by
 obtain⟨E,hE⟩:=cq (dP TR);rw[hE];refine aY Jh ?_;intro Q aJ aK aL;repeat' first|refine aC ?_|refine aB ?_ ?_<;>intro hw<;>try omega|fail
 rw[<-hE];refine zZ ?_;have v1:∀ σ s (k:Int),View σ (.agg [.str s,I k,.aU]) (dU ⟨s,k,[]⟩):=fun σ s k=>View.nO (.cons (.refl _ rfl) (.cons (.refl _ rfl) (.cons (.aU _) (.nil _))));have v2:∀ σ s,View σ (.aS true E1 [.str s]) (jL [s]):=fun σ s=> .weak _ _ _ rfl;exact View.nO (.cons (.refl _ rfl) (.cons (View.Mw (.cons (v1 _ _ _) (.nil _))) (.cons (View.Mw (.cons (v1 _ _ _) (.nil _))) (.cons (.refl _ rfl) (.cons (.refl _ rfl) (.cons (View.Mw (.cons (View.nO (.cons (v2 _ _) (.cons (v2 _ _) (.nil _)))) (.nil _))) (.nil _)))))))
def Pv(n:Int): aQ aI 29 [I n] (br [nV n]):=by
 refine aY RI ?_;intro Q aJ aK aL;repeat' first|refine aC ?_|refine aB ?_ ?_<;>intro hw<;>try omega|fail
 exact⟨_,rfl,.weak _ _ _ rfl⟩
def agu: uZ mA TR=(⟨[([116],[Cw])],mA.mark,[]⟩,1,0):=by
 unfold uZ;rw[abO];dsimp only;rw[aj da,aj (by rw[abP];decide)];rfl
def agv{mk:Mk}{es:List iY}(v:Int)(hv:v=0\/v=1): iD ⟨[([116],[Cw])],mk,es⟩ [116] v=(Cw,1,0):=by
 rcases hv with rfl|rfl<;>rfl
def WN{mk:Mk}{es:List iY}{v n:Int}{x:iY}(hv:v=0\/v=1)(hx:mU Cw 1 [nV n]=(x,0))(hb:(gV x).2=0): ni ⟨[([116],[Cw])],mk,es⟩ [116] v [nV n]=(⟨[([116],[Cw])],kA mk (gV x).1,es++[x]⟩,x,mk.count,0):=by
 unfold ni;rw[agv v hv];dsimp only;rw[hx];dsimp only;rw[aj da,aj da,aj (by rw[hb];decide)]
def Y9(m:Mk)(s:aT): (kA m s).count=m.count+1:=rfl
def abS(m:Mk)(s:aT): (kA m s).base=m.base:=rfl
def aer {S : ai} {p q : Nat} {m : Mo} (h : lj S p q m) (ok : nj m) (s : aT) (hs : s.length <= 300) (v : Int) (row : List aW) (hrow : mM row) :
    cK aI 28 [.ref p 0,.str s,I v,br row] S (fun o S'=>(∃ r0,o = .ret (.bR [r0,I (ni m s v row).2.2.1,I (ni m s v row).2.2.2])/\((ni m s v row).2.2.2=0->r0=iU (ni m s v row).2.1))/\lj S' p q (ni m s v row).1/\qO p q S S') :=
 GL h ok.Eo (by have:=ok.ct;omega) s ae v (by have:=ok.toY7.len s;omega) row hrow (fun e=>yA ok.toY7 e) (fun x hx=>qD hx) (fun e=>L6 (yA ok.toY7 e) _ hrow) (by have:=ok.en;omega)
def abT {S : ai} {p q : Nat} {m : Mo} (h : lj S p q m) (ok : nj m) (k : Int) :
    cK aI 19 [.ref p 0,I k] S (fun o S'=>o = .ret (I (qP m k).2)/\lj S' p q (qP m k).1/\qO p q S S') :=
 En h ok.Eo ok.st ok.ee (fun e he=>qD (ok.be e he)) (by have:=ok.en;omega) k
def vw: List (aT × List Table):=[([116],[Cw])]
def ae1 {S : ai} {p q : Nat} {mk : Mk} {es : List iY} {v n : Int} {x : iY} (hv : v = 0 \/ v = 1) (hx : mU Cw 1 [nV n] = (x, 0)) (hb : (gV x).2 = 0) (h : lj S p q ⟨vw, mk, es⟩) (ok : nj ⟨vw, mk, es⟩) (hrow : mM [nV n]) :
    cK aI 28 [.ref p 0,.str [116],I v,br [nV n]] S (fun o S'=>o = .ret (.bR [iU x,I mk.count,I 0])/\lj S' p q ⟨vw,kA mk (gV x).1,es++[x]⟩/\qO p q S S'):=by
 have hD:=aer h ok [116] (by show 1<=300;omega) v [nV n] hrow;have d1:ni ⟨vw,mk,es⟩ [116] v [nV n]=_:=WN hv hx hb;rw[d1]at hD;refine hD.mono fun o S' hh=>?_;have h1:=And.left hh;have h2:=And.right hh;refine And.intro ?_ h2;exact Exists.elim h1 fun r0 e=>by rw[And.left e,And.right e rfl]
def aiE{k:Nat}{mk:Mk}{es:List iY}{v n:Int}{x:iY}(hk:k<=900)(hv:v=0\/v=1)(hx:mU Cw 1 [nV n]=(x,0))(hb:(gV x).2=0)(ok:nj ⟨vw,mk,es⟩)(b:qG k ⟨vw,mk,es⟩)(hrow:mM [nV n]): nj ⟨vw,kA mk (gV x).1,es++[x]⟩/\qG (k+1) ⟨vw,kA mk (gV x).1,es++[x]⟩:=by
 have h:=WL ok b hk [116] v [nV n] hrow;have d1:ni ⟨vw,mk,es⟩ [116] v [nV n]=_:=WN hv hx hb;rw[d1]at h;exact h
def aes{mk:Mk}(hb:mk.base=0)(hc:mk.count=2): qP ⟨vw,mk,[GP,u9]⟩ 1=(⟨vw,uY mk (gE [GP,u9]) 1,[u9]⟩,0):=by
 unfold qP;dsimp only;rw[au (And.intro ae ae),hb];rfl
def aj5 {S : ai} {p q : Nat} {mk : Mk} {k : Nat} (hb : mk.base = 0) (hc : mk.count = 2) (h : lj S p q ⟨vw, mk, [GP, u9]⟩) (ok : nj ⟨vw, mk, [GP, u9]⟩) (b : qG k ⟨vw, mk, [GP, u9]⟩) :
    cK aI 19 [.ref p 0,I 1] S (fun o S'=>o = .ret (I 0)/\(lj S' p q ⟨vw,uY mk (gE [GP,u9]) 1,[u9]⟩/\nj ⟨vw,uY mk (gE [GP,u9]) 1,[u9]⟩)/\qO p q S S'):=by
 have h1:=abT h ok 1;have h2:=And.left (J4 ok b 1);rw[aes hb hc]at h1 h2;exact h1.mono fun o S' hh=>⟨hh.1,⟨hh.2.1,h2⟩,hh.2.2⟩
def aj6{S:ai}{p q:Nat}{mk:Mk}{l:List aT}(hc:mk.count=2)(h:lj S p q ⟨vw,uY mk l 1,[u9]⟩)(ok:nj ⟨vw,uY mk l 1,[u9]⟩): kK aI 11 [.ref p 0,I 1,I 9] S (.bR [kX [u9],I 0]):=by
 have h1:=Pq h ok.Eo ok.el (by have:=ok.en;omega) 1 9 (by show(1:Int)<=1;omega) (by show(1:Int)<=mk.count;omega) ae;exact h1
def aeu(a b:aT): (kA (kA mA.mark a) b).base=0:=rfl
def Pw(a b:aT): (kA (kA mA.mark a) b).count=2:=rfl
def aev(h:oA u9): aQ aI 20 [kX [u9],kX [u9]] (.bool true):=GM [u9] (fun e he=>by obtain rfl:=eC.1 he;exact h) (by show 1<=2 ^ 60;omega)
attribute [local irreducible] gV Bu kA sn ni
def Vb: aQ aI 7 [] (.bool true):=by
 have c1:=Qq;have n1:=Pv 1;have n2:=Pv 2;have aiF:mM [nV 1]:=ae0 (by unfold pC;omega);have aiG:mM [nV 2]:=ae0 (by unfold pC;omega);have an7:([116]:aT).length<=300:=by show 1<=300;omega
 refine aY MH ?_;intro Q aJ aK aL;repeat' first|refine aC ?_|refine aB ?_ ?_<;>intro hw<;>try omega|fail
 refine bS (aeZ _) ?_;rintro o S1 ⟨rfl,h1,_⟩;generalize ([]:ai).length+1=p at *;generalize ([]:ai).length=q at *;repeat' first|refine aC ?_|refine aB ?_ ?_<;>intro hw<;>try omega|fail
 refine bS (Em h1 TR TT (J3 TT) (fun s=>by have:=GO.2.get s;omega)) ?_;obtain⟨ok1,b1⟩:=WM GO.1 GO.2 ae TR TT;rw[agu]at ok1 b1 ⊢;rintro o S2 ⟨rfl,h2,_⟩;dsimp only at h2 ok1 b1;repeat' first|refine aC ?_|refine aB ?_ ?_<;>intro hw<;>try omega|fail
 have hI:=aiE (v:=0) ae (.inl rfl) abQ Pt ok1 b1 aiF;refine bS (ae1 (.inl rfl) abQ Pt h2 ok1 aiF) ?_;refine fun o S3 hh=>?_;have eo:=And.left hh;have h3:=And.left (And.right hh);subst eo;clear hh;have ok2:=And.left hI;have b2:=And.right hI;clear hI;have hct:=Y9 mA.mark (gV GP).1;have eF:=abS mA.mark (gV GP).1;repeat' first|refine aC ?_|refine aB ?_ ?_<;>intro hw<;>try omega|fail
 have hk3:=fun T=>h3.keep (fT.app S3 T);have Z1:=aiE (v:=1) ae (.inr rfl) abR Pu ok2 b2 aiG;refine bS (ae1 (.inr rfl) abR Pu (hk3 _) ok2 aiG) ?_;refine fun o S4 hh=>?_;have eo:=And.left hh;have h4:=And.left (And.right hh);have kb4:=And.right (And.right hh);subst eo;clear hh;have ok3:=And.left Z1;have b3:=And.right Z1;clear Z1;have amH:=(aE.1 h4.hp).1;have amI:=(aE.1 h4.hq).1;have hk4:=fun T=>h4.keep (fT.app S4 T);repeat' first|refine aC ?_|refine aB ?_ ?_<;>intro hw<;>try omega|fail
 refine bS (aj5 (aeu _ _) (Pw _ _) (hk4 _) ok3 b3) ?_;refine fun o S5 hh=>?_;have eo:=And.left hh;have h5:=And.left (And.left (And.right hh));have ok5:=And.right (And.left (And.right hh));have kb5:=And.right (And.right hh);subst eo;clear hh;have hx5:=kb5 S4.length _ (nS S4 _) ae ae;have g1:=aj6 (Pw _ _) h5 ok5;have e1:=aev (ok5.ee _ (eC.2 rfl));clear h5 ok5 h4 ok3 b3 kb5 hk4 amH amI h3 hk3 ok2 b2;generalize S4.length=px at *;unfold kX at g1 e1;repeat' first|refine cB hx5 ?_|refine aC ?_|refine Ab e1 ?_|with_reducible refine jx g1 ?_|refine aB ?_ ?_<;>intro hw<;>try omega|fail
 ·exact a_ rfl rfl
 exact absurd (show mA.mark.count=0 from rfl) (by assumption)
def lj.lt{S:ai}{p q:Nat}{m:Mo}(h:lj S p q m): p<S.length/\q<S.length:=⟨(aE.1 h.hp).1,(aE.1 h.hq).1⟩
def Nz(a:Act): Prop:=Jb a.table/\ ∀ v ∈ a.row,SR v
def abU{a:Act}(h:Bv a=true)(hr:Nz a): Mc a:=by
 simp only[Bv,aD,aM,aZ]at h;obtain⟨⟨h1,h2⟩,h3,h4⟩:=h;refine⟨adp h1 hr.1,h2,JV ⟨ae,fun v hv=>⟨hr.2 v hv,?_⟩⟩⟩;have:=h4 v hv;simp only[rI,aM]at this;omega
def aiH{l:List Act}(hr:∀ a ∈ l,Nz a)(h:GN l=true): ∀ a ∈ l,Mc a:=fun a ha=>by
 simp only[GN,aD,aM,aZ]at h;exact abU (h.2 a ha) (hr a ha)
end Go.Proofs.YtoldfccfpameeaaGreatDoor
namespace Go.AM
open Go.ChangeShapes Go.WideShapes
section
variable {H:Type} {enc:TypeId × Value->H} {P:Program} {w w':World} {base:Nat} {spare:Nat->Bool} {held:Bool}
def vx: ∀ {ts:List TypeId} {vs:List Value} {ds:List (DataW H)} {ps:List MemPlace},DataW.TrodAll enc P w base spare held ts vs ds ps->(∀ p ∈ ps,w.sameAt w' p)->DataW.TrodAll enc P w' base spare held ts vs ds ps
 | [],[],[],_,h,_=>h
 | _::_,_::_,_::_,_,⟨p,q,⟨n,hn⟩,h2,e⟩,hs=>⟨p,q,⟨n,DataW.trod_carry n _ _ _ hn (fun x hx=>hs x (by rw[e];exact eK _ hx))⟩,vx h2 (fun x hx=>hs x (by rw[e];exact fG _ hx)),e⟩
def Md{may:MemPlace->Prop}(h1:w'.os=w.os)(h2:w'.output=w.output)(h3:∀ b,b<w.heap.size->w'.heap[b]? = w.heap[b]?): w.keptBut w' may:=by
 refine⟨h1,h2,fun i hi=>?_⟩;rw[h3 i hi];split
 ·rename_i a b ha hb;rw[ha]at hb;cases Option.some.inj hb;exact⟨rfl,rfl,rfl,fun _ _=>rfl⟩
 ·rename_i a b ha hb;rw[ha]at hb;cases Option.some.inj hb;exact .inr ⟨rfl,rfl⟩
 rfl
def NA(h3:∀ b,b<w.heap.size->w'.heap[b]? = w.heap[b]?){p:MemPlace}(hp:p.block<w.heap.size): w.sameAt w' p:=by
 cases p with
 | cell b off=>exact nP (h3 b hp) off none
 | map b=>exact h3 b hp
def aN.all(w:World): aN:=aN.bare (· < w.heap.size)
def Px {f : FuncId} {fn : Func} {s : ChangeSpec} {t : TypeId} {args' : List AV} {W : World} {args : Array Value} {ds gs : List (DataW H)} {before : List MemPlace}
    (h:aQ P f args' (.bool true)) (hW:DataW.Whole enc P fn.params.toList s.vars false W args.toList ds gs before) (hG:xS (aN.all W) W)
    (K:Kids P (· < P.types.size)) (hz:∀ t e,t<P.types.size->P.underlying t=some (.slice e)->0<P.cellsOf e) (hps:∀ t ∈ fn.params.toList,t<P.types.size)
    (hvars:s.vars=[]) (hrt:fn.resultTypes = #[t]) (ht:P.underlying t=some .bool) (hfn:s.fn H (ds++gs) = { results:=[.lit (.bool true)],args:=ds,vars:=[] })
    (hl:args'.length=args.size) (hv:∀ i,i<args'.length->VR (aN.all W) W (args'.getD i .undef) (args.getD i Go.undef)) :
    Calls P f args W fun e W'=> ∃ v,e = .returned v/\s.post enc P fn false true false false W args v W':=by
 refine((h []).2 (aN.all W) W args (Rel.bare (fun _ h=>h) hG) hl hv).mono ?_;rintro e W' ⟨out,g',σ',hR,hE,hO,rfl,rfl⟩;have hfr:∀ b,b<W.heap.size->W'.heap[b]? = W.heap[b]?:=fun b hb=>hE.frame b hb jn;cases e with
 | panicked c=>exact hO.elim
 | outgrown=>exact hO.elim
 | returned v =>
   have hb:v = .bool true:=by cases hO;rfl
   subst hb;refine⟨_,rfl,ds,gs,before,[],before,[],hW,?_,?_,?_,Md hE.os hE.output hfr,fun h=>by cases h⟩
   ·rw[hfn,hrt];exact trodAll_mk1 (RowKit.shut_bool ht true)
   ·rw[hfn];have hlt:=hW.lt;obtain⟨p,q,h1,h2,rfl,_,_⟩:=hW;rw[hvars]at h2;obtain⟨rfl,rfl⟩:=trodVars_none h2;rw[bW]at hlt ⊢;refine vx (DataW.TrodAll.respare K hz hps h1 (fun x hx=>by simpa using hlt x hx)) (fun x hx=>NA hfr (hlt x hx))
   rw[hfn,hvars];rfl
def VR.string{g:aN}{w:World}(s:ByteArray): VR g w (.str s.data.toList) (.string s):=VR.str s.data.toList
end
def uj(g:aN)(w:World)(az:List AV)(vs:List Value): Prop:=az.length=vs.length/\ ∀ i,i<az.length->VR g w (az.getD i .undef) (vs.getD i Go.undef)
def uj.nil(g:aN)(w:World): uj g w [] []:=⟨rfl,fun i hi=>by cases hi⟩
def uj.app{g:aN}{w:World}{a b:List AV}{x y:List Value}(h:uj g w a x)(k:uj g w b y): uj g w (a++b) (x++y):=by
 have h1:=h.1;refine⟨by simp[h.1,k.1],fun i hi=>?_⟩;rw[aA]at hi;by_cases hl:i<a.length
 ·have:=h.2 i hl;rw[aq,aq]at this ⊢;rw[aH hl,aH ae];exact this
 have:=k.2 (i-a.length) ae;rw[aq,aq]at this ⊢;rw[bq ae,bq ae,<-h1];exact this
def uj.one{g:aN}{w:World}{a:AV}{x:Value}(h:VR g w a x): uj g w [a] [x]:=⟨rfl,fun i hi=>by
 match i,hi with
 | 0,_=>exact h⟩
def uj.agg{g:aN}{w:World}{az:List AV}{vs:Array Value}(h:uj g w az vs.toList)(hs:az.all AV.scalar=true): VR g w (.agg az) (.agg vs):=by
 refine .agg az vs (by simpa using h.1) hs (fun i hi=>?_);have:=h.2 i hi;simpa[aq,eW]using this
section
variable {H:Type} {enc:TypeId × Value->H} {P:Program} {w:World}
def Reads(enc:TypeId × Value->H)(P:Program)(w:World)(N:Nat)(t:TypeId)(n:Nat){α : Type}(E : α->List AV)(G : α->Prop): Prop :=
 P.cellsOf t=n/\(∀ a,(E a).length=n)/\ ∀ fuel cs x,fuel<=N->DataW.trod enc P w 0 (fun _=>true) true fuel t cs=some x-> ∃ a,G a/\uj (aN.all w) w (E a) cs
def Reads.weak{N t n:Nat}{α : Type}{E : α->List AV}{G G' : α->Prop}(h:Reads enc P w N t n E G)(hg:∀ a,G a->G' a): Reads enc P w N t n E G' :=
 ⟨h.1,h.2.1,fun f cs x hf hx=>by obtain⟨a,h1,h2⟩:=h.2.2 f cs x hf hx;exact⟨a,hg a h1,h2⟩⟩
def Reads.map{N t n:Nat}{α β : Type}{E : α->List AV}{G : α->Prop}{E' : β->List AV}{G' : β->Prop}(h:Reads enc P w N t n E G)(f : α-> β)(hE:∀ a,E' (f a)=E a)(hl:∀ b,(E' b).length=n)(hg:∀ a,G a->G' (f a)): Reads enc P w N t n E' G' :=
 ⟨h.1,hl,fun fu cs x hf hx=>by obtain⟨a,h1,h2⟩:=h.2.2 fu cs x hf hx;exact⟨f a,hg a h1,by rw[hE];exact h2⟩⟩
def Reads.int{N t:Nat}(ht:P.underlying t=some (.int .i64))(hc:P.cellsOf t=1): Reads enc P w N t 1 (fun n:Int=>[.int .i64 n]) (fun n=> -9223372036854775808<=n/\n<=9223372036854775807) :=
 ⟨hc, fun _ => rfl, fun f cs x _ hx => by
   obtain⟨n,rfl,_,wf⟩:=DataW.trod_int ht hx;exact⟨n,by simpa[Lit.wf,IntKind.min,IntKind.max,IntKind.signed,IntKind.bits]using wf,uj.one (.int _ _)⟩⟩
def Reads.str{N t:Nat}(ht:P.underlying t=some .string)(hc:P.cellsOf t=1): Reads enc P w N t 1 (fun s:List UInt8=>[.str s]) (fun _=>True) :=
 ⟨hc, fun _ => rfl, fun f cs x _ hx => by
   obtain⟨s,rfl,_,_⟩:=DataW.trod_string ht hx;exact⟨s.data.toList,trivial,uj.one (VR.string s)⟩⟩
def Reads.bool{N t:Nat}(ht:P.underlying t=some .bool)(hc:P.cellsOf t=1): Reads enc P w N t 1 (fun b:Bool=>[.bool b]) (fun _=>True) :=
 ⟨hc, fun _ => rfl, fun f cs x _ hx => by
   obtain⟨b,rfl,_⟩:=DataW.trod_bool ht hx;exact⟨b,trivial,uj.one (.bool b)⟩⟩
def Reads.slice {N t e n : Nat} {α : Type} [Inhabited α] {E : α -> List AV} {G : α -> Prop} (el : El) (mk : α -> AV) (ht : P.underlying t = some (.slice e)) (hc : P.cellsOf t = 1) (h : Reads enc P w N e n E G) (Vq : 0 < n) (hsz : el.sz = n)
    (hfit:∀ a,(mk a).fits el=true) (hcell:∀ a c,c<n->(mk a).cell c=(E a).getD c .undef):Reads enc P w (N+1) t 1 (fun l:List α=>[.aS false el (l.map mk)]) (fun l=> ∀ a ∈ l,G a):=by
 refine⟨hc,fun _=>rfl,fun fuel cs x hf hx=>?_⟩;rcases DataW.trod_slice ht hx with⟨rfl,rfl⟩|⟨a,len,cap,elems,rest,k,hk,rfl,_,_,hl,_,hlen,hel,_,_⟩
 ·exact⟨[],aR,uj.one (.jd _ _ _ _ (fun h=>by cases h))⟩
 have each:∀ i,i<len-> ∃ q : α,G q/\ ∃ cs',w.cells? 0 (a.add (i*P.cellsOf e)) (P.cellsOf e)=some cs'/\uj (aN.all w) w (E q) cs':=fun i hi=>by
  have h1:=hel i hi;rw[aG ae]at h1;obtain⟨cs',h2,h3⟩:=gK.1 h1;obtain⟨q,h4,h5⟩:=h.2.2 k cs' _ ae h3;exact⟨q,h4,cs',h2,h5⟩
 obtain⟨q,hq⟩:=Deep.choose_lt each;refine⟨(List.range len).map q,fun x hx=>by obtain⟨i,hi,rfl⟩:=dG.1 hx;exact(hq i (eN.1 hi)).1,uj.one ?_⟩;have hn:=h.1;by_cases h0:len=0
 ·subst h0;exact .jd _ _ _ _ (fun h=>by cases h)
 have hcells:∀ i c,i<len->c<n-> ∃ v,w.cell? (a.add (i*n+c))=some v/\VR (aN.all w) w ((E (q i)).getD c .undef) v:=fun i c hi iJ=>by
  obtain⟨_,cs',h2,h3⟩:=hq i hi;rw[hn]at h2;obtain⟨_,h4,h5⟩:=World.cells?_some h2;have h6:=h5 c iJ;rw[Deep.add_add,aG ae]at h6;have h7:=h3.2 c (by rw[h.2.1];exact iJ);rw[aq (l:=cs'),aG ae]at h7;exact⟨_,h6,h7⟩
 obtain⟨v0,nk,_⟩:=hcells 0 0 ae ae
 have ae2:a.spot=none:=by
  have:=World.cell?_spot nk;simpa[Addr.add]using this
 obtain⟨b,off,sp⟩:=a;simp only at ae2;subst ae2
 have hlt:b<w.heap.size:=by
  rw[add_plain]at nk;simp only[World.cell?]at nk;split at nk
  ·rename_i x hx;exact(fL.1 hx).1
  ·cases nk
 have qE:∀ i,i<len->(((List.range len).map q).map mk).getD i .undef=mk (q i):=fun i hi=>by
  simp[aq,hi]
 have:=VR.aS (g:=aN.all w) (w:=w) false el (((List.range len).map q).map mk) b off cap hlt (fun h=>by cases h) (by simpa using hl)
  (fun i hi=>by rw[qE i (by simpa using hi)];exact hfit _)
  (fun i c hi iJ => by
    obtain⟨v,hv,_⟩:=hcells i c (by simpa using hi) ae;rw[add_plain]at hv;rw[hsz,hv];rfl)
  (fun i c hi iJ => by
    obtain⟨v,hv,hr⟩:=hcells i c (by simpa using hi) ae;rw[add_plain]at hv;rw[qE i (by simpa using hi),eT,hsz,hv,hcell _ _ ae];exact hr)
 simpa using this
def yB(enc:TypeId × Value->H)(P:Program)(w:World)(N:Nat)(fs:List Field)(o:Nat){α : Type}(E : α->List AV)(G : α->Prop): Prop :=
 ∀ (cs : List Value) (fuel : Nat) (ys : List (DataW H × List MemPlace)), fuel <= N -> (∀ (i : Nat) (f : Field), fs[i]? = some f -> DataW.trod enc P w 0 (fun _ => true) true fuel f.type ((cs.drop f.offset).take (P.cellsOf f.type)) = ys[i]?) -> ys.length = fs.length ->
   ∃ a,G a/\uj (aN.all w) w (E a) ((cs.drop o).take (E a).length)
def yB.nil{N o:Nat}: yB enc P w N [] o (fun _:Unit=>[]) (fun _=>True):=fun cs fuel ys _ _ _=>⟨(),trivial,by simpa using uj.nil _ _⟩
def yB.cons {N o n : Nat} {f : Field} {fs : List Field} {α β : Type} {E : α -> List AV} {G : α -> Prop} {E' : β -> List AV} {G' : β -> Prop} (h : Reads enc P w N f.type n E G) (ho : f.offset = o) (hk : yB enc P w N fs (o + n) E' G') :
    yB enc P w N (f::fs) o (fun p : α × β=>E p.1++E' p.2) (fun p=>G p.1/\G' p.2):=by
 intro cs fuel ys hf hx hl;cases ys with
 | nil=>simp at hl
 | cons y ys =>
   have h0:=hx 0 f rfl;rw[ho,h.1]at h0;obtain⟨a,g1,v1⟩:=h.2.2 fuel _ _ hf (by simpa using h0);obtain⟨b,g2,v2⟩:=hk cs fuel ys hf (fun i f' EZ=>by have:=hx (i+1) f' (by simpa using EZ);simpa using this) (by simpa using hl);refine⟨(a,b),⟨g1,g2⟩,?_⟩;have:=v1.app v2;have hlen:=h.2.1 a
   have e:(cs.drop o).take n++(cs.drop (o+n)).take (E' b).length=(cs.drop o).take (E a++E' b).length:=by
    rw[aA,hlen,List.take_add,List.drop_drop]
   rwa[e]at this
def Reads.struct{N t n:Nat}{fs:Array Field}{α : Type}{E : α->List AV}{G : α->Prop}(ht:P.underlying t=some (.struct fs))(hc:P.cellsOf t=n)(hE:∀ a,(E a).length=n)(h:yB enc P w N fs.toList 0 E G): Reads enc P w (N+1) t n E G:=by
 refine⟨hc,hE,fun fuel cs x hf hx=>?_⟩;obtain⟨xs,k,hk,_,hlen,hxl,hfs⟩:=DataW.trod_struct ht hx;obtain⟨a,g,v⟩:=h cs k xs ae (fun i f hf=>hfs i f (by simpa using hf)) (by simpa using hxl);refine⟨a,g,?_⟩;rw[hE,eU,bH ae]at v;exact v
def Reads.deep{t n:Nat}{α : Type}{E : α->List AV}{G : α->Prop}(h:∀ N,Reads enc P w N t n E G){v:Value}{d:DataW H}{ps:List MemPlace}(hd:DataW.Trod enc P w 0 (fun _=>true) true t v d ps): ∃ a,G a/\uj (aN.all w) w (E a) v.cells.toList:=by
 obtain⟨f,hf⟩:=hd;exact(h f).2.2 f _ _ (bf _) hf
end
end Go.AM
namespace Go.Proofs.YtoldfccfpameeaaGreatDoor
open Go.AM
set_option maxRecDepth 8000
section
variable {H:Type} {enc:TypeId × Value->H} {w:World}
abbrev aew(n:Int): Prop:=pC n
abbrev RD(enc:TypeId × Value->H)(w:World)(N:Nat)(t:TypeId)(n:Nat){α : Type}(E : α->List AV)(G : α->Prop): Prop:=Reads enc Tryz.prog w N t n E G
def Me(N:Nat){t:TypeId}(ht:Tryz.prog.underlying t=some (.int .i64))(hc:Tryz.prog.cellsOf t=1): RD enc w N t 1 (fun n:Int=>[I n]) aew:=Reads.int ht hc
def GQ(N:Nat): RD enc w N 9 1 (fun s:aT=>[.str s]) (fun _=>True):=Reads.str Tryz.underlying9 iQ
def WO(N:Nat): RD enc w N 108 1 (fun n:Int=>[I n]) aew:=Me N Tryz.underlying108 iQ
def GR(N:Nat): RD enc w N 3 1 (fun n:Int=>[I n]) aew:=Me N Tryz.underlying3 iQ
def amJ(v:aW): List AV:=[I v.kind,I v.n,.str v.s]
def rd_val(N:Nat): RD enc w (N+1) 110 3 amJ SR:=by
 have h:=Reads.struct (enc:=enc) (w:=w) (N:=N) (n:=3) Tryz.underlying110 iQ (fun _=>rfl) (.cons (WO N) rfl (.cons (GR N) rfl (.cons (GQ N) rfl .nil)));exact h.map (fun p=>⟨p.1,p.2.1,p.2.2.1⟩) (fun _=>rfl) (fun _=>rfl) (fun p h=>h.2.1)
def WQ(N:Nat): RD enc w (N+2) 35 1 (fun l:List aW=>[br l]) (fun l=> ∀ v ∈ l,SR v) :=
 Reads.slice EV cR Tryz.underlying35 iQ (rd_val N) da rfl (fun _=>rfl) (fun _ _ _=>rfl)
def amK(c:cJ): List AV:=[.str c.name,I c.kind,br c.order]
def aiI(N:Nat): RD enc w (N+3) 115 3 amK (fun c=> ∀ v ∈ c.order,SR v):=by
 have h:=Reads.struct (enc:=enc) (w:=w) (N:=N+2) (n:=3) Tryz.underlying115 iQ (fun _=>rfl) (.cons (GQ _) rfl (.cons (WO _) rfl (.cons (WQ N) rfl .nil)));exact h.map (fun p=>⟨p.1,p.2.1,p.2.2.1⟩) (fun _=>rfl) (fun _=>rfl) (fun p h=>h.2.2.1)
def WR(N:Nat): RD enc w (N+4) 29 1 (fun l:List cJ=>[b_ l]) Yj :=
 Reads.slice EC dU Tryz.underlying29 iQ (aiI N) da rfl (fun _=>rfl) (fun _ _ _=>rfl)
def WS(N:Nat): RD enc w (N+1) 47 1 (fun l:List aT=>[jL l]) (fun _=>True):=by
 refine(Reads.slice E1 eZ Tryz.underlying47 iQ (GQ N) da rfl (fun _=>rfl) ?_).weak (fun _ _=>trivial);intro s c hc;have h0:c=0:=ae;subst h0;rfl
def aj7(r:h_): List AV:=[jL r.cells,jL r.outs]
def agw(N:Nat): RD enc w (N+2) 107 2 aj7 (fun _=>True):=by
 have h:=Reads.struct (enc:=enc) (w:=w) (N:=N+1) (n:=2) Tryz.underlying107 iQ (fun _=>rfl) (.cons (WS N) rfl (.cons (WS N) rfl .nil));exact h.map (fun p=>⟨p.1,p.2.1⟩) (fun _=>rfl) (fun _=>rfl) (fun p h=>trivial)
def aex(N:Nat): RD enc w (N+3) 32 1 (fun l:List h_=>[eL l]) (fun _=>True) :=
 (Reads.slice ER fZ Tryz.underlying32 iQ (agw N) da rfl (fun _=>rfl) (fun _ _ _=>rfl)).weak (fun _ _=>trivial)
def aey(N:Nat): RD enc w (N+5) 34 6 fU Jb:=by
 have h:=Reads.struct (enc:=enc) (w:=w) (N:=N+4) (n:=6) Tryz.underlying34 iQ (fun _=>rfl) (.cons (GQ _) rfl (.cons (WR N) rfl (.cons (WR N) rfl (.cons (Me _ Tryz.underlying30 iQ) rfl (.cons (Me _ Tryz.underlying31 iQ) rfl (.cons (aex (N+1)) rfl .nil))))));exact h.map (fun p=>⟨p.1,p.2.1,p.2.2.1,p.2.2.2.1,p.2.2.2.2.1,p.2.2.2.2.2.1⟩) (fun _=>rfl) (fun _=>rfl) (fun p h=>⟨h.2.1,h.2.2.1⟩)
def aiJ(N:Nat): RD enc w (N+6) 37 12 TP Nz:=by
 have h:=Reads.struct (enc:=enc) (w:=w) (N:=N+5) (n:=12) Tryz.underlying37 iQ (fun _=>rfl) (.cons (GR _) rfl (.cons (aey N) rfl (.cons (GQ _) rfl (.cons (GR _) rfl (.cons (WQ (N+3)) rfl (.cons (GR _) rfl (.cons (GR _) rfl .nil)))))));exact h.map (fun p=>(⟨p.1,p.2.1,p.2.2.1,p.2.2.2.1,p.2.2.2.2.1,p.2.2.2.2.2.1,p.2.2.2.2.2.2.1⟩:Act)) (fun _=>rfl) (fun _=>rfl) (fun p h=>⟨h.2.1,h.2.2.2.2.1⟩)
def agx(N:Nat): RD enc w (N+7) 22 1 (fun l:List Act=>[AL l]) (fun l=> ∀ a ∈ l,Nz a) :=
 Reads.slice EA zw Tryz.underlying22 iQ (aiJ N) da rfl (fun _=>rfl) (fun _ _ _=>rfl)
def ae3{v:Value}{d:DataW H}{ps:List MemPlace}{base:Nat}(hval:Value.okWide Tryz.prog w .any base 22 v)(hd:DataW.Trod enc Tryz.prog w 0 (fun _=>true) true 22 v d ps): ∃ l:List Act,(∀ a ∈ l,Nz a)/\VR (aN.all w) w (AL l) v:=by
 obtain⟨a,len,cap,rfl⟩:=Go.WideShapes.okWide_slice Tryz.underlying22 hval
 obtain⟨t,h1,h2⟩:=Reads.deep (fun N=>by
  have:=agx (enc:=enc) (w:=w) N;exact⟨this.1,this.2.1,fun f cs x hf hx=>this.2.2 f cs x ae hx⟩) hd
 exact⟨t,h1,h2.2 0 aR⟩
end
open Go.ChangeShapes Go.WideShapes Go.ChangeAt Go.RowKit
def own: ownKnob Tryz.prog.godebug=none:=iQ
def kids: Kids Tryz.prog (· < Tryz.prog.types.size):=kids_rows iQ iQ
def full: ∀ t e,t<Tryz.prog.types.size->Tryz.prog.underlying t=some (.slice e)->0<Tryz.prog.cellsOf e:=slices_full_of Tryz.prog iQ
def zJ: List (String × DataW Unit):=Rows.modelRefusedRow.laid
def NB {W : World} {g : Nat} {t : TypeId} {cs : Array Value} {fuel : Nat} {p : List MemPlace} (hg : Tryz.prog.globalNamed "internal/strconv.uint64pow10" = some g) (ht : (Tryz.prog.globals[g]?).map (·.type) = some t) (hv : W.var? Tryz.prog "internal/strconv.uint64pow10" = some cs)
    (hd:DataW.trod (fun _=>()) Tryz.prog W 0 (fun _=>true) false fuel t cs.toList=some (Rows.laid_internal_strconv_uint64pow10,p)):xS (aN.all W) W:=by
 have e:Rows.laid_internal_strconv_uint64pow10=Lib.tabData (H:=Unit) .u64 Lib.pow10Tab:=iQ;rw[e]at hd;have hg1:g=1:=Option.some.inj (hg.symm.trans NG);subst hg1;have hgt:(Tryz.prog.globals[1]?).map (·.type)=some t:=ht;have ht2:(Tryz.prog.globals[1]?).map (·.type)=some 391:=iQ;have e3:t=391:=Option.some.inj (hgt.symm.trans ht2);subst e3;have hcs:=Lib.cells_of_tab Tryz.underlying391 Tryz.underlying175 iQ iQ hd
 have hok:Bx W:=by
  show W.var? Tryz.prog "internal/strconv.uint64pow10" = some (Lib.pow10Tab.map fun z => Value.int .u64 z).toArray
  rw[hv,<-hcs]
 refine⟨fun b hb=>?_,hok⟩;simp only[Qs,fY,fF,or_false]at hb;subst hb;have hc:=Lib.TabIs.cell hok hg 0 da;show 1<W.heap.size;simp only[World.cell?]at hc;split at hc
 ·rename_i x hx;exact(fL.1 hx).1
 ·cases hc
def Vc{W:World}(h:laidMetH Tryz.prog zJ W): xS (aN.all W) W:=by
 have h:laidMet Tryz.prog zJ W:=h
 first
  |(obtain⟨ps,⟨g,t,cs,fuel,p,q,hg,ht,hv,hd,_⟩,_⟩:=h;exact NB hg ht hv hd)
  |(obtain⟨ps,⟨_,_,_,_,_,q,_,_,_,_,⟨g,t,cs,fuel,p,q2,hg,ht,hv,hd,_⟩,_⟩,_⟩:=h;exact NB hg ht hv hd)
  |(obtain⟨ps,⟨_,_,_,_,_,q,_,_,_,_,⟨_,_,_,_,_,q2,_,_,_,_,⟨g,t,cs,fuel,p,q3,hg,ht,hv,hd,_⟩,_⟩,_⟩,_⟩:=h;exact NB hg ht hv hd)
def aj8: DataW Unit->Value
 | .lit (.int k n)=> .int k n
 | _=>Go.undef
def aiK: DataW Unit->Array Value
 | .agg l=>(l.map aj8).toArray
 | _=> #[]
def NC(d:DataW Unit): Obj->Obj
 | .cells _ t fz=> .cells (aiK d) t fz
 | o=>o
noncomputable def pF (os:Os):World :=
 { World.holding Tryz.prog os ⟨#[],#[],[]⟩with heap:=(((World.holding Tryz.prog os ⟨#[],#[],[]⟩).heap.modify 2 (NC Rows.laid_math_bits_deBruijn32tab)).modify 3 (NC Rows.laid_math_bits_deBruijn64tab)).modify 1 (NC Rows.laid_internal_strconv_uint64pow10) }
def aez(os:Os)(args:Array Value): laidMetH Tryz.prog zJ ((pF os).forCall (fun _ _=>0) ⟨#[],args,[]⟩).memory :=
 (laidMet_of_run' 8 iQ iQ:laidMet Tryz.prog zJ ((pF os).forCall (fun _ _=>0) ⟨#[],args,[]⟩).memory)
set_option maxRecDepth 100000 in
def ai1 {H : Type} {enc : TypeId × Value -> H} {os : Os} {f : FuncId} {fn : Func} {s : ChangeSpec} (yh : Array Value)
    (started:os.Started) (noInit:Tryz.checked.prog.inits.idxOf? f=none) (hfn:Tryz.checked.prog.funcs[f]? = some fn)
    (hv:((pF os).forCall (fun _ _=>0) ⟨#[],yh,[]⟩).variablesB Tryz.checked.prog=true)
    (hr : (((pF os).forCall (fun _ _ => 0) ⟨#[], yh, []⟩).heap.toList.drop Tryz.checked.prog.globals.size).take ((begin Tryz.checked.prog (fun _ _ => 0) default).world.heap.size - Tryz.checked.prog.globals.size) =
      (begin Tryz.checked.prog (fun _ _=>0) default).world.heap.toList.drop Tryz.checked.prog.globals.size)
    (hok:Input.okWideB Tryz.checked.prog ((pF os).forCall (fun _ _=>0) ⟨#[],yh,[]⟩) f ⟨#[],yh,[]⟩=true)
    (hpre:s.preB enc Tryz.checked.prog fn [] false ((pF os).forCall (fun _ _=>0) ⟨#[],yh,[]⟩).memory yh 8=true)
    (hsz:s.sizedB enc Tryz.checked.prog fn false ((pF os).forCall (fun _ _=>0) ⟨#[],yh,[]⟩).memory yh 8=true)
    (contract : ∀ (W : World) (base : Nat) (args : Array Value) (ds gs : List (DataW H)) (before : List MemPlace),
      (∀(j:Nat) t v,fn.params[j]? = some t->args[j]? = some v->Value.okWide Tryz.prog W .any base t v) ->
      DataW.Whole enc Tryz.prog fn.params.toList s.vars false W args.toList ds gs before->xS (aN.all W) W ->
      Calls Tryz.prog f args W fun e W'=> ∃ v,e = .returned v/\s.post enc Tryz.prog fn false true false false W args v W') :
    ReturnsInHanded {} Tryz.checked os f .any (fun w args=>(s.pre enc Tryz.checked.prog fn [] false w args/\laidMetH Tryz.prog zJ w)/\sizedMet enc Tryz.checked.prog fn (OpenSpec.ofChange s) false w args) (s.post enc Tryz.checked.prog fn false true false false):=by
 refine returnsInHanded_of_change_and (C:=Tryz.checked) (X:=fun w _=>laidMetH Tryz.prog zJ w) (fun _ _ _ hh h=>h.of_heap hh) own started noInit hfn
  (ChangeSpec.witness_at (enc:=enc) (C:=Tryz.checked) (os:=os) (X:=fun w _=>laidMetH Tryz.prog zJ w) false (pF os) yh 8 rfl hv hr hok hpre hsz (aez os _)) ?_
 intro W base args ds gs before h1 h2 _ _ hL _;exact contract W base args ds gs before h1 h2 (Vc hL)
def ai2{a:AV}{x:Value}{g:aN}{w:World}(h1:VR g w a x): ∀ i,i<[a].length->VR g w ([a].getD i .undef) (#[x].getD i Go.undef):=by
 intro i hi
 match i,hi with
 | 0,_=>exact h1
def aeA(P:Program)(h:P.funcs.any Func.goes=false)(f:FuncId): P.goes f=false:=by
 unfold Program.goes;rw[h,iI,Bool.or_false,List.any_eq_false];intro g _;cases hg:P.funcs[g]? with
 | none=>simp
 | some fn =>
   rw[Array.any_eq_false]at h;obtain⟨hl,rfl⟩:=fL.1 hg;simpa using h g hl
def WT(P:Program)(h:P.funcs.any Func.goes=false)(c:OpenClaim)(hs:c.start = .entering): false=c.goesBy P:=by
 unfold OpenClaim.goesBy Program.goesAt Program.goesFrom;rw[hs];cases P.funcNamed c.func with
 | none=>rfl
 | some f=>show false=(P.goes f || false);rw[aeA P h];rfl
def Y_: Tryz.pinned.checked.prog.funcs.any Func.goes=false:=iQ
def ae4: laidOutB Tryz.checked.prog=true:=iQ
def ae5: mapsRowed Tryz.checked.prog=true:=iQ
def abW: Tryz.checked.prog.stopsHeard=true:=iQ
def abX: Tryz.checked.prog.mayEnter=true:=iQ
def TV{m:Mo}{s:aT}{v w:Int}{t:Table}(h:iD m s v=(t,w,0)): iL s=true/\1<=w/\w<=(i_ m.vs s).length/\(i_ m.vs s).getD (w-1).toNat default=t:=by
 unfold iD at h;by_cases hn:iL s=false
 ·rw[au hn]at h;exact absurd (show(13:Int)=0 from bj (fun p=>p.2.2) h) da
 rw[aj hn]at h;try dsimp only at h
 generalize (if v=0 then((i_ m.vs s).length:Int)else v)=u at *;by_cases hw:u<1\/((i_ m.vs s).length:Int)<u
 ·rw[au hw]at h;exact absurd (show(6:Int)=0 from bj (fun p=>p.2.2) h) da
 rw[aj hw]at h;have h1:(i_ m.vs s).getD (u-1).toNat default=t:=bj (fun p=>p.1) h;have h2:u=w:=bj (fun p=>p.2.1) h;subst h2;exact⟨by simpa using hn,ae,ae,h1⟩
def J5{m:Mo}{s:aT}{w:Int}(hn:iL s=true)(h1:1<=w)(h2:w<=(i_ m.vs s).length): iD m s w=((i_ m.vs s).getD (w-1).toNat default,w,0):=by
 unfold iD;rw[aj (by simp[hn]),aj ae];try dsimp only
 rw[aj ae]
def abV{t:Table}{ver:Int}{row:List aW}(h:(mU t ver row).2=0): (mU t ver row).1.table=t.name/\(mU t ver row).1.ver=ver/\(mU t ver row).1.input=row:=by
 unfold mU at h ⊢;by_cases h1:ver<1\/2147483648<ver
 ·rw[au h1]at h;exact absurd h da
 rw[aj h1]at h ⊢;by_cases h2:(er t).2.2.2≠0
 ·rw[au h2]at h;exact absurd h h2
 rw[aj h2]at h ⊢;by_cases h3:(jk (er t).1 row).2≠0
 ·rw[au h3]at h;exact absurd h h3
 rw[aj h3]at h ⊢;split at h
 ·exact absurd h da
 rename_i h4;rw[aj h4];exact⟨rfl,rfl,rfl⟩
def aeB{t:Table}{ver:Int}{row:List aW}(h:(mU t ver row).2=0): Cu (mU t ver row).1 t=true:=by
 obtain⟨h1,h2,h3⟩:=abV h;unfold Cu;rw[h2,h3,h,LY];rfl
structure zx (m:Mo):Prop where
 nm:∀ p ∈ m.vs,∀ t ∈ p.2,t.name=p.1
 es:∀ e ∈ m.es,∃ t,iD m e.table e.ver=(t,e.ver,0)/\Cu e t=true
def agy: zx mA:=⟨fun p hp=>(by cases hp),fun e he=>(by cases he)⟩
def aeC{m:Mo}(h:zx m)(n:Int): zx (qP m n).1:=by
 unfold qP;split
 ·exact⟨h.nm,fun e he=>h.es e (jv he)⟩
 exact h
def agz{m:Mo}(h:zx m)(s:aT)(v:Int)(row:List aW): zx (ni m s v row).1:=by
 unfold ni;split
 ·exact h
 rename_i h1;split
 ·exact h
 split
 ·exact h
 rename_i h2 h3;have h2:(mU (iD m s v).1 (iD m s v).2.1 row).2=0:=ae;have hv:iD m s v=((iD m s v).1,(iD m s v).2.1,0):=by rw[<-show(iD m s v).2.2=0 by omega]
 generalize (iD m s v).1=t at *;generalize (iD m s v).2.1=w at *;obtain⟨g1,g2,g3,g4⟩:=TV hv;obtain⟨k1,k2,k3⟩:=abV h2;have hag:=aeB h2
 have hnm:t.name=s:=by
  have hm:t ∈ i_ m.vs s:=by rw[<-g4];exact bx ae
  rcases oB m.vs s with e|e
  ·rw[e]at hm;cases hm
  exact h.nm _ e t hm
 generalize (mU t w row).1=x at *;refine⟨h.nm,fun e he=>?_⟩;rcases List.mem_append.1 he with he|he
 ·obtain⟨u,u1,u2⟩:=h.es e he;exact⟨u,u1,u2⟩
 obtain rfl:=eC.1 he;refine⟨t,?_,hag⟩;rw[k1,k2,hnm];have:=J5 (m:=m) g1 g2 g3;rw[g4]at this;exact this
def agA{m:Mo}(ok:nj m)(h:zx m)(t:Table): zx (uZ m t).1:=by
 unfold uZ;split
 ·exact h
 split
 ·exact h
 generalize (fW t).1=c;refine⟨fun p hp u hu=>?_,fun e he=>?_⟩
 ·rcases J2 hp with rfl|hp
  ·rcases List.mem_append.1 hu with hu|hu
   ·rcases oB m.vs c.name with e|e
    ·rw[e]at hu;cases hu
    exact h.nm _ e u hu
   obtain rfl:=eC.1 hu;rfl
  exact h.nm p hp u hu
 obtain⟨u,u1,u2⟩:=h.es e he;refine⟨u,?_,u2⟩;obtain⟨g1,g2,g3,g4⟩:=TV u1;have hg:=aep ok.nd c.name (i_ m.vs c.name++[c]) e.table;by_cases hc:e.table=c.name
 ·rw[au hc,<-hc]at hg;have:=J5 (m:=⟨oL m.vs c.name (i_ m.vs c.name++[c]),m.mark,m.es⟩) g1 g2 (by dsimp only;rw[<-hc,hg,List.length_append];omega);rw[this];dsimp only;rw[<-hc,hg,<-g4,aq,aH ae,<-aq]
 rw[aj hc]at hg;have:=J5 (m:=⟨oL m.vs c.name (i_ m.vs c.name++[c]),m.mark,m.es⟩) g1 g2 (by dsimp only;rw[hg];exact g3);rw[this];dsimp only;rw[hg,g4]
def aiL{m:Mo}(ok:nj m)(h:zx m)(a:Act): zx (IE m a).1:=by
 unfold IE;split
 ·exact agA ok h _
 split
 ·exact agz h _ _ _
 split
 ·exact aeC h _
 exact h
def Bw {S : ai} (l : List iY) (fn : FuncId) (c : Nat) (h : ∀ k, k < l.length -> kK aI fn [iU (l.getD k default), .ref c 0] S (.bool false)) (hl : l.length <= 2 ^ 60) :
    kK aI 56 [kX l,.fn (.func fn) [] [.ref c 0]] S (I (-1)):=by
 unfold kX;refine x6.go ?_;unfold dO;intro Q aJ aK aL;repeat' first|refine aC ?_|refine aB ?_ ?_<;>intro hw<;>try omega|fail
 with_reducible refine bG [4,2,8,11] (fun i:Nat=>[(8,I i)]) (fun _=>S) (fun i=>i<=l.length) (fun i=>l.length-i) (0) ?_ ?_ ?_ ?_
 ·simp
 ·rfl
 ·exact at_
 rintro i r hi;try dsimp only at hi
 by_cases mg:i<l.length
 ·have hx:=h i mg;simp only[iU,lK,br,ep,ez]at hx;repeat' first|refine aC ?_|with_reducible refine jx hx ?_|refine aB ?_ ?_<;>intro hw<;>try omega|fail
  refine⟨i+1,?_,?_,?_,c8,?_⟩
  ·dsimp only;omega
  ·dsimp only;omega
  ·rfl
  exact at_
 obtain rfl:i=l.length:=ae;repeat' first|refine aC ?_|refine aB ?_ ?_<;>intro hw<;>try omega|fail
 all_goals exact⟨rfl,trivial⟩
def yj {S : ai} (l : List iY) (fn : FuncId) (c : Nat) (h : ∀ k, k < l.length -> kK aI fn [iU (l.getD k default), .ref c 0] S (.bool false)) (hl : l.length <= 2 ^ 60) :
    kK aI 33 [kX l,.fn (.func fn) [] [.ref c 0]] S (.bool false):=by
 have hx:=Bw l fn c h hl;unfold kX at hx ⊢;refine vK.go ?_;unfold dO;intro Q aJ aK aL;repeat' first|refine aC ?_|with_reducible refine jx hx ?_|refine aB ?_ ?_<;>intro hw<;>try omega|fail
 all_goals exact⟨rfl,trivial⟩
def TX{m:Mo}(ok:nj m){e:iY}{t:Table}(h:iD m e.table e.ver=(t,e.ver,0)): jV t:=by
 have h1:=yA (s:=e.table) (v:=e.ver) ok.toY7 (by rw[h]);rw[h]at h1;exact h1
def Qr {S : ai} {p q c : Nat} {m : Mo} (h : lj S p q m) (hc : S[c]? = some (.cells [.ref p 0])) (ok : nj m) (x : iY) (hx : oA x) {t : Table} (hv : iD m x.table x.ver = (t, x.ver, 0)) (ha : Cu x t = true) :
    kK aI 34 [iU x,.ref c 0] S (.bool false):=by
 refine cK.drop ?_;have xR:=cZ (ok.toY7.len x.table) (by omega:1000000<=2 ^ 60);have Q8:x.table.length<=2 ^ 60:=by have:=hx.1;omega
 have c1:=fun T=>xI (h.keep (fT.app S T)) x.table Q8 x.ver xR;rw[hv]at c1;have c2:=Iy x hx t (TX ok hv);rw[ha]at c2;have hca:=fun T:ai=>(fT.app S T) _ _ hc;simp only[GK,dP,fU,b_,eL,iU,lK,br,ep,ez]at c1 c2 ⊢;refine A1.go ?_;unfold dO;intro Q aJ aK aL;repeat' first|simp (disch:=omega) only[go_sem,aJ,aK,aL,hca,nH,nS,ny,oK,cz,bT,fO,fP,bQ,bX,aV,dN]|refine aC ?_|with_reducible refine jx (c1 _) ?_|refine aB ?_ ?_<;>intro hw<;>try omega|fail
 all_goals exact⟨_,_,rfl,rfl,View.refl _ rfl⟩
def Vd{S:ai}{p q:Nat}{m:Mo}(h:lj S p q m)(ok:nj m)(hs:zx m): kK aI 12 [.ref p 0] S (.bR [I m.es.length,I 0]):=by
 refine cK.drop ?_;have c1:=fun T=>sw (h.keep (fT.app S T));have hp:=h.hp;unfold AI kX at hp;have Pr:=fun T:ai=>(fT.app S T) _ _ hp;have hen:=ok.en
 have c2:kK aI 33 [kX m.es,.fn (.func 34) [] [.ref S.length 0]] (S++[.cells [.ref p 0]]) (.bool false):=by
  refine yj m.es _ _ (fun k hk=>?_) ae;have hm:m.es.getD k default ∈ m.es:=bx hk;obtain⟨t,t1,t2⟩:=hs.es _ hm;exact Qr (h.keep (fT.app S _)) aR ok _ (ok.ee _ hm) t1 t2
 have c3:=fun T=>IC (h.keep (fT.app S T)) ok.ee ae;have c4:=zu ok.Eo (gE m.es) (fun x hx=>by obtain⟨e,h1,rfl⟩:=dG.1 hx;exact qD (ok.be e h1)) (by rw[jE];omega);rw[au ok.st]at c4;unfold vv at c4;unfold kX at c2;refine C6.go ?_;unfold dO;intro Q aJ aK aL;repeat' first|simp (disch:=omega) only[go_sem,aJ,aK,aL,hp,Pr,nH,nS,ny,oK,cz,bT,fO,fP,bQ,bX,aV,dN]|refine aC ?_|with_reducible refine jx (c1 _) ?_|with_reducible refine jx c2 ?_|with_reducible refine AK (fun T=>aV S _ T ▸ c3 _) ?_|refine aB ?_ ?_<;>intro hw<;>try omega|fail
 all_goals exact⟨_,_,rfl,rfl,View.refl _ rfl⟩
def J6(hlv:aQ aI 7 [] (.bool true))(l:List Act)(hok:GN l=true-> ∀ a ∈ l,Mc a): aQ aI 3 [AL l] (.bool true):=by
 have c0:=abM l;refine aY Ex ?_ (by simp[AL,AV.dy,AV.cE,fN _ _ TQ]);intro Q aJ aK aL;cases hf:GN l with
 | false =>
   rw[hf]at c0;repeat' first|refine aC ?_|refine eS c0 ?_|refine aB ?_ ?_<;>intro hw<;>try omega|fail
   all_goals exact a_ rfl rfl
 | true =>
   rw[hf]at c0;have hok:=hok hf;have h30:l.length<=30:=by simp[GN]at hf;exact hf.1
   unfold AL at c0 ⊢;repeat' first|refine aC ?_|refine eS c0 ?_|refine aB ?_ ?_<;>intro hw<;>try omega|fail
   refine bS (aeZ _) ?_;rintro o S1 ⟨rfl,HT,Q6⟩;have aol:=HT.ne;generalize ([]:ai).length+1=p1 at *;generalize ([]:ai).length=q1 at *;repeat' first|refine aC ?_|refine aB ?_ ?_<;>intro hw<;>try omega|fail
   with_reducible refine bG [4,1,23,12] (fun x:Nat × ai × Mo=>[(4,I x.1)]) (fun x=>x.2.1) (fun x=>x.1<=l.length/\lj x.2.1 p1 q1 x.2.2/\nj x.2.2/\qG x.1 x.2.2/\zx x.2.2) (fun x=>l.length-x.1) ((0,S1,mA)) ?_ ?_ ?_ ?_
   ·exact⟨aR,HT,GO.1,GO.2,agy⟩
   ·rfl
   ·exact at_
   rintro⟨i,S,M⟩ r ⟨hi,h1,ok,bd,sd⟩;dsimp only at hi h1 ok bd sd;by_cases mg:i<l.length
   ·have hg:(l.map zw).getD i .undef=zw (l.getD i default):=getD_map _ _ _ mg;have hoa:=hok _ (bx mg);generalize l.getD i default=a at *;obtain⟨ok',bd'⟩:=aiD ok bd ae a hoa;have sd':=aiL ok sd a;repeat' first|refine cB hg ?_|refine aC ?_|refine aB ?_ ?_<;>intro hw<;>try omega|fail
    refine bS (aeq h1 ok a hoa) ?_;rintro o S4 ⟨rfl,h1b,hkb⟩;repeat' first|refine aC ?_|refine aB ?_ ?_<;>intro hw<;>try omega|fail
    refine⟨(i+1,S4,(IE M a).1),?_,?_,?_,c8,?_⟩
    ·exact⟨Nat.succ_le_of_lt mg,h1b,ok',bd',sd'⟩
    ·dsimp only;omega
    ·rfl
    exact at_
   obtain rfl:i=l.length:=ae;have xR:=fun s=>cZ (ok.toY7.len s) (by omega:1000000<=2 ^ 60);have hen:=ok.en;have hel:=ok.el;have m1:kK aI 10 [.ref p1 0] S (.bR [.agg [I M.mark.base,I M.mark.count,.str M.mark.anchor,.str M.mark.head],I 0]):=Y6 h1;have g1:=fun T=>Pq (h1.keep (fT.app S T)) ok.Eo ok.el ae M.mark.base 1000 ae ok.Eo.bc ae;have u1:=fun T=>Vd (h1.keep (fT.app S T)) ok sd
   have hlg:TN M M.mark.base 1000=M.es:=by
    unfold TN;simp only[Int.sub_self,Int.toNat_zero,eU];exact bH ae
   rw[hlg]at g1;have cv:=zu ok.Eo (gE M.es) (fun x hx=>by obtain⟨e,h1,rfl⟩:=dG.1 hx;exact qD (ok.be e h1)) (by rw[jE];omega);rw[au ok.st]at cv;unfold vv at cv;unfold kX at g1;repeat' first|simp (disch:=omega) only[go_sem,aJ,aK,aL,nH,nS,ny,oK,cz,bT,fO,fP,bQ,bX,aV,dN]|refine aC ?_|with_reducible refine jx m1 ?_|with_reducible refine jx (g1 _) ?_|with_reducible refine jx (u1 _) ?_|refine aB ?_ ?_<;>intro hw<;>try omega|fail
   with_reducible refine bG [2,1,11,7,78,58] (fun x:Nat × ai=>[(12,I x.1),(11,.own E1 (S.length+1) x.1 0 x.1)]) (fun x=>S++(aX.cells [I M.mark.base,I M.mark.count,.str M.mark.anchor,.str M.mark.head]::aX.vec E1 (((gE M.es).take x.1).map eZ)::x.2)) (fun x=>x.1<=M.es.length) (fun x=>M.es.length-x.1) ((0,[])) ?_ ?_ ?_ ?_
   ·simp
   ·simp
   ·exact at_
   rintro⟨i,T⟩ r hi;dsimp only at hi;by_cases mg:i<M.es.length
   ·have hm:M.es.getD i default ∈ M.es:=bx mg;obtain⟨t,t1,t2⟩:=sd.es _ hm;have okt:=TX ok t1;have okx:=ok.ee _ hm;have v1:=fun T=>xI (h1.keep (fT.app S T)) (M.es.getD i default).table (by have:=okx.1;omega) (M.es.getD i default).ver (xR _);rw[t1]at v1;have b1:=Br _ okx;have hb:=ok.be _ hm;have c2:=Iy _ okx t okt;rw[t2]at c2
    have hts:(gE M.es).take (i+1)=(gE M.es).take i++[(gV (M.es.getD i default)).1]:=by
     have e1:M.es.getD i default=M.es[i]:=by simp[aq,mg]
     rw[dz (by rw[jE];exact mg),e1];simp[gE]
    have Q8:(((gE M.es).take i).map eZ).length=i:=by simp[jE];omega
    generalize gV (M.es.getD i default)=B at *;obtain⟨bs,be⟩:=B;dsimp only at hb hts;subst hb;simp only[GK,dP,fU,b_,eL,iU,lK,br,ep,ez,WE]at v1 c2 b1;repeat' first|simp (disch:=omega) only[go_sem,aJ,aK,aL,Q8,nH,nS,ny,oK,cz,bT,fO,fP,bQ,bX,aV,dN]|refine aC ?_|with_reducible refine jx (v1 _) ?_|with_reducible refine AK (fun T=>aV S _ T ▸ v1 _) ?_|refine aB ?_ ?_<;>intro hw<;>try omega|fail
    refine⟨(i+1,T++[.cells (fU t)]),?_,?_,?_,c8,?_⟩
    ·dsimp only;omega
    ·dsimp only;omega
    ·dsimp only;rw[hts,fH];rfl
    exact at_
   obtain rfl:i=M.es.length:=ae;rw[<-bH (Nat.le_of_eq (jE M.es))]at cv;repeat' first|refine aC ?_|with_reducible refine vD cv (.cons (.refl _ rfl) (.cons (View.vec (T:=none) ((nH S _ 1).trans rfl) (by rw[dF,dL,jE];omega) (by rw[dF,dL,jE];omega) (uF _)) (.nil _))) rfl ?_|refine aB ?_ ?_<;>intro hw<;>try omega|fail
   all_goals exact a_ rfl rfl
def QM(l:List Act)(hr:∀ a ∈ l,Nz a): aQ aI 3 [AL l] (.bool true):=J6 Vb l (aiH hr)
