/- Part. -/
import Derived.Test.YtcjcnfcedihckaaGreatDoorV37
set_option linter.all false
set_option maxHeartbeats 8000000
namespace Go.Proofs.YtcjcnfcedihckaaGreatDoor
open Go.AM
set_option maxRecDepth 4000
def Yn{l:List aG}{i:Nat}(hi:i<l.length)(sep:aG): Lib.join (l.take (i+1)) sep=if i=0 then l.getD i default else Lib.join (l.take i) sep++sep++l.getD i default:=by
 rw[take_succ hi,Ka];by_cases h:i=0
 ·rw[if_pos (by rw[h];rfl),if_pos h]
 ·rw[if_neg (fun e=>by have:=congrArg List.length e;rw[eY,List.length_nil]at this;omega),if_neg h]
def zX(l:List aG)(sep:aG)(hl:l.length<=2 ^ 30)(hj:∀ k,(Lib.join (l.take k) sep).length<=2 ^ 60): aH aE 70 [bI l,.str sep] (.str (Lib.join l sep)):=by
 obtain⟨E,hE⟩:∃ E,Lib.join l sep=E:=⟨_,rfl⟩;rw[hE];simp only[bI];refine aJ KN ?_;intro Q au aA aB;repeat' first|refine aq ?_|refine ak ?_ ?_<;>intro hw<;>try omega|fail
 with_reducible refine bn [5,6,7,8,9,10,11,12,13,14,15,16,17,18,19,20,21,22,23] (fun i:Nat=>[(5,.str (Lib.join (l.take i) sep)),(6,I i)]) (fun _=>[]) (fun i=>i<=l.length) (fun i=>l.length-i) (0) ?_ ?_ ?_ ?_
 ·exact bD _
 ·rfl
 ·exact at_
 rintro i r g1;by_cases hi:i<l.length
 ·have e:=Yn hi sep;have h1:=hj i;have h2:=hj (i+1);obtain⟨x,hx⟩:∃ x,l.getD i default=x:=⟨_,rfl⟩;rw[hx]at e;by_cases h0:i=0
  ·subst h0;rw[if_pos rfl]at e;rw[e]at h2;have ej:Lib.join [] sep=[]:=rfl;repeat' first|simp (disch:=omega) only[go_sem,au,aA,aB,ej,hx]|refine aq ?_|refine ak ?_ ?_<;>intro hw<;>try omega|fail
   all_goals first|exact bh|skip
   refine⟨1,by dsimp only;omega,by dsimp only;omega,rfl,bL,?_⟩;dsimp only;rw[show (1:Nat)=0+1 from rfl,e];exact at_
  ·rw[if_neg h0]at e;have h4:=congrArg List.length e;simp only[aC]at h4;generalize Lib.join (l.take i) sep=J at *;repeat' first|simp (disch:=omega) only[go_sem,au,aA,aB,hx]|refine aq ?_|refine ak ?_ ?_<;>intro hw<;>try omega|fail
   all_goals first|exact bh|skip
   refine⟨i+1,by dsimp only;omega,by dsimp only;omega,rfl,bL,?_⟩;dsimp only;rw[e];exact at_
 ·obtain rfl:i=l.length:=by omega
  have e:l.take l.length=l:=List.take_length ..;rw[e,hE];repeat' first|refine aq ?_|refine ak ?_ ?_<;>intro hw<;>try omega|fail
  all_goals first|exact bh|exact eT jq|skip
def Fv{l:List aG}{sep:aG}{m n:Nat}(h:∀ z ∈ l,z.length<=m)(hn:l.length*(m+sep.length)<=n)(k:Nat): (Lib.join (l.take k) sep).length<=n:=by
 have h1:=qR (l:=l.take k) (sep:=sep) (m:=m) (fun z hz=>h z (List.mem_of_mem_take hz));have h2:(l.take k).length*(m+sep.length)<=l.length*(m+sep.length):=bE _ (by rw[eY];omega);omega
def CB(l:List eu)(h:Qs l): aH aE 32 [cU l] (.str (nX l)):=by
 have hl:=h.1
 have hj:=zX (l.map eJ) jf (by simp;omega) (Fv (m:=82) (fun z hz=>by
  obtain⟨v,hv,rfl⟩:=cW.1 hz
  exact wW v (h.2 v hv).2.1 (h.2 v hv).2.2 (h.2 v hv).1) (by
   have:jf.length=2:=rfl;rw[bS,this];omega))
 have hE:Lib.join (l.map eJ) jf=nX l:=rfl;rw[hE]at hj;generalize nX l=E at *;simp only[cU];refine aJ F9 ?_;intro Q au aA aB;repeat' first|refine aq ?_|refine ak ?_ ?_<;>intro hw<;>try omega|fail
 with_reducible refine bn [3,4,5,6,7,8,9,10,11,12,13,14,15,16,17,18] (fun i:Nat=>[(3,.own E1 0 i 0 i),(4,I i)]) (fun i=>[.vec E1 (((l.take i).map eJ).map bj)]) (fun i=>i<=l.length) (fun i=>l.length-i) (0) ?_ ?_ ?_ ?_
 ·simp
 ·rfl
 ·exact at_
 rintro i r g1;by_cases hi:i<l.length
 ·have hv:=h.2 _ (aV hi);have ht:=take_succ hi;have jY:(((l.take i).map eJ).map bj).length=i:=by simp;omega
  obtain⟨v,kU⟩:∃ v,l.getD i default=v:=⟨_,rfl⟩;rw[kU]at hv ht;have hvs:v.s.length<=2 ^ 38:=by have:=Fe hv.1;omega
  have c:=GZ v hv.2.1 hv.2.2 hvs;have eW:((l.take (i+1)).map eJ).map bj=((l.take i).map eJ).map bj++[.str (eJ v)]:=by rw[ht];simp[bj]
  generalize eJ v=t at *;simp only[eR]at c;repeat' first|simp (disch:=omega) only[go_sem,au,aA,aB,kU,jY]|refine aq ?_|refine d_ c ?_|refine ak ?_ ?_<;>intro hw<;>try omega|fail
  all_goals first|exact bh|skip
  refine⟨i+1,?_,?_,?_,bL,?_⟩
  ·dsimp only;omega
  ·dsimp only;omega
  ·dsimp only;rw[eW];first|done|rfl|(simp[go_sem];done)
  ·dsimp only;simp (disch:=omega) only[dU,dm,and_true,go_sem,au,aA,aB,Int.natCast_add,Int.cast_ofNat_Int]<;>(try trivial)<;>(try omega)<;>(try (repeat (first|trivial|(refine And.intro ?_ ?_)|(congr 1;omega))))
 ·have ht:l.take i=l:=aT (by omega);simp only[bI,jf]at hj;have kG:(l.map eJ).length=l.length:=by simp
  obtain⟨L,hL⟩:∃ L,l.map eJ=L:=⟨_,rfl⟩;rw[hL]at hj kG;obtain rfl:i=L.length:=by omega
  repeat' first|simp (disch:=omega) only[go_sem,au,aA,aB,ht,hL]|refine aq ?_|refine tN hj ?_|refine ak ?_ ?_<;>intro hw<;>try omega|fail
  all_goals first|exact bh|exact aL rfl rfl|skip
def Pn(s:aG)(y:UInt8)(hs:s.length<=2 ^ 30): aH aE 13 [.str s,.int .u8 y.toNat] (bI (iZ s y)):=by
 obtain⟨E,hE⟩:∃ E,iZ s y=E:=⟨_,rfl⟩;rw[hE];simp only[bI];refine aJ Ig ?_;intro Q au aA aB;repeat' first|refine aq ?_|refine ak ?_ ?_<;>intro hw<;>try omega|fail
 with_reducible refine bn [5,6,7,8,9,10,11,12,13,14,15,16,17,18,19,20,21,22,23,24,25,26,27,28,29,30,31,32,33,34,35,36,37,38,39,40,41,42,43,44,45,46,47,48,49,50,51,52,53,54,55,56,57,58] (fun q:Nat × Nat × Bool × List aG=>[(5,.own E1 0 q.2.2.2.length 0 q.2.2.2.length),(6,I q.2.1),(7,.bool q.2.2.1),(8,I q.1)]) (fun q=>[.vec E1 (q.2.2.2.map bj)]) (fun q=>q.2.1<=q.1/\q.2.1<=s.length/\q.1<=s.length+1/\q.2.2.2.length<=q.1/\E=q.2.2.2++eE y q.2.2.1 ((s.drop q.2.1).take (q.1-q.2.1)) (s.drop q.1)) (fun q=>s.length+1-q.1) ((0,0,false,[])) ?_ ?_ ?_ ?_
 ·refine⟨by simp,by simp,by simp,by simp,?_⟩;rw[<-hE];rfl
 ·rfl
 ·exact at_
 rintro⟨i,a,w,out⟩ r ⟨g1,g2,g3,g4,g5⟩;dsimp only at g1 g2 g3 g4 g5;by_cases hi:i<s.length
 ·have hp:=Kr (y:=y) g1 hi w;rw[hp]at g5;clear hp;have hu:=UInt8.toNat_inj (a:=s.getD i 0) (b:=y);have NX:(s.take i).drop a=(s.drop a).take (i-a):=List.drop_take ..;have ct:=HJ ((s.drop a).take (i-a)) (by simp;omega);obtain⟨cur,sy⟩:∃ cur,(s.drop a).take (i-a)=cur:=⟨_,rfl⟩;rw[sy]at ct g5;rw[sy]at NX;generalize hc:s.getD i 0=c at *;cases w with
  | true =>
    rw[if_pos rfl]at g5;by_cases Uw:c.toNat=92
    ·rw[if_pos Uw]at g5;repeat' first|simp (disch:=omega) only[go_sem,au,aA,aB,hc]|refine aq ?_|refine ak ?_ ?_<;>intro hw<;>try omega|fail
     all_goals first
      | exact bh
      | skip
     refine⟨(i+2,a,true,out),?_,?_,?_,bL,?_⟩
     ·exact⟨by dsimp only;omega,g2,by dsimp only;omega,by dsimp only;omega,g5⟩
     ·dsimp only;omega
     ·first|rfl|(simp[go_sem];done)
     ·exact at_
    ·rw[if_neg Uw]at g5;by_cases Qr:c.toNat=34
     ·rw[decide_eq_false (by omega)]at g5;repeat' first|simp (disch:=omega) only[go_sem,au,aA,aB,hc]|refine aq ?_|refine ak ?_ ?_<;>intro hw<;>try omega|fail
      all_goals first
       | exact bh
       | skip
      all_goals
       refine⟨(i+1,a,false,out),?_,?_,?_,bL,?_⟩
       ·exact⟨by dsimp only;omega,g2,by dsimp only;omega,by dsimp only;omega,g5⟩
       ·dsimp only;omega
       ·first|rfl|(simp[go_sem];done)
       ·exact at_
     ·rw[decide_eq_true (by omega)]at g5;repeat' first|simp (disch:=omega) only[go_sem,au,aA,aB,hc]|refine aq ?_|refine ak ?_ ?_<;>intro hw<;>try omega|fail
      all_goals first
       | exact bh
       | skip
      all_goals
       refine⟨(i+1,a,true,out),?_,?_,?_,bL,?_⟩
       ·exact⟨by dsimp only;omega,g2,by dsimp only;omega,by dsimp only;omega,g5⟩
       ·dsimp only;omega
       ·first|rfl|(simp[go_sem];done)
       ·exact at_
  | false =>
    rw[if_neg (by decide)]at g5;by_cases hy:c=y
    ·rw[if_pos hy]at g5;subst hy;repeat' first|simp (disch:=omega) only[go_sem,au,aA,aB,hc,NX,sy]|refine aq ?_|refine ak ?_ ?_<;>intro hw<;>try omega|fail
     all_goals first
      | exact bh
      | skip
     all_goals
      refine⟨(i+1,i+1,false,out++[iL cur]),?_,?_,?_,bL,?_⟩
      ·exact⟨by dsimp only;omega,by dsimp only;omega,by dsimp only;omega,by simp;omega,by rw[g5];simp⟩
      ·dsimp only;omega
      ·first|rfl|(simp[go_sem,bj];done)
      ·exact at_
    ·rw[if_neg hy]at g5;have hy':¬ c.toNat=y.toNat:=fun e=>hy (hu.1 e);by_cases Qr:c.toNat=34
     ·rw[decide_eq_true Qr]at g5;repeat' first|simp (disch:=omega) only[go_sem,au,aA,aB,hc]|refine aq ?_|refine ak ?_ ?_<;>intro hw<;>try omega|fail
      all_goals first
       | exact bh
       | skip
      all_goals
       refine⟨(i+1,a,true,out),?_,?_,?_,bL,?_⟩
       ·exact⟨by dsimp only;omega,g2,by dsimp only;omega,by dsimp only;omega,g5⟩
       ·dsimp only;omega
       ·first|rfl|(simp[go_sem];done)
       ·exact at_
     ·rw[decide_eq_false Qr]at g5;repeat' first|simp (disch:=omega) only[go_sem,au,aA,aB,hc]|refine aq ?_|refine ak ?_ ?_<;>intro hw<;>try omega|fail
      all_goals first
       | exact bh
       | skip
      all_goals
       refine⟨(i+1,a,false,out),?_,?_,?_,bL,?_⟩
       ·exact⟨by dsimp only;omega,g2,by dsimp only;omega,by dsimp only;omega,g5⟩
       ·dsimp only;omega
       ·first|rfl|(simp[go_sem];done)
       ·exact at_
 ·rw[Ks (by omega)]at g5;have ct:=HJ (s.drop a) (by simp;omega);repeat' first|refine aq ?_|refine ak ?_ ?_<;>intro hw<;>try omega|fail
  all_goals first|exact bh|(refine eT ?_;rw[g5,ek];exact View.vec rfl (by simp) (by simp) (by have h:=pT (out++[iL (s.drop a)]);rw[ek]at h;exact h))|skip
def N4: List aG:=[[117,110,105,113,117,101],[102,105,114,115,116],[112,114,105,111,114,105,116,121],[97,110,121],[99,111,108,108,101,99,116],[114,117,108,101]]
def Fw: List aG:=[[105,110,116],[116,101,120,116],[98,111,111,108]]
def Jk: aH aE 67 [] (bI N4):=by
 refine aJ Da ?_;intro Q au aA aB;repeat' first|refine aq ?_|refine ak ?_ ?_<;>intro hw<;>try omega|fail
 exact eT jq
def Sm: aH aE 68 [] (bI s6):=by
 refine aJ KM ?_;intro Q au aA aB;repeat' first|refine aq ?_|refine ak ?_ ?_<;>intro hw<;>try omega|fail
 exact eT jq
def Po: aH aE 69 [] (bI Fw):=by
 refine aJ Io ?_;intro Q au aA aB;repeat' first|refine aq ?_|refine ak ?_ ?_<;>intro hw<;>try omega|fail
 exact eT jq
def Ws{p:Int}(h1:1<=p)(h6:p<=6): N4.getD (p-1).toNat []=ud p:=by
 have:p=1\/p=2\/p=3\/p=4\/p=5\/p=6:=by omega
 rcases this with rfl|rfl|rfl|rfl|rfl|rfl<;>rfl
def N5{p:Int}(h1:1<=p)(h3:p<=3): Fw.getD (p-1).toNat []=kF p:=by
 have:p=1\/p=2\/p=3:=by omega
 rcases this with rfl|rfl|rfl<;>rfl
structure TxR (t:Table):Prop where
 tx:Uz t
 pol:1<=t.aZ
 ins:∀ c ∈ t.ins,1<=c.kind
 outs:∀ c ∈ t.outs,1<=c.kind
abbrev N6(t:Table): bx:= .cells [.str t.name,.aF false EC (t.ins.map bF),.aF false EC (t.outs.map bF),I t.aZ,I t.agg,.aF false ER (t.rules.map cn)]
def Pp(t:Table)(h:TxR t): aH aE 30 [cD t] (bI (pL t)):=by
 obtain⟨⟨h1,⟨p0,p1⟩,⟨a0,a1⟩,⟨i1,i2⟩,⟨o1,o2⟩,r1,r2⟩,qH,JN,wR⟩:=h;have c1:=Jk;have c2:=Sm;have c3:=Po;have g1:(N4.map bj).getD (t.aZ-1).toNat .undef = .str (ud t.aZ):=by rw[<-Ws qH p1];exact oR (by omega) (by simp[N4];omega)
 have g2:(s6.map bj).getD t.agg.toNat .undef = .str (wc t.agg):=oR a0 (by simp[s6];omega);have l1:N4.length=6:=rfl;have l2:s6.length=5:=rfl;have l3:Fw.length=3:=rfl;have hh : [116,97,98,108,101,32]++t.name++[32]++ud t.aZ++[32]++wc t.agg=w9 t:=by simp[w9,zU]
 have DH:=Jf t.aZ;have hal:=Jg t.agg;obtain⟨E,hE⟩:∃ E,pL t=E:=⟨_,rfl⟩;rw[hE];unfold pL w_ at hE;generalize w9 t=hd at *;generalize ud t.aZ=pw at *;generalize wc t.agg=aw at *;simp only[bI,aR,bu,bj]at c1 c2 c3;simp only[cD,fg,bP,dV,bI];refine aJ Fs ?_;intro Q au aA aB;repeat' first|simp (disch:=omega) only[go_sem,au,aA,aB,g1,g2,l1,l2,l3,bS]|refine aq ?_|refine ak ?_ ?_<;>intro hw<;>try omega|fail
 all_goals first|(exfalso;omega)|skip
 with_reducible refine bn [3,4,27,28,29,30,31,32,33,34,35,36,37,38,39,40,41,42,43,44,45,46,47,48,49,50,51,52,53,54,55] (fun i:Nat=>[(4,I i),(3,.own E1 1 (i+1) 0 (i+1))]) (fun i=>[N6 t,.vec E1 ((hd::(t.ins.take i).map mC).map bj)]) (fun i=>i<=t.ins.length) (fun i=>t.ins.length-i) 0 (bD _) (by rw[<-hh];simp[bj]) ?_ ?_
 ·exact at_
 rintro i r k1;by_cases hi:i<t.ins.length
 ·have hc:=i2 _ (aV hi);have hk:=JN _ (aV hi);have hts:=take_succ hi;obtain⟨c,hce⟩:∃ c,t.ins.getD i default=c:=⟨_,rfl⟩;rw[hce]at hc hts hk;have g3:(Fw.map bj).getD (c.kind-1).toNat .undef = .str (kF c.kind):=by rw[<-N5 hk hc.2.2];exact oR (by omega) (by simp[Fw];omega)
  have UR : [105,110,32]++c.name++[32]++kF c.kind=mC c:=by simp[mC,kV]
  have oc:=s9 c.kind;have eW:((hd::(t.ins.take (i+1)).map mC).map bj)=((hd::(t.ins.take i).map mC).map bj)++[.str (mC c)]:=by rw[hts];simp[bj]
  have jY:((hd::(t.ins.take i).map mC).map bj).length=i+1:=by simp;omega
  generalize mC c=w at *;generalize kF c.kind=kw at *;generalize ((hd::(t.ins.take i).map mC).map bj)=X at *;repeat' first|simp (disch:=omega) only[go_sem,au,aA,aB,g3,l3,bS,hce,jY]|refine aq ?_|refine ak ?_ ?_<;>intro hw<;>try omega|fail
  all_goals first|(exfalso;omega)|skip
  refine⟨i+1,by dsimp only;omega,by dsimp only;omega,?_,bL,?_⟩
  ·refine Eq.trans ?_ (congrArg (fun z=>[N6 t,bx.vec E1 z]) eW.symm);rw[<-UR];rfl
  ·dsimp only;simp (disch:=omega) only[dU,dm,and_true,go_sem,au,aA,aB,Int.natCast_add,Int.cast_ofNat_Int]<;>(try trivial)<;>(try omega)<;>(try (repeat (first|trivial|(refine And.intro ?_ ?_)|(congr 1;omega))))
 have hi:i=t.ins.length:=by omega
 subst hi;rw[aT (by omega)];repeat' first|refine aq ?_|refine ak ?_ ?_<;>intro hw<;>try omega|fail
 obtain⟨A,hA⟩:∃ A,hd::t.ins.map mC=A:=⟨_,rfl⟩;have GI:t.ins.length+1=A.length:=by rw[<-hA];simp
 have z0:A.map bj=(A++(t.outs.take 0).map jE).map bj:=by simp
 with_reducible refine bn [3,5,6,56,57,58,59,60,61,62,63,64,65,66,67,68,69,70,71,72,73,74,75,76,77,78,79,80,81,82,83,84,85,86,87,88,89,90,91,92,93,94,95,96,97,98,99,100,101,102,103] (fun i:Nat=>[(5,I i),(3,.own E1 1 (A.length+i) 0 (A.length+i))]) (fun i=>[N6 t,.vec E1 ((A++(t.outs.take i).map jE).map bj)]) (fun i=>i<=t.outs.length) (fun i=>t.outs.length-i) 0 (bD _) (by rw[<-z0,<-hA];first|done|rfl|simp[bj]) ?_ ?_
 ·simp only[<-GI,de];exact at_
 rintro i r k1;by_cases hi:i<t.outs.length
 ·have hc:=o2 _ (aV hi);have hk:=wR _ (aV hi);have hts:=take_succ hi;obtain⟨c,hce⟩:∃ c,t.outs.getD i default=c:=⟨_,rfl⟩;rw[hce]at hc hts hk;have g3:(Fw.map bj).getD (c.kind-1).toNat .undef = .str (kF c.kind):=by rw[<-N5 hk hc.1.2.2];exact oR (by omega) (by simp[Fw];omega)
  have c6:=CB c.order hc.2;have hro:=zW hc.2;have UR:c.order.length=0->[111,117,116,32]++c.name++[32]++kF c.kind=jE c:=fun e=>by simp[jE,kV,jB,e]
  have hwv:c.order.length≠0->[111,117,116,32]++c.name++[32]++kF c.kind++[32]++nX c.order=jE c:=fun e=>by simp only[jE,kV,jB];rw[if_neg e];simp
  have oc:=s9 c.kind;have MC:=hc.2.1;have eW:((A++(t.outs.take (i+1)).map jE).map bj)=((A++(t.outs.take i).map jE).map bj)++[.str (jE c)]:=by rw[hts];simp[bj]
  have jY:((A++(t.outs.take i).map jE).map bj).length=A.length+i:=by simp;omega
  generalize jE c=w at *;generalize kF c.kind=kw at *;generalize nX c.order=rw' at *;generalize ((A++(t.outs.take i).map jE).map bj)=X at *;simp only[cU]at c6;repeat' first|simp (disch:=omega) only[go_sem,au,aA,aB,g3,l3,bS,hce,jY]|refine aq ?_|refine ak ?_ ?_<;>intro hw<;>try omega|fail
  all_goals first|(exfalso;omega)|skip
  ·refine⟨i+1,by dsimp only;omega,by dsimp only;omega,?_,bL,?_⟩
   ·refine Eq.trans ?_ (congrArg (fun z=>[N6 t,bx.vec E1 z]) eW.symm);rw[<-hwv (by omega)];rfl
   ·dsimp only;simp (disch:=omega) only[dU,dm,and_true,go_sem,au,aA,aB,Int.natCast_add,Int.cast_ofNat_Int]<;>(try trivial)<;>(try omega)<;>(try (repeat (first|trivial|(refine And.intro ?_ ?_)|(congr 1;omega))))
  ·refine⟨i+1,by dsimp only;omega,by dsimp only;omega,?_,bL,?_⟩
   ·refine Eq.trans ?_ (congrArg (fun z=>[N6 t,bx.vec E1 z]) eW.symm);rw[<-UR (by omega)];rfl
   ·dsimp only;simp (disch:=omega) only[dU,dm,and_true,go_sem,au,aA,aB,Int.natCast_add,Int.cast_ofNat_Int]<;>(try trivial)<;>(try omega)<;>(try (repeat (first|trivial|(refine And.intro ?_ ?_)|(congr 1;omega))))
 have hi:i=t.outs.length:=by omega
 subst hi;rw[aT (by omega)];repeat' first|refine aq ?_|refine ak ?_ ?_<;>intro hw<;>try omega|fail
 obtain⟨B,hB⟩:∃ B,A++t.outs.map jE=B:=⟨_,rfl⟩;have hBl:A.length+t.outs.length=B.length:=by rw[<-hB];simp
 have z0:B.map bj=(B++(t.rules.take 0).map gY).map bj:=by simp
 with_reducible refine bn [3,7,104,105,106,107,108,109,110,111,112,113,114,115,116,117,118,119,120,121,122,123,124,125,126,127,128,129,130] (fun i:Nat=>[(7,I i),(3,.own E1 1 (B.length+i) 0 (B.length+i))]) (fun i=>[N6 t,.vec E1 ((B++(t.rules.take i).map gY).map bj)]) (fun i=>i<=t.rules.length) (fun i=>t.rules.length-i) 0 (bD _) (by rw[<-z0,<-hB];first|done|rfl|simp[bj]) ?_ ?_
 ·simp only[<-hBl,de];exact at_
 rintro i r k1;by_cases hi:i<t.rules.length
 ·have hc:=r2 _ (aV hi);have hts:=take_succ hi;obtain⟨c,hce⟩:∃ c,t.rules.getD i default=c:=⟨_,rfl⟩;rw[hce]at hc hts;have fK:=hc.1.1;have adT:=hc.2.1;have c5:=zX c.cells [32,124,32] (by omega) (Fv (m:=2 ^ 17) hc.1.2 (by simp only[List.length_cons,List.length_nil];omega));have c6:=zX c.outs [32,124,32] (by omega) (Fv (m:=2 ^ 17) hc.2.2 (by simp only[List.length_cons,List.length_nil];omega));have b1:=s8 hc.1;have b2:=s8 hc.2;have UR : [114,117,108,101,32]++lA c.cells++[32,58,32]++lA c.outs=gY c:=by simp[gY,zU]
  have sk:Lib.join c.cells [32,124,32]=lA c.cells:=rfl;have eN:Lib.join c.outs [32,124,32]=lA c.outs:=rfl;rw[sk]at c5;rw[eN]at c6;have eW:((B++(t.rules.take (i+1)).map gY).map bj)=((B++(t.rules.take i).map gY).map bj)++[.str (gY c)]:=by rw[hts];simp[bj]
  have jY:((B++(t.rules.take i).map gY).map bj).length=B.length+i:=by simp;omega
  generalize gY c=w at *;generalize lA c.cells=wa at *;generalize lA c.outs=wb at *;generalize ((B++(t.rules.take i).map gY).map bj)=X at *;simp only[bI,aR,bu,NZ]at c5 c6;repeat' first|simp (disch:=omega) only[go_sem,au,aA,aB,l3,bS,hce,jY]|refine aq ?_|refine ak ?_ ?_<;>intro hw<;>try omega|fail
  all_goals first|(exfalso;omega)|skip
  refine⟨i+1,by dsimp only;omega,by dsimp only;omega,?_,bL,?_⟩
  ·refine Eq.trans ?_ (congrArg (fun z=>[N6 t,bx.vec E1 z]) eW.symm);rw[<-UR];rfl
  ·dsimp only;simp (disch:=omega) only[dU,dm,and_true,go_sem,au,aA,aB,Int.natCast_add,Int.cast_ofNat_Int]<;>(try trivial)<;>(try omega)<;>(try (repeat (first|trivial|(refine And.intro ?_ ?_)|(congr 1;omega))))
 have hi:i=t.rules.length:=by omega
 subst hi;rw[aT (by omega)];have jY:((B++t.rules.map gY).map bj).length=B.length+t.rules.length:=by simp
 have hEl:E=(B++t.rules.map gY)++[xJ]:=by rw[<-hE,<-hB,<-hA];simp
 generalize B++t.rules.map gY=X at *;have hp:=pT (X++[xJ]);have hm:(X++[xJ]).map bj=X.map bj++[.str xJ]:=by simp[bj]
 repeat' first|simp (disch:=omega) only[go_sem,au,aA,aB,jY]|refine aq ?_|refine ak ?_ ?_<;>intro hw<;>try omega|fail
 all_goals first|(exfalso;omega)|skip
 refine eT ?_;rw[hEl];rw[hm]at hp;simp only[hm];exact View.vec (T:=none) rfl (by simp at jY ⊢;omega) (by simp at jY ⊢;omega) hp
def wk{σ : ae}{a b:aG}(h:a=b): View σ (.aF true E1 [.str a]) (.aF false E1 [.str b]):=by subst h;exact .weak _ _ _ rfl
def Pq(c:fy)(h:Xh c)(ht:c.kind=1->TxR c.table)(h1k:1<=c.kind)(h9:c.kind<=9): aH aE 16 [dF c] (bI (dZ c)):=by
 obtain⟨h1,h2,h3,h4,h5,h6⟩:=h;have i1:=pB h3;have i2:=pB h5;have i3:=pB h6;have c1:=qi c.ver h3.1 h3.2;have c2:=qi c.iw h5.1 h5.2;have c3:=qi c.jZ h6.1 h6.2;have hrow:=h4.1;have hro:=zW h4;by_cases k1:c.kind=1
 ·have ct:=Pp c.table (ht k1);have e:dZ c=pL c.table:=by unfold dZ;rw[if_pos k1]
  rw[e];generalize pL c.table=L at *;simp only[cD,fg,bP,dV,bI]at ct;simp only[dF,fE,bI];refine aJ kY ?_;intro Q au aA aB;repeat' first|simp (disch:=omega) only[go_sem,au,aA,aB,k1]|refine aq ?_|refine ak ?_ ?_<;>intro hw<;>try omega|fail
  all_goals first|exact bh|exact eT jq|exact aL rfl (by simp)|skip
 by_cases k2:c.kind=2
 ·have e:dZ c=[jB (cH [k9,c.name,Lib.itoa c.ver]) c.row]:=by unfold dZ;rw[if_neg k1,if_pos k2]
  have c5:=CB c.row h4;have e0:c.row.length=0->[100,101,99,105,100,101,32]++c.name++[32]++Lib.itoa c.ver=jB (cH [k9,c.name,Lib.itoa c.ver]) c.row:=fun e=>by simp[kV,jB,e]
  have e1:c.row.length≠0->[100,101,99,105,100,101,32]++c.name++[32]++Lib.itoa c.ver++[32]++nX c.row=jB (cH [k9,c.name,Lib.itoa c.ver]) c.row:=fun e=>by simp only[kV,jB];rw[if_neg e];simp
  rw[e];generalize jB (cH [k9,c.name,Lib.itoa c.ver]) c.row=z at *;generalize Lib.itoa c.ver=t at *;generalize nX c.row=w at *;simp only[cU]at c5;simp only[dF,fE,bI,aR,bu,bj];refine aJ kY ?_;intro Q au aA aB;repeat' first|simp (disch:=omega) only[go_sem,au,aA,aB,k2]|refine aq ?_|refine ak ?_ ?_<;>intro hw<;>try omega|fail
  all_goals first|exact bh|(refine eT ?_;exact wk (e0 (by omega)))|(refine eT ?_;exact wk (e1 (by omega)))|skip
 by_cases k3:c.kind=3
 ·have e:dZ c=[cH [nx,c.name,Lib.itoa c.ver]]:=by unfold dZ;rw[if_neg k1,if_neg k2,if_pos k3]
  have e0 : [118,101,114,115,105,111,110,32]++c.name++[32]++Lib.itoa c.ver=cH [nx,c.name,Lib.itoa c.ver]:=by simp[kV]
  rw[e];generalize cH [nx,c.name,Lib.itoa c.ver]=w at *;generalize Lib.itoa c.ver=t at *;simp only[dF,fE,bI,aR,bu,bj];refine aJ kY ?_;intro Q au aA aB;repeat' first|simp (disch:=omega) only[go_sem,au,aA,aB,k3]|refine aq ?_|refine ak ?_ ?_<;>intro hw<;>try omega|fail
  all_goals first|exact bh|(refine eT ?_;exact wk e0)|skip
 by_cases k5:c.kind=5
 ·have e:dZ c=[cH [rZ,Lib.itoa c.iw,Lib.itoa c.jZ]]:=by unfold dZ;rw[if_neg k1,if_neg k2,if_neg k3,if_pos k5]
  have e0 : [108,111,103,32]++Lib.itoa c.iw++[32]++Lib.itoa c.jZ=cH [rZ,Lib.itoa c.iw,Lib.itoa c.jZ]:=by simp[kV]
  rw[e];generalize cH [rZ,Lib.itoa c.iw,Lib.itoa c.jZ]=w at *;generalize Lib.itoa c.iw=t at *;generalize Lib.itoa c.jZ=u at *;simp only[dF,fE,bI,aR,bu,bj];refine aJ kY ?_;intro Q au aA aB;repeat' first|simp (disch:=omega) only[go_sem,au,aA,aB,k5]|refine aq ?_|refine ak ?_ ?_<;>intro hw<;>try omega|fail
  all_goals first|exact bh|(refine eT ?_;exact wk e0)|skip
 by_cases k6:c.kind=6
 ·have e:dZ c=[cH [ny,Lib.itoa c.iw]]:=by unfold dZ;rw[if_neg k1,if_neg k2,if_neg k3,if_neg k5,if_pos k6]
  have e0 : [99,111,109,112,97,99,116,32]++Lib.itoa c.iw=cH [ny,Lib.itoa c.iw]:=by simp[Ko]
  rw[e];generalize cH [ny,Lib.itoa c.iw]=w at *;generalize Lib.itoa c.iw=t at *;simp only[dF,fE,bI,aR,bu,bj];refine aJ kY ?_;intro Q au aA aB;repeat' first|simp (disch:=omega) only[go_sem,au,aA,aB,k6]|refine aq ?_|refine ak ?_ ?_<;>intro hw<;>try omega|fail
  all_goals first|exact bh|(refine eT ?_;exact wk e0)|skip
 have e:dZ c=[lB c.kind]:=by unfold dZ;rw[if_neg k1,if_neg k2,if_neg k3,if_neg k5,if_neg k6]
 rw[e];have hk:c.kind=4\/c.kind=7\/c.kind=8\/c.kind=9:=by omega
 have p4:lB 4=[108,105,115,116]:=rfl;have p7:lB 7=[97,117,100,105,116]:=rfl;have p8:lB 8=[109,97,114,107]:=rfl;have p9:lB 9=[115,121,110,99]:=rfl;simp only[dF,fE,bI,aR,bu,bj];rcases hk with k|k|k|k
 all_goals
  rw[k];first|rw[p4]|rw[p7]|rw[p8]|rw[p9]
  refine aJ kY ?_;intro Q au aA aB;repeat' first|refine aq ?_|refine ak ?_ ?_<;>intro hw<;>try omega|fail
  all_goals first|exact bh|exact eT jq|skip
def US{c:fy}(ok:jX c)(h:fq c=0)(hk:c.kind=1): TxR c.table:=by
 obtain⟨k1,k2,k3,k4,k5⟩:=tB h;have hc:=NS (k1 hk);obtain⟨f1,f2,f3,f4,f5⟩:=nA hc.frame;obtain⟨p1,p2,p3,p4,p5⟩:=Cu f4;exact⟨UH hc (N3 ok.2.1),p1,fun c kR=>(Cv hc kR).2.1,fun c kR=>(zV hc kR).2.1⟩
def Sn(l:List fy)(hl:l.length<=2 ^ 30)(ok:∀ c ∈ l,jX c): aH aE 10 [lH l] (eB (n_ l)):=by
 obtain⟨E,hE⟩:∃ E,n_ l=E:=⟨_,rfl⟩;rw[hE];simp only[eB,lH];refine aJ KH ?_;intro Q au aA aB;by_cases hbig:64<l.length
 ·repeat' first|refine aq ?_|refine ak ?_ ?_<;>intro hw<;>try omega|fail
  all_goals first|exact bh|(refine bp ?_ rfl;rw[<-hE];unfold n_;rw[if_pos hbig];done)|skip
 repeat' first|refine aq ?_|refine ak ?_ ?_<;>intro hw<;>try omega|fail
 all_goals first|exact bh|skip
 with_reducible refine bn [2,3,4,5,6,7,8,12,13,14,15,16,17,18,19,20,21,22,23,24,25,26,27,28,29,30,31,32,33,34,35,36,37,38,39,40,41,42,43] (fun i:Nat=>[(5,I i),(4,.str (jF (l.take i)))]) (fun _=>[]) (fun i=>i<=l.length/\(∀ k,k<i->fq (l.getD k default)=0)/\(jF (l.take i)).length<=i*2 ^ 28) (fun i=>l.length-i) 0 ⟨bD _,fun k hk=>by omega,by simp[jF]⟩ rfl ?_ ?_
 ·exact at_
 rintro i r ⟨g1,g2,g4⟩;by_cases hi:i<l.length
 ·have UU:=ok _ (aV hi);have hc:=Pk _ UU;have eW:jF (l.take (i+1))=jF (l.take i)++fX (dZ (l.getD i default)):=by rw[take_succ hi,Hx]
  have bV:=fun he=>aY (q:=fun k=>fq (l.getD k default)=0) g2 (i:=i) he;have DZ:=Ku (by omega) hi g2;obtain⟨v,kU⟩:∃ v,l.getD i default=v:=⟨_,rfl⟩;rw[kU]at hc UU eW bV DZ;by_cases h0:fq v=0
  ·obtain⟨k1,k2,k3,k4,k5⟩:=tB h0;have cl:=Pq v (s_ UU h0) (US UU h0) k2 k3;have t2:=Fu UU h0;rw[h0]at hc;have bV:=bV h0;clear DZ;generalize dZ v=ls at *;have hls:=Qu ls;have hT:jF (l.take i)++fX (ls.take 0)=jF (l.take i):=by simp[fX]
   generalize jF (l.take i)=T at *;simp only[dF,fE,bI]at hc cl;repeat' first|simp (disch:=omega) only[go_sem,au,aA,aB,kU]|refine aq ?_|refine ak ?_ ?_<;>intro hw<;>try omega|fail
   all_goals first|exact bh|skip
   with_reducible refine bn [4,8,31,32,33,34,35,36,37,38,39,40,41,42,43] (fun j:Nat=>[(8,I j),(4,.str (T++fX (ls.take j)))]) (fun _=>[]) (fun j=>j<=ls.length) (fun j=>ls.length-j) 0 (bD _) rfl ?_ ?_
   ·rw[hT];exact at_
   rintro j r1 k1;by_cases hj:j<ls.length
   ·have xO:=Kv hj T;have hft:=Az ls (j+1);have hfl:=congrArg List.length xO;simp only[aC,List.length_cons,List.length_nil]at hfl;obtain⟨z,hz⟩:∃ z,ls.getD j default=z:=⟨_,rfl⟩;rw[hz]at xO hfl;have gz:(List.map bj ls).getD j .undef = .str z:=by rw[getD_map _ _ _ hj,hz];rfl
    have Si:i*2 ^ 28<=64*2 ^ 28:=bE _ (by omega);have hU:(T++fX (ls.take j)).length=T.length+(fX (ls.take j)).length:=aC;have adV:∀ U:aG,U++(z++[10])=U++z++[10]:=fun U=>by simp
    rw[adV]at xO;generalize T++fX (ls.take j)=U at *;have hlen:U.length+z.length<=2 ^ 38:=by omega
    repeat' first|simp (disch:=omega) only[go_sem,au,aA,aB,gz,hz]|refine aq ?_|refine ak ?_ ?_<;>intro hw<;>try omega|fail
    all_goals first|exact bh|skip
    refine⟨j+1,by dsimp only;omega,by dsimp only;omega,rfl,bL,?_⟩;clear hfl hft hU Si hlen gz g4;dsimp only;rw[xO];exact at_
   ·obtain rfl:j=ls.length:=by omega
    have e:ls.take ls.length=ls:=List.take_length ..;rw[e];repeat' first|refine aq ?_|refine ak ?_ ?_<;>intro hw<;>try omega|fail
    refine⟨i+1,⟨by omega,bV,?_⟩,by dsimp only;omega,rfl,bL,?_⟩
    ·rw[eW,aC];omega
    ·dsimp only;rw[eW];exact at_
  ·have DZ:=DZ h0;rw[hE]at DZ;generalize fq v=e at *;simp only[dF,fE]at hc;repeat' first|simp (disch:=omega) only[go_sem,au,aA,aB,kU]|refine aq ?_|refine ak ?_ ?_<;>intro hw<;>try omega|fail
   all_goals first|exact bh|(refine bp ?_ rfl;rw[DZ];done)|skip
 ·obtain rfl:i=l.length:=by omega
  have e:l.take l.length=l:=List.take_length ..
  have hs:=NR (l:=l) (by omega) (fun c hc=>by
   obtain⟨k,hk,rfl⟩:=bA hc;have:=g2 k hk;simpa[aj,hk]using this)
  rw[hE]at hs;rw[e];repeat' first|refine aq ?_|refine ak ?_ ?_<;>intro hw<;>try omega|fail
  all_goals first|exact bh|(refine bp ?_ rfl;rw[hs];done)|skip
def Yo{n:Int}(h:0<=n/\n<=255): ∃ y:UInt8,n=y.toNat:=by
 refine⟨UInt8.ofNat n.toNat,?_⟩;rw[UInt8.toNat_ofNat'];omega
