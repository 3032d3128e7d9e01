/- Part. -/
import Derived.Test.YtcjcnfcedihckaaGreatDoorW35
set_option linter.all false
set_option maxHeartbeats 8000000
namespace Go.Proofs.YtcjcnfcedihckaaGreatDoor
open Go.AM
set_option maxRecDepth 4000
structure Z3 (c:ef):Prop where
 tab:c.kind=1->Ie c.table
 name:c.name.length<=2 ^ 20
 ver:iu c.ver
 row:OW c.row
 jF:iu c.jF
 l9:iu c.l9
def qA{n:Int}(h:iu n): (Lib.itoa n).length<=2 ^ 20:=by
 have:=F2 n h.1 h.2;omega
def Dz(c:ef)(h:Z3 c): aM aK 20 [dU c] (bM (cC c)):=by
 obtain⟨h1,h2,h3,h4,h5,h6⟩:=h;have i1:=qA h3;have i2:=qA h5;have i3:=qA h6;have c1:=strconv_Itoa c.ver h3.1 h3.2;have c2:=strconv_Itoa c.jF h5.1 h5.2;have c3:=strconv_Itoa c.l9 h6.1 h6.2;have hrow:=h4.1;by_cases k1:c.kind=1
 ·have ct:=xK c.table (h1 k1);have e:cC c=gO c.table:=by unfold cC;rw[if_pos k1]
  rw[e];generalize gO c.table=L at *;simp only[dS,gQ,cH,eA,bM]at ct;simp only[dU,iL,bM];refine aR lB ?_;intro Q aC aD aE;repeat' first|simp (disch:=omega) only[go_sem,aC,aD,aE,k1]|refine aG ?_|refine aF ?_ ?_<;>intro hw<;>try omega|fail
  all_goals first|exact bK|exact fg gM|exact aS rfl (by simp)|skip
 by_cases k2:c.kind=2
 ·have e:cC c=[fq (bQ [iW,c.name,Lib.itoa c.ver]) c.row]:=by unfold cC;rw[if_neg k1,if_pos k2]
  have c4:=lf [iW,c.name,Lib.itoa c.ver] (by simp) (cE (oJ (by simp) (by omega) (by omega)) (by decide));have hl:(bQ [iW,c.name,Lib.itoa c.ver]).length<=2 ^ 30:=oJ (by simp) (by omega) (by omega);have c5:=BD (bQ [iW,c.name,Lib.itoa c.ver]) c.row hl h4;rw[e];generalize bQ [iW,c.name,Lib.itoa c.ver]=w at *;generalize fq w c.row=z at *;generalize Lib.itoa c.ver=t at *;simp only[bM,dh,aU,bf,bB]at c4 c5;simp only[dU,iL,bM,aU,bf,bB];refine aR lB ?_;intro Q aC aD aE;repeat' first|simp (disch:=omega) only[go_sem,aC,aD,aE,k2]|refine aG ?_|refine xj c4 ?_|refine aF ?_ ?_<;>intro hw<;>try omega|fail
  all_goals first|exact bK|exact fg gM|exact fg (View.vec rfl rfl rfl rfl)|skip
 by_cases k3:c.kind=3
 ·have e:cC c=[bQ [jX,c.name,Lib.itoa c.ver]]:=by unfold cC;rw[if_neg k1,if_neg k2,if_pos k3]
  have c4:=lf [jX,c.name,Lib.itoa c.ver] (by simp) (cE (oJ (by simp) (by omega) (by omega)) (by decide));rw[e];generalize bQ [jX,c.name,Lib.itoa c.ver]=w at *;generalize Lib.itoa c.ver=t at *;simp only[bM,aU,bf,bB]at c4;simp only[dU,iL,bM,aU,bf,bB];refine aR lB ?_;intro Q aC aD aE;repeat' first|simp (disch:=omega) only[go_sem,aC,aD,aE,k3]|refine aG ?_|refine xj c4 ?_|refine aF ?_ ?_<;>intro hw<;>try omega|fail
  all_goals first|exact bK|exact fg gM|exact fg (View.vec rfl rfl rfl rfl)|skip
 by_cases k5:c.kind=5
 ·have e:cC c=[bQ [qO,Lib.itoa c.jF,Lib.itoa c.l9]]:=by unfold cC;rw[if_neg k1,if_neg k2,if_neg k3,if_pos k5]
  have c4:=lf [qO,Lib.itoa c.jF,Lib.itoa c.l9] (by simp) (cE (oJ (by simp) (by omega) (by omega)) (by decide));rw[e];generalize bQ [qO,Lib.itoa c.jF,Lib.itoa c.l9]=w at *;generalize Lib.itoa c.jF=t at *;generalize Lib.itoa c.l9=u at *;simp only[bM,aU,bf,bB]at c4;simp only[dU,iL,bM,aU,bf,bB];refine aR lB ?_;intro Q aC aD aE;repeat' first|simp (disch:=omega) only[go_sem,aC,aD,aE,k5]|refine aG ?_|refine xj c4 ?_|refine aF ?_ ?_<;>intro hw<;>try omega|fail
  all_goals first|exact bK|exact fg gM|exact fg (View.vec rfl rfl rfl rfl)|skip
 by_cases k6:c.kind=6
 ·have e:cC c=[bQ [jz,Lib.itoa c.jF]]:=by unfold cC;rw[if_neg k1,if_neg k2,if_neg k3,if_neg k5,if_pos k6]
  have c4:=lf [jz,Lib.itoa c.jF] (by simp) (by rw[yE];simp;omega);rw[e];generalize bQ [jz,Lib.itoa c.jF]=w at *;generalize Lib.itoa c.jF=t at *;simp only[bM,aU,bf,bB]at c4;simp only[dU,iL,bM,aU,bf,bB];refine aR lB ?_;intro Q aC aD aE;repeat' first|simp (disch:=omega) only[go_sem,aC,aD,aE,k6]|refine aG ?_|refine xj c4 ?_|refine aF ?_ ?_<;>intro hw<;>try omega|fail
  all_goals first|exact bK|exact fg gM|exact fg (View.vec rfl rfl rfl rfl)|skip
 have e:cC c=[kI c.kind]:=by unfold cC;rw[if_neg k1,if_neg k2,if_neg k3,if_neg k5,if_neg k6]
 have c4:=Dy c.kind;rw[e];generalize kI c.kind=w at *;simp only[dU,iL,bM,aU,bf,bB];refine aR lB ?_;intro Q aC aD aE;repeat' first|refine aG ?_|refine aF ?_ ?_<;>intro hw<;>try omega|fail
 all_goals first|exact bK|exact fg gM|exact fg (View.vec rfl rfl rfl rfl)|skip
def WX{l:List ef}{i:Nat}(hl:l.length<=64)(hi:i<l.length)(hk:∀ k,k<i->dX (l.getD k default)=0)(h:dX (l.getD i default)≠0): kG l=([],dX (l.getD i default)):=by
 unfold kG;rw[if_neg (by omega),wO hi (fun k h=>by rw[hk k h];rfl) (by simpa using h)]
def LD{ls:List aI}{j:Nat}(hj:j<ls.length)(x:aI): x++cP (ls.take (j+1))=(x++cP (ls.take j))++(ls.getD j default++[10]):=by
 rw[take_succ hj];simp[cP]
def RN(ls:List aI): ls.length<=(cP ls).length:=by
 induction ls with
 | nil=>simp
 | cons s l ih =>
   have e:cP (s::l)=s++(10::cP l):=by simp[cP]
   rw[e,aA,List.length_cons,List.length_cons];omega
def BE(ls:List aI)(j:Nat): (cP (ls.take j)).length<=(cP ls).length:=vA _ ls j
set_option maxRecDepth 20000 in
def E6(l:List ef)(hl:l.length<=2 ^ 30)(ok:∀ c ∈ l,g_ c)(tx:∀ c ∈ l,dX c=0->Z3 c/\(cP (cC c)).length<=2 ^ 28): aM aK 9 [jG l] (eB (kG l)):=by
 obtain⟨E,hE⟩:∃ E,kG l=E:=⟨_,rfl⟩;rw[hE];simp only[eB,jG];refine aR I9 ?_;intro Q aC aD aE;by_cases hbig:64<l.length
 ·repeat' first|refine aG ?_|refine aF ?_ ?_<;>intro hw<;>try omega|fail
  all_goals first|exact bK|(refine cj ?_ rfl;rw[<-hE];unfold kG;rw[if_pos hbig];done)|skip
 have hb0:mG TB [.cg (some TB) [.iX,.au]] 0 []:=⟨_,_,rfl,.inl rfl,.inl ⟨rfl,rfl⟩⟩;repeat' first|refine aG ?_|refine aF ?_ ?_<;>intro hw<;>try omega|fail
 all_goals first|exact bK|skip
 with_reducible refine bX [2,3,6,7,9,15,16,17,18,19,20,21,22,23,24,25,26,27,28,29,30,31,32,33,34,35] (fun x:Nat × ae=>[(15,I x.1)]) (fun x=>x.2) (fun x=>x.1<=l.length/\(∀ k,k<x.1->dX (l.getD k default)=0)/\mG TB x.2 0 (dK (l.take x.1))/\(dK (l.take x.1)).length<=x.1*2 ^ 28) (fun x=>l.length-x.1) (0,_) ⟨bJ _,fun k hk=>by omega,hb0,by simp[dK]⟩ rfl ?_ ?_
 ·exact at_
 clear hb0;rintro⟨i,σ⟩ r ⟨g1,g2,g3,g4⟩;dsimp only at g1 g2 g3 g4;by_cases hi:i<l.length
 ·have hc:=By _ (ok _ (bH hi));have zO:=tx _ (bH hi);have ja:dK (l.take (i+1))=dK (l.take i)++cP (cC (l.getD i default)):=by rw[take_succ hi,wE]
  have de:=fun he=>bP (q:=fun k=>dX (l.getD k default)=0) g2 (i:=i) he;have her:=WX (by omega) hi g2;obtain⟨v,nn⟩:∃ v,l.getD i default=v:=⟨_,rfl⟩;rw[nn]at hc zO ja de her;by_cases h0:dX v=0
  ·obtain⟨t1,t2⟩:=zO h0;have cl:=Dz v t1;rw[h0]at hc;have de:=de h0;clear her zO;generalize cC v=ls at *;have hls:=RN ls;generalize dK (l.take i)=T at *;simp only[dU,iL,bM]at hc cl;repeat' first|simp (disch:=omega) only[go_sem,aC,aD,aE,nn]|refine aG ?_|refine aF ?_ ?_<;>intro hw<;>try omega|fail
   all_goals first|exact bK|skip
   with_reducible refine bX [9,27,28,29,30,31,32,33,34] (fun x:Nat × ae=>[(27,I x.1)]) (fun x=>x.2) (fun x=>x.1<=ls.length/\mG TB x.2 0 (T++cP (ls.take x.1))) (fun x=>ls.length-x.1) (0,_) ⟨bJ _,by simpa[cP]using g3.push _⟩ rfl ?_ ?_
   ·exact at_
   rintro⟨j,σ1⟩ r1 ⟨k1,k2⟩;dsimp only at k1 k2;by_cases hj:j<ls.length
   ·have xX:=LD hj T;have hft:=BE ls (j+1);have hfl:=congrArg List.length xX;simp only[aA,List.length_cons,List.length_nil]at hfl;obtain⟨z,hz⟩:∃ z,ls.getD j default=z:=⟨_,rfl⟩;rw[hz]at xX hfl;have gz:(List.map bB ls).getD j .undef = .str z:=by rw[getD_map _ _ _ hj,hz];rfl
    have adl:i*2 ^ 28<=64*2 ^ 28:=aY _ (by omega);have hU:(T++cP (ls.take j)).length=T.length+(cP (ls.take j)).length:=aA;generalize T++cP (ls.take j)=U at *;have hlen:U.length+z.length<=2 ^ 38:=by omega
    repeat' first|simp (disch:=omega) only[go_sem,aC,aD,aE,gz,hz]|refine aG ?_|refine aF ?_ ?_<;>intro hw<;>try omega|fail
    with_reducible refine cA (Builder_WriteString uA _ 0 _ z k2 hlen) ?_
    all_goals first|exact bK|skip
    rintro o σ2 ⟨rfl,gP,_⟩;repeat' first|refine aG ?_|with_reducible refine cA (Builder_WriteByte uA _ 0 _ 10 10 rfl gP (by simp;omega)) ?_|refine aF ?_ ?_<;>intro hw<;>try omega|fail
    all_goals first|exact bK|skip
    rintro o σ3 ⟨rfl,tG,_⟩;repeat' first|refine aG ?_|refine aF ?_ ?_<;>intro hw<;>try omega|fail
    refine⟨(j+1,σ3),⟨by dsimp only;omega,?_⟩,by dsimp only;omega,rfl,da,?_⟩
    ·dsimp only;rw[xX];simpa using tG
    ·clear xX hfl hft hU adl hlen gP tG gz k2 g4;dsimp only;exact at_
   ·obtain rfl:j=ls.length:=by omega
    rw[bp (by omega)]at k2;repeat' first|refine aG ?_|refine aF ?_ ?_<;>intro hw<;>try omega|fail
    refine⟨(i+1,σ1),⟨by dsimp only;omega,de,by dsimp only;rw[ja];exact k2,?_⟩,by dsimp only;omega,rfl,da,?_⟩
    ·dsimp only;rw[ja,aA];omega
    ·exact at_
  ·rw[her h0]at hE;clear zO;generalize dX v=e at *;simp only[dU,iL]at hc;repeat' first|simp (disch:=omega) only[go_sem,aC,aD,aE,nn]|refine aG ?_|refine aF ?_ ?_<;>intro hw<;>try omega|fail
   all_goals first|exact bK|(refine cj ?_ rfl;rw[<-hE];done)|skip
 ·obtain rfl:i=l.length:=by omega
  have ht:l.take l.length=l:=bp (by omega);rw[ht]at g3 g4;rw[A6 (by omega) (agB (fun k hk=>g2 k hk))]at hE;have adl:l.length*2 ^ 28<=64*2 ^ 28:=aY _ (by omega);generalize dK l=T at *;repeat' first|refine aG ?_|with_reducible refine cA (Builder_String _ 0 _ g3 (by omega)) ?_|refine aF ?_ ?_<;>intro hw<;>try omega|fail
  all_goals first|exact bK|skip
  rintro o σ2 ⟨rfl,_⟩;repeat' first|refine aG ?_|refine aF ?_ ?_<;>intro hw<;>try omega|fail
  all_goals first|exact bK|(refine cj ?_ rfl;rw[<-hE];done)|skip
def wG(s:aI): iu (gk s).1:=by
 unfold gk;cases h:Lib.atoiAll s
 case ok n =>
  dsimp only;split
  ·obtain⟨a,b⟩:=Lib.atoiAll_bounds h;exact⟨by omega,by omega⟩
  ·exact k_
 all_goals exact k_
def DA(s:aI)(hs:s.length<=2 ^ 40): aM aK 184 [.str s] (.bU [fD (rA s),.bool (gk s).2]):=by
 have c1:=strconv_Atoi s hs;unfold rA gk;unfold T2 at c1;cases h:Lib.atoiAll s
 case ok n =>
  obtain⟨a,b⟩:=Lib.atoiAll_bounds h;have c2:=strconv_Itoa n (by omega) (by omega);rw[h]at c1;dsimp only at c1 ⊢;by_cases ht:Lib.itoa n=s
  ·simp only[if_pos ht,if_true];generalize Lib.itoa n=t at *;have hne:om NK.i AV.jn AV.jn=some true:=rfl;simp only[fD];refine aR tg ?_;intro Q aC aD aE;repeat' first|simp (disch:=omega) only[go_sem,aC,aD,aE,hne]|refine aG ?_|refine aF ?_ ?_<;>intro hw<;>try omega|fail
   all_goals first|exact bK|exact cK gM|skip
  ·simp only[if_neg ht,aB,if_false];generalize Lib.itoa n=t at *;have hne:om NK.i AV.jn AV.jn=some true:=rfl;simp only[fD,v0];refine aR tg ?_;intro Q aC aD aE;repeat' first|simp (disch:=omega) only[go_sem,aC,aD,aE,hne]|refine aG ?_|refine aF ?_ ?_<;>intro hw<;>try omega|fail
   all_goals first|exact bK|exact cK gM|skip
 all_goals
  rw[h]at c1;dsimp only at c1 ⊢;simp only[aB,if_false,fD,v0];have hne:om NK.i (AV.kP TNE AV.undef) AV.jn=some false:=rfl;refine aR tg ?_;intro Q aC aD aE;repeat' first|simp (disch:=omega) only[go_sem,aC,aD,aE,hne]|refine aG ?_|refine aF ?_ ?_<;>intro hw<;>try omega|fail
  all_goals first|exact bK|exact cK gM|skip
def Y1(s:aI): (rA s).n=(gk s).1:=by
 unfold rA;split
 ·rfl
 ·rename_i h;unfold gk at h ⊢;cases ha:Lib.atoiAll s
  case ok n =>
   rw[ha]at h;dsimp only at h ⊢;split
   ·rename_i h2;rw[if_pos h2]at h;exact absurd rfl h
   ·rfl
  all_goals rfl
def vO(s:aI)(hs:s.length<=2 ^ 40): aM aK 151 [.str s] (.bU [I (gk s).1,.bool (gk s).2]):=by
 have c1:=DA s hs;have hn:=Y1 s;rw[<-hn];generalize rA s=v at *;generalize (gk s).2=b at *;simp only[fD]at c1;refine aR FL ?_;intro Q aC aD aE;repeat' first|refine aG ?_|refine aF ?_ ?_<;>intro hw<;>try omega|fail
 all_goals first|exact bK|exact cK gM|skip
def Ih(s:aI): bZ (rY s)=true/\iu (rY s).n/\(rY s).s.length<=40:=by
 have hr:=RA s;have ho:=wP s;have z:bZ v0=true/\iu v0.n/\v0.s.length<=40:=⟨by decide,k_,by decide⟩;unfold rY;split
 ·exact z
 generalize (bN s).1.length-1=q;obtain⟨r1,r2⟩:=hr q;obtain⟨o1,o2,o3⟩:=ho q;generalize (bN s).1.getD q default=t at *;split
 ·rename_i hk;have hp:=r2 hk;refine⟨by simp[bZ,hp],k_,?_⟩;simp only[gK,aq,decide_eq_true_eq]at hp;exact hp.1
 split
 ·rename_i hk;have hp:=r1 hk;refine⟨by simp[bZ],?_,by simp⟩;dsimp only;split
  ·exact⟨by omega,by omega⟩
  ·exact⟨by omega,by omega⟩
 split
 ·exact⟨by decide,⟨by decide,by decide⟩,by decide⟩
 split
 ·exact⟨by decide,⟨by decide,by decide⟩,by decide⟩
 ·exact z
def WY{T:List Tok}(h:1<=T.length): (T.map o8).getD ((T.length:Int)-1).toNat .undef=o8 (T.getD (T.length-1) default):=by
 have e:((T.length:Int)-1).toNat=T.length-1:=by omega
 rw[e,getD_map _ _ _ (by omega)]
def JW(s:aI)(hs:s.length<=2 ^ 30): aM aK 183 [.str s] (.bU [fD (rY s),.bool (xD s)]):=by
 have c1:=Jt s hs;obtain⟨q1,q2,q3⟩:=Ih s;have c2:=AS (rY s) q2.1 q2.2 q1;have hlen:=(oB s).1;have uW:=fun h=>WY (T:=(bN s).1) h;obtain⟨_,o2,o3⟩:=wP s ((bN s).1.length-1);have hpos:=(RA s ((bN s).1.length-1)).1;unfold xD
 have hV:rY s=if(bN s).2.2≠0\/(bN s).1.length<1\/2<(bN s).1.length then v0
  else if((bN s).1.getD ((bN s).1.length-1) default).kind=3 then⟨2,0,((bN s).1.getD ((bN s).1.length-1) default).s⟩
  else if((bN s).1.getD ((bN s).1.length-1) default).kind=2 then⟨1,if(bN s).1.length=2 then -((bN s).1.getD ((bN s).1.length-1) default).n else((bN s).1.getD ((bN s).1.length-1) default).n,[]⟩
  else if((bN s).1.getD ((bN s).1.length-1) default).s=pD then⟨3,1,[]⟩
  else if((bN s).1.getD ((bN s).1.length-1) default).s=mY then⟨3,0,[]⟩else v0:=rfl
 generalize bN s=L at *;obtain⟨T,at_',er⟩:=L;dsimp only at *;simp only[NJ,tj]at c1;by_cases CV:er≠0\/T.length<1\/2<T.length
 ·rw[if_pos CV]at hV ⊢;rw[hV];clear c2 hV uW;simp only[fD,v0];refine aR jx ?_;intro Q aC aD aE;repeat' first|refine aG ?_|refine aF ?_ ?_<;>intro hw<;>try omega|fail
  all_goals first|exact bK|exact cK gM|skip
 rw[if_neg CV]at hV ⊢;have uW:=uW (by omega);have he:er=0:=by omega
 generalize T.getD (T.length-1) default=t at *;obtain⟨tk,ts,tn,tp⟩:=t;dsimp only at *;simp only[o8]at uW;have hcmp:∀ w:aI,decide (w=s)=(w==s):=fun w=>by rw[a_];simp
 rw[hcmp];by_cases k3:tk=3
 ·rw[if_pos k3]at hV;rw[hV]at c2 ⊢;generalize dO _=w at *;simp only[fD]at c2 ⊢;refine aR jx ?_;intro Q aC aD aE;repeat' first|simp (disch:=omega) only[go_sem,aC,aD,aE,uW]|refine aG ?_|refine aF ?_ ?_<;>intro hw<;>try omega|fail
  all_goals first|exact bK|exact cK gM|skip
 rw[if_neg k3]at hV;by_cases k2:tk=2
 ·rw[if_pos k2]at hV;by_cases l2:T.length=2
  ·have hz : -tn=0-tn:=by omega
   have hpos:=hpos k2;rw[if_pos l2,hz]at hV;rw[hV]at c2 ⊢;generalize dO _=w at *;simp only[fD]at c2 ⊢;refine aR jx ?_;intro Q aC aD aE;repeat' first|simp (disch:=omega) only[go_sem,aC,aD,aE,uW]|refine aG ?_|refine aF ?_ ?_<;>intro hw<;>try omega|fail
   all_goals first|(exfalso;omega)|(exfalso;contradiction)|exact cK gM|skip
  ·rw[if_neg l2]at hV;rw[hV]at c2 ⊢;generalize dO _=w at *;simp only[fD]at c2 ⊢;refine aR jx ?_;intro Q aC aD aE;repeat' first|simp (disch:=omega) only[go_sem,aC,aD,aE,uW]|refine aG ?_|refine aF ?_ ?_<;>intro hw<;>try omega|fail
   all_goals first|exact bK|exact cK gM|skip
 rw[if_neg k2]at hV;by_cases kt:ts=pD
 ·rw[if_pos kt]at hV;rw[hV]at c2 ⊢;generalize dO _=w at *;simp only[fD]at c2 ⊢;have hl:(5:Int)-(ts.length:Int)=1:=by rw[kt];rfl
  have kt':ts=[116,114,117,101]:=kt;refine aR jx ?_;intro Q aC aD aE;repeat' first|simp (disch:=omega) only[go_sem,aC,aD,aE,uW,hl]|refine aG ?_|refine aF ?_ ?_<;>intro hw<;>try omega|fail
  all_goals first|exact bK|exact cK gM|skip
 rw[if_neg kt]at hV;by_cases kf:ts=mY
 ·rw[if_pos kf]at hV;rw[hV]at c2 ⊢;generalize dO _=w at *;simp only[fD]at c2 ⊢;have hl:(5:Int)-(ts.length:Int)=0:=by rw[kf];rfl
  have kf':ts=[102,97,108,115,101]:=kf;refine aR jx ?_;intro Q aC aD aE;repeat' first|simp (disch:=omega) only[go_sem,aC,aD,aE,uW,hl]|refine aG ?_|refine aF ?_ ?_<;>intro hw<;>try omega|fail
  all_goals first|exact bK|exact cK gM|skip
 rw[if_neg kf]at hV;have kt':¬ ts=[116,114,117,101]:=kt;have kf':¬ ts=[102,97,108,115,101]:=kf;rw[hV]at c2 ⊢;generalize dO _=w at *;simp only[fD,v0]at c2 ⊢;refine aR jx ?_;intro Q aC aD aE;repeat' first|simp (disch:=omega) only[go_sem,aC,aD,aE,uW]|refine aG ?_|refine aF ?_ ?_<;>intro hw<;>try omega|fail
 all_goals first|exact bK|exact cK gM|skip
def T5(y:UInt8): ∀(s cur:aI) (w:Bool),(eD y w cur s).length<=s.length+1/\ ∀ z ∈ eD y w cur s,z.length<=cur.length+s.length:=by
 have ht:∀ s:aI,(oF s).length<=s.length:=fun s=>by
  unfold oF Lib.trimB Lib.trimLeftB Lib.trimRightB;have a:=(List.dropWhile_sublist (· ==(32:UInt8)) (l:=(s.reverse.dropWhile (· == 32)).reverse)).length_le;have b:=(List.dropWhile_sublist (· ==(32:UInt8)) (l:=s.reverse)).length_le;simp only[List.length_reverse]at a b;omega
 intro s
 induction hn:s.length using Nat.strongRecOn generalizing s with
 | _ n ih =>
   intro cur w;cases s with
   | nil =>
     have:=ht cur;cases w<;>simp[eD]<;>omega
   | cons c r =>
     rw[List.length_cons]at hn;cases w with
     | true =>
       cases r with
       | nil =>
         have:=ht (cur++[c]);simp only[aA,List.length_cons,List.length_nil]at this;simp[eD];omega
       | cons d r =>
         rw[List.length_cons]at hn;rw[eD];split
         ·obtain⟨a,b⟩:=ih r.length (by omega) r rfl (cur++[c,d]) true;refine⟨by omega,fun z hz=>?_⟩;have:=b z hz;simp only[aA,List.length_cons,List.length_nil]at this ⊢;omega
         ·obtain⟨a,b⟩:=ih (d::r).length (by simp;omega) (d::r) rfl (cur++[c]) (decide (c.toNat≠34));refine⟨by simp only[List.length_cons]at *;omega,fun z hz=>?_⟩;have:=b z hz;simp only[aA,List.length_cons,List.length_nil]at this ⊢;omega
     | false =>
       rw[eD];split
       ·obtain⟨a,b⟩:=ih r.length (by omega) r rfl [] false;refine⟨by simp;omega,fun z hz=>?_⟩;rcases List.mem_cons.1 hz with rfl|hz
        ·have:=ht cur;simp;omega
        ·have:=b z hz;simp only[List.length_nil,List.length_cons]at this ⊢;omega
       ·obtain⟨a,b⟩:=ih r.length (by omega) r rfl (cur++[c]) (decide (c.toNat=34));refine⟨by omega,fun z hz=>?_⟩;have:=b z hz;simp only[aA,List.length_cons,List.length_nil]at this ⊢;omega
def sG(s:aI)(y:UInt8): (fO s y).length<=s.length+1/\ ∀ z ∈ fO s y,z.length<=s.length:=by
 have:=T5 y s [] false;simpa[fO]using this
def tP(s:aI): bZ (pg s)=true/\iu (pg s).n/\(pg s).s.length<=40:=by
 unfold pg;split
 ·exact Ih s
 ·unfold rA;split
  ·exact⟨by simp[bZ],wG s,by simp⟩
  ·exact⟨by decide,k_,by decide⟩
def LG{s:aI}(hs:s.length<=2 ^ 17): OW (kO s).1/\ ∀ v ∈ (kO s).1,v.s.length<=40:=by
 have h:=(sG s 44).1;unfold kO;split
 ·refine⟨⟨by simp;omega,fun v hv=>?_⟩,fun v hv=>?_⟩
  ·obtain⟨z,hz,rfl⟩:=cy.1 hv;exact⟨(tP z).1,(tP z).2.1⟩
  ·obtain⟨z,hz,rfl⟩:=cy.1 hv;exact(tP z).2.2
 ·exact⟨⟨by simp,fun v hv=>by cases hv⟩,fun v hv=>by cases hv⟩
def BG(s:aI)(hs:s.length<=2 ^ 17): aM aK 149 [.str s] (.bU [dh (kO s).1,.bool (kO s).2]):=by
 have c1:aM aK 12 [.str s,.int .u8 44] (bM (fO s 44)):=p_ s 44 (by omega);obtain⟨p1,p2⟩:=sG s 44;obtain⟨E,hE⟩:∃ E,kO s=E:=⟨_,rfl⟩;rw[hE];unfold kO at hE;generalize fO s 44=P at *;simp only[bM]at c1;simp only[dh];refine aR FK ?_;intro Q aC aD aE;repeat' first|refine aG ?_|refine aF ?_ ?_<;>intro hw<;>try omega|fail
 with_reducible refine bX [2,3,4,6,7,8,12,13,14,15,16,17,18,19,20,21,22,23,24,25,26,27,28,29,30,31,32,33,34] (fun q:Nat × List aZ=>[(12,I q.1),(4,.own EV 0 q.1 0 q.1)]) (fun q=> .vec EV (((P.take q.1).map pg).map fD)::q.2) (fun q=>q.1<=P.length/\ ∀ k,k<q.1->uV (P.getD k default)=true) (fun q=>P.length-q.1) ((0,[])) ?_ ?_ ?_ ?_
 ·simp
 ·rfl
 ·exact at_
 rintro⟨i,τ⟩ r ⟨g1,g2⟩;dsimp only at g1 g2;by_cases hi:i<P.length
 ·have hp:=p2 _ (bH hi);have ht:=take_succ hi;have de:=fun he=>bP (q:=fun k=>uV (P.getD k default)=true) g2 (i:=i) he;have kZ:(((P.take i).map pg).map fD).length=i:=by simp;omega
  have T6:uV (P.getD i default)=false->P.all uV=false:=fun h=>by
   rw[List.all_eq_false];exact⟨_,bH hi,by rw[h];decide⟩
  obtain⟨z,hz⟩:∃ z,P.getD i default=z:=⟨_,rfl⟩;rw[hz]at hp ht de T6;have c2:=JW z (by omega);have c3:=DA z (by omega);have ja:((P.take (i+1)).map pg).map fD=((P.take i).map pg).map fD++[fD (pg z)]:=by rw[ht];simp
  have hB:uV z=(xD z ||(gk z).2):=rfl;have hVv:pg z=if xD z=true then rY z else rA z:=rfl
  rw[hB]at de T6;rw[hVv]at ja;clear hB hVv;generalize rY z=a at *;generalize xD z=b at *;generalize rA z=c at *;generalize (gk z).2=d at *;simp only[fD]at c2 c3;cases b with
  | true =>
    rw[if_pos rfl]at ja;repeat' first|simp (disch:=omega) only[go_sem,aC,aD,aE,hz,kZ]|refine aG ?_|refine aF ?_ ?_<;>intro hw<;>try omega|fail
    all_goals first|exact bK|skip
    refine⟨(i+1,τ++[.cells [I a.kind,I a.n,.str a.s]]),?_,?_,?_,da,?_⟩
    ·exact⟨by dsimp only;omega,de rfl⟩
    ·dsimp only;omega
    ·dsimp only;rw[ja];first|done|rfl|(simp[go_sem];done)
    ·dsimp only;simp (disch:=omega) only[iS,gC,and_true,go_sem,aC,aD,aE,Int.natCast_add,Int.cast_ofNat_Int]<;>(try trivial)<;>(try omega)<;>(try (repeat (first|trivial|(refine And.intro ?_ ?_)|(congr 1;omega))))
  | false =>
    rw[if_neg (by decide)]at ja;cases d with
    | true =>
      repeat' first|simp (disch:=omega) only[go_sem,aC,aD,aE,hz,kZ]|refine aG ?_|refine aF ?_ ?_<;>intro hw<;>try omega|fail
      all_goals first|exact bK|skip
      refine⟨(i+1,τ++[.cells [I c.kind,I c.n,.str c.s]]),?_,?_,?_,da,?_⟩
      ·exact⟨by dsimp only;omega,de rfl⟩
      ·dsimp only;omega
      ·dsimp only;rw[ja];first|done|rfl|(simp[go_sem];done)
      ·dsimp only;simp (disch:=omega) only[iS,gC,and_true,go_sem,aC,aD,aE,Int.natCast_add,Int.cast_ofNat_Int]<;>(try trivial)<;>(try omega)<;>(try (repeat (first|trivial|(refine And.intro ?_ ?_)|(congr 1;omega))))
    | false =>
      rw[if_neg (by rw[T6 rfl];decide)]at hE;repeat' first|simp (disch:=omega) only[go_sem,aC,aD,aE,hz,kZ]|refine aG ?_|refine aF ?_ ?_<;>intro hw<;>try omega|fail
      all_goals first|exact bK|(rw[<-hE];exact cK (bS.cons (View.au _) (bS.refl rfl)))|skip
 ·have ht:P.take i=P:=bp (by omega)
  have Ac:P.all uV=true:=by
   rw[aX];intro z hz;obtain⟨k,hk,rfl⟩:=bz hz;have:=g2 k (by omega);simpa[aj,hk]using this
  rw[if_pos Ac]at hE;have c4:=Ic (P.map pg) ⟨by simp;omega,fun v hv=>by obtain⟨z,hz,rfl⟩:=cy.1 hv;exact⟨(tP z).1,(tP z).2.1⟩⟩;obtain⟨V,hV⟩:∃ V,P.map pg=V:=⟨_,rfl⟩;have hVl:V.length=P.length:=by rw[<-hV];simp
  rw[hV]at c4 hE;generalize lW V=w at *;simp only[dh]at c4;have hcmp:decide (w=s)=(w==s):=by rw[a_];simp
  rw[hcmp]at hE;obtain rfl:i=V.length:=by omega
  repeat' first|simp (disch:=omega) only[go_sem,aC,aD,aE,ht,hV]|refine aG ?_|refine xj c4 ?_|refine aF ?_ ?_<;>intro hw<;>try omega|fail
  all_goals first|exact bK|(rw[<-hE];refine cK (bS.cons (View.vec rfl (by simp) (by simp) (Vn _)) (bS.refl rfl));done)|skip
