/- Part. -/
import Derived.Test.YthakfmmgnjpmdaaGreatW39
set_option linter.all false
set_option maxHeartbeats 4000000
namespace Go.Proofs.YthakfmmgnjpmdaaGreat
open Go.AM
set_option maxRecDepth 4000
def nj(e:jl): List AV:=[.str e.table,I e.ver,aL e.input,I e.err,cJ e.rules,cu e.rows]
def iC(e:jl): AV:= .agg (nj e)
attribute [go_sem] lG cJ cu nj iC
def aai(e:jl): (iC e).cQ=true:=by simp[iC,nj,AV.cQ,AV.bG,MQ,MS]
attribute [simp] aai
def N_(v:aH)(hn:mz v.n): aF aD 129 [bD v] (.bool (!bp v)):=by
 have c:=jT v.kind v.n v.s hn.1 hn.2;have ev:bp ⟨v.kind,v.n,v.s⟩=bp v:=rfl;rw[ev]at c;obtain⟨b,hb⟩:∃ b,bp v=b:=⟨_,rfl⟩;rw[hb]at c ⊢;simp only[bD];refine aK Hl ?_;intro Q aq au aA;cases b
 all_goals
  simp only[iz,if_true,aI,if_false]at c;repeat' first|refine ak ?_|refine cW c ?_|refine aj ?_ ?_<;>intro hw<;>try omega|fail
  exact aN rfl rfl
def zH (fn : FuncId) (p : aH -> Bool) (l : List aH) (h : ∀ k, k < l.length -> aF aD fn [bD (l.getD k default)] (.bool (p (l.getD k default)))) (hl : l.length <= 2 ^ 62) :
    aF aD 186 [aL l,.fn (.func fn) [] []] (I (iT p l)):=by
 refine aK wz ?_ (by simp[AV.cQ,AV.bG,sL]);intro Q aq au aA;repeat' first|refine ak ?_|refine aj ?_ ?_<;>intro hw<;>try omega|fail
 with_reducible refine aX [4,5,8,9,10,11,12,13,14,15,16,17,18] (fun i:Nat=>[(8,I i)]) (fun _=>[]) (fun i=>i<=l.length/\ ∀ k,k<i->p (l.getD k default)=false) (fun i=>l.length-i) (0) ?_ ?_ ?_ ?_
 ·simp
 ·rfl
 ·exact at_
 ·rintro i r ⟨hi,hp⟩;by_cases hin:i<l.length
  ·have hx:=h i hin;simp only[bD]at hx;repeat' first|refine ak ?_|refine aj ?_ ?_<;>intro hw<;>try omega|fail
   ·refine aN ?_ rfl;refine congrArg I ?_;exact(lK hin hp hw).symm
   ·refine⟨i+1,?_,?_,by first|rfl|(simp[go_sem];done),bK,at_⟩<;>(try dsimp only)
    ·exact⟨by omega,bx hp hw⟩
    ·omega
  ·repeat' first|refine ak ?_|refine aj ?_ ?_<;>intro hw<;>try omega|fail
   refine aN ?_ rfl;refine congrArg I ?_;exact(kQ fun k hk=>hp k (by omega)).symm
def wO (fn : FuncId) (p : aH -> Bool) (l : List aH) (h : ∀ k, k < l.length -> aF aD fn [bD (l.getD k default)] (.bool (p (l.getD k default)))) (hl : l.length <= 2 ^ 62) :
    aF aD 128 [aL l,.fn (.func fn) [] []] (.bool (l.any p)):=by
 refine aK uz ?_ (by simp[AV.cQ,AV.bG,sL]);intro Q aq au aA;have hc:=zH fn p l h hl;simp only[aL]at hc;repeat' first|refine ak ?_|refine aj ?_ ?_<;>intro hw<;>try omega|fail
 all_goals refine aN ?_ rfl
 all_goals rw[<-uF]
def abN(l:List aH): (!l.any fun v=> !bp v)=l.all bp:=by
 induction l with
 | nil=>rfl
 | cons a l ih=>rw[List.any_cons,List.all_cons,<-ih];cases bp a<;>simp
def Gq(l:List aH)(hl:mQ l): aF aD 78 [aL l] (.bool (jm l)):=by
 have c:=wO 129 (fun v=> !bp v) l (fun k hk=>N_ _ (hl.2 _ (aO hk)).1) (by have:=hl.1;omega);obtain⟨E,hE⟩:∃ E,jm l=E:=⟨_,rfl⟩;rw[hE];unfold jm at hE;rw[<-abN]at hE;generalize (l.any fun v=> !bp v)=b at *;simp only[aL]at c ⊢;refine aK KQ ?_;intro Q aq au aA;repeat' first|refine ak ?_|refine cW c ?_|refine aj ?_ ?_<;>intro hw<;>try omega|fail
 all_goals first
  | exact aP
  |(refine aN ?_ rfl;rw[<-hE,decide_eq_true (by omega),dG];done)
  |(refine aN ?_ rfl;rw[<-hE,decide_eq_false (by omega),dO];done)
end Go.Proofs.YthakfmmgnjpmdaaGreat
namespace Go.Proofs.YthakfmmgnjpmdaaGreat
open Go.AM
set_option maxRecDepth 4000
def Q5{l:List Int}(h:∀ k,k<l.length->y5 l k=true): r9 l=true:=bg.2 fun k hk=>h k (gj.1 hk)
def abO{l:List Int}{i:Nat}(hi:i<l.length)(h:y5 l i=false): r9 l=false:=by
 cases hr:r9 l with
 | false=>rfl
 | true=>have:=List.all_eq_true.1 hr i (List.mem_range.2 hi);rw[h]at this;cases this
def Q6(l:List Int)(hl:l.length<=2 ^ 30): aF aD 77 [cJ l] (.bool (r9 l)):=by
 obtain⟨E,hE⟩:∃ E,r9 l=E:=⟨_,rfl⟩;rw[hE];simp only[cJ];refine aK IV ?_;intro Q aq au aA;repeat' first|refine ak ?_|refine aj ?_ ?_<;>intro hw<;>try omega|fail
 with_reducible refine aX [2,3,5,8,9,10,11,12,13,14,15,16,17,18,19,20] (fun q:Nat=>[(8,I q),(3,I (tU l q))]) (fun _=>[]) (fun q=>q<=l.length/\ ∀ k,k<q->y5 l k=true) (fun q=>l.length-q) (0) ?_ ?_ ?_ ?_
 ·simp
 ·rfl
 ·have:tU l 0 = -1:=rfl;rw[this];simp (disch:=omega) only[l7,kO,and_true,go_sem,aq,au,aA,Int.natCast_add,Int.cast_ofNat_Int]<;>(try trivial)<;>(try omega)<;>(try (repeat (first|trivial|(refine And.intro ?_ ?_)|(congr 1;omega))))
 rintro i r ⟨g1,g2⟩;by_cases hi:i<l.length
 ·have hne:=fun h=>abO (l:=l) hi h;have dD:=fun he=>bx (q:=fun k=>y5 l k=true) g2 (i:=i) he;have hk:y5 l i=decide (tU l i<l.getD i default/\l.getD i default<24):=rfl;have hs:tU l (i+1)=l.getD i default:=by unfold tU;rw[if_neg (by omega),Nat.add_sub_cancel];rfl
  obtain⟨n,hn⟩:∃ n,l.getD i default=n:=⟨_,rfl⟩;rw[hn]at hk hs;generalize tU l i=m at *;repeat' first|simp (disch:=omega) only[go_sem,aq,au,aA,hn]|refine ak ?_|refine aj ?_ ?_<;>intro hw<;>try omega|fail
  all_goals first
   | exact aP
   |(exact aN (by rw[<-hE,hne (by rw[hk,decide_eq_false (by omega)])]) rfl)
   | (refine ⟨i + 1, ?_, ?_, ?_, bK, ?_⟩
      ·exact⟨by omega,dD (by rw[hk,decide_eq_true (by omega)])⟩
      ·dsimp only;omega
      ·first|rfl|(simp[go_sem];done)
      ·dsimp only;rw[hs];simp (disch:=omega) only[l7,kO,and_true,go_sem,aq,au,aA,Int.natCast_add,Int.cast_ofNat_Int]<;>(try trivial)<;>(try omega)<;>(try (repeat (first|trivial|(refine And.intro ?_ ?_)|(congr 1;omega)))))
 ·repeat' first|refine ak ?_|refine aj ?_ ?_<;>intro hw<;>try omega|fail
  exact aN (by rw[<-hE,Q5 (fun k hk=>g2 k (by omega))]) rfl
def Oa(l:List aH)(hl:mQ l): aF aD 80 [aL l] (.bool (!jm l)):=by
 have c:=Gq l hl;generalize jm l=b at *;simp only[aL]at c ⊢;refine aK He ?_;intro Q aq au aA;repeat' first|refine ak ?_|refine cW c ?_|refine aj ?_ ?_<;>intro hw<;>try omega|fail
 exact aN rfl rfl
def aaj(l:List (List aH)): (!l.any fun v=> !jm v)=l.all jm:=by
 induction l with
 | nil=>rfl
 | cons a l ih=>rw[List.any_cons,List.all_cons,<-ih];cases jm a<;>simp
end Go.Proofs.YthakfmmgnjpmdaaGreat
namespace Go.Proofs.YthakfmmgnjpmdaaGreat
open Go.AM
set_option maxRecDepth 4000
def aak{a b c d:Bool}{B D:Int}{n:Nat}(h:¬(a=true/\(1<=B/\B<=2147483648)/\(0<=D/\D<=99)/\b=true/\n<=24/\c=true)): (a && decide (1<=B/\B<=2147483648) && decide (0<=D/\D<=99) && b && decide (n<=24) && c && d)=false:=by
 cases hx:(a && decide (1<=B/\B<=2147483648) && decide (0<=D/\D<=99) && b && decide (n<=24) && c && d)with
 | false=>rfl
 | true =>
   simp only[aC,decide_eq_true_eq]at hx;exact absurd ⟨hx.1.1.1.1.1.1,hx.1.1.1.1.1.2,hx.1.1.1.1.2,hx.1.1.1.2,hx.1.1.2,hx.1.2⟩ h
def Yc{a b c d:Bool}{B D:Int}{n:Nat}(h1:a=true)(h2:1<=B/\B<=2147483648)(h3:0<=D/\D<=99)(h4:b=true)(h5:n<=24)(h6:c=true): (a && decide (1<=B/\B<=2147483648) && decide (0<=D/\D<=99) && b && decide (n<=24) && c && d)=d:=by
 subst h1;subst h4;subst h6;rw[decide_eq_true h2,decide_eq_true h3,decide_eq_true h5];simp
def tf{b:Bool}(h:b=true)(h':b=false): False:=by rw[h]at h';cases h'
def SB(e:jl)(ok:nO e): aF aD 43 [iC e] (.bool (ou e)):=by
 obtain⟨o1,o2,o3,o4,o5,o6,o7⟩:=ok;have c1:=xF e.table (by omega);have c2:=Q6 e.rules o5.1;have c3:=Gq e.input o3;have c4:=o9 80 [] rfl (fun v=> !jm v) e.rows (fun k hk=>Oa _ (o7 _ (aO hk))) (by omega);obtain⟨E,hE⟩:∃ E,ou e=E:=⟨_,rfl⟩;rw[hE];unfold ou at hE;rw[<-aaj]at hE;obtain⟨A,B,C,D,F,G⟩:=e;dsimp only at *;generalize jH A=a at *;generalize r9 F=b at *;generalize jm C=c at *;generalize (G.any fun v=> !jm v)=d at *;simp only[cJ,aL,cu,iC,nj]at c2 c3 c4 ⊢;refine aK KN ?_;intro Q aq au aA;repeat' first|refine ak ?_|refine aj ?_ ?_<;>intro hw<;>try omega|fail
 all_goals first
  | exact aP
  | (refine aN ?_ rfl
     rw[<-hE];refine congrArg AV.bool ?_
     first
      |(rw[Yc (by assumption) (by omega) (by omega) (by assumption) (by omega) (by assumption)];done)
      | (refine (aak ?_).symm
         rintro⟨h1,h2,h3,h4,h5,h6⟩
         first
          | omega
          | exact tf h1 (by assumption)
          | exact tf h4 (by assumption)
          | exact tf h6 (by assumption)))
  | skip
end Go.Proofs.YthakfmmgnjpmdaaGreat
namespace Go.Proofs.YthakfmmgnjpmdaaGreat
open Go.AM
set_option maxRecDepth 4000
end Go.Proofs.YthakfmmgnjpmdaaGreat
namespace Go.Proofs.YthakfmmgnjpmdaaGreat
open Go.AM
set_option maxRecDepth 4000
def Fy{α : Type}[Inhabited α](f : α->aS){l:List α}{i:Nat}(hi:i<l.length)(x:aS): x++(l.take (i+1)).flatMap f=(x++(l.take i).flatMap f)++f (l.getD i default):=by
 rw[take_succ hi,List.flatMap_append];simp
def M6(s:aS): (kL s).length<=10+s.length:=by unfold kL;have:=fD s.length;rw[List.length_append];omega
def aal{l:List aH}(hl:l.length<=8)(h:∀ v ∈ l,bp v=true): (kM l).length<=1000:=by
 have h1:=fD l.length
 have h2:(l.flatMap iB).length<=70*l.length:=by
  clear h1 hl
  induction l with
  | nil=>simp
  | cons v l ih =>
    have a1:=Cb v;have a2:=HW (h v (by simp));have a3:=ih (fun w hw=>h w (by simp[hw]));rw[List.flatMap_cons,List.length_append,List.length_cons];omega
 unfold kM;rw[List.length_append];omega
def nR{a b:Nat}(h:a+b<=2 ^ 40): ((a+b:Nat):Int)<=IntKind.i64.max:=by show _<=(9223372036854775807:Int);omega
section
variable {σ : ae} {K Kp:AV->ae->Prop} {k:Nat}
def EU{s x:aS}{l:List aH}(hok:mQ l)(hr:l.all bp=true)(hx:kM l=x)(gE : σ[k]? = some (.cells [.str s]))(ha:((s.length+x.length:Nat):Int)<=IntKind.i64.max)(hk:jX (.bJ []) (.mk:Tg fun r=>uR (σ.set k (.cells [.str (s++x)])) (.mk:Tg fun σ=>K r σ))): pP Tryz.prog 61 [.aG false EV (l.map bD),.ref k 0] σ (.mk:Tg (K,Kp)):=by
 have c:=Yb l hok;have e:Fx l=(kM l,0):=by unfold Fx;rw[if_pos hr]
 rw[e,hx]at c;simp only[aL]at c;refine IU.go ?_;unfold cj;intro Q aq au aA;repeat' first|simp (disch:=omega) only[go_sem,aq,au,aA,gE]|refine ak ?_|refine cW c ?_|refine aj ?_ ?_<;>intro hw<;>try omega|fail
 exact hk
end
def y6{l:List aH}(h:jm l=true): l.all bp=true/\(kM l).length<=1000:=by
 obtain⟨h1,h2⟩:=J3 h;exact⟨bg.2 h2,aal (by omega) h2⟩
def J7(e:jl)(ok:nO e)(h:ou e=true): aF aD 32 [iC e] (.str (mW e)):=by
 obtain⟨z1,z2,z3,z4,z5,z6,z7⟩:=Ca h;obtain⟨o1,o2,o3,o4,o5,o6,o7⟩:=ok;have hl:=HX z4;have agt:=HV z1;have c1:=J5 e.table (by omega);have c2:=nP e.ver o2;have c3:=nP e.err o4;have c4:=nP e.rules.length ⟨by omega,by omega⟩;have c5:=nP e.rows.length ⟨by omega,by omega⟩;have l1:=M6 e.table;have l2:=fD e.ver;have l3:=fD e.err;have l4:=fD e.rules.length;have l5:=fD e.rows.length;have p1:=y6 z6;obtain⟨E,hE⟩:∃ E,mW e=E:=⟨_,rfl⟩;rw[hE];unfold mW at hE;obtain⟨A,B,C,D,F,G⟩:=e;dsimp only at *;obtain⟨xc,SM⟩:∃ x,kM C=x:=⟨_,rfl⟩;rw[SM]at hE p1;generalize kL A=xa at *;generalize fj B=xb at *;generalize fj D=xd at *;generalize fj F.length=xf at *;generalize fj G.length=xg at *;have a1:=nR (a:=xa.length) (b:=xb.length) (by omega);have a2:=nR (a:=(xa++xb).length) (b:=xc.length) (by rw[List.length_append];omega);have a3:=nR (a:=xd.length) (b:=xf.length) (by omega);have a4:=nR (a:=(xa++xb++xc).length) (b:=(xd++xf).length) (by simp only[List.length_append];omega);simp only[List.length_append]at a2 a4;obtain⟨X,hX⟩:∃ x,xa++xb++xc++(xd++xf)=x:=⟨_,rfl⟩;have lX:=congrArg List.length hX;simp only[List.length_append]at lX;rw[hX]at hE;simp only[cJ,aL,cu,iC,nj]at c1 c2 c3 c4 c5 ⊢;refine aK Nl ?_;intro Q aq au aA;repeat' first|simp (disch:=omega) only[go_sem,aq,au,aA,hX]|refine ak ?_|with_reducible refine EU o3 p1.1 SM rfl (by simp only[List.length_append];exact a2) ?_|refine aj ?_ ?_<;>intro hw<;>try omega|fail
 with_reducible refine aX [6,37,38,39,40,41,42,43,44,45] (fun q:Nat=>[(37,I q)]) (fun q=>[.cells [.str A,I B,.aG false EV (C.map bD),I D,.aG false E1 (F.map lG),.aG false E1 (G.map aL)],.cells [.str (X++(F.take q).flatMap fj)]]) (fun q=>q<=F.length/\((F.take q).flatMap fj).length<=q*10) (fun q=>F.length-q) (0) ?_ ?_ ?_ ?_
 ·simp
 ·simp only[fF,List.flatMap_nil,bH]
 ·exact at_
 rintro i r ⟨g1,g2⟩;try dsimp only at g1 g2
 by_cases hi:i<F.length
 ·have hn:=o5.2 _ (aO hi);have mA:=Fy fj hi X;obtain⟨n,hne⟩:∃ n,F.getD i default=n:=⟨_,rfl⟩;rw[hne]at hn mA;have c6:=nP n hn;have l6:=fD n;have hsl:=congrArg List.length mA;obtain⟨y,hy⟩:∃ y,X++(F.take i).flatMap fj=y:=⟨_,rfl⟩;have Ck:=congrArg List.length hy;simp only[List.length_append]at hsl Ck;rw[hy]at mA;have EO:=nR (a:=y.length) (b:=(fj n).length) (by omega);repeat' first|simp (disch:=omega) only[go_sem,aq,au,aA,hne,hy]|refine ak ?_|refine aj ?_ ?_<;>intro hw<;>try omega|fail
  refine⟨i+1,?_,?_,?_,bK,at_⟩
  ·exact⟨by omega,by omega⟩
  ·dsimp only;omega
  ·dsimp only;rw[mA]
 ·have ht:F.take i=F:=bX (by omega);rw[ht]at g2;obtain⟨Y,hY⟩:∃ y,X++F.flatMap fj=y:=⟨_,rfl⟩;have lY:=congrArg List.length hY;simp only[List.length_append]at lY;have a5:=nR (a:=Y.length) (b:=xg.length) (by omega);rw[hY]at hE;obtain⟨Z,hZ⟩:∃ y,Y++xg=y:=⟨_,rfl⟩;have lZ:=congrArg List.length hZ;simp only[List.length_append]at lZ;rw[hZ]at hE;repeat' first|simp (disch:=omega) only[go_sem,aq,au,aA,ht,hY,hZ]|refine ak ?_|refine aj ?_ ?_<;>intro hw<;>try omega|fail
  with_reducible refine aX [8,57,58,59,60,61,62,63,64] (fun q:Nat=>[(57,I q)]) (fun q=>[.cells [.str A,I B,.aG false EV (C.map bD),I D,.aG false E1 (F.map lG),.aG false E1 (G.map aL)],.cells [.str (Z++(G.take q).flatMap kM)]]) (fun q=>q<=G.length/\((G.take q).flatMap kM).length<=q*1000) (fun q=>G.length-q) (0) ?_ ?_ ?_ ?_
  ·simp
  ·simp only[fF,List.flatMap_nil,bH]
  ·exact at_
  rintro i' r' ⟨f1,f2⟩;try dsimp only at f1 f2
  by_cases hi':i'<G.length
  ·have hv:=o7 _ (aO hi');have oU:=y6 (z7 _ (aO hi'));have mA:=Fy kM hi' Z;obtain⟨n,hne⟩:∃ n,G.getD i' default=n:=⟨_,rfl⟩;rw[hne]at hv mA oU;obtain⟨xr,hxr⟩:∃ x,kM n=x:=⟨_,rfl⟩;have hsl:=congrArg List.length mA;obtain⟨y,hy⟩:∃ y,Z++(G.take i').flatMap kM=y:=⟨_,rfl⟩;have Ck:=congrArg List.length hy;simp only[List.length_append]at hsl Ck;rw[hy]at mA;rw[hxr]at mA hsl oU;have EO:=nR (a:=y.length) (b:=xr.length) (by omega);repeat' first|simp (disch:=omega) only[go_sem,aq,au,aA,hne,hy]|refine ak ?_|with_reducible refine EU hv oU.1 hxr rfl EO ?_|refine aj ?_ ?_<;>intro hw<;>try omega|fail
   refine⟨i'+1,?_,?_,?_,bK,at_⟩
   ·exact⟨by omega,by omega⟩
   ·dsimp only;omega
   ·dsimp only;rw[mA]
  ·have ht':G.take i'=G:=bX (by omega);repeat' first|simp (disch:=omega) only[go_sem,aq,au,aA,ht']|refine ak ?_|refine aj ?_ ?_<;>intro hw<;>try omega|fail
   exact aN (by rw[<-hE]) rfl
end Go.Proofs.YthakfmmgnjpmdaaGreat
namespace Go.Proofs.YthakfmmgnjpmdaaGreat
open Go.AM
set_option maxRecDepth 4000
def VJ(e:jl)(ok:nO e)(h:ou e=true): aF aD 26 [iC e] (.str (mW e)):=by
 obtain⟨z1,z2,z3,z4,z5,z6,z7⟩:=Ca h;obtain⟨o1,o2,o3,o4,o5,o6,o7⟩:=ok;have hl:=HX z4;have agt:=HV z1;have p1:=y6 z6;have c1:=J6 e.table (by omega);have c2:=nQ e.ver o2;have c3:=nQ e.err o4;have c4:=nQ e.rules.length ⟨by omega,by omega⟩;have c5:=nQ e.rows.length ⟨by omega,by omega⟩;have c7:=M5 e.input o3 p1.1;have l1:=M6 e.table;have l2:=fD e.ver;have l3:=fD e.err;have l4:=fD e.rules.length;have l5:=fD e.rows.length;obtain⟨E,hE⟩:∃ E,mW e=E:=⟨_,rfl⟩;rw[hE];unfold mW at hE;rw[<-aR (kL e.table++fj e.ver++kM e.input)]at hE;obtain⟨A,B,C,D,F,G⟩:=e;dsimp only at *;generalize kM C=xc at *;generalize kL A=xa at *;generalize fj B=xb at *;generalize fj D=xd at *;generalize fj F.length=xf at *;generalize fj G.length=xg at *;have a1:=nR (a:=xa.length) (b:=xb.length) (by omega);have a2:=nR (a:=xa.length+xb.length) (b:=xc.length) (by omega);have a3:=nR (a:=xa.length+xb.length+xc.length) (b:=xd.length) (by omega);have a4:=nR (a:=xa.length+xb.length+xc.length+xd.length) (b:=xf.length) (by omega);obtain⟨X,hX⟩:∃ x,xa++xb++xc++xd++xf=x:=⟨_,rfl⟩;have lX:=congrArg List.length hX;simp only[List.length_append]at lX;rw[hX]at hE;simp only[cJ,aL,cu,iC,nj]at c1 c2 c3 c4 c5 c7 ⊢;refine aK Nj ?_;intro Q aq au aA;try dsimp (config:= { zeta:=true }) only
 repeat' first|simp (disch:=omega) only[go_sem,aq,au,aA,List.length_append,hX]|refine ak ?_|refine aj ?_ ?_<;>intro hw<;>try omega|fail
 with_reducible refine aX [3,4,28,29,30,31,32,33,34,35,36,37,38,39,40,41,42,43,44] (fun q:Nat=>[(4,I q),(3,.str (X++(F.take q).flatMap fj))]) (fun _=>[.cells [.str A,I B,.aG false EV (C.map bD),I D,.aG false E1 (F.map lG),.aG false E1 (G.map aL)]]) (fun q=>q<=F.length/\((F.take q).flatMap fj).length<=q*10) (fun q=>F.length-q) (0) ?_ ?_ ?_ ?_
 ·simp
 ·rfl
 ·simp only[fF,List.flatMap_nil,bH];simp (disch:=omega) only[l7,kO,and_true,go_sem,aq,au,aA,Int.natCast_add,Int.cast_ofNat_Int]<;>(try trivial)<;>(try omega)<;>(try (repeat (first|trivial|(refine And.intro ?_ ?_)|(congr 1;omega))))
 rintro i r ⟨g1,g2⟩;by_cases hi:i<F.length
 ·have hn:=o5.2 _ (aO hi);have mA:=Fy fj hi X;obtain⟨n,hne⟩:∃ n,F.getD i default=n:=⟨_,rfl⟩;rw[hne]at hn mA;have c6:=nQ n hn;have l6:=fD n;have hsl:=congrArg List.length mA;obtain⟨y,hy⟩:∃ y,X++(F.take i).flatMap fj=y:=⟨_,rfl⟩;have Ck:=congrArg List.length hy;simp only[List.length_append]at hsl Ck;rw[hy]at mA;have EO:=nR (a:=y.length) (b:=(fj n).length) (by omega);repeat' first|simp (disch:=omega) only[go_sem,aq,au,aA,hne,hy]|refine ak ?_|refine aj ?_ ?_<;>intro hw<;>try omega|fail
  refine⟨i+1,?_,?_,?_,bK,?_⟩
  ·exact⟨by omega,by omega⟩
  ·dsimp only;omega
  ·first|rfl|(simp[go_sem];done)
  ·dsimp only;rw[mA];simp (disch:=omega) only[l7,kO,and_true,go_sem,aq,au,aA,Int.natCast_add,Int.cast_ofNat_Int]<;>(try trivial)<;>(try omega)<;>(try (repeat (first|trivial|(refine And.intro ?_ ?_)|(congr 1;omega))))
 ·have ht:F.take i=F:=bX (by omega);rw[ht]at g2;obtain⟨Y,hY⟩:∃ y,X++F.flatMap fj=y:=⟨_,rfl⟩;have lY:=congrArg List.length hY;simp only[List.length_append]at lY;have a5:=nR (a:=Y.length) (b:=xg.length) (by omega);rw[hY]at hE;obtain⟨Z,hZ⟩:∃ y,Y++xg=y:=⟨_,rfl⟩;have lZ:=congrArg List.length hZ;simp only[List.length_append]at lZ;rw[hZ]at hE;repeat' first|simp (disch:=omega) only[go_sem,aq,au,aA,ht,hY,hZ]|refine ak ?_|refine aj ?_ ?_<;>intro hw<;>try omega|fail
  with_reducible refine aX [3,5,52,53,54,55,56,57,58,59,60,61,62,63,64,65,66,67,68] (fun q:Nat=>[(5,I q),(3,.str (Z++(G.take q).flatMap kM))]) (fun _=>[.cells [.str A,I B,.aG false EV (C.map bD),I D,.aG false E1 (F.map lG),.aG false E1 (G.map aL)]]) (fun q=>q<=G.length/\((G.take q).flatMap kM).length<=q*1000) (fun q=>G.length-q) (0) ?_ ?_ ?_ ?_
  ·simp
  ·rfl
  ·simp only[fF,List.flatMap_nil,bH];simp (disch:=omega) only[l7,kO,and_true,go_sem,aq,au,aA,Int.natCast_add,Int.cast_ofNat_Int]<;>(try trivial)<;>(try omega)<;>(try (repeat (first|trivial|(refine And.intro ?_ ?_)|(congr 1;omega))))
  rintro i' r' ⟨f1,f2⟩;by_cases hi':i'<G.length
  ·have hv:=o7 _ (aO hi');have oU:=y6 (z7 _ (aO hi'));have mA:=Fy kM hi' Z;obtain⟨n,hne⟩:∃ n,G.getD i' default=n:=⟨_,rfl⟩;rw[hne]at hv mA oU;have c8:=M5 n hv oU.1;generalize kM n=xr at *;have hsl:=congrArg List.length mA;obtain⟨y,hy⟩:∃ y,Z++(G.take i').flatMap kM=y:=⟨_,rfl⟩;have Ck:=congrArg List.length hy;simp only[List.length_append]at hsl Ck;rw[hy]at mA;have EO:=nR (a:=y.length) (b:=xr.length) (by omega);simp only[aL]at c8;repeat' first|simp (disch:=omega) only[go_sem,aq,au,aA,hne,hy]|refine ak ?_|refine aj ?_ ?_<;>intro hw<;>try omega|fail
   refine⟨i'+1,?_,?_,?_,bK,?_⟩
   ·exact⟨by omega,by omega⟩
   ·dsimp only;omega
   ·first|rfl|(simp[go_sem];done)
   ·dsimp only;rw[mA];simp (disch:=omega) only[l7,kO,and_true,go_sem,aq,au,aA,Int.natCast_add,Int.cast_ofNat_Int]<;>(try trivial)<;>(try omega)<;>(try (repeat (first|trivial|(refine And.intro ?_ ?_)|(congr 1;omega))))
  ·have ht':G.take i'=G:=bX (by omega);repeat' first|simp (disch:=omega) only[go_sem,aq,au,aA,ht']|refine ak ?_|refine aj ?_ ?_<;>intro hw<;>try omega|fail
   exact aN (by rw[<-hE]) rfl
def Gr(e:jl)(ok:nO e): aF aD 23 [iC e] (I (rR e)):=by
 have c1:=SB e ok;have c2:=fun h=>J7 e ok h;unfold rR;generalize ou e=b at *;cases b with
 | false =>
   simp only[iC,nj,cJ,aL,cu]at c1 ⊢;refine aK zQ ?_;intro Q aq au aA;repeat' first|refine ak ?_|refine aj ?_ ?_<;>intro hw<;>try omega|fail
   all_goals first|exact aP|exact aN rfl rfl
 | true =>
   have c2:=c2 rfl;generalize mW e=t at *;rw[if_neg (by simp)];simp only[iC,nj,cJ,aL,cu]at c1 c2 ⊢;refine aK zQ ?_;intro Q aq au aA;repeat' first|refine ak ?_|refine aj ?_ ?_<;>intro hw<;>try omega|fail
   ·exact aN (by rw[if_pos (by omega)]) rfl
   ·exact aN (by rw[if_neg (by omega)]) rfl
def Yd(p:aS × Int): AV:= .bJ [.str p.1,I p.2]
def Gs(e:jl)(ok:nO e): aF aD 19 [iC e] (Yd (jN e)):=by
 have c1:=Gr e ok;have hz:=@zE e;have c2:=fun h=>J7 e ok h;unfold jN;generalize rR e=k at *;by_cases h0:k≠0
 ·rw[if_pos h0];simp only[Yd,iC,nj,cJ,aL,cu]at c1 ⊢;refine aK zO ?_;intro Q aq au aA;repeat' first|refine ak ?_|refine aj ?_ ?_<;>intro hw<;>try omega|fail
  all_goals first|exact aP|exact bt rfl rfl
 rw[if_neg h0];obtain rfl:k=0:=by omega
 have c2:=c2 (hz rfl).1;generalize mW e=t at *;simp only[Yd,iC,nj,cJ,aL,cu]at c1 c2 ⊢;refine aK zO ?_;intro Q aq au aA;repeat' first|refine ak ?_|refine aj ?_ ?_<;>intro hw<;>try omega|fail
 all_goals first|exact aP|exact bt rfl rfl
end Go.Proofs.YthakfmmgnjpmdaaGreat
namespace Go.Proofs.YthakfmmgnjpmdaaGreat
open Go.AM
set_option maxRecDepth 4000
def LG(l m:List Int)(hl:l.length<=2 ^ 60)(hm:m.length<=2 ^ 60): aF aD 54 [cJ l,cJ m] (.bool (fm (fun a b=>a==b) l m)):=by
 simp only[cJ];refine aK FG ?_;intro Q aq au aA;repeat' first|refine ak ?_|refine aj ?_ ?_<;>intro hw<;>try omega|fail
 ·refine aN ?_ rfl;rw[qQ (by omega)]
 have xJ:l.length=m.length:=by omega
 with_reducible refine aX [4,5,11,12,13,14,15,16,17,18,19,20,21,22,23,24,25] (fun i:Nat=>[(5,I i)]) (fun _=>[]) (fun i=>i<=l.length/\ ∀ k,k<i->(l.getD k default==m.getD k default)=true) (fun i=>l.length-i) (0) ?_ ?_ ?_ ?_
 ·simp
 ·rfl
 ·exact at_
 rintro i r ⟨h1,h2⟩;by_cases hi:i<l.length
 ·repeat' first|refine ak ?_|refine aj ?_ ?_<;>intro hw<;>try omega|fail
  ·refine aN ?_ rfl;rw[tD (p:=fun a b=>a==b) hi (by rw[<-Bool.not_eq_true];simp_all) (by omega)]
  ·refine⟨i+1,?_,?_,by first|rfl|(simp[go_sem];done),bK,at_⟩<;>(try dsimp only)
   ·exact⟨by omega,bx h2 (by simp_all)⟩
   ·omega
 ·repeat' first|refine ak ?_|refine aj ?_ ?_<;>intro hw<;>try omega|fail
  refine aN ?_ rfl;rw[qR (p:=fun a b=>a==b) xJ (fun k hk=>h2 k (by omega))]
def LH(l m:List (List aH))(hl:l.length<=2 ^ 60)(hm:m.length<=2 ^ 60)(MZ:∀ r ∈ l,r.length<=2 ^ 60)(Ma:∀ r ∈ m,r.length<=2 ^ 60): aF aD 55 [cu l,cu m] (.bool (fm (fm fun a b=>a==b) l m)):=by
 simp only[cu];refine aK FH ?_;intro Q aq au aA;repeat' first|refine ak ?_|refine aj ?_ ?_<;>intro hw<;>try omega|fail
 ·refine aN ?_ rfl;rw[qQ (by omega)]
 have xJ:l.length=m.length:=by omega
 with_reducible refine aX [4,5,11,12,13,14,15,16,17,18,19,20,21,22,23,24,25,26] (fun i:Nat=>[(5,I i)]) (fun _=>[]) (fun i=>i<=l.length/\ ∀ k,k<i->fm (fun a b=>a==b) (l.getD k default) (m.getD k default)=true) (fun i=>l.length-i) (0) ?_ ?_ ?_ ?_
 ·simp
 ·rfl
 ·exact at_
 rintro i r ⟨h1,h2⟩;by_cases hi:i<l.length
 ·have c:=vQ _ _ (MZ _ (aO hi)) (Ma _ (aO (show i<m.length by omega)));have hne:=fun h=>tD (p:=fm fun a b=>a==b) hi h (show i<m.length by omega);have dD:=fun he=>bx (q:=fun k=>fm (fun a b=>a==b) (l.getD k default) (m.getD k default)=true) h2 (i:=i) he;generalize fm (fun a b=>a==b) (l.getD i default) (m.getD i default)=v at c hne dD;simp only[aL]at c;repeat' first|refine ak ?_|refine cW c ?_|refine aj ?_ ?_<;>intro hw<;>try omega|fail
  all_goals first
   | exact aP
   |(refine aN ?_ rfl;rw[hne (by simp_all)])
   | (refine ⟨i + 1, ?_, ?_, ?_, bK, at_⟩ <;> (try dsimp only)
      ·exact⟨by omega,dD (by simp_all)⟩
      ·omega
      all_goals (first|rfl|(simp[go_sem];done)))
 ·repeat' first|refine ak ?_|refine aj ?_ ?_<;>intro hw<;>try omega|fail
  refine aN ?_ rfl;rw[qR xJ (fun k hk=>h2 k (by omega))]
def J8(e:jl): Prop:=e.input.length<=2 ^ 60/\e.rules.length<=2 ^ 60/\e.rows.length<=2 ^ 60/\ ∀ r ∈ e.rows,r.length<=2 ^ 60
def nO.sm{e:jl}(h:nO e): J8 e:=by
 obtain⟨h1,h2,h3,h4,h5,h6,h7⟩:=h;refine⟨by have:=h3.1;omega,by have:=h5.1;omega,by omega,fun r hr=>?_⟩;have:=(h7 r hr).1;omega
def EW(e:jl): List AV:=[I e.err,cJ e.rules,cu e.rows]
def VK(a b:jl)(ha:J8 a)(hb:J8 b): aF aD 28 [.agg (EW a),.agg (EW b)] (.bool (decide (a.err=b.err) && fm (fun x y=>x==y) a.rules b.rules && fm (fm fun x y=>x==y) a.rows b.rows)):=by
 have c1:=LG a.rules b.rules ha.2.1 hb.2.1;have c2:=LH a.rows b.rows ha.2.2.1 hb.2.2.1 ha.2.2.2 hb.2.2.2;generalize fm (fun x y=>x==y) a.rules b.rules=v1 at *;generalize fm (fm fun x y=>x==y) a.rows b.rows=v2 at *;obtain⟨n,hn⟩:∃ n,a.err=n:=⟨_,rfl⟩;obtain⟨m,hm⟩:∃ n,b.err=n:=⟨_,rfl⟩;simp only[EW,hn,hm,cJ,cu]at c1 c2 ⊢;refine aK Nk ?_;intro Q aq au aA;repeat' first|refine ak ?_|refine cW c1 ?_|refine cW c2 ?_|refine aj ?_ ?_<;>intro hw<;>try omega|fail
 all_goals first|exact aP|skip
 all_goals (refine aN ?_ rfl;simp_all)
def wP(a b:jl)(ha:J8 a)(hb:J8 b): aF aD 10 [iC a,iC b] (.bool (r_ a b)):=by
 have c1:=vQ a.input b.input ha.1 hb.1;have c2:=VK a b ha hb
 have e:r_ a b=(decide (a.table=b.table) && decide (a.ver=b.ver) && fm (fun x y=>x==y) a.input b.input && (decide (a.err=b.err) && fm (fun x y=>x==y) a.rules b.rules && fm (fm fun x y=>x==y) a.rows b.rows)):=by
  unfold r_;simp only[Bool.and_assoc]
 rw[e];clear e;generalize fm (fun x y=>x==y) a.input b.input=v1 at *;generalize (decide (a.err=b.err) && fm (fun x y=>x==y) a.rules b.rules && fm (fm fun x y=>x==y) a.rows b.rows)=v2 at *;simp only[iC,nj,EW,cJ,cu,aL]at c1 c2 ⊢;refine aK Nh ?_;intro Q aq au aA;repeat' first|refine ak ?_|refine cW c1 ?_|refine Cx c2 ?_|refine aj ?_ ?_<;>intro hw<;>try omega|fail
 all_goals first|exact aP|skip
 all_goals (refine aN ?_ rfl;simp_all)
end Go.Proofs.YthakfmmgnjpmdaaGreat
namespace Go.Proofs.YthakfmmgnjpmdaaGreat
open Go.AM
set_option maxRecDepth 4000
def LI(n:Nat)(s:aS): Bool:=decide (s.length<=n)
def EY(l:List aS): Bool:=decide (l.length<=10) && l.all (LI 300)
def Gt(l:List aS): aF aD 16 [lJ l] (.bool (EY l)):=by
 obtain⟨E,hE⟩:∃ E,EY l=E:=⟨_,rfl⟩;rw[hE];unfold EY at hE;simp only[lJ];refine aK KL ?_;intro Q aq au aA;repeat' first|refine ak ?_|refine aj ?_ ?_<;>intro hw<;>try omega|fail
 ·refine aN ?_ rfl;rw[<-hE,decide_eq_false (by omega),dO]
 have VX:l.length<=10:=by omega
 rw[decide_eq_true VX,dG]at hE;with_reducible refine aX [2,3,7,8,9,10,11,12,13,14,15,16,17,18] (fun i:Nat=>[(3,I i)]) (fun _=>[]) (fun i=>i<=l.length/\ ∀ k,k<i->LI 300 (l.getD k default)=true) (fun i=>l.length-i) (0) ?_ ?_ ?_ ?_
 ·simp
 ·rfl
 ·exact at_
 rintro i r ⟨h1,h2⟩;by_cases hi:i<l.length
 ·have hne:=fun h=>zw (p:=LI 300) hi h;have dD:=fun he=>bx (q:=fun k=>LI 300 (l.getD k default)=true) h2 (i:=i) he;have hS:LI 300 (l.getD i default)=decide ((l.getD i default).length<=300):=rfl;rw[hS]at hne dD;repeat' first|refine ak ?_|refine aj ?_ ?_<;>intro hw<;>try omega|fail
  all_goals first
   | exact aP
   |(refine aN ?_ rfl;rw[<-hE,hne (decide_eq_false (by omega))])
   | (refine ⟨i + 1, ?_, ?_, by first | rfl | (simp [go_sem]; done), bK, at_⟩ <;> (try dsimp only)
      ·exact⟨by omega,dD (decide_eq_true (by omega))⟩
      ·omega)
 ·repeat' first|refine ak ?_|refine aj ?_ ?_<;>intro hw<;>try omega|fail
  refine aN ?_ rfl;rw[<-hE,zx (fun k hk=>h2 k (by omega))]
def Fz(c:bQ): Bool:=decide (c.name.length<=300)
def EZ(l:List bQ): Bool:=decide (l.length<=12) && l.all Fz
def Ye(l:List bQ): aF aD 31 [aY l] (.bool (EZ l)):=by
 obtain⟨E,hE⟩:∃ E,EZ l=E:=⟨_,rfl⟩;rw[hE];unfold EZ at hE;simp only[aY];refine aK FE ?_;intro Q aq au aA;repeat' first|refine ak ?_|refine aj ?_ ?_<;>intro hw<;>try omega|fail
 ·refine aN ?_ rfl;rw[<-hE,decide_eq_false (by omega),dO]
 have VX:l.length<=12:=by omega
 rw[decide_eq_true VX,dG]at hE;with_reducible refine aX [2,3,7,8,9,10,11,12,13,14,15,16,17,18,19] (fun i:Nat=>[(3,I i)]) (fun _=>[]) (fun i=>i<=l.length/\ ∀ k,k<i->Fz (l.getD k default)=true) (fun i=>l.length-i) (0) ?_ ?_ ?_ ?_
 ·simp
 ·rfl
 ·exact at_
 rintro i r ⟨h1,h2⟩;by_cases hi:i<l.length
 ·have hne:=fun h=>zw (p:=Fz) hi h;have dD:=fun he=>bx (q:=fun k=>Fz (l.getD k default)=true) h2 (i:=i) he;have hS:Fz (l.getD i default)=decide ((l.getD i default).name.length<=300):=rfl;rw[hS]at hne dD;repeat' first|refine ak ?_|refine aj ?_ ?_<;>intro hw<;>try omega|fail
  all_goals first
   | exact aP
   |(refine aN ?_ rfl;rw[<-hE,hne (decide_eq_false (by omega))])
   | (refine ⟨i + 1, ?_, ?_, by first | rfl | (simp [go_sem]; done), bK, at_⟩ <;> (try dsimp only)
      ·exact⟨by omega,dD (decide_eq_true (by omega))⟩
      ·omega)
 ·repeat' first|refine ak ?_|refine aj ?_ ?_<;>intro hw<;>try omega|fail
  refine aN ?_ rfl;rw[<-hE,zx (fun k hk=>h2 k (by omega))]
def LJ(c:bQ): Bool:=decide (c.order.length<=12) && c.order.all qE
def Cc(l:List bQ): Bool:=EZ l && l.all LJ
def Gu(l:List bQ): aF aD 15 [aY l] (.bool (Cc l)):=by
 have cf:=Ye l;obtain⟨E,hE⟩:∃ E,Cc l=E:=⟨_,rfl⟩;rw[hE];unfold Cc at hE;have h12:EZ l=true->l.length<=12:=fun h=>by simp only[EZ,aC,decide_eq_true_eq]at h;exact h.1
 simp only[aY]at cf ⊢;generalize EZ l=fe at *;refine aK KJ ?_;intro Q aq au aA;cases fe with
 | false =>
   repeat' first|refine ak ?_|refine cW cf ?_|refine aj ?_ ?_<;>intro hw<;>try omega|fail
   all_goals first
    | exact aP
    |(refine aN ?_ rfl;rw[<-hE,dO])
 | true =>
   rw[dG]at hE;have h12:=h12 rfl;repeat' first|refine ak ?_|refine cW cf ?_|refine aj ?_ ?_<;>intro hw<;>try omega|fail
   all_goals first|exact aP|skip
   with_reducible refine aX [2,3,4,8,9,10,11,12,13,14,15,16,17,18,19,20,21,22,23,24,25,26,27,28,29,30,31,32,33,34,35,36,37,38,39,40,41] (fun i:Nat=>[(3,I i)]) (fun _=>[]) (fun i=>i<=l.length/\ ∀ k,k<i->LJ (l.getD k default)=true) (fun i=>l.length-i) (0) ?_ ?_ ?_ ?_
   ·simp
   ·rfl
   ·exact at_
   rintro i r ⟨h1,h2⟩;by_cases hi:i<l.length
   ·have hne:=fun h=>zw (p:=LJ) hi h;have dD:=fun he=>bx (q:=fun k=>LJ (l.getD k default)=true) h2 (i:=i) he;have hS:LJ (l.getD i default)=(decide ((l.getD i default).order.length<=12) && (l.getD i default).order.all qE):=rfl;rw[hS]at hne dD;obtain⟨c,hc⟩:∃ c,l.getD i default=c:=⟨_,rfl⟩;rw[hc]at hne dD;clear hS;repeat' first|simp (disch:=omega) only[go_sem,aq,au,aA,hc]|refine ak ?_|refine aj ?_ ?_<;>intro hw<;>try omega|fail
    ·refine aN ?_ rfl;rw[<-hE,hne (by rw[decide_eq_false (by omega),dO])]
    have ho:c.order.length<=12:=by omega
    rw[decide_eq_true ho,dG]at hne dD;with_reducible refine aX [2,4,21,22,23,24,25,26,27,28,29,30,31,32,33,34,35,36,37,38,39,40,41] (fun j:Nat=>[(4,I j)]) (fun _=>[]) (fun j=>j<=c.order.length/\ ∀ k,k<j->qE (c.order.getD k default)=true) (fun j=>c.order.length-j) (0) ?_ ?_ ?_ ?_
    ·simp
    ·rfl
    ·exact at_
    rintro j r2 ⟨g1,g2⟩;by_cases hj:j<c.order.length
    ·have adA:=fun h=>zw (p:=qE) hj h;have adB:=fun he=>bx (q:=fun k=>qE (c.order.getD k default)=true) g2 (i:=j) he;have hS:qE (c.order.getD j default)=decide ((c.order.getD j default).s.length<=300):=rfl;rw[hS]at adA adB;repeat' first|simp (disch:=omega) only[go_sem,aq,au,aA,hc]|refine ak ?_|refine aj ?_ ?_<;>intro hw<;>try omega|fail
     all_goals first
      | exact aP
      |(refine aN ?_ rfl;rw[<-hE,hne (adA (decide_eq_false (by omega)))])
      | (refine ⟨j + 1, ?_, ?_, by first | rfl | (simp [go_sem]; done), bK, at_⟩ <;> (try dsimp only)
         ·exact⟨by omega,adB (decide_eq_true (by omega))⟩
         ·omega)
    ·repeat' first|simp (disch:=omega) only[go_sem,aq,au,aA,hc]|refine ak ?_|refine aj ?_ ?_<;>intro hw<;>try omega|fail
     refine⟨i+1,?_,?_,by first|rfl|(simp[go_sem];done),bK,at_⟩<;>(try dsimp only)
     ·exact⟨by omega,dD (zx (fun k hk=>g2 k (by omega)))⟩
     ·omega
   ·repeat' first|refine ak ?_|refine aj ?_ ?_<;>intro hw<;>try omega|fail
    refine aN ?_ rfl;rw[<-hE,zx (fun k hk=>h2 k (by omega))]
def LK(r:kX): Bool:=EY r.cells && EY r.outs
def vG(t:Table): Bool:=decide (t.name.length<=300) && decide (t.rules.length<=26) && Cc t.ins && Cc t.outs && t.rules.all LK
def Gv(t:Table): aF aD 5 [cI t] (.bool (vG t)):=by
 have ci:=Gu t.ins;have co:=Gu t.outs;obtain⟨E,hE⟩:∃ E,vG t=E:=⟨_,rfl⟩;rw[hE];unfold vG at hE;simp only[cI,eJ,aY,dy]at ci co ⊢;generalize Cc t.ins=oi at *;generalize Cc t.outs=oo at *;refine aK G3 ?_;intro Q aq au aA;by_cases hb:(decide (t.name.length<=300) && decide (t.rules.length<=26) && oi && oo)=true
 case neg =>
  simp only[Bool.not_eq_true]at hb;rw[hb,dO]at hE;cases oi<;>cases oo
  all_goals
   repeat' first|refine ak ?_|refine cW ci ?_|refine cW co ?_|refine aj ?_ ?_<;>intro hw<;>try omega|fail
  all_goals first
   | exact aP
   |(refine aN ?_ rfl;rw[<-hE])
   |(exfalso;simp at hb;omega)
 rw[hb,dG]at hE;simp only[aC,decide_eq_true_eq]at hb;obtain⟨⟨⟨b1,b2⟩,rfl⟩,rfl⟩:=hb;repeat' first|refine ak ?_|refine cW ci ?_|refine cW co ?_|refine aj ?_ ?_<;>intro hw<;>try omega|fail
 all_goals first|exact aP|skip
 with_reducible refine aX [2,3,26,27,28,29,30,31,32,33,34,35,36,37,38,39,40,41,42,43,44,45,46,47,48,49,50] (fun i:Nat=>[(3,I i)]) (fun _=>[.cells [.str t.name,.aG false EC (t.ins.map bW),.aG false EC (t.outs.map bW),I t.bu,I t.agg,.aG false ER (t.rules.map dN)]]) (fun i=>i<=t.rules.length/\ ∀ k,k<i->LK (t.rules.getD k default)=true) (fun i=>t.rules.length-i) (0) ?_ ?_ ?_ ?_
 ·simp
 ·rfl
 ·exact at_
 rintro i r ⟨h1,h2⟩;by_cases hi:i<t.rules.length
 ·have hne:=fun h=>zw (p:=LK) hi h;have dD:=fun he=>bx (q:=fun k=>LK (t.rules.getD k default)=true) h2 (i:=i) he;have hS:LK (t.rules.getD i default)=(EY (t.rules.getD i default).cells && EY (t.rules.getD i default).outs):=rfl;have c1:=Gt (t.rules.getD i default).cells;have c2:=Gt (t.rules.getD i default).outs;rw[hS]at hne dD;simp only[lJ]at c1 c2;generalize EY (t.rules.getD i default).cells=u1 at *;generalize EY (t.rules.getD i default).outs=u2 at *;cases u1<;>cases u2
  all_goals
   repeat' first|refine ak ?_|refine cW c1 ?_|refine cW c2 ?_|refine aj ?_ ?_<;>intro hw<;>try omega|fail
  all_goals first
   | exact aP
   |(refine aN ?_ rfl;rw[<-hE,hne rfl])
   | (refine ⟨i + 1, ?_, ?_, by first | rfl | (simp [go_sem]; done), bK, at_⟩ <;> (try dsimp only)
      ·exact⟨by omega,dD rfl⟩
      ·omega)
 ·repeat' first|refine ak ?_|refine aj ?_ ?_<;>intro hw<;>try omega|fail
  refine aN ?_ rfl;rw[<-hE,zx (fun k hk=>h2 k (by omega))]
