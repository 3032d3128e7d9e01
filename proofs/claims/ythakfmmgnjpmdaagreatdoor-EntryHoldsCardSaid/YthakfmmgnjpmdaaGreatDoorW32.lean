/- Part. -/
import Derived.Test.YthakfmmgnjpmdaaGreatDoorW31
set_option linter.all false
set_option maxHeartbeats 8000000
namespace Go.Proofs.YthakfmmgnjpmdaaGreatDoor
open Go.AM
set_option maxRecDepth 4000
abbrev jS(L:List Row): bj:= .vec E1 (L.map aW)
abbrev sN(k:Nat)(L:List Row): AV:= .own E1 k L.length 0 L.length
def n9(f:FuncId)(rest:List AV)(L M:List Row): Prop :=
 ∀(σ : ae) (k:Nat),σ[k]? = some (jS L)->dZ aH f (sN k L::rest) σ fun o σ'=>o = .ret (.bH [])/\σ' = σ.set k (jS M)
def wA{σ : ae}{k:Nat}{o:bj}(h : σ[k]? = some o)(o':bj): (σ.set k o')[k]? = some o':=tT h
def mQ{σ : ae}{k:Nat}{o:bj}(h : σ[k]? = some o): σ.set k o = σ:=by
 obtain⟨h1,h2⟩:=aK.1 h;subst h2;exact List.set_getElem_self h1
def TC {n : FuncId} {rest : List AV} {L M : List Row} {σ : ae} {k : Nat} {K Kp : AV -> ae -> Prop} (h : n9 n rest L M) (gO : σ[k]? = some (jS L)) (hk : j8 (.bH []) (.mk : Tg fun r => vF (σ.set k (jS M)) (.mk : Tg fun σ => K r σ))) :
    qf Tryz.prog n (sN k L::rest) σ (.mk:Tg (K,Kp)) :=
 (h σ k gO).mono fun o s ⟨h1,h2⟩=>by subst h1;subst h2;exact hk
def HE{A B:List Row}{x:Row}: (A++x::B).getD A.length default=x:=by simp[ai]
def TD{A B:List Row}{x y:Row}: (A++x::B).set A.length y=A++y::B:=by simp
def aa9{A B C:List Row}{x y:Row}: ((A++x::B++y::C).set A.length y).set (A++x::B).length x=A++y::B++x::C:=by
 rw[aP,bt,TD];have:(A++x::B).length=(A++y::B).length:=by simp
 rw[this,<-bt,<-aP,TD]
def VN{M:List Row}{n:Nat}{r:Row}: (List.map aW M).set n (AV.aN false EV (List.map bX r))=List.map aW (M.set n r):=by
 rw[List.map_set];rfl
def Yw {A U B V C : List Row} (hn : U.length = V.length) {i : Nat} (hi : i < U.length) {M : List Row} (hM : A ++ (V.take i ++ U.drop i) ++ B ++ (U.take i ++ V.drop i) ++ C = M) :
    (M.set (A.length+i) (M.getD (A.length+U.length+B.length+i) default)).set (A.length+U.length+B.length+i) (M.getD (A.length+i) default)=A++(V.take (i+1)++U.drop (i+1))++B++(U.take (i+1)++V.drop (i+1))++C:=by
 have hv:i<V.length:=by omega
 have e:M=(A++V.take i)++U[i]::(U.drop (i+1)++B++U.take i)++V[i]::(V.drop (i+1)++C):=by
  rw[<-hM,dy hi,dy hv];simp only[aP,bt]
 have l1:A.length+i=(A++V.take i).length:=by simp;omega
 have l2:A.length+U.length+B.length+i=((A++V.take i)++U[i]::(U.drop (i+1)++B++U.take i)).length:=by simp;omega
 have g1:M.getD (A.length+i) default=U[i]:=by
  rw[e,l1,aP,bt];exact HE
 have g2:M.getD (A.length+U.length+B.length+i) default=V[i]:=by
  rw[e,l2];exact HE
 rw[g1,g2,l1,l2,e,aa9];rw[iR,iR,aF hi,aF hv];simp only[aP,bt,Option.toList_some,cz]
def Ew(F:AV)(A U B V C:List Row)(hl:(A++U++B++V++C).length<=2 ^ 40)(hn:U.length=V.length): n9 226 [I A.length,I (A.length+U.length+B.length:Nat),I U.length,F] (A++U++B++V++C) (A++V++B++U++C):=by
 intro σ k gO;refine rS.go ?_;unfold dO;intro Q aB aC aD;generalize hL:A++U++B++V++C=L at *;have iN:L.length=A.length+U.length+B.length+V.length+C.length:=by rw[<-hL];simp;omega
 have hs:=fun o=>wA gO o;have oK:∀ o o':bj,(σ.set k o).set k o' = σ.set k o':=fun o o'=>eu _;repeat' first|refine au ?_|refine aq ?_ ?_<;>intro hw<;>try omega|fail
 with_reducible refine bE [10,11,12,13,14,15,16,17,18,19,20,21,22,23,24,25,26,27,28,29,30,31,32,33,34,35,36,37] (fun i:Nat=>[(10,I i)]) (fun i=>σ.set k (jS (A++(V.take i++U.drop i)++B++(U.take i++V.drop i)++C))) (fun i=>i<=U.length) (fun i=>U.length-i) 0 ?_ ?_ ?_ ?_
 ·simp
 ·simp only[jf,gK,cz];rw[hL,mQ gO]
 ·exact at_
 rintro i r h1;by_cases hi:i<U.length
 ·obtain⟨M,hM⟩:∃ M,A++(V.take i++U.drop i)++B++(U.take i++V.drop i)++C=M:=⟨_,rfl⟩;have hst:=Yw hn hi hM;rw[hM];have hml:M.length=L.length:=by rw[<-hM,iN];simp;omega
  have e1:((A.length:Int)+i).toNat=A.length+i:=by omega
  have e2:(((A.length+U.length+B.length:Nat):Int)+i).toNat=A.length+U.length+B.length+i:=by omega
  repeat' first|simp (disch:=omega) only[go_sem,aB,aC,aD,hs,oK,hml,VN,e1,e2,eF,aG,if_false]|refine au ?_|refine aq ?_ ?_<;>intro hw<;>try omega|fail
  refine⟨i+1,?_,?_,?_,cZ,at_⟩<;>(try dsimp only)
  ·omega
  ·omega
  ·rw[hst]
 ·obtain rfl:i=U.length:=by omega
  repeat' first|refine au ?_|refine aq ?_ ?_<;>intro hw<;>try omega|fail
  refine⟨rfl,?_⟩;rw[hn,List.take_length,<-hn,List.take_length,List.drop_length,hn,List.drop_length,bB,bB]
def iI {n : FuncId} {rest args : List AV} {L M : List Row} {σ : ae} {k : Nat} {K Kp : AV -> ae -> Prop} (h : n9 n rest L M) (gO : σ[k]? = some (jS L)) (ha : args = sN k L :: rest) (hk : j8 (.bH []) (.mk : Tg fun r => vF (σ.set k (jS M)) (.mk : Tg fun σ => K r σ))) :
    qf Tryz.prog n args σ (.mk:Tg (K,Kp)):=by subst ha;exact TC h gO hk
def rL{k N N':Nat}{a a' b b' c c':Int}{F:AV}(h0:N=N')(h1:a=a')(h2:b=b')(h3:c=c'): [AV.own E1 k N 0 N,I a,I b,I c,F]=[AV.own E1 k N' 0 N',I a',I b',I c',F]:=by subst h0;subst h1;subst h2;subst h3;rfl
def rotate(F:AV)(A U V C:List Row)(hl:(A++U++V++C).length<=2 ^ 40)(hU:0<U.length)(hV:0<V.length): n9 209 [I A.length,I (A.length+U.length:Nat),I (A.length+U.length+V.length:Nat),F] (A++U++V++C) (A++V++U++C):=by
 intro σ k gO;have iN:(A++U++V++C).length=A.length+U.length+V.length+C.length:=by simp;omega
 rw[iN]at hl;obtain⟨T,hT⟩:∃ T,A++V++U++C=T:=⟨_,rfl⟩;rw[hT,show sN k (A++U++V++C)=AV.own E1 k (A.length+U.length+V.length+C.length) 0 (A.length+U.length+V.length+C.length) by rw[<-iN]];refine tW.go ?_;unfold dO;intro Q aB aC aD;have hs:=fun o=>wA gO o;have oK:∀ o o':bj,(σ.set k o).set k o' = σ.set k o':=fun o o'=>eu _;repeat' first|refine au ?_|refine aq ?_ ?_<;>intro hw<;>try omega|fail
 with_reducible refine bE [10,11,18,19,20,21,22,23,24,25,26,27,28,29,30,31,32,33,34,35,36,37,38,39,40,41,42,43,44,45,46,47,48,49] (fun q:List Row × List Row × List Row × List Row=>[(10,I q.2.1.length),(11,I q.2.2.1.length)]) (fun q=>σ.set k (jS (q.1++q.2.1++q.2.2.1++q.2.2.2))) (fun q=>q.1++q.2.2.1++q.2.1++q.2.2.2=T/\q.1.length+q.2.1.length=A.length+U.length/\0<q.2.1.length/\0<q.2.2.1.length/\q.1.length+q.2.1.length+q.2.2.1.length+q.2.2.2.length=A.length+U.length+V.length+C.length) (fun q=>q.2.1.length+q.2.2.1.length) (A,U,V,C) ?_ ?_ ?_ ?_
 ·exact⟨hT,rfl,hU,hV,rfl⟩
 ·exact(mQ gO).symm
 ·exact at_
 rintro⟨a,u,v,c⟩ r ⟨h1,h2,h3,h4,h5⟩;dsimp only at h1 h2 h3 h4 h5 ⊢;by_cases huv:u.length=v.length
 ·have hc:=Ew F a u [] v c (by simp;omega) huv;rw[show a++u++[]++v++c=a++u++v++c by simp,show a++v++[]++u++c=a++v++u++c by simp]at hc;repeat' first|simp (disch:=omega) only[go_sem,aB,aC,aD,oK]|refine au ?_|with_reducible refine iI hc (hs _) (rL (by simp;omega) (by omega) (by simp;omega) (by omega)) ?_|refine aq ?_ ?_<;>intro hw<;>try omega|fail
  refine⟨rfl,?_⟩;rw[<-h1]
 ·by_cases hgt:v.length<u.length
  ·obtain⟨u1,u2,rfl,hu⟩:∃ u1 u2,u=u1++u2/\u1.length=v.length:=⟨u.take v.length,u.drop v.length,(dw _ _).symm,by simp;omega⟩;simp only[List.length_append]at h2 h3 h5 hgt huv ⊢;have hc:=Ew F a u1 u2 v c (by simp;omega) hu;rw[show a++u1++u2++v++c=a++(u1++u2)++v++c by simp]at hc;repeat' first|simp (disch:=omega) only[go_sem,aB,aC,aD,oK]|refine au ?_|with_reducible refine iI hc (hs _) (rL (by simp;omega) (by omega) (by omega) (by omega)) ?_|refine aq ?_ ?_<;>intro hw<;>try omega|fail
   refine⟨(a++v,u2,u1,c),?_,?_,?_,cZ,at_⟩<;>(try dsimp only)
   ·refine⟨?_,?_,?_,?_,?_⟩
    ·rw[<-h1];simp
    all_goals (try rw[List.length_append])
    all_goals omega
   ·simp only[List.length_append];omega
   all_goals simp
  ·obtain⟨v1,v2,rfl,hv⟩:∃ v1 v2,v=v1++v2/\v2.length=u.length:=⟨v.take (v.length-u.length),v.drop (v.length-u.length),(dw _ _).symm,by simp;omega⟩;simp only[List.length_append]at h4 h5 hgt huv ⊢;have hc:=Ew F a u v1 v2 c (by simp;omega) hv.symm;rw[show a++u++v1++v2++c=a++u++(v1++v2)++c by simp]at hc;repeat' first|simp (disch:=omega) only[go_sem,aB,aC,aD,oK]|refine au ?_|with_reducible refine iI hc (hs _) (rL (by simp;omega) (by omega) (by omega) (by omega)) ?_|refine aq ?_ ?_<;>intro hw<;>try omega|fail
   refine⟨(a,v2,v1,u++c),?_,?_,?_,cZ,at_⟩<;>(try dsimp only)
   ·refine⟨?_,?_,?_,?_,?_⟩
    ·rw[<-h1];simp
    all_goals (try rw[List.length_append])
    all_goals omega
   ·simp only[List.length_append];omega
   all_goals simp
def oT(F:FuncId)(L:List Row): Prop:= ∀ x ∈ L,∀ y ∈ L,aM aH F [aW x,aW y] (I (iu x y))
def oT.sub{F:FuncId}{L M:List Row}(h:oT F L)(hs:∀ x ∈ M,x ∈ L): oT F M:=fun x hx y hy=>h x (hs x hx) y (hs y hy)
def Qm{L:List Row}{x:Row}: x ∈ ez L↔x ∈ L:=(lP L).mem_iff
abbrev A9(F:FuncId): AV:= .fn (.func F) [] []
def aa_{k N N':Nat}{a a' b b':Int}{F:AV}(h0:N=N')(h1:a=a')(h2:b=b'): [AV.own E1 k N 0 N,I a,I b,F]=[AV.own E1 k N' 0 N',I a',I b',F]:=by subst h0;subst h1;subst h2;rfl
def getD_at{L A B:List Row}{x:Row}{i:Nat}(h:L=A++x::B)(hi:i=A.length): L.getD i default=x:=by subst h;subst hi;exact HE
def Qn{A B L:List Row}{x y:Row}{i j:Nat}(h:L=A++y::x::B)(hj:j=A.length)(hi:i=A.length+1): ((L.set i y).set j x)=A++x::y::B:=by
 subst h;subst hj;subst hi;rw[fL _ _ (by omega)];simp
def abb: ez []=[]:=rfl
def Sb(s:List Row): s=[]\/ ∃ s' y,s=s'++[y]:=by
 rcases List.eq_nil_or_concat s with h|⟨s',y,h⟩
 ·exact .inl h
 ·exact .inr ⟨s',y,by simpa using h⟩
def Qo{s1 s2:List Row}{x:Row}{S:List Row}(h:s1++s2=S)(hS:lO S)(h1:s1=[]\/ ∃ s y,s1=s++[y]/\¬ iu x y<0)(h2:∀ y ∈ s2,pE x y): s1++x::s2=ez (x::S):=by
 subst h;refine A8 (MC hS (fun z hz=>?_) h2) List.perm_middle;rcases h1 with rfl|⟨s,y,rfl,hy⟩
 ·cases hz
 ·have hs:=(fC.1 (fC.1 hS).1).2.2;rcases List.mem_append.1 hz with hz|hz
  ·exact oJ (hs z hz y (by simp)) (wz hy)
  ·obtain rfl:z=y:=by simpa using hz
   exact wz hy
def insertion(F:FuncId)(A X R:List Row)(hF:oT F X)(hl:(A++X++R).length<=2 ^ 40): n9 187 [I A.length,I (A.length+X.length:Nat),A9 F] (A++X++R) (A++ez X++R):=by
 intro σ k gO;have iN:(A++X++R).length=A.length+X.length+R.length:=by simp;omega
 rw[iN]at hl;obtain⟨T,hT⟩:∃ T,A++ez X++R=T:=⟨_,rfl⟩;rw[hT,show sN k (A++X++R)=AV.own E1 k (A.length+X.length+R.length) 0 (A.length+X.length+R.length) by rw[<-iN]];have hs:=fun o=>wA gO o;have oK:∀ o o':bj,(σ.set k o).set k o' = σ.set k o':=fun o o'=>eu _;have wV:=hF;unfold oT at wV;simp only[aW]at wV;refine qu.go ?_;unfold dO;intro Q aB aC aD;repeat' first|refine au ?_|refine aq ?_ ?_<;>intro hw<;>try omega|fail
 with_reducible refine bE [8,9,12,13,14,15,16,17,18,19,20,21,22,23,24,25,26,27,28,29,30,31,32,33,34,35,36,37,38,39,40,41,42,43,44,45,46,47,48,49,50,51,52] (fun i:Nat=>[(8,I (A.length+i:Nat))]) (fun i=>σ.set k (jS (A++(ez (X.take i)++X.drop i)++R))) (fun i=>1<=i/\i<=X.length+1) (fun i=>X.length+1-i) 1 ?_ ?_ ?_ ?_
 ·omega
 ·rw [show ez (X.take 1) ++ X.drop 1 = X by
   rw[Ev,dw];cases X with
   | nil=>exact .nil
   | cons x r=>exact adw x,mQ gO]
 ·exact at_
 rintro i r ⟨h1,h2⟩;by_cases hi:i<X.length
 ·obtain⟨x,hx⟩:∃ x,X.getD i default=x:=⟨_,rfl⟩
  have hdr:X.drop i=x::X.drop (i+1):=by
   rw[dy hi,<-hx,ai,aF hi];rfl
  have VO:=KR hi;rw[hx]at VO;have hlen:(ez (X.take i)).length=i:=by rw[nX,List.length_take];omega
  have afp:=sM (X.take i);have hxm:x ∈ X:=by rw[<-hx];exact bn hi
  have hSm:∀ z ∈ ez (X.take i),z ∈ X:=fun z hz=>List.mem_of_mem_take (Qm.1 hz);generalize ez (X.take i)=S at *;rw[hdr];obtain⟨D,hD⟩:∃ D,X.drop (i+1)=D:=⟨_,rfl⟩;have hDl:D.length=X.length-(i+1):=by rw[<-hD,List.length_drop]
  rw[hD];repeat' first|refine au ?_|refine aq ?_ ?_<;>intro hw<;>try omega|fail
  with_reducible refine bE [9,18,19,20,21,22,23,24,25,26,27,28,29,30,31,32,33,34,35,36,37,38,39,40,41,42,43,44,45,46,47,48,49,50,51,52] (fun q:List Row × List Row=>[(9,I (A.length+q.1.length:Nat))]) (fun q=>σ.set k (jS (A++q.1++x::q.2++D++R))) (fun q=>q.1++q.2=S/\ ∀ y ∈ q.2,pE x y) (fun q=>q.1.length) (S,[]) ?_ ?_ ?_ ?_
  ·exact⟨List.append_nil _,fun y hy=>by cases hy⟩
  ·simp
  ·exact at_
  rintro⟨s1,s2⟩ r' ⟨g1,g2⟩;dsimp only at g1 g2 ⊢;have hsl:s1.length+s2.length=i:=by rw[<-hlen,<-g1,List.length_append]
  rcases Sb s1 with rfl|⟨s,y,rfl⟩
  ·have hd:=Qo g1 afp (.inl rfl) g2;repeat' first|refine au ?_|refine aq ?_ ?_<;>intro hw<;>try omega|fail
   refine⟨i+1,?_,?_,?_,cZ,at_⟩<;>(try dsimp only)
   ·omega
   ·omega
   ·rw[VO,<-hd,hD];exact congrArg (fun l=>σ.set k (jS l)) (by simp)
  ·obtain⟨M,hM⟩:∃ M,A++(s++[y])++x::s2++D++R=M:=⟨_,rfl⟩;have Ex:M=(A++s)++y::x::(s2++D++R):=by rw[<-hM];simp
   have hml:M.length=A.length+X.length+R.length:=by rw[<-hM];simp at hsl ⊢;omega
   have tM:(s++[y]).length=s.length+1:=by simp
   rw[hM,tM];rw[tM]at hsl;have e1:M.getD (A.length+(s.length+1)) default=x:=getD_at (A:=A++s++[y]) (B:=s2++D++R) (by rw[Ex];simp) (by simp only[List.length_append,List.length_cons,List.length_nil];omega);have e2:M.getD (A.length+s.length) default=y:=getD_at (A:=A++s) Ex (by simp only[List.length_append]);have e3:(((A.length+(s.length+1):Nat):Int)-1).toNat=A.length+s.length:=by omega
   have hsw:=Qn (L:=M) (A:=A++s) (B:=s2++D++R) Ex (j:=A.length+s.length) (i:=A.length+(s.length+1)) (by simp only[List.length_append]) (by simp only[List.length_append];omega);have hd:=fun hy=>Qo g1 afp (.inr ⟨s,y,rfl,hy⟩) g2;have cF:=wV x hxm y (hSm y (by rw[<-g1];simp));repeat' first|simp (disch:=omega) only[go_sem,aB,aC,aD,hs,oK,hml,VN,e1,e2,e3,eF,aG,if_false]|refine au ?_|refine aq ?_ ?_<;>intro hw<;>try omega|fail
   ·refine⟨(s,y::s2),?_,?_,?_,cZ,at_⟩<;>(try dsimp only)
    ·refine⟨by rw[<-g1];simp,fun z hz=>?_⟩;rcases List.mem_cons.1 hz with rfl|hz
     ·exact N7 hw
     ·exact g2 z hz
    ·rw[tM];omega
    ·rw[hsw];exact congrArg (fun l=>σ.set k (jS l)) (by simp)
   ·refine⟨i+1,?_,?_,?_,cZ,at_⟩<;>(try dsimp only)
    ·omega
    ·omega
    ·rw[VO,<-hd (by omega),hD,<-hM];exact congrArg (fun l=>σ.set k (jS l)) (by simp)
 ·repeat' first|refine au ?_|refine aq ?_ ?_<;>intro hw<;>try omega|fail
  refine⟨rfl,?_⟩;rw[<-hT,b_ (by omega),List.drop_eq_nil_of_le (by omega),bB]
def SymM(F:FuncId)(n:Nat): Prop:= ∀ A X Y R:List Row,oT F (X++Y)->X.length+Y.length<=n->lO X->lO Y->0<X.length->0<Y.length->(A++X++Y++R).length<=2 ^ 40 ->
 n9 188 [I A.length,I (A.length+X.length:Nat),I (A.length+X.length+Y.length:Nat),A9 F] (A++X++Y++R) (A++ez (X++Y)++R)
def Yx{A B L:List Row}{x y:Row}{i j:Nat}(h:L=A++x::y::B)(hj:j=A.length)(hi:i=A.length+1): ((L.set j y).set i x)=A++y::x::B:=by
 subst h;subst hj;subst hi;rw[fL _ _ (Nat.le_refl _),fL _ _ (by omega)];simp
def Ch(a b:Nat): ((a:Int)+b).fdiv (2 ^ (Int.toNat 1).min 64)=((a+b) / 2:Nat):=by
 show((a:Int)+b).fdiv 2=_;rw[Int.fdiv_eq_ediv_of_nonneg _ (by decide)];omega
def Yy (F : FuncId) (A : List Row) (x : Row) (Y R : List Row) (hF : oT F (x :: Y)) (hY : lO Y) (hY0 : 0 < Y.length) (hl : (A ++ [x] ++ Y ++ R).length <= 2 ^ 40) :
    n9 188 [I A.length,I (A.length+1:Nat),I (A.length+1+Y.length:Nat),A9 F] (A++[x]++Y++R) (A++ez (x::Y)++R):=by
 intro σ k gO;have iN:(A++[x]++Y++R).length=A.length+1+Y.length+R.length:=by simp;omega
 rw[iN]at hl;obtain⟨T,hT⟩:∃ T,A++ez (x::Y)++R=T:=⟨_,rfl⟩;rw[hT,show sN k (A++[x]++Y++R)=AV.own E1 k (A.length+1+Y.length+R.length) 0 (A.length+1+Y.length+R.length) by rw[<-iN]];have hs:=fun o=>wA gO o;have oK:∀ o o':bj,(σ.set k o).set k o' = σ.set k o':=fun o o'=>eu _;have wV:=hF;unfold oT at wV;simp only[aW]at wV;refine kq.go ?_;unfold dO;intro Q aB aC aD;repeat' first|refine au ?_|refine aq ?_ ?_<;>intro hw<;>try omega|fail
 obtain⟨L,hL⟩:∃ L,A++[x]++Y++R=L:=⟨_,rfl⟩;rw[hL]at gO iN;have gx:L.getD A.length default=x:=getD_at (A:=A) (B:=Y++R) (by rw[<-hL];simp) rfl
 have gY:∀ t,t<Y.length->L.getD (A.length+1+t) default=Y.getD t default:=fun t ht=>by
  rw[<-hL,ai,ai,aJ (by first|(simp;done)|(simp;omega)),bp (by first|(simp;done)|(simp;omega))]
  congr 2
  simp
 with_reducible refine bE [10,11,12,31,32,33,34,35,36,37,38,39,40,41,42,43,44,45,46,47,48,49,50,51,52,53] (fun q:Nat × Nat=>[(10,I (A.length+1+q.1:Nat)),(11,I (A.length+1+q.2:Nat))]) (fun _=>σ) (fun q=>(q.1<=q.2/\q.2<=Y.length)/\(q.1=0\/pE (Y.getD (q.1-1) default) x)/\(q.2=Y.length\/pE x (Y.getD q.2 default))) (fun q=>q.2-q.1) (0,Y.length) ?_ ?_ ?_ ?_
 ·exact⟨⟨by omega,Nat.le_refl _⟩,.inl rfl,.inl rfl⟩
 ·rfl
 ·exact at_
 rintro⟨p,q⟩ r ⟨⟨h1,h2⟩,h3,h4⟩;dsimp only at h1 h2 h3 h4 ⊢;by_cases hpq:p<q
 ·obtain⟨t,ht⟩:∃ t,(p+q) / 2=t:=⟨_,rfl⟩;have hlt:L.length=A.length+1+Y.length+R.length:=iN;have hh:(A.length+1+p+(A.length+1+q)) / 2=A.length+1+t:=by omega
  have cF:=wV _ (bJ x (bn (l:=Y) (i:=t) (by omega))) x List.mem_cons_self;repeat' first|simp (disch:=omega) only[go_sem,aB,aC,aD,gO,hlt,Ch,hh,gx,gY t (by omega)]|refine au ?_|refine aq ?_ ?_<;>intro hw<;>try omega|fail
  ·refine⟨(t+1,q),?_,?_,by first|rfl|(simp[go_sem];done),cZ,at_⟩<;>(try dsimp only)
   ·exact⟨⟨by omega,by omega⟩,.inr (N7 hw),h4⟩
   ·omega
  ·refine⟨(p,t),?_,?_,by first|rfl|(simp[go_sem];done),cZ,at_⟩<;>(try dsimp only)
   ·exact⟨⟨by omega,by omega⟩,h3,.inr (wz (by omega))⟩
   ·omega
 ·obtain rfl:p=q:=by omega
  have tM:=Ql hY (by omega) h3 h4;repeat' first|refine au ?_|refine aq ?_ ?_<;>intro hw<;>try omega|fail
  with_reducible refine bE [13,55,56,57,58,59,60,61,62,63,64,65,66,67,68,69,70,71,72,73,74,75,76] (fun t:Nat=>[(13,I (A.length+t:Nat))]) (fun t=>σ.set k (jS (A++(Y.take t++x::Y.drop t)++R))) (fun t=>t<=p) (fun t=>p-t) 0 ?_ ?_ ?_ ?_
  ·omega
  ·rw[show A++(Y.take 0++x::Y.drop 0)++R=L by rw[<-hL];simp,mQ gO]
  ·exact at_
  rintro t r' h5;by_cases htp:t<p
  ·obtain⟨M,hM⟩:∃ M,A++(Y.take t++x::Y.drop t)++R=M:=⟨_,rfl⟩;have ht:t<Y.length:=by omega
   have Ex:M=(A++Y.take t)++x::Y[t]::(Y.drop (t+1)++R):=by
    rw[<-hM,dy ht];simp only[aP,bt]
   have hml:M.length=A.length+1+Y.length+R.length:=by rw[<-hM];simp;omega
   have hal:(A++Y.take t).length=A.length+t:=by rw[List.length_append,List.length_take];omega
   rw[hM];have e1:M.getD (A.length+t) default=x:=getD_at Ex hal.symm;have e2:M.getD (A.length+t+1) default=Y[t]:=getD_at (A:=(A++Y.take t)++[x]) (B:=Y.drop (t+1)++R) (by rw[Ex];simp only[aP,bt,cz]) (by rw[List.length_append,hal];rfl);have e3:(((A.length+t:Nat):Int)+1).toNat=A.length+t+1:=by omega
   repeat' first|simp (disch:=omega) only[go_sem,aB,aC,aD,hs,oK,hml,VN,e1,e2,e3,eF,aG,if_false]|refine au ?_|refine aq ?_ ?_<;>intro hw<;>try omega|fail
   refine⟨t+1,?_,?_,?_,cZ,at_⟩<;>(try dsimp only)
   ·omega
   ·omega
   ·rw[Yx Ex hal.symm (by rw[hal])];refine congrArg (fun l=>σ.set k (jS l)) ?_;rw[iR,aF ht];simp only[aP,bt,Option.toList_some,cz]
  ·obtain rfl:t=p:=by omega
   repeat' first|refine au ?_|refine aq ?_ ?_<;>intro hw<;>try omega|fail
   refine⟨rfl,?_⟩;rw[tM,hT]
def abd (F : FuncId) (A : List Row) (y : Row) (X R : List Row) (hF : oT F (y :: X)) (hX : lO X) (hX0 : 1 < X.length) (hl : (A ++ X ++ [y] ++ R).length <= 2 ^ 40) :
    n9 188 [I A.length,I (A.length+X.length:Nat),I (A.length+X.length+1:Nat),A9 F] (A++X++[y]++R) (A++ez (y::X)++R):=by
 intro σ k gO;have iN:(A++X++[y]++R).length=A.length+X.length+1+R.length:=by simp;omega
 rw[iN]at hl;obtain⟨T,hT⟩:∃ T,A++ez (y::X)++R=T:=⟨_,rfl⟩;rw[hT,show sN k (A++X++[y]++R)=AV.own E1 k (A.length+X.length+1+R.length) 0 (A.length+X.length+1+R.length) by rw[<-iN]];have hs:=fun o=>wA gO o;have oK:∀ o o':bj,(σ.set k o).set k o' = σ.set k o':=fun o o'=>eu _;have wV:=hF;unfold oT at wV;simp only[aW]at wV;refine kq.go ?_;unfold dO;intro Q aB aC aD;repeat' first|refine au ?_|refine aq ?_ ?_<;>intro hw<;>try omega|fail
 obtain⟨L,hL⟩:∃ L,A++X++[y]++R=L:=⟨_,rfl⟩;rw[hL]at gO iN;have gy:L.getD (A.length+X.length) default=y:=getD_at (A:=A++X) (B:=R) (by rw[<-hL];simp) (by simp)
 have gX:∀ t,t<X.length->L.getD (A.length+t) default=X.getD t default:=fun t ht=>by
  rw[<-hL,ai,ai,aP,aP,bp (by omega),aJ (by omega)]
  congr 2
  omega
 with_reducible refine bE [14,15,16,83,84,85,86,87,88,89,90,91,92,93,94,95,96,97,98,99,100,101,102,103,104,105,106] (fun q:Nat × Nat=>[(14,I (A.length+q.1:Nat)),(15,I (A.length+q.2:Nat))]) (fun _=>σ) (fun q=>(q.1<=q.2/\q.2<=X.length)/\(q.1=0\/pE (X.getD (q.1-1) default) y)/\(q.2=X.length\/pE y (X.getD q.2 default))) (fun q=>q.2-q.1) (0,X.length) ?_ ?_ ?_ ?_
 ·exact⟨⟨by omega,Nat.le_refl _⟩,.inl rfl,.inl rfl⟩
 ·rfl
 ·exact at_
 rintro⟨p,q⟩ r ⟨⟨h1,h2⟩,h3,h4⟩;dsimp only at h1 h2 h3 h4 ⊢;by_cases hpq:p<q
 ·obtain⟨t,ht⟩:∃ t,(p+q) / 2=t:=⟨_,rfl⟩;have hlt:L.length=A.length+X.length+1+R.length:=iN;have hh:(A.length+p+(A.length+q)) / 2=A.length+t:=by omega
  have cF:=wV y List.mem_cons_self _ (bJ y (bn (l:=X) (i:=t) (by omega)));repeat' first|simp (disch:=omega) only[go_sem,aB,aC,aD,gO,hlt,Ch,hh,gy,gX t (by omega)]|refine au ?_|refine aq ?_ ?_<;>intro hw<;>try omega|fail
  ·refine⟨(t+1,q),?_,?_,by first|rfl|(simp[go_sem];done),cZ,at_⟩<;>(try dsimp only)
   ·exact⟨⟨by omega,by omega⟩,.inr (wz (a:=y) (b:=X.getD t default) (by omega)),h4⟩
   ·omega
  ·refine⟨(p,t),?_,?_,by first|rfl|(simp[go_sem];done),cZ,at_⟩<;>(try dsimp only)
   ·exact⟨⟨by omega,by omega⟩,h3,.inr (N7 (a:=y) (b:=X.getD t default) (by omega))⟩
   ·omega
 ·obtain rfl:p=q:=by omega
  have tM:=Ql hX (by omega) h3 h4;repeat' first|refine au ?_|refine aq ?_ ?_<;>intro hw<;>try omega|fail
  with_reducible refine bE [17,108,109,110,111,112,113,114,115,116,117,118,119,120,121,122,123,124,125,126,127,128] (fun t:Nat=>[(17,I (A.length+t:Nat))]) (fun t=>σ.set k (jS (A++(X.take t++y::X.drop t)++R))) (fun t=>p<=t/\t<=X.length) (fun t=>t-p) X.length ?_ ?_ ?_ ?_
  ·omega
  ·rw[show A++(X.take X.length++y::X.drop X.length)++R=L by rw[<-hL];simp,mQ gO]
  ·exact at_
  rintro t r' ⟨h5,h6⟩;by_cases htp:p<t
  ·obtain⟨u,rfl⟩:∃ u,t=u+1:=⟨t-1,by omega⟩;obtain⟨M,hM⟩:∃ M,A++(X.take (u+1)++y::X.drop (u+1))++R=M:=⟨_,rfl⟩;have hu:u<X.length:=by omega
   have Ex:M=(A++X.take u)++X[u]::y::(X.drop (u+1)++R):=by
    rw[<-hM,iR,aF hu];simp only[aP,bt,Option.toList_some,cz]
   have hml:M.length=A.length+X.length+1+R.length:=by rw[<-hM];simp;omega
   have hal:(A++X.take u).length=A.length+u:=by rw[List.length_append,List.length_take];omega
   rw[hM];have e1:M.getD (A.length+u) default=X[u]:=getD_at Ex hal.symm;have e2:M.getD (A.length+(u+1)) default=y:=getD_at (A:=(A++X.take u)++[X[u]]) (B:=X.drop (u+1)++R) (by rw[Ex];simp only[aP,bt,cz]) (by rw[List.length_append,hal];rfl);have e3:(((A.length+(u+1):Nat):Int)-1).toNat=A.length+u:=by omega
   repeat' first|simp (disch:=omega) only[go_sem,aB,aC,aD,hs,oK,hml,VN,e1,e2,e3,eF,aG,if_false]|refine au ?_|refine aq ?_ ?_<;>intro hw<;>try omega|fail
   refine⟨u,?_,?_,?_,cZ,at_⟩<;>(try dsimp only)
   ·omega
   ·omega
   ·rw[Qn Ex hal.symm (by rw[hal];rfl)];refine congrArg (fun l=>σ.set k (jS l)) ?_;rw[dy hu];simp only[aP,bt]
  ·obtain rfl:t=p:=by omega
   repeat' first|refine au ?_|refine aq ?_ ?_<;>intro hw<;>try omega|fail
   refine⟨rfl,?_⟩;rw[tM,hT]
def TE{x y:List Row}(h:x=[]\/y=[])(hx:lO x)(hy:lO y): ez (x++y)=x++y:=by
 rcases h with rfl|rfl
 ·exact Ev hy
 ·rw[bB];exact Ev hx
def Yz (F : FuncId) {n : Nat} (ih : SymM F n) {A X Y R : List Row} (hF : oT F (X ++ Y)) {s w x2 y2 : Nat} (hX : lO X) (hY : lO Y) (lx : X.length = s + x2) (ly : Y.length = w + y2) (hn : X.length + Y.length <= n + 1) (hb : s + w <= n) (gG : x2 + y2 <= n)
    (hl:A.length+(s+x2)+(w+y2)+R.length<=2 ^ 40) (h5:s=0\/y2=0\/¬ iu (Y.getD w default) (X.getD (s-1) default)<0) (h6:x2=0\/w=0\/iu (Y.getD (w-1) default) (X.getD s default)<0) :
    ∃ D1 D2 : List Row, D1.length = A.length + (s + x2) + (w + y2) + R.length /\ D2.length = A.length + (s + x2) + (w + y2) + R.length /\
      (¬ (0<x2/\0<w)->A++X++Y++R=D1)/\(¬ (0<s/\0<w)->D1=D2)/\(¬ (0<x2/\0<y2)->D2=A++ez (X++Y)++R) /\
      (0<x2->0<w->n9 209 [I (A.length+s:Nat),I (A.length+s+x2:Nat),I (A.length+s+x2+w:Nat),A9 F] (A++X++Y++R) D1) /\
      (0<s->0<w->n9 188 [I A.length,I (A.length+s:Nat),I (A.length+s+w:Nat),A9 F] D1 D2) /\
      (0<x2->0<y2->n9 188 [I (A.length+(s+w):Nat),I (A.length+(s+w)+x2:Nat),I (A.length+(s+w)+x2+y2:Nat),A9 F] D2 (A++ez (X++Y)++R)):=by
 have hme:=aa8 hX hY (h:=s+w) (s:=s) (by omega) (by omega) (by omega) (by
  rw[Nat.add_sub_cancel_left];rcases h5 with h5|h5|h5
  ·exact .inl h5
  ·exact .inr (.inl (by omega))
  ·exact .inr (.inr h5)) (by
  rw[show s+w-1-s=w-1 by omega];rcases h6 with h6|h6|h6
  ·exact .inl (by omega)
  ·exact .inr (.inl (by omega))
  ·exact .inr (.inr h6))
 clear h5 h6;rw[Nat.add_sub_cancel_left]at hme;have x12:=dw s X;have y12:=dw w Y;have lX1:(X.take s).length=s:=by rw[List.length_take];omega
 have lX2:(X.drop s).length=x2:=by rw[List.length_drop];omega
 have lY1:(Y.take w).length=w:=by rw[List.length_take];omega
 have lY2:(Y.drop w).length=y2:=by rw[List.length_drop];omega
 have sX1:lO (X.take s):=hX.sublist (List.take_sublist _ _);have sX2:lO (X.drop s):=hX.sublist (List.drop_sublist _ _);have sY1:lO (Y.take w):=hY.sublist (List.take_sublist _ _);have sY2:lO (Y.drop w):=hY.sublist (List.drop_sublist _ _)
 have hF1:oT F (X.take s++Y.take w):=hF.sub fun z hz=>by
  rcases List.mem_append.1 hz with hz|hz
  ·exact cW _ (List.mem_of_mem_take hz)
  ·exact ek _ (List.mem_of_mem_take hz)
 have hF2:oT F (X.drop s++Y.drop w):=hF.sub fun z hz=>by
  rcases List.mem_append.1 hz with hz|hz
  ·exact cW _ (List.mem_of_mem_drop hz)
  ·exact ek _ (List.mem_of_mem_drop hz)
 clear hF;generalize X.take s=X1 at *;generalize X.drop s=X2 at *;generalize Y.take w=Y1 at *;generalize Y.drop w=Y2 at *;have lS:(ez (X1++Y1)).length=s+w:=by rw[nX,List.length_append,lX1,lY1]
 have hL:A++X++Y++R=(A++X1)++X2++Y1++(Y2++R):=by rw[<-x12,<-y12];simp only[aP]
 have hT:A++ez (X1++Y1)++ez (X2++Y2)++R=A++ez (X++Y)++R:=by rw[<-hme];simp only[aP]
 have lAX:(A++X1).length=A.length+s:=by rw[List.length_append,lX1]
 have lAS:(A++ez (X1++Y1)).length=A.length+(s+w):=by rw[List.length_append,lS]
 rw[hL,<-hT];clear hme x12 y12 hL hT hX hY;refine⟨(A++X1)++Y1++X2++(Y2++R),A++ez (X1++Y1)++(X2++Y2++R),?_,?_,fun hc=>?_,fun hc=>?_,fun hc=>?_,fun h1 h2=>?_,fun h1 h2=>?_,fun h1 h2=>?_⟩
 ·simp only[List.length_append];omega
 ·simp only[List.length_append,lS];omega
 ·by_cases hc1:0<x2
  ·obtain rfl:Y1=[]:=List.length_eq_zero_iff.1 (by omega);simp
  ·obtain rfl:X2=[]:=List.length_eq_zero_iff.1 (by omega);simp
 ·rw [TE (x := X1) (y := Y1) (by
   by_cases hc1:0<s
   ·exact .inr (List.length_eq_zero_iff.1 (by omega))
   ·exact .inl (List.length_eq_zero_iff.1 (by omega))) sX1 sY1]
  simp only[aP]
 ·rw [TE (x := X2) (y := Y2) (by
   by_cases hc1:0<x2
   ·exact .inr (List.length_eq_zero_iff.1 (by omega))
   ·exact .inl (List.length_eq_zero_iff.1 (by omega))) sX2 sY2]
  simp only[aP]
 ·have:=rotate (A9 F) (A++X1) X2 Y1 (Y2++R) (by simp only[List.length_append];omega) (by omega) (by omega);rwa[lAX,lX2,lY1]at this
 ·have:=ih A X1 Y1 (X2++Y2++R) hF1 (by omega) sX1 sY1 (by omega) (by omega) (by simp only[List.length_append];omega);rw[lX1,lY1]at this;rwa[show A++X1++Y1++(X2++Y2++R)=A++X1++Y1++X2++(Y2++R) by simp only[aP]]at this
 ·have:=ih (A++ez (X1++Y1)) X2 Y2 R hF2 (by omega) sX2 sY2 (by omega) (by omega) (by simp only[List.length_append,lS];omega);rw[lAS,lX2,lY2]at this;rwa[show A++ez (X1++Y1)++X2++Y2++R=A++ez (X1++Y1)++(X2++Y2++R) by simp only[aP]]at this
def abe (F : FuncId) (n : Nat) (ih : SymM F n) (A X Y R : List Row) (hF : oT F (X ++ Y)) (hn : X.length + Y.length <= n + 1) (hX : lO X) (hY : lO Y) (hX1 : 1 < X.length) (hY1 : 1 < Y.length) (hl : (A ++ X ++ Y ++ R).length <= 2 ^ 40) :
    n9 188 [I A.length,I (A.length+X.length:Nat),I (A.length+X.length+Y.length:Nat),A9 F] (A++X++Y++R) (A++ez (X++Y)++R):=by
 intro σ k gO;have iN:(A++X++Y++R).length=A.length+X.length+Y.length+R.length:=by simp only[List.length_append]
 rw[iN]at hl;obtain⟨T,hT⟩:∃ T,A++ez (X++Y)++R=T:=⟨_,rfl⟩;rw[hT,show sN k (A++X++Y++R)=AV.own E1 k (A.length+X.length+Y.length+R.length) 0 (A.length+X.length+Y.length+R.length) by rw[<-iN]];have hs:=fun o=>wA gO o;have oK:∀ o o':bj,(σ.set k o).set k o' = σ.set k o':=fun o o'=>eu _;have wV:=hF;unfold oT at wV;simp only[aW]at wV;obtain⟨L,hL⟩:∃ L,A++X++Y++R=L:=⟨_,rfl⟩;rw[hL]at gO iN;obtain⟨h,hh⟩:∃ h,(X.length+Y.length) / 2=h:=⟨_,rfl⟩;have afq:(A.length+(A.length+X.length+Y.length)) / 2=A.length+h:=by omega
 have gX:∀ t,t<X.length->L.getD (A.length+t) default=X.getD t default:=fun t ht=>by
  rw[<-hL,ai,ai,aP,aP,bp (by omega),aJ (by omega)]
  congr 2
  omega
 have gY:∀ t,t<Y.length->L.getD (A.length+X.length+t) default=Y.getD t default:=fun t ht=>by
  rw[<-hL,ai,ai,aP,bp (by rw[List.length_append];omega),aJ (by rw[List.length_append];omega)]
  congr 2
  rw[List.length_append];omega
 refine kq.go ?_;unfold dO;intro Q aB aC aD;rcases Nat.lt_or_ge h X.length with hm|hm
 all_goals
  repeat' first|simp (disch:=omega) only[go_sem,aB,aC,aD,Ch,afq]|refine au ?_|refine aq ?_ ?_<;>intro hw<;>try omega|fail
  with_reducible refine bE [20,21,23,149,150,151,152,153,154,155,156,157,158,159,160,161,162,163,164,165,166,167,168,169,170,171,172,173,174] (fun q:Nat × Nat=>[(20,I (A.length+q.1:Nat)),(21,I (A.length+q.2:Nat))]) (fun _=>σ.set k (jS L)) (fun q=>(h-Y.length<=q.1/\q.1<=q.2/\q.2<=X.length/\q.2<=h)/\(q.1=h-Y.length\/¬ iu (Y.getD (h-q.1) default) (X.getD (q.1-1) default)<0)/\(q.2=X.length\/q.2=h\/iu (Y.getD (h-1-q.2) default) (X.getD q.2 default)<0)) (fun q=>q.2-q.1) (h-Y.length,min X.length h) ?_ ?_ ?_ ?_
  ·refine⟨⟨by omega,by omega,by omega,by omega⟩,.inl rfl,?_⟩;dsimp only;omega
  ·exact(mQ gO).symm
  ·exact at_
  rintro⟨s,u⟩ r ⟨⟨h1,h2,h3,h4⟩,h5,h6⟩;dsimp only at h1 h2 h3 h4 h5 h6 ⊢;by_cases hsu:s<u
  ·obtain⟨t,ht⟩:∃ t,(s+u) / 2=t:=⟨_,rfl⟩;have hlt:L.length=A.length+X.length+Y.length+R.length:=iN;have hc:(A.length+s+(A.length+u)) / 2=A.length+t:=by omega
   have e1:(((A.length+h:Nat):Int)+(A.length+X.length:Nat)-1-(A.length+t:Nat)).toNat=A.length+X.length+(h-1-t):=by omega
   have cF:=wV _ (ek X (bn (l:=Y) (i:=h-1-t) (by omega))) _ (cW Y (bn (l:=X) (i:=t) (by omega)));repeat' first|simp (disch:=omega) only[go_sem,aB,aC,aD,hs,hlt,Ch,hc,e1,gX t (by omega),gY (h-1-t) (by omega)]|refine au ?_|refine aq ?_ ?_<;>intro hw<;>try omega|fail
   ·refine⟨(t+1,u),?_,?_,by first|rfl|(simp[go_sem];done),cZ,at_⟩<;>(try dsimp only)
    ·refine⟨⟨by omega,by omega,by omega,by omega⟩,.inr ?_,h6⟩;show ¬ iu (Y.getD (h-(t+1)) default) (X.getD t default)<0;rw[show h-(t+1)=h-1-t by omega];omega
    ·omega
   ·refine⟨(s,t),?_,?_,by first|rfl|(simp[go_sem];done),cZ,at_⟩<;>(try dsimp only)
    ·exact⟨⟨by omega,by omega,by omega,by omega⟩,h5,.inr (.inr hw)⟩
    ·omega
  ·obtain rfl:s=u:=by omega
   obtain⟨w,hw⟩:∃ w,h=s+w:=⟨h-s,by omega⟩;obtain⟨x2,lU⟩:∃ x2,X.length=s+x2:=⟨X.length-s,by omega⟩;obtain⟨y2,SM⟩:∃ y2,Y.length=w+y2:=⟨Y.length-w,by omega⟩;have b1:s+w<=n:=by clear h5 h6;omega
   have b2:x2+y2<=n:=by clear h5 h6;omega
   have Gf:s=0\/y2=0\/¬ iu (Y.getD w default) (X.getD (s-1) default)<0:=by
    clear h6;rcases h5 with h5|h5
    ·by_cases h0:s=0
     ·exact .inl h0
     ·exact .inr (.inl (by omega))
    ·rw[hw,Nat.add_sub_cancel_left]at h5;exact .inr (.inr h5)
   have h6':x2=0\/w=0\/iu (Y.getD (w-1) default) (X.getD s default)<0:=by
    clear h5 Gf;rcases h6 with h6|h6|h6
    ·exact .inl (by omega)
    ·exact .inr (.inl (by omega))
    ·rw[hw,show s+w-1-s=w-1 by omega]at h6;exact .inr (.inr h6)
   clear h5 h6;rw[lU,SM]at iN hl;obtain⟨D1,D2,ld1,ld2,q01,TF,A_,p01,TG,Ba⟩:=Yz F ih (A:=A) (R:=R) hF hX hY lU SM hn b1 b2 hl Gf h6';clear Gf h6' b1 b2 hn gX gY wV;rw[hL]at q01 p01;rw[hT]at A_ Ba;rw[lU,SM,hw];clear hh afq hm h1 h2 h3 h4 hsu hX1 hY1 hL hX hY hT lU SM hw ih hF gO;by_cases c1:0<x2/\0<w
   ·have pa:=p01 c1.1 c1.2;clear p01 q01;by_cases c2:0<s/\0<w
    ·have pb:=TG c2.1 c2.2;clear TG TF;by_cases c3:0<x2/\0<y2
     ·have pc:=Ba c3.1 c3.2;clear Ba A_;repeat' first|simp (disch:=omega) only[go_sem,aB,aC,aD,oK]|refine au ?_|with_reducible refine iI pa (hs _) (rL (by omega) (by omega) (by omega) (by omega)) ?_|with_reducible refine iI pb (hs _) (rL (by omega) (by omega) (by omega) (by omega)) ?_|with_reducible refine iI pc (hs _) (rL (by omega) (by omega) (by omega) (by omega)) ?_|refine aq ?_ ?_<;>intro hw<;>try omega|fail
      all_goals first|exact⟨rfl,trivial⟩|exact⟨rfl,rfl⟩
     ·have e:=A_ c3;clear Ba A_;subst e;repeat' first|simp (disch:=omega) only[go_sem,aB,aC,aD,oK]|refine au ?_|with_reducible refine iI pa (hs _) (rL (by omega) (by omega) (by omega) (by omega)) ?_|with_reducible refine iI pb (hs _) (rL (by omega) (by omega) (by omega) (by omega)) ?_|refine aq ?_ ?_<;>intro hw<;>try omega|fail
      all_goals first|exact⟨rfl,trivial⟩|exact⟨rfl,rfl⟩
    ·have e:=TF c2;clear TG TF;subst e;by_cases c3:0<x2/\0<y2
     ·have pc:=Ba c3.1 c3.2;clear Ba A_;repeat' first|simp (disch:=omega) only[go_sem,aB,aC,aD,oK]|refine au ?_|with_reducible refine iI pa (hs _) (rL (by omega) (by omega) (by omega) (by omega)) ?_|with_reducible refine iI pc (hs _) (rL (by omega) (by omega) (by omega) (by omega)) ?_|refine aq ?_ ?_<;>intro hw<;>try omega|fail
      all_goals first|exact⟨rfl,trivial⟩|exact⟨rfl,rfl⟩
     ·have e:=A_ c3;clear Ba A_;subst e;repeat' first|simp (disch:=omega) only[go_sem,aB,aC,aD,oK]|refine au ?_|with_reducible refine iI pa (hs _) (rL (by omega) (by omega) (by omega) (by omega)) ?_|refine aq ?_ ?_<;>intro hw<;>try omega|fail
      all_goals first|exact⟨rfl,trivial⟩|exact⟨rfl,rfl⟩
   ·have e:=q01 c1;clear p01 q01;subst e;by_cases c2:0<s/\0<w
    ·have pb:=TG c2.1 c2.2;clear TG TF;by_cases c3:0<x2/\0<y2
     ·have pc:=Ba c3.1 c3.2;clear Ba A_;repeat' first|simp (disch:=omega) only[go_sem,aB,aC,aD,oK]|refine au ?_|with_reducible refine iI pb (hs _) (rL (by omega) (by omega) (by omega) (by omega)) ?_|with_reducible refine iI pc (hs _) (rL (by omega) (by omega) (by omega) (by omega)) ?_|refine aq ?_ ?_<;>intro hw<;>try omega|fail
      all_goals first|exact⟨rfl,trivial⟩|exact⟨rfl,rfl⟩
     ·have e:=A_ c3;clear Ba A_;subst e;repeat' first|simp (disch:=omega) only[go_sem,aB,aC,aD,oK]|refine au ?_|with_reducible refine iI pb (hs _) (rL (by omega) (by omega) (by omega) (by omega)) ?_|refine aq ?_ ?_<;>intro hw<;>try omega|fail
      all_goals first|exact⟨rfl,trivial⟩|exact⟨rfl,rfl⟩
    ·have e:=TF c2;clear TG TF;subst e;by_cases c3:0<x2/\0<y2
     ·have pc:=Ba c3.1 c3.2;clear Ba A_;repeat' first|simp (disch:=omega) only[go_sem,aB,aC,aD,oK]|refine au ?_|with_reducible refine iI pc (hs _) (rL (by omega) (by omega) (by omega) (by omega)) ?_|refine aq ?_ ?_<;>intro hw<;>try omega|fail
      all_goals first|exact⟨rfl,trivial⟩|exact⟨rfl,rfl⟩
     ·have e:=A_ c3;clear Ba A_;subst e;repeat' first|simp (disch:=omega) only[go_sem,aB,aC,aD,oK]|refine au ?_|refine aq ?_ ?_<;>intro hw<;>try omega|fail
      all_goals first|exact⟨rfl,trivial⟩|exact⟨rfl,rfl⟩
def abf(F:FuncId): ∀ n,SymM F n:=by
 intro n
 induction n with
 | zero=>intro A X Y R _ hn _ _ hX _;omega
 | succ n ih =>
   intro A X Y R hF hn hX hY hX0 hY0 hl;by_cases h1:X.length=1
   ·obtain⟨x,rfl⟩:=List.length_eq_one_iff.1 h1;exact Yy F A x Y R hF hY hY0 hl
   ·by_cases h2:Y.length=1
    ·obtain⟨y,rfl⟩:=List.length_eq_one_iff.1 h2;rw[Cg (List.perm_append_comm:(X++[y]).Perm ([y]++X))];exact abd F A y X R (hF.sub fun z hz=>by simpa[or_comm]using hz) hX (by omega) hl
    ·exact abe F n ih A X Y R hF hn hX hY (by omega) (by omega) hl
