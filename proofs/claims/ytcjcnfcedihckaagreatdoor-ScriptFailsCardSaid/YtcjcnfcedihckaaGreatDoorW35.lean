/- Part. -/
import Derived.Test.YtcjcnfcedihckaaGreatDoorW34
import Derived.KernelRfl
set_option linter.all false
set_option maxHeartbeats 8000000
namespace Go.Proofs.YtcjcnfcedihckaaGreatDoor
open Go.AM
set_option maxRecDepth 4000
def yF: aM aK 87 [] (bM rW):=by
 refine aR Cu ?_;intro Q aC aD aE;repeat' first|refine aG ?_|refine aF ?_ ?_<;>intro hw<;>try omega|fail
 all_goals exact fg (View.weak _ _ _ (by simp))
def E5: aM aK 88 [] (bM oE):=by
 refine aR Jg ?_;intro Q aC aD aE;repeat' first|refine aG ?_|refine aF ?_ ?_<;>intro hw<;>try omega|fail
 all_goals exact fg (View.weak _ _ _ (by simp))
def Dx: aM aK 89 [] (bM pY):=by
 refine aR G9 ?_;intro Q aC aD aE;repeat' first|refine aG ?_|refine aF ?_ ?_<;>intro hw<;>try omega|fail
 all_goals exact fg (View.weak _ _ _ (by simp))
def pn(l:List aI)(v:aI)(hl:l.length<=2 ^ 62): aM aK 108 [bM l,.str v] (I (fI (fun x=>x==v) l)):=by
 simp only[bM];refine aR yO ?_;intro Q aC aD aE;repeat' first|refine aG ?_|refine aF ?_ ?_<;>intro hw<;>try omega|fail
 with_reducible refine bX [4,5,8,9,10,11,12,13,14,15,16,17,18] (fun i:Nat=>[(8,I i)]) (fun _=>[]) (fun i=>i<=l.length/\ ∀ k,k<i->(l.getD k default==v)=false) (fun i=>l.length-i) (0) ?_ ?_ ?_ ?_
 ·simp
 ·rfl
 ·exact at_
 rintro i r ⟨hi,hp⟩;by_cases hin:i<l.length
 ·have h1:=fun hw=>mo (p:=fun x:aI=>x==v) hin hp hw;have h2:=fun hw=>bP (q:=fun k=>(l.getD k default==v)=false) hp (i:=i) hw;obtain⟨x,hx⟩:∃ x,l.getD i default=x:=⟨_,rfl⟩;rw[hx]at h1 h2;repeat' first|simp (disch:=omega) only[go_sem,aC,aD,aE,hx]|refine aG ?_|refine aF ?_ ?_<;>intro hw<;>try omega|fail
  all_goals first
   | exact bK
   |(refine aS ?_ rfl;refine congrArg I ?_;rw[h1 (by simp_all)];done)
   | (refine ⟨i + 1, ?_, ?_, by first | rfl | (simp [go_sem]; done), da, at_⟩ <;> (try dsimp only)
      ·exact⟨by omega,h2 (by rw[beq_eq_false_iff_ne];exact fun e=>hw e.symm)⟩
      ·omega)
   | skip
 ·repeat' first|refine aG ?_|refine aF ?_ ?_<;>intro hw<;>try omega|fail
  refine aS ?_ rfl;refine congrArg I ?_;exact(lZ fun k hk=>hp k (by omega)).symm
def yG{s:aI}{a i:Nat}(h:a<=i)(hi:i<s.length): (s.drop a).take (i+1-a)=(s.drop a).take (i-a)++[s.getD i 0]:=by
 have e:i+1-a=(i-a)+1:=by omega
 rw[e,List.take_add_one,List.getElem?_drop];have e2:a+(i-a)=i:=by omega
 rw[e2,aj,aN hi];rfl
def LA{s:aI}{i:Nat}(hi:i<s.length): s.drop i=s.getD i 0::s.drop (i+1):=by
 rw[eZ hi,aj,aN hi];rfl
def WT {y : UInt8} {s : aI} {a i : Nat} (h : a <= i) (hi : i < s.length) (w : Bool) : eD y w ((s.drop a).take (i - a)) (s.drop i) =
    if w=true then(if(s.getD i 0).toNat=92 then eD y true ((s.drop a).take (i+2-a)) (s.drop (i+2))else eD y (decide ((s.getD i 0).toNat≠34)) ((s.drop a).take (i+1-a)) (s.drop (i+1)))
    else if s.getD i 0=y then oF ((s.drop a).take (i-a))::eD y false ((s.drop (i+1)).take (i+1-(i+1))) (s.drop (i+1))
    else eD y (decide ((s.getD i 0).toNat=34)) ((s.drop a).take (i+1-a)) (s.drop (i+1)):=by
 rw[yG h hi,LA hi];generalize hc:(s.drop a).take (i-a)=cur;cases w with
 | true =>
   rw[if_pos rfl];by_cases hn:i+1<s.length
   ·have e2 : (s.drop a).take (i + 2 - a) = cur ++ [s.getD i 0, s.getD (i + 1) 0] := by
     rw[show i+2-a=i+1+1-a by omega,yG (by omega) hn,yG h hi,hc];simp
    rw[e2,LA hn,eD]
   ·have e1:s.drop (i+1)=[]:=iY (by omega);have e3:s.drop (i+2)=[]:=iY (by omega)
    have e2:(s.drop a).take (i+2-a)=cur++[s.getD i 0]:=by
     rw[<-hc,<-yG h hi,bp (by simp;omega),bp (by simp;omega)]
    rw[e1,e2,e3,eD,eD,eD];split<;>rfl
 | false =>
   rw[if_neg (by decide),eD];simp
def WU{y:UInt8}{s:aI}{a i:Nat}(hi:s.length<=i)(w:Bool): eD y w ((s.drop a).take (i-a)) (s.drop i)=[oF (s.drop a)]:=by
 rw[iY hi,bp (by simp;omega),eD]
def p_(s:aI)(y:UInt8)(hs:s.length<=2 ^ 30): aM aK 12 [.str s,.int .u8 y.toNat] (bM (fO s y)):=by
 obtain⟨E,hE⟩:∃ E,fO s y=E:=⟨_,rfl⟩;rw[hE];simp only[bM];refine aR G1 ?_;intro Q aC aD aE;repeat' first|refine aG ?_|refine aF ?_ ?_<;>intro hw<;>try omega|fail
 with_reducible refine bX [5,6,7,8,9,10,11,12,13,14,15,16,17,18,19,20,21,22,23,24,25,26,27,28,29,30,31,32,33,34,35,36,37,38,39,40,41,42,43,44,45,46,47] (fun q:Nat × Nat × Bool × List aI=>[(5,.own E1 0 q.2.2.2.length 0 q.2.2.2.length),(6,I q.2.1),(7,.bool q.2.2.1),(8,I q.1)]) (fun q=>[.vec E1 (q.2.2.2.map bB)]) (fun q=>q.2.1<=q.1/\q.2.1<=s.length/\q.1<=s.length+1/\q.2.2.2.length<=q.1/\E=q.2.2.2++eD y q.2.2.1 ((s.drop q.2.1).take (q.1-q.2.1)) (s.drop q.1)) (fun q=>s.length+1-q.1) ((0,0,false,[])) ?_ ?_ ?_ ?_
 ·refine⟨by simp,by simp,by simp,by simp,?_⟩;rw[<-hE];rfl
 ·rfl
 ·exact at_
 rintro⟨i,a,w,out⟩ r ⟨g1,g2,g3,g4,g5⟩;dsimp only at g1 g2 g3 g4 g5;by_cases hi:i<s.length
 ·have hp:=WT (y:=y) g1 hi w;rw[hp]at g5;clear hp;have hu:=UInt8.toNat_inj (a:=s.getD i 0) (b:=y);have r8:(s.take i).drop a=(s.drop a).take (i-a):=List.drop_take ..;have ct:=Dv ((s.drop a).take (i-a)) (by simp;omega);obtain⟨cur,sS⟩:∃ cur,(s.drop a).take (i-a)=cur:=⟨_,rfl⟩;rw[sS]at ct g5;rw[sS]at r8;generalize hc:s.getD i 0=c at *;cases w with
  | true =>
    rw[if_pos rfl]at g5;by_cases h92:c.toNat=92
    ·rw[if_pos h92]at g5;repeat' first|simp (disch:=omega) only[go_sem,aC,aD,aE,hc]|refine aG ?_|refine aF ?_ ?_<;>intro hw<;>try omega|fail
     all_goals first
      | exact bK
      | skip
     refine⟨(i+2,a,true,out),?_,?_,?_,da,?_⟩
     ·exact⟨by dsimp only;omega,g2,by dsimp only;omega,by dsimp only;omega,g5⟩
     ·dsimp only;omega
     ·first|rfl|(simp[go_sem];done)
     ·exact at_
    ·rw[if_neg h92]at g5;have nW:decide (c.toNat≠34) = !((c.toNat:Int)==34):=by rw[a_];simp;omega
     rw[nW]at g5;repeat' first|simp (disch:=omega) only[go_sem,aC,aD,aE,hc]|refine aG ?_|refine aF ?_ ?_<;>intro hw<;>try omega|fail
     all_goals first
      | exact bK
      | skip
     refine⟨(i+1,a,!((c.toNat:Int)==34),out),?_,?_,?_,da,?_⟩
     ·exact⟨by dsimp only;omega,g2,by dsimp only;omega,by dsimp only;omega,g5⟩
     ·dsimp only;omega
     ·first|rfl|(simp[go_sem];done)
     ·exact at_
  | false =>
    rw[if_neg (by decide)]at g5;by_cases hy:c=y
    ·rw[if_pos hy]at g5;repeat' first|simp (disch:=omega) only[go_sem,aC,aD,aE,hc,r8,sS]|refine aG ?_|refine aF ?_ ?_<;>intro hw<;>try omega|fail
     all_goals first
      | exact bK
      | skip
     refine⟨(i+1,i+1,false,out++[oF cur]),?_,?_,?_,da,?_⟩
     ·exact⟨by dsimp only;omega,by dsimp only;omega,by dsimp only;omega,by simp;omega,by rw[g5];simp⟩
     ·dsimp only;omega
     ·first|rfl|(simp[go_sem,bB];done)
     ·exact at_
    ·rw[if_neg hy]at g5;have hy':¬ c.toNat=y.toNat:=fun e=>hy (hu.1 e);by_cases h34:c.toNat=34
     ·rw[decide_eq_true h34]at g5;repeat' first|simp (disch:=omega) only[go_sem,aC,aD,aE,hc]|refine aG ?_|refine aF ?_ ?_<;>intro hw<;>try omega|fail
      all_goals first
       | exact bK
       | skip
      refine⟨(i+1,a,true,out),?_,?_,?_,da,?_⟩
      ·exact⟨by dsimp only;omega,g2,by dsimp only;omega,by dsimp only;omega,g5⟩
      ·dsimp only;omega
      ·first|rfl|(simp[go_sem];done)
      ·exact at_
     ·rw[decide_eq_false h34]at g5;repeat' first|simp (disch:=omega) only[go_sem,aC,aD,aE,hc]|refine aG ?_|refine aF ?_ ?_<;>intro hw<;>try omega|fail
      all_goals first
       | exact bK
       | skip
      refine⟨(i+1,a,false,out),?_,?_,?_,da,?_⟩
      ·exact⟨by dsimp only;omega,g2,by dsimp only;omega,by dsimp only;omega,g5⟩
      ·dsimp only;omega
      ·first|rfl|(simp[go_sem];done)
      ·exact at_
 ·rw[WU (by omega)]at g5;have ct:=Dv (s.drop a) (by simp;omega);repeat' first|refine aG ?_|refine aF ?_ ?_<;>intro hw<;>try omega|fail
  all_goals first|exact bK|(refine fg ?_;rw[g5,gD];exact View.vec rfl (by simp) (by simp) (by have h:=tq (out++[oF (s.drop a)]);rw[gD]at h;exact h))|skip
def T3: ∀(k m:Nat) (s:aI),s.length<=k->s.length<=m->pieces k s=pieces m s:=by
 intro k
 induction k with
 | zero =>
   intro m s h _;obtain rfl:=List.length_eq_zero_iff.1 (by omega:s.length=0);cases m with
   | zero=>rfl
   | succ m=>rfl
 | succ k ih =>
   intro m s h h2;cases m with
   | zero =>
     obtain rfl:=List.length_eq_zero_iff.1 (by omega:s.length=0);rfl
   | succ m =>
     rw[pieces,pieces];split
     ·rename_i hc;have:=((Bb 32 s).1 hc).2;have hl:(cD 32 s).2.1.length+1<=s.length:=by rw[this.1,List.length_drop];omega
      rw[ih m _ (by omega) (by omega)]
     ·rfl
def T4: ∀(k:Nat) (s:aI),1<=(pieces k s).length/\(pieces k s).length<=k+1:=by
 intro k
 induction k with
 | zero=>intro s;simp[pieces]
 | succ k ih =>
   intro s;rw[pieces];split
   ·have:=ih (cD 32 s).2.1;rw[List.length_cons];omega
   ·simp
def WV{l:List aI}{N:Nat}{x:aI}(h:l.length<N): (l.map bB++List.replicate (N-l.length) (AV.str [])).set l.length (.str x)=(l++[x]).map bB++List.replicate (N-(l++[x]).length) (AV.str []):=by
 obtain⟨m,hm⟩:∃ m,N-l.length=m+1:=⟨N-l.length-1,by omega⟩;have e:N-(l++[x]).length=m:=by simp;omega
 rw[hm,e,List.replicate_succ,List.set_append_right _ _ (by simp)];simp[bB]
def LB{α : Type}{a b:List α}{i:Nat}{d : α}(h:i<a.length): (a++b).getD i d=a.getD i d:=by
 simp[aj,aH h]
def OV{xs ys:List AV}{n m:Nat}(hn:n=ys.length)(hm:m=(ys++xs).length)(hp:AV.cB ys=true): View [aZ.vec E1 (ys++xs)] (.own E1 0 m 0 n) (.aO false E1 ys):=by
 subst hn;subst hm;exact .own none E1 0 0 ys.length (ys++xs) ys rfl rfl (by simp) (fun i hi=>by rw[b_,LB hi];exact .refl _ (jh hp i))
def Gg(s:aI)(n:Nat)(hn:1<=n)(hn2:n<=2 ^ 20)(hs:s.length<=2 ^ 40): aM aK 185 [.str s,.str [32],I 0,I n] (bM (pieces (n-1) s)):=by
 obtain⟨k,hk,hk0,hN⟩:∃ k:Nat,pieces (n-1) s=pieces k s/\k+1<=n/\(if(s.length:Int)+1<n then(s.length:Int)+1 else n)=(k:Int)+1:=by
  by_cases h:n<s.length+1
  ·exact⟨n-1,rfl,by omega,by rw[if_neg (by omega)];omega⟩
  ·exact⟨s.length,T3 _ _ _ (by omega) (by omega),by omega,by split<;>omega⟩
 rw[hk];obtain⟨E,hE⟩:∃ E,pieces k s=E:=⟨_,rfl⟩;rw[hE];simp only[bM];refine aR BK ?_;intro Q aC aD aE;have Uz:((k:Int)+1).toNat=k+1:=by omega
 have lj:(k:Int)+1-1=k:=by omega
 repeat' first|simp (disch:=omega) only[go_sem,aC,aD,aE,hN,Uz,lj]|refine aG ?_|refine aF ?_ ?_<;>intro hw<;>try omega|fail
 all_goals first|(exfalso;omega)|(exfalso;simp_all;done)|skip
 with_reducible refine bX [0,10,11,34,35,36,37,38,39,40,41,42,43,44,45,46,47,48,49,50,51,52,53,54,55,56,57] (fun q:List aI × aI=>[(0,.str q.2),(10,I q.1.length)]) (fun q=>[.vec E1 (q.1.map bB++List.replicate (k+1-q.1.length) (.str []))]) (fun q=>q.1.length<=k/\q.2.length<=s.length/\E=q.1++pieces (k-q.1.length) q.2) (fun q=>k-q.1.length) (([],s)) ?_ ?_ ?_ ?_
 ·exact⟨by simp,by simp,by simp[hE]⟩
 ·simp;rfl
 ·exact at_
 rintro⟨l,u⟩ r ⟨g1,g2,g3⟩;dsimp only at g1 g2 g3;have c1:=strings_Index u 32;obtain⟨q1,q2⟩:=Bb 32 u;have ug:=fun x=>WV (l:=l) (N:=k+1) (x:=x) (by omega);unfold Dw at c1;by_cases hk:l.length<k
 ·obtain⟨m,hm⟩:∃ m,k-l.length=m+1:=⟨k-l.length-1,by omega⟩;rw[hm,pieces]at g3;cases hc:(cD 32 u).2.2 with
  | true =>
    rw[hc,if_pos rfl]at g3 c1;obtain⟨e1,e2,e3⟩:=q1 hc;generalize (cD 32 u).1=w at *;generalize (cD 32 u).2.1=rest at *;generalize w.length=j at *;subst e1;subst e2;repeat' first|simp (disch:=omega) only[go_sem,aC,aD,aE,aB,if_false,ug]|refine aG ?_|refine aF ?_ ?_<;>intro hw<;>try omega|fail
    all_goals first|(exfalso;omega)|skip
    refine⟨(l++[u.take j],u.drop (j+1)),?_,?_,?_,da,?_⟩
    ·refine⟨by simp;omega,?_,?_⟩
     ·dsimp only;rw[List.length_drop];omega
     ·dsimp only;rw[g3,show k-(l++[u.take j]).length=m by simp;omega];simp
    ·simp;omega
    ·first|rfl|(simp[go_sem];done)
    ·exact at_
  | false =>
    rw[hc,if_neg (by decide)]at g3 c1;repeat' first|simp (disch:=omega) only[go_sem,aC,aD,aE,aB,if_false,ug,bO,aT]|refine aG ?_|refine aF ?_ ?_<;>intro hw<;>try omega|fail
    all_goals first|(exfalso;omega)|skip
    refine fg ?_;rw[g3];exact OV (by simp) (by simp;omega) (tq _)
 ·have hm:k-l.length=0:=by omega
  rw[hm,pieces]at g3;repeat' first|simp (disch:=omega) only[go_sem,aC,aD,aE,aB,if_false,ug,bO,aT]|refine aG ?_|refine aF ?_ ?_<;>intro hw<;>try omega|fail
  all_goals first|(exfalso;omega)|skip
  refine fg ?_;rw[g3];exact OV (by simp) (by simp;omega) (tq _)
def sF{l:List aI}{sep:aI}{m:Nat}(h:∀ z ∈ l,z.length<=m): (Lib.join l sep).length<=l.length*(m+sep.length):=by
 cases l with
 | nil=>simp[Lib.join,List.intercalate]
 | cons x l =>
   rw[join_cons,aA];have h1:=h x (by simp)
   have h2:(l.flatMap fun z=>sep++z).length<=l.length*(m+sep.length):=by
    have h':∀ z ∈ l,z.length<=m:=fun z hz=>h z (by simp[hz]);clear h h1
    induction l with
    | nil=>simp
    | cons y l ih =>
      have a:=h' y (by simp);have b:=ih (fun z hz=>h' z (by simp[hz]));rw[dw,aA,aA,List.length_cons,cM];omega
   rw[List.length_cons,cM];omega
def OW(l:List ez): Prop:=l.length<=2 ^ 20/\ ∀ v ∈ l,bZ v=true/\iu v.n
def smS(l:List aI): Prop:=l.length<=2 ^ 20/\ ∀ s ∈ l,s.length<=2 ^ 17
def Bc{l:List ez}(h:OW l): (lW l).length<=2 ^ 27:=by
 have:=sF (l:=l.map dO) (sep:=lU) (m:=82) (fun z hz=>by
  obtain⟨v,hv,rfl⟩:=cy.1 hz;exact vt v (h.2 v hv).2.1 (h.2 v hv).2.2 (h.2 v hv).1)
 have h1:=h.1;have hs:lU.length=2:=rfl;rw[bt,hs]at this;unfold lW;omega
def uF{l:List aI}(h:smS l): (jP l).length<=2 ^ 38:=by
 have:=sF (l:=l) (sep:=[32,124,32]) (m:=2 ^ 17) h.2;have h1:=h.1;simp only[List.length_cons,List.length_nil]at this;unfold jP;have h2:l.length*(2 ^ 17+(0+1+1+1))<=2 ^ 20*(2 ^ 17+3):=Nat.mul_le_mul h1 (Nat.le_refl _);omega
def Ic(l:List ez)(h:OW l): aM aK 91 [dh l] (.str (lW l)):=by
 have hl:=h.1;have hj:=strings_Join (l.map dO) lU (by simp;omega) (by have:=Bc h;unfold lW at this;omega);have hE:Lib.join (l.map dO) lU=lW l:=rfl;rw[hE]at hj;generalize lW l=E at *;simp only[dh];refine aR Mi ?_;intro Q aC aD aE;repeat' first|refine aG ?_|refine aF ?_ ?_<;>intro hw<;>try omega|fail
 with_reducible refine bX [3,5,6,7,10,11,12,13,14,15,16,17,18,19,20,21,22,23] (fun q:Nat × List aZ=>[(10,I q.1),(3,.own E1 0 q.1 0 q.1)]) (fun q=> .vec E1 (((l.take q.1).map dO).map bB)::q.2) (fun q=>q.1<=l.length) (fun q=>l.length-q.1) ((0,[])) ?_ ?_ ?_ ?_
 ·simp
 ·rfl
 ·exact at_
 rintro⟨i,τ⟩ r g1;dsimp only at g1;by_cases hi:i<l.length
 ·have hv:=h.2 _ (bH hi);have ht:=take_succ hi;have kZ:(((l.take i).map dO).map bB).length=i:=by simp;omega
  obtain⟨v,nn⟩:∃ v,l.getD i default=v:=⟨_,rfl⟩;rw[nn]at hv ht;have c:=AS v hv.2.1 hv.2.2 hv.1;have ja:((l.take (i+1)).map dO).map bB=((l.take i).map dO).map bB++[.str (dO v)]:=by rw[ht];simp[bB]
  generalize dO v=t at *;simp only[fD]at c;repeat' first|simp (disch:=omega) only[go_sem,aC,aD,aE,nn,kZ]|refine aG ?_|refine eU c ?_|refine aF ?_ ?_<;>intro hw<;>try omega|fail
  all_goals first|exact bK|skip
  refine⟨(i+1,τ++[.cells [I v.kind,I v.n,.str v.s]]),?_,?_,?_,da,?_⟩
  ·dsimp only;omega
  ·dsimp only;omega
  ·dsimp only;rw[ja];first|done|rfl|(simp[go_sem];done)
  ·dsimp only;simp (disch:=omega) only[iS,gC,and_true,go_sem,aC,aD,aE,Int.natCast_add,Int.cast_ofNat_Int]<;>(try trivial)<;>(try omega)<;>(try (repeat (first|trivial|(refine And.intro ?_ ?_)|(congr 1;omega))))
 ·have ht:l.take i=l:=bp (by omega);simp only[bM,lU]at hj;have n6:(l.map dO).length=l.length:=by simp
  obtain⟨L,hL⟩:∃ L,l.map dO=L:=⟨_,rfl⟩;rw[hL]at hj n6;obtain rfl:i=L.length:=by omega
  repeat' first|simp (disch:=omega) only[go_sem,aC,aD,aE,ht,hL]|refine aG ?_|refine xj hj ?_|refine aF ?_ ?_<;>intro hw<;>try omega|fail
  all_goals first|exact bK|exact aS rfl rfl|skip
def BD(s:aI)(l:List ez)(hs:s.length<=2 ^ 30)(h:OW l): aM aK 43 [.str s,dh l] (.str (fq s l)):=by
 have c:=Ic l h;have hl:=Bc h;have vy:=h.1;unfold fq;generalize lW l=r at *;simp only[dh]at c ⊢;by_cases h0:l.length=0
 ·rw[if_pos h0];refine aR w9 ?_;intro Q aC aD aE;repeat' first|refine aG ?_|refine eU c ?_|refine aF ?_ ?_<;>intro hw<;>try omega|fail
  all_goals first|exact bK|exact aS rfl rfl|skip
 ·rw[if_neg h0];have a1:=Wv (a:=s.length) (b:=[32].length) (by simp;omega);have a2:=Wv (a:=(s++[32]).length) (b:=r.length) (by simp;omega);refine aR w9 ?_;intro Q aC aD aE;repeat' first|refine aG ?_|refine eU c ?_|refine aF ?_ ?_<;>intro hw<;>try omega|fail
  all_goals first|exact bK|exact aS rfl rfl|skip
def lf(l:List aI)(h:l.length<=2 ^ 40)(hj:(bQ l).length<=2 ^ 40): aM aK 44 [bM l] (.str (bQ l)):=by
 have c:=strings_Join l [32] h hj;have hE:Lib.join l [32]=bQ l:=rfl;rw[hE]at c;generalize bQ l=w at *;simp only[bM]at c ⊢;refine aR G4 ?_;intro Q aC aD aE;repeat' first|refine aG ?_|refine eU c ?_|refine aF ?_ ?_<;>intro hw<;>try omega|fail
 all_goals first|exact bK|exact aS rfl rfl|skip
open Go.AM Go.AM.W
set_option maxRecDepth 10000
def Er: Of aK 42 90 [.tmp 2] (r [X 0 1,V .au 2]<|
 q (.draw [A 0 1 10,K 10 11,Q 87 [] 12,A 3 1 13,K 13 14,W.I false 1 12 14 15,K 15 16,Q 88 [] 17,A 4 1 18,K 18 19,W.I false 1 17 19 20,K 20 21,gB false 1 e0 4 [(0,gS [116,97,98,108,101]),(1,t 11),(2,t 16),(3,t 21)] 22,Q 44 [t 22] 23,bw (.jI true ⟨false,1⟩ e0 1 [(0,t 23)]) 24,M 24 3] [])<|
 q (r [A 1 1 25,K 25 26,N 26 27,V z0 28]<|
 .block 0 (.loop (r [B .lss 28 27 29]<|
 q (c 29 k (.exit 0))<|
 q (.block 1 (r [W.I true 3 26 28 30,L 3 30 31,J [e0,z0,.au] 5,W 3 5 31]<|
 .draw [M 3 32,A 0 5 33,K 33 34,Q 89 [] 35,A 1 5 36,K 36 37,W.I false 1 35 37 38,K 38 39,gB false 1 e0 3 [(0,gS [105,110]),(1,t 34),(2,t 39)] 40,Q 44 [t 40] 41,gB false 1 e0 1 [(0,t 41)] 42,gA false 1 32 42 43,M 43 3] []))<|
 R [D .add 28 1 44,M 44 28])))<|
 q (r [A 2 1 45,K 45 46,N 46 47,V z0 48]<|
 .block 2 (.loop (r [B .lss 48 47 49]<|
 q (c 49 k (.exit 2))<|
 q (.block 3 (r [W.I true 3 46 48 50,L 3 50 51,J [e0,z0,.au] 7,W 3 7 51]<|
 .draw [M 3 52,A 0 7 53,K 53 54,Q 89 [] 55,A 1 7 56,K 56 57,W.I false 1 55 57 58,K 58 59,gB false 1 e0 3 [(0,gS [111,117,116]),(1,t 54),(2,t 59)] 60,Q 44 [t 60] 61,A 2 7 62,K 62 63,Q 43 [t 61,t 63] 64,gB false 1 e0 1 [(0,t 64)] 65,gA false 1 52 65 66,M 66 3] []))<|
 R [D .add 48 1 67,M 67 48])))<|
 q (r [A 5 1 68,K 68 69,N 69 70,V z0 71]<|
 .block 4 (.loop (r [B .lss 71 70 72]<|
 q (c 72 k (.exit 4))<|
 q (.block 5 (r [W.I true 2 69 71 73,L 2 73 74,J [.au,.au] 9,W 2 9 74]<|
 .draw [M 3 75,A 0 9 76,K 76 77,Q 90 [t 77,gS [32,124,32]] 78,A 1 9 79,K 79 80,Q 90 [t 80,gS [32,124,32]] 81,gB false 1 e0 4 [(0,gS [114,117,108,101]),(1,t 78),(2,gS [58]),(3,t 81)] 82,Q 44 [t 82] 83,gB false 1 e0 1 [(0,t 83)] 84,gA false 1 75 84 85,M 85 3] []))<|
 R [D .add 71 1 86,M 86 71])))<|
 r [M 3 87,gB false 1 e0 1 [(0,gS [101,110,100])] 88,gA false 1 87 88 89,M 89 2]<|
 .ret):=pN ⟨[24],[],[],[],[],[]⟩ Tryz.func42
def Gh: Of aK 30 134 [.tmp 2] (r [X 0 1,V .au 2]<|
 q (.draw [A 0 1 8,K 8 9,bw (.bin .add (gS [116,97,98,108,101,32]) (t 9)) 10,bw (.bin .add (t 10) (gS [32])) 11,Q 67 [] 12,A 3 1 13,K 13 14,D .sub 14 1 15,W.I false 1 12 15 16,K 16 17,B .add 11 17 18,bw (.bin .add (t 18) (gS [32])) 19,Q 68 [] 20,A 4 1 21,K 21 22,W.I false 1 20 22 23,K 23 24,B .add 19 24 25,bw (.jI true ⟨false,1⟩ e0 1 [(0,t 25)]) 26,M 26 3] [])<|
 q (r [V z0 4]<|
 gL 0 [M 4 27,A 1 1 28,K 28 29,N 29 30,B .lss 27 30 31] 31 ((
 q (.block 1 (.draw [M 3 34,A 1 1 35,K 35 36,M 4 37,W.I true 3 36 37 38,A 0 38 39,K 39 40,bw (.bin .add (gS [105,110,32]) (t 40)) 41,bw (.bin .add (t 41) (gS [32])) 42,Q 69 [] 43,A 1 1 44,K 44 45,M 4 46,W.I true 3 45 46 47,A 1 47 48,K 48 49,D .sub 49 1 50,W.I false 1 43 50 51,K 51 52,B .add 42 52 53,gB false 1 e0 1 [(0,t 53)] 54,gA false 1 34 54 55,M 55 3] []))<|
 R [M 4 32,D .add 32 1 33,M 33 4])))<|
 q (r [V z0 5]<|
 gL 2 [M 5 56,A 2 1 57,K 57 58,N 58 59,B .lss 56 59 60] 60 ((
 q (.block 3 (q (.draw [A 2 1 63,K 63 64,M 5 65,W.I true 3 64 65 66,A 0 66 67,K 67 68,bw (.bin .add (gS [111,117,116,32]) (t 68)) 69,bw (.bin .add (t 69) (gS [32])) 70,Q 69 [] 71,A 2 1 72,K 72 73,M 5 74,W.I true 3 73 74 75,A 1 75 76,K 76 77,D .sub 77 1 78,W.I false 1 71 78 79,K 79 80,B .add 70 80 81,M 81 6] [])<|
 q (r [A 2 1 82,K 82 83,M 5 84,W.I true 3 83 84 85,A 2 85 86,K 86 87,N 87 88,D .gtr 88 0 89]<|
 c 89 (R [M 6 90,bw (.bin .add (t 90) (gS [32])) 91,A 2 1 92,K 92 93,M 5 94,W.I true 3 93 94 95,A 2 95 96,K 96 97,C 32 [t 97] 98,B .add 91 98 99,M 99 6]) k)<|
 R [M 3 100,M 6 101,gB false 1 e0 1 [(0,t 101)] 102,gA false 1 100 102 103,M 103 3]))<|
 R [M 5 61,D .add 61 1 62,M 62 5])))<|
 q (r [V z0 7]<|
 gL 4 [M 7 104,A 5 1 105,K 105 106,N 106 107,B .lss 104 107 108] 108 ((
 q (.block 5 (.draw [M 3 111,A 5 1 112,K 112 113,M 7 114,W.I true 2 113 114 115,A 0 115 116,K 116 117,Q 70 [t 117,gS [32,124,32]] 118,bw (.bin .add (gS [114,117,108,101,32]) (t 118)) 119,bw (.bin .add (t 119) (gS [32,58,32])) 120,A 5 1 121,K 121 122,M 7 123,W.I true 2 122 123 124,A 1 124 125,K 125 126,Q 70 [t 126,gS [32,124,32]] 127,B .add 120 127 128,gB false 1 e0 1 [(0,t 128)] 129,gA false 1 111 129 130,M 130 3] []))<|
 R [M 7 109,D .add 109 1 110,M 110 7])))<|
 r [M 3 131,gB false 1 e0 1 [(0,gS [101,110,100])] 132,gA false 1 131 132 133,M 133 2]<|
 .ret):=pN ⟨[26],[],[],[],[],[]⟩ Tryz.func30
def j9: Of aK 63 62 [.tmp 2] (r [gF 2]<|
 r [M 0 8,Z 8 9,A 2 9 10,L 6 10 11,J [e0,.au,.au,z0,z0,.au] 3,W 6 3 11]<|
 gR [A 1 3 12,K 12 13,N 13 14,D .eql 14 0 15] 15 [A 4 3 16,K 16 17,D .eql 17 0 18,M 18 19,AF 3 3 20 19,KF 20 21 19,DF .eql 21 5 22 19,O 19 22 23,M 23 2]<|
 q (r [A 2 3 24,K 24 25,N 25 26,D .eql 26 0 27]<|
 c 27 (r [gU [e0,z0,.au] [(0,1,gS [111]),(1,1,gJ 1)] 28,bw (.jI true ⟨true,3⟩ (.agg [e0,z0,.au]) 1 [(0,t 28)]) 29,A 2 3 30,W 1 30 29]<|
 r [A 3 3 31,K 31 32,D .eql 32 3 33]<|
 c 33 (R [A 2 3 34,K 34 35,gU [z0,z0,e0] [(0,1,gJ 1)] 36,gB true 3 (.agg [z0,z0,e0]) 1 [(0,t 36)] 37,gI true 3 35 0 38,A 2 38 39,W 1 39 37]) k) k)<|
 r [L 6 3 41,C 73 [t 41] 42,M 42 40,E 40 0 43,E 40 1 44,E 40 2 45,E 40 3 46,J [e0,.au,.au,z0,z0,.au] 4,W 6 4 43,M 44 5,M 45 6,M 46 7]<|
 gR [M 7 47,D .neq 47 0 48,M 48 49,LF 6 4 50 49,LF 6 3 51 49,CF 74 [t 50,t 51] 52 49,UF 52 53 49,O 49 53 54] 54 [gF 2]<|
 r [L 6 4 56,C 36 [t 56] 57,M 57 55,E 55 0 58,E 55 1 59,M 59 7]<|
 r [M 7 60,D .eql 60 0 61,M 61 2]<|
 .ret):=pN ⟨[29],[],[],[],[],[]⟩ Tryz.func63
def Dy(k:Int): aM aK 45 [I k] (.str (kI k)):=by
 unfold kI;refine aR G5 ?_;intro Q aC aD aE;repeat' first|refine aG ?_|refine aF ?_ ?_<;>intro hw<;>try omega|fail
 all_goals first|exact bK|(refine aS ?_ rfl;simp_all;done)|skip
structure Ie (t:Table):Prop where
 name:t.name.length<=2 ^ 20
 pol:0<=t.aL/\t.aL<=6
 agg:0<=t.agg/\t.agg<=4
 ins:t.ins.length<=2 ^ 20/\ ∀ c ∈ t.ins,c.name.length<=2 ^ 20/\0<=c.kind/\c.kind<=3
 outs:t.outs.length<=2 ^ 20/\ ∀ c ∈ t.outs,(c.name.length<=2 ^ 20/\0<=c.kind/\c.kind<=3)/\OW c.order
 rules:t.rules.length<=2 ^ 20/\ ∀ r ∈ t.rules,smS r.cells/\smS r.outs
def qa{l:List aI}{k:Int}(h0:0<=k)(h1:k<l.length): (l.map bB).getD k.toNat .undef = .str (l.getD k.toNat []):=by
 have:k.toNat<l.length:=by omega
 simp[aj,this,bB]
def oJ{a b c:aI}(ha:a.length<=2 ^ 20)(hb:b.length<=2 ^ 20)(hc:c.length<=2 ^ 20): (bQ [a,b,c]).length<=2 ^ 30:=by
 rw[fj];simp;omega
def Ig{a b c d:aI}(ha:a.length<=2 ^ 20)(hb:b.length<=2 ^ 38)(hc:c.length<=2 ^ 38)(hd:d.length<=2 ^ 38): (bQ [a,b,c,d]).length<=2 ^ 40:=by
 rw[nr];simp;omega
def JU(k:Int): (qP k).length<=8:=by
 unfold qP;rw[aj];cases hq:rW[k.toNat]? with
 | none=>simp
 | some z =>
   have:∀ z ∈ rW,z.length<=8:=by decide
   exact this z (gw hq)
def JV(k:Int): (rX k).length<=8:=by
 unfold rX;rw[aj];cases hq:oE[k.toNat]? with
 | none=>simp
 | some z =>
   have:∀ z ∈ oE,z.length<=8:=by decide
   exact this z (gw hq)
def uG(k:Int): (jA k).length<=8:=by
 unfold jA;rw[aj];cases hq:pY[k.toNat]? with
 | none=>simp
 | some z =>
   have:∀ z ∈ pY,z.length<=8:=by decide
   exact this z (gw hq)
def OX(s:aI): bB s = .str s:=rfl
def xK(t:Table)(h:Ie t): aM aK 42 [dS t] (bM (gO t)):=by
 obtain⟨h1,⟨p0,p1⟩,⟨a0,a1⟩,⟨i1,i2⟩,⟨o1,o2⟩,r1,r2⟩:=h;have c1:=yF;have c2:=E5;have c3:=Dx;have c4:=lf [zI,t.name,qP t.aL,rX t.agg] (by simp) (Ig (by simp) (by omega) (by have:=JU t.aL;omega) (by have:=JV t.agg;omega));have g1:(rW.map bB).getD t.aL.toNat .undef = .str (qP t.aL):=qa p0 (by simp[rW];omega);have g2:(oE.map bB).getD t.agg.toNat .undef = .str (rX t.agg):=qa a0 (by simp[oE];omega);have l1:rW.length=7:=rfl;have l2:oE.length=5:=rfl;have l3:pY.length=4:=rfl;have hh:bQ [zI,t.name,qP t.aL,rX t.agg]=jt t:=rfl;rw[hh]at c4;obtain⟨E,hE⟩:∃ E,gO t=E:=⟨_,rfl⟩;rw[hE];unfold gO eT at hE;generalize jt t=hd at *;generalize qP t.aL=pw at *;generalize rX t.agg=aw at *;simp only[bM,aU,bf,bB]at c1 c2 c3 c4;simp only[dS,gQ,cH,eA,bM];refine aR Er ?_;intro Q aC aD aE;repeat' first|simp (disch:=omega) only[go_sem,aC,aD,aE,g1,g2,l1,l2,l3,bt]|refine aG ?_|refine xj c4 ?_|refine aF ?_ ?_<;>intro hw<;>try omega|fail
 with_reducible refine bX [3,5,28,29,30,31,32,33,34,35,36,37,38,39,40,41,42,43,44] (fun q:Nat × ae=>[(28,I q.1),(3,.own E1 1 (q.1+1) 0 (q.1+1))]) (fun q=>q.2) (fun q=>q.1<=t.ins.length/\q.2[0]? = some (.cells [.str t.name,.aO false EC (t.ins.map bu),.aO false EC (t.outs.map bu),I t.aL,I t.agg,.aO false ER (t.rules.map cu)])/\q.2[1]? = some (.vec E1 ((hd::(t.ins.take q.1).map kx).map bB))) (fun q=>t.ins.length-q.1) (0,_) ⟨bJ _,rfl,rfl⟩ rfl ?_ ?_
 ·exact at_
 rintro⟨i,S⟩ r ⟨k1,f0,f2⟩;dsimp only at k1 f0 f2;by_cases hi:i<t.ins.length
 ·have hc:=i2 _ (bH hi);have hts:=take_succ hi;obtain⟨c,hce⟩:∃ c,t.ins.getD i default=c:=⟨_,rfl⟩;rw[hce]at hc hts;have g3:(pY.map bB).getD c.kind.toNat .undef = .str (jA c.kind):=qa hc.2.1 (by simp[pY];omega);have c5:=lf [EW,c.name,jA c.kind] (by simp) (cE (oJ (by simp) (by omega) (by have:=uG c.kind;omega)) (by decide));have hw:bQ [EW,c.name,jA c.kind]=kx c:=rfl;rw[hw]at c5;have ja:((hd::(t.ins.take (i+1)).map kx).map bB)=((hd::(t.ins.take i).map kx).map bB)++[.str (kx c)]:=by rw[hts];simp[bB]
  have kZ:((hd::(t.ins.take i).map kx).map bB).length=i+1:=by simp;omega
  generalize kx c=w at *;generalize jA c.kind=kw at *;generalize ((hd::(t.ins.take i).map kx).map bB)=X at *;simp only[bM,aU,bf,bB]at c5;have LC:∀ d:aZ,(S++[d])[0]? = some (.cells [.str t.name,.aO false EC (t.ins.map bu),.aO false EC (t.outs.map bu),I t.aL,I t.agg,.aO false ER (t.rules.map cu)]):=fun d=>eN f0 d;have WW:∀ d:aZ,(S++[d])[1]? = some (.vec E1 X):=fun d=>eN f2 d;have nX:=ey f2;repeat' first|simp (disch:=omega) only[go_sem,aC,aD,aE,g3,l3,bt,f0,f2,LC,WW,hce,kZ]|refine aG ?_|refine xj c5 ?_|refine aF ?_ ?_<;>intro hw<;>try omega|fail
  all_goals first|(exfalso;omega)|skip
  refine⟨(i+1,_),⟨by dsimp only;omega,?_,?_⟩,by dsimp only;omega,rfl,da,?_⟩
  ·dsimp only;rw[List.getElem?_set_ne (by decide)];exact LC _
  ·dsimp only;rw[List.getElem?_set_self (by simp;omega)];exact congrArg (fun z=>some (aZ.vec E1 z)) ja.symm
  ·dsimp only;simp (disch:=omega) only[iS,gC,and_true,go_sem,aC,aD,aE,Int.natCast_add,Int.cast_ofNat_Int]<;>(try trivial)<;>(try omega)<;>(try (repeat (first|trivial|(refine And.intro ?_ ?_)|(congr 1;omega))))
 have hi:i=t.ins.length:=by omega
 subst hi;rw[bp (by omega)]at f2;repeat' first|simp (disch:=omega) only[go_sem,aC,aD,aE,f0,f2]|refine aG ?_|refine aF ?_ ?_<;>intro hw<;>try omega|fail
 obtain⟨A,hA⟩:∃ A,hd::t.ins.map kx=A:=⟨_,rfl⟩;have Hv:t.ins.length+1=A.length:=by rw[<-hA];simp
 rw[hA]at f2;with_reducible refine bX [3,7,48,49,50,51,52,53,54,55,56,57,58,59,60,61,62,63,64,65,66,67] (fun q:Nat × ae=>[(48,I q.1),(3,.own E1 1 (A.length+q.1) 0 (A.length+q.1))]) (fun q=>q.2) (fun q=>q.1<=t.outs.length/\q.2[0]? = some (.cells [.str t.name,.aO false EC (t.ins.map bu),.aO false EC (t.outs.map bu),I t.aL,I t.agg,.aO false ER (t.rules.map cu)])/\q.2[1]? = some (.vec E1 ((A++(t.outs.take q.1).map iM).map bB))) (fun q=>t.outs.length-q.1) (0,_) ⟨bJ _,f0,by simpa using f2⟩ rfl ?_ ?_
 ·simp only[<-Hv,cQ];exact at_
 clear f0 f2;rintro⟨i,S⟩ r ⟨k1,f0,f2⟩;dsimp only at k1 f0 f2;by_cases hi:i<t.outs.length
 ·have hc:=o2 _ (bH hi);have hts:=take_succ hi;obtain⟨c,hce⟩:∃ c,t.outs.getD i default=c:=⟨_,rfl⟩;rw[hce]at hc hts;have g3:(pY.map bB).getD c.kind.toNat .undef = .str (jA c.kind):=qa hc.1.2.1 (by simp[pY];omega);have c5:=lf [uE,c.name,jA c.kind] (by simp) (cE (oJ (by simp) (by omega) (by have:=uG c.kind;omega)) (by decide));have c6:=BD (bQ [uE,c.name,jA c.kind]) c.order (oJ (by simp) (by omega) (by have:=uG c.kind;omega)) hc.2;have hw:fq (bQ [uE,c.name,jA c.kind]) c.order=iM c:=rfl;have ZQ:=hc.2.1;rw[hw]at c6;generalize bQ [uE,c.name,jA c.kind]=ww at *;generalize jA c.kind=kw at *;simp only[bM,dh,aU,bf,bB]at c5 c6;have ja:((A++(t.outs.take (i+1)).map iM).map bB)=((A++(t.outs.take i).map iM).map bB)++[.str (iM c)]:=by rw[hts];simp[bB]
  have kZ:((A++(t.outs.take i).map iM).map bB).length=A.length+i:=by simp;omega
  generalize iM c=w at *;generalize ((A++(t.outs.take i).map iM).map bB)=X at *;have LC:∀ d:aZ,(S++[d])[0]? = some (.cells [.str t.name,.aO false EC (t.ins.map bu),.aO false EC (t.outs.map bu),I t.aL,I t.agg,.aO false ER (t.rules.map cu)]):=fun d=>eN f0 d;have WW:∀ d:aZ,(S++[d])[1]? = some (.vec E1 X):=fun d=>eN f2 d;have nX:=ey f2;repeat' first|simp (disch:=omega) only[go_sem,aC,aD,aE,g3,l3,bt,f0,f2,LC,WW,hce,kZ]|refine aG ?_|refine xj c5 ?_|refine aF ?_ ?_<;>intro hw<;>try omega|fail
  all_goals first|(exfalso;omega)|skip
  refine⟨(i+1,_),⟨by dsimp only;omega,?_,?_⟩,by dsimp only;omega,rfl,da,?_⟩
  ·dsimp only;rw[List.getElem?_set_ne (by decide)];exact LC _
  ·dsimp only;rw[List.getElem?_set_self (by simp;omega)];exact congrArg (fun z=>some (aZ.vec E1 z)) ja.symm
  ·dsimp only;simp (disch:=omega) only[iS,gC,and_true,go_sem,aC,aD,aE,Int.natCast_add,Int.cast_ofNat_Int]<;>(try trivial)<;>(try omega)<;>(try (repeat (first|trivial|(refine And.intro ?_ ?_)|(congr 1;omega))))
 have hi:i=t.outs.length:=by omega
 subst hi;rw[bp (by omega)]at f2;repeat' first|simp (disch:=omega) only[go_sem,aC,aD,aE,f0,f2]|refine aG ?_|refine aF ?_ ?_<;>intro hw<;>try omega|fail
 obtain⟨B,hB⟩:∃ B,A++t.outs.map iM=B:=⟨_,rfl⟩;have hBl:A.length+t.outs.length=B.length:=by rw[<-hB];simp
 rw[hB]at f2;with_reducible refine bX [3,9,71,72,73,74,75,76,77,78,79,80,81,82,83,84,85,86] (fun q:Nat × ae=>[(71,I q.1),(3,.own E1 1 (B.length+q.1) 0 (B.length+q.1))]) (fun q=>q.2) (fun q=>q.1<=t.rules.length/\q.2[0]? = some (.cells [.str t.name,.aO false EC (t.ins.map bu),.aO false EC (t.outs.map bu),I t.aL,I t.agg,.aO false ER (t.rules.map cu)])/\q.2[1]? = some (.vec E1 ((B++(t.rules.take q.1).map eW).map bB))) (fun q=>t.rules.length-q.1) (0,_) ⟨bJ _,f0,by simpa using f2⟩ rfl ?_ ?_
 ·simp only[<-hBl,cQ];exact at_
 clear f0 f2;rintro⟨i,S⟩ r ⟨k1,f0,f2⟩;dsimp only at k1 f0 f2;by_cases hi:i<t.rules.length
 ·have hc:=r2 _ (bH hi);have hts:=take_succ hi;obtain⟨c,hce⟩:∃ c,t.rules.getD i default=c:=⟨_,rfl⟩;rw[hce]at hc hts;have c5:=strings_Join c.cells [32,124,32] (by have:=hc.1.1;omega) (by have:=uF hc.1;unfold jP at this;omega);have c6:=strings_Join c.outs [32,124,32] (by have:=hc.2.1;omega) (by have:=uF hc.2;unfold jP at this;omega);have b1:=uF hc.1;have b2:=uF hc.2;have c7:=lf [tM,jP c.cells,[58],jP c.outs] (by simp) (Ig (by simp) (by omega) (by simp) (by omega));have hw:bQ [tM,jP c.cells,[58],jP c.outs]=eW c:=rfl;have tT:Lib.join c.cells [32,124,32]=jP c.cells:=rfl;have gP:Lib.join c.outs [32,124,32]=jP c.outs:=rfl;rw[hw]at c7;rw[tT]at c5;rw[gP]at c6;have kr:=hc.1.1;have agD:=hc.2.1;generalize jP c.cells=wa at *;generalize jP c.outs=wb at *;simp only[bM,aU,bf,OX]at c5 c6 c7;have ja:((B++(t.rules.take (i+1)).map eW).map bB)=((B++(t.rules.take i).map eW).map bB)++[.str (eW c)]:=by rw[hts];simp[bB]
  have kZ:((B++(t.rules.take i).map eW).map bB).length=B.length+i:=by simp;omega
  generalize eW c=w at *;generalize ((B++(t.rules.take i).map eW).map bB)=X at *;have LC:∀ d:aZ,(S++[d])[0]? = some (.cells [.str t.name,.aO false EC (t.ins.map bu),.aO false EC (t.outs.map bu),I t.aL,I t.agg,.aO false ER (t.rules.map cu)]):=fun d=>eN f0 d;have WW:∀ d:aZ,(S++[d])[1]? = some (.vec E1 X):=fun d=>eN f2 d;have nX:=ey f2;repeat' first|simp (disch:=omega) only[go_sem,aC,aD,aE,l3,bt,f0,f2,LC,WW,hce,kZ]|refine aG ?_|refine xj c7 ?_|refine aF ?_ ?_<;>intro hw<;>try omega|fail
  all_goals first|(exfalso;omega)|skip
  refine⟨(i+1,_),⟨by dsimp only;omega,?_,?_⟩,by dsimp only;omega,rfl,da,?_⟩
  ·dsimp only;rw[List.getElem?_set_ne (by decide)];exact LC _
  ·dsimp only;rw[List.getElem?_set_self (by simp;omega)];exact congrArg (fun z=>some (aZ.vec E1 z)) ja.symm
  ·dsimp only;simp (disch:=omega) only[iS,gC,and_true,go_sem,aC,aD,aE,Int.natCast_add,Int.cast_ofNat_Int]<;>(try trivial)<;>(try omega)<;>(try (repeat (first|trivial|(refine And.intro ?_ ?_)|(congr 1;omega))))
 have hi:i=t.rules.length:=by omega
 subst hi;rw[bp (by omega)]at f2;have kZ:((B++t.rules.map eW).map bB).length=B.length+t.rules.length:=by simp
 have hEl:E=(B++t.rules.map eW)++[mI]:=by rw[<-hE,<-hB,<-hA];simp
 have nX:=ey f2;generalize B++t.rules.map eW=X at *;have hp:=tq (X++[mI]);have hm:(X++[mI]).map bB=X.map bB++[.str mI]:=by simp[bB]
 repeat' first|simp (disch:=omega) only[go_sem,aC,aD,aE,f0,f2,kZ]|refine aG ?_|refine aF ?_ ?_<;>intro hw<;>try omega|fail
 all_goals first|(exfalso;omega)|skip
 refine fg ?_;rw[hEl];rw[hm]at hp;simp only[hm];exact View.vec (T:=none) (List.getElem?_set_self nX) (by simp at kZ ⊢;omega) (by simp at kZ ⊢;omega) hp
