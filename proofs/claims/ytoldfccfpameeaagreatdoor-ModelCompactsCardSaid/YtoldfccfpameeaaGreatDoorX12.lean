/- Part. -/
import Derived.Test.YtoldfccfpameeaaGreatDoorX11
set_option linter.all false
set_option maxHeartbeats 8000000
namespace Go.Proofs.YtoldfccfpameeaaGreatDoor
open Go.AM
set_option maxRecDepth 4000
def N3(a:Int): aS aH 265 [I a] (.bool false):=by
 refine a_ Ig ?_;intro Q aJ aK aL;repeat' first|refine aB ?_|refine aA ?_ ?_<;>intro hw<;>try omega|fail
 all_goals first|exact aZ aQ rfl|exact bJ
def cmp_isNaN_int(a:Int): aS aH 243 [I a] (.bool false):=by
 refine a_ J1 ?_;intro Q aJ aK aL;repeat' first|refine aB ?_|refine aA ?_ ?_<;>intro hw<;>try omega|fail
 all_goals first|exact aZ aQ rfl|exact bJ
def WX{a b:Int}(h:a<b): ko a b = -1:=au h
def WY{a b:Int}(h:b<a): ko a b=1:=by unfold ko;rw[if_neg ae,if_pos h]
def WZ{a b:Int}(h:¬ a<b)(h':¬ b<a): ko a b=0:=by unfold ko;rw[if_neg h,if_neg h']
def Ki(a b:Int): aS aH 238 [I a,I b] (I (ko a b)):=by
 refine a_ E_ ?_;intro Q aJ aK aL;repeat' first|refine aB ?_|refine eU (N3 _) ?_|refine aA ?_ ?_<;>intro hw<;>try omega|fail
 all_goals refine aZ ?_ rfl
 all_goals first|rw[WX ae]|rw[WY ae]|rw[WZ ae ae]
def cmp_Compare_int(a b:Int): aS aH 197 [I a,I b] (I (ko a b)):=by
 refine a_ FX ?_;intro Q aJ aK aL;repeat' first|refine aB ?_|refine eU (cmp_isNaN_int _) ?_|refine aA ?_ ?_<;>intro hw<;>try omega|fail
 all_goals refine aZ ?_ rfl
 all_goals first|rw[WX ae]|rw[WY ae]|rw[WZ ae ae]
def W0(l:List Int): Int:=(l.find? fun x=>x != 0).getD 0
def Y6(l:List Int)(hl:l.length<=2^60): aS aH 237 [.aR false E1 (l.map eI)] (I (W0 l)):=by
 refine a_ Qw ?_ (by simp[AV.dy,AV.cG,Gj]);intro Q aJ aK aL;repeat' first|refine aB ?_|refine aA ?_ ?_<;>intro hw<;>try omega|fail
 with_reducible refine bE [2,1,5,1,8,9] (fun i:Nat=>[(8,I i)]) (fun _=>[]) (fun i=>i<=l.length/\ ∀ k,k<i->(l.getD k default != 0)=false) (fun i=>l.length-i) (0) ?_ ?_ ?_ ?_
 ·simp
 ·rfl
 ·exact at_
 rintro i r ⟨h1,h2⟩;by_cases hi:i<l.length
 ·repeat' first|refine aB ?_|refine aA ?_ ?_<;>intro hw<;>try omega|fail
  ·refine aZ ?_ rfl;unfold W0;rw[yO (p:=fun x=>x != 0) hi h2 (by simpa using hw)];rfl
  refine⟨i+1,?_,?_,by first|rfl|(simp[go_sem];done),da,at_⟩<;>(try dsimp only)
  ·exact⟨ae,cj h2 (by simpa using hw)⟩
  omega
 repeat' first|refine aB ?_|refine aA ?_ ?_<;>intro hw<;>try omega|fail
 refine aZ ?_ rfl;unfold W0;rw[wc (p:=fun x=>x != 0) (fun k hk=>h2 k ae)];rfl
def strings_Compare(a b:aU): aS aH 239 [.str a,.str b] (I (Lib.compareBytes a b)):=by
 refine nC ⟨_,Tryz.func239,fc,fc⟩ fun g w σ vs hR hl hv=>?_;have h3:=hv 0 aQ;have h4:=hv 1 aQ;rw[L_ hl];generalize vs.getD 0 Go.undef=v at h3;generalize vs.getD 1 Go.undef=u at h4;simp only[cH,iu]at h3 h4;cases h3;cases h4;refine⟨.int .i64 (Lib.compareBytes a b),fun g' w'=> .int _ _,(Tryz.strings_Compare ⟨a.toArray⟩ ⟨b.toArray⟩ w).mono ?_⟩;rintro e w' ⟨rfl,rfl⟩;exact⟨rfl,rfl,rfl,rfl,bg _,fun _ _=>rfl⟩
def amN(a b:aX): W0 [ko a.kind b.kind,ko a.n b.n,Lib.compareBytes a.s b.s]=jq a b:=by
 unfold W0 jq;by_cases h1:ko a.kind b.kind=0
 ·rw[aj (by simpa using h1),List.find?_cons_of_neg (by simpa using h1)];by_cases h2:ko a.n b.n=0
  ·rw[aj (by simpa using h2),List.find?_cons_of_neg (by simpa using h2)];by_cases h3:Lib.compareBytes a.s b.s=0
   ·rw[List.find?_cons_of_neg (by simpa using h3),h3];rfl
   rw[List.find?_cons_of_pos (by simpa using h3)];rfl
  rw[au h2,List.find?_cons_of_pos (by simpa using h2)];rfl
 rw[au h1,List.find?_cons_of_pos (by simpa using h1)];rfl
def nY(a b:aX): aS aH 194 [c8 a,c8 b] (I (jq a b)):=by
 rw[<-amN];have c:=Y6 [ko a.kind b.kind,ko a.n b.n,Lib.compareBytes a.s b.s] aQ;generalize W0 _=o at *;simp only[bB,de,eI]at c;simp only[c8];refine a_ J0 ?_;intro Q aJ aK aL;repeat' first|refine aB ?_|refine eU (Ki _ _) ?_|refine eU (cmp_Compare_int _ _) ?_|refine eU (strings_Compare _ _) ?_|refine As c ?_|refine aA ?_ ?_<;>intro hw<;>try omega|fail
 all_goals exact aZ rfl rfl
def aiH{k:Int}(hk:k≠0)(a b:aX): qT k [a,b] 2=(eu a || eu b):=by
 have h:∀ v:aX,(decide (v.kind≠k) && eu v)=eu v:=fun v=>by
  unfold eu;rw[c7];simp only[aD,aM];exact⟨fun h=>h.2,fun h=>⟨fun e=>hk ae,h⟩⟩
 unfold qT;simp only[List.take_succ_cons,gZ,List.any_cons,List.any_nil,Bool.or_false,h]
def aiI{k:Int}(hk:k≠0)(a:aX): qT k [a] 1=eu a:=by
 unfold qT eu;simp only[List.take_succ_cons,gZ,List.any_cons,List.any_nil,Bool.or_false];rw[c7];simp only[aD,aM];exact⟨fun h=>h.2,fun h=>⟨fun e=>hk ae,h⟩⟩
def TI{k:Int}(hk:k≠0)(a b:aX)(ha:cK a.kind k=true)(hb:cK b.kind k=true): aS aH 229 [I k,.aR false EV [c8 a,c8 b]] (.bool (eu a || eu b)):=by
 have:=DX k [a,b] aQ (fun i hi=>by
  rcases i with _|_|i
  ·exact(wm a hk).trans ha
  ·exact(wm b hk).trans hb
  ·simp at hi;omega)
 rw[show ([a,b]:List aX).length=2 from rfl,aiH hk]at this;exact this
def N4{k:Int}(hk:k≠0)(a b:aX)(h:cK a.kind k=false\/cK b.kind k=false): dF aH 229 [I k,.aR false EV [c8 a,c8 b]] (.panic (rL 14)):=by
 rcases h with h|h
 ·exact tq k [a,b] aQ 0 aQ ((wm a hk).trans h)
 exact tq k [a,b] aQ 1 aQ ((wm b hk).trans h)
def abm{k:Int}(hk:k≠0)(a:aX)(ha:cK a.kind k=true): aS aH 229 [I k,.aR false EV [c8 a]] (.bool (eu a)):=by
 have:=DX k [a] aQ (fun i hi=>by
  rcases i with _|i
  ·exact(wm a hk).trans ha
  ·simp at hi)
 rw[show ([a]:List aX).length=1 from rfl,aiI hk]at this;exact this
def W1{k:Int}(hk:k≠0)(a:aX)(h:cK a.kind k=false): dF aH 229 [I k,.aR false EV [c8 a]] (.panic (rL 14)) :=
 tq k [a] aQ 0 aQ ((wm a hk).trans h)
def TJ{op:Int}{a b:aX}: kO op a b=true↔op=4/\(a.kind=2\/b.kind=2):=by simp[kO]
def ad8{op:Int}{a b:aX}: kO op a b=false↔¬ (op=4/\(a.kind=2\/b.kind=2)):=by rw[<-TJ,kF]
def abn(op:Int)(a b:aX)(ha:uv a)(hb:uv b): dF aH 233 [I op,c8 a,c8 b] (sK (wO op a b)):=by
 have hS:wO op a b=if !(cK a.kind (if kO op a b then 2 else 1)) || !(cK b.kind (if kO op a b then 2 else 1))then .err 14
  else if eu a || eu b then .ok v0
  else if kO op a b then(if 40<a.s.length+b.s.length then .err 5 else .ok ⟨2,0,a.s++b.s⟩)
  else qv op a.n b.n:=rfl
 have hj:=abl a.s b.s (by have:=ha.2;omega) (by have:=hb.2;omega);have hr:=Vq op a.n b.n ha.1 hb.1;rw[hS];clear hS;cases ht:kO op a b with
 | true =>
   have hT:=TJ.1 ht;simp only[if_true];by_cases hf:cK a.kind 2=true/\cK b.kind 2=true
   ·have c:=TI (k:=2) cW a b hf.1 hf.2;rw[aj (by simp[hf.1,hf.2])];generalize (eu a || eu b)=n at *;generalize (if 40<a.s.length+b.s.length then jE.err 5 else jE.ok ⟨2,0,a.s++b.s⟩)=J at *;simp only[c8]at c |-;refine dF.iF (uQ.go ?_) rfl eS;unfold dP;intro Q aJ aK aL;cases n
    all_goals
     repeat' first|refine aB ?_|refine As c ?_|refine Cx hj (fun v_ qz=>?_) (fun e_ pq=>?_)|refine aA ?_ ?_<;>intro hw<;>try omega|fail
    all_goals first
     | exact bJ
     | exact j6 rfl rfl
     | exact j6 qz rfl
     | exact iH pq
   have c:=N4 (k:=2) cW a b (by revert hf;cases cK a.kind 2<;>cases cK b.kind 2<;>simp);rw[if_pos (by revert hf;cases cK a.kind 2<;>cases cK b.kind 2<;>simp)];simp only[c8]at c |-;refine dF.iF (uQ.go ?_) rfl eS;unfold dP;intro Q aJ aK aL;repeat' first|refine aB ?_|refine TF c ?_|refine aA ?_ ?_<;>intro hw<;>try omega|fail
   all_goals first
    | exact bJ
    | exact iH rfl
 | false =>
   have hT:=ad8.1 ht;simp only[aP,if_false];by_cases hf:cK a.kind 1=true/\cK b.kind 1=true
   ·have c:=TI (k:=1) cW a b hf.1 hf.2;rw[aj (by simp[hf.1,hf.2])];generalize (eu a || eu b)=n at *;generalize qv op a.n b.n=J at *;simp only[c8]at c |-;refine dF.iF (uQ.go ?_) rfl eS;unfold dP;intro Q aJ aK aL;cases n
    all_goals
     repeat' first|refine aB ?_|refine As c ?_|refine Cx hr (fun v_ qz=>?_) (fun e_ pq=>?_)|refine aA ?_ ?_<;>intro hw<;>try omega|fail
    all_goals first
     | exact bJ
     | exact j6 rfl rfl
     | exact j6 qz rfl
     | exact iH pq
   have c:=N4 (k:=1) cW a b (by revert hf;cases cK a.kind 1<;>cases cK b.kind 1<;>simp);rw[if_pos (by revert hf;cases cK a.kind 1<;>cases cK b.kind 1<;>simp)];simp only[c8]at c |-;refine dF.iF (uQ.go ?_) rfl eS;unfold dP;intro Q aJ aK aL;repeat' first|refine aB ?_|refine TF c ?_|refine aA ?_ ?_<;>intro hw<;>try omega|fail
   all_goals first
    | exact bJ
    | exact iH rfl
def W2{a b:Int}: cK a b=true↔(a=oP a b\/a=0)/\(b=oP a b\/b=0):=by
 unfold cK oP;simp only[cN,aM];split<;>omega
def Vr(a b:aX)(h:cK a.kind b.kind=true): aS aH 262 [c8 a,c8 b] (I (oP a.kind b.kind)):=by
 have hf:=W2.1 h
 have c:=DX (oP a.kind b.kind) [a,b] aQ (fun i hi=>by
  rcases i with _|_|i
  ·simpa[CA]using hf.1
  ·simpa[CA]using hf.2
  ·simp at hi;omega)
 generalize qT _ _ _=n at c;unfold oP at c |-;simp only[bu,bB,de,c8]at c;simp only[c8];by_cases h0:a.kind=0
 ·rw[au h0]at c |-;refine a_ Bq ?_;intro Q aJ aK aL;repeat' first|refine aB ?_|refine As c ?_|refine aA ?_ ?_<;>intro hw<;>try omega|fail
  all_goals first|exact aZ rfl rfl|exact bJ
 rw[aj h0]at c |-;refine a_ Bq ?_;intro Q aJ aK aL;repeat' first|refine aB ?_|refine As c ?_|refine aA ?_ ?_<;>intro hw<;>try omega|fail
 all_goals first|exact aZ rfl rfl|exact bJ
def TL(a b:aX)(h:cK a.kind b.kind=false): dF aH 262 [c8 a,c8 b] (.panic (rL 14)):=by
 have hf:¬ ((a.kind=oP a.kind b.kind\/a.kind=0)/\(b.kind=oP a.kind b.kind\/b.kind=0)):=fun h2=>by rw[W2.2 h2]at h;cases h
 have c:dF aH 229 [I (oP a.kind b.kind),bu [a,b]] (.panic (rL 14)):=by
  by_cases h1:a.kind=oP a.kind b.kind\/a.kind=0
  ·exact tq _ [a, b] aQ 1 aQ (by
    have h2:¬ (b.kind=oP a.kind b.kind\/b.kind=0):=fun h2=>hf ⟨h1,h2⟩;show CA _ b=false;simpa[CA]using h2)
  exact tq _ [a,b] aQ 0 aQ (by
   show CA _ a=false;simpa[CA]using h1)
 unfold oP at c;simp only[bu,bB,de,c8]at c;simp only[c8];refine dF.of_nil (Bq.go ?_) rfl rfl;unfold dP;intro Q aJ aK aL;by_cases h0:a.kind=0
 ·rw[au h0]at c;repeat' first|refine aB ?_|refine TF c ?_|refine aA ?_ ?_<;>intro hw<;>try omega|fail
  all_goals first|(simp only[go_sem,aL];done)|exact bJ|rfl
 rw[aj h0]at c;repeat' first|refine aB ?_|refine TF c ?_|refine aA ?_ ?_<;>intro hw<;>try omega|fail
 all_goals first|(simp only[go_sem,aL];done)|exact bJ|rfl
def CB(a b:aX): decide (a=b)=(a.kind==b.kind && a.n==b.n && a.s==b.s):=by
 obtain⟨a1,a2,a3⟩:=a;obtain⟨b1,b2,b3⟩:=b;rw[c7];simp[and_assoc]
def QY(op:Int)(a b:aX): dF aH 235 [I op,c8 a,c8 b] (sK (yD op a b)):=by
 have hS:yD op a b=if cK a.kind b.kind=false then .err 14
  else if op=8 then .ok (fU (decide (a=b)))
  else if op=9 then .ok (fU (!(decide (a=b))))
  else if a.kind=3\/b.kind=3 then .err 14
  else if eu a || eu b then .ok v0
  else if op=10 then .ok (fU (decide (jq a b<0)))
  else if op=11 then .ok (fU (decide (jq a b<=0)))
  else if op=12 then .ok (fU (decide (0<jq a b)))
  else .ok (fU (decide (0<=jq a b))):=rfl
 rw[hS];clear hS;by_cases hf:cK a.kind b.kind=false
 ·rw[au hf];have c:=TL a b hf;simp only[c8]at c |-;refine dF.iF (lO.go ?_) rfl eS;unfold dP;intro Q aJ aK aL;repeat' first|refine aB ?_|refine Cy c ?_|refine aA ?_ ?_<;>intro hw<;>try omega|fail
  all_goals first|exact iH rfl|exact bJ
 rw[aj hf];have c:=Vr a b (by simpa using hf);have cc:=nY a b
 have hk:oP a.kind b.kind=3↔a.kind=3\/b.kind=3:=by
  have:cK a.kind b.kind=true:=by simpa using hf
  unfold oP;unfold cK at this;simp only[cN,aM]at this;split<;>omega
 have hb:=CB a b;have hn:(eu a || eu b)=true↔a.kind=0\/b.kind=0:=by simp[eu]
 generalize oP a.kind b.kind=o at c hk;generalize jq a b=m at *;have ct:=fun x=>vf x;by_cases h8:op=8
 ·rw[au h8,hb];subst h8;simp only[c8]at c cc ct |-;refine dF.iF (lO.go ?_) rfl eS;unfold dP;intro Q aJ aK aL;repeat' first|refine aB ?_|refine eU c ?_|refine eU (ct _) ?_|refine aA ?_ ?_<;>intro hw<;>try omega|fail
  all_goals first|exact bJ|(refine j6 rfl ?_;first|rfl|(simp[c8];done))
 rw[aj h8];by_cases h9:op=9
 ·rw[au h9,hb];subst h9;simp only[c8]at c cc ct |-;refine dF.iF (lO.go ?_) rfl eS;unfold dP;intro Q aJ aK aL;repeat' first|refine aB ?_|refine eU c ?_|refine eU (ct _) ?_|refine aA ?_ ?_<;>intro hw<;>try omega|fail
  all_goals first|exact bJ|(refine j6 rfl ?_;first|rfl|(simp[c8];done))
 rw[aj h9];by_cases h3:a.kind=3\/b.kind=3
 ·rw[au h3];have ho:=hk.2 h3;simp only[c8]at c cc ct |-;refine dF.iF (lO.go ?_) rfl eS;unfold dP;intro Q aJ aK aL;repeat' first|refine aB ?_|refine eU c ?_|refine Cy (pW 14 cW) ?_|refine aA ?_ ?_<;>intro hw<;>try omega|fail
  all_goals first|exact iH rfl|exact bJ
 rw[aj h3];have ho:o≠3:=fun h=>h3 (hk.1 h);by_cases h0:(eu a || eu b)=true
 ·rw[au h0];have rM:=hn.1 h0;simp only[c8]at c cc ct |-;refine dF.iF (lO.go ?_) rfl eS;unfold dP;intro Q aJ aK aL;repeat' first|refine aB ?_|refine eU c ?_|refine aA ?_ ?_<;>intro hw<;>try omega|fail
  all_goals first|exact j6 rfl rfl|exact bJ
 rw[aj h0];have rM:¬ (a.kind=0\/b.kind=0):=fun h=>h0 (hn.2 h);clear hn hk hb h3;simp only[c8]at c cc ct |-;refine dF.iF (lO.go ?_) rfl eS;unfold dP;intro Q aJ aK aL;repeat' first|refine aB ?_|refine eU c ?_|refine eU (ct _) ?_|refine aA ?_ ?_<;>intro hw<;>try omega|fail
 all_goals first
  | exact bJ
  |(refine j6 (u:=fU (decide (m<0))) ?_ ?_<;>first|rfl|(repeat' (first|rw[au (by assumption)]|rw[aj (by assumption)]));done)
  |(refine j6 (u:=fU (decide (m<=0))) ?_ ?_<;>first|rfl|(repeat' (first|rw[au (by assumption)]|rw[aj (by assumption)]));done)
  |(refine j6 (u:=fU (decide (0<m))) ?_ ?_<;>first|rfl|(repeat' (first|rw[au (by assumption)]|rw[aj (by assumption)]));done)
  |(refine j6 (u:=fU (decide (0<=m))) ?_ ?_<;>first|rfl|(repeat' (first|rw[au (by assumption)]|rw[aj (by assumption)]));done)
def Vs(op:Int)(a b:aX): dF aH 234 [I op,c8 a,c8 b] (sK (sn op a b)):=by
 have hS:sn op a b=if !(cK a.kind 3) || !(cK b.kind 3)then .err 14
  else if a=fU (decide (op=15))\/b=fU (decide (op=15))then .ok (fU (decide (op=15)))
  else if eu a || eu b then .ok v0
  else .ok (fU (decide (op=14))):=rfl
 rw[hS];clear hS;have ct:=fun x=>vf x;by_cases hf:cK a.kind 3=true/\cK b.kind 3=true
 ·rw[aj (by simp[hf.1,hf.2])];have c:=TI (k:=3) cW a b hf.1 hf.2;have uo:=CB a (fU (decide (op=15)));have iA:=CB b (fU (decide (op=15)));have cte:=vf (decide (op=15));have ct4:=vf (decide (op=14));generalize fU (decide (op=15))=e at *;generalize fU (decide (op=14))=e4 at *;generalize (eu a || eu b)=n at *;simp only[c8]at c cte ct4 |-;by_cases h1:a=e
  ·rw[au (.inl h1)];rw[bQ h1]at uo;refine dF.iF (r7.go ?_) rfl eS;unfold dP;intro Q aJ aK aL;repeat' first|simp (disch:=omega) only[go_sem,aJ,aK,aL,uo.symm]|refine aB ?_|refine As c ?_|refine aA ?_ ?_<;>intro hw<;>try omega|fail
   all_goals first|exact j6 rfl rfl|exact bJ
  rw[cQ h1]at uo;by_cases h2:b=e
  ·rw[au (.inr h2)];rw[bQ h2]at iA;refine dF.iF (r7.go ?_) rfl eS;unfold dP;intro Q aJ aK aL;repeat' first|simp (disch:=omega) only[go_sem,aJ,aK,aL,uo.symm,iA.symm]|refine aB ?_|refine As c ?_|refine aA ?_ ?_<;>intro hw<;>try omega|fail
   all_goals first|exact j6 rfl rfl|exact bJ
  rw[aj (fun h=>h.elim h1 h2)];rw[cQ h2]at iA;refine dF.iF (r7.go ?_) rfl eS;unfold dP;intro Q aJ aK aL;cases n
  all_goals
   repeat' first|simp (disch:=omega) only[go_sem,aJ,aK,aL,uo.symm,iA.symm]|refine aB ?_|refine As c ?_|refine aA ?_ ?_<;>intro hw<;>try omega|fail
  all_goals first|exact j6 rfl rfl|exact bJ
 rw[if_pos (by revert hf;cases cK a.kind 3<;>cases cK b.kind 3<;>simp)];have c:=N4 (k:=3) cW a b (by revert hf;cases cK a.kind 3<;>cases cK b.kind 3<;>simp);simp only[c8]at c |-;refine dF.iF (r7.go ?_) rfl eS;unfold dP;intro Q aJ aK aL;repeat' first|refine aB ?_|refine TF c ?_|refine aA ?_ ?_<;>intro hw<;>try omega|fail
 all_goals first|exact iH rfl|exact bJ
def PC {n : FuncId} {args : List AV} {r : AV} {K G : Prop} (h : aS aH n args r) (k : K) (hg : aS aH n args r -> K -> G := by
    intro h k;with_reducible exact Wr h k):G:=hg h k
def rN(cs:List cV)(row:List aX): AV:= .agg [b_ cs,bu row]
def Rl(cs:List cV)(row:List aX)(s:aU): jE:=if vG cs s<0 then .err 13 else .ok (row.getD (vG cs s).toNat default)
def Mp(cs:List cV)(row:List aX)(s:aU)(hl:cs.length=row.length)(GJ:cs.length<=2^60): dF aH 228 [rN cs row,.str s] (sK (Rl cs row s)):=by
 refine dF.iF (FW.go ?_) (by simp[rN]) eS;unfold dP;intro Q aJ aK aL;simp only[rN,b_,bu];repeat' first|refine aB ?_|refine aA ?_ ?_<;>intro hw<;>try omega|fail
 with_reducible refine bE [5,2,10,15] (fun q:Nat × List aY=>[(10,I q.1)]) (fun q=> .cells [.aR false EC (cs.map dQ),.aR false EV (row.map c8)]:: .cells [I 0,I 0,.str []]::q.2) (fun q=>q.1<=cs.length/\ ∀ k,k<q.1->((cs.getD k default).name==s)=false) (fun q=>cs.length-q.1) (0,[]) ?_ ?_ ?_ ?_
 ·simp
 ·rfl
 ·exact at_
 rintro⟨i,τ⟩ r ⟨h1,h2⟩;dsimp only at h1 h2;by_cases hi:i<cs.length
 ·have hat:=fun h=>qH (p:=fun c:cV=>c.name==s) hi h2 h;have dR:=fun h=>cj (q:=fun k=>((cs.getD k default).name==s)=false) h2 (i:=i) h;obtain⟨c,hc⟩:=cq (cs.getD i default);rw[hc]at hat dR;repeat' first|refine cz hc ?_|refine aB ?_|refine aA ?_ ?_<;>intro hw<;>try omega|fail
  all_goals first
   | exact bJ
   | (have e : vG cs s = i := hat (by simp_all)
      refine j6 (u:=row.getD i default) ?_ rfl;unfold Rl;rw[e,aj ae];rfl)
   | (refine ⟨(i + 1, τ ++ [.cells [.str c.name, I c.kind, .aR false EV (c.order.map c8)]]), ?_, ?_, by first | rfl | (simp [go_sem]; done), da, at_⟩
      ·exact⟨by dsimp only;omega,dR (by simp_all)⟩
      ·dsimp only;omega)
 have e:vG cs s = -1:=nA (p:=fun c:cV=>c.name==s) fun k hk=>h2 k ae;repeat' first|refine aB ?_|refine Cy (pW 13 cW) ?_|refine aA ?_ ?_<;>intro hw<;>try omega|fail
 all_goals first
  | exact bJ
  | (refine iH ?_
     unfold Rl;rw[e];rfl)
def Y7(cs:List cV)(row:List aX)(v:aX)(s:aU)(rs:List jE): qS cs row 2 v s rs=Rl cs row s:=rfl
def abo(cs:List cV)(row:List aX)(v:aX)(s:aU)(rs:List jE): qS cs row 1 v s rs = .ok v:=rfl
def GK{cs:List cV}{row:List aX}{op:Int}{v:aX}{s:aU}{rs:List jE}(h1:op≠1)(h2:op≠2){e:Int}(h:rs.getD 0 default = .err e): qS cs row op v s rs = .err e:=by
 unfold qS;rw[if_neg h1,if_neg h2,h]
def abp{cs:List cV}{row:List aX}{v:aX}{s:aU}{a:aX}: qS cs row 3 v s [.ok a]=N2 a:=rfl
def ad9{cs:List cV}{row:List aX}{v:aX}{s:aU}{a:aX}{r1 r2:jE}: qS cs row 16 v s [.ok a,r1,r2]=if cK a.kind 3=false then .err 14 else if a=fU true then r1 else r2:=rfl
def Y8{cs:List cV}{row:List aX}{op:Int}{v:aX}{s:aU}{a:aX}{e:Int}(h1:4<=op)(h2:op<=15): qS cs row op v s [.ok a,.err e] = .err e:=by
 unfold qS;rw[if_neg ae,if_neg ae];show(if op=3 then _ else _)=_;rw[aj ae,aj ae];rfl
def abq{cs:List cV}{row:List aX}{op:Int}{v:aX}{s:aU}{a b:aX}(h1:4<=op)(h2:op<=15): qS cs row op v s [.ok a,.ok b]=N1 op a b:=by
 unfold qS;rw[if_neg ae,if_neg ae];show(if op=3 then _ else _)=_;rw[aj ae,aj ae];rfl
def Mq(x:Expr): Prop:=ef x=true/\jj x/\gV x<=2^60
def PD{op:Int}{v:aX}{s:aU}{l:List Expr}(h:Mq (.mk op v s l)){y:Expr}(hy:y ∈ l): Mq y:=by
 obtain⟨h1,h2,h3⟩:=h;simp only[ef,aD,aM]at h1;simp only[jj]at h2;simp only[gV]at h3;have hne:l≠[]:=fun e=>by rw[e]at hy;cases hy
 have n1:op≠1:=fun e=>by subst e;have:=h1.1;simp[kg]at this;exact hne (by simpa using this)
 have n2:op≠2:=fun e=>by subst e;have:=h1.1;simp[kg]at this;exact hne (by simpa using this)
 have h4:=h1.2;rw[aj n1,aj n2]at h4;simp only[aD]at h4;have:=Cj hy;exact⟨DW h4.2 hy,Cm h2.2.2.2.2 hy,ae⟩
def Vt{op:Int}{v:aX}{s:aU}{l:List Expr}(h:Mq (.mk op v s l)): (l.length:Int)=kg op:=by
 obtain⟨h1,_,_⟩:=h;simp only[ef,aD,aM]at h1;exact h1.1
def abr{cs:List cV}{row:List aX}(hl:cs.length=row.length)(hrow:∀ w ∈ row,iC w){x:Expr}(h:Mq x): (td cs row x).good:=TE hl hrow x h.1 h.2.1
def Mr(cs:List cV)(row:List aX)(hl:cs.length=row.length)(GJ:cs.length<=2^60)(hrow:∀ w ∈ row,iC w)(x:Expr): Mq x->dF aH 190 [rN cs row,br x] (sK (td cs row x)):=by
 induction x using Expr.ind with
 | h op v s l ih =>
   intro hx;have Yz:=Vt hx;have qN:∀ y ∈ l,dF aH 190 [rN cs row,br y] (sK (td cs row y)):=fun y hy=>ih y hy (PD hx hy);have Ms:∀ y ∈ l,(td cs row y).good:=fun y hy=>abr hl hrow (PD hx hy);clear ih hx;simp only[td];rw[HO];by_cases o1:op=1
   ·subst o1;rw[abo];simp only[br,rN,b_,bu];refine dF.iF (fS.go ?_) aQ eS;unfold dP;intro Q aJ aK aL;repeat' first|refine aB ?_|refine aA ?_ ?_<;>intro hw<;>try omega|fail
    all_goals first|exact j6 rfl rfl|exact bJ
   by_cases o2:op=2
   ·subst o2;rw[Y7];have c:=Mp cs row s hl GJ;simp only[br,rN,b_,bu]at c |-;refine dF.iF (fS.go ?_) aQ eS;unfold dP;intro Q aJ aK aL;repeat' first|refine aB ?_|refine Cx c (fun v_ qz=>?_) (fun e_ pq=>?_)|refine aA ?_ ?_<;>intro hw<;>try omega|fail
    all_goals first|exact j6 qz rfl|exact iH pq|exact bJ
   rcases rF Yz o1 o2 with⟨rfl,hn⟩|⟨h4,h15,hn⟩|⟨rfl,hn⟩
   ·obtain ⟨y, rfl⟩ : ∃ y, l = [y] := by
     match l,hn with
     | [y],_=>exact⟨y,rfl⟩
    have c0:=qN y aQ;have g0:=Ms y aQ;simp only[bB,de];generalize td cs row y=r0 at *;simp only[br,rN,b_,bu,bB,de]at c0 |-;rw[bM]at c0;cases r0 with
    | err e =>
      have c0:dF aH 190 _ (.panic (rL e)):=c0;rw[GK cW cW rfl];refine dF.iF (fS.go ?_) aQ eS;unfold dP;intro Q aJ aK aL;repeat' first|refine aB ?_|refine Cy c0 ?_|refine aA ?_ ?_<;>intro hw<;>try omega|fail
      all_goals first|exact iH rfl|exact fun _ _=>iH rfl|exact bJ
    | ok a =>
      have c0:aS aH 190 _ (c8 a):=c0;rw[abp];unfold N2;cases hf:cK a.kind 1 with
      | false =>
        have c1:=W1 (k:=1) cW a hf;rw[au rfl];simp only[c8]at c0 c1;refine dF.iF (fS.go ?_) aQ eS;unfold dP;intro Q aJ aK aL;repeat' first|refine aB ?_|refine PC c0 ?_|refine TF c1 ?_|refine aA ?_ ?_<;>intro hw<;>try omega|fail
        all_goals first|exact iH rfl|exact bJ
      | true =>
        have c1:=abm (k:=1) cW a hf;have cS:=TH 0 a.n (by unfold kX;omega) g0.2.1;have hp:=WW (GI (0-a.n));rw[aj cW];generalize kA (0-a.n)=q at *;generalize numOf q=n at *;generalize pX q=m at *;simp only[c8]at c0 c1;generalize eu a=z at *;refine dF.iF (fS.go ?_) aQ eS;unfold dP;intro Q aJ aK aL;cases z
        all_goals
         repeat' first|refine aB ?_|refine PC c0 ?_|refine As c1 ?_|refine Cx (tj n m) (fun v_ qz=>?_) (fun e_ pq=>?_)|refine aA ?_ ?_<;>intro hw<;>try omega|fail
        all_goals first
         | exact j6 rfl rfl
         | exact j6 (hp.symm.trans qz) rfl
         | exact iH (hp.symm.trans pq)
         | exact bJ
   ·obtain ⟨y, z, rfl⟩ : ∃ y z, l = [y, z] := by
     match l,hn with
     | [y,z],_=>exact⟨y,z,rfl⟩
    have c0:=qN y aQ;have g0:=Ms y aQ;have c1:=qN z aQ;have g1:=Ms z aQ;simp only[bB,de];generalize td cs row y=r0 at *;generalize td cs row z=r1 at *;simp only[br,rN,b_,bu,bB,de]at c0 c1 |-;rw[bM]at c0 c1;clear qN Ms;cases r0 with
    | err e =>
      have c0:dF aH 190 _ (.panic (rL e)):=c0;rw[GK ae ae rfl];refine dF.iF (fS.go ?_) aQ eS;unfold dP;intro Q aJ aK aL;repeat' first|refine aB ?_|refine Cy c0 ?_|refine aA ?_ ?_<;>intro hw<;>try omega|fail
      all_goals first|exact iH rfl|exact fun _ _=>iH rfl|exact bJ
    | ok a =>
      have c0:aS aH 190 _ (c8 a):=c0;cases r1 with
      | err e =>
        have c1:dF aH 190 _ (.panic (rL e)):=c1;rw[Y8 h4 h15];simp only[c8]at c0;refine dF.iF (fS.go ?_) aQ eS;unfold dP;intro Q aJ aK aL;repeat' first|simp (disch:=omega) only[go_sem,aJ,aK,aL,Int.reduceToNat]|refine aB ?_|refine PC c0 ?_|refine Cy c1 ?_|refine aA ?_ ?_<;>intro hw<;>try omega|fail
        all_goals first|exact iH rfl|exact fun _ _=>iH rfl|exact bJ
      | ok b =>
        have c1:aS aH 190 _ (c8 b):=c1;rw[abq h4 h15];have cs:=abn op a b g0.2 g1.2;have cc:=QY op a b;have ct:=Vs op a b;have hS:N1 op a b=if op<=7 then wO op a b else if op<=13 then yD op a b else sn op a b:=rfl
        rw[hS];clear hS g0 g1;generalize wO op a b=q1 at *;generalize yD op a b=q2 at *;generalize sn op a b=q3 at *;simp only[c8]at c0 c1 cs cc ct;refine dF.iF (fS.go ?_) aQ eS;unfold dP;intro Q aJ aK aL;repeat' first|simp (disch:=omega) only[go_sem,aJ,aK,aL,Int.reduceToNat]|refine aB ?_|refine PC c0 ?_|refine PC c1 ?_|refine Cx cs (fun v_ qz=>?_) (fun e_ pq=>?_)|refine Cx cc (fun v_ qz=>?_) (fun e_ pq=>?_)|refine Cx ct (fun v_ qz=>?_) (fun e_ pq=>?_)|refine aA ?_ ?_<;>intro hw<;>try omega|fail
        all_goals first
         |(rw[au ae];first|exact j6 qz rfl|exact iH pq)
         |(rw[aj ae,au ae];first|exact j6 qz rfl|exact iH pq)
         |(rw[aj ae,aj ae];first|exact j6 qz rfl|exact iH pq)
         | exact bJ
   obtain⟨y,z,u,rfl⟩:∃ y z u,l=[y,z,u]:=by
    match l,hn with
    | [y,z,u],_=>exact⟨y,z,u,rfl⟩
   have c0:=qN y aQ;have c1:=qN z aQ;have c2:=qN u aQ;simp only[bB,de];generalize td cs row y=r0 at *;generalize td cs row z=r1 at *;generalize td cs row u=r2 at *;simp only[br,rN,b_,bu,bB,de]at c0 c1 c2 |-;rw[bM]at c0 c1 c2;clear qN Ms;cases r0 with
   | err e =>
     have c0:dF aH 190 _ (.panic (rL e)):=c0;rw[GK cW cW rfl];refine dF.iF (fS.go ?_) aQ eS;unfold dP;intro Q aJ aK aL;repeat' first|refine aB ?_|refine Cy c0 ?_|refine aA ?_ ?_<;>intro hw<;>try omega|fail
     all_goals first|exact iH rfl|exact fun _ _=>iH rfl|exact bJ
   | ok a =>
     have c0:aS aH 190 _ (c8 a):=c0;rw[ad9];cases hf:cK a.kind 3 with
     | false =>
       have cf:=W1 (k:=3) cW a hf;rw[au rfl];simp only[c8]at c0 cf;refine dF.iF (fS.go ?_) aQ eS;unfold dP;intro Q aJ aK aL;repeat' first|refine aB ?_|refine PC c0 ?_|refine TF cf ?_|refine aA ?_ ?_<;>intro hw<;>try omega|fail
       all_goals first|exact iH rfl|exact bJ
     | true =>
       have cf:=abm (k:=3) cW a hf;have ct:=vf true;have hb:=CB a (fU true);rw[aj cW];by_cases ha:a=fU true
       ·rw[au ha];rw[bQ ha]at hb;generalize fU true=e at *;simp only[c8]at c0 cf ct;refine dF.iF (fS.go ?_) aQ eS;unfold dP;intro Q aJ aK aL;repeat' first|simp (disch:=omega) only[go_sem,aJ,aK,aL,Int.reduceToNat,hb.symm]|refine aB ?_|refine PC c0 ?_|refine As cf ?_|refine Cx c1 (fun v_ qz=>?_) (fun e_ pq=>?_)|refine aA ?_ ?_<;>intro hw<;>try omega|fail
        all_goals first|exact j6 qz rfl|exact iH pq|exact fun _ _=>iH pq|exact bJ
       rw[aj ha];rw[cQ ha]at hb;generalize fU true=e at *;simp only[c8]at c0 cf ct;refine dF.iF (fS.go ?_) aQ eS;unfold dP;intro Q aJ aK aL;repeat' first|simp (disch:=omega) only[go_sem,aJ,aK,aL,Int.reduceToNat,hb.symm]|refine aB ?_|refine PC c0 ?_|refine As cf ?_|refine Cx c2 (fun v_ qz=>?_) (fun e_ pq=>?_)|refine aA ?_ ?_<;>intro hw<;>try omega|fail
       all_goals first|exact j6 qz rfl|exact iH pq|exact fun _ _=>iH pq|exact bJ
structure TO {α : Type} (c : α-> α->Int):Prop where
 eq:∀ a b,c a b=0↔a=b
 anti:∀ a b,c b a = - c a b
 trans:∀ a b d,c a b<0->c b d<0->c a d<0
def ad_: TO ko:=by
 refine⟨fun a b=>?_,fun a b=>?_,fun a b d=>?_⟩
 ·unfold ko;split<;>(try split)<;>constructor<;>intro h<;>omega
 ·unfold ko;split<;>split<;>(try split)<;>omega
 unfold ko;intro h1 h2;rw[au]
 ·omega
 split at h1<;>split at h2<;>(try split at h1)<;>(try split at h2)<;>omega
def TO.lex{α β : Type}{c1 : α-> α->Int}{c2 : β-> β->Int}(h1:TO c1)(h2:TO c2): TO (fun(p q : α × β)=>if c1 p.1 q.1≠0 then c1 p.1 q.1 else c2 p.2 q.2):=by
 refine⟨fun a b=>?_,fun a b=>?_,fun a b d=>?_⟩
 ·obtain⟨a1,a2⟩:=a;obtain⟨b1,b2⟩:=b;dsimp only;by_cases h:c1 a1 b1=0
  ·rw[aj (by simpa using h),h2.eq,(h1.eq _ _).1 h];simp
  rw[au h];constructor
  ·intro h';exact absurd h' h
  intro h';cases h';exact absurd ((h1.eq _ _).2 rfl) h
 ·rw[h1.anti,h2.anti];by_cases h:c1 a.1 b.1=0
  ·rw[aj ae,aj ae]
  rw[au ae,au ae]
 intro ha hb;by_cases h:c1 a.1 b.1=0
 ·rw[aj ae]at ha;rw[(h1.eq _ _).1 h];by_cases h':c1 b.1 d.1=0
  ·rw[aj ae]at hb |-;exact h2.trans _ _ _ ha hb
  rw[au h']at hb |-;exact hb
 rw[au h]at ha;by_cases h':c1 b.1 d.1=0
 ·rw[<-(h1.eq _ _).1 h',au h];exact ha
 rw[au h']at hb;have:=h1.trans _ _ _ ha hb;rw[au ae];exact this
def TO.map{α β : Type}{c : β-> β->Int}(h:TO c)(f : α-> β)(hf:∀ a b,f a=f b->a=b): TO (fun a b=>c (f a) (f b)) :=
 ⟨fun a b=>⟨fun e=>hf _ _ ((h.eq _ _).1 e),fun e=>(h.eq _ _).2 (by rw[e])⟩,fun a b=>h.anti _ _,fun a b d=>h.trans _ _ _⟩
def pz{α : Type}(c : α-> α->Int): List α->List α->Int
 | [],[]=>0
 | [],_::_=> -1
 | _::_,[]=>1
 | a::r,b::t=>if c a b≠0 then c a b else pz c r t
def TO.list{α : Type}{c : α-> α->Int}(h:TO c): TO (pz c):=by
 refine⟨fun a=>?_,fun a=>?_,fun a=>?_⟩
 ·induction a with
  | nil=>intro b;cases b<;>simp[pz]
  | cons x r ih =>
    intro b;cases b with
    | nil=>simp[pz]
    | cons y t =>
      simp only[pz];by_cases hx:c x y=0
      ·rw[aj (by simpa using hx),ih,(h.eq _ _).1 hx];simp
      rw[au hx];constructor
      ·intro h';exact absurd h' hx
      intro h';cases h';exact absurd ((h.eq _ _).2 rfl) hx
 ·induction a with
  | nil=>intro b;cases b<;>simp[pz]
  | cons x r ih =>
    intro b;cases b with
    | nil=>simp[pz]
    | cons y t =>
      simp only[pz];rw[h.anti,ih];by_cases hx:c x y=0
      ·rw[aj ae,aj ae]
      rw[au ae,au ae]
 induction a with
 | nil =>
   intro b d hb hd;cases b with
   | nil=>simp[pz]at hb
   | cons y t =>
     cases d with
     | nil=>simp[pz]at hd
     | cons z u=>simp[pz]
 | cons x r ih =>
   intro b d hb hd;cases b with
   | nil=>simp[pz]at hb
   | cons y t =>
     cases d with
     | nil=>simp[pz]at hd
     | cons z u =>
       simp only[pz]at hb hd |-;by_cases hx:c x y=0
       ·rw[aj ae]at hb;rw[(h.eq _ _).1 hx];by_cases hy:c y z=0
        ·rw[aj ae]at hd |-;exact ih _ _ hb hd
        rw[au hy]at hd |-;exact hd
       rw[au hx]at hb;by_cases hy:c y z=0
       ·rw[<-(h.eq _ _).1 hy,au hx];exact hb
       rw[au hy]at hd;have:=h.trans _ _ _ hb hd;rw[au ae];exact this
def N5(a b:UInt8): Int:=if a<b then -1 else if b<a then 1 else 0
def amO: TO N5:=by
 have e:N5=fun a b=>ko a.toNat b.toNat:=by
  funext a b
  unfold N5 ko;simp only[UInt8.lt_iff_toNat_lt,Int.ofNat_lt]
 rw[e];exact ad_.map (fun a:UInt8=>(a.toNat:Int)) (fun a b h=>UInt8.toNat_inj.1 ae)
def PE: ∀ a b:aU,Lib.compareBytes a b=pz N5 a b
 | [],[]=>rfl
 | [],_::_=>rfl
 | _::_,[]=>rfl
 | x :: r, y :: t => by
   simp only[Lib.compareBytes,pz,PE r t];unfold N5;by_cases h1:x<y
   ·simp[h1]
   by_cases h2:y<x
   ·simp[h1,h2]
   simp[h1,h2]
def amP: TO jq:=by
 have e:jq=fun a b=>(fun(p q:Int × Int × aU)=>if ko p.1 q.1≠0 then ko p.1 q.1 else(fun(p q:Int × aU)=>if ko p.1 q.1≠0 then ko p.1 q.1 else pz N5 p.2 q.2) p.2 q.2) (a.kind,a.n,a.s) (b.kind,b.n,b.s):=by
  funext a b
  simp only[jq,PE]
 rw[e]
 exact(ad_.lex (ad_.lex amO.list)).map (fun a:aX=>(a.kind,a.n,a.s)) (fun a b h=>by
  obtain⟨a1,a2,a3⟩:=a;obtain⟨b1,b2,b3⟩:=b;simp only[Prod.mk.injEq]at h;obtain⟨rfl,rfl,rfl⟩:=h;rfl)
def TM: ∀ a b:List aX,iU a b=pz jq a b
 | [],[]=>rfl
 | [],_::_=>rfl
 | _::_,[]=>rfl
 | x::r,y::t=>by simp only[iU,pz,TM r t]
def GL: TO iU:=by
 have e:iU=pz jq:=by funext a b;exact TM a b
 rw[e];exact amP.list
abbrev Row:=List aX
abbrev qA(a b:Row): Prop:=iU a b<=0
def aea(a:Row): qA a a:=by show iU a a<=0;rw[(GL.eq a a).2 rfl];omega
def pF{a b d:Row}(h1:qA a b)(h2:qA b d): qA a d:=by
 have h1:iU a b<=0:=h1;have h2:iU b d<=0:=h2;show iU a d<=0;by_cases e1:iU a b=0
 ·rw[(GL.eq _ _).1 e1];exact h2
 by_cases e2:iU b d=0
 ·rw[<-(GL.eq _ _).1 e2];exact h1
 have:=GL.trans a b d ae ae;omega
def aeb{a b:Row}(h1:qA a b)(h2:qA b a): a=b:=by
 have h1:iU a b<=0:=h1;have h2:iU b a<=0:=h2;rw[GL.anti a b]at h2;exact(GL.eq _ _).1 ae
abbrev mC(l:List Row): Prop:=l.Pairwise qA
def Mt: ∀ {l m:List Row},mC l->mC m->l.Perm m->l=m
 | [],m,_,_,h=>h.nil_eq
 | a :: l, m, hl, hm, h => by
   cases m with
   | nil=>exact absurd h.symm.nil_eq aQ
   | cons b m =>
     have hab:a=b:=by
      have h1:a ∈ b::m:=h.subset aQ;have h2:b ∈ a::l:=h.symm.subset aQ;rcases List.mem_cons.1 h1 with h1|h1
      ·exact h1
      rcases List.mem_cons.1 h2 with h2|h2
      ·exact h2.symm
      exact aeb ((fK.1 hl).1 _ h2) ((fK.1 hm).1 _ h1)
     subst hab;rw[Mt (fK.1 hl).2 (fK.1 hm).2 (List.perm_cons a |>.1 h)]
def PG(x:Row)(l:List Row): (GD x l).Perm (x::l):=by
 induction l with
 | nil=>exact .refl _
 | cons y r ih =>
   simp only[GD];split
   ·exact .refl _
   exact(ih.cons y).trans (.swap x y r)
def aec{x:Row}{l:List Row}(h:mC l): mC (GD x l):=by
 induction l with
 | nil=>simp[GD]
 | cons y r ih =>
   have h':=fK.1 h;simp only[GD];split
   ·rename_i hx;have hx:iU x y<=0:=ae;refine fK.2 ⟨fun z hz=>?_,h⟩;rcases List.mem_cons.1 hz with rfl|hz
    ·exact hx
    exact pF (b:=y) hx (h'.1 z hz)
   rename_i hx;have hyx:qA y x:=by show iU y x<=0;rw[GL.anti x y];omega
   refine fK.2 ⟨fun z hz=>?_,ih h'.2⟩;have:=(PG x r).subset hz;rcases List.mem_cons.1 this with rfl|hz
   ·exact hyx
   exact h'.1 z hz
def DY: ∀(l acc:List Row),(yC l acc).Perm (l++acc)
 | [],acc=> .refl _
 | x :: r, acc => by
   simp only[yC];refine(DY r (GD x acc)).trans ?_;refine((PG x acc).append_left r).trans ?_;exact List.perm_middle
def PI: ∀(l:List Row) {acc:List Row},mC acc->mC (yC l acc)
 | [],acc,h=>h
 | x :: r, acc, h => by
   simp only[yC];exact PI r (aec h)
def eW(l:List Row): List Row:=yC l []
def uc(l:List Row): mC (eW l):=PI l .nil
def mD(l:List Row): (eW l).Perm l:=by
 have:=DY l [];rwa[bZ]at this
def CD{l m:List Row}(h:mC m)(hp:m.Perm l): m=eW l:=Mt h (uc l) (hp.trans (mD l).symm)
def DZ{l m:List Row}(h:l.Perm m): eW l=eW m:=CD (uc l) ((mD l).trans h)
def GM{l:List Row}(h:mC l): eW l=l:=(CD h (.refl _)).symm
def oN(l:List Row): (eW l).length=l.length:=(mD l).length_eq
def PJ{s1 s2:List Row}{x:Row}(h:mC (s1++s2))(h1:∀ y ∈ s1,qA y x)(h2:∀ y ∈ s2,qA x y): mC (s1++x::s2):=by
 obtain⟨a,b,c⟩:=fX.1 h;refine fX.2 ⟨a,fK.2 ⟨h2,b⟩,fun y hy z hz=>?_⟩;rcases List.mem_cons.1 hz with rfl|hz
 ·exact h1 y hy
 exact c y hy z hz
def abt{x1 x2 y1 y2:List Row}(hx:mC (x1++x2))(hy:mC (y1++y2))(h1:∀ a ∈ x1,∀ b ∈ y2,qA a b)(h2:∀ a ∈ y1,∀ b ∈ x2,qA a b): eW (x1++y1)++eW (x2++y2)=eW ((x1++x2)++(y1++y2)):=by
 obtain⟨_,_,c⟩:=fX.1 hx;obtain⟨_,_,d⟩:=fX.1 hy;refine CD ?_ ?_
 ·refine fX.2 ⟨uc _,uc _,fun a ha b hb=>?_⟩;have ha:=(mD _).subset ha;have hb:=(mD _).subset hb;rcases List.mem_append.1 ha with ha|ha<;>rcases List.mem_append.1 hb with hb|hb
  ·exact c a ha b hb
  ·exact h1 a ha b hb
  ·exact h2 a ha b hb
  exact d a ha b hb
 refine((mD _).append (mD _)).trans ?_;rw[aT,aT];refine List.Perm.append_left x1 ?_;rw[<-aT,<-aT];exact(List.perm_append_comm (l₁:=y1) (l₂:=x2)).append_right y2
def yP{l:List Row}(h:mC l){i j:Nat}(hij:i<=j)(hj:j<l.length): qA (l.getD i default) (l.getD j default):=by
 rw[aq,aq,aG hj,aG ae];rcases Nat.lt_or_eq_of_le hij with h1|rfl
 ·exact List.pairwise_iff_getElem.1 h i j ae hj h1
 exact aea _
def zI{l:List Row}{n:Nat}{x:Row}(h:x ∈ l.take n): ∃ i,i<n/\i<l.length/\l.getD i default=x:=by
 obtain⟨i,hi,rfl⟩:=bV h;rw[dW]at hi;refine⟨i,ae,ae,?_⟩;rw[aq,aG ae,List.getElem_take];rfl
def zJ{l:List Row}{n:Nat}{x:Row}(h:x ∈ l.drop n): ∃ i,n<=i/\i<l.length/\l.getD i default=x:=by
 obtain⟨i,hi,rfl⟩:=bV h;rw[dJ]at hi;refine⟨n+i,ae,ae,?_⟩;rw[aq,aG ae,List.getElem_drop];rfl
def xA{a b:Row}(h:¬ iU a b<0): qA b a:=by show iU b a<=0;rw[GL.anti a b];omega
def Rm{a b:Row}(h:iU a b<0): qA a b:=by show iU a b<=0;omega
def aed {X Y : List Row} (hX : mC X) (hY : mC Y) {h s : Nat} (hs1 : s <= X.length) (VZ : s <= h) (hs3 : h - s <= Y.length)
    (h1:s=0\/h-s=Y.length\/¬ iU (Y.getD (h-s) default) (X.getD (s-1) default)<0) (h2:s=X.length\/s=h\/iU (Y.getD (h-1-s) default) (X.getD s default)<0) :
    (∀ a ∈ X.take s,∀ b ∈ Y.drop (h-s),qA a b)/\(∀ a ∈ Y.take (h-s),∀ b ∈ X.drop s,qA a b):=by
 constructor
 ·intro a ha b hb;obtain⟨i,hi,hi2,rfl⟩:=zI ha;obtain⟨j,hj,hj2,rfl⟩:=zJ hb;rcases h1 with h1|h1|h1
  ·omega
  ·omega
  exact pF (yP hX (show i<=s-1 by omega) ae) (pF (xA h1) (yP hY hj hj2))
 intro a ha b hb;obtain⟨i,hi,hi2,rfl⟩:=zI ha;obtain⟨j,hj,hj2,rfl⟩:=zJ hb;rcases h2 with h2|h2|h2
 ·omega
 ·omega
 exact pF (yP hY (show i<=h-1-s by omega) ae) (pF (Rm h2) (yP hX hj hj2))
def aee {X Y : List Row} (hX : mC X) (hY : mC Y) {h s : Nat} (hs1 : s <= X.length) (VZ : s <= h) (hs3 : h - s <= Y.length)
    (h1:s=0\/h-s=Y.length\/¬ iU (Y.getD (h-s) default) (X.getD (s-1) default)<0) (h2:s=X.length\/s=h\/iU (Y.getD (h-1-s) default) (X.getD s default)<0) :
    eW (X.take s++Y.take (h-s))++eW (X.drop s++Y.drop (h-s))=eW (X++Y):=by
 obtain⟨a,b⟩:=aed hX hY hs1 VZ hs3 h1 h2;have:=abt (x1:=X.take s) (x2:=X.drop s) (y1:=Y.take (h-s)) (y2:=Y.drop (h-s)) (by rw[dH];exact hX) (by rw[dH];exact hY) a b;rw[dH,dH]at this;exact this
def TN{Y:List Row}(hY:mC Y){x:Row}{i:Nat}(hi:i<=Y.length)(h1:i=0\/qA (Y.getD (i-1) default) x)(h2:i=Y.length\/qA x (Y.getD i default)): Y.take i++x::Y.drop i=eW (x::Y):=by
 refine CD (PJ (by rw[dH];exact hY) (fun y hy=>?_) (fun y hy=>?_)) ?_
 ·obtain⟨j,hj,hj2,rfl⟩:=zI hy;rcases h1 with h1|h1
  ·omega
  exact pF (yP hY (show j<=i-1 by omega) ae) h1
 ·obtain⟨j,hj,hj2,rfl⟩:=zJ hy;rcases h2 with h2|h2
  ·omega
  exact pF h2 (yP hY hj hj2)
 refine List.perm_middle.trans ?_;rw[dH]
def agF(x:Row): mC [x]:=aQ
def N6{X:List Row}{k:Nat}(hk:k<X.length): eW (X.take (k+1))=eW (X.getD k default::eW (X.take k)):=by
 refine DZ ?_;rw[jz,aG hk,aq,aG hk];refine(List.perm_append_comm).trans ?_;exact((mD _).symm.cons _)
abbrev kB(L:List Row): aY:= .vec E1 (L.map bu)
abbrev ud(k:Nat)(L:List Row): AV:= .own E1 k L.length 0 L.length
def oU(f:FuncId)(rest:List AV)(L M:List Row): Prop :=
 ∀(σ : ai) (k:Nat),σ[k]? = some (kB L)->cE aH f (ud k L::rest) σ fun o σ'=>o = .ret (.bU [])/\σ' = σ.set k (kB M)
def xB{σ : ai}{k:Nat}{o:aY}(h : σ[k]? = some o)(o':aY): (σ.set k o')[k]? = some o':=uM h
def pK{σ : ai}{k:Nat}{o:aY}(h : σ[k]? = some o): σ.set k o = σ:=by
 obtain⟨h1,h2⟩:=aE.1 h;subst h2;exact List.set_getElem_self h1
def W3 {n : FuncId} {rest : List AV} {L M : List Row} {σ : ai} {k : Nat} {K Kp : AV -> ai -> Prop} (h : oU n rest L M) (iE : σ[k]? = some (kB L)) (hk : jS (.bU []) (.mk : Tg fun r => tK (σ.set k (kB M)) (.mk : Tg fun σ => K r σ))) :
    oQ Tryz.prog n (ud k L::rest) σ (.mk:Tg (K,Kp)) :=
 (h σ k iE).mono fun o s ⟨h1,h2⟩=>by subst h1;subst h2;exact hk
def Kj{A B:List Row}{x:Row}: (A++x::B).getD A.length default=x:=by simp[aq]
def W4{A B:List Row}{x y:Row}: (A++x::B).set A.length y=A++y::B:=aQ
def aef{A B C:List Row}{x y:Row}: ((A++x::B++y::C).set A.length y).set (A++x::B).length x=A++y::B++x::C:=by
 rw[aT,bK,W4];have:(A++x::B).length=(A++y::B).length:=aQ;rw[this,<-bK,<-aT,W4]
def Y9{M:List Row}{n:Nat}{r:Row}: (List.map bu M).set n (AV.aR false EV (List.map c8 r))=List.map bu (M.set n r):=by
 rw[List.map_set];rfl
def abu {A U B V C : List Row} (hn : U.length = V.length) {i : Nat} (hi : i < U.length) {M : List Row} (hM : A ++ (V.take i ++ U.drop i) ++ B ++ (U.take i ++ V.drop i) ++ C = M) :
    (M.set (A.length+i) (M.getD (A.length+U.length+B.length+i) default)).set (A.length+U.length+B.length+i) (M.getD (A.length+i) default)=A++(V.take (i+1)++U.drop (i+1))++B++(U.take (i+1)++V.drop (i+1))++C:=by
 have hv:i<V.length:=ae
 have e:M=(A++V.take i)++U[i]::(U.drop (i+1)++B++U.take i)++V[i]::(V.drop (i+1)++C):=by
  rw[<-hM,dZ hi,dZ hv];simp only[aT,bK]
 have l1:A.length+i=(A++V.take i).length:=by simp;omega
 have l2:A.length+U.length+B.length+i=((A++V.take i)++U[i]::(U.drop (i+1)++B++U.take i)).length:=by simp;omega
 have g1:M.getD (A.length+i) default=U[i]:=by
  rw[e,l1,aT,bK];exact Kj
 have g2:M.getD (A.length+U.length+B.length+i) default=V[i]:=by
  rw[e,l2];exact Kj
 rw[g1,g2,l1,l2,e,aef];rw[jz,jz,aG hi,aG hv];simp only[aT,bK,Option.toList_some,bS]
def GN(F:AV)(A U B V C:List Row)(hl:(A++U++B++V++C).length<=2^40)(hn:U.length=V.length): oU 300 [I A.length,I (A.length+U.length+B.length:Nat),I U.length,F] (A++U++B++V++C) (A++V++B++U++C):=by
 intro σ k iE;refine sW.go ?_;unfold dP;intro Q aJ aK aL;generalize hL:A++U++B++V++C=L at *;have i_:L.length=A.length+U.length+B.length+V.length+C.length:=by rw[<-hL];simp;omega
 have hs:=fun o=>xB iE o;have oD:∀ o o':aY,(σ.set k o).set k o' = σ.set k o':=fun o o'=>ek _;repeat' first|refine aB ?_|refine aA ?_ ?_<;>intro hw<;>try omega|fail
 with_reducible refine bE [10,28] (fun i:Nat=>[(10,I i)]) (fun i=>σ.set k (kB (A++(V.take i++U.drop i)++B++(U.take i++V.drop i)++C))) (fun i=>i<=U.length) (fun i=>U.length-i) 0 ?_ ?_ ?_ ?_
 ·simp
 ·simp only[gZ,eO,bS];rw[hL,pK iE]
 ·exact at_
 rintro i r h1;by_cases hi:i<U.length
 ·obtain⟨M,hM⟩:=cq (A++(V.take i++U.drop i)++B++(U.take i++V.drop i)++C);have hst:=abu hn hi hM;rw[hM];have hml:M.length=L.length:=by rw[<-hM,i_];simp;omega
  have e1:((A.length:Int)+i).toNat=A.length+i:=ae;have e2:(((A.length+U.length+B.length:Nat):Int)+i).toNat=A.length+U.length+B.length+i:=ae;repeat' first|simp (disch:=omega) only[go_sem,aJ,aK,aL,hs,oD,hml,Y9,e1,e2,dN,aP,if_false]|refine aB ?_|refine aA ?_ ?_<;>intro hw<;>try omega|fail
  refine⟨i+1,?_,?_,?_,da,at_⟩<;>(try dsimp only)
  ·omega
  ·omega
  rw[hst]
 obtain rfl:i=U.length:=ae;repeat' first|refine aB ?_|refine aA ?_ ?_<;>intro hw<;>try omega|fail
 refine⟨rfl,?_⟩;rw[hn,fZ,<-hn,fZ,List.drop_length,hn,List.drop_length,bZ,bZ]
def jk {n : FuncId} {rest args : List AV} {L M : List Row} {σ : ai} {k : Nat} {K Kp : AV -> ai -> Prop} (h : oU n rest L M) (iE : σ[k]? = some (kB L)) (ha : args = ud k L :: rest) (hk : jS (.bU []) (.mk : Tg fun r => tK (σ.set k (kB M)) (.mk : Tg fun σ => K r σ))) :
    oQ Tryz.prog n args σ (.mk:Tg (K,Kp)):=by subst ha;exact W3 h iE hk
def sL{k N N':Nat}{a a' b b' c c':Int}{F:AV}(h0:N=N')(h1:a=a')(h2:b=b')(h3:c=c'): [AV.own E1 k N 0 N,I a,I b,I c,F]=[AV.own E1 k N' 0 N',I a',I b',I c',F]:=by subst h0;subst h1;subst h2;subst h3;rfl
def rotate(F:AV)(A U V C:List Row)(hl:(A++U++V++C).length<=2^40)(hU:0<U.length)(hV:0<V.length): oU 285 [I A.length,I (A.length+U.length:Nat),I (A.length+U.length+V.length:Nat),F] (A++U++V++C) (A++V++U++C):=by
 intro σ k iE;have i_:(A++U++V++C).length=A.length+U.length+V.length+C.length:=by simp;omega
 rw[i_]at hl;obtain⟨T,hT⟩:=cq (A++V++U++C);rw[hT,show ud k (A++U++V++C)=AV.own E1 k (A.length+U.length+V.length+C.length) 0 (A.length+U.length+V.length+C.length) by rw[<-i_]];refine uS.go ?_;unfold dP;intro Q aJ aK aL;have hs:=fun o=>xB iE o;have oD:∀ o o':aY,(σ.set k o).set k o' = σ.set k o':=fun o o'=>ek _;repeat' first|refine aB ?_|refine aA ?_ ?_<;>intro hw<;>try omega|fail
 with_reducible refine bE [10,2,18,32] (fun q:List Row × List Row × List Row × List Row=>[(10,I q.2.1.length),(11,I q.2.2.1.length)]) (fun q=>σ.set k (kB (q.1++q.2.1++q.2.2.1++q.2.2.2))) (fun q=>q.1++q.2.2.1++q.2.1++q.2.2.2=T/\q.1.length+q.2.1.length=A.length+U.length/\0<q.2.1.length/\0<q.2.2.1.length/\q.1.length+q.2.1.length+q.2.2.1.length+q.2.2.2.length=A.length+U.length+V.length+C.length) (fun q=>q.2.1.length+q.2.2.1.length) (A,U,V,C) ?_ ?_ ?_ ?_
 ·exact⟨hT,rfl,hU,hV,rfl⟩
 ·exact(pK iE).symm
 ·exact at_
 rintro⟨a,u,v,c⟩ r ⟨h1,h2,h3,h4,h5⟩;dsimp only at h1 h2 h3 h4 h5 |-;by_cases huv:u.length=v.length
 ·have hc:=GN F a u [] v c (by simp;omega) huv;rw[show a++u++[]++v++c=a++u++v++c by simp,show a++v++[]++u++c=a++v++u++c by simp]at hc;repeat' first|refine cz oD ?_|refine aB ?_|with_reducible refine jk hc (hs _) (sL (by simp;omega) ae (by simp;omega) ae) ?_|refine aA ?_ ?_<;>intro hw<;>try omega|fail
  refine⟨rfl,?_⟩;rw[<-h1]
 by_cases hgt:v.length<u.length
 ·obtain⟨u1,u2,rfl,hu⟩:∃ u1 u2,u=u1++u2/\u1.length=v.length:=⟨u.take v.length,u.drop v.length,(dH _ _).symm,by simp;omega⟩;simp only[aC]at h2 h3 h5 hgt huv |-;have hc:=GN F a u1 u2 v c (by simp;omega) hu;rw[show a++u1++u2++v++c=a++(u1++u2)++v++c by simp]at hc;repeat' first|refine cz oD ?_|refine aB ?_|with_reducible refine jk hc (hs _) (sL (by simp;omega) ae ae ae) ?_|refine aA ?_ ?_<;>intro hw<;>try omega|fail
  refine⟨(a++v,u2,u1,c),?_,?_,?_,da,at_⟩<;>(try dsimp only)
  ·refine⟨?_,?_,?_,?_,?_⟩
   ·rw[<-h1];simp
   all_goals (try rw[aC])
   all_goals omega
  ·simp only[aC];omega
  all_goals simp
 obtain⟨v1,v2,rfl,hv⟩:∃ v1 v2,v=v1++v2/\v2.length=u.length:=⟨v.take (v.length-u.length),v.drop (v.length-u.length),(dH _ _).symm,by simp;omega⟩;simp only[aC]at h4 h5 hgt huv |-;have hc:=GN F a u v1 v2 c (by simp;omega) hv.symm;rw[show a++u++v1++v2++c=a++u++(v1++v2)++c by simp]at hc;repeat' first|refine cz oD ?_|refine aB ?_|with_reducible refine jk hc (hs _) (sL (by simp;omega) ae ae ae) ?_|refine aA ?_ ?_<;>intro hw<;>try omega|fail
 refine⟨(a,v2,v1,u++c),?_,?_,?_,da,at_⟩<;>(try dsimp only)
 ·refine⟨?_,?_,?_,?_,?_⟩
  ·rw[<-h1];simp
  all_goals (try rw[aC])
  all_goals omega
 ·simp only[aC];omega
 all_goals simp
def pY(F:FuncId)(L:List Row): Prop:= ∀ x ∈ L,∀ y ∈ L,aS aH F [bu x,bu y] (I (iU x y))
def pY.sub{F:FuncId}{L M:List Row}(h:pY F L)(hs:∀ x ∈ M,x ∈ L): pY F M:=fun x hx y hy=>h x (hs x hx) y (hs y hy)
def TP{L:List Row}{x:Row}: x ∈ eW L↔x ∈ L:=(mD L).mem_iff
abbrev CH(F:FuncId): AV:= .fn (.func F) [] []
def aeg{k N N':Nat}{a a' b b':Int}{F:AV}(h0:N=N')(h1:a=a')(h2:b=b'): [AV.own E1 k N 0 N,I a,I b,F]=[AV.own E1 k N' 0 N',I a',I b',F]:=by subst h0;subst h1;subst h2;rfl
def getD_at{L A B:List Row}{x:Row}{i:Nat}(h:L=A++x::B)(hi:i=A.length): L.getD i default=x:=by subst h;subst hi;exact Kj
def TQ{A B L:List Row}{x y:Row}{i j:Nat}(h:L=A++y::x::B)(hj:j=A.length)(hi:i=A.length+1): ((L.set i y).set j x)=A++x::y::B:=by
 subst h;subst hj;subst hi;rw[dY _ _ ae];simp
def aeh: eW []=[]:=rfl
def Vu(s:List Row): s=[]\/ ∃ s' y,s=s'++[y]:=by
 rcases List.eq_nil_or_concat s with h|⟨s',y,h⟩
 ·exact .inl h
 exact .inr ⟨s',y,by simpa using h⟩
def TR{s1 s2:List Row}{x:Row}{S:List Row}(h:s1++s2=S)(hS:mC S)(h1:s1=[]\/ ∃ s y,s1=s++[y]/\¬ iU x y<0)(h2:∀ y ∈ s2,qA x y): s1++x::s2=eW (x::S):=by
 subst h;refine CD (PJ hS (fun z hz=>?_) h2) List.perm_middle;rcases h1 with rfl|⟨s,y,rfl,hy⟩
 ·cases hz
 have hs:=(fX.1 (fX.1 hS).1).2.2;rcases List.mem_append.1 hz with hz|hz
 ·exact pF (hs z hz y aQ) (xA hy)
 obtain rfl:z=y:=by simpa using hz
 exact xA hy
def insertion(F:FuncId)(A X R:List Row)(hF:pY F X)(hl:(A++X++R).length<=2^40): oU 263 [I A.length,I (A.length+X.length:Nat),CH F] (A++X++R) (A++eW X++R):=by
 intro σ k iE;have i_:(A++X++R).length=A.length+X.length+R.length:=by simp;omega
 rw[i_]at hl;obtain⟨T,hT⟩:=cq (A++eW X++R);rw[hT,show ud k (A++X++R)=AV.own E1 k (A.length+X.length+R.length) 0 (A.length+X.length+R.length) by rw[<-i_]];have hs:=fun o=>xB iE o;have oD:∀ o o':aY,(σ.set k o).set k o' = σ.set k o':=fun o o'=>ek _;have yd:=hF;unfold pY at yd;simp only[bu]at yd;refine qU.go ?_;unfold dP;intro Q aJ aK aL;repeat' first|refine aB ?_|refine aA ?_ ?_<;>intro hw<;>try omega|fail
 with_reducible refine bE [8,2,12,41] (fun i:Nat=>[(8,I (A.length+i:Nat))]) (fun i=>σ.set k (kB (A++(eW (X.take i)++X.drop i)++R))) (fun i=>1<=i/\i<=X.length+1) (fun i=>X.length+1-i) 1 ?_ ?_ ?_ ?_
 ·omega
 ·rw [show eW (X.take 1) ++ X.drop 1 = X by
   rw[GM,dH];cases X with
   | nil=>exact .nil
   | cons x r=>exact agF x,pK iE]
 ·exact at_
 rintro i r ⟨h1,h2⟩;by_cases hi:i<X.length
 ·obtain⟨x,hx⟩:=cq (X.getD i default)
  have hdr:X.drop i=x::X.drop (i+1):=by
   rw[dZ hi,<-hx,aq,aG hi];rfl
  have Y_:=N6 hi;rw[hx]at Y_;have hlen:(eW (X.take i)).length=i:=by rw[oN,dW];omega
  have aiJ:=uc (X.take i);have hxm:x ∈ X:=by rw[<-hx];exact bq hi
  have hSm:∀ z ∈ eW (X.take i),z ∈ X:=fun z hz=>List.mem_of_mem_take (TP.1 hz);generalize eW (X.take i)=S at *;rw[hdr];obtain⟨D,hD⟩:=cq (X.drop (i+1));have hDl:D.length=X.length-(i+1):=by rw[<-hD,dJ]
  rw[hD];repeat' first|refine aB ?_|refine aA ?_ ?_<;>intro hw<;>try omega|fail
  with_reducible refine bE [9,1,18,35] (fun q:List Row × List Row=>[(9,I (A.length+q.1.length:Nat))]) (fun q=>σ.set k (kB (A++q.1++x::q.2++D++R))) (fun q=>q.1++q.2=S/\ ∀ y ∈ q.2,qA x y) (fun q=>q.1.length) (S,[]) ?_ ?_ ?_ ?_
  ·exact⟨List.append_nil _,fun y hy=>by cases hy⟩
  ·simp
  ·exact at_
  rintro⟨s1,s2⟩ r' ⟨g1,g2⟩;dsimp only at g1 g2 |-;have hsl:s1.length+s2.length=i:=by rw[<-hlen,<-g1,aC]
  rcases Vu s1 with rfl|⟨s,y,rfl⟩
  ·have hd:=TR g1 aiJ (.inl rfl) g2;repeat' first|refine aB ?_|refine aA ?_ ?_<;>intro hw<;>try omega|fail
   refine⟨i+1,?_,?_,?_,da,at_⟩<;>(try dsimp only)
   ·omega
   ·omega
   rw[Y_,<-hd,hD];exact aW (fun l=>σ.set k (kB l)) aQ
  obtain⟨M,hM⟩:=cq (A++(s++[y])++x::s2++D++R);have GO:M=(A++s)++y::x::(s2++D++R):=by rw[<-hM];simp
  have hml:M.length=A.length+X.length+R.length:=by rw[<-hM];simp at hsl |-;omega
  have qQ:(s++[y]).length=s.length+1:=aQ;rw[hM,qQ];rw[qQ]at hsl;have e1:M.getD (A.length+(s.length+1)) default=x:=getD_at (A:=A++s++[y]) (B:=s2++D++R) (by rw[GO];simp) (by simp only[aC,aO,bt];omega);have e2:M.getD (A.length+s.length) default=y:=getD_at (A:=A++s) GO (by simp only[aC]);have e3:(((A.length+(s.length+1):Nat):Int)-1).toNat=A.length+s.length:=ae;have hsw:=TQ (L:=M) (A:=A++s) (B:=s2++D++R) GO (j:=A.length+s.length) (i:=A.length+(s.length+1)) (by simp only[aC]) (by simp only[aC];omega);have hd:=fun hy=>TR g1 aiJ (.inr ⟨s,y,rfl,hy⟩) g2;have cF:=yd x hxm y (hSm y (by rw[<-g1];simp));repeat' first|simp (disch:=omega) only[go_sem,aJ,aK,aL,hs,oD,hml,Y9,e1,e2,e3,dN,aP,if_false]|refine aB ?_|refine aA ?_ ?_<;>intro hw<;>try omega|fail
  ·refine⟨(s,y::s2),?_,?_,?_,da,at_⟩<;>(try dsimp only)
   ·refine⟨by rw[<-g1];simp,fun z hz=>?_⟩;rcases List.mem_cons.1 hz with rfl|hz
    ·exact Rm hw
    exact g2 z hz
   ·rw[qQ];omega
   rw[hsw];exact aW (fun l=>σ.set k (kB l)) aQ
  refine⟨i+1,?_,?_,?_,da,at_⟩<;>(try dsimp only)
  ·omega
  ·omega
  rw[Y_,<-hd ae,hD,<-hM];exact aW (fun l=>σ.set k (kB l)) aQ
 repeat' first|refine aB ?_|refine aA ?_ ?_<;>intro hw<;>try omega|fail
 refine⟨rfl,?_⟩;rw[<-hT,bG ae,List.drop_eq_nil_of_le ae,bZ]
def SymM(F:FuncId)(n:Nat): Prop:= ∀ A X Y R:List Row,pY F (X++Y)->X.length+Y.length<=n->mC X->mC Y->0<X.length->0<Y.length->(A++X++Y++R).length<=2^40 ->
 oU 264 [I A.length,I (A.length+X.length:Nat),I (A.length+X.length+Y.length:Nat),CH F] (A++X++Y++R) (A++eW (X++Y)++R)
def abv{A B L:List Row}{x y:Row}{i j:Nat}(h:L=A++x::y::B)(hj:j=A.length)(hi:i=A.length+1): ((L.set j y).set i x)=A++y::x::B:=by
 subst h;subst hj;subst hi;rw[dY _ _ (bg _),dY _ _ ae];simp
def D3(a b:Nat): ((a:Int)+b).fdiv (2 ^ (Int.toNat 1).min 64)=((a+b) / 2:Nat):=by
 show((a:Int)+b).fdiv 2=_;rw[Int.fdiv_eq_ediv_of_nonneg _ cW];omega
def abw (F : FuncId) (A : List Row) (x : Row) (Y R : List Row) (hF : pY F (x :: Y)) (hY : mC Y) (hY0 : 0 < Y.length) (hl : (A ++ [x] ++ Y ++ R).length <= 2^40) :
    oU 264 [I A.length,I (A.length+1:Nat),I (A.length+1+Y.length:Nat),CH F] (A++[x]++Y++R) (A++eW (x::Y)++R):=by
 intro σ k iE;have i_:(A++[x]++Y++R).length=A.length+1+Y.length+R.length:=by simp;omega
 rw[i_]at hl;obtain⟨T,hT⟩:=cq (A++eW (x::Y)++R);rw[hT,show ud k (A++[x]++Y++R)=AV.own E1 k (A.length+1+Y.length+R.length) 0 (A.length+1+Y.length+R.length) by rw[<-i_]];have hs:=fun o=>xB iE o;have oD:∀ o o':aY,(σ.set k o).set k o' = σ.set k o':=fun o o'=>ek _;have yd:=hF;unfold pY at yd;simp only[bu]at yd;refine kV.go ?_;unfold dP;intro Q aJ aK aL;repeat' first|refine aB ?_|refine aA ?_ ?_<;>intro hw<;>try omega|fail
 obtain⟨L,hL⟩:=cq (A++[x]++Y++R);rw[hL]at iE i_;have gx:L.getD A.length default=x:=getD_at (A:=A) (B:=Y++R) (by rw[<-hL];simp) rfl
 have gY:∀ t,t<Y.length->L.getD (A.length+1+t) default=Y.getD t default:=fun t ht=>by
  rw[<-hL,aq,aq,aI (by first|(simp;done)|(simp;omega)),bp (by first|(simp;done)|(simp;omega))]
  congr 2
  simp
 with_reducible refine bE [10,3,31,23] (fun q:Nat × Nat=>[(10,I (A.length+1+q.1:Nat)),(11,I (A.length+1+q.2:Nat))]) (fun _=>σ) (fun q=>(q.1<=q.2/\q.2<=Y.length)/\(q.1=0\/qA (Y.getD (q.1-1) default) x)/\(q.2=Y.length\/qA x (Y.getD q.2 default))) (fun q=>q.2-q.1) (0,Y.length) ?_ ?_ ?_ ?_
 ·exact⟨⟨ae,bg _⟩,.inl rfl,.inl rfl⟩
 ·rfl
 ·exact at_
 rintro⟨p,q⟩ r ⟨⟨h1,h2⟩,h3,h4⟩;dsimp only at h1 h2 h3 h4 |-;by_cases hpq:p<q
 ·obtain⟨t,ht⟩:=cq ((p+q) / 2);have hlt:L.length=A.length+1+Y.length+R.length:=i_;have hh:(A.length+1+p+(A.length+1+q)) / 2=A.length+1+t:=ae;have cF:=yd _ (dz x (bq (l:=Y) (i:=t) ae)) x List.mem_cons_self;repeat' first|simp (disch:=omega) only[go_sem,aJ,aK,aL,iE,hlt,D3,hh,gx,gY t ae]|refine aB ?_|refine aA ?_ ?_<;>intro hw<;>try omega|fail
  ·refine⟨(t+1,q),?_,?_,by first|rfl|(simp[go_sem];done),da,at_⟩<;>(try dsimp only)
   ·exact⟨⟨ae,ae⟩,.inr (Rm hw),h4⟩
   omega
  refine⟨(p,t),?_,?_,by first|rfl|(simp[go_sem];done),da,at_⟩<;>(try dsimp only)
  ·exact⟨⟨ae,ae⟩,h3,.inr (xA ae)⟩
  omega
 obtain rfl:p=q:=ae;have qQ:=TN hY ae h3 h4;repeat' first|refine aB ?_|refine aA ?_ ?_<;>intro hw<;>try omega|fail
 with_reducible refine bE [13,1,55,22] (fun t:Nat=>[(13,I (A.length+t:Nat))]) (fun t=>σ.set k (kB (A++(Y.take t++x::Y.drop t)++R))) (fun t=>t<=p) (fun t=>p-t) 0 ?_ ?_ ?_ ?_
 ·omega
 ·rw[show A++(Y.take 0++x::Y.drop 0)++R=L by rw[<-hL];simp,pK iE]
 ·exact at_
 rintro t r' h5;by_cases htp:t<p
 ·obtain⟨M,hM⟩:=cq (A++(Y.take t++x::Y.drop t)++R);have ht:t<Y.length:=ae
  have GO:M=(A++Y.take t)++x::Y[t]::(Y.drop (t+1)++R):=by
   rw[<-hM,dZ ht];simp only[aT,bK]
  have hml:M.length=A.length+1+Y.length+R.length:=by rw[<-hM];simp;omega
  have hal:(A++Y.take t).length=A.length+t:=by rw[aC,dW];omega
  rw[hM];have e1:M.getD (A.length+t) default=x:=getD_at GO hal.symm;have e2:M.getD (A.length+t+1) default=Y[t]:=getD_at (A:=(A++Y.take t)++[x]) (B:=Y.drop (t+1)++R) (by rw[GO];simp only[aT,bK,bS]) (by rw[aC,hal];rfl);have e3:(((A.length+t:Nat):Int)+1).toNat=A.length+t+1:=ae;repeat' first|simp (disch:=omega) only[go_sem,aJ,aK,aL,hs,oD,hml,Y9,e1,e2,e3,dN,aP,if_false]|refine aB ?_|refine aA ?_ ?_<;>intro hw<;>try omega|fail
  refine⟨t+1,?_,?_,?_,da,at_⟩<;>(try dsimp only)
  ·omega
  ·omega
  rw[abv GO hal.symm (by rw[hal])];refine aW (fun l=>σ.set k (kB l)) ?_;rw[jz,aG ht];simp only[aT,bK,Option.toList_some,bS]
 obtain rfl:t=p:=ae;repeat' first|refine aB ?_|refine aA ?_ ?_<;>intro hw<;>try omega|fail
 refine⟨rfl,?_⟩;rw[qQ,hT]
def aei (F : FuncId) (A : List Row) (y : Row) (X R : List Row) (hF : pY F (y :: X)) (hX : mC X) (hX0 : 1 < X.length) (hl : (A ++ X ++ [y] ++ R).length <= 2^40) :
    oU 264 [I A.length,I (A.length+X.length:Nat),I (A.length+X.length+1:Nat),CH F] (A++X++[y]++R) (A++eW (y::X)++R):=by
 intro σ k iE;have i_:(A++X++[y]++R).length=A.length+X.length+1+R.length:=by simp;omega
 rw[i_]at hl;obtain⟨T,hT⟩:=cq (A++eW (y::X)++R);rw[hT,show ud k (A++X++[y]++R)=AV.own E1 k (A.length+X.length+1+R.length) 0 (A.length+X.length+1+R.length) by rw[<-i_]];have hs:=fun o=>xB iE o;have oD:∀ o o':aY,(σ.set k o).set k o' = σ.set k o':=fun o o'=>ek _;have yd:=hF;unfold pY at yd;simp only[bu]at yd;refine kV.go ?_;unfold dP;intro Q aJ aK aL;repeat' first|refine aB ?_|refine aA ?_ ?_<;>intro hw<;>try omega|fail
 obtain⟨L,hL⟩:=cq (A++X++[y]++R);rw[hL]at iE i_;have gy:L.getD (A.length+X.length) default=y:=getD_at (A:=A++X) (B:=R) (by rw[<-hL];simp) aQ
 have gX:∀ t,t<X.length->L.getD (A.length+t) default=X.getD t default:=fun t ht=>by
  rw[<-hL,aq,aq,aT,aT,bp ae,aI ae]
  congr 2
  omega
 with_reducible refine bE [14,3,83,24] (fun q:Nat × Nat=>[(14,I (A.length+q.1:Nat)),(15,I (A.length+q.2:Nat))]) (fun _=>σ) (fun q=>(q.1<=q.2/\q.2<=X.length)/\(q.1=0\/qA (X.getD (q.1-1) default) y)/\(q.2=X.length\/qA y (X.getD q.2 default))) (fun q=>q.2-q.1) (0,X.length) ?_ ?_ ?_ ?_
 ·exact⟨⟨ae,bg _⟩,.inl rfl,.inl rfl⟩
 ·rfl
 ·exact at_
 rintro⟨p,q⟩ r ⟨⟨h1,h2⟩,h3,h4⟩;dsimp only at h1 h2 h3 h4 |-;by_cases hpq:p<q
 ·obtain⟨t,ht⟩:=cq ((p+q) / 2);have hlt:L.length=A.length+X.length+1+R.length:=i_;have hh:(A.length+p+(A.length+q)) / 2=A.length+t:=ae;have cF:=yd y List.mem_cons_self _ (dz y (bq (l:=X) (i:=t) ae));repeat' first|simp (disch:=omega) only[go_sem,aJ,aK,aL,iE,hlt,D3,hh,gy,gX t ae]|refine aB ?_|refine aA ?_ ?_<;>intro hw<;>try omega|fail
  ·refine⟨(t+1,q),?_,?_,by first|rfl|(simp[go_sem];done),da,at_⟩<;>(try dsimp only)
   ·exact⟨⟨ae,ae⟩,.inr (xA (a:=y) (b:=X.getD t default) ae),h4⟩
   omega
  refine⟨(p,t),?_,?_,by first|rfl|(simp[go_sem];done),da,at_⟩<;>(try dsimp only)
  ·exact⟨⟨ae,ae⟩,h3,.inr (Rm (a:=y) (b:=X.getD t default) ae)⟩
  omega
 obtain rfl:p=q:=ae;have qQ:=TN hX ae h3 h4;repeat' first|refine aB ?_|refine aA ?_ ?_<;>intro hw<;>try omega|fail
 with_reducible refine bE [17,1,108,21] (fun t:Nat=>[(17,I (A.length+t:Nat))]) (fun t=>σ.set k (kB (A++(X.take t++y::X.drop t)++R))) (fun t=>p<=t/\t<=X.length) (fun t=>t-p) X.length ?_ ?_ ?_ ?_
 ·omega
 ·rw[show A++(X.take X.length++y::X.drop X.length)++R=L by rw[<-hL];simp,pK iE]
 ·exact at_
 rintro t r' ⟨h5,h6⟩;by_cases htp:p<t
 ·obtain⟨u,rfl⟩:∃ u,t=u+1:=⟨t-1,ae⟩;obtain⟨M,hM⟩:=cq (A++(X.take (u+1)++y::X.drop (u+1))++R);have hu:u<X.length:=ae
  have GO:M=(A++X.take u)++X[u]::y::(X.drop (u+1)++R):=by
   rw[<-hM,jz,aG hu];simp only[aT,bK,Option.toList_some,bS]
  have hml:M.length=A.length+X.length+1+R.length:=by rw[<-hM];simp;omega
  have hal:(A++X.take u).length=A.length+u:=by rw[aC,dW];omega
  rw[hM];have e1:M.getD (A.length+u) default=X[u]:=getD_at GO hal.symm;have e2:M.getD (A.length+(u+1)) default=y:=getD_at (A:=(A++X.take u)++[X[u]]) (B:=X.drop (u+1)++R) (by rw[GO];simp only[aT,bK,bS]) (by rw[aC,hal];rfl);have e3:(((A.length+(u+1):Nat):Int)-1).toNat=A.length+u:=ae;repeat' first|simp (disch:=omega) only[go_sem,aJ,aK,aL,hs,oD,hml,Y9,e1,e2,e3,dN,aP,if_false]|refine aB ?_|refine aA ?_ ?_<;>intro hw<;>try omega|fail
  refine⟨u,?_,?_,?_,da,at_⟩<;>(try dsimp only)
  ·omega
  ·omega
  rw[TQ GO hal.symm (by rw[hal];rfl)];refine aW (fun l=>σ.set k (kB l)) ?_;rw[dZ hu];simp only[aT,bK]
 obtain rfl:t=p:=ae;repeat' first|refine aB ?_|refine aA ?_ ?_<;>intro hw<;>try omega|fail
 refine⟨rfl,?_⟩;rw[qQ,hT]
def W5{x y:List Row}(h:x=[]\/y=[])(hx:mC x)(hy:mC y): eW (x++y)=x++y:=by
 rcases h with rfl|rfl
 ·exact GM hy
 rw[bZ];exact GM hx
def abx (F : FuncId) {n : Nat} (ih : SymM F n) {A X Y R : List Row} (hF : pY F (X ++ Y)) {s w x2 y2 : Nat} (hX : mC X) (hY : mC Y) (lx : X.length = s + x2) (ly : Y.length = w + y2) (hn : X.length + Y.length <= n + 1) (hb : s + w <= n) (iA : x2 + y2 <= n)
    (hl:A.length+(s+x2)+(w+y2)+R.length<=2^40) (h5:s=0\/y2=0\/¬ iU (Y.getD w default) (X.getD (s-1) default)<0) (h6:x2=0\/w=0\/iU (Y.getD (w-1) default) (X.getD s default)<0) :
    ∃ D1 D2 : List Row, D1.length = A.length + (s + x2) + (w + y2) + R.length /\ D2.length = A.length + (s + x2) + (w + y2) + R.length /\
      (¬ (0<x2/\0<w)->A++X++Y++R=D1)/\(¬ (0<s/\0<w)->D1=D2)/\(¬ (0<x2/\0<y2)->D2=A++eW (X++Y)++R) /\
      (0<x2->0<w->oU 285 [I (A.length+s:Nat),I (A.length+s+x2:Nat),I (A.length+s+x2+w:Nat),CH F] (A++X++Y++R) D1) /\
      (0<s->0<w->oU 264 [I A.length,I (A.length+s:Nat),I (A.length+s+w:Nat),CH F] D1 D2) /\
      (0<x2->0<y2->oU 264 [I (A.length+(s+w):Nat),I (A.length+(s+w)+x2:Nat),I (A.length+(s+w)+x2+y2:Nat),CH F] D2 (A++eW (X++Y)++R)):=by
 have hme:=aee hX hY (h:=s+w) (s:=s) ae ae ae (by
  rw[Nat.add_sub_cancel_left];rcases h5 with h5|h5|h5
  ·exact .inl h5
  ·exact .inr (.inl ae)
  ·exact .inr (.inr h5)) (by
  rw[show s+w-1-s=w-1 by omega];rcases h6 with h6|h6|h6
  ·exact .inl ae
  ·exact .inr (.inl ae)
  ·exact .inr (.inr h6))
 clear h5 h6;rw[Nat.add_sub_cancel_left]at hme;have x12:=dH s X;have y12:=dH w Y;have lX1:(X.take s).length=s:=by rw[dW];omega
 have lX2:(X.drop s).length=x2:=by rw[dJ];omega
 have lY1:(Y.take w).length=w:=by rw[dW];omega
 have lY2:(Y.drop w).length=y2:=by rw[dJ];omega
 have sX1:mC (X.take s):=hX.sublist (List.take_sublist _ _);have sX2:mC (X.drop s):=hX.sublist (List.drop_sublist _ _);have sY1:mC (Y.take w):=hY.sublist (List.take_sublist _ _);have sY2:mC (Y.drop w):=hY.sublist (List.drop_sublist _ _)
 have hF1:pY F (X.take s++Y.take w):=hF.sub fun z hz=>by
  rcases List.mem_append.1 hz with hz|hz
  ·exact eL _ (List.mem_of_mem_take hz)
  exact fQ _ (List.mem_of_mem_take hz)
 have hF2:pY F (X.drop s++Y.drop w):=hF.sub fun z hz=>by
  rcases List.mem_append.1 hz with hz|hz
  ·exact eL _ (ju hz)
  exact fQ _ (ju hz)
 clear hF;generalize X.take s=X1 at *;generalize X.drop s=X2 at *;generalize Y.take w=Y1 at *;generalize Y.drop w=Y2 at *;have lS:(eW (X1++Y1)).length=s+w:=by rw[oN,aC,lX1,lY1]
 have hL:A++X++Y++R=(A++X1)++X2++Y1++(Y2++R):=by rw[<-x12,<-y12];simp only[aT]
 have hT:A++eW (X1++Y1)++eW (X2++Y2)++R=A++eW (X++Y)++R:=by rw[<-hme];simp only[aT]
 have lAX:(A++X1).length=A.length+s:=by rw[aC,lX1]
 have lAS:(A++eW (X1++Y1)).length=A.length+(s+w):=by rw[aC,lS]
 rw[hL,<-hT];clear hme x12 y12 hL hT hX hY;refine⟨(A++X1)++Y1++X2++(Y2++R),A++eW (X1++Y1)++(X2++Y2++R),?_,?_,fun hc=>?_,fun hc=>?_,fun hc=>?_,fun h1 h2=>?_,fun h1 h2=>?_,fun h1 h2=>?_⟩
 ·simp only[aC];omega
 ·simp only[aC,lS];omega
 ·by_cases hc1:0<x2
  ·obtain rfl:Y1=[]:=dA.1 ae;simp
  obtain rfl:X2=[]:=dA.1 ae;simp
 ·rw [W5 (x := X1) (y := Y1) (by
   by_cases hc1:0<s
   ·exact .inr (dA.1 ae)
   ·exact .inl (dA.1 ae)) sX1 sY1]
  simp only[aT]
 ·rw [W5 (x := X2) (y := Y2) (by
   by_cases hc1:0<x2
   ·exact .inr (dA.1 ae)
   ·exact .inl (dA.1 ae)) sX2 sY2]
  simp only[aT]
 ·have:=rotate (CH F) (A++X1) X2 Y1 (Y2++R) (by simp only[aC];omega) ae ae;rwa[lAX,lX2,lY1]at this
 ·have:=ih A X1 Y1 (X2++Y2++R) hF1 ae sX1 sY1 ae ae (by simp only[aC];omega);rw[lX1,lY1]at this;rwa[show A++X1++Y1++(X2++Y2++R)=A++X1++Y1++X2++(Y2++R) by simp only[aT]]at this
 have:=ih (A++eW (X1++Y1)) X2 Y2 R hF2 ae sX2 sY2 ae ae (by simp only[aC,lS];omega);rw[lAS,lX2,lY2]at this;rwa[show A++eW (X1++Y1)++X2++Y2++R=A++eW (X1++Y1)++(X2++Y2++R) by simp only[aT]]at this
def aej (F : FuncId) (n : Nat) (ih : SymM F n) (A X Y R : List Row) (hF : pY F (X ++ Y)) (hn : X.length + Y.length <= n + 1) (hX : mC X) (hY : mC Y) (hX1 : 1 < X.length) (hY1 : 1 < Y.length) (hl : (A ++ X ++ Y ++ R).length <= 2^40) :
    oU 264 [I A.length,I (A.length+X.length:Nat),I (A.length+X.length+Y.length:Nat),CH F] (A++X++Y++R) (A++eW (X++Y)++R):=by
 intro σ k iE;have i_:(A++X++Y++R).length=A.length+X.length+Y.length+R.length:=by simp only[aC]
 rw[i_]at hl;obtain⟨T,hT⟩:=cq (A++eW (X++Y)++R);rw[hT,show ud k (A++X++Y++R)=AV.own E1 k (A.length+X.length+Y.length+R.length) 0 (A.length+X.length+Y.length+R.length) by rw[<-i_]];have hs:=fun o=>xB iE o;have oD:∀ o o':aY,(σ.set k o).set k o' = σ.set k o':=fun o o'=>ek _;have yd:=hF;unfold pY at yd;simp only[bu]at yd;obtain⟨L,hL⟩:=cq (A++X++Y++R);rw[hL]at iE i_;obtain⟨h,hh⟩:=cq ((X.length+Y.length) / 2);have aiK:(A.length+(A.length+X.length+Y.length)) / 2=A.length+h:=ae
 have gX:∀ t,t<X.length->L.getD (A.length+t) default=X.getD t default:=fun t ht=>by
  rw[<-hL,aq,aq,aT,aT,bp ae,aI ae]
  congr 2
  omega
 have gY:∀ t,t<Y.length->L.getD (A.length+X.length+t) default=Y.getD t default:=fun t ht=>by
  rw[<-hL,aq,aq,aT,bp (by rw[aC];omega),aI (by rw[aC];omega)]
  congr 2
  rw[aC];omega
 refine kV.go ?_;unfold dP;intro Q aJ aK aL;rcases Nat.lt_or_ge h X.length with hm|hm
 all_goals
  repeat' first|simp (disch:=omega) only[go_sem,aJ,aK,aL,D3,aiK]|refine aB ?_|refine aA ?_ ?_<;>intro hw<;>try omega|fail
  with_reducible refine bE [20,2,23,1,149,26] (fun q:Nat × Nat=>[(20,I (A.length+q.1:Nat)),(21,I (A.length+q.2:Nat))]) (fun _=>σ.set k (kB L)) (fun q=>(h-Y.length<=q.1/\q.1<=q.2/\q.2<=X.length/\q.2<=h)/\(q.1=h-Y.length\/¬ iU (Y.getD (h-q.1) default) (X.getD (q.1-1) default)<0)/\(q.2=X.length\/q.2=h\/iU (Y.getD (h-1-q.2) default) (X.getD q.2 default)<0)) (fun q=>q.2-q.1) (h-Y.length,min X.length h) ?_ ?_ ?_ ?_
  ·refine⟨⟨ae,ae,ae,ae⟩,.inl rfl,?_⟩;dsimp only;omega
  ·exact(pK iE).symm
  ·exact at_
  rintro⟨s,u⟩ r ⟨⟨h1,h2,h3,h4⟩,h5,h6⟩;dsimp only at h1 h2 h3 h4 h5 h6 |-;by_cases hsu:s<u
  ·obtain⟨t,ht⟩:=cq ((s+u) / 2);have hlt:L.length=A.length+X.length+Y.length+R.length:=i_;have hc:(A.length+s+(A.length+u)) / 2=A.length+t:=ae;have e1:(((A.length+h:Nat):Int)+(A.length+X.length:Nat)-1-(A.length+t:Nat)).toNat=A.length+X.length+(h-1-t):=ae;have cF:=yd _ (fQ X (bq (l:=Y) (i:=h-1-t) ae)) _ (eL Y (bq (l:=X) (i:=t) ae));repeat' first|simp (disch:=omega) only[go_sem,aJ,aK,aL,hs,hlt,D3,hc,e1,gX t ae,gY (h-1-t) ae]|refine aB ?_|refine aA ?_ ?_<;>intro hw<;>try omega|fail
   ·refine⟨(t+1,u),?_,?_,by first|rfl|(simp[go_sem];done),da,at_⟩<;>(try dsimp only)
    ·refine⟨⟨ae,ae,ae,ae⟩,.inr ?_,h6⟩;show ¬ iU (Y.getD (h-(t+1)) default) (X.getD t default)<0;rw[show h-(t+1)=h-1-t by omega];omega
    omega
   refine⟨(s,t),?_,?_,by first|rfl|(simp[go_sem];done),da,at_⟩<;>(try dsimp only)
   ·exact⟨⟨ae,ae,ae,ae⟩,h5,.inr (.inr hw)⟩
   omega
  obtain rfl:s=u:=ae;obtain⟨w,hw⟩:∃ w,h=s+w:=⟨h-s,ae⟩;obtain⟨x2,mJ⟩:∃ x2,X.length=s+x2:=⟨X.length-s,ae⟩;obtain⟨y2,Wm⟩:∃ y2,Y.length=w+y2:=⟨Y.length-w,ae⟩;have b1:s+w<=n:=by clear h5 h6;omega
  have b2:x2+y2<=n:=by clear h5 h6;omega
  have IK:s=0\/y2=0\/¬ iU (Y.getD w default) (X.getD (s-1) default)<0:=by
   clear h6;rcases h5 with h5|h5
   ·by_cases h0:s=0
    ·exact .inl h0
    exact .inr (.inl ae)
   rw[hw,Nat.add_sub_cancel_left]at h5;exact .inr (.inr h5)
  have h6':x2=0\/w=0\/iU (Y.getD (w-1) default) (X.getD s default)<0:=by
   clear h5 IK;rcases h6 with h6|h6|h6
   ·exact .inl ae
   ·exact .inr (.inl ae)
   rw[hw,show s+w-1-s=w-1 by omega]at h6;exact .inr (.inr h6)
  clear h5 h6;rw[mJ,Wm]at i_ hl;obtain⟨D1,D2,ld1,ld2,q01,W6,CJ,p01,W7,CK⟩:=abx F ih (A:=A) (R:=R) hF hX hY mJ Wm hn b1 b2 hl IK h6';clear IK h6' b1 b2 hn gX gY yd;rw[hL]at q01 p01;rw[hT]at CJ CK;rw[mJ,Wm,hw];clear hh aiK hm h1 h2 h3 h4 hsu hX1 hY1 hL hX hY hT mJ Wm hw ih hF iE;by_cases c1:0<x2/\0<w
  ·have pa:=p01 c1.1 c1.2;clear p01 q01;by_cases c2:0<s/\0<w
   ·have pb:=W7 c2.1 c2.2;clear W7 W6;by_cases c3:0<x2/\0<y2
    ·have pc:=CK c3.1 c3.2;clear CK CJ;repeat' first|refine cz oD ?_|refine aB ?_|with_reducible refine jk pa (hs _) (sL ae ae ae ae) ?_|with_reducible refine jk pb (hs _) (sL ae ae ae ae) ?_|with_reducible refine jk pc (hs _) (sL ae ae ae ae) ?_|refine aA ?_ ?_<;>intro hw<;>try omega|fail
     all_goals first|exact⟨rfl,trivial⟩|exact⟨rfl,rfl⟩
    have e:=CJ c3;clear CK CJ;subst e;repeat' first|refine cz oD ?_|refine aB ?_|with_reducible refine jk pa (hs _) (sL ae ae ae ae) ?_|with_reducible refine jk pb (hs _) (sL ae ae ae ae) ?_|refine aA ?_ ?_<;>intro hw<;>try omega|fail
    all_goals first|exact⟨rfl,trivial⟩|exact⟨rfl,rfl⟩
   have e:=W6 c2;clear W7 W6;subst e;by_cases c3:0<x2/\0<y2
   ·have pc:=CK c3.1 c3.2;clear CK CJ;repeat' first|refine cz oD ?_|refine aB ?_|with_reducible refine jk pa (hs _) (sL ae ae ae ae) ?_|with_reducible refine jk pc (hs _) (sL ae ae ae ae) ?_|refine aA ?_ ?_<;>intro hw<;>try omega|fail
    all_goals first|exact⟨rfl,trivial⟩|exact⟨rfl,rfl⟩
   have e:=CJ c3;clear CK CJ;subst e;repeat' first|refine cz oD ?_|refine aB ?_|with_reducible refine jk pa (hs _) (sL ae ae ae ae) ?_|refine aA ?_ ?_<;>intro hw<;>try omega|fail
   all_goals first|exact⟨rfl,trivial⟩|exact⟨rfl,rfl⟩
  have e:=q01 c1;clear p01 q01;subst e;by_cases c2:0<s/\0<w
  ·have pb:=W7 c2.1 c2.2;clear W7 W6;by_cases c3:0<x2/\0<y2
   ·have pc:=CK c3.1 c3.2;clear CK CJ;repeat' first|refine cz oD ?_|refine aB ?_|with_reducible refine jk pb (hs _) (sL ae ae ae ae) ?_|with_reducible refine jk pc (hs _) (sL ae ae ae ae) ?_|refine aA ?_ ?_<;>intro hw<;>try omega|fail
    all_goals first|exact⟨rfl,trivial⟩|exact⟨rfl,rfl⟩
   have e:=CJ c3;clear CK CJ;subst e;repeat' first|refine cz oD ?_|refine aB ?_|with_reducible refine jk pb (hs _) (sL ae ae ae ae) ?_|refine aA ?_ ?_<;>intro hw<;>try omega|fail
   all_goals first|exact⟨rfl,trivial⟩|exact⟨rfl,rfl⟩
  have e:=W6 c2;clear W7 W6;subst e;by_cases c3:0<x2/\0<y2
  ·have pc:=CK c3.1 c3.2;clear CK CJ;repeat' first|refine cz oD ?_|refine aB ?_|with_reducible refine jk pc (hs _) (sL ae ae ae ae) ?_|refine aA ?_ ?_<;>intro hw<;>try omega|fail
   all_goals first|exact⟨rfl,trivial⟩|exact⟨rfl,rfl⟩
  have e:=CJ c3;clear CK CJ;subst e;repeat' first|refine cz oD ?_|refine aB ?_|refine aA ?_ ?_<;>intro hw<;>try omega|fail
  all_goals first|exact⟨rfl,trivial⟩|exact⟨rfl,rfl⟩
def aek(F:FuncId): ∀ n,SymM F n:=by
 intro n
 induction n with
 | zero=>intro A X Y R _ hn _ _ hX _;omega
 | succ n ih =>
   intro A X Y R hF hn hX hY hX0 hY0 hl;by_cases h1:X.length=1
   ·obtain⟨x,rfl⟩:=List.length_eq_one_iff.1 h1;exact abw F A x Y R hF hY hY0 hl
   by_cases h2:Y.length=1
   ·obtain⟨y,rfl⟩:=List.length_eq_one_iff.1 h2;rw[DZ (List.perm_append_comm:(X++[y]).Perm ([y]++X))];exact aei F A y X R (hF.sub fun z hz=>by simpa[or_comm]using hz) hX ae hl
   exact aej F n ih A X Y R hF hn hX hY ae ae hl
def TT(F:FuncId)(L:List Row)(hF:pY F L)(hl:L.length<20): oU 236 [I L.length,CH F] L (eW L):=by
 intro σ k iE;have hs:=fun o=>xB iE o;have oD:∀ o o':aY,(σ.set k o).set k o' = σ.set k o':=fun o o'=>ek _;have h1:=insertion F [] L [] hF (by simp;omega);simp only[bS,bZ]at h1;obtain⟨T,hT⟩:=cq (eW L);rw[hT]at h1 |-;refine ow.go ?_;unfold dP;intro Q aJ aK aL;repeat' first|refine aB ?_|refine aA ?_ ?_<;>intro hw<;>try omega|fail
 with_reducible refine bE [7,2,11,12] (fun q:Nat=>[(7,I 0),(8,I 20)]) (fun q=>σ) (fun q=>True) (fun q=>q) 0 ?_ ?_ ?_ ?_
 ·trivial
 ·rfl
 ·exact at_
 rintro q r -;repeat' first|refine cz oD ?_|refine aB ?_|with_reducible refine jk h1 iE (aeg rfl aQ aQ) ?_|refine aA ?_ ?_<;>intro hw<;>try omega|fail
 with_reducible refine bE [6,4,28,35] (fun q:Nat=>[(6,I 20)]) (fun q=>σ.set k (kB T)) (fun q=>True) (fun q=>q) 0 ?_ ?_ ?_ ?_
 ·trivial
 ·rfl
 ·exact at_
 rintro q' r' -;repeat' first|refine aB ?_|refine aA ?_ ?_<;>intro hw<;>try omega|fail
 exact⟨rfl,trivial⟩
def TV(F:FuncId)(X Y:List Row)(hF:pY F (X++Y))(hX:X.length=20)(hY:Y.length<20): oU 236 [I (20+Y.length:Nat),CH F] (X++Y) (eW (X++Y)):=by
 intro σ k iE;have hs:=fun o=>xB iE o;have oD:∀ o o':aY,(σ.set k o).set k o' = σ.set k o':=fun o o'=>ek _;have h1:=insertion F [] X Y (hF.sub fun z hz=>eL _ hz) (by simp;omega);have h2:=insertion F (eW X) Y [] (hF.sub fun z hz=>fQ _ hz) (by simp[oN];omega);have h3:=fun(hy:0<Y.length)=>aek F (20+Y.length) [] (eW X) (eW Y) [] (hF.sub fun z hz=>by simpa[TP]using hz) (by simp[oN];omega) (uc _) (uc _) (by rw[oN];omega) (by rw[oN];exact hy) (by simp[oN];omega);simp only[bS,bZ]at h1 h2 h3;rw[DZ ((mD X).append (mD Y))]at h3
 have hy0:¬ 0<Y.length->eW X++eW Y=eW (X++Y):=fun h=>by
  obtain rfl:Y=[]:=dA.1 ae;simp[aeh]
 obtain⟨T,hT⟩:=cq (eW (X++Y));rw[hT]at h3 hy0 |-;have lX:(eW X).length=20:=by rw[oN];exact hX
 have lY:(eW Y).length=Y.length:=oN Y;have lL:(X++Y).length=20+Y.length:=by simp;omega
 rw[show ud k (X++Y)=AV.own E1 k (20+Y.length) 0 (20+Y.length) by rw[<-lL]];generalize eW X=SX at *;generalize eW Y=SY at *;refine ow.go ?_;unfold dP;intro Q aJ aK aL;repeat' first|refine aB ?_|refine aA ?_ ?_<;>intro hw<;>try omega|fail
 with_reducible refine bE [7,2,11,12] (fun q:Nat=>[(7,I (20*q:Nat)),(8,I (20*q+20:Nat))]) (fun q=>σ.set k (kB (if q=0 then X++Y else SX++Y))) (fun q=>q<=1) (fun q=>1-q) 0 ?_ ?_ ?_ ?_
 ·omega
 ·rw[au rfl,pK iE]
 ·exact at_
 rintro q r hq;rcases(show q=0\/q=1 by omega)with rfl|rfl
 ·rw[au rfl];repeat' first|refine cz oD ?_|refine aB ?_|with_reducible refine jk h1 (hs _) (aeg (by simp;omega) aQ (by simp;omega)) ?_|refine aA ?_ ?_<;>intro hw<;>try omega|fail
  refine⟨1,?_,?_,?_,da,at_⟩<;>(try dsimp only)
  ·omega
  ·omega
  rw[aj cW]
 rw[aj cW];repeat' first|refine cz oD ?_|refine aB ?_|with_reducible refine jk h2 (hs _) (aeg (by simp;omega) ae ae) ?_|refine aA ?_ ?_<;>intro hw<;>try omega|fail
 by_cases hy:0<Y.length
 ·have h3:=h3 hy;with_reducible refine bE [6,4,28,35] (fun q:Nat=>[(6,I (20*(q+1):Nat))]) (fun q=>σ.set k (kB (if q=0 then SX++SY else T))) (fun q=>q<=1) (fun q=>1-q) 0 ?_ ?_ ?_ ?_
  ·omega
  ·rfl
  ·exact at_
  rintro q r hq;rcases(show q=0\/q=1 by omega)with rfl|rfl
  ·rw[au rfl];repeat' first|refine aB ?_|refine aA ?_ ?_<;>intro hw<;>try omega|fail
   with_reducible refine bE [7,2,33,16] (fun q:Nat=>[(7,I 0),(8,I 40)]) (fun q=>σ.set k (kB (SX++SY))) (fun q=>True) (fun q=>q) 0 ?_ ?_ ?_ ?_
   ·trivial
   ·rfl
   ·exact at_
   rintro q' r' -;repeat' first|refine cz oD ?_|refine aB ?_|with_reducible refine jk h3 (hs _) (sL (by simp;omega) aQ (by simp;omega) (by simp;omega)) ?_|refine aA ?_ ?_<;>intro hw<;>try omega|fail
   refine⟨1,?_,?_,?_,da,at_⟩<;>(try dsimp only)
   ·omega
   ·omega
   rw[aj cW]
  rw[aj cW];repeat' first|refine aB ?_|refine aA ?_ ?_<;>intro hw<;>try omega|fail
  exact⟨rfl,trivial⟩
 with_reducible refine bE [6,4,28,35] (fun q:Nat=>[(6,I 20)]) (fun q=>σ.set k (kB (SX++SY))) (fun q=>True) (fun q=>q) 0 ?_ ?_ ?_ ?_
 ·trivial
 ·rfl
 ·exact at_
 rintro q r -;repeat' first|refine aB ?_|refine aA ?_ ?_<;>intro hw<;>try omega|fail
 exact⟨rfl,by rw[hy0 hy]⟩
def aiL(F:FuncId)(L:List Row)(hF:pY F L)(hl:L.length<40): oU 236 [I L.length,CH F] L (eW L):=by
 by_cases h:L.length<20
 ·exact TT F L hF h
 have:=TV F (L.take 20) (L.drop 20) (by rw[dH];exact hF) (by rw[dW];omega) (by rw[dJ];omega);rwa[dH,show 20+(L.drop 20).length=L.length by rw[dJ];omega]at this
def Za(F:FuncId)(L:List Row)(hF:pY F L)(hl:L.length<40): oU 191 [CH F] L (eW L):=by
 intro σ k iE;have h:=aiL F L hF hl;obtain⟨T,hT⟩:=cq (eW L);rw[hT]at h |-;refine uB.go ?_;unfold dP;intro Q aJ aK aL;repeat' first|refine aB ?_|with_reducible refine jk h iE rfl ?_|refine aA ?_ ?_<;>intro hw<;>try omega|fail
 exact⟨rfl,trivial⟩
