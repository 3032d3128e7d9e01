/- Part. -/
import Derived.Test.YtcjcnfcedihckaaGreatDoorW30
set_option linter.all false
set_option maxHeartbeats 4000000
namespace Go.Proofs.YtcjcnfcedihckaaGreatDoor
open Go.AM
set_option maxRecDepth 4000
def Np(l:List eu): aI × Int:=if l.all bT then(rA l,0)else ([],2)
def U5{l:List eu}{i:Nat}(hi:i<l.length)(x:aI): x++(l.take (i+1)).flatMap lu=(x++(l.take i).flatMap lu)++lu (l.getD i default):=by
 rw[take_succ hi,List.flatMap_append];simp
def U6(l:List eu)(hl:y9 l): aP aK 123 [dy l] (.bO [.str (Np l).1,I (Np l).2]):=by
 obtain⟨wG,uQ⟩:=hl;have h1:=mO l.length ⟨by omega,by omega⟩;have h2:=ji l.length;obtain⟨E,hE⟩:∃ E,Np l=E:=⟨_,rfl⟩;rw[hE];unfold Np rA at hE;generalize iZ l.length=x at *;simp only[dy];refine aR Mg ?_;intro Q aF aG aH;repeat' first|refine aE ?_|refine aD ?_ ?_<;>intro hw<;>try omega|fail
 with_reducible refine bZ [2,3,4,6,7,8,14,15,16,17,18,19,20,21,22,23,24,25,26,27,28,29] (fun q:Nat × List aY=>[(14,I q.1),(4,.str (x++(l.take q.1).flatMap lu))]) (fun q=>q.2) (fun q=>q.1<=l.length/\(∀ k,k<q.1->bT (l.getD k default)=true)/\x.length+((l.take q.1).flatMap lu).length<=10+q.1*2147483648) (fun q=>l.length-q.1) ((0,[])) ?_ ?_ ?_ ?_
 ·simp;omega
 ·rfl
 ·simp only[List.take_zero,fq,bS];simp (disch:=omega) only[jY,jb,and_true,go_sem,aF,aG,aH,Int.natCast_add,Int.cast_ofNat_Int]<;>(try trivial)<;>(try omega)<;>(try (repeat (first|trivial|(refine And.intro ?_ ?_)|(congr 1;omega))))
 rintro⟨i,τ⟩ r ⟨g1,g2,g3⟩;dsimp only at g1 g2 g3;by_cases hi:i<l.length
 ·have hv:=uQ _ (bJ hi);have hne:=fun h=>Am (p:=bT) hi h;have cZ:=fun he=>bI (q:=fun k=>bT (l.getD k default)=true) g2 (i:=i) he;have jT:=U5 hi x;obtain⟨v,qd⟩:∃ v,l.getD i default=v:=⟨_,rfl⟩;rw[qd]at hv hne cZ jT;have h3:=O8 v.kind v.n v.s hv.1 (by omega);have MC:=GZ v;have ev:wX ⟨v.kind,v.n,v.s⟩=wX v:=rfl;rw[ev]at h3;unfold wX at h3;obtain⟨y,hy⟩:∃ y,x++(l.take i).flatMap lu=y:=⟨_,rfl⟩;have TF:y.length=x.length+((l.take i).flatMap lu).length:=by rw[<-hy,aA]
  have hsl:=congrArg List.length jT;rw[hy]at jT;simp only[aA]at hsl;have afl:((y.length+(lu v).length:Nat):Int)<=IntKind.i64.max:=by show _<=(9223372036854775807:Int);omega
  generalize bT v=b at *;cases b
  ·simp only[aB,if_false]at h3;rw[hne rfl]at hE;simp only[aB,if_false]at hE;repeat' first|simp (disch:=omega) only[go_sem,aF,aG,aH,qd,hy]|refine aE ?_|refine aD ?_ ?_<;>intro hw<;>try omega|fail
   all_goals first|exact bN|(exact b_ (by rw[<-hE]) rfl)
  ·simp only[if_true]at h3;repeat' first|simp (disch:=omega) only[go_sem,aF,aG,aH,qd,hy]|refine aE ?_|refine aD ?_ ?_<;>intro hw<;>try omega|fail
   all_goals first
    | exact bN
    | (refine ⟨(i + 1, τ ++ [aY.cells [I v.kind, I v.n, .str v.s]]), ?_, ?_, ?_, dH, ?_⟩
       ·refine⟨by dsimp only;omega,cZ rfl,?_⟩;dsimp only;omega
       ·dsimp only;omega
       ·first|rfl|(simp[go_sem];done)
       ·dsimp only;rw[jT];simp (disch:=omega) only[jY,jb,and_true,go_sem,aF,aG,aH,Int.natCast_add,Int.cast_ofNat_Int]<;>(try trivial)<;>(try omega)<;>(try (repeat (first|trivial|(refine And.intro ?_ ?_)|(congr 1;omega)))))
 ·have ht:l.take i=l:=bw (by omega);rw[Al (fun k hk=>g2 k (by omega)),if_pos rfl]at hE;repeat' first|simp (disch:=omega) only[go_sem,aF,aG,aH,ht]|refine aE ?_|refine aD ?_ ?_<;>intro hw<;>try omega|fail
  exact b_ (by rw[<-hE]) rfl
def ZW(l:List eu)(hl:y9 l): aP aK 51 [dy l] (.bool (l.all bT)):=by
 obtain⟨wG,uQ⟩:=hl;obtain⟨E,hE⟩:∃ E,l.all bT=E:=⟨_,rfl⟩;rw[hE];simp only[dy];refine aR DA ?_;intro Q aF aG aH;repeat' first|refine aE ?_|refine aD ?_ ?_<;>intro hw<;>try omega|fail
 with_reducible refine bZ [2,3,4,5,6,7,8,9,10,11,12,13,14,15] (fun q:Nat=>[(3,I q)]) (fun _=>[]) (fun q=>q<=l.length/\ ∀ k,k<q->bT (l.getD k default)=true) (fun q=>l.length-q) (0) ?_ ?_ ?_ ?_
 ·simp
 ·rfl
 ·exact at_
 rintro i r ⟨g1,g2⟩;by_cases hi:i<l.length
 ·have hv:=uQ _ (bJ hi);have hne:=fun h=>Am (p:=bT) hi h;have cZ:=fun he=>bI (q:=fun k=>bT (l.getD k default)=true) g2 (i:=i) he;obtain⟨v,qd⟩:∃ v,l.getD i default=v:=⟨_,rfl⟩;rw[qd]at hv hne cZ;have h3:=DY v.kind v.n v.s (by omega);have ev:bT ⟨v.kind,v.n,v.s⟩=bT v:=rfl;rw[ev]at h3;generalize bT v=b at *;repeat' first|simp (disch:=omega) only[go_sem,aF,aG,aH,qd]|refine aE ?_|refine aD ?_ ?_<;>intro hw<;>try omega|fail
  all_goals first
   | exact bN
   |(exact aU (by rw[<-hE,hne (by simp_all)]) rfl)
   | (refine ⟨i + 1, ?_, ?_, by first | rfl | (simp [go_sem]; done), dH, at_⟩ <;> (try dsimp only)
      ·exact⟨by omega,cZ (by simp_all)⟩
      ·omega)
 ·repeat' first|refine aE ?_|refine aD ?_ ?_<;>intro hw<;>try omega|fail
  exact aU (by rw[<-hE,Al (fun k hk=>g2 k (by omega))]) rfl
def U7(l:List eu): aP aK 18 [dy l] (.bool (decide (l.length<=12) && l.all pD)):=by
 obtain⟨E,hE⟩:∃ E,(decide (l.length<=12) && l.all pD)=E:=⟨_,rfl⟩;rw[hE];simp only[dy];refine aR EL ?_;intro Q aF aG aH;repeat' first|refine aE ?_|refine aD ?_ ?_<;>intro hw<;>try omega|fail
 ·exact aU (by rw[<-hE,decide_eq_false (by omega),gE]) rfl
 have h12:l.length<=12:=by omega
 rw[decide_eq_true h12,dZ]at hE;with_reducible refine bZ [2,3,7,8,9,10,11,12,13,14,15,16,17,18,19] (fun q:Nat=>[(3,I q)]) (fun _=>[]) (fun q=>q<=l.length/\ ∀ k,k<q->pD (l.getD k default)=true) (fun q=>l.length-q) (0) ?_ ?_ ?_ ?_
 ·simp
 ·rfl
 ·exact at_
 rintro i r ⟨g1,g2⟩;by_cases hi:i<l.length
 ·have hne:=fun h=>Am (p:=pD) hi h;have cZ:=fun he=>bI (q:=fun k=>pD (l.getD k default)=true) g2 (i:=i) he;obtain⟨v,qd⟩:∃ v,l.getD i default=v:=⟨_,rfl⟩;rw[qd]at hne cZ;have hS:pD v=decide (v.s.length<=300):=rfl;rw[hS]at hne cZ;repeat' first|simp (disch:=omega) only[go_sem,aF,aG,aH,qd]|refine aE ?_|refine aD ?_ ?_<;>intro hw<;>try omega|fail
  all_goals first
   | exact bN
   |(exact aU (by rw[<-hE,hne (decide_eq_false (by omega))]) rfl)
   | (refine ⟨i + 1, ?_, ?_, by first | rfl | (simp [go_sem]; done), dH, at_⟩ <;> (try dsimp only)
      ·exact⟨by omega,cZ (decide_eq_true (by omega))⟩
      ·omega)
 ·repeat' first|refine aE ?_|refine aD ?_ ?_<;>intro hw<;>try omega|fail
  exact aU (by rw[<-hE,Al (fun k hk=>g2 k (by omega))]) rfl
def IC{α : Type}[Inhabited α](f : α->aI){l:List α}{i:Nat}(hi:i<l.length)(x:aI): x++(l.take (i+1)).flatMap f=(x++(l.take i).flatMap f)++f (l.getD i default):=by
 rw[take_succ hi,List.flatMap_append];simp
def CH(c:cR): Prop:=c.name.length<=2 ^ 30/\iE c.kind/\c.order.length<=8/\ ∀ v ∈ c.order,bT v=true/\iE v.n
def IE(l:List aI): Prop:=l.length<=6/\ ∀ s ∈ l,s.length<=2 ^ 30
def abU(t:Table): Prop:=t.name.length<=2 ^ 30/\iE t.aM/\iE t.agg/\(t.ins.length<=6/\ ∀ c ∈ t.ins,CH c)/\(t.outs.length<=6/\ ∀ c ∈ t.outs,CH c)/\t.rules.length<=24/\ ∀ r ∈ t.rules,IE r.cells/\IE r.outs
def U8{c:cR}(h:CH c): y9 c.order/\c.order.all bT=true:=by
 refine⟨⟨by have:=h.2.2.1;omega,fun v hv=>⟨(h.2.2.2 v hv).2,by have:=Nl (h.2.2.2 v hv).1;omega⟩⟩,aW.2 fun v hv=>(h.2.2.2 v hv).1⟩
def abV{t:Table}(ok:jQ t)(h:(ff t).2.2.2=0): abU t:=by
 obtain⟨h5,_,_⟩:=qN h;obtain⟨hf,hl,_⟩:=pX h5
 have hn:eV t.name=true:=by
  unfold ic at hf;split at hf
  ·omega
  ·rename_i hh;simpa using hh
 obtain⟨p1,p2,p3,p4⟩:jt t.ins false=0/\jt t.outs (decide (t.aM=3))=0/\jd t=true/\t.rules.length<=24:=by
  unfold ic at hf;rw[hn,if_neg (by simp)]at hf;split at hf
  ·contradiction
  split at hf
  ·contradiction
  split at hf
  ·cases hf
  split at hf
  ·cases hf
  ·rename_i a b c d;exact⟨by simpa using a,by simpa using b,by simpa using c,by omega⟩
 obtain⟨i1,i2,i3⟩:=Nk p1;obtain⟨o1,o2,o3⟩:=Nk p2;have pp:=O5 p3;have hi:=Kc i1;have ho:=Kc o1
 have hc:∀ (b:Bool) (c:cR),(eV c.name=true/\1<=c.kind/\c.kind<=3)->iG c b=true->sU c->CH c:=fun b c q1 q2 q3=>by
  have w1:=Nj q1.1;have w2:=Sn q2 q3;exact⟨by omega,⟨by omega,by omega⟩,w2.2⟩
 refine⟨by have:=Nj hn;omega,⟨by omega,by omega⟩,⟨by omega,by omega⟩,⟨hi.1,fun c hm=>hc false c (hi.2 c hm) (i3 c hm) (ok.2.1.2 c hm)⟩,⟨ho.1,fun c hm=>hc _ c (ho.2 c hm) (o3 c hm) (ok.2.2.1.2 c hm)⟩,p4,fun r hr=>?_⟩;obtain⟨j,hj,rfl⟩:=bC hr;have e:t.rules[j]=t.rules.getD j default:=by rw[aj,aL hj];rfl
 have hz:=hl j hj;unfold jm at hz;rw[<-e]at hz;obtain⟨z1,z2,_⟩:=GX hz;have ro:=ok.2.2.2.2 _ hr;exact⟨⟨by have:=hi.1;omega,ro.1.2⟩,⟨by have:=ho.1;omega,ro.2.2⟩⟩
def x5(s:aI): (gG s).length<=10+s.length:=by unfold gG;have:=ji s.length;rw[List.length_append];omega
def XA{l:List eu}(hl:l.length<=8)(h:∀ v ∈ l,bT v=true): (rA l).length<=1000:=by
 have h1:=ji l.length
 have h2:(l.flatMap lu).length<=70*l.length:=by
  clear h1 hl
  induction l with
  | nil=>simp
  | cons v l ih =>
    have a1:=GZ v;have a2:=Nl (h v (by simp));have a3:=ih (fun w hw=>h w (by simp[hw]));rw[da,aA,List.length_cons];omega
 unfold rA;rw[List.length_append];omega
def Ke(o:Bool){c:cR}(h:CH c): (qX o c).length<=1073750000:=by
 have h1:=x5 c.name;have h2:=ji c.kind;have h3:=XA h.2.2.1 (fun v hv=>(h.2.2.2 v hv).1);have h4:=h.1;unfold qX;simp only[aA];cases o
 ·simp;omega
 ·simp;omega
def U9{α : Type}{f : α->aI}{b:Nat}: ∀ {l:List α},(∀ x ∈ l,(f x).length<=b)->(l.flatMap f).length<=l.length*b:=by
 intro l
 induction l with
 | nil=>intro _;simp
 | cons x l ih =>
   intro h;have a1:=h x (by simp);have a2:=ih (fun y hy=>h y (by simp[hy]));rw[da,aA,List.length_cons,bz];omega
def Kf(o:Bool){l:List cR}(hl:l.length<=6)(h:∀ c ∈ l,CH c): (lH o l).length<=6442500010:=by
 have h1:=ji l.length;have h2:=U9 (f:=qX o) (fun c hc=>Ke o (h c hc));unfold lH;rw[List.length_append];omega
def x6{l:List aI}(h:IE l): (l.flatMap gG).length<=6442451004:=by
 have h2:=U9 (f:=gG) (l:=l) (b:=1073741834) (fun s hs=>by have:=x5 s;have:=h.2 s hs;omega);have:=h.1;omega
def IG(c:cR): aP aK 78 [bq c] (.str []):=by
 refine aR DE ?_;intro Q aF aG aH;repeat' first|refine aE ?_|refine aD ?_ ?_<;>intro hw<;>try omega|fail
 exact aU rfl rfl
def Nq(c:cR)(h:CH c): aP aK 79 [bq c] (.str (rA c.order)):=by
 have hv:=U8 h;have h1:=U6 c.order hv.1;unfold Np at h1;rw[hv.2,if_pos rfl]at h1;simp only[dy]at h1;simp only[bq,dy];refine aR Gi ?_;intro Q aF aG aH;repeat' first|refine aE ?_|refine aD ?_ ?_<;>intro hw<;>try omega|fail
 exact aU rfl rfl
def za (l : List cR) (o : Bool) (F : FuncId) (hl : l.length <= 6) (h : ∀ c ∈ l, CH c) (hF : ∀ c ∈ l, aP aK F [bq c] (.str (if o then rA c.order else []))) :
    aP aK 77 [cJ l,.fn (.func F) [] []] (.str (lH o l)):=by
 have h1:=mO l.length ⟨by omega,by omega⟩;have h2:=ji l.length;obtain⟨E,hE⟩:∃ E,lH o l=E:=⟨_,rfl⟩;rw[hE];unfold lH at hE;generalize iZ l.length=x at *;simp only[cJ];refine aR DC ?_;intro Q aF aG aH;repeat' first|refine aE ?_|refine aD ?_ ?_<;>intro hw<;>try omega|fail
 with_reducible refine bZ [5,7,13,14,15,16,17,18,19,20,21,22,23,24,25,26,27,28,29,30] (fun q:Nat × List aY=>[(13,I q.1),(5,.str (x++(l.take q.1).flatMap (qX o)))]) (fun q=>q.2) (fun q=>q.1<=l.length/\x.length+((l.take q.1).flatMap (qX o)).length<=10+q.1*1073750000) (fun q=>l.length-q.1) ((0,[])) ?_ ?_ ?_ ?_
 ·simp;omega
 ·rfl
 ·simp only[List.take_zero,fq,bS];simp (disch:=omega) only[jY,jb,and_true,go_sem,aF,aG,aH,Int.natCast_add,Int.cast_ofNat_Int]<;>(try trivial)<;>(try omega)<;>(try (repeat (first|trivial|(refine And.intro ?_ ?_)|(congr 1;omega))))
 rintro⟨i,τ⟩ r ⟨g1,g3⟩;dsimp only at g1 g3;by_cases hi:i<l.length
 ·have hc:=h _ (bJ hi);have hf:=hF _ (bJ hi);have jT:=IC (qX o) hi x;obtain⟨c,hce⟩:∃ c,l.getD i default=c:=⟨_,rfl⟩;rw[hce]at hc hf jT;have c1:=vR c.name (by have:=hc.1;omega);have c2:=mO c.kind hc.2.1;have MC:=Ke o hc;obtain⟨y,hy⟩:∃ y,x++(l.take i).flatMap (qX o)=y:=⟨_,rfl⟩;have TF:y.length=x.length+((l.take i).flatMap (qX o)).length:=by rw[<-hy,aA]
  have hsl:=congrArg List.length jT;rw[hy]at jT;simp only[aA]at hsl;have abW:qX o c=gG c.name++iZ c.kind++(if o then rA c.order else []):=rfl;generalize gG c.name=u1 at *;generalize iZ c.kind=u2 at *;generalize (if o then rA c.order else [])=u3 at *;have Ju:=congrArg List.length abW;simp only[aA]at Ju;have a1:((u1.length+u2.length:Nat):Int)<=IntKind.i64.max:=by show _<=(9223372036854775807:Int);omega
  have a2:(((u1++u2).length+u3.length:Nat):Int)<=IntKind.i64.max:=by rw[aA];show _<=(9223372036854775807:Int);omega
  have a3:((y.length+(u1++u2++u3).length:Nat):Int)<=IntKind.i64.max:=by simp only[aA];show _<=(9223372036854775807:Int);omega
  simp only[bq,dy]at hf;repeat' first|simp (disch:=omega) only[go_sem,aF,aG,aH,hce,hy,a1,a2,a3]|refine aE ?_|refine aD ?_ ?_<;>intro hw<;>try omega|fail
  refine⟨(i+1,τ++[aY.cells [.str c.name,I c.kind,.aO false EV (c.order.map fF)]]),?_,?_,?_,dH,?_⟩
  ·dsimp only;omega
  ·dsimp only;omega
  ·first|rfl|(simp[go_sem];done)
  ·dsimp only;rw[jT,abW];simp (disch:=omega) only[jY,jb,and_true,go_sem,aF,aG,aH,Int.natCast_add,Int.cast_ofNat_Int]<;>(try trivial)<;>(try omega)<;>(try (repeat (first|trivial|(refine And.intro ?_ ?_)|(congr 1;omega))))
 ·have ht:l.take i=l:=bw (by omega);repeat' first|simp (disch:=omega) only[go_sem,aF,aG,aH,ht]|refine aE ?_|refine aD ?_ ?_<;>intro hw<;>try omega|fail
  exact aU (by rw[<-hE]) rfl
def CJ(l:List aI)(h:IE l): aP aK 80 [bX l] (.str (l.flatMap gG)):=by
 obtain⟨hl,hs⟩:=h;obtain⟨E,hE⟩:∃ E,l.flatMap gG=E:=⟨_,rfl⟩;rw[hE];simp only[bX];refine aR Gj ?_;intro Q aF aG aH;repeat' first|refine aE ?_|refine aD ?_ ?_<;>intro hw<;>try omega|fail
 with_reducible refine bZ [3,5,8,9,10,11,12,13,14,15,16] (fun q:Nat=>[(8,I q),(3,.str ((l.take q).flatMap gG))]) (fun _=>[]) (fun q=>q<=l.length/\((l.take q).flatMap gG).length<=q*1073741834) (fun q=>l.length-q) (0) ?_ ?_ ?_ ?_
 ·simp
 ·rfl
 ·simp only[List.take_zero,fq];simp (disch:=omega) only[jY,jb,and_true,go_sem,aF,aG,aH,Int.natCast_add,Int.cast_ofNat_Int]<;>(try trivial)<;>(try omega)<;>(try (repeat (first|trivial|(refine And.intro ?_ ?_)|(congr 1;omega))))
 rintro i r ⟨g1,g3⟩;by_cases hi:i<l.length
 ·have hs1:=hs _ (bJ hi);have jT:=IC gG hi [];simp only[cP]at jT;obtain⟨s,hse⟩:∃ s,l.getD i default=s:=⟨_,rfl⟩;rw[hse]at hs1 jT;have c1:=vR s (by omega);have MC:=x5 s;obtain⟨y,hy⟩:∃ y,(l.take i).flatMap gG=y:=⟨_,rfl⟩;rw[hy]at jT g3;have a1:((y.length+(gG s).length:Nat):Int)<=IntKind.i64.max:=by show _<=(9223372036854775807:Int);omega
  have hg:(List.map cj l).getD i .undef = .str s:=by rw[getD_map _ _ _ hi,hse];rfl
  repeat' first|simp (disch:=omega) only[go_sem,aF,aG,aH,hse,hy,a1,hg]|refine aE ?_|refine aD ?_ ?_<;>intro hw<;>try omega|fail
  refine⟨i+1,?_,?_,?_,dH,?_⟩
  ·refine⟨by omega,?_⟩;rw[jT,aA];omega
  ·dsimp only;omega
  ·first|rfl|(simp[go_sem];done)
  ·dsimp only;rw[jT];simp (disch:=omega) only[jY,jb,and_true,go_sem,aF,aG,aH,Int.natCast_add,Int.cast_ofNat_Int]<;>(try trivial)<;>(try omega)<;>(try (repeat (first|trivial|(refine And.intro ?_ ?_)|(congr 1;omega))))
 ·have ht:l.take i=l:=bw (by omega);repeat' first|simp (disch:=omega) only[go_sem,aF,aG,aH,ht]|refine aE ?_|refine aD ?_ ?_<;>intro hw<;>try omega|fail
  exact aU (by rw[<-hE]) rfl
def Fo{a b:Nat}(h:a+b<=9223372036854775807): ((a+b:Nat):Int)<=IntKind.i64.max:=by show _<=(9223372036854775807:Int);omega
def Ds(t:Table): aI:=gG t.name++iZ t.aM++iZ t.agg++lH false t.ins++lH true t.outs++iZ t.rules.length
def XB(t:Table): x4 t=Ds t++t.rules.flatMap nx:=rfl
def U_{t:Table}(h:abU t): (Ds t).length<=17179869184:=by
 have h1:=x5 t.name;have h2:=ji t.aM;have h3:=ji t.agg;have h4:=Kf false h.2.2.2.1.1 h.2.2.2.1.2;have h5:=Kf true h.2.2.2.2.1.1 h.2.2.2.2.1.2;have h6:=ji t.rules.length;have h7:=h.1;unfold Ds;simp only[List.length_append];omega
def Va{r:eE}(h:IE r.cells/\IE r.outs): (nx r).length<=12884902008:=by
 have h1:=x6 h.1;have h2:=x6 h.2;unfold nx;rw[List.length_append];omega
def eB(p:aI × Int): AV:= .bO [.str p.1,I p.2]
abbrev abX(t:Table): aY:= .cells [.str t.name,.aO false EC (t.ins.map bq),.aO false EC (t.outs.map bq),I t.aM,I t.agg,.aO false ER (t.rules.map cu)]
def CK(t:Table)(ok:jQ t): aP aK 36 [dV t] (eB (jI t)):=by
 obtain⟨E,hE⟩:∃ E,jI t=E:=⟨_,rfl⟩;rw[hE];unfold jI at hE;have c1:=Cy t ok;have c2:=yA (ff t).1 t (Ng ok) (y8 ok);have hb:=fun h=>abV ok h;obtain⟨C,hC⟩:∃ C,ff t=C:=⟨_,rfl⟩;rw[hC]at c1 c2 hE hb;obtain⟨C,m1,m2,e⟩:=C;dsimp only at hE c2 hb;simp only[Qe,dV,ia,cJ,eF]at c1 c2 ⊢;by_cases he:e≠0
 ·rw[if_pos he]at hE;refine aR sG ?_ (by simp[eB]);intro Q aF aG aH;repeat' first|refine aE ?_|refine aD ?_ ?_<;>intro hw<;>try omega|fail
  all_goals first|exact bN|exact b_ (by rw[<-hE]) rfl
 rw[if_neg he]at hE;obtain rfl:e=0:=by omega
 cases hs:ie C t with
 | false =>
   rw[hs]at hE c2;rw[if_pos rfl]at hE;refine aR sG ?_ (by simp[eB]);intro Q aF aG aH;repeat' first|refine aE ?_|refine aD ?_ ?_<;>intro hw<;>try omega|fail
   all_goals first|exact bN|exact b_ (by rw[<-hE]) rfl
 | true =>
 rw[hs]at hE c2;rw[if_neg (by simp),XB]at hE;have h:=hb rfl;have hl:=U_ h;have hd:Ds t=gG t.name++iZ t.aM++iZ t.agg++(lH false t.ins++lH true t.outs++iZ t.rules.length):=by unfold Ds;simp only[List.append_assoc]
 obtain⟨b1,b2,b3,b4,b5,b6,b7⟩:=h;have k1:=vR t.name (by omega);have k2:=mO t.aM b2;have k3:=mO t.agg b3;have k4:=za t.ins false 78 b4.1 b4.2 (fun c _=>IG c);have k5:=za t.outs true 79 b5.1 b5.2 (fun c hc=>Nq c (b5.2 c hc));have k6:=mO t.rules.length ⟨by omega,by omega⟩;generalize Ds t=x at *;generalize gG t.name=u1 at *;generalize iZ t.aM=u2 at *;generalize iZ t.agg=u3 at *;generalize lH false t.ins=u4 at *;generalize lH true t.outs=u5 at *;generalize iZ t.rules.length=u6 at *;have Ju:=congrArg List.length hd;simp only[aA]at Ju;have a1:=Fo (a:=u1.length) (b:=u2.length) (by omega);have a2:=Fo (a:=(u1++u2).length) (b:=u3.length) (by simp only[aA];omega);have a3:=Fo (a:=u4.length) (b:=u5.length) (by omega);have a4:=Fo (a:=(u4++u5).length) (b:=u6.length) (by simp only[aA];omega);have a5:=Fo (a:=(u1++u2++u3).length) (b:=(u4++u5++u6).length) (by simp only[aA];omega);have hd':=hd.symm;clear hd;simp only[cJ]at k4 k5;refine aR sG ?_ (by simp[eB]);intro Q aF aG aH;repeat' first|simp (disch:=omega) only[go_sem,aF,aG,aH,a1,a2,a3,a4,a5,hd']|refine aE ?_|refine aD ?_ ?_<;>intro hw<;>try omega|fail
 all_goals first|exact bN|skip
 with_reducible refine bZ [8,10,55,56,57,58,59,60,61,62,63,64,65,66,67,68] (fun q:Nat × List aY=>[(55,I q.1),(8,.str (x++(t.rules.take q.1).flatMap nx))]) (fun q=>abX t::abX C::q.2) (fun q=>q.1<=t.rules.length/\x.length+((t.rules.take q.1).flatMap nx).length<=17179869184+q.1*12884902008) (fun q=>t.rules.length-q.1) ((0,[])) ?_ ?_ ?_ ?_
 ·simp;omega
 ·rfl
 ·simp only[List.take_zero,fq,bS];simp (disch:=omega) only[jY,jb,and_true,go_sem,aF,aG,aH,Int.natCast_add,Int.cast_ofNat_Int]<;>(try trivial)<;>(try omega)<;>(try (repeat (first|trivial|(refine And.intro ?_ ?_)|(congr 1;omega))))
 rintro⟨i,τ⟩ r ⟨g1,g3⟩;dsimp only at g1 g3;by_cases hi:i<t.rules.length
 ·have hr:=b7 _ (bJ hi);have jT:=IC nx hi x;obtain⟨ru,YP⟩:∃ c,t.rules.getD i default=c:=⟨_,rfl⟩;rw[YP]at hr jT;have qb:=Va hr;obtain⟨y,hy⟩:∃ y,x++(t.rules.take i).flatMap nx=y:=⟨_,rfl⟩;have TF:y.length=x.length+((t.rules.take i).flatMap nx).length:=by rw[<-hy,aA]
  have hsl:=congrArg List.length jT;rw[hy]at jT;simp only[aA]at hsl;have hrd:nx ru=ru.cells.flatMap gG++ru.outs.flatMap gG:=rfl;have d1:=CJ ru.cells hr.1;have d2:=CJ ru.outs hr.2;have f1:=x6 hr.1;have f2:=x6 hr.2;generalize ru.cells.flatMap gG=v1 at *;generalize ru.outs.flatMap gG=v2 at *;have e1:=Fo (a:=v1.length) (b:=v2.length) (by omega);have e2:=Fo (a:=y.length) (b:=(v1++v2).length) (by simp only[aA];omega);simp only[bX]at d1 d2;repeat' first|simp (disch:=omega) only[go_sem,aF,aG,aH,YP,hy,e1,e2]|refine aE ?_|refine aD ?_ ?_<;>intro hw<;>try omega|fail
  refine⟨(i+1,τ++[aY.cells [.aO false E1 (ru.cells.map cj),.aO false E1 (ru.outs.map cj)]]),?_,?_,?_,dH,?_⟩
  ·dsimp only;omega
  ·dsimp only;omega
  ·first|rfl|(simp[go_sem];done)
  ·dsimp only;rw[jT,hrd];simp (disch:=omega) only[jY,jb,and_true,go_sem,aF,aG,aH,Int.natCast_add,Int.cast_ofNat_Int]<;>(try trivial)<;>(try omega)<;>(try (repeat (first|trivial|(refine And.intro ?_ ?_)|(congr 1;omega))))
 ·have ht:t.rules.take i=t.rules:=bw (by omega);rw[ht]at g3;have hxl:(x++t.rules.flatMap nx).length=x.length+(t.rules.flatMap nx).length:=aA;by_cases hbig:1400<(x++t.rules.flatMap nx).length
  ·rw[if_pos hbig]at hE;obtain⟨z,hz⟩:∃ z,x++t.rules.flatMap nx=z:=⟨_,rfl⟩;rw[hz]at hbig hxl;repeat' first|simp (disch:=omega) only[go_sem,aF,aG,aH,ht,hz]|refine aE ?_|refine aD ?_ ?_<;>intro hw<;>try omega|fail
   exact b_ (by rw[<-hE]) rfl
  ·rw[if_neg hbig]at hE;obtain⟨z,hz⟩:∃ z,x++t.rules.flatMap nx=z:=⟨_,rfl⟩;rw[hz]at hbig hxl hE;repeat' first|simp (disch:=omega) only[go_sem,aF,aG,aH,ht,hz]|refine aE ?_|refine aD ?_ ?_<;>intro hw<;>try omega|fail
   exact b_ (by rw[<-hE]) rfl
def ju(c:dX): List AV:=[I c.kind,.str c.table.name,.aO false EC (c.table.ins.map bq),.aO false EC (c.table.outs.map bq),I c.table.aM,I c.table.agg,.aO false ER (c.table.rules.map cu),.str c.name,I c.ver,.aO false EV (c.row.map fF),I c.lz,I c.nS]
def ey(c:dX): AV:= .agg (ju c)
def Nr(c:dX): (ey c).dz=true:=by simp[ey,ju]
attribute [simp] Nr
def qo(k:Int): Int:=if k=1 then 1 else if k=2 then 6 else if k=3 then 2 else if k=5 then 24 else if k=6 then 8 else 0
def Vb(k:Int): Bool:=decide (1<=k/\k<=9)
def Ns(k:Int): aP aK 35 [I k] (.bO [I (qo k),.bool (Vb k)]):=by
 have e0:¬(k=1\/k=2\/k=3\/k=5\/k=6)->qo k=0:=fun h=>by simp only[not_or]at h;simp[qo,h]
 refine aR Gf ?_;intro Q aF aG aH;by_cases k1:k=1
 ·subst k1;repeat' first|refine aE ?_|refine aD ?_ ?_<;>intro hw<;>try omega|fail
  exact b_ rfl rfl
 by_cases k2:k=2
 ·subst k2;repeat' first|refine aE ?_|refine aD ?_ ?_<;>intro hw<;>try omega|fail
  exact b_ rfl rfl
 by_cases k3:k=3
 ·subst k3;repeat' first|refine aE ?_|refine aD ?_ ?_<;>intro hw<;>try omega|fail
  exact b_ rfl rfl
 by_cases k5:k=5
 ·subst k5;repeat' first|refine aE ?_|refine aD ?_ ?_<;>intro hw<;>try omega|fail
  exact b_ rfl rfl
 by_cases k6:k=6
 ·subst k6;repeat' first|refine aE ?_|refine aD ?_ ?_<;>intro hw<;>try omega|fail
  exact b_ rfl rfl
 repeat' first|refine aE ?_|refine aD ?_ ?_<;>intro hw<;>try omega|fail
 all_goals first|exact bN|(refine b_ ?_ rfl;rw[e0 (by omega)];simp[Vb];omega)
def ZX(k:Int): (jN .and .i64 (qo k) 1≠0↔k=1)/\(jN .and .i64 (qo k) 2≠0↔k=2\/k=3)/\(jN .and .i64 (qo k) 4≠0↔k=2)/\(jN .and .i64 (qo k) 8≠0↔k=5\/k=6)/\(jN .and .i64 (qo k) 16≠0↔k=5):=by
 rw[lY];by_cases k1:k=1
 ·subst k1;decide +kernel
 by_cases k2:k=2
 ·subst k2;decide +kernel
 by_cases k3:k=3
 ·subst k3;decide +kernel
 by_cases k5:k=5
 ·subst k5;decide +kernel
 by_cases k6:k=6
 ·subst k6;decide +kernel
 have e:qo k=0:=by simp[qo, *]
 have z:∀ d ∈ [(1:Int),2,4,8,16],mA .and .i64 0 d=0:=by decide +kernel
 rw[e,z 1 (by simp),z 2 (by simp),z 4 (by simp),z 8 (by simp),z 16 (by simp)];simp[k1,k2,k3,k5,k6]
noncomputable def hasB (b1 b2 b3 b4 b5:Bool):Int :=
 let p1:=if b1 then 0 else jN .or .i64 0 1
 let p2:=if b2 then p1 else jN .or .i64 p1 2
 let p3:=if b3 then p2 else jN .or .i64 p2 4
 let p4:=if b4 then p3 else jN .or .i64 p3 8
 if b5 then p4 else jN .or .i64 p4 16
noncomputable def II (c:dX):Int:=hasB (ie c.table iH) (c.name==[] && decide (c.ver=0)) (decide (c.row.length=0)) (decide (c.lz=0)) (decide (c.nS=0))
def ZY(c:dX): jN .andNot .i64 (II c) (qo c.kind)≠0↔sX c=false:=by
 unfold II sX;generalize ie c.table iH=b1;generalize (c.name==[] && decide (c.ver=0))=b2;generalize decide (c.row.length=0)=b3;generalize decide (c.lz=0)=b4;generalize decide (c.nS=0)=b5;generalize c.kind=k;unfold hasB;rw[lY];by_cases k1:k=1
 ·subst k1;revert b1 b2 b3 b4 b5;decide +kernel
 by_cases k2:k=2
 ·subst k2;revert b1 b2 b3 b4 b5;decide +kernel
 by_cases k3:k=3
 ·subst k3;revert b1 b2 b3 b4 b5;decide +kernel
 by_cases k5:k=5
 ·subst k5;revert b1 b2 b3 b4 b5;decide +kernel
 by_cases k6:k=6
 ·subst k6;revert b1 b2 b3 b4 b5;decide +kernel
 have e:qo k=0:=by simp[qo, *]
 have hd:∀ p:Prop,[Decidable p]->¬p->decide p=false:=fun p _ h=>by simp[h]
 rw[e,hd _ k1,hd (k=2\/k=3) (by omega),hd _ k2,hd (k=5\/k=6) (by omega),hd _ k5];revert b1 b2 b3 b4 b5;decide +kernel
def O9(c:dX)(ok:iJ c): aP aK 37 [ey c] (I (II c)):=by
 have c1:=yA c.table iH (y8 ok.2.1) Iz;obtain⟨E,hE⟩:∃ E,II c=E:=⟨_,rfl⟩;rw[hE];unfold II at hE;have hl:=ok.2.2.2.2.1.1;obtain⟨k,t,n,v,r,f,m⟩:=c;dsimp only at c1 hE hl;generalize ie t iH=b1 at *;have gN:(n==[] && decide (v=0))=decide (n=[]/\v=0):=by cases n<;>simp
 rw[gN]at hE;unfold hasB at hE;have d2:n=[]->v=0->decide (n=[]/\v=0)=true:=fun h1 h2=>by simp[h1,h2]
 have d2n:¬n=[]->decide (n=[]/\v=0)=false:=fun h1=>by simp[h1]
 have d2v:¬v=0->decide (n=[]/\v=0)=false:=fun h1=>by simp[h1]
 have d3:r.length=0->decide (r.length=0)=true:=fun h=>decide_eq_true h;have d3n:¬r.length=0->decide (r.length=0)=false:=fun h=>decide_eq_false h;have d4:f=0->decide (f=0)=true:=fun h=>decide_eq_true h;have d4n:¬f=0->decide (f=0)=false:=fun h=>decide_eq_false h;have d5:m=0->decide (m=0)=true:=fun h=>decide_eq_true h;have d5n:¬m=0->decide (m=0)=false:=fun h=>decide_eq_false h;simp only[dV,ia,cJ,eF,iH,br]at c1;refine aR HV ?_;intro Q aF aG aH;simp only[ey,ju];cases b1
 all_goals
  repeat' first|refine aE ?_|refine xJ c1 ?_|refine aD ?_ ?_<;>intro hw<;>try omega|fail
 all_goals first|exact bN|(refine aU ?_ rfl;rw[<-hE];(first|rw[d2 (by assumption) (by assumption)]|rw[d2n (by assumption)]|rw[d2v (by assumption)]);(first|rw[d3 (by omega)]|rw[d3n (by omega)]);(first|rw[d4 (by assumption)]|rw[d4n (by assumption)]);(first|rw[d5 (by assumption)]|rw[d5n (by assumption)]);rfl)
def A4(n:Int): aP aK 39 [I n] (.bool (oz n)):=by
 unfold oz;refine aR EO ?_;intro Q aF aG aH;repeat' first|refine aE ?_|refine aD ?_ ?_<;>intro hw<;>try omega|fail
 all_goals (refine aU ?_ rfl;simp;omega)
def G0(v:eu)(h:iE v.n): aP aK 84 [fF v] (.bool (!bT v)):=by
 have c1:=qG v.kind v.n v.s h.1 h.2;have ev:bT ⟨v.kind,v.n,v.s⟩=bT v:=rfl;rw[ev]at c1;generalize bT v=b at *;refine aR BW ?_;intro Q aF aG aH;cases b<;>simp only[mZ,if_true,Bool.false_eq_true,if_false]at c1
 all_goals
  repeat' first|refine aE ?_|refine aD ?_ ?_<;>intro hw<;>try omega|fail
 all_goals exact aU rfl rfl
def yC (fn : FuncId) (cap : List AV) (hcap : AV.cA cap = true) (p : eu -> Bool) (l : List eu) (h : ∀ k, k < l.length -> aP aK fn (fF (l.getD k default) :: cap) (.bool (p (l.getD k default)))) (hl : l.length <= 2 ^ 62) :
    aP aK 128 [dy l,.fn (.func fn) [] cap] (I (fy p l)):=by
 refine aR vN ?_ (by simp[AV.dz,AV.cA,hcap]);intro Q aF aG aH;repeat' first|refine aE ?_|refine aD ?_ ?_<;>intro hw<;>try omega|fail
 with_reducible refine bZ [4,5,8,9,10,11,12,13,14,15,16,17,18] (fun i:Nat=>[(8,I i)]) (fun _=>[]) (fun i=>i<=l.length/\ ∀ k,k<i->p (l.getD k default)=false) (fun i=>l.length-i) (0) ?_ ?_ ?_ ?_
 ·simp
 ·rfl
 ·exact at_
 ·rintro i r ⟨hi,hp⟩;by_cases hin:i<l.length
  ·have hx:=h i hin;simp only[fF]at hx;repeat' first|refine aE ?_|refine aD ?_ ?_<;>intro hw<;>try omega|fail
   ·refine aU ?_ rfl;refine congrArg I ?_;exact(lU hin hp hw).symm
   ·refine⟨i+1,?_,?_,by first|rfl|(simp[go_sem];done),dH,at_⟩<;>(try dsimp only)
    ·exact⟨by omega,bI hp hw⟩
    ·omega
  ·repeat' first|refine aE ?_|refine aD ?_ ?_<;>intro hw<;>try omega|fail
   refine aU ?_ rfl;refine congrArg I ?_;exact(lO fun k hk=>hp k (by omega)).symm
def vS (fn : FuncId) (cap : List AV) (hcap : AV.cA cap = true) (p : eu -> Bool) (l : List eu) (h : ∀ k, k < l.length -> aP aK fn (fF (l.getD k default) :: cap) (.bool (p (l.getD k default)))) (hl : l.length <= 2 ^ 62) :
    aP aK 83 [dy l,.fn (.func fn) [] cap] (.bool (l.any p)):=by
 refine aR tK ?_ (by simp[AV.dz,AV.cA,hcap]);intro Q aF aG aH;have hc:=yC fn cap hcap p l h hl;simp only[dy]at hc;repeat' first|refine aE ?_|refine aD ?_ ?_<;>intro hw<;>try omega|fail
 all_goals refine aU ?_ rfl
 all_goals rw[<-zX]
def Lf(l:List eu)(hl:y9 l): aP aK 40 [dy l] (.bool (decide (l.length<=6) && l.all bT)):=by
 obtain⟨wG,uQ⟩:=hl;have c1:=vS 84 [] rfl (fun v=> !bT v) l (fun k hk=>G0 _ (uQ _ (bJ hk)).1) (by omega);have e:l.any (fun v=> !bT v) = !(l.all bT):=by rw[List.all_eq_not_any_not];simp
 rw[e]at c1;generalize l.all bT=b at *;simp only[dy]at c1 ⊢;refine aR EP ?_;intro Q aF aG aH;repeat' first|refine aE ?_|refine aD ?_ ?_<;>intro hw<;>try omega|fail
 all_goals (refine aU ?_ rfl;simp;try omega)
def Sq(a b:dX)(ha:iJ a)(hb:iJ b): aP aK 29 [ey a,ey b] (.bool (mw a b)):=by
 have c1:=Se a.table b.table (y8 ha.2.1) (y8 hb.2.1);have c2:=A2 a.row b.row (by have:=ha.2.2.2.2.1.1;omega) (by have:=hb.2.2.2.2.1.1;omega);obtain⟨E,hE⟩:∃ E,mw a b=E:=⟨_,rfl⟩;rw[hE];unfold mw at hE;generalize ie a.table b.table=x at *;generalize gy (fun x y=>x==y) a.row b.row=y at *;have hn:(a.name==b.name)=decide (a.name=b.name):=by rw[a_];simp
 rw[hn]at hE;clear hn;simp only[dV,ia,cJ,eF,dy]at c1 c2;refine aR KX ?_;intro Q aF aG aH;simp only[ey,ju];repeat' first|refine aE ?_|refine aD ?_ ?_<;>intro hw<;>try omega|fail
 all_goals (refine aU ?_ rfl;rw[<-hE];first|(simp[*];done)|(refine congrArg AV.bool ?_;rw[a_];simp[*];done))
def Fp {σ : ae} {c : dX} {a b r w : AV} (ha : View σ a (.aO false EC (c.table.ins.map bq))) (hb : View σ b (.aO false EC (c.table.outs.map bq))) (hr : View σ r (.aO false ER (c.table.rules.map cu))) (hw : View σ w (.aO false EV (c.row.map fF))) :
    View σ (.agg [I c.kind,.str c.table.name,a,b,I c.table.aM,I c.table.agg,r,.str c.name,I c.ver,w,I c.lz,I c.nS]) (ey c) :=
 View.sC (.cons (.refl _ rfl) (.cons (.refl _ rfl) (.cons ha (.cons hb (.cons (.refl _ rfl) (.cons (.refl _ rfl) (.cons hr (.cons (.refl _ rfl) (.cons (.refl _ rfl) (.cons hw (.cons (.refl _ rfl) (.cons (.refl _ rfl) (.nil _)))))))))))))
def Sr(k e:Int)(q nm:Bool)(v:Int)(pf pc pl:Bool): Int:=if k=1/\e≠0 then e else if 1<=k/\k<=9/\q=true/\((k=2\/k=3)->nm=true/\0<=v/\v<=2147483648)/\pf=true/\pc=true/\pl=true then 0 else 2
def Vc(c:dX): dY c=Sr c.kind (jI c.table).2 (sX c) (eV c.name) c.ver (oz c.lz) (oz c.nS) (decide (c.row.length<=6) && c.row.all bT):=by
 unfold dY Sr;simp only[aq,decide_eq_true_eq]
def A5(c:dX)(ok:iJ c): aP aK 19 [ey c] (I (dY c)):=by
 rw[Vc];have c1:=Ns c.kind;have c2:=CK c.table ok.2.1;have c3:=O9 c ok;have c4:=tQ c.name (by have:=ok.2.2.1;omega);have c5:=A4 c.lz;have c6:=A4 c.nS;have c7:=Lf c.row ok.2.2.2.2.1;have hh:=ZY c;have h2:=(ZX c.kind).2.1
 have h1:qo c.kind=1↔c.kind=1:=by
  unfold qo;repeat' split
  all_goals omega
 have ho:Vb c.kind=true↔(1<=c.kind/\c.kind<=9):=by simp[Vb]
 generalize qo c.kind=p at *;generalize Vb c.kind=o at *;generalize II c=s at *;generalize sX c=q at *;obtain⟨w,e1⟩:∃ w,jN .andNot .i64 s p=w:=⟨_,rfl⟩;obtain⟨u,e2⟩:∃ u,jN .and .i64 p 2=u:=⟨_,rfl⟩;rw[e1]at hh;rw[e2]at h2;generalize jI c.table=B at *;obtain⟨bs,be⟩:=B;generalize eV c.name=nm at *;generalize oz c.lz=pf at *;generalize oz c.nS=pc at *;generalize (decide (c.row.length<=6) && c.row.all bT)=pl at *;obtain⟨E,hE⟩:∃ E,Sr c.kind be q nm c.ver pf pc pl=E:=⟨_,rfl⟩;dsimp only;rw[hE];unfold Sr at hE;simp only[eB,dV,ia,cJ,eF,dy,ey,ju]at c2 c3 c7 ⊢;refine aR EN ?_ (by simp[ey,ju]);intro Q aF aG aH;repeat' first|simp (disch:=omega) only[go_sem,aF,aG,aH,e1,e2]|refine aE ?_|refine aD ?_ ?_<;>intro hw<;>try omega|fail
 all_goals first
  | exact bN
  | (refine aU ?_ rfl
     refine congrArg I ?_;rw[<-hE];clear hE aF aG aH c1 c2 c3 c4 c5 c6 c7 ok e1 e2;split
     ·first|omega|(simp_all;done)
     ·split
      ·first|rfl|(exfalso;simp_all;done)|(exfalso;simp_all;omega)
      ·first|rfl|(exfalso;simp_all;done)|(exfalso;simp_all;omega))
  | skip
def Vd{a b:Nat}(h:a+b<=2 ^ 40): ((a+b:Nat):Int)<=IntKind.i64.max:=by show _<=(9223372036854775807:Int);omega
abbrev EM: El:=⟨true,12⟩
def lI(l:List dX): AV:= .aO false EM (l.map ey)
def XC(l:List dX): AV.cA (l.map ey)=true:=iu _ _ Nr
attribute [simp] XC
attribute [go_sem] ey ju
def afm{l:List dX}(h:∀ k,k<l.length->dY (l.getD k default)=0): ∀ c ∈ l,dY c=0:=fun c hc=>by
 obtain⟨k,hk,rfl⟩:=bC hc;have:=h k hk;simpa[aj,hk]using this
@[go_sem] def afn (sz off n : Nat) (cs : List AV) (K : AV -> Prop) (h : ¬(off = 0 /\ n = sz)) : uj false ⟨true, sz⟩ (.agg cs) off true n (.mk : Tg K) = req (off + n <= sz) (.mk : Tg (K (.agg ((cs.drop off).take n)))) := by
  refine Zm _ _ _ _ _ ?_;rw[Bool.eq_false_iff];intro hh;simp at hh;exact h hh
