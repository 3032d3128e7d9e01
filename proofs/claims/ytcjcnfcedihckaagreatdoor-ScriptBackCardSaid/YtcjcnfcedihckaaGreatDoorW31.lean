/- Part. -/
import Derived.Test.YtcjcnfcedihckaaGreatDoorW30
set_option linter.all false
set_option maxHeartbeats 4000000
namespace Go.Proofs.YtcjcnfcedihckaaGreatDoor
open Go.AM
set_option maxRecDepth 4000
def OD(l:List ez): aI × Int:=if l.all bZ then(rV l,0)else ([],2)
def Wm{l:List ez}{i:Nat}(hi:i<l.length)(x:aI): x++(l.take (i+1)).flatMap lM=(x++(l.take i).flatMap lM)++lM (l.getD i default):=by
 rw[take_succ hi,List.flatMap_append];simp
def Wn(l:List ez)(hl:zF l): aM aK 123 [dh l] (.bU [.str (OD l).1,I (OD l).2]):=by
 obtain⟨nX,vy⟩:=hl;have h1:=nk l.length ⟨by omega,by omega⟩;have h2:=jy l.length;obtain⟨E,hE⟩:∃ E,OD l=E:=⟨_,rfl⟩;rw[hE];unfold OD rV at hE;generalize jk l.length=x at *;simp only[dh];refine aR Nt ?_;intro Q aC aD aE;repeat' first|refine aG ?_|refine aF ?_ ?_<;>intro hw<;>try omega|fail
 with_reducible refine bX [2,3,4,6,7,8,14,15,16,17,18,19,20,21,22,23,24,25,26,27,28,29] (fun q:Nat × List aZ=>[(14,I q.1),(4,.str (x++(l.take q.1).flatMap lM))]) (fun q=>q.2) (fun q=>q.1<=l.length/\(∀ k,k<q.1->bZ (l.getD k default)=true)/\x.length+((l.take q.1).flatMap lM).length<=10+q.1*2147483648) (fun q=>l.length-q.1) ((0,[])) ?_ ?_ ?_ ?_
 ·simp;omega
 ·rfl
 ·simp only[List.take_zero,fG,bY];simp (disch:=omega) only[iS,gC,and_true,go_sem,aC,aD,aE,Int.natCast_add,Int.cast_ofNat_Int]<;>(try trivial)<;>(try omega)<;>(try (repeat (first|trivial|(refine And.intro ?_ ?_)|(congr 1;omega))))
 rintro⟨i,τ⟩ r ⟨g1,g2,g3⟩;dsimp only at g1 g2 g3;by_cases hi:i<l.length
 ·have hv:=vy _ (bH hi);have hne:=fun h=>A2 (p:=bZ) hi h;have de:=fun he=>bP (q:=fun k=>bZ (l.getD k default)=true) g2 (i:=i) he;have ja:=Wm hi x;obtain⟨v,nn⟩:∃ v,l.getD i default=v:=⟨_,rfl⟩;rw[nn]at hv hne de ja;have h3:=Qp v.kind v.n v.s hv.1 (by omega);have NR:=HS v;have ev:xB ⟨v.kind,v.n,v.s⟩=xB v:=rfl;rw[ev]at h3;unfold xB at h3;obtain⟨y,hy⟩:∃ y,x++(l.take i).flatMap lM=y:=⟨_,rfl⟩;have UW:y.length=x.length+((l.take i).flatMap lM).length:=by rw[<-hy,aA]
  have hsl:=congrArg List.length ja;rw[hy]at ja;simp only[aA]at hsl;have agA:((y.length+(lM v).length:Nat):Int)<=IntKind.i64.max:=by show _<=(9223372036854775807:Int);omega
  generalize bZ v=b at *;cases b
  ·simp only[aB,if_false]at h3;rw[hne rfl]at hE;simp only[aB,if_false]at hE;repeat' first|simp (disch:=omega) only[go_sem,aC,aD,aE,nn,hy]|refine aG ?_|refine aF ?_ ?_<;>intro hw<;>try omega|fail
   all_goals first|exact bK|(exact cj (by rw[<-hE]) rfl)
  ·simp only[if_true]at h3;repeat' first|simp (disch:=omega) only[go_sem,aC,aD,aE,nn,hy]|refine aG ?_|refine aF ?_ ?_<;>intro hw<;>try omega|fail
   all_goals first
    | exact bK
    | (refine ⟨(i + 1, τ ++ [aZ.cells [I v.kind, I v.n, .str v.s]]), ?_, ?_, ?_, da, ?_⟩
       ·refine⟨by dsimp only;omega,de rfl,?_⟩;dsimp only;omega
       ·dsimp only;omega
       ·first|rfl|(simp[go_sem];done)
       ·dsimp only;rw[ja];simp (disch:=omega) only[iS,gC,and_true,go_sem,aC,aD,aE,Int.natCast_add,Int.cast_ofNat_Int]<;>(try trivial)<;>(try omega)<;>(try (repeat (first|trivial|(refine And.intro ?_ ?_)|(congr 1;omega)))))
 ·have ht:l.take i=l:=bp (by omega);rw[A1 (fun k hk=>g2 k (by omega)),if_pos rfl]at hE;repeat' first|simp (disch:=omega) only[go_sem,aC,aD,aE,ht]|refine aG ?_|refine aF ?_ ?_<;>intro hw<;>try omega|fail
  exact cj (by rw[<-hE]) rfl
def aa7(l:List ez)(hl:zF l): aM aK 51 [dh l] (.bool (l.all bZ)):=by
 obtain⟨nX,vy⟩:=hl;obtain⟨E,hE⟩:∃ E,l.all bZ=E:=⟨_,rfl⟩;rw[hE];simp only[dh];refine aR Ef ?_;intro Q aC aD aE;repeat' first|refine aG ?_|refine aF ?_ ?_<;>intro hw<;>try omega|fail
 with_reducible refine bX [2,3,4,5,6,7,8,9,10,11,12,13,14,15] (fun q:Nat=>[(3,I q)]) (fun _=>[]) (fun q=>q<=l.length/\ ∀ k,k<q->bZ (l.getD k default)=true) (fun q=>l.length-q) (0) ?_ ?_ ?_ ?_
 ·simp
 ·rfl
 ·exact at_
 rintro i r ⟨g1,g2⟩;by_cases hi:i<l.length
 ·have hv:=vy _ (bH hi);have hne:=fun h=>A2 (p:=bZ) hi h;have de:=fun he=>bP (q:=fun k=>bZ (l.getD k default)=true) g2 (i:=i) he;obtain⟨v,nn⟩:∃ v,l.getD i default=v:=⟨_,rfl⟩;rw[nn]at hv hne de;have h3:=EE v.kind v.n v.s (by omega);have ev:bZ ⟨v.kind,v.n,v.s⟩=bZ v:=rfl;rw[ev]at h3;generalize bZ v=b at *;repeat' first|simp (disch:=omega) only[go_sem,aC,aD,aE,nn]|refine aG ?_|refine aF ?_ ?_<;>intro hw<;>try omega|fail
  all_goals first
   | exact bK
   |(exact aS (by rw[<-hE,hne (by simp_all)]) rfl)
   | (refine ⟨i + 1, ?_, ?_, by first | rfl | (simp [go_sem]; done), da, at_⟩ <;> (try dsimp only)
      ·exact⟨by omega,de (by simp_all)⟩
      ·omega)
 ·repeat' first|refine aG ?_|refine aF ?_ ?_<;>intro hw<;>try omega|fail
  exact aS (by rw[<-hE,A1 (fun k hk=>g2 k (by omega))]) rfl
def Wo(l:List ez): aM aK 18 [dh l] (.bool (decide (l.length<=12) && l.all pX)):=by
 obtain⟨E,hE⟩:∃ E,(decide (l.length<=12) && l.all pX)=E:=⟨_,rfl⟩;rw[hE];simp only[dh];refine aR FF ?_;intro Q aC aD aE;repeat' first|refine aG ?_|refine aF ?_ ?_<;>intro hw<;>try omega|fail
 ·exact aS (by rw[<-hE,decide_eq_false (by omega),gY]) rfl
 have h12:l.length<=12:=by omega
 rw[decide_eq_true h12,ew]at hE;with_reducible refine bX [2,3,7,8,9,10,11,12,13,14,15,16,17,18,19] (fun q:Nat=>[(3,I q)]) (fun _=>[]) (fun q=>q<=l.length/\ ∀ k,k<q->pX (l.getD k default)=true) (fun q=>l.length-q) (0) ?_ ?_ ?_ ?_
 ·simp
 ·rfl
 ·exact at_
 rintro i r ⟨g1,g2⟩;by_cases hi:i<l.length
 ·have hne:=fun h=>A2 (p:=pX) hi h;have de:=fun he=>bP (q:=fun k=>pX (l.getD k default)=true) g2 (i:=i) he;obtain⟨v,nn⟩:∃ v,l.getD i default=v:=⟨_,rfl⟩;rw[nn]at hne de;have hS:pX v=decide (v.s.length<=300):=rfl;rw[hS]at hne de;repeat' first|simp (disch:=omega) only[go_sem,aC,aD,aE,nn]|refine aG ?_|refine aF ?_ ?_<;>intro hw<;>try omega|fail
  all_goals first
   | exact bK
   |(exact aS (by rw[<-hE,hne (decide_eq_false (by omega))]) rfl)
   | (refine ⟨i + 1, ?_, ?_, by first | rfl | (simp [go_sem]; done), da, at_⟩ <;> (try dsimp only)
      ·exact⟨by omega,de (decide_eq_true (by omega))⟩
      ·omega)
 ·repeat' first|refine aG ?_|refine aF ?_ ?_<;>intro hw<;>try omega|fail
  exact aS (by rw[<-hE,A1 (fun k hk=>g2 k (by omega))]) rfl
def JK{α : Type}[Inhabited α](f : α->aI){l:List α}{i:Nat}(hi:i<l.length)(x:aI): x++(l.take (i+1)).flatMap f=(x++(l.take i).flatMap f)++f (l.getD i default):=by
 rw[take_succ hi,List.flatMap_append];simp
def Di(c:cV): Prop:=c.name.length<=2 ^ 30/\iu c.kind/\c.order.length<=8/\ ∀ v ∈ c.order,bZ v=true/\iu v.n
def JL(l:List aI): Prop:=l.length<=6/\ ∀ s ∈ l,s.length<=2 ^ 30
def ac9(t:Table): Prop:=t.name.length<=2 ^ 30/\iu t.aL/\iu t.agg/\(t.ins.length<=6/\ ∀ c ∈ t.ins,Di c)/\(t.outs.length<=6/\ ∀ c ∈ t.outs,Di c)/\t.rules.length<=24/\ ∀ r ∈ t.rules,JL r.cells/\JL r.outs
def Wp{c:cV}(h:Di c): zF c.order/\c.order.all bZ=true:=by
 refine⟨⟨by have:=h.2.2.1;omega,fun v hv=>⟨(h.2.2.2 v hv).2,by have:=F7 (h.2.2.2 v hv).1;omega⟩⟩,aX.2 fun v hv=>(h.2.2.2 v hv).1⟩
def ac_{t:Table}(ok:j8 t)(h:(fB t).2.2.2=0): ac9 t:=by
 obtain⟨h5,_,_⟩:=rz h;obtain⟨hf,hl,_⟩:=qx h5
 have hn:fh t.name=true:=by
  unfold iC at hf;split at hf
  ·omega
  ·rename_i hh;simpa using hh
 obtain⟨p1,p2,p3,p4⟩:jO t.ins false=0/\jO t.outs (decide (t.aL=3))=0/\jr t=true/\t.rules.length<=24:=by
  unfold iC at hf;rw[hn,if_neg (by simp)]at hf;split at hf
  ·contradiction
  split at hf
  ·contradiction
  split at hf
  ·cases hf
  split at hf
  ·cases hf
  ·rename_i a b c d;exact⟨by simpa using a,by simpa using b,by simpa using c,by omega⟩
 obtain⟨i1,i2,i3⟩:=OB p1;obtain⟨o1,o2,o3⟩:=OB p2;have pp:=Qm p3;have hi:=Ll i1;have ho:=Ll o1
 have hc:∀ (b:Bool) (c:cV),(fh c.name=true/\1<=c.kind/\c.kind<=3)->iT c b=true->tI c->Di c:=fun b c q1 q2 q3=>by
  have w1:=OA q1.1;have w2:=TG q2 q3;exact⟨by omega,⟨by omega,by omega⟩,w2.2⟩
 refine⟨by have:=OA hn;omega,⟨by omega,by omega⟩,⟨by omega,by omega⟩,⟨hi.1,fun c hm=>hc false c (hi.2 c hm) (i3 c hm) (ok.2.1.2 c hm)⟩,⟨ho.1,fun c hm=>hc _ c (ho.2 c hm) (o3 c hm) (ok.2.2.1.2 c hm)⟩,p4,fun r hr=>?_⟩;obtain⟨j,hj,rfl⟩:=bz hr;have e:t.rules[j]=t.rules.getD j default:=by rw[aj,aN hj];rfl
 have hz:=hl j hj;unfold jE at hz;rw[<-e]at hz;obtain⟨z1,z2,_⟩:=HQ hz;have ro:=ok.2.2.2.2 _ hr;exact⟨⟨by have:=hi.1;omega,ro.1.2⟩,⟨by have:=ho.1;omega,ro.2.2⟩⟩
def yB(s:aI): (gZ s).length<=10+s.length:=by unfold gZ;have:=jy s.length;rw[List.length_append];omega
def YI{l:List ez}(hl:l.length<=8)(h:∀ v ∈ l,bZ v=true): (rV l).length<=1000:=by
 have h1:=jy l.length
 have h2:(l.flatMap lM).length<=70*l.length:=by
  clear h1 hl
  induction l with
  | nil=>simp
  | cons v l ih =>
    have a1:=HS v;have a2:=F7 (h v (by simp));have a3:=ih (fun w hw=>h w (by simp[hw]));rw[dw,aA,List.length_cons];omega
 unfold rV;rw[List.length_append];omega
def Lm(o:Bool){c:cV}(h:Di c): (rJ o c).length<=1073750000:=by
 have h1:=yB c.name;have h2:=jy c.kind;have h3:=YI h.2.2.1 (fun v hv=>(h.2.2.2 v hv).1);have h4:=h.1;unfold rJ;simp only[aA];cases o
 ·simp;omega
 ·simp;omega
def Wq{α : Type}{f : α->aI}{b:Nat}: ∀ {l:List α},(∀ x ∈ l,(f x).length<=b)->(l.flatMap f).length<=l.length*b:=by
 intro l
 induction l with
 | nil=>intro _;simp
 | cons x l ih =>
   intro h;have a1:=h x (by simp);have a2:=ih (fun y hy=>h y (by simp[hy]));rw[dw,aA,List.length_cons,bE];omega
def Ln(o:Bool){l:List cV}(hl:l.length<=6)(h:∀ c ∈ l,Di c): (lV o l).length<=6442500010:=by
 have h1:=jy l.length;have h2:=Wq (f:=rJ o) (fun c hc=>Lm o (h c hc));unfold lV;rw[List.length_append];omega
def yC{l:List aI}(h:JL l): (l.flatMap gZ).length<=6442451004:=by
 have h2:=Wq (f:=gZ) (l:=l) (b:=1073741834) (fun s hs=>by have:=yB s;have:=h.2 s hs;omega);have:=h.1;omega
def JM(c:cV): aM aK 78 [bu c] (.str []):=by
 refine aR Ej ?_;intro Q aC aD aE;repeat' first|refine aG ?_|refine aF ?_ ?_<;>intro hw<;>try omega|fail
 exact aS rfl rfl
def OE(c:cV)(h:Di c): aM aK 79 [bu c] (.str (rV c.order)):=by
 have hv:=Wp h;have h1:=Wn c.order hv.1;unfold OD at h1;rw[hv.2,if_pos rfl]at h1;simp only[dh]at h1;simp only[bu,dh];refine aR G6 ?_;intro Q aC aD aE;repeat' first|refine aG ?_|refine aF ?_ ?_<;>intro hw<;>try omega|fail
 exact aS rfl rfl
def zH (l : List cV) (o : Bool) (F : FuncId) (hl : l.length <= 6) (h : ∀ c ∈ l, Di c) (hF : ∀ c ∈ l, aM aK F [bu c] (.str (if o then rV c.order else []))) :
    aM aK 77 [cH l,.fn (.func F) [] []] (.str (lV o l)):=by
 have h1:=nk l.length ⟨by omega,by omega⟩;have h2:=jy l.length;obtain⟨E,hE⟩:∃ E,lV o l=E:=⟨_,rfl⟩;rw[hE];unfold lV at hE;generalize jk l.length=x at *;simp only[cH];refine aR Ei ?_;intro Q aC aD aE;repeat' first|refine aG ?_|refine aF ?_ ?_<;>intro hw<;>try omega|fail
 with_reducible refine bX [5,7,13,14,15,16,17,18,19,20,21,22,23,24,25,26,27,28,29,30] (fun q:Nat × List aZ=>[(13,I q.1),(5,.str (x++(l.take q.1).flatMap (rJ o)))]) (fun q=>q.2) (fun q=>q.1<=l.length/\x.length+((l.take q.1).flatMap (rJ o)).length<=10+q.1*1073750000) (fun q=>l.length-q.1) ((0,[])) ?_ ?_ ?_ ?_
 ·simp;omega
 ·rfl
 ·simp only[List.take_zero,fG,bY];simp (disch:=omega) only[iS,gC,and_true,go_sem,aC,aD,aE,Int.natCast_add,Int.cast_ofNat_Int]<;>(try trivial)<;>(try omega)<;>(try (repeat (first|trivial|(refine And.intro ?_ ?_)|(congr 1;omega))))
 rintro⟨i,τ⟩ r ⟨g1,g3⟩;dsimp only at g1 g3;by_cases hi:i<l.length
 ·have hc:=h _ (bH hi);have hf:=hF _ (bH hi);have ja:=JK (rJ o) hi x;obtain⟨c,hce⟩:∃ c,l.getD i default=c:=⟨_,rfl⟩;rw[hce]at hc hf ja;have c1:=wC c.name (by have:=hc.1;omega);have c2:=nk c.kind hc.2.1;have NR:=Lm o hc;obtain⟨y,hy⟩:∃ y,x++(l.take i).flatMap (rJ o)=y:=⟨_,rfl⟩;have UW:y.length=x.length+((l.take i).flatMap (rJ o)).length:=by rw[<-hy,aA]
  have hsl:=congrArg List.length ja;rw[hy]at ja;simp only[aA]at hsl;have ada:rJ o c=gZ c.name++jk c.kind++(if o then rV c.order else []):=rfl;generalize gZ c.name=u1 at *;generalize jk c.kind=u2 at *;generalize (if o then rV c.order else [])=u3 at *;have KB:=congrArg List.length ada;simp only[aA]at KB;have a1:((u1.length+u2.length:Nat):Int)<=IntKind.i64.max:=by show _<=(9223372036854775807:Int);omega
  have a2:(((u1++u2).length+u3.length:Nat):Int)<=IntKind.i64.max:=by rw[aA];show _<=(9223372036854775807:Int);omega
  have a3:((y.length+(u1++u2++u3).length:Nat):Int)<=IntKind.i64.max:=by simp only[aA];show _<=(9223372036854775807:Int);omega
  simp only[bu,dh]at hf;repeat' first|simp (disch:=omega) only[go_sem,aC,aD,aE,hce,hy,a1,a2,a3]|refine aG ?_|refine aF ?_ ?_<;>intro hw<;>try omega|fail
  refine⟨(i+1,τ++[aZ.cells [.str c.name,I c.kind,.aO false EV (c.order.map fD)]]),?_,?_,?_,da,?_⟩
  ·dsimp only;omega
  ·dsimp only;omega
  ·first|rfl|(simp[go_sem];done)
  ·dsimp only;rw[ja,ada];simp (disch:=omega) only[iS,gC,and_true,go_sem,aC,aD,aE,Int.natCast_add,Int.cast_ofNat_Int]<;>(try trivial)<;>(try omega)<;>(try (repeat (first|trivial|(refine And.intro ?_ ?_)|(congr 1;omega))))
 ·have ht:l.take i=l:=bp (by omega);repeat' first|simp (disch:=omega) only[go_sem,aC,aD,aE,ht]|refine aG ?_|refine aF ?_ ?_<;>intro hw<;>try omega|fail
  exact aS (by rw[<-hE]) rfl
def Dj(l:List aI)(h:JL l): aM aK 80 [bM l] (.str (l.flatMap gZ)):=by
 obtain⟨hl,hs⟩:=h;obtain⟨E,hE⟩:∃ E,l.flatMap gZ=E:=⟨_,rfl⟩;rw[hE];simp only[bM];refine aR G7 ?_;intro Q aC aD aE;repeat' first|refine aG ?_|refine aF ?_ ?_<;>intro hw<;>try omega|fail
 with_reducible refine bX [3,5,8,9,10,11,12,13,14,15,16] (fun q:Nat=>[(8,I q),(3,.str ((l.take q).flatMap gZ))]) (fun _=>[]) (fun q=>q<=l.length/\((l.take q).flatMap gZ).length<=q*1073741834) (fun q=>l.length-q) (0) ?_ ?_ ?_ ?_
 ·simp
 ·rfl
 ·simp only[List.take_zero,fG];simp (disch:=omega) only[iS,gC,and_true,go_sem,aC,aD,aE,Int.natCast_add,Int.cast_ofNat_Int]<;>(try trivial)<;>(try omega)<;>(try (repeat (first|trivial|(refine And.intro ?_ ?_)|(congr 1;omega))))
 rintro i r ⟨g1,g3⟩;by_cases hi:i<l.length
 ·have hs1:=hs _ (bH hi);have ja:=JK gZ hi [];simp only[cS]at ja;obtain⟨s,hse⟩:∃ s,l.getD i default=s:=⟨_,rfl⟩;rw[hse]at hs1 ja;have c1:=wC s (by omega);have NR:=yB s;obtain⟨y,hy⟩:∃ y,(l.take i).flatMap gZ=y:=⟨_,rfl⟩;rw[hy]at ja g3;have a1:((y.length+(gZ s).length:Nat):Int)<=IntKind.i64.max:=by show _<=(9223372036854775807:Int);omega
  have hg:(List.map bB l).getD i .undef = .str s:=by rw[getD_map _ _ _ hi,hse];rfl
  repeat' first|simp (disch:=omega) only[go_sem,aC,aD,aE,hse,hy,a1,hg]|refine aG ?_|refine aF ?_ ?_<;>intro hw<;>try omega|fail
  refine⟨i+1,?_,?_,?_,da,?_⟩
  ·refine⟨by omega,?_⟩;rw[ja,aA];omega
  ·dsimp only;omega
  ·first|rfl|(simp[go_sem];done)
  ·dsimp only;rw[ja];simp (disch:=omega) only[iS,gC,and_true,go_sem,aC,aD,aE,Int.natCast_add,Int.cast_ofNat_Int]<;>(try trivial)<;>(try omega)<;>(try (repeat (first|trivial|(refine And.intro ?_ ?_)|(congr 1;omega))))
 ·have ht:l.take i=l:=bp (by omega);repeat' first|simp (disch:=omega) only[go_sem,aC,aD,aE,ht]|refine aG ?_|refine aF ?_ ?_<;>intro hw<;>try omega|fail
  exact aS (by rw[<-hE]) rfl
def F8{a b:Nat}(h:a+b<=9223372036854775807): ((a+b:Nat):Int)<=IntKind.i64.max:=by show _<=(9223372036854775807:Int);omega
def D6(t:Table): aI:=gZ t.name++jk t.aL++jk t.agg++lV false t.ins++lV true t.outs++jk t.rules.length
def YJ(t:Table): yA t=D6 t++t.rules.flatMap nQ:=rfl
def Wr{t:Table}(h:ac9 t): (D6 t).length<=17179869184:=by
 have h1:=yB t.name;have h2:=jy t.aL;have h3:=jy t.agg;have h4:=Ln false h.2.2.2.1.1 h.2.2.2.1.2;have h5:=Ln true h.2.2.2.2.1.1 h.2.2.2.2.1.2;have h6:=jy t.rules.length;have h7:=h.1;unfold D6;simp only[List.length_append];omega
def Ws{r:eL}(h:JL r.cells/\JL r.outs): (nQ r).length<=12884902008:=by
 have h1:=yC h.1;have h2:=yC h.2;unfold nQ;rw[List.length_append];omega
def eB(p:aI × Int): AV:= .bU [.str p.1,I p.2]
abbrev adb(t:Table): aZ:= .cells [.str t.name,.aO false EC (t.ins.map bu),.aO false EC (t.outs.map bu),I t.aL,I t.agg,.aO false ER (t.rules.map cu)]
def Dk(t:Table)(ok:j8 t): aM aK 36 [dS t] (eB (j0 t)):=by
 obtain⟨E,hE⟩:∃ E,j0 t=E:=⟨_,rfl⟩;rw[hE];unfold j0 at hE;have c1:=Dd t ok;have c2:=y2 (fB t).1 t (Oy ok) (zE ok);have hb:=fun h=>ac_ ok h;obtain⟨C,hC⟩:∃ C,fB t=C:=⟨_,rfl⟩;rw[hC]at c1 c2 hE hb;obtain⟨C,m1,m2,e⟩:=C;dsimp only at hE c2 hb;simp only[Ru,dS,gQ,cH,eA]at c1 c2 ⊢;by_cases he:e≠0
 ·rw[if_pos he]at hE;refine aR s9 ?_ (by simp[eB]);intro Q aC aD aE;repeat' first|refine aG ?_|refine aF ?_ ?_<;>intro hw<;>try omega|fail
  all_goals first|exact bK|exact cj (by rw[<-hE]) rfl
 rw[if_neg he]at hE;obtain rfl:e=0:=by omega
 cases hs:iF C t with
 | false =>
   rw[hs]at hE c2;rw[if_pos rfl]at hE;refine aR s9 ?_ (by simp[eB]);intro Q aC aD aE;repeat' first|refine aG ?_|refine aF ?_ ?_<;>intro hw<;>try omega|fail
   all_goals first|exact bK|exact cj (by rw[<-hE]) rfl
 | true =>
 rw[hs]at hE c2;rw[if_neg (by simp),YJ]at hE;have h:=hb rfl;have hl:=Wr h;have hd:D6 t=gZ t.name++jk t.aL++jk t.agg++(lV false t.ins++lV true t.outs++jk t.rules.length):=by unfold D6;simp only[List.append_assoc]
 obtain⟨b1,b2,b3,b4,b5,b6,b7⟩:=h;have k1:=wC t.name (by omega);have k2:=nk t.aL b2;have k3:=nk t.agg b3;have k4:=zH t.ins false 78 b4.1 b4.2 (fun c _=>JM c);have k5:=zH t.outs true 79 b5.1 b5.2 (fun c hc=>OE c (b5.2 c hc));have k6:=nk t.rules.length ⟨by omega,by omega⟩;generalize D6 t=x at *;generalize gZ t.name=u1 at *;generalize jk t.aL=u2 at *;generalize jk t.agg=u3 at *;generalize lV false t.ins=u4 at *;generalize lV true t.outs=u5 at *;generalize jk t.rules.length=u6 at *;have KB:=congrArg List.length hd;simp only[aA]at KB;have a1:=F8 (a:=u1.length) (b:=u2.length) (by omega);have a2:=F8 (a:=(u1++u2).length) (b:=u3.length) (by simp only[aA];omega);have a3:=F8 (a:=u4.length) (b:=u5.length) (by omega);have a4:=F8 (a:=(u4++u5).length) (b:=u6.length) (by simp only[aA];omega);have a5:=F8 (a:=(u1++u2++u3).length) (b:=(u4++u5++u6).length) (by simp only[aA];omega);have hd':=hd.symm;clear hd;simp only[cH]at k4 k5;refine aR s9 ?_ (by simp[eB]);intro Q aC aD aE;repeat' first|simp (disch:=omega) only[go_sem,aC,aD,aE,a1,a2,a3,a4,a5,hd']|refine aG ?_|refine aF ?_ ?_<;>intro hw<;>try omega|fail
 all_goals first|exact bK|skip
 with_reducible refine bX [8,10,55,56,57,58,59,60,61,62,63,64,65,66,67,68] (fun q:Nat × List aZ=>[(55,I q.1),(8,.str (x++(t.rules.take q.1).flatMap nQ))]) (fun q=>adb t::adb C::q.2) (fun q=>q.1<=t.rules.length/\x.length+((t.rules.take q.1).flatMap nQ).length<=17179869184+q.1*12884902008) (fun q=>t.rules.length-q.1) ((0,[])) ?_ ?_ ?_ ?_
 ·simp;omega
 ·rfl
 ·simp only[List.take_zero,fG,bY];simp (disch:=omega) only[iS,gC,and_true,go_sem,aC,aD,aE,Int.natCast_add,Int.cast_ofNat_Int]<;>(try trivial)<;>(try omega)<;>(try (repeat (first|trivial|(refine And.intro ?_ ?_)|(congr 1;omega))))
 rintro⟨i,τ⟩ r ⟨g1,g3⟩;dsimp only at g1 g3;by_cases hi:i<t.rules.length
 ·have hr:=b7 _ (bH hi);have ja:=JK nQ hi x;obtain⟨ru,Z0⟩:∃ c,t.rules.getD i default=c:=⟨_,rfl⟩;rw[Z0]at hr ja;have qG:=Ws hr;obtain⟨y,hy⟩:∃ y,x++(t.rules.take i).flatMap nQ=y:=⟨_,rfl⟩;have UW:y.length=x.length+((t.rules.take i).flatMap nQ).length:=by rw[<-hy,aA]
  have hsl:=congrArg List.length ja;rw[hy]at ja;simp only[aA]at hsl;have hrd:nQ ru=ru.cells.flatMap gZ++ru.outs.flatMap gZ:=rfl;have d1:=Dj ru.cells hr.1;have d2:=Dj ru.outs hr.2;have f1:=yC hr.1;have f2:=yC hr.2;generalize ru.cells.flatMap gZ=v1 at *;generalize ru.outs.flatMap gZ=v2 at *;have e1:=F8 (a:=v1.length) (b:=v2.length) (by omega);have e2:=F8 (a:=y.length) (b:=(v1++v2).length) (by simp only[aA];omega);simp only[bM]at d1 d2;repeat' first|simp (disch:=omega) only[go_sem,aC,aD,aE,Z0,hy,e1,e2]|refine aG ?_|refine aF ?_ ?_<;>intro hw<;>try omega|fail
  refine⟨(i+1,τ++[aZ.cells [.aO false E1 (ru.cells.map bB),.aO false E1 (ru.outs.map bB)]]),?_,?_,?_,da,?_⟩
  ·dsimp only;omega
  ·dsimp only;omega
  ·first|rfl|(simp[go_sem];done)
  ·dsimp only;rw[ja,hrd];simp (disch:=omega) only[iS,gC,and_true,go_sem,aC,aD,aE,Int.natCast_add,Int.cast_ofNat_Int]<;>(try trivial)<;>(try omega)<;>(try (repeat (first|trivial|(refine And.intro ?_ ?_)|(congr 1;omega))))
 ·have ht:t.rules.take i=t.rules:=bp (by omega);rw[ht]at g3;have hxl:(x++t.rules.flatMap nQ).length=x.length+(t.rules.flatMap nQ).length:=aA;by_cases hbig:1400<(x++t.rules.flatMap nQ).length
  ·rw[if_pos hbig]at hE;obtain⟨z,hz⟩:∃ z,x++t.rules.flatMap nQ=z:=⟨_,rfl⟩;rw[hz]at hbig hxl;repeat' first|simp (disch:=omega) only[go_sem,aC,aD,aE,ht,hz]|refine aG ?_|refine aF ?_ ?_<;>intro hw<;>try omega|fail
   exact cj (by rw[<-hE]) rfl
  ·rw[if_neg hbig]at hE;obtain⟨z,hz⟩:∃ z,x++t.rules.flatMap nQ=z:=⟨_,rfl⟩;rw[hz]at hbig hxl hE;repeat' first|simp (disch:=omega) only[go_sem,aC,aD,aE,ht,hz]|refine aG ?_|refine aF ?_ ?_<;>intro hw<;>try omega|fail
   exact cj (by rw[<-hE]) rfl
def iL(c:ef): List AV:=[I c.kind,.str c.table.name,.aO false EC (c.table.ins.map bu),.aO false EC (c.table.outs.map bu),I c.table.aL,I c.table.agg,.aO false ER (c.table.rules.map cu),.str c.name,I c.ver,.aO false EV (c.row.map fD),I c.jF,I c.l9]
def dU(c:ef): AV:= .agg (iL c)
def OF(c:ef): (dU c).dF=true:=by simp[dU,iL]
attribute [simp] OF
def qN(k:Int): Int:=if k=1 then 1 else if k=2 then 6 else if k=3 then 2 else if k=5 then 24 else if k=6 then 8 else 0
def Wt(k:Int): Bool:=decide (1<=k/\k<=9)
def OG(k:Int): aM aK 35 [I k] (.bU [I (qN k),.bool (Wt k)]):=by
 have e0:¬(k=1\/k=2\/k=3\/k=5\/k=6)->qN k=0:=fun h=>by simp only[not_or]at h;simp[qN,h]
 refine aR G3 ?_;intro Q aC aD aE;by_cases k1:k=1
 ·subst k1;repeat' first|refine aG ?_|refine aF ?_ ?_<;>intro hw<;>try omega|fail
  exact cj rfl rfl
 by_cases k2:k=2
 ·subst k2;repeat' first|refine aG ?_|refine aF ?_ ?_<;>intro hw<;>try omega|fail
  exact cj rfl rfl
 by_cases k3:k=3
 ·subst k3;repeat' first|refine aG ?_|refine aF ?_ ?_<;>intro hw<;>try omega|fail
  exact cj rfl rfl
 by_cases k5:k=5
 ·subst k5;repeat' first|refine aG ?_|refine aF ?_ ?_<;>intro hw<;>try omega|fail
  exact cj rfl rfl
 by_cases k6:k=6
 ·subst k6;repeat' first|refine aG ?_|refine aF ?_ ?_<;>intro hw<;>try omega|fail
  exact cj rfl rfl
 repeat' first|refine aG ?_|refine aF ?_ ?_<;>intro hw<;>try omega|fail
 all_goals first|exact bK|(refine cj ?_ rfl;rw[e0 (by omega)];simp[Wt];omega)
def aa8(k:Int): (j5 .and .i64 (qN k) 1≠0↔k=1)/\(j5 .and .i64 (qN k) 2≠0↔k=2\/k=3)/\(j5 .and .i64 (qN k) 4≠0↔k=2)/\(j5 .and .i64 (qN k) 8≠0↔k=5\/k=6)/\(j5 .and .i64 (qN k) 16≠0↔k=5):=by
 rw[mz];by_cases k1:k=1
 ·subst k1;decide +kernel
 by_cases k2:k=2
 ·subst k2;decide +kernel
 by_cases k3:k=3
 ·subst k3;decide +kernel
 by_cases k5:k=5
 ·subst k5;decide +kernel
 by_cases k6:k=6
 ·subst k6;decide +kernel
 have e:qN k=0:=by simp[qN, *]
 have z:∀ d ∈ [(1:Int),2,4,8,16],mO .and .i64 0 d=0:=by decide +kernel
 rw[e,z 1 (by simp),z 2 (by simp),z 4 (by simp),z 8 (by simp),z 16 (by simp)];simp[k1,k2,k3,k5,k6]
noncomputable def hasB (b1 b2 b3 b4 b5:Bool):Int :=
 let p1:=if b1 then 0 else j5 .or .i64 0 1
 let p2:=if b2 then p1 else j5 .or .i64 p1 2
 let p3:=if b3 then p2 else j5 .or .i64 p2 4
 let p4:=if b4 then p3 else j5 .or .i64 p3 8
 if b5 then p4 else j5 .or .i64 p4 16
noncomputable def JN (c:ef):Int:=hasB (iF c.table iD) (c.name==[] && decide (c.ver=0)) (decide (c.row.length=0)) (decide (c.jF=0)) (decide (c.l9=0))
def aa9(c:ef): j5 .andNot .i64 (JN c) (qN c.kind)≠0↔tL c=false:=by
 unfold JN tL;generalize iF c.table iD=b1;generalize (c.name==[] && decide (c.ver=0))=b2;generalize decide (c.row.length=0)=b3;generalize decide (c.jF=0)=b4;generalize decide (c.l9=0)=b5;generalize c.kind=k;unfold hasB;rw[mz];by_cases k1:k=1
 ·subst k1;revert b1 b2 b3 b4 b5;decide +kernel
 by_cases k2:k=2
 ·subst k2;revert b1 b2 b3 b4 b5;decide +kernel
 by_cases k3:k=3
 ·subst k3;revert b1 b2 b3 b4 b5;decide +kernel
 by_cases k5:k=5
 ·subst k5;revert b1 b2 b3 b4 b5;decide +kernel
 by_cases k6:k=6
 ·subst k6;revert b1 b2 b3 b4 b5;decide +kernel
 have e:qN k=0:=by simp[qN, *]
 have hd:∀ p:Prop,[Decidable p]->¬p->decide p=false:=fun p _ h=>by simp[h]
 rw[e,hd _ k1,hd (k=2\/k=3) (by omega),hd _ k2,hd (k=5\/k=6) (by omega),hd _ k5];revert b1 b2 b3 b4 b5;decide +kernel
def Qq(c:ef)(ok:g_ c): aM aK 37 [dU c] (I (JN c)):=by
 have c1:=y2 c.table iD (zE ok.2.1) JH;obtain⟨E,hE⟩:∃ E,JN c=E:=⟨_,rfl⟩;rw[hE];unfold JN at hE;have hl:=ok.2.2.2.2.1.1;obtain⟨k,t,n,v,r,f,m⟩:=c;dsimp only at c1 hE hl;generalize iF t iD=b1 at *;have gP:(n==[] && decide (v=0))=decide (n=[]/\v=0):=by cases n<;>simp
 rw[gP]at hE;unfold hasB at hE;have d2:n=[]->v=0->decide (n=[]/\v=0)=true:=fun h1 h2=>by simp[h1,h2]
 have d2n:¬n=[]->decide (n=[]/\v=0)=false:=fun h1=>by simp[h1]
 have d2v:¬v=0->decide (n=[]/\v=0)=false:=fun h1=>by simp[h1]
 have d3:r.length=0->decide (r.length=0)=true:=fun h=>decide_eq_true h;have d3n:¬r.length=0->decide (r.length=0)=false:=fun h=>decide_eq_false h;have d4:f=0->decide (f=0)=true:=fun h=>decide_eq_true h;have d4n:¬f=0->decide (f=0)=false:=fun h=>decide_eq_false h;have d5:m=0->decide (m=0)=true:=fun h=>decide_eq_true h;have d5n:¬m=0->decide (m=0)=false:=fun h=>decide_eq_false h;simp only[dS,gQ,cH,eA,iD,bf]at c1;refine aR Jc ?_;intro Q aC aD aE;simp only[dU,iL];cases b1
 all_goals
  repeat' first|refine aG ?_|refine ye c1 ?_|refine aF ?_ ?_<;>intro hw<;>try omega|fail
 all_goals first|exact bK|(refine aS ?_ rfl;rw[<-hE];(first|rw[d2 (by assumption) (by assumption)]|rw[d2n (by assumption)]|rw[d2v (by assumption)]);(first|rw[d3 (by omega)]|rw[d3n (by omega)]);(first|rw[d4 (by assumption)]|rw[d4n (by assumption)]);(first|rw[d5 (by assumption)]|rw[d5n (by assumption)]);rfl)
def Bx(n:Int): aM aK 39 [I n] (.bool (oS n)):=by
 unfold oS;refine aR FH ?_;intro Q aC aD aE;repeat' first|refine aG ?_|refine aF ?_ ?_<;>intro hw<;>try omega|fail
 all_goals (refine aS ?_ rfl;simp;omega)
def HT(v:ez)(h:iu v.n): aM aK 84 [fD v] (.bool (!bZ v)):=by
 have c1:=q_ v.kind v.n v.s h.1 h.2;have ev:bZ ⟨v.kind,v.n,v.s⟩=bZ v:=rfl;rw[ev]at c1;generalize bZ v=b at *;refine aR Ct ?_;intro Q aC aD aE;cases b<;>simp only[nF,if_true,Bool.false_eq_true,if_false]at c1
 all_goals
  repeat' first|refine aG ?_|refine aF ?_ ?_<;>intro hw<;>try omega|fail
 all_goals exact aS rfl rfl
def y4 (fn : FuncId) (cap : List AV) (hcap : AV.cB cap = true) (p : ez -> Bool) (l : List ez) (h : ∀ k, k < l.length -> aM aK fn (fD (l.getD k default) :: cap) (.bool (p (l.getD k default)))) (hl : l.length <= 2 ^ 62) :
    aM aK 128 [dh l,.fn (.func fn) [] cap] (I (fI p l)):=by
 refine aR wv ?_ (by simp[AV.dF,AV.cB,hcap]);intro Q aC aD aE;repeat' first|refine aG ?_|refine aF ?_ ?_<;>intro hw<;>try omega|fail
 with_reducible refine bX [4,5,8,9,10,11,12,13,14,15,16,17,18] (fun i:Nat=>[(8,I i)]) (fun _=>[]) (fun i=>i<=l.length/\ ∀ k,k<i->p (l.getD k default)=false) (fun i=>l.length-i) (0) ?_ ?_ ?_ ?_
 ·simp
 ·rfl
 ·exact at_
 ·rintro i r ⟨hi,hp⟩;by_cases hin:i<l.length
  ·have hx:=h i hin;simp only[fD]at hx;repeat' first|refine aG ?_|refine aF ?_ ?_<;>intro hw<;>try omega|fail
   ·refine aS ?_ rfl;refine congrArg I ?_;exact(mo hin hp hw).symm
   ·refine⟨i+1,?_,?_,by first|rfl|(simp[go_sem];done),da,at_⟩<;>(try dsimp only)
    ·exact⟨by omega,bP hp hw⟩
    ·omega
  ·repeat' first|refine aG ?_|refine aF ?_ ?_<;>intro hw<;>try omega|fail
   refine aS ?_ rfl;refine congrArg I ?_;exact(lZ fun k hk=>hp k (by omega)).symm
def wD (fn : FuncId) (cap : List AV) (hcap : AV.cB cap = true) (p : ez -> Bool) (l : List ez) (h : ∀ k, k < l.length -> aM aK fn (fD (l.getD k default) :: cap) (.bool (p (l.getD k default)))) (hl : l.length <= 2 ^ 62) :
    aM aK 83 [dh l,.fn (.func fn) [] cap] (.bool (l.any p)):=by
 refine aR uq ?_ (by simp[AV.dF,AV.cB,hcap]);intro Q aC aD aE;have hc:=y4 fn cap hcap p l h hl;simp only[dh]at hc;repeat' first|refine aG ?_|refine aF ?_ ?_<;>intro hw<;>try omega|fail
 all_goals refine aS ?_ rfl
 all_goals rw[<-Ay]
def Mx(l:List ez)(hl:zF l): aM aK 40 [dh l] (.bool (decide (l.length<=6) && l.all bZ)):=by
 obtain⟨nX,vy⟩:=hl;have c1:=wD 84 [] rfl (fun v=> !bZ v) l (fun k hk=>HT _ (vy _ (bH hk)).1) (by omega);have e:l.any (fun v=> !bZ v) = !(l.all bZ):=by rw[List.all_eq_not_any_not];simp
 rw[e]at c1;generalize l.all bZ=b at *;simp only[dh]at c1 ⊢;refine aR FI ?_;intro Q aC aD aE;repeat' first|refine aG ?_|refine aF ?_ ?_<;>intro hw<;>try omega|fail
 all_goals (refine aS ?_ rfl;simp;try omega)
def TJ(a b:ef)(ha:g_ a)(hb:g_ b): aM aK 29 [dU a,dU b] (.bool (mM a b)):=by
 have c1:=Tw a.table b.table (zE ha.2.1) (zE hb.2.1);have c2:=Bv a.row b.row (by have:=ha.2.2.2.2.1.1;omega) (by have:=hb.2.2.2.2.1.1;omega);obtain⟨E,hE⟩:∃ E,mM a b=E:=⟨_,rfl⟩;rw[hE];unfold mM at hE;generalize iF a.table b.table=x at *;generalize gV (fun x y=>x==y) a.row b.row=y at *;have hn:(a.name==b.name)=decide (a.name=b.name):=by rw[a_];simp
 rw[hn]at hE;clear hn;simp only[dS,gQ,cH,eA,dh]at c1 c2;refine aR Md ?_;intro Q aC aD aE;simp only[dU,iL];repeat' first|refine aG ?_|refine aF ?_ ?_<;>intro hw<;>try omega|fail
 all_goals (refine aS ?_ rfl;rw[<-hE];first|(simp[*];done)|(refine congrArg AV.bool ?_;rw[a_];simp[*];done))
def F9 {σ : ae} {c : ef} {a b r w : AV} (ha : View σ a (.aO false EC (c.table.ins.map bu))) (hb : View σ b (.aO false EC (c.table.outs.map bu))) (hr : View σ r (.aO false ER (c.table.rules.map cu))) (hw : View σ w (.aO false EV (c.row.map fD))) :
    View σ (.agg [I c.kind,.str c.table.name,a,b,I c.table.aL,I c.table.agg,r,.str c.name,I c.ver,w,I c.jF,I c.l9]) (dU c) :=
 View.s5 (.cons (.refl _ rfl) (.cons (.refl _ rfl) (.cons ha (.cons hb (.cons (.refl _ rfl) (.cons (.refl _ rfl) (.cons hr (.cons (.refl _ rfl) (.cons (.refl _ rfl) (.cons hw (.cons (.refl _ rfl) (.cons (.refl _ rfl) (.nil _)))))))))))))
def TM(k e:Int)(q nm:Bool)(v:Int)(pf pc pl:Bool): Int:=if k=1/\e≠0 then e else if 1<=k/\k<=9/\q=true/\((k=2\/k=3)->nm=true/\0<=v/\v<=2147483648)/\pf=true/\pc=true/\pl=true then 0 else 2
def Wu(c:ef): dX c=TM c.kind (j0 c.table).2 (tL c) (fh c.name) c.ver (oS c.jF) (oS c.l9) (decide (c.row.length<=6) && c.row.all bZ):=by
 unfold dX TM;simp only[aq,decide_eq_true_eq]
def By(c:ef)(ok:g_ c): aM aK 19 [dU c] (I (dX c)):=by
 rw[Wu];have c1:=OG c.kind;have c2:=Dk c.table ok.2.1;have c3:=Qq c ok;have c4:=uy c.name (by have:=ok.2.2.1;omega);have c5:=Bx c.jF;have c6:=Bx c.l9;have c7:=Mx c.row ok.2.2.2.2.1;have hh:=aa9 c;have h2:=(aa8 c.kind).2.1
 have h1:qN c.kind=1↔c.kind=1:=by
  unfold qN;repeat' split
  all_goals omega
 have ho:Wt c.kind=true↔(1<=c.kind/\c.kind<=9):=by simp[Wt]
 generalize qN c.kind=p at *;generalize Wt c.kind=o at *;generalize JN c=s at *;generalize tL c=q at *;obtain⟨w,e1⟩:∃ w,j5 .andNot .i64 s p=w:=⟨_,rfl⟩;obtain⟨u,e2⟩:∃ u,j5 .and .i64 p 2=u:=⟨_,rfl⟩;rw[e1]at hh;rw[e2]at h2;generalize j0 c.table=B at *;obtain⟨bs,be⟩:=B;generalize fh c.name=nm at *;generalize oS c.jF=pf at *;generalize oS c.l9=pc at *;generalize (decide (c.row.length<=6) && c.row.all bZ)=pl at *;obtain⟨E,hE⟩:∃ E,TM c.kind be q nm c.ver pf pc pl=E:=⟨_,rfl⟩;dsimp only;rw[hE];unfold TM at hE;simp only[eB,dS,gQ,cH,eA,dh,dU,iL]at c2 c3 c7 ⊢;refine aR FG ?_ (by simp[dU,iL]);intro Q aC aD aE;repeat' first|simp (disch:=omega) only[go_sem,aC,aD,aE,e1,e2]|refine aG ?_|refine aF ?_ ?_<;>intro hw<;>try omega|fail
 all_goals first
  | exact bK
  | (refine aS ?_ rfl
     refine congrArg I ?_;rw[<-hE];clear hE aC aD aE c1 c2 c3 c4 c5 c6 c7 ok e1 e2;split
     ·first|omega|(simp_all;done)
     ·split
      ·first|rfl|(exfalso;simp_all;done)|(exfalso;simp_all;omega)
      ·first|rfl|(exfalso;simp_all;done)|(exfalso;simp_all;omega))
  | skip
def Wv{a b:Nat}(h:a+b<=2 ^ 40): ((a+b:Nat):Int)<=IntKind.i64.max:=by show _<=(9223372036854775807:Int);omega
abbrev EM: El:=⟨true,12⟩
def jG(l:List ef): AV:= .aO false EM (l.map dU)
def YK(l:List ef): AV.cB (l.map dU)=true:=iJ _ _ OF
attribute [simp] YK
attribute [go_sem] dU iL
def agB{l:List ef}(h:∀ k,k<l.length->dX (l.getD k default)=0): ∀ c ∈ l,dX c=0:=fun c hc=>by
 obtain⟨k,hk,rfl⟩:=bz hc;have:=h k hk;simpa[aj,hk]using this
@[go_sem] def agC (sz off n : Nat) (cs : List AV) (K : AV -> Prop) (h : ¬(off = 0 /\ n = sz)) : uQ false ⟨true, sz⟩ (.agg cs) off true n (.mk : Tg K) = req (off + n <= sz) (.mk : Tg (K (.agg ((cs.drop off).take n)))) := by
  refine aaz _ _ _ _ _ ?_;rw[Bool.eq_false_iff];intro hh;simp at hh;exact h hh
