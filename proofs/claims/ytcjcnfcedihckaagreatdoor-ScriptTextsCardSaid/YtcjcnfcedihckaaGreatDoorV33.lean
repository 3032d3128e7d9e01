/- Part. -/
import Derived.Test.YtcjcnfcedihckaaGreatDoorV32
set_option linter.all false
set_option maxHeartbeats 1000000
namespace Go.Proofs.YtcjcnfcedihckaaGreatDoor
open Go.AM
set_option maxRecDepth 4000
def R_(n:Int)(h:jv n): aH aE 177 [I n] (.int .u64 (rU n)):=by
 obtain⟨h1,h2⟩:=h;refine aJ K0 ?_;intro Q au aA aB;repeat' first|refine aq ?_|refine ak ?_ ?_<;>intro hw<;>try omega|fail
 all_goals (refine aL ?_ rfl;refine congrArg (AV.int .u64) ?_;unfold rU)
 ·rw[if_pos (by omega)];omega
 ·rw[if_neg (by omega)];omega
def me(n:Int)(h:jv n): aH aE 137 [I n] (.str (fM n)):=by
 have hc:=NA h.1 h.2;obtain⟨E,hE⟩:∃ E,fM n=E:=⟨_,rfl⟩;rw[hE];unfold fM at hE;have h1:=R_ n h;generalize rU n=c0 at *;refine aJ Mn ?_;intro Q au aA aB;repeat' first|refine aq ?_|refine ak ?_ ?_<;>intro hw<;>try omega|fail
 with_reducible refine bn [3,4,7,8,9,10,11,12,13,14,15,16,17] (fun q:Nat × aG × Nat=>[(3,.int .u64 q.2.2),(4,.own E1 0 q.2.1.length 0 q.2.1.length)]) (fun q=>[.vec E1 (ot q.2.1)]) (fun q=>q.1<=9/\q.2.1.length=q.1/\q.2.2*128 ^ q.1<18446744073709551616/\E=q.2.1++ua (9-q.1) q.2.2) (fun q=>10-q.1) ((0,[],c0)) ?_ ?_ ?_ ?_
 ·exact⟨by omega,rfl,by show c0*1<_;omega,by simp[hE]⟩
 ·rfl
 ·exact at_
 rintro⟨i,s,c⟩ r ⟨g1,g2,g3,g4⟩;dsimp only at g1 g2 g3 g4;have ae7:c<18446744073709551616:=Nat.lt_of_le_of_lt (Nat.le_mul_of_pos_right c (Nat.pow_pos (by decide))) g3;have hm:128+(c:Int) % 128=((uR c).toNat:Int):=by rw[uR,u8 _ (by omega)];omega
 have hb8:(uR c).toNat<256:=(uR c).toNat_lt;by_cases hb:128<=c
 ·have hi : i < 9 := by
   rcases Nat.lt_or_ge i 9 with h|h
   ·exact h
   ·obtain rfl:i=9:=by omega
    have e:(128:Nat) ^ 9=9223372036854775808:=by decide
    rw[e]at g3;omega
  obtain⟨k,hk⟩:∃ k,9-i=k+1:=⟨8-i,by omega⟩;rw[hk,Ki hb]at g4;repeat' first|simp (disch:=omega) only[go_sem,au,aA,aB,hm,C6]|refine aq ?_|refine ak ?_ ?_<;>intro hw<;>try omega|fail
  refine⟨(i+1,s++[uR c],c / 128),?_,?_,?_,bL,at_⟩<;>(try dsimp only)
  ·refine⟨by omega,by simp[g2],?_,?_⟩
   ·have e2 : c / 128 * 128 ^ (i + 1) = 128 * (c / 128) * 128 ^ i := by
     rw[Nat.pow_succ,Nat.mul_comm (128 ^ i) 128,<-Nat.mul_assoc,Nat.mul_comm (c / 128) 128]
    exact Nat.lt_of_le_of_lt (by rw[e2];exact bE _ (by omega)) g3
   ·have:9-(i+1)=k:=by omega
    rw[this];simp[g4]
  ·omega
  all_goals (first|(simp[g2];done)|skip)
 ·rw[ND (by omega)]at g4;have hlo:(c:Int)=((Ck c).toNat:Int):=by rw[<-zP];omega
  have hw8:eS .u8 (c:Int)=((Ck c).toNat:Int):=by rw[wrap_u8,<-zP];omega
  repeat' first|simp (disch:=omega) only[go_sem,au,aA,aB,hw8,C6]|refine aq ?_|refine ak ?_ ?_<;>intro hw<;>try omega|fail
  exact aL (by rw[g4]) rfl
def rX(s:aG)(hs:s.length<=2 ^ 61): aH aE 136 [.str s] (.str (dn s)):=by
 have h1:=me s.length ⟨by omega,by omega⟩;have h2:=fD s.length;unfold dn;generalize fM s.length=x at *;refine aJ KX ?_;intro Q au aA aB;have Wg:((x.length+s.length:Nat):Int)<=IntKind.i64.max:=by show _<=(9223372036854775807:Int);omega
 repeat' first|refine aq ?_|refine ak ?_ ?_<;>intro hw<;>try omega|fail
 exact aL rfl rfl
def v8(v:eu): aG × Int:=if bT v then(iK v,0)else ([],2)
def zQ(v:eu): (iK v).length<=30+v.s.length:=by
 have h1:=fD v.kind;have h2:=fD v.n;have h3:=fD v.s.length;unfold iK dn;rw[aC];split
 ·rw[aC];omega
 split
 ·omega
 ·simp;omega
def Pe(k n:Int)(s:aG)(hn:jv n)(hs:s.length<=2 ^ 60): aH aE 162 [.agg [I k,I n,.str s]] (.bJ [.str (v8 ⟨k,n,s⟩).1,I (v8 ⟨k,n,s⟩).2]):=by
 have c1:=pW k n s hn.1 hn.2;obtain⟨E,hE⟩:∃ E,v8 ⟨k,n,s⟩=E:=⟨_,rfl⟩;rw[hE];unfold v8 iK at hE;dsimp only at hE;have hk:=@xG ⟨k,n,s⟩;dsimp only at hk;generalize bT ⟨k,n,s⟩=b at *;cases b
 ·simp only[mw,Bool.false_eq_true,if_false]at c1 hE;refine aJ x7 ?_;intro Q au aA aB;repeat' first|refine aq ?_|refine ak ?_ ?_<;>intro hw<;>try omega|fail
  exact bp (by rw[<-hE]) rfl
 have hk:=hk rfl;simp only[mw,if_true]at c1 hE;have c2:=mc k ⟨by omega,by omega⟩;have c3:=mc n hn;have c4:=uS s (by omega);have l1:=fD k;have l2:=fD n;have l3:(dn s).length<=10+s.length:=by unfold dn;have:=fD s.length;rw[List.length_append];omega
 generalize fM k=x at *;generalize fM n=y at *;generalize dn s=z at *;have a1:((x.length+y.length:Nat):Int)<=IntKind.i64.max:=by show _<=(9223372036854775807:Int);omega
 have a2:((x.length+z.length:Nat):Int)<=IntKind.i64.max:=by show _<=(9223372036854775807:Int);omega
 refine aJ x7 ?_;intro Q au aA aB;repeat' first|refine aq ?_|refine ak ?_ ?_<;>intro hw<;>try omega|fail
 all_goals first
  | exact bh
  |(refine bp ?_ rfl;rw[<-hE];simp_all;done)
  |(refine bp ?_ rfl;rw[<-hE,if_neg (by omega),if_neg (by omega),List.append_nil];done)
def Pf(k n:Int)(s:aG)(hk:jv k)(hn:jv n)(hs:s.length<=2 ^ 60): aH aE 221 [.agg [I k,I n,.str s]] (.str (iK ⟨k,n,s⟩)):=by
 obtain⟨E,hE⟩:∃ E,iK ⟨k,n,s⟩=E:=⟨_,rfl⟩;rw[hE];unfold iK at hE;dsimp only at hE;have c2:=me k hk;have c3:=me n hn;have c4:=rX s (by omega);have l1:=fD k;have l2:=fD n;have l3:(dn s).length<=10+s.length:=by unfold dn;have:=fD s.length;rw[List.length_append];omega
 generalize fM k=x at *;generalize fM n=y at *;generalize dn s=z at *;have a1:((x.length+y.length:Nat):Int)<=IntKind.i64.max:=by show _<=(9223372036854775807:Int);omega
 have a2:((x.length+z.length:Nat):Int)<=IntKind.i64.max:=by show _<=(9223372036854775807:Int);omega
 refine aJ IK ?_;intro Q au aA aB;repeat' first|refine aq ?_|refine ak ?_ ?_<;>intro hw<;>try omega|fail
 all_goals first
  | exact bh
  |(refine aL ?_ rfl;rw[<-hE];simp_all;done)
  |(refine aL ?_ rfl;rw[<-hE,if_neg (by omega),if_neg (by omega),List.append_nil];done)
def NG(l:List eu): aG × Int:=if l.all bT then(rV l,0)else ([],2)
def Kj{l:List eu}{i:Nat}(hi:i<l.length)(x:aG): x++(l.take (i+1)).flatMap iK=(x++(l.take i).flatMap iK)++iK (l.getD i default):=by
 rw[take_succ hi,List.flatMap_append];simp
def Uj(l:List eu)(hl:v7 l): aH aE 123 [cU l] (.bJ [.str (NG l).1,I (NG l).2]):=by
 obtain⟨uk,DR⟩:=hl;have h1:=mc l.length ⟨by omega,by omega⟩;have h2:=fD l.length;obtain⟨E,hE⟩:∃ E,NG l=E:=⟨_,rfl⟩;rw[hE];unfold NG rV at hE;generalize fM l.length=x at *;simp only[cU];refine aJ Ml ?_;intro Q au aA aB;repeat' first|refine aq ?_|refine ak ?_ ?_<;>intro hw<;>try omega|fail
 with_reducible refine bn [2,3,4,6,7,8,14,15,16,17,18,19,20,21,22,23,24,25,26,27,28,29] (fun q:Nat × List bx=>[(14,I q.1),(4,.str (x++(l.take q.1).flatMap iK))]) (fun q=>q.2) (fun q=>q.1<=l.length/\(∀ k,k<q.1->bT (l.getD k default)=true)/\x.length+((l.take q.1).flatMap iK).length<=10+q.1*2147483648) (fun q=>l.length-q.1) ((0,[])) ?_ ?_ ?_ ?_
 ·simp;omega
 ·rfl
 ·simp only[ff,eZ,List.append_nil];simp (disch:=omega) only[dU,dm,and_true,go_sem,au,aA,aB,Int.natCast_add,Int.cast_ofNat_Int]<;>(try trivial)<;>(try omega)<;>(try (repeat (first|trivial|(refine And.intro ?_ ?_)|(congr 1;omega))))
 rintro⟨i,τ⟩ r ⟨g1,g2,g3⟩;dsimp only at g1 g2 g3;by_cases hi:i<l.length
 ·have hv:=DR _ (aV hi);have hne:=fun h=>zN (p:=bT) hi h;have bV:=fun he=>aY (q:=fun k=>bT (l.getD k default)=true) g2 (i:=i) he;have eW:=Kj hi x;obtain⟨v,kU⟩:∃ v,l.getD i default=v:=⟨_,rfl⟩;rw[kU]at hv hne bV eW;have h3:=Pe v.kind v.n v.s hv.1 (by omega);have Am:=zQ v;have ev:v8 ⟨v.kind,v.n,v.s⟩=v8 v:=rfl;rw[ev]at h3;unfold v8 at h3;obtain⟨y,hy⟩:∃ y,x++(l.take i).flatMap iK=y:=⟨_,rfl⟩;have JL:y.length=x.length+((l.take i).flatMap iK).length:=by rw[<-hy,aC]
  have hsl:=congrArg List.length eW;rw[hy]at eW;simp only[aC]at hsl;have Wg:((y.length+(iK v).length:Nat):Int)<=IntKind.i64.max:=by show _<=(9223372036854775807:Int);omega
  generalize bT v=b at *;cases b
  ·simp only[Bool.false_eq_true,if_false]at h3;rw[hne rfl]at hE;simp only[Bool.false_eq_true,if_false]at hE;repeat' first|simp (disch:=omega) only[go_sem,au,aA,aB,kU,hy]|refine aq ?_|refine ak ?_ ?_<;>intro hw<;>try omega|fail
   all_goals first|exact bh|(exact bp (by rw[<-hE]) rfl)
  ·simp only[if_true]at h3;repeat' first|simp (disch:=omega) only[go_sem,au,aA,aB,kU,hy]|refine aq ?_|refine ak ?_ ?_<;>intro hw<;>try omega|fail
   all_goals first
    | exact bh
    | (refine ⟨(i + 1, τ ++ [bx.cells [I v.kind, I v.n, .str v.s]]), ?_, ?_, ?_, bL, ?_⟩
       ·refine⟨by dsimp only;omega,bV rfl,?_⟩;dsimp only;omega
       ·dsimp only;omega
       ·first|rfl|(simp[go_sem];done)
       ·dsimp only;rw[eW];simp (disch:=omega) only[dU,dm,and_true,go_sem,au,aA,aB,Int.natCast_add,Int.cast_ofNat_Int]<;>(try trivial)<;>(try omega)<;>(try (repeat (first|trivial|(refine And.intro ?_ ?_)|(congr 1;omega)))))
 ·have ht:l.take i=l:=aT (by omega);rw[zM (fun k hk=>g2 k (by omega)),if_pos rfl]at hE;repeat' first|simp (disch:=omega) only[go_sem,au,aA,aB,ht]|refine aq ?_|refine ak ?_ ?_<;>intro hw<;>try omega|fail
  exact bp (by rw[<-hE]) rfl
def Uk(l:List eu)(hl:v7 l)(hr:l.all bT=true): aH aE 178 [cU l] (.str (rV l)):=by
 obtain⟨uk,DR⟩:=hl;have h1:=me l.length ⟨by omega,by omega⟩;have h2:=fD l.length;obtain⟨E,hE⟩:∃ E,rV l=E:=⟨_,rfl⟩;rw[hE];unfold rV at hE;generalize fM l.length=x at *;simp only[cU];refine aJ Mp ?_;intro Q au aA aB;repeat' first|refine aq ?_|refine ak ?_ ?_<;>intro hw<;>try omega|fail
 with_reducible refine bn [3,4,8,9,10,11,12,13,14,15,16,17,18,19,20] (fun q:Nat=>[(4,I q),(3,.str (x++(l.take q).flatMap iK))]) (fun _=>[]) (fun q=>q<=l.length/\x.length+((l.take q).flatMap iK).length<=10+q*2147483648) (fun q=>l.length-q) (0) ?_ ?_ ?_ ?_
 ·simp;omega
 ·rfl
 ·simp only[ff,eZ,List.append_nil];simp (disch:=omega) only[dU,dm,and_true,go_sem,au,aA,aB,Int.natCast_add,Int.cast_ofNat_Int]<;>(try trivial)<;>(try omega)<;>(try (repeat (first|trivial|(refine And.intro ?_ ?_)|(congr 1;omega))))
 rintro i r ⟨g1,g3⟩;by_cases hi:i<l.length
 ·have hv:=DR _ (aV hi);have Xc:=bq.1 hr _ (aV hi);have eW:=Kj hi x;obtain⟨v,kU⟩:∃ v,l.getD i default=v:=⟨_,rfl⟩;rw[kU]at hv eW Xc;have hk:=xG Xc;have h3:=Pf v.kind v.n v.s ⟨by omega,by omega⟩ hv.1 (by omega);have Am:=zQ v;have ev:iK ⟨v.kind,v.n,v.s⟩=iK v:=rfl;rw[ev]at h3;obtain⟨y,hy⟩:∃ y,x++(l.take i).flatMap iK=y:=⟨_,rfl⟩;have JL:y.length=x.length+((l.take i).flatMap iK).length:=by rw[<-hy,aC]
  have hsl:=congrArg List.length eW;rw[hy]at eW;simp only[aC]at hsl;have Wg:((y.length+(iK v).length:Nat):Int)<=IntKind.i64.max:=by show _<=(9223372036854775807:Int);omega
  repeat' first|simp (disch:=omega) only[go_sem,au,aA,aB,kU,hy]|refine aq ?_|refine ak ?_ ?_<;>intro hw<;>try omega|fail
  refine⟨i+1,?_,?_,?_,bL,?_⟩
  ·refine⟨by omega,?_⟩;omega
  ·dsimp only;omega
  ·first|rfl|(simp[go_sem];done)
  ·dsimp only;rw[eW];simp (disch:=omega) only[dU,dm,and_true,go_sem,au,aA,aB,Int.natCast_add,Int.cast_ofNat_Int]<;>(try trivial)<;>(try omega)<;>(try (repeat (first|trivial|(refine And.intro ?_ ?_)|(congr 1;omega))))
 ·have ht:l.take i=l:=aT (by omega);repeat' first|simp (disch:=omega) only[go_sem,au,aA,aB,ht]|refine aq ?_|refine ak ?_ ?_<;>intro hw<;>try omega|fail
  exact aL (by rw[<-hE]) rfl
def I_(l:List eu)(hl:v7 l): aH aE 51 [cU l] (.bool (l.all bT)):=by
 obtain⟨uk,DR⟩:=hl;obtain⟨E,hE⟩:∃ E,l.all bT=E:=⟨_,rfl⟩;rw[hE];simp only[cU];refine aJ C_ ?_;intro Q au aA aB;repeat' first|refine aq ?_|refine ak ?_ ?_<;>intro hw<;>try omega|fail
 with_reducible refine bn [2,3,4,5,6,7,8,9,10,11,12,13,14,15] (fun q:Nat=>[(3,I q)]) (fun _=>[]) (fun q=>q<=l.length/\ ∀ k,k<q->bT (l.getD k default)=true) (fun q=>l.length-q) (0) ?_ ?_ ?_ ?_
 ·simp
 ·rfl
 ·exact at_
 rintro i r ⟨g1,g2⟩;by_cases hi:i<l.length
 ·have hv:=DR _ (aV hi);have hne:=fun h=>zN (p:=bT) hi h;have bV:=fun he=>aY (q:=fun k=>bT (l.getD k default)=true) g2 (i:=i) he;obtain⟨v,kU⟩:∃ v,l.getD i default=v:=⟨_,rfl⟩;rw[kU]at hv hne bV;have h3:=xq v.kind v.n v.s (by omega);have ev:bT ⟨v.kind,v.n,v.s⟩=bT v:=rfl;rw[ev]at h3;generalize bT v=b at *;repeat' first|simp (disch:=omega) only[go_sem,au,aA,aB,kU]|refine aq ?_|refine ak ?_ ?_<;>intro hw<;>try omega|fail
  all_goals first
   | exact bh
   |(exact aL (by rw[<-hE,hne (by simp_all)]) rfl)
   | (refine ⟨i + 1, ?_, ?_, by first | rfl | (simp [go_sem]; done), bL, at_⟩ <;> (try dsimp only)
      ·exact⟨by omega,bV (by simp_all)⟩
      ·omega)
 ·repeat' first|refine aq ?_|refine ak ?_ ?_<;>intro hw<;>try omega|fail
  exact aL (by rw[<-hE,zM (fun k hk=>g2 k (by omega))]) rfl
def Ul(l:List eu): aH aE 18 [cU l] (.bool (decide (l.length<=12) && l.all oM)):=by
 obtain⟨E,hE⟩:∃ E,(decide (l.length<=12) && l.all oM)=E:=⟨_,rfl⟩;rw[hE];simp only[cU];refine aJ Er ?_;intro Q au aA aB;repeat' first|refine aq ?_|refine ak ?_ ?_<;>intro hw<;>try omega|fail
 ·exact aL (by rw[<-hE,decide_eq_false (by omega),dA]) rfl
 have h12:l.length<=12:=by omega
 rw[decide_eq_true h12,c_]at hE;with_reducible refine bn [2,3,7,8,9,10,11,12,13,14,15,16,17,18,19] (fun q:Nat=>[(3,I q)]) (fun _=>[]) (fun q=>q<=l.length/\ ∀ k,k<q->oM (l.getD k default)=true) (fun q=>l.length-q) (0) ?_ ?_ ?_ ?_
 ·simp
 ·rfl
 ·exact at_
 rintro i r ⟨g1,g2⟩;by_cases hi:i<l.length
 ·have hne:=fun h=>zN (p:=oM) hi h;have bV:=fun he=>aY (q:=fun k=>oM (l.getD k default)=true) g2 (i:=i) he;obtain⟨v,kU⟩:∃ v,l.getD i default=v:=⟨_,rfl⟩;rw[kU]at hne bV;have hS:oM v=decide (v.s.length<=300):=rfl;rw[hS]at hne bV;repeat' first|simp (disch:=omega) only[go_sem,au,aA,aB,kU]|refine aq ?_|refine ak ?_ ?_<;>intro hw<;>try omega|fail
  all_goals first
   | exact bh
   |(exact aL (by rw[<-hE,hne (decide_eq_false (by omega))]) rfl)
   | (refine ⟨i + 1, ?_, ?_, by first | rfl | (simp [go_sem]; done), bL, at_⟩ <;> (try dsimp only)
      ·exact⟨by omega,bV (decide_eq_true (by omega))⟩
      ·omega)
 ·repeat' first|refine aq ?_|refine ak ?_ ?_<;>intro hw<;>try omega|fail
  exact aL (by rw[<-hE,zM (fun k hk=>g2 k (by omega))]) rfl
def s5{α : Type}[Inhabited α](f : α->aG){l:List α}{i:Nat}(hi:i<l.length)(x:aG): x++(l.take (i+1)).flatMap f=(x++(l.take i).flatMap f)++f (l.getD i default):=by
 rw[take_succ hi,List.flatMap_append];simp
def zR(c:cL): Prop:=c.name.length<=2 ^ 30/\jv c.kind/\c.order.length<=8/\ ∀ v ∈ c.order,bT v=true/\jv v.n
def Ff(l:List aG): Prop:=l.length<=6/\ ∀ s ∈ l,s.length<=2 ^ 30
def Wh(t:Table): Prop:=t.name.length<=2 ^ 30/\jv t.aZ/\jv t.agg/\(t.ins.length<=6/\ ∀ c ∈ t.ins,zR c)/\(t.outs.length<=6/\ ∀ c ∈ t.outs,zR c)/\t.rules.length<=24/\ ∀ r ∈ t.rules,Ff r.cells/\Ff r.outs
def Kk{c:cL}(h:zR c): v7 c.order/\c.order.all bT=true:=by
 refine⟨⟨by have:=h.2.2.1;omega,fun v hv=>⟨(h.2.2.2 v hv).2,by have:=Fe (h.2.2.2 v hv).1;omega⟩⟩,bq.2 fun v hv=>(h.2.2.2 v hv).1⟩
def Um{t:Table}(ok:l7 t)(h:(fC t).2.2.2=0): Wh t:=by
 obtain⟨h5,_,_⟩:=tA h;obtain⟨hf,hl,_⟩:=pz h5
 have hn:fc t.name=true:=by
  unfold iu at hf;split at hf
  ·omega
  ·rename_i hh;simpa using hh
 obtain⟨p1,p2,p3,p4⟩:jk t.ins false=0/\jk t.outs (decide (t.aZ=3))=0/\jA t=true/\t.rules.length<=24:=by
  unfold iu at hf;rw[hn,if_neg (by simp)]at hf;split at hf
  ·contradiction
  split at hf
  ·contradiction
  split at hf
  ·cases hf
  split at hf
  ·cases hf
  ·rename_i a b c d;exact⟨by simpa using a,by simpa using b,by simpa using c,by omega⟩
 obtain⟨i1,i2,i3⟩:=NC p1;obtain⟨o1,o2,o3⟩:=NC p2;have pp:=Pa p3;have hi:=Kh i1;have ho:=Kh o1
 have hc:∀ (b:Bool) (c:cL),(fc c.name=true/\1<=c.kind/\c.kind<=3)->gO c b=true->rS c->zR c:=fun b c q1 q2 q3=>by
  have w1:=NB q1.1;have w2:=R6 q2 q3;exact⟨by omega,⟨by omega,by omega⟩,w2.2⟩
 refine⟨by have:=NB hn;omega,⟨by omega,by omega⟩,⟨by omega,by omega⟩,⟨hi.1,fun c hm=>hc false c (hi.2 c hm) (i3 c hm) (ok.2.1.2 c hm)⟩,⟨ho.1,fun c hm=>hc _ c (ho.2 c hm) (o3 c hm) (ok.2.2.1.2 c hm)⟩,p4,fun r hr=>?_⟩;obtain⟨j,hj,rfl⟩:=bA hr;have e:t.rules[j]=t.rules.getD j default:=by rw[aj,aK hj];rfl
 have hz:=hl j hj;unfold jm at hz;rw[<-e]at hz;obtain⟨z1,z2,_⟩:=Hj hz;have ro:=ok.2.2.2.2 _ hr;exact⟨⟨by have:=hi.1;omega,ro.1.2⟩,⟨by have:=ho.1;omega,ro.2.2⟩⟩
def oO(s:aG): (dn s).length<=10+s.length:=by unfold dn;have:=fD s.length;rw[List.length_append];omega
def NH{l:List eu}(hl:l.length<=8)(h:∀ v ∈ l,bT v=true): (rV l).length<=1000:=by
 have h1:=fD l.length
 have h2:(l.flatMap iK).length<=70*l.length:=by
  clear h1 hl
  induction l with
  | nil=>simp
  | cons v l ih =>
    have a1:=zQ v;have a2:=Fe (h v (by simp));have a3:=ih (fun w hw=>h w (by simp[hw]));rw[fQ,aC,List.length_cons];omega
 unfold rV;rw[List.length_append];omega
def Cl(o:Bool){c:cL}(h:zR c): (mI o c).length<=1073750000:=by
 have h1:=oO c.name;have h2:=fD c.kind;have h3:=NH h.2.2.1 (fun v hv=>(h.2.2.2 v hv).1);have h4:=h.1;unfold mI;simp only[aC];cases o
 ·simp;omega
 ·simp;omega
def NI{α : Type}{f : α->aG}{b:Nat}: ∀ {l:List α},(∀ x ∈ l,(f x).length<=b)->(l.flatMap f).length<=l.length*b:=by
 intro l
 induction l with
 | nil=>intro _;simp
 | cons x l ih =>
   intro h;have a1:=h x (by simp);have a2:=ih (fun y hy=>h y (by simp[hy]));rw[fQ,aC,List.length_cons,cY];omega
def Kl(o:Bool){l:List cL}(hl:l.length<=6)(h:∀ c ∈ l,zR c): (kB o l).length<=6442500010:=by
 have h1:=fD l.length;have h2:=NI (f:=mI o) (fun c hc=>Cl o (h c hc));unfold kB;rw[List.length_append];omega
def qP{l:List aG}(h:Ff l): (l.flatMap dn).length<=6442451004:=by
 have h2:=NI (f:=dn) (l:=l) (b:=1073741834) (fun s hs=>by have:=oO s;have:=h.2 s hs;omega);have:=h.1;omega
def Ja(c:cL): aH aE 78 [bF c] (.str []):=by
 refine aJ Dd ?_;intro Q au aA aB;repeat' first|refine aq ?_|refine ak ?_ ?_<;>intro hw<;>try omega|fail
 exact aL rfl rfl
def NJ(c:cL)(h:zR c): aH aE 79 [bF c] (.str (rV c.order)):=by
 have hv:=Kk h;have h1:=Uj c.order hv.1;unfold NG at h1;rw[hv.2,if_pos rfl]at h1;simp only[cU]at h1;simp only[bF,cU];refine aJ Ge ?_;intro Q au aA aB;repeat' first|refine aq ?_|refine ak ?_ ?_<;>intro hw<;>try omega|fail
 exact aL rfl rfl
def yC (l : List cL) (o : Bool) (F : FuncId) (hl : l.length <= 6) (h : ∀ c ∈ l, zR c) (hF : ∀ c ∈ l, aH aE F [bF c] (.str (if o then rV c.order else []))) :
    aH aE 77 [bP l,.fn (.func F) [] []] (.str (kB o l)):=by
 have h1:=mc l.length ⟨by omega,by omega⟩;have h2:=fD l.length;obtain⟨E,hE⟩:∃ E,kB o l=E:=⟨_,rfl⟩;rw[hE];unfold kB at hE;generalize fM l.length=x at *;simp only[bP];refine aJ Dc ?_;intro Q au aA aB;repeat' first|refine aq ?_|refine ak ?_ ?_<;>intro hw<;>try omega|fail
 with_reducible refine bn [5,7,13,14,15,16,17,18,19,20,21,22,23,24,25,26,27,28,29,30] (fun q:Nat × List bx=>[(13,I q.1),(5,.str (x++(l.take q.1).flatMap (mI o)))]) (fun q=>q.2) (fun q=>q.1<=l.length/\x.length+((l.take q.1).flatMap (mI o)).length<=10+q.1*1073750000) (fun q=>l.length-q.1) ((0,[])) ?_ ?_ ?_ ?_
 ·simp;omega
 ·rfl
 ·simp only[ff,eZ,List.append_nil];simp (disch:=omega) only[dU,dm,and_true,go_sem,au,aA,aB,Int.natCast_add,Int.cast_ofNat_Int]<;>(try trivial)<;>(try omega)<;>(try (repeat (first|trivial|(refine And.intro ?_ ?_)|(congr 1;omega))))
 rintro⟨i,τ⟩ r ⟨g1,g3⟩;dsimp only at g1 g3;by_cases hi:i<l.length
 ·have hc:=h _ (aV hi);have hf:=hF _ (aV hi);have eW:=s5 (mI o) hi x;obtain⟨c,hce⟩:∃ c,l.getD i default=c:=⟨_,rfl⟩;rw[hce]at hc hf eW;have c1:=uS c.name (by have:=hc.1;omega);have c2:=mc c.kind hc.2.1;have Am:=Cl o hc;obtain⟨y,hy⟩:∃ y,x++(l.take i).flatMap (mI o)=y:=⟨_,rfl⟩;have JL:y.length=x.length+((l.take i).flatMap (mI o)).length:=by rw[<-hy,aC]
  have hsl:=congrArg List.length eW;rw[hy]at eW;simp only[aC]at hsl;have NL:mI o c=dn c.name++fM c.kind++(if o then rV c.order else []):=rfl;generalize dn c.name=u1 at *;generalize fM c.kind=u2 at *;generalize (if o then rV c.order else [])=u3 at *;have Un:=congrArg List.length NL;simp only[aC]at Un;have a1:((u1.length+u2.length:Nat):Int)<=IntKind.i64.max:=by show _<=(9223372036854775807:Int);omega
  have a2:(((u1++u2).length+u3.length:Nat):Int)<=IntKind.i64.max:=by rw[aC];show _<=(9223372036854775807:Int);omega
  have a3:((y.length+(u1++u2++u3).length:Nat):Int)<=IntKind.i64.max:=by simp only[aC];show _<=(9223372036854775807:Int);omega
  simp only[bF,cU]at hf;repeat' first|simp (disch:=omega) only[go_sem,au,aA,aB,hce,hy,a1,a2,a3]|refine aq ?_|refine ak ?_ ?_<;>intro hw<;>try omega|fail
  refine⟨(i+1,τ++[bx.cells [.str c.name,I c.kind,.aF false EV (c.order.map eR)]]),?_,?_,?_,bL,?_⟩
  ·dsimp only;omega
  ·dsimp only;omega
  ·first|rfl|(simp[go_sem];done)
  ·dsimp only;rw[eW,NL];simp (disch:=omega) only[dU,dm,and_true,go_sem,au,aA,aB,Int.natCast_add,Int.cast_ofNat_Int]<;>(try trivial)<;>(try omega)<;>(try (repeat (first|trivial|(refine And.intro ?_ ?_)|(congr 1;omega))))
 ·have ht:l.take i=l:=aT (by omega);repeat' first|simp (disch:=omega) only[go_sem,au,aA,aB,ht]|refine aq ?_|refine ak ?_ ?_<;>intro hw<;>try omega|fail
  exact aL (by rw[<-hE]) rfl
def Cm(l:List aG)(h:Ff l): aH aE 80 [bI l] (.str (l.flatMap dn)):=by
 obtain⟨hl,hs⟩:=h;obtain⟨E,hE⟩:∃ E,l.flatMap dn=E:=⟨_,rfl⟩;rw[hE];simp only[bI];refine aJ Gf ?_;intro Q au aA aB;repeat' first|refine aq ?_|refine ak ?_ ?_<;>intro hw<;>try omega|fail
 with_reducible refine bn [3,5,8,9,10,11,12,13,14,15,16] (fun q:Nat=>[(8,I q),(3,.str ((l.take q).flatMap dn))]) (fun _=>[]) (fun q=>q<=l.length/\((l.take q).flatMap dn).length<=q*1073741834) (fun q=>l.length-q) (0) ?_ ?_ ?_ ?_
 ·simp
 ·rfl
 ·simp only[ff,eZ];simp (disch:=omega) only[dU,dm,and_true,go_sem,au,aA,aB,Int.natCast_add,Int.cast_ofNat_Int]<;>(try trivial)<;>(try omega)<;>(try (repeat (first|trivial|(refine And.intro ?_ ?_)|(congr 1;omega))))
 rintro i r ⟨g1,g3⟩;by_cases hi:i<l.length
 ·have hs1:=hs _ (aV hi);have eW:=s5 dn hi [];simp only[dB]at eW;obtain⟨s,Hp⟩:∃ s,l.getD i default=s:=⟨_,rfl⟩;rw[Hp]at hs1 eW;have c1:=uS s (by omega);have Am:=oO s;obtain⟨y,hy⟩:∃ y,(l.take i).flatMap dn=y:=⟨_,rfl⟩;rw[hy]at eW g3;have a1:((y.length+(dn s).length:Nat):Int)<=IntKind.i64.max:=by show _<=(9223372036854775807:Int);omega
  have hg:(List.map bj l).getD i .undef = .str s:=by rw[getD_map _ _ _ hi,Hp];rfl
  repeat' first|simp (disch:=omega) only[go_sem,au,aA,aB,Hp,hy,a1,hg]|refine aq ?_|refine ak ?_ ?_<;>intro hw<;>try omega|fail
  refine⟨i+1,?_,?_,?_,bL,?_⟩
  ·refine⟨by omega,?_⟩;rw[eW,aC];omega
  ·dsimp only;omega
  ·first|rfl|(simp[go_sem];done)
  ·dsimp only;rw[eW];simp (disch:=omega) only[dU,dm,and_true,go_sem,au,aA,aB,Int.natCast_add,Int.cast_ofNat_Int]<;>(try trivial)<;>(try omega)<;>(try (repeat (first|trivial|(refine And.intro ?_ ?_)|(congr 1;omega))))
 ·have ht:l.take i=l:=aT (by omega);repeat' first|simp (disch:=omega) only[go_sem,au,aA,aB,ht]|refine aq ?_|refine ak ?_ ?_<;>intro hw<;>try omega|fail
  exact aL (by rw[<-hE]) rfl
def oP{a b:Nat}(h:a+b<=9223372036854775807): ((a+b:Nat):Int)<=IntKind.i64.max:=by show _<=(9223372036854775807:Int);omega
def Aw(l:List cL)(o:Bool)(hl:l.length<=6)(h:∀ c ∈ l,zR c): aH aE 138 [bP l,.bool o] (.str (kB o l)):=by
 have h1:=me l.length ⟨by omega,by omega⟩;have h2:=fD l.length;obtain⟨E,hE⟩:∃ E,kB o l=E:=⟨_,rfl⟩;rw[hE];unfold kB at hE;generalize fM l.length=x at *;simp only[bP];refine aJ Ew ?_;intro Q au aA aB;repeat' first|refine aq ?_|refine ak ?_ ?_<;>intro hw<;>try omega|fail
 with_reducible refine bn [5,6,10,11,12,13,14,15,16,17,18,19,20,21,22,23,24,25,26,27,28,29,30,31,32,33,34,35,36,37,38,39] (fun q:Nat=>[(6,I q),(5,.str (x++(l.take q).flatMap (mI o)))]) (fun _=>[]) (fun q=>q<=l.length/\x.length+((l.take q).flatMap (mI o)).length<=10+q*1073750000) (fun q=>l.length-q) (0) ?_ ?_ ?_ ?_
 ·simp;omega
 ·rfl
 ·simp only[ff,eZ,List.append_nil];simp (disch:=omega) only[dU,dm,and_true,go_sem,au,aA,aB,Int.natCast_add,Int.cast_ofNat_Int]<;>(try trivial)<;>(try omega)<;>(try (repeat (first|trivial|(refine And.intro ?_ ?_)|(congr 1;omega))))
 rintro i r ⟨g1,g3⟩;by_cases hi:i<l.length
 ·have hc:=h _ (aV hi);have eW:=s5 (mI o) hi x;obtain⟨c,hce⟩:∃ c,l.getD i default=c:=⟨_,rfl⟩;rw[hce]at hc eW;have hv:=Kk hc;have c1:=rX c.name (by have:=hc.1;omega);have c2:=me c.kind hc.2.1;have c3:=Uk c.order hv.1 hv.2;have Am:=Cl o hc;obtain⟨y,hy⟩:∃ y,x++(l.take i).flatMap (mI o)=y:=⟨_,rfl⟩;have JL:y.length=x.length+((l.take i).flatMap (mI o)).length:=by rw[<-hy,aC]
  have hsl:=congrArg List.length eW;rw[hy]at eW;simp only[aC]at hsl;have NL:mI o c=dn c.name++fM c.kind++(if o then rV c.order else []):=rfl;have mF:=NH hc.2.2.1 (fun v hv=>(hc.2.2.2 v hv).1);have htl:=oO c.name;have hnl:=fD c.kind;have n8:=hc.1;generalize dn c.name=u1 at *;generalize fM c.kind=u2 at *;generalize rV c.order=u3 at *;have a1:=oP (a:=y.length) (b:=u1.length) (by omega);have a2:=oP (a:=(y++u1).length) (b:=u2.length) (by rw[aC];omega);have a3:=oP (a:=(y++u1++u2).length) (b:=u3.length) (by simp only[aC];omega);simp only[cU]at c3;cases o
  ·repeat' first|simp (disch:=omega) only[go_sem,au,aA,aB,hce,hy,a1,a2]|refine aq ?_|refine ak ?_ ?_<;>intro hw<;>try omega|fail
   refine⟨i+1,?_,?_,?_,bL,?_⟩
   ·dsimp only;omega
   ·dsimp only;omega
   ·first|rfl|(simp[go_sem];done)
   ·dsimp only;rw[eW,NL];simp only[Bool.false_eq_true,if_false,List.append_nil,<-List.append_assoc];simp (disch:=omega) only[dU,dm,and_true,go_sem,au,aA,aB,Int.natCast_add,Int.cast_ofNat_Int]<;>(try trivial)<;>(try omega)<;>(try (repeat (first|trivial|(refine And.intro ?_ ?_)|(congr 1;omega))))
  ·repeat' first|simp (disch:=omega) only[go_sem,au,aA,aB,hce,hy,a1,a2,a3]|refine aq ?_|refine ak ?_ ?_<;>intro hw<;>try omega|fail
   refine⟨i+1,?_,?_,?_,bL,?_⟩
   ·dsimp only;omega
   ·dsimp only;omega
   ·first|rfl|(simp[go_sem];done)
   ·dsimp only;rw[eW,NL];simp only[if_true,<-List.append_assoc];simp (disch:=omega) only[dU,dm,and_true,go_sem,au,aA,aB,Int.natCast_add,Int.cast_ofNat_Int]<;>(try trivial)<;>(try omega)<;>(try (repeat (first|trivial|(refine And.intro ?_ ?_)|(congr 1;omega))))
 ·have ht:l.take i=l:=aT (by omega);repeat' first|simp (disch:=omega) only[go_sem,au,aA,aB,ht]|refine aq ?_|refine ak ?_ ?_<;>intro hw<;>try omega|fail
  exact aL (by rw[<-hE]) rfl
def uT(t:Table): aG:=dn t.name++fM t.aZ++fM t.agg++kB false t.ins++kB true t.outs++fM t.rules.length
def Fg(t:Table): uQ t=uT t++t.rules.flatMap jT:=rfl
def Cn{t:Table}(h:Wh t): (uT t).length<=17179869184:=by
 have h1:=oO t.name;have h2:=fD t.aZ;have h3:=fD t.agg;have h4:=Kl false h.2.2.2.1.1 h.2.2.2.1.2;have h5:=Kl true h.2.2.2.2.1.1 h.2.2.2.2.1.2;have h6:=fD t.rules.length;have h7:=h.1;unfold uT;simp only[List.length_append];omega
def Co{r:eO}(h:Ff r.cells/\Ff r.outs): (jT r).length<=12884902008:=by
 have h1:=qP h.1;have h2:=qP h.2;unfold jT;rw[List.length_append];omega
def DX{l:List aG}(h:Ff l)(k:Nat): ((l.take k).flatMap dn).length<=6442451004 :=
 qP ⟨by rw[eY];have:=h.1;omega,fun s hs=>h.2 s (List.mem_of_mem_take hs)⟩
def Sb(t:Table)(h:Wh t): aH aE 94 [cD t] (.str (uQ t)):=by
 obtain⟨E,hE⟩:∃ E,uQ t=E:=⟨_,rfl⟩;rw[hE];rw[Fg]at hE;have hl:=Cn h;have hd:uT t=dn t.name++fM t.aZ++fM t.agg++kB false t.ins++kB true t.outs++fM t.rules.length:=rfl;obtain⟨b1,b2,b3,b4,b5,b6,b7⟩:=h;have c1:=rX t.name (by omega);have c2:=me t.aZ b2;have c3:=me t.agg b3;have c4:=Aw t.ins false b4.1 b4.2;have c5:=Aw t.outs true b5.1 b5.2;have c6:=me t.rules.length ⟨by omega,by omega⟩;generalize uT t=x at *;generalize dn t.name=u1 at *;generalize fM t.aZ=u2 at *;generalize fM t.agg=u3 at *;generalize kB false t.ins=u4 at *;generalize kB true t.outs=u5 at *;generalize fM t.rules.length=u6 at *;have Un:=congrArg List.length hd;simp only[aC]at Un;have a1:=oP (a:=u1.length) (b:=u2.length) (by omega);have a2:=oP (a:=(u1++u2).length) (b:=u3.length) (by simp only[aC];omega);have a3:=oP (a:=(u1++u2++u3).length) (b:=u4.length) (by simp only[aC];omega);have a4:=oP (a:=(u1++u2++u3++u4).length) (b:=u5.length) (by simp only[aC];omega);have a5:=oP (a:=(u1++u2++u3++u4++u5).length) (b:=u6.length) (by simp only[aC];omega);have hd':=hd.symm;clear hd;simp only[cD,fg,bP,dV]at c4 c5 ⊢;refine aJ KR ?_;intro Q au aA aB;repeat' first|simp (disch:=omega) only[go_sem,au,aA,aB,a1,a2,a3,a4,a5,hd']|refine aq ?_|refine ak ?_ ?_<;>intro hw<;>try omega|fail
 with_reducible refine bn [3,4,5,6,31,32,33,34,35,36,37,38,39,40,41,42,43,44,45,46,47,48,49,50,51,52,53,54,55,56,57,58,59,60,61,62,63,64,65,66,67,68,69,70,71,72,73,74,75,76,77,78,79,80,81,82,83] (fun q:Nat=>[(4,I q),(3,.str (x++(t.rules.take q).flatMap jT))]) (fun _=>[.cells [.str t.name,.aF false EC (t.ins.map bF),.aF false EC (t.outs.map bF),I t.aZ,I t.agg,.aF false ER (t.rules.map cn)]]) (fun q=>q<=t.rules.length/\x.length+((t.rules.take q).flatMap jT).length<=17179869184+q*12884902008) (fun q=>t.rules.length-q) (0) ?_ ?_ ?_ ?_
 ·simp;omega
 ·rfl
 ·simp only[ff,eZ,List.append_nil];simp (disch:=omega) only[dU,dm,and_true,go_sem,au,aA,aB,Int.natCast_add,Int.cast_ofNat_Int]<;>(try trivial)<;>(try omega)<;>(try (repeat (first|trivial|(refine And.intro ?_ ?_)|(congr 1;omega))))
 rintro i r ⟨g1,g3⟩;by_cases hi:i<t.rules.length
 ·have hr:=b7 _ (aV hi);have eW:=s5 jT hi x;obtain⟨ru,yg⟩:∃ c,t.rules.getD i default=c:=⟨_,rfl⟩;rw[yg]at hr eW;have mF:=Co hr;have l6:=hr.1.1;have m6:=hr.2.1;obtain⟨y,hy⟩:∃ y,x++(t.rules.take i).flatMap jT=y:=⟨_,rfl⟩;have JL:y.length=x.length+((t.rules.take i).flatMap jT).length:=by rw[<-hy,aC]
  have hsl:=congrArg List.length eW;rw[hy]at eW;simp only[aC]at hsl;have hrd:jT ru=ru.cells.flatMap dn++ru.outs.flatMap dn:=rfl;repeat' first|simp (disch:=omega) only[go_sem,au,aA,aB,yg,hy]|refine aq ?_|refine ak ?_ ?_<;>intro hw<;>try omega|fail
  with_reducible refine bn [3,5,38,39,40,41,42,43,44,45,46,47,48,49,50,51,52,53,54,55,56,57,58,59,60] (fun q:Nat=>[(5,I q),(3,.str (y++(ru.cells.take q).flatMap dn))]) (fun _=>[.cells [.str t.name,.aF false EC (t.ins.map bF),.aF false EC (t.outs.map bF),I t.aZ,I t.agg,.aF false ER (t.rules.map cn)]]) (fun q=>q<=ru.cells.length) (fun q=>ru.cells.length-q) (0) ?_ ?_ ?_ ?_
  ·simp
  ·rfl
  ·simp only[ff,eZ,List.append_nil,<-hy];simp (disch:=omega) only[dU,dm,and_true,go_sem,au,aA,aB,Int.natCast_add,Int.cast_ofNat_Int]<;>(try trivial)<;>(try omega)<;>(try (repeat (first|trivial|(refine And.intro ?_ ?_)|(congr 1;omega))))
  rintro k r2 k1;have oc:=DX hr.1 k;by_cases hk:k<ru.cells.length
  ·have hs1:=hr.1.2 _ (aV hk);have Fh:=s5 dn hk y;obtain⟨s,Hp⟩:∃ s,ru.cells.getD k default=s:=⟨_,rfl⟩;rw[Hp]at hs1 Fh;have d1:=rX s (by omega);have Am:=oO s;obtain⟨z,hz⟩:∃ z,y++(ru.cells.take k).flatMap dn=z:=⟨_,rfl⟩;have hzl:z.length=y.length+((ru.cells.take k).flatMap dn).length:=by rw[<-hz,aC]
   rw[hz]at Fh;have e1:=oP (a:=z.length) (b:=(dn s).length) (by omega);have hg:(List.map bj ru.cells).getD k .undef = .str s:=by rw[getD_map _ _ _ hk,Hp];rfl
   repeat' first|simp (disch:=omega) only[go_sem,au,aA,aB,yg,hz,e1,hg]|refine aq ?_|refine ak ?_ ?_<;>intro hw<;>try omega|fail
   refine⟨k+1,?_,?_,?_,bL,?_⟩
   ·dsimp only;omega
   ·dsimp only;omega
   ·first|rfl|(simp[go_sem];done)
   ·dsimp only;rw[Fh];simp (disch:=omega) only[dU,dm,and_true,go_sem,au,aA,aB,Int.natCast_add,Int.cast_ofNat_Int]<;>(try trivial)<;>(try omega)<;>(try (repeat (first|trivial|(refine And.intro ?_ ?_)|(congr 1;omega))))
  ·have ht:ru.cells.take k=ru.cells:=aT (by omega);have fK:=qP hr.1;obtain⟨w,Xd⟩:∃ w,y++ru.cells.flatMap dn=w:=⟨_,rfl⟩;have hwl:w.length=y.length+(ru.cells.flatMap dn).length:=by rw[<-Xd,aC]
   repeat' first|simp (disch:=omega) only[go_sem,au,aA,aB,yg,ht,Xd]|refine aq ?_|refine ak ?_ ?_<;>intro hw<;>try omega|fail
   with_reducible refine bn [3,6,61,62,63,64,65,66,67,68,69,70,71,72,73,74,75,76,77,78,79,80,81,82,83] (fun q:Nat=>[(6,I q),(3,.str (w++(ru.outs.take q).flatMap dn))]) (fun _=>[.cells [.str t.name,.aF false EC (t.ins.map bF),.aF false EC (t.outs.map bF),I t.aZ,I t.agg,.aF false ER (t.rules.map cn)]]) (fun q=>q<=ru.outs.length) (fun q=>ru.outs.length-q) (0) ?_ ?_ ?_ ?_
   ·simp
   ·rfl
   ·simp only[ff,eZ,List.append_nil,<-Xd,ht];simp (disch:=omega) only[dU,dm,and_true,go_sem,au,aA,aB,Int.natCast_add,Int.cast_ofNat_Int]<;>(try trivial)<;>(try omega)<;>(try (repeat (first|trivial|(refine And.intro ?_ ?_)|(congr 1;omega))))
   rintro m r3 m1;have hml:=DX hr.2 m;by_cases hm:m<ru.outs.length
   ·have hs1:=hr.2.2 _ (aV hm);have Fh:=s5 dn hm w;obtain⟨s,Hp⟩:∃ s,ru.outs.getD m default=s:=⟨_,rfl⟩;rw[Hp]at hs1 Fh;have d1:=rX s (by omega);have Am:=oO s;obtain⟨z,hz⟩:∃ z,w++(ru.outs.take m).flatMap dn=z:=⟨_,rfl⟩;have hzl:z.length=w.length+((ru.outs.take m).flatMap dn).length:=by rw[<-hz,aC]
    rw[hz]at Fh;have e1:=oP (a:=z.length) (b:=(dn s).length) (by omega);have hg:(List.map bj ru.outs).getD m .undef = .str s:=by rw[getD_map _ _ _ hm,Hp];rfl
    repeat' first|simp (disch:=omega) only[go_sem,au,aA,aB,yg,hz,e1,hg]|refine aq ?_|refine ak ?_ ?_<;>intro hw<;>try omega|fail
    refine⟨m+1,?_,?_,?_,bL,?_⟩
    ·dsimp only;omega
    ·dsimp only;omega
    ·first|rfl|(simp[go_sem];done)
    ·dsimp only;rw[Fh];simp (disch:=omega) only[dU,dm,and_true,go_sem,au,aA,aB,Int.natCast_add,Int.cast_ofNat_Int]<;>(try trivial)<;>(try omega)<;>(try (repeat (first|trivial|(refine And.intro ?_ ?_)|(congr 1;omega))))
   ·have ht2:ru.outs.take m=ru.outs:=aT (by omega);repeat' first|simp (disch:=omega) only[go_sem,au,aA,aB,yg,ht2]|refine aq ?_|refine ak ?_ ?_<;>intro hw<;>try omega|fail
    refine⟨i+1,?_,?_,?_,bL,?_⟩
    ·dsimp only;omega
    ·dsimp only;omega
    ·first|rfl|(simp[go_sem];done)
    ·dsimp only;rw[eW,hrd,<-List.append_assoc,Xd];simp (disch:=omega) only[dU,dm,and_true,go_sem,au,aA,aB,Int.natCast_add,Int.cast_ofNat_Int]<;>(try trivial)<;>(try omega)<;>(try (repeat (first|trivial|(refine And.intro ?_ ?_)|(congr 1;omega))))
 ·have ht:t.rules.take i=t.rules:=aT (by omega);repeat' first|simp (disch:=omega) only[go_sem,au,aA,aB,ht]|refine aq ?_|refine ak ?_ ?_<;>intro hw<;>try omega|fail
  exact aL (by rw[<-hE]) rfl
