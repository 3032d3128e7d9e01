/- Part. -/
import Derived.Test.YtmbgnaoilncbnaaGreatDoorX33
set_option linter.all false
set_option maxHeartbeats 4000000
namespace Go.Proofs.YtmbgnaoilncbnaaGreatDoor
open Go.AM
set_option maxRecDepth 4000
def JC(s:aJ)(most:Int)(hs:s.length<=2 ^ 30): ai Tryz.prog sr [.str s,I most] (qP (ig s most)):=by
 have h1:=oz s (by omega);have hr:=dZ s;obtain⟨E,hE⟩:∃ E,ig s most=E:=⟨_,rfl⟩;rw[hE];unfold ig at hE;generalize takeN s=t at *;obtain⟨n,r,e⟩:=t;dsimp only at hE hr;simp only[eN]at h1;refine ai.aG (Ot (by simp) ?_) (by simp[qP]);unfold EI aP;intro Q au aA aB;by_cases hb:e≠0\/n<0\/n>most
 ·repeat' first|refine aq ?_|refine aC h1 ?_|refine ak ?_ ?_<;>intro hw<;>try omega|fail
  all_goals first|exact aY|refine bq ?_
  ·rw[if_pos (by omega)]at hE;rw[<-hE];exact wJ
  ·rw[if_neg (by omega),if_pos (by omega)]at hE;rw[<-hE];exact wJ
  ·rw[if_neg (by omega),if_neg (by omega),if_pos (by omega)]at hE;rw[<-hE];exact wJ
 rw[if_neg (by omega),if_neg (by omega),if_neg (by omega)]at hE;repeat' first|refine aq ?_|refine aC h1 ?_|refine ak ?_ ?_<;>intro hw<;>try omega|fail
 all_goals first|exact aY|skip
 with_reducible refine bn [4,5,6,8,9,10,11,29,30,31,32,33,34,35,36,37,38,39,40,41,42,43,44,45] (fun q:List eg × aJ × List aX=>[(10,.own EV 0 q.1.length 0 q.1.length),(8,.str q.2.1)]) (fun q=> .vec EV (q.1.map iJ)::q.2.2) (fun q=>q.1.length+q.2.1.length<=2 ^ 30/\q.1.length<=n.toNat/\E=jq (n.toNat-q.1.length) q.1 q.2.1) (fun q=>n.toNat-q.1.length) (([],r,[])) ?_ ?_ ?_ ?_
 ·exact⟨by simp;omega,by simp,hE.symm⟩
 ·rfl
 ·exact at_
 rintro⟨out,r,τ⟩ u ⟨g1,g2,g3⟩;dsimp only at g1 g2 g3;by_cases hn:(out.length:Int)<n
 ·obtain⟨k,hk⟩:∃ k,n.toNat-out.length=k+1:=⟨n.toNat-out.length-1,by omega⟩;rw[hk,jq]at g3;have h2:=aaX r (by omega);have hv:=O2 r;generalize kI r=t at *;obtain⟨v,r2,e2⟩:=t;dsimp only at g3 hv;simp only[eVS]at h2;by_cases he:e2=0
  ·rw[if_neg (by omega)]at g3;have hlt:=hv.2.1 he;repeat' first|simp (disch:=omega) only[go_sem,au,aA,aB,he]|refine aq ?_|refine aC h2 ?_|refine ak ?_ ?_<;>intro hw<;>try omega|fail
   all_goals first
    | exact aY
    | (refine ⟨(out ++ [v], r2, τ ++ [aX.cells [I v.kind, I v.n, .str v.s]]), ?_, ?_, ?_, bJ, at_⟩
       ·have e:n.toNat-(out++[v]).length=k:=by simp;omega
        dsimp only;rw[e];exact⟨by simp;omega,by simp;omega,g3⟩
       ·simp;omega
       ·first|rfl|(simp[go_sem];done))
  ·rw[if_pos he]at g3;repeat' first|refine aq ?_|refine aC h2 ?_|refine ak ?_ ?_<;>intro hw<;>try omega|fail
   all_goals first|exact aY|(refine bq ?_;rw[g3];exact wJ)
 ·have:n.toNat-out.length=0:=by omega
  rw[this,jq]at g3;repeat' first|refine aq ?_|refine ak ?_ ?_<;>intro hw<;>try omega|fail
  refine bq ?_;rw[g3];exact aW.cons (View.vec rfl (by simp) (by simp) (GH _)) (aW.refl rfl)
def JD(s:aJ)(most:Int)(hs:s.length<=2 ^ 30): ai Tryz.prog sj [.str s,I most] (qP (ig s most)):=by
 have h1:=gW s (by omega);have hr:=dZ s;obtain⟨E,hE⟩:∃ E,ig s most=E:=⟨_,rfl⟩;rw[hE];unfold ig at hE;generalize takeN s=t at *;obtain⟨n,r,e⟩:=t;dsimp only at hE hr;simp only[eN]at h1;refine ai.aG (Oi (by simp) ?_) (by simp[qP]);unfold EB aP;intro Q au aA aB;by_cases hb:e≠0\/n<0\/n>most
 ·repeat' first|refine aq ?_|refine aC h1 ?_|refine ak ?_ ?_<;>intro hw<;>try omega|fail
  all_goals first|exact aY|refine bq ?_
  ·rw[if_pos (by omega)]at hE;rw[<-hE];exact wJ
  ·rw[if_neg (by omega),if_pos (by omega)]at hE;rw[<-hE];exact wJ
  ·rw[if_neg (by omega),if_neg (by omega),if_pos (by omega)]at hE;rw[<-hE];exact wJ
 rw[if_neg (by omega),if_neg (by omega),if_neg (by omega)]at hE;repeat' first|refine aq ?_|refine aC h1 ?_|refine ak ?_ ?_<;>intro hw<;>try omega|fail
 all_goals first|exact aY|skip
 with_reducible refine bn [4,5,6,8,10,11,12,13,31,32,33,34,35,36,37,38,39,40,41,42,43,44,45,46,47,48] (fun q:List eg × aJ × List aX=>[(10,.own EV 0 q.1.length 0 q.1.length),(8,.str q.2.1)]) (fun q=> .vec EV (q.1.map iJ)::q.2.2) (fun q=>q.1.length+q.2.1.length<=2 ^ 30/\q.1.length<=n.toNat/\E=jq (n.toNat-q.1.length) q.1 q.2.1) (fun q=>n.toNat-q.1.length) (([],r,[])) ?_ ?_ ?_ ?_
 ·exact⟨by simp;omega,by simp,hE.symm⟩
 ·rfl
 ·exact at_
 rintro⟨out,r,τ⟩ u ⟨g1,g2,g3⟩;dsimp only at g1 g2 g3;by_cases hn:(out.length:Int)<n
 ·obtain⟨k,hk⟩:∃ k,n.toNat-out.length=k+1:=⟨n.toNat-out.length-1,by omega⟩;rw[hk,jq]at g3;have h2:=aaY r (by omega);have hv:=O2 r;generalize kI r=t at *;obtain⟨v,r2,e2⟩:=t;dsimp only at g3 hv;simp only[eVS]at h2;by_cases he:e2=0
  ·rw[if_neg (by omega)]at g3;have hlt:=hv.2.1 he;repeat' first|simp (disch:=omega) only[go_sem,au,aA,aB,he]|refine aq ?_|refine aC h2 ?_|refine ak ?_ ?_<;>intro hw<;>try omega|fail
   all_goals first
    | exact aY
    | (refine ⟨(out ++ [v], r2, τ ++ [aX.cells [I v.kind, I v.n, .str v.s]]), ?_, ?_, ?_, bJ, at_⟩
       ·have e:n.toNat-(out++[v]).length=k:=by simp;omega
        dsimp only;rw[e];exact⟨by simp;omega,by simp;omega,g3⟩
       ·simp;omega
       ·first|rfl|(simp[go_sem];done))
  ·rw[if_pos he]at g3;repeat' first|refine aq ?_|refine aC h2 ?_|refine ak ?_ ?_<;>intro hw<;>try omega|fail
   all_goals first|exact aY|(refine bq ?_;rw[g3];exact wJ)
 ·have:n.toNat-out.length=0:=by omega
  rw[this,jq]at g3;repeat' first|refine aq ?_|refine ak ?_ ?_<;>intro hw<;>try omega|fail
  refine bq ?_;rw[g3];exact aW.cons (View.vec rfl (by simp) (by simp) (GH _)) (aW.refl rfl)
def O9(l:List eg): aJ × Int:=if l.all bL then(mY l,0)else ([],2)
def TF{l:List eg}{i:Nat}(hi:i<l.length)(x:aJ): x++(l.take (i+1)).flatMap fW=(x++(l.take i).flatMap fW)++fW (l.getD i default):=by
 rw[take_succ hi,List.flatMap_append];simp
def TG(l:List eg)(hl:yl l): ai Tryz.prog zA [cH l] (.bX [.str (O9 l).1,I (O9 l).2]):=by
 obtain⟨hl1,pX⟩:=hl;have h1:=jw l.length ⟨by omega,by omega⟩;have h2:=cM l.length;obtain⟨E,hE⟩:∃ E,O9 l=E:=⟨_,rfl⟩;rw[hE];unfold O9 mY at hE;generalize cG l.length=x at *;simp only[cH];refine ai.aG (VI (by simp) ?_) (by simp);unfold M8 aP;intro Q au aA aB;repeat' first|refine aq ?_|refine aC h1 ?_|refine ak ?_ ?_<;>intro hw<;>try omega|fail
 with_reducible refine bn [2,3,4,6,7,8,14,15,16,17,18,19,20,21,22,23,24,25,26,27,28,29] (fun q:Nat × List aX=>[(14,I q.1),(4,.str (x++(l.take q.1).flatMap fW))]) (fun q=>q.2) (fun q=>q.1<=l.length/\(∀ k,k<q.1->bL (l.getD k default)=true)/\x.length+((l.take q.1).flatMap fW).length<=10+q.1*2147483648) (fun q=>l.length-q.1) ((0,[])) ?_ ?_ ?_ ?_
 ·simp;omega
 ·rfl
 ·simp only[eU,eM,List.append_nil];simp (disch:=omega) only[dm,cK,and_true,go_sem,au,aA,aB,Int.natCast_add,Int.cast_ofNat_Int]<;>(try trivial)<;>(try omega)<;>(try (repeat (first|trivial|(refine And.intro ?_ ?_)|(congr 1;omega))))
 rintro⟨i,τ⟩ r ⟨g1,g2,g3⟩;dsimp only at g1 g2 g3;by_cases hi:i<l.length
 ·have hv:=pX _ (a_ hi);have hne:=fun h=>FJ (p:=bL) hi h;have bY:=fun he=>bf (q:=fun k=>bL (l.getD k default)=true) g2 (i:=i) he;have gH:=TF hi x;obtain⟨v,jy⟩:∃ v,l.getD i default=v:=⟨_,rfl⟩;rw[jy]at hv hne bY gH;have h3:=Yh v.kind v.n v.s hv.1 (by omega);have BC:=Iv v;have ev:DY ⟨v.kind,v.n,v.s⟩=DY v:=rfl;rw[ev]at h3;unfold DY at h3;obtain⟨y,hy⟩:∃ y,x++(l.take i).flatMap fW=y:=⟨_,rfl⟩;have zP:y.length=x.length+((l.take i).flatMap fW).length:=by rw[<-hy,List.length_append]
  have o9:=congrArg List.length gH;rw[hy]at gH;simp only[List.length_append]at o9;have LX:((y.length+(fW v).length:Nat):Int)<=IntKind.i64.max:=by show _<=(9223372036854775807:Int);omega
  generalize bL v=b at *;cases b
  ·simp only[Bool.false_eq_true,if_false]at h3;rw[hne rfl]at hE;simp only[Bool.false_eq_true,if_false]at hE;repeat' first|simp (disch:=omega) only[go_sem,au,aA,aB,jy,hy]|refine aq ?_|refine aC h3 ?_|refine ak ?_ ?_<;>intro hw<;>try omega|fail
   all_goals first|exact aY|(exact aT (by rw[<-hE]) rfl)
  ·simp only[if_true]at h3;repeat' first|simp (disch:=omega) only[go_sem,au,aA,aB,jy,hy]|refine aq ?_|refine aC h3 ?_|refine ak ?_ ?_<;>intro hw<;>try omega|fail
   all_goals first
    | exact aY
    | (refine ⟨(i + 1, τ ++ [aX.cells [I v.kind, I v.n, .str v.s]]), ?_, ?_, ?_, bJ, ?_⟩
       ·refine⟨by dsimp only;omega,bY rfl,?_⟩;dsimp only;omega
       ·dsimp only;omega
       ·first|rfl|(simp[go_sem];done)
       ·dsimp only;rw[gH];simp (disch:=omega) only[dm,cK,and_true,go_sem,au,aA,aB,Int.natCast_add,Int.cast_ofNat_Int]<;>(try trivial)<;>(try omega)<;>(try (repeat (first|trivial|(refine And.intro ?_ ?_)|(congr 1;omega)))))
 ·have ht:l.take i=l:=br (by omega);rw[FI (fun k hk=>g2 k (by omega)),if_pos rfl]at hE;repeat' first|simp (disch:=omega) only[go_sem,au,aA,aB,ht]|refine aq ?_|refine ak ?_ ?_<;>intro hw<;>try omega|fail
  exact aT (by rw[<-hE]) rfl
def TH(l:List eg)(hl:yl l)(hr:l.all bL=true): ai Tryz.prog zB [cH l] (.str (mY l)):=by
 obtain⟨hl1,pX⟩:=hl;have h1:=jx l.length ⟨by omega,by omega⟩;have h2:=cM l.length;obtain⟨E,hE⟩:∃ E,mY l=E:=⟨_,rfl⟩;rw[hE];unfold mY at hE;generalize cG l.length=x at *;simp only[cH];refine ai.aG (VK (by simp) ?_) (by simp);unfold M_ aP;intro Q au aA aB;repeat' first|refine aq ?_|refine aC h1 ?_|refine ak ?_ ?_<;>intro hw<;>try omega|fail
 with_reducible refine bn [3,4,8,9,10,11,12,13,14,15,16,17,18,19,20] (fun q:Nat=>[(4,I q),(3,.str (x++(l.take q).flatMap fW))]) (fun _=>[]) (fun q=>q<=l.length/\x.length+((l.take q).flatMap fW).length<=10+q*2147483648) (fun q=>l.length-q) (0) ?_ ?_ ?_ ?_
 ·simp;omega
 ·rfl
 ·simp only[eU,eM,List.append_nil];simp (disch:=omega) only[dm,cK,and_true,go_sem,au,aA,aB,Int.natCast_add,Int.cast_ofNat_Int]<;>(try trivial)<;>(try omega)<;>(try (repeat (first|trivial|(refine And.intro ?_ ?_)|(congr 1;omega))))
 rintro i r ⟨g1,g3⟩;by_cases hi:i<l.length
 ·have hv:=pX _ (a_ hi);have hrt:=bx.1 hr _ (a_ hi);have gH:=TF hi x;obtain⟨v,jy⟩:∃ v,l.getD i default=v:=⟨_,rfl⟩;rw[jy]at hv gH hrt;have hk:=vz hrt;have h3:=Yi v.kind v.n v.s ⟨by omega,by omega⟩ hv.1 (by omega);have BC:=Iv v;have ev:fW ⟨v.kind,v.n,v.s⟩=fW v:=rfl;rw[ev]at h3;obtain⟨y,hy⟩:∃ y,x++(l.take i).flatMap fW=y:=⟨_,rfl⟩;have zP:y.length=x.length+((l.take i).flatMap fW).length:=by rw[<-hy,List.length_append]
  have o9:=congrArg List.length gH;rw[hy]at gH;simp only[List.length_append]at o9;have LX:((y.length+(fW v).length:Nat):Int)<=IntKind.i64.max:=by show _<=(9223372036854775807:Int);omega
  repeat' first|simp (disch:=omega) only[go_sem,au,aA,aB,jy,hy]|refine aq ?_|refine aC h3 ?_|refine ak ?_ ?_<;>intro hw<;>try omega|fail
  refine⟨i+1,?_,?_,?_,bJ,?_⟩
  ·refine⟨by omega,?_⟩;omega
  ·dsimp only;omega
  ·first|rfl|(simp[go_sem];done)
  ·dsimp only;rw[gH];simp (disch:=omega) only[dm,cK,and_true,go_sem,au,aA,aB,Int.natCast_add,Int.cast_ofNat_Int]<;>(try trivial)<;>(try omega)<;>(try (repeat (first|trivial|(refine And.intro ?_ ?_)|(congr 1;omega))))
 ·have ht:l.take i=l:=br (by omega);repeat' first|simp (disch:=omega) only[go_sem,au,aA,aB,ht]|refine aq ?_|refine ak ?_ ?_<;>intro hw<;>try omega|fail
  exact aM (by rw[<-hE]) rfl
def SA(l:List eg)(hl:yl l): ai Tryz.prog v_ [cH l] (.bool (l.all bL)):=by
 obtain⟨hl1,pX⟩:=hl;obtain⟨E,hE⟩:∃ E,l.all bL=E:=⟨_,rfl⟩;rw[hE];simp only[cH];refine ai.aG (MP (by simp) ?_) (by simp);unfold Dm aP;intro Q au aA aB;repeat' first|refine aq ?_|refine ak ?_ ?_<;>intro hw<;>try omega|fail
 with_reducible refine bn [2,3,4,5,6,7,8,9,10,11,12,13,14,15] (fun q:Nat=>[(3,I q)]) (fun _=>[]) (fun q=>q<=l.length/\ ∀ k,k<q->bL (l.getD k default)=true) (fun q=>l.length-q) (0) ?_ ?_ ?_ ?_
 ·simp
 ·rfl
 ·exact at_
 rintro i r ⟨g1,g2⟩;by_cases hi:i<l.length
 ·have hv:=pX _ (a_ hi);have hne:=fun h=>FJ (p:=bL) hi h;have bY:=fun he=>bf (q:=fun k=>bL (l.getD k default)=true) g2 (i:=i) he;obtain⟨v,jy⟩:∃ v,l.getD i default=v:=⟨_,rfl⟩;rw[jy]at hv hne bY;have h3:=rN v.kind v.n v.s (by omega);have ev:bL ⟨v.kind,v.n,v.s⟩=bL v:=rfl;rw[ev]at h3;generalize bL v=b at *;repeat' first|simp (disch:=omega) only[go_sem,au,aA,aB,jy]|refine aq ?_|refine aC h3 ?_|refine ak ?_ ?_<;>intro hw<;>try omega|fail
  all_goals first
   | exact aY
   |(exact aM (by rw[<-hE,hne (by simp_all)]) rfl)
   | (refine ⟨i + 1, ?_, ?_, by first | rfl | (simp [go_sem]; done), bJ, at_⟩ <;> (try dsimp only)
      ·exact⟨by omega,bY (by simp_all)⟩
      ·omega)
 ·repeat' first|refine aq ?_|refine ak ?_ ?_<;>intro hw<;>try omega|fail
  exact aM (by rw[<-hE,FI (fun k hk=>g2 k (by omega))]) rfl
def aci(l:List eg): ai Tryz.prog xj [cH l] (.bool (decide (l.length<=12) && l.all tM)):=by
 obtain⟨E,hE⟩:∃ E,(decide (l.length<=12) && l.all tM)=E:=⟨_,rfl⟩;rw[hE];simp only[cH];refine ai.aG (Og (by simp) ?_) (by simp);unfold Ez aP;intro Q au aA aB;repeat' first|refine aq ?_|refine ak ?_ ?_<;>intro hw<;>try omega|fail
 ·exact aM (by rw[<-hE,decide_eq_false (by omega),dH]) rfl
 have h12:l.length<=12:=by omega
 rw[decide_eq_true h12,dA]at hE;with_reducible refine bn [2,3,7,8,9,10,11,12,13,14,15,16,17,18,19] (fun q:Nat=>[(3,I q)]) (fun _=>[]) (fun q=>q<=l.length/\ ∀ k,k<q->tM (l.getD k default)=true) (fun q=>l.length-q) (0) ?_ ?_ ?_ ?_
 ·simp
 ·rfl
 ·exact at_
 rintro i r ⟨g1,g2⟩;by_cases hi:i<l.length
 ·have hne:=fun h=>FJ (p:=tM) hi h;have bY:=fun he=>bf (q:=fun k=>tM (l.getD k default)=true) g2 (i:=i) he;obtain⟨v,jy⟩:∃ v,l.getD i default=v:=⟨_,rfl⟩;rw[jy]at hne bY;have hS:tM v=decide (v.s.length<=300):=rfl;rw[hS]at hne bY;repeat' first|simp (disch:=omega) only[go_sem,au,aA,aB,jy]|refine aq ?_|refine ak ?_ ?_<;>intro hw<;>try omega|fail
  all_goals first
   | exact aY
   |(exact aM (by rw[<-hE,hne (decide_eq_false (by omega))]) rfl)
   | (refine ⟨i + 1, ?_, ?_, by first | rfl | (simp [go_sem]; done), bJ, at_⟩ <;> (try dsimp only)
      ·exact⟨by omega,bY (decide_eq_true (by omega))⟩
      ·omega)
 ·repeat' first|refine aq ?_|refine ak ?_ ?_<;>intro hw<;>try omega|fail
  exact aM (by rw[<-hE,FI (fun k hk=>g2 k (by omega))]) rfl
def zw{α : Type}[Inhabited α](f : α->aJ){l:List α}{i:Nat}(hi:i<l.length)(x:aJ): x++(l.take (i+1)).flatMap f=(x++(l.take i).flatMap f)++f (l.getD i default):=by
 rw[take_succ hi,List.flatMap_append];simp
def Iw(c:cI): Prop:=c.name.length<=2 ^ 30/\jG c.kind/\c.order.length<=8/\ ∀ v ∈ c.order,bL v=true/\jG v.n
def O_(l:List aJ): Prop:=l.length<=6/\ ∀ s ∈ l,s.length<=2 ^ 30
def adP(t:Table): Prop:=t.name.length<=2 ^ 30/\jG t.bA/\jG t.agg/\(t.ins.length<=6/\ ∀ c ∈ t.ins,Iw c)/\(t.outs.length<=6/\ ∀ c ∈ t.outs,Iw c)/\t.rules.length<=24/\ ∀ r ∈ t.rules,O_ r.cells/\O_ r.outs
def TI{c:cI}(h:Iw c): yl c.order/\c.order.all bL=true:=by
 refine⟨⟨by have:=h.2.2.1;omega,fun v hv=>⟨(h.2.2.2 v hv).2,by have:=Iu (h.2.2.2 v hv).1;omega⟩⟩,bx.2 fun v hv=>(h.2.2.2 v hv).1⟩
def acj{t:Table}(ok:mh t)(h:(iK t).2.2.2=0): adP t:=by
 obtain⟨h5,_,_⟩:=NN h;obtain⟨hf,hl,_⟩:=yj h5
 have hn:gE t.name=true:=by
  unfold iS at hf;split at hf
  ·omega
  ·rename_i hh;simpa using hh
 obtain⟨p1,p2,p3,p4⟩:jS t.ins false=0/\jS t.outs (decide (t.bA=3))=0/\lz t=true/\t.rules.length<=24:=by
  unfold iS at hf;rw[hn,if_neg (by simp)]at hf;split at hf
  ·contradiction
  split at hf
  ·contradiction
  split at hf
  ·cases hf
  split at hf
  ·cases hf
  ·rename_i a b c d;exact⟨by simpa using a,by simpa using b,by simpa using c,by omega⟩
 obtain⟨i1,i2,i3⟩:=Iq p1;obtain⟨o1,o2,o3⟩:=Iq p2;have pp:=NQ p3;have hi:=Ff i1;have ho:=Ff o1
 have hc:∀ (b:Bool) (c:cI),(gE c.name=true/\1<=c.kind/\c.kind<=3)->iR c b=true->uq c->Iw c:=fun b c q1 q2 q3=>by
  have w1:=tO q1.1;have w2:=Q8 q2 q3;exact⟨by omega,⟨by omega,by omega⟩,w2.2⟩
 refine⟨by have:=tO hn;omega,⟨by omega,by omega⟩,⟨by omega,by omega⟩,⟨hi.1,fun c hm=>hc false c (hi.2 c hm) (i3 c hm) (ok.2.1.2 c hm)⟩,⟨ho.1,fun c hm=>hc _ c (ho.2 c hm) (o3 c hm) (ok.2.2.1.2 c hm)⟩,p4,fun r hr=>?_⟩;obtain⟨j,hj,rfl⟩:=bW hr;have e:t.rules[j]=t.rules.getD j default:=by rw[aE,aQ hj];rfl
 have hz:=hl j hj;unfold j7 at hz;rw[<-e]at hz;obtain⟨z1,z2,_⟩:=Q5 hz;have ro:=ok.2.2.2.2 _ hr;exact⟨⟨by have:=hi.1;omega,ro.1.2⟩,⟨by have:=ho.1;omega,ro.2.2⟩⟩
def jz(s:aJ): (bC s).length<=10+s.length:=by unfold bC;have:=cM s.length;rw[List.length_append];omega
def Ix{l:List eg}(hl:l.length<=8)(h:∀ v ∈ l,bL v=true): (mY l).length<=1000:=by
 have h1:=cM l.length
 have h2:(l.flatMap fW).length<=70*l.length:=by
  clear h1 hl
  induction l with
  | nil=>simp
  | cons v l ih =>
    have a1:=Iv v;have a2:=Iu (h v (by simp));have a3:=ih (fun w hw=>h w (by simp[hw]));rw[de,List.length_append,List.length_cons];omega
 unfold mY;rw[List.length_append];omega
def LY(o:Bool){c:cI}(h:Iw c): (mZ o c).length<=1073750000:=by
 have h1:=jz c.name;have h2:=cM c.kind;have h3:=Ix h.2.2.1 (fun v hv=>(h.2.2.2 v hv).1);have h4:=h.1;unfold mZ;simp only[List.length_append];cases o
 ·simp;omega
 ·simp;omega
def W4{α : Type}{f : α->aJ}{b:Nat}: ∀ {l:List α},(∀ x ∈ l,(f x).length<=b)->(l.flatMap f).length<=l.length*b:=by
 intro l
 induction l with
 | nil=>intro _;simp
 | cons x l ih =>
   intro h;have a1:=h x (by simp);have a2:=ih (fun y hy=>h y (by simp[hy]));rw[de,List.length_append,List.length_cons,dK];omega
def TJ(o:Bool){l:List cI}(hl:l.length<=6)(h:∀ c ∈ l,Iw c): (kU o l).length<=6442500010:=by
 have h1:=cM l.length;have h2:=W4 (f:=mZ o) (fun c hc=>LY o (h c hc));unfold kU;rw[List.length_append];omega
def wS{l:List aJ}(h:O_ l): (l.flatMap bC).length<=6442451004:=by
 have h2:=W4 (f:=bC) (l:=l) (b:=1073741834) (fun s hs=>by have:=jz s;have:=h.2 s hs;omega);have:=h.1;omega
def SB(c:cI): ai Tryz.prog qz [bE c] (.str []):=by
 refine ai.aG (ML (by simp) ?_) (by simp);unfold De aP;intro Q au aA aB;repeat' first|refine aq ?_|refine ak ?_ ?_<;>intro hw<;>try omega|fail
 exact aM rfl rfl
def W5(c:cI)(h:Iw c): ai Tryz.prog tW [bE c] (.str (mY c.order)):=by
 have hv:=TI h;have h1:=TG c.order hv.1;unfold O9 at h1;rw[hv.2,if_pos rfl]at h1;simp only[cH]at h1;simp only[bE,cH];refine ai.aG (PS (by simp) ?_) (by simp);unfold F9 aP;intro Q au aA aB;repeat' first|refine aq ?_|refine aC h1 ?_|refine ak ?_ ?_<;>intro hw<;>try omega|fail
 exact aM rfl rfl
def G1 (l : List cI) (o : Bool) (F : FuncId) (hl : l.length <= 6) (h : ∀ c ∈ l, Iw c) (hF : ∀ c ∈ l, ai Tryz.prog F [bE c] (.str (if o then mY c.order else []))) :
    ai Tryz.prog qy [bB l,.fn (.func F) [] []] (.str (kU o l)):=by
 have h1:=jw l.length ⟨by omega,by omega⟩;have h2:=cM l.length;obtain⟨E,hE⟩:∃ E,kU o l=E:=⟨_,rfl⟩;rw[hE];unfold kU at hE;generalize cG l.length=x at *;simp only[bB];refine ai.aG (MK (by simp) ?_) (by simp);unfold Dd aP;intro Q au aA aB;repeat' first|refine aq ?_|refine aC h1 ?_|refine ak ?_ ?_<;>intro hw<;>try omega|fail
 with_reducible refine bn [5,7,13,14,15,16,17,18,19,20,21,22,23,24,25,26,27,28,29,30] (fun q:Nat × List aX=>[(13,I q.1),(5,.str (x++(l.take q.1).flatMap (mZ o)))]) (fun q=>q.2) (fun q=>q.1<=l.length/\x.length+((l.take q.1).flatMap (mZ o)).length<=10+q.1*1073750000) (fun q=>l.length-q.1) ((0,[])) ?_ ?_ ?_ ?_
 ·simp;omega
 ·rfl
 ·simp only[eU,eM,List.append_nil];simp (disch:=omega) only[dm,cK,and_true,go_sem,au,aA,aB,Int.natCast_add,Int.cast_ofNat_Int]<;>(try trivial)<;>(try omega)<;>(try (repeat (first|trivial|(refine And.intro ?_ ?_)|(congr 1;omega))))
 rintro⟨i,τ⟩ r ⟨g1,g3⟩;dsimp only at g1 g3;by_cases hi:i<l.length
 ·have hc:=h _ (a_ hi);have hf:=hF _ (a_ hi);have gH:=zw (mZ o) hi x;obtain⟨c,hce⟩:∃ c,l.getD i default=c:=⟨_,rfl⟩;rw[hce]at hc hf gH;have c1:=qO c.name (by have:=hc.1;omega);have c2:=jw c.kind hc.2.1;have BC:=LY o hc;obtain⟨y,hy⟩:∃ y,x++(l.take i).flatMap (mZ o)=y:=⟨_,rfl⟩;have zP:y.length=x.length+((l.take i).flatMap (mZ o)).length:=by rw[<-hy,List.length_append]
  have o9:=congrArg List.length gH;rw[hy]at gH;simp only[List.length_append]at o9;have W6:mZ o c=bC c.name++cG c.kind++(if o then mY c.order else []):=rfl;generalize bC c.name=u1 at *;generalize cG c.kind=u2 at *;generalize (if o then mY c.order else [])=u3 at *;have hdl:=congrArg List.length W6;simp only[List.length_append]at hdl;have a1:((u1.length+u2.length:Nat):Int)<=IntKind.i64.max:=by show _<=(9223372036854775807:Int);omega
  have a2:(((u1++u2).length+u3.length:Nat):Int)<=IntKind.i64.max:=by rw[List.length_append];show _<=(9223372036854775807:Int);omega
  have a3:((y.length+(u1++u2++u3).length:Nat):Int)<=IntKind.i64.max:=by simp only[List.length_append];show _<=(9223372036854775807:Int);omega
  simp only[bE,cH]at hf;repeat' first|simp (disch:=omega) only[go_sem,au,aA,aB,hce,hy,a1,a2,a3]|refine aq ?_|refine aC c1 ?_|refine aC c2 ?_|refine aC hf ?_|refine ak ?_ ?_<;>intro hw<;>try omega|fail
  refine⟨(i+1,τ++[aX.cells [.str c.name,I c.kind,.aK false EV (c.order.map iJ)]]),?_,?_,?_,bJ,?_⟩
  ·dsimp only;omega
  ·dsimp only;omega
  ·first|rfl|(simp[go_sem];done)
  ·dsimp only;rw[gH,W6];simp (disch:=omega) only[dm,cK,and_true,go_sem,au,aA,aB,Int.natCast_add,Int.cast_ofNat_Int]<;>(try trivial)<;>(try omega)<;>(try (repeat (first|trivial|(refine And.intro ?_ ?_)|(congr 1;omega))))
 ·have ht:l.take i=l:=br (by omega);repeat' first|simp (disch:=omega) only[go_sem,au,aA,aB,ht]|refine aq ?_|refine ak ?_ ?_<;>intro hw<;>try omega|fail
  exact aM (by rw[<-hE]) rfl
def LZ(l:List aJ)(h:O_ l): ai Tryz.prog tX [eR l] (.str (l.flatMap bC)):=by
 obtain⟨hl,hs⟩:=h;obtain⟨E,hE⟩:∃ E,l.flatMap bC=E:=⟨_,rfl⟩;rw[hE];simp only[eR];refine ai.aG (PU (by simp) ?_) (by simp);unfold Ga aP;intro Q au aA aB;repeat' first|refine aq ?_|refine ak ?_ ?_<;>intro hw<;>try omega|fail
 with_reducible refine bn [3,5,8,9,10,11,12,13,14,15,16] (fun q:Nat=>[(8,I q),(3,.str ((l.take q).flatMap bC))]) (fun _=>[]) (fun q=>q<=l.length/\((l.take q).flatMap bC).length<=q*1073741834) (fun q=>l.length-q) (0) ?_ ?_ ?_ ?_
 ·simp
 ·rfl
 ·simp only[eU,eM];simp (disch:=omega) only[dm,cK,and_true,go_sem,au,aA,aB,Int.natCast_add,Int.cast_ofNat_Int]<;>(try trivial)<;>(try omega)<;>(try (repeat (first|trivial|(refine And.intro ?_ ?_)|(congr 1;omega))))
 rintro i r ⟨g1,g3⟩;by_cases hi:i<l.length
 ·have hs1:=hs _ (a_ hi);have gH:=zw bC hi [];simp only[List.nil_append]at gH;obtain⟨s,Re⟩:∃ s,l.getD i default=s:=⟨_,rfl⟩;rw[Re]at hs1 gH;have c1:=qO s (by omega);have BC:=jz s;obtain⟨y,hy⟩:∃ y,(l.take i).flatMap bC=y:=⟨_,rfl⟩;rw[hy]at gH g3;have a1:((y.length+(bC s).length:Nat):Int)<=IntKind.i64.max:=by show _<=(9223372036854775807:Int);omega
  have hg:(List.map cS l).getD i .undef = .str s:=by rw[getD_map _ _ _ hi,Re];rfl
  repeat' first|simp (disch:=omega) only[go_sem,au,aA,aB,Re,hy,a1,hg]|refine aq ?_|refine aC c1 ?_|refine ak ?_ ?_<;>intro hw<;>try omega|fail
  refine⟨i+1,?_,?_,?_,bJ,?_⟩
  ·refine⟨by omega,?_⟩;rw[gH,List.length_append];omega
  ·dsimp only;omega
  ·first|rfl|(simp[go_sem];done)
  ·dsimp only;rw[gH];simp (disch:=omega) only[dm,cK,and_true,go_sem,au,aA,aB,Int.natCast_add,Int.cast_ofNat_Int]<;>(try trivial)<;>(try omega)<;>(try (repeat (first|trivial|(refine And.intro ?_ ?_)|(congr 1;omega))))
 ·have ht:l.take i=l:=br (by omega);repeat' first|simp (disch:=omega) only[go_sem,au,aA,aB,ht]|refine aq ?_|refine ak ?_ ?_<;>intro hw<;>try omega|fail
  exact aM (by rw[<-hE]) rfl
def tQ{a b:Nat}(h:a+b<=9223372036854775807): ((a+b:Nat):Int)<=IntKind.i64.max:=by show _<=(9223372036854775807:Int);omega
def JE(l:List cI)(o:Bool)(hl:l.length<=6)(h:∀ c ∈ l,Iw c): ai Tryz.prog sq [bB l,.bool o] (.str (kU o l)):=by
 have h1:=jx l.length ⟨by omega,by omega⟩;have h2:=cM l.length;obtain⟨E,hE⟩:∃ E,kU o l=E:=⟨_,rfl⟩;rw[hE];unfold kU at hE;generalize cG l.length=x at *;simp only[bB];refine ai.aG (Oo (by simp) ?_) (by simp);unfold EG aP;intro Q au aA aB;repeat' first|refine aq ?_|refine aC h1 ?_|refine ak ?_ ?_<;>intro hw<;>try omega|fail
 with_reducible refine bn [5,6,10,11,12,13,14,15,16,17,18,19,20,21,22,23,24,25,26,27,28,29,30,31,32,33,34,35,36,37,38,39] (fun q:Nat=>[(6,I q),(5,.str (x++(l.take q).flatMap (mZ o)))]) (fun _=>[]) (fun q=>q<=l.length/\x.length+((l.take q).flatMap (mZ o)).length<=10+q*1073750000) (fun q=>l.length-q) (0) ?_ ?_ ?_ ?_
 ·simp;omega
 ·rfl
 ·simp only[eU,eM,List.append_nil];simp (disch:=omega) only[dm,cK,and_true,go_sem,au,aA,aB,Int.natCast_add,Int.cast_ofNat_Int]<;>(try trivial)<;>(try omega)<;>(try (repeat (first|trivial|(refine And.intro ?_ ?_)|(congr 1;omega))))
 rintro i r ⟨g1,g3⟩;by_cases hi:i<l.length
 ·have hc:=h _ (a_ hi);have gH:=zw (mZ o) hi x;obtain⟨c,hce⟩:∃ c,l.getD i default=c:=⟨_,rfl⟩;rw[hce]at hc gH;have hv:=TI hc;have c1:=oT c.name (by have:=hc.1;omega);have c2:=jx c.kind hc.2.1;have c3:=TH c.order hv.1 hv.2;have BC:=LY o hc;obtain⟨y,hy⟩:∃ y,x++(l.take i).flatMap (mZ o)=y:=⟨_,rfl⟩;have zP:y.length=x.length+((l.take i).flatMap (mZ o)).length:=by rw[<-hy,List.length_append]
  have o9:=congrArg List.length gH;rw[hy]at gH;simp only[List.length_append]at o9;have W6:mZ o c=bC c.name++cG c.kind++(if o then mY c.order else []):=rfl;have hrl:=Ix hc.2.2.1 (fun v hv=>(hc.2.2.2 v hv).1);have htl:=jz c.name;have hnl:=cM c.kind;have sF:=hc.1;generalize bC c.name=u1 at *;generalize cG c.kind=u2 at *;generalize mY c.order=u3 at *;have a1:=tQ (a:=y.length) (b:=u1.length) (by omega);have a2:=tQ (a:=(y++u1).length) (b:=u2.length) (by rw[List.length_append];omega);have a3:=tQ (a:=(y++u1++u2).length) (b:=u3.length) (by simp only[List.length_append];omega);simp only[cH]at c3;cases o
  ·repeat' first|simp (disch:=omega) only[go_sem,au,aA,aB,hce,hy,a1,a2]|refine aq ?_|refine aC c1 ?_|refine aC c2 ?_|refine aC c3 ?_|refine ak ?_ ?_<;>intro hw<;>try omega|fail
   refine⟨i+1,?_,?_,?_,bJ,?_⟩
   ·dsimp only;omega
   ·dsimp only;omega
   ·first|rfl|(simp[go_sem];done)
   ·dsimp only;rw[gH,W6];simp only[Bool.false_eq_true,if_false,List.append_nil,<-List.append_assoc];simp (disch:=omega) only[dm,cK,and_true,go_sem,au,aA,aB,Int.natCast_add,Int.cast_ofNat_Int]<;>(try trivial)<;>(try omega)<;>(try (repeat (first|trivial|(refine And.intro ?_ ?_)|(congr 1;omega))))
  ·repeat' first|simp (disch:=omega) only[go_sem,au,aA,aB,hce,hy,a1,a2,a3]|refine aq ?_|refine aC c1 ?_|refine aC c2 ?_|refine aC c3 ?_|refine ak ?_ ?_<;>intro hw<;>try omega|fail
   refine⟨i+1,?_,?_,?_,bJ,?_⟩
   ·dsimp only;omega
   ·dsimp only;omega
   ·first|rfl|(simp[go_sem];done)
   ·dsimp only;rw[gH,W6];simp only[if_true,<-List.append_assoc];simp (disch:=omega) only[dm,cK,and_true,go_sem,au,aA,aB,Int.natCast_add,Int.cast_ofNat_Int]<;>(try trivial)<;>(try omega)<;>(try (repeat (first|trivial|(refine And.intro ?_ ?_)|(congr 1;omega))))
 ·have ht:l.take i=l:=br (by omega);repeat' first|simp (disch:=omega) only[go_sem,au,aA,aB,ht]|refine aq ?_|refine ak ?_ ?_<;>intro hw<;>try omega|fail
  exact aM (by rw[<-hE]) rfl
def Cg(t:Table): aJ:=bC t.name++cG t.bA++cG t.agg++kU false t.ins++kU true t.outs++cG t.rules.length
def Pa(t:Table): vY t=Cg t++t.rules.flatMap gV:=rfl
def L0{t:Table}(h:adP t): (Cg t).length<=17179869184:=by
 have h1:=jz t.name;have h2:=cM t.bA;have h3:=cM t.agg;have h4:=TJ false h.2.2.2.1.1 h.2.2.2.1.2;have h5:=TJ true h.2.2.2.2.1.1 h.2.2.2.2.1.2;have h6:=cM t.rules.length;have h7:=h.1;unfold Cg;simp only[List.length_append];omega
def L4{r:dO}(h:O_ r.cells/\O_ r.outs): (gV r).length<=12884902008:=by
 have h1:=wS h.1;have h2:=wS h.2;unfold gV;rw[List.length_append];omega
def NR{l:List aJ}(h:O_ l)(k:Nat): ((l.take k).flatMap bC).length<=6442451004 :=
 wS ⟨by rw[List.length_take];have:=h.1;omega,fun s hs=>h.2 s (List.mem_of_mem_take hs)⟩
set_option maxHeartbeats 1000000 in
def aaZ(t:Table)(h:adP t): ai Tryz.prog CP [bS t] (.str (vY t)):=by
 obtain⟨E,hE⟩:∃ E,vY t=E:=⟨_,rfl⟩;rw[hE];rw[Pa]at hE;have hl:=L0 h;have hd:Cg t=bC t.name++cG t.bA++cG t.agg++kU false t.ins++kU true t.outs++cG t.rules.length:=rfl;obtain⟨b1,b2,b3,b4,b5,b6,b7⟩:=h;have c1:=oT t.name (by omega);have c2:=jx t.bA b2;have c3:=jx t.agg b3;have c4:=JE t.ins false b4.1 b4.2;have c5:=JE t.outs true b5.1 b5.2;have c6:=jx t.rules.length ⟨by omega,by omega⟩;generalize Cg t=x at *;generalize bC t.name=u1 at *;generalize cG t.bA=u2 at *;generalize cG t.agg=u3 at *;generalize kU false t.ins=u4 at *;generalize kU true t.outs=u5 at *;generalize cG t.rules.length=u6 at *;have hdl:=congrArg List.length hd;simp only[List.length_append]at hdl;have a1:=tQ (a:=u1.length) (b:=u2.length) (by omega);have a2:=tQ (a:=(u1++u2).length) (b:=u3.length) (by simp only[List.length_append];omega);have a3:=tQ (a:=(u1++u2++u3).length) (b:=u4.length) (by simp only[List.length_append];omega);have a4:=tQ (a:=(u1++u2++u3++u4).length) (b:=u5.length) (by simp only[List.length_append];omega);have a5:=tQ (a:=(u1++u2++u3++u4++u5).length) (b:=u6.length) (by simp only[List.length_append];omega);have hd':=hd.symm;clear hd;simp only[bS,dy,bB,cW]at c4 c5 ⊢;refine ai.aG (Uc (by simp) ?_) (by simp);unfold Kt aP;intro Q au aA aB;repeat' first|simp (disch:=omega) only[go_sem,au,aA,aB,a1,a2,a3,a4,a5,hd']|refine aq ?_|refine aC c1 ?_|refine aC c2 ?_|refine aC c3 ?_|refine aC c4 ?_|refine aC c5 ?_|refine aC c6 ?_|refine ak ?_ ?_<;>intro hw<;>try omega|fail
 with_reducible refine bn [3,4,5,6,31,32,33,34,35,36,37,38,39,40,41,42,43,44,45,46,47,48,49,50,51,52,53,54,55,56,57,58,59,60,61,62,63,64,65,66,67,68,69,70,71,72,73,74,75,76,77,78,79,80,81,82,83] (fun q:Nat=>[(4,I q),(3,.str (x++(t.rules.take q).flatMap gV))]) (fun _=>[.cells [.str t.name,.aK false EC (t.ins.map bE),.aK false EC (t.outs.map bE),I t.bA,I t.agg,.aK false ER (t.rules.map cN)]]) (fun q=>q<=t.rules.length/\x.length+((t.rules.take q).flatMap gV).length<=17179869184+q*12884902008) (fun q=>t.rules.length-q) (0) ?_ ?_ ?_ ?_
 ·simp;omega
 ·rfl
 ·simp only[eU,eM,List.append_nil];simp (disch:=omega) only[dm,cK,and_true,go_sem,au,aA,aB,Int.natCast_add,Int.cast_ofNat_Int]<;>(try trivial)<;>(try omega)<;>(try (repeat (first|trivial|(refine And.intro ?_ ?_)|(congr 1;omega))))
 rintro i r ⟨g1,g3⟩;by_cases hi:i<t.rules.length
 ·have hr:=b7 _ (a_ hi);have gH:=zw gV hi x;obtain⟨ru,Lh⟩:∃ c,t.rules.getD i default=c:=⟨_,rfl⟩;rw[Lh]at hr gH;have hrl:=L4 hr;have l6:=hr.1.1;have m6:=hr.2.1;obtain⟨y,hy⟩:∃ y,x++(t.rules.take i).flatMap gV=y:=⟨_,rfl⟩;have zP:y.length=x.length+((t.rules.take i).flatMap gV).length:=by rw[<-hy,List.length_append]
  have o9:=congrArg List.length gH;rw[hy]at gH;simp only[List.length_append]at o9;have hrd:gV ru=ru.cells.flatMap bC++ru.outs.flatMap bC:=rfl;repeat' first|simp (disch:=omega) only[go_sem,au,aA,aB,Lh,hy]|refine aq ?_|refine ak ?_ ?_<;>intro hw<;>try omega|fail
  with_reducible refine bn [3,5,38,39,40,41,42,43,44,45,46,47,48,49,50,51,52,53,54,55,56,57,58,59,60] (fun q:Nat=>[(5,I q),(3,.str (y++(ru.cells.take q).flatMap bC))]) (fun _=>[.cells [.str t.name,.aK false EC (t.ins.map bE),.aK false EC (t.outs.map bE),I t.bA,I t.agg,.aK false ER (t.rules.map cN)]]) (fun q=>q<=ru.cells.length) (fun q=>ru.cells.length-q) (0) ?_ ?_ ?_ ?_
  ·simp
  ·rfl
  ·simp only[eU,eM,List.append_nil,<-hy];simp (disch:=omega) only[dm,cK,and_true,go_sem,au,aA,aB,Int.natCast_add,Int.cast_ofNat_Int]<;>(try trivial)<;>(try omega)<;>(try (repeat (first|trivial|(refine And.intro ?_ ?_)|(congr 1;omega))))
  rintro k r2 k1;have w6:=NR hr.1 k;by_cases hk:k<ru.cells.length
  ·have hs1:=hr.1.2 _ (a_ hk);have Pb:=zw bC hk y;obtain⟨s,Re⟩:∃ s,ru.cells.getD k default=s:=⟨_,rfl⟩;rw[Re]at hs1 Pb;have d1:=oT s (by omega);have BC:=jz s;obtain⟨z,hz⟩:∃ z,y++(ru.cells.take k).flatMap bC=z:=⟨_,rfl⟩;have hzl:z.length=y.length+((ru.cells.take k).flatMap bC).length:=by rw[<-hz,List.length_append]
   rw[hz]at Pb;have e1:=tQ (a:=z.length) (b:=(bC s).length) (by omega);have hg:(List.map cS ru.cells).getD k .undef = .str s:=by rw[getD_map _ _ _ hk,Re];rfl
   repeat' first|simp (disch:=omega) only[go_sem,au,aA,aB,Lh,hz,e1,hg]|refine aq ?_|refine aC d1 ?_|refine ak ?_ ?_<;>intro hw<;>try omega|fail
   refine⟨k+1,?_,?_,?_,bJ,?_⟩
   ·dsimp only;omega
   ·dsimp only;omega
   ·first|rfl|(simp[go_sem];done)
   ·dsimp only;rw[Pb];simp (disch:=omega) only[dm,cK,and_true,go_sem,au,aA,aB,Int.natCast_add,Int.cast_ofNat_Int]<;>(try trivial)<;>(try omega)<;>(try (repeat (first|trivial|(refine And.intro ?_ ?_)|(congr 1;omega))))
  ·have ht:ru.cells.take k=ru.cells:=br (by omega);have ff:=wS hr.1;obtain⟨w,hwq⟩:∃ w,y++ru.cells.flatMap bC=w:=⟨_,rfl⟩;have hwl:w.length=y.length+(ru.cells.flatMap bC).length:=by rw[<-hwq,List.length_append]
   repeat' first|simp (disch:=omega) only[go_sem,au,aA,aB,Lh,ht,hwq]|refine aq ?_|refine ak ?_ ?_<;>intro hw<;>try omega|fail
   with_reducible refine bn [3,6,61,62,63,64,65,66,67,68,69,70,71,72,73,74,75,76,77,78,79,80,81,82,83] (fun q:Nat=>[(6,I q),(3,.str (w++(ru.outs.take q).flatMap bC))]) (fun _=>[.cells [.str t.name,.aK false EC (t.ins.map bE),.aK false EC (t.outs.map bE),I t.bA,I t.agg,.aK false ER (t.rules.map cN)]]) (fun q=>q<=ru.outs.length) (fun q=>ru.outs.length-q) (0) ?_ ?_ ?_ ?_
   ·simp
   ·rfl
   ·simp only[eU,eM,List.append_nil,<-hwq,ht];simp (disch:=omega) only[dm,cK,and_true,go_sem,au,aA,aB,Int.natCast_add,Int.cast_ofNat_Int]<;>(try trivial)<;>(try omega)<;>(try (repeat (first|trivial|(refine And.intro ?_ ?_)|(congr 1;omega))))
   rintro m r3 m1;have hml:=NR hr.2 m;by_cases hm:m<ru.outs.length
   ·have hs1:=hr.2.2 _ (a_ hm);have Pb:=zw bC hm w;obtain⟨s,Re⟩:∃ s,ru.outs.getD m default=s:=⟨_,rfl⟩;rw[Re]at hs1 Pb;have d1:=oT s (by omega);have BC:=jz s;obtain⟨z,hz⟩:∃ z,w++(ru.outs.take m).flatMap bC=z:=⟨_,rfl⟩;have hzl:z.length=w.length+((ru.outs.take m).flatMap bC).length:=by rw[<-hz,List.length_append]
    rw[hz]at Pb;have e1:=tQ (a:=z.length) (b:=(bC s).length) (by omega);have hg:(List.map cS ru.outs).getD m .undef = .str s:=by rw[getD_map _ _ _ hm,Re];rfl
    repeat' first|simp (disch:=omega) only[go_sem,au,aA,aB,Lh,hz,e1,hg]|refine aq ?_|refine aC d1 ?_|refine ak ?_ ?_<;>intro hw<;>try omega|fail
    refine⟨m+1,?_,?_,?_,bJ,?_⟩
    ·dsimp only;omega
    ·dsimp only;omega
    ·first|rfl|(simp[go_sem];done)
    ·dsimp only;rw[Pb];simp (disch:=omega) only[dm,cK,and_true,go_sem,au,aA,aB,Int.natCast_add,Int.cast_ofNat_Int]<;>(try trivial)<;>(try omega)<;>(try (repeat (first|trivial|(refine And.intro ?_ ?_)|(congr 1;omega))))
   ·have ht2:ru.outs.take m=ru.outs:=br (by omega);repeat' first|simp (disch:=omega) only[go_sem,au,aA,aB,Lh,ht2]|refine aq ?_|refine ak ?_ ?_<;>intro hw<;>try omega|fail
    refine⟨i+1,?_,?_,?_,bJ,?_⟩
    ·dsimp only;omega
    ·dsimp only;omega
    ·first|rfl|(simp[go_sem];done)
    ·dsimp only;rw[gH,hrd,<-List.append_assoc,hwq];simp (disch:=omega) only[dm,cK,and_true,go_sem,au,aA,aB,Int.natCast_add,Int.cast_ofNat_Int]<;>(try trivial)<;>(try omega)<;>(try (repeat (first|trivial|(refine And.intro ?_ ?_)|(congr 1;omega))))
 ·have ht:t.rules.take i=t.rules:=br (by omega);repeat' first|simp (disch:=omega) only[go_sem,au,aA,aB,ht]|refine aq ?_|refine ak ?_ ?_<;>intro hw<;>try omega|fail
  exact aM (by rw[<-hE]) rfl
end Go.Proofs.YtmbgnaoilncbnaaGreatDoor
