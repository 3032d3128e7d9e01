/- Part of a proof: see Root. -/
import Derived.Test.YtmbgnaoilncbnaaGreatDoorZ34
set_option linter.unnecessarySimpa false
set_option linter.unusedSimpArgs false
set_option linter.unusedVariables false
namespace Go.Proofs.YtmbgnaoilncbnaaGreatDoor
open Go.AM
set_option maxRecDepth 4000
theorem Qw(s:aH)(most:Int)(hs:s.length≤2 ^ 30): aq Tryz.prog tT [.str s,I most] (Oh (iz s most)):=by
 have h1:=oc s (by omega)
 have hr:=gC s
 obtain⟨E,hE⟩:∃ E,iz s most=E:=⟨_,rfl⟩
 rw[hE]
 unfold iz at hE
 generalize takeN s=t at *
 obtain⟨n,r,e⟩:=t
 dsimp only at hE hr
 simp only[eN]at h1
 refine aq.of_nil (Kc (by simp) ?_) (by simp[Oh])
 unfold Bn aM
 intro Q aC aD aE
 by_cases hb:e≠0∨n<0∨n>most
 ·repeat' first|refine aB ?_|refine aF h1 ?_|refine aA (fun hw=>?_) (fun hw=>?_)<;>try omega|fail
  all_goals first|exact aZ|refine bw ?_
  ·rw[if_pos (by omega)]at hE;rw[← hE];exact FD
  ·rw[if_neg (by omega),if_pos (by omega)]at hE;rw[← hE];exact FD
  ·rw[if_neg (by omega),if_neg (by omega),if_pos (by omega)]at hE;rw[← hE];exact FD
 rw[if_neg (by omega),if_neg (by omega),if_neg (by omega)]at hE
 repeat' first|refine aB ?_|refine aF h1 ?_|refine aA (fun hw=>?_) (fun hw=>?_)<;>try omega|fail
 all_goals first|exact aZ|skip
 with_reducible refine a_ [4,5,6,8,9,10,11,29,30,31,32,33,34,35,36,37,38,39,40,41,42,43,44,45] (fun q:List dy × aH × List aR=>[(10,.own EV 0 q.1.length 0 q.1.length),(8,.str q.2.1)]) (fun q=> .vec EV (q.1.map gO)::q.2.2) (fun q=>q.1.length+q.2.1.length≤2 ^ 30∧q.1.length≤n.toNat∧E=gk (n.toNat-q.1.length) q.1 q.2.1) (fun q=>n.toNat-q.1.length) (([],r,[])) ?_ ?_ ?_ ?_
 ·exact⟨by simp;omega,by simp,hE.symm⟩
 ·rfl
 ·exact at_
 rintro⟨out,r,τ⟩ u ⟨g1,g2,g3⟩
 dsimp only at g1 g2 g3
 by_cases hn:(out.length:Int)<n
 ·obtain⟨k,hk⟩:∃ k,n.toNat-out.length=k+1:=⟨n.toNat-out.length-1,by omega⟩
  rw[hk,gk]at g3
  have h2:=WM r (by omega)
  have hv:=KI r
  generalize iN r=t at *
  obtain⟨v,r2,e2⟩:=t
  dsimp only at g3 hv
  simp only[eVS]at h2
  by_cases he:e2=0
  ·rw[if_neg (by omega)]at g3
   have hlt:=hv.2.1 he
   repeat' first|simp (disch:=omega) only[go_sem,aC,aD,aE,aj,au,ak,Nat.reduceAdd,Nat.reduceBEq,↓reduceIte,he]|refine aB ?_|refine aF h2 ?_|refine aA (fun hw=>?_) (fun hw=>?_)<;>try omega|fail
   all_goals first
    | exact aZ
    | (refine ⟨(out ++ [v], r2, τ ++ [aR.cells [I v.kind, I v.n, .str v.s]]), ?_, ?_, ?_, bG, at_⟩
       ·have e:n.toNat-(out++[v]).length=k:=by simp;omega
        dsimp only
        rw[e];exact⟨by simp;omega,by simp;omega,g3⟩
       ·simp;omega
       ·first|rfl|(simp[go_sem];done))
  ·rw[if_pos he]at g3
   repeat' first|refine aB ?_|refine aF h2 ?_|refine aA (fun hw=>?_) (fun hw=>?_)<;>try omega|fail
   all_goals first|exact aZ|(refine bw ?_;rw[g3];exact FD)
 ·have:n.toNat-out.length=0:=by omega
  rw[this,gk]at g3
  repeat' first|refine aB ?_|refine aA (fun hw=>?_) (fun hw=>?_)<;>try omega|fail
  refine bw ?_
  rw[g3]
  exact aQ.cons (View.vec rfl (by simp) (by simp) (RC _)) (aQ.refl rfl)
theorem Qx(s:aH)(most:Int)(hs:s.length≤2 ^ 30): aq Tryz.prog tQ [.str s,I most] (Oh (iz s most)):=by
 have h1:=oe s (by omega)
 have hr:=gC s
 obtain⟨E,hE⟩:∃ E,iz s most=E:=⟨_,rfl⟩
 rw[hE]
 unfold iz at hE
 generalize takeN s=t at *
 obtain⟨n,r,e⟩:=t
 dsimp only at hE hr
 simp only[eN]at h1
 refine aq.of_nil (J9 (by simp) ?_) (by simp[Oh])
 unfold Bj aM
 intro Q aC aD aE
 by_cases hb:e≠0∨n<0∨n>most
 ·repeat' first|refine aB ?_|refine aF h1 ?_|refine aA (fun hw=>?_) (fun hw=>?_)<;>try omega|fail
  all_goals first|exact aZ|refine bw ?_
  ·rw[if_pos (by omega)]at hE;rw[← hE];exact FD
  ·rw[if_neg (by omega),if_pos (by omega)]at hE;rw[← hE];exact FD
  ·rw[if_neg (by omega),if_neg (by omega),if_pos (by omega)]at hE;rw[← hE];exact FD
 rw[if_neg (by omega),if_neg (by omega),if_neg (by omega)]at hE
 repeat' first|refine aB ?_|refine aF h1 ?_|refine aA (fun hw=>?_) (fun hw=>?_)<;>try omega|fail
 all_goals first|exact aZ|skip
 with_reducible refine a_ [4,5,6,8,10,11,12,13,31,32,33,34,35,36,37,38,39,40,41,42,43,44,45,46,47,48] (fun q:List dy × aH × List aR=>[(10,.own EV 0 q.1.length 0 q.1.length),(8,.str q.2.1)]) (fun q=> .vec EV (q.1.map gO)::q.2.2) (fun q=>q.1.length+q.2.1.length≤2 ^ 30∧q.1.length≤n.toNat∧E=gk (n.toNat-q.1.length) q.1 q.2.1) (fun q=>n.toNat-q.1.length) (([],r,[])) ?_ ?_ ?_ ?_
 ·exact⟨by simp;omega,by simp,hE.symm⟩
 ·rfl
 ·exact at_
 rintro⟨out,r,τ⟩ u ⟨g1,g2,g3⟩
 dsimp only at g1 g2 g3
 by_cases hn:(out.length:Int)<n
 ·obtain⟨k,hk⟩:∃ k,n.toNat-out.length=k+1:=⟨n.toNat-out.length-1,by omega⟩
  rw[hk,gk]at g3
  have h2:=WN r (by omega)
  have hv:=KI r
  generalize iN r=t at *
  obtain⟨v,r2,e2⟩:=t
  dsimp only at g3 hv
  simp only[eVS]at h2
  by_cases he:e2=0
  ·rw[if_neg (by omega)]at g3
   have hlt:=hv.2.1 he
   repeat' first|simp (disch:=omega) only[go_sem,aC,aD,aE,aj,au,ak,Nat.reduceAdd,Nat.reduceBEq,↓reduceIte,he]|refine aB ?_|refine aF h2 ?_|refine aA (fun hw=>?_) (fun hw=>?_)<;>try omega|fail
   all_goals first
    | exact aZ
    | (refine ⟨(out ++ [v], r2, τ ++ [aR.cells [I v.kind, I v.n, .str v.s]]), ?_, ?_, ?_, bG, at_⟩
       ·have e:n.toNat-(out++[v]).length=k:=by simp;omega
        dsimp only
        rw[e];exact⟨by simp;omega,by simp;omega,g3⟩
       ·simp;omega
       ·first|rfl|(simp[go_sem];done))
  ·rw[if_pos he]at g3
   repeat' first|refine aB ?_|refine aF h2 ?_|refine aA (fun hw=>?_) (fun hw=>?_)<;>try omega|fail
   all_goals first|exact aZ|(refine bw ?_;rw[g3];exact FD)
 ·have:n.toNat-out.length=0:=by omega
  rw[this,gk]at g3
  repeat' first|refine aB ?_|refine aA (fun hw=>?_) (fun hw=>?_)<;>try omega|fail
  refine bw ?_
  rw[g3]
  exact aQ.cons (View.vec rfl (by simp) (by simp) (RC _)) (aQ.refl rfl)
def SS(l:List dy): aH × Int:=if l.all bS then(rA l,0)else ([],2)
theorem Pt{l:List dy}{i:Nat}(hi:i<l.length)(x:aH): x++(l.take (i+1)).flatMap ff=(x++(l.take i).flatMap ff)++ff (l.getD i default):=by
 rw[take_succ hi,List.flatMap_append];simp
theorem Yk(l:List dy)(hl:SI l): aq Tryz.prog BR [dH l] (.bJ [.str (SS l).1,I (SS l).2]):=by
 obtain⟨hl1,JL⟩:=hl
 have h1:=mh l.length ⟨by omega,by omega⟩
 have h2:=d_ l.length
 obtain⟨E,hE⟩:∃ E,SS l=E:=⟨_,rfl⟩
 rw[hE]
 unfold SS rA at hE
 generalize dw l.length=x at *
 simp only[dH]
 refine aq.of_nil (Rr (by simp) ?_) (by simp)
 unfold Jg aM
 intro Q aC aD aE
 repeat' first|refine aB ?_|refine aF h1 ?_|refine aA (fun hw=>?_) (fun hw=>?_)<;>try omega|fail
 with_reducible refine a_ [2,3,4,6,7,8,14,15,16,17,18,19,20,21,22,23,24,25,26,27,28,29] (fun q:Nat × List aR=>[(14,I q.1),(4,.str (x++(l.take q.1).flatMap ff))]) (fun q=>q.2) (fun q=>q.1≤l.length∧(∀ k,k<q.1→bS (l.getD k default)=true)∧x.length+((l.take q.1).flatMap ff).length≤10+q.1*2147483648) (fun q=>l.length-q.1) ((0,[])) ?_ ?_ ?_ ?_
 ·simp;omega
 ·rfl
 ·simp only[List.take_zero,List.flatMap_nil,List.append_nil];simp (disch:=omega) only[cU,cE,and_true,go_sem,aC,aD,aE,aj,au,ak,Nat.reduceAdd,Nat.reduceBEq,↓reduceIte,Int.natCast_add,Int.cast_ofNat_Int]<;>(try trivial)<;>(try omega)<;>(try (repeat (first|trivial|(refine And.intro ?_ ?_)|(congr 1;omega))))
 rintro⟨i,τ⟩ r ⟨g1,g2,g3⟩
 dsimp only at g1 g2 g3
 by_cases hi:i<l.length
 ·have hv:=JL _ (aY hi)
  have hne:=fun h=>Ob (p:=bS) hi h
  have cu:=fun he=>aW (q:=fun k=>bS (l.getD k default)=true) g2 (i:=i) he
  have iR:=Pt hi x
  obtain⟨v,U7⟩:∃ v,l.getD i default=v:=⟨_,rfl⟩
  rw[U7]at hv hne cu iR
  have h3:=Ua v.kind v.n v.s hv.1 (by omega)
  have xg:=EM v
  have ev:AP ⟨v.kind,v.n,v.s⟩=AP v:=rfl
  rw[ev]at h3
  unfold AP at h3
  obtain⟨y,hy⟩:∃ y,x++(l.take i).flatMap ff=y:=⟨_,rfl⟩
  have Ct:y.length=x.length+((l.take i).flatMap ff).length:=by rw[← hy,List.length_append]
  have pC:=congrArg List.length iR
  rw[hy]at iR
  simp only[List.length_append]at pC
  have KN:((y.length+(ff v).length:Nat):Int)≤IntKind.i64.max:=by show _≤(9223372036854775807:Int);omega
  generalize bS v=b at *
  cases b
  ·simp only[Bool.false_eq_true,if_false]at h3
   rw[hne rfl]at hE
   simp only[Bool.false_eq_true,if_false]at hE
   repeat' first|simp (disch:=omega) only[go_sem,aC,aD,aE,aj,au,ak,Nat.reduceAdd,Nat.reduceBEq,↓reduceIte,U7,hy]|refine aB ?_|refine aF h3 ?_|refine aA (fun hw=>?_) (fun hw=>?_)<;>try omega|fail
   all_goals first|exact aZ|(exact aP (by rw[← hE]) rfl)
  ·simp only[if_true]at h3
   repeat' first|simp (disch:=omega) only[go_sem,aC,aD,aE,aj,au,ak,Nat.reduceAdd,Nat.reduceBEq,↓reduceIte,U7,hy]|refine aB ?_|refine aF h3 ?_|refine aA (fun hw=>?_) (fun hw=>?_)<;>try omega|fail
   all_goals first
    | exact aZ
    | (refine ⟨(i + 1, τ ++ [aR.cells [I v.kind, I v.n, .str v.s]]), ?_, ?_, ?_, bG, ?_⟩
       ·refine⟨by dsimp only;omega,cu rfl,?_⟩
        dsimp only
        omega
       ·dsimp only;omega
       ·first|rfl|(simp[go_sem];done)
       ·dsimp only;rw[iR];simp (disch:=omega) only[cU,cE,and_true,go_sem,aC,aD,aE,aj,au,ak,Nat.reduceAdd,Nat.reduceBEq,↓reduceIte,Int.natCast_add,Int.cast_ofNat_Int]<;>(try trivial)<;>(try omega)<;>(try (repeat (first|trivial|(refine And.intro ?_ ?_)|(congr 1;omega)))))
 ·have ht:l.take i=l:=List.take_of_length_le (by omega)
  rw[Oa (fun k hk=>g2 k (by omega)),if_pos rfl]at hE
  repeat' first|simp (disch:=omega) only[go_sem,aC,aD,aE,aj,au,ak,Nat.reduceAdd,Nat.reduceBEq,↓reduceIte,ht]|refine aB ?_|refine aA (fun hw=>?_) (fun hw=>?_)<;>try omega|fail
  exact aP (by rw[← hE]) rfl
theorem Yl(l:List dy)(hl:SI l)(hr:l.all bS=true): aq Tryz.prog BU [dH l] (.str (rA l)):=by
 obtain⟨hl1,JL⟩:=hl
 have h1:=mj l.length ⟨by omega,by omega⟩
 have h2:=d_ l.length
 obtain⟨E,hE⟩:∃ E,rA l=E:=⟨_,rfl⟩
 rw[hE]
 unfold rA at hE
 generalize dw l.length=x at *
 simp only[dH]
 refine aq.of_nil (Rt (by simp) ?_) (by simp)
 unfold Ji aM
 intro Q aC aD aE
 repeat' first|refine aB ?_|refine aF h1 ?_|refine aA (fun hw=>?_) (fun hw=>?_)<;>try omega|fail
 with_reducible refine a_ [3,4,8,9,10,11,12,13,14,15,16,17,18,19,20] (fun q:Nat=>[(4,I q),(3,.str (x++(l.take q).flatMap ff))]) (fun _=>[]) (fun q=>q≤l.length∧x.length+((l.take q).flatMap ff).length≤10+q*2147483648) (fun q=>l.length-q) (0) ?_ ?_ ?_ ?_
 ·simp;omega
 ·rfl
 ·simp only[List.take_zero,List.flatMap_nil,List.append_nil];simp (disch:=omega) only[cU,cE,and_true,go_sem,aC,aD,aE,aj,au,ak,Nat.reduceAdd,Nat.reduceBEq,↓reduceIte,Int.natCast_add,Int.cast_ofNat_Int]<;>(try trivial)<;>(try omega)<;>(try (repeat (first|trivial|(refine And.intro ?_ ?_)|(congr 1;omega))))
 rintro i r ⟨g1,g3⟩
 by_cases hi:i<l.length
 ·have hv:=JL _ (aY hi)
  have hrt:=List.all_eq_true.1 hr _ (aY hi)
  have iR:=Pt hi x
  obtain⟨v,U7⟩:∃ v,l.getD i default=v:=⟨_,rfl⟩
  rw[U7]at hv iR hrt
  have hk:=rW hrt
  have h3:=Ub v.kind v.n v.s ⟨by omega,by omega⟩ hv.1 (by omega)
  have xg:=EM v
  have ev:ff ⟨v.kind,v.n,v.s⟩=ff v:=rfl
  rw[ev]at h3
  obtain⟨y,hy⟩:∃ y,x++(l.take i).flatMap ff=y:=⟨_,rfl⟩
  have Ct:y.length=x.length+((l.take i).flatMap ff).length:=by rw[← hy,List.length_append]
  have pC:=congrArg List.length iR
  rw[hy]at iR
  simp only[List.length_append]at pC
  have KN:((y.length+(ff v).length:Nat):Int)≤IntKind.i64.max:=by show _≤(9223372036854775807:Int);omega
  repeat' first|simp (disch:=omega) only[go_sem,aC,aD,aE,aj,au,ak,Nat.reduceAdd,Nat.reduceBEq,↓reduceIte,U7,hy]|refine aB ?_|refine aF h3 ?_|refine aA (fun hw=>?_) (fun hw=>?_)<;>try omega|fail
  refine⟨i+1,?_,?_,?_,bG,?_⟩
  ·refine⟨by omega,?_⟩
   omega
  ·dsimp only;omega
  ·first|rfl|(simp[go_sem];done)
  ·dsimp only;rw[iR];simp (disch:=omega) only[cU,cE,and_true,go_sem,aC,aD,aE,aj,au,ak,Nat.reduceAdd,Nat.reduceBEq,↓reduceIte,Int.natCast_add,Int.cast_ofNat_Int]<;>(try trivial)<;>(try omega)<;>(try (repeat (first|trivial|(refine And.intro ?_ ?_)|(congr 1;omega))))
 ·have ht:l.take i=l:=List.take_of_length_le (by omega)
  repeat' first|simp (disch:=omega) only[go_sem,aC,aD,aE,aj,au,ak,Nat.reduceAdd,Nat.reduceBEq,↓reduceIte,ht]|refine aB ?_|refine aA (fun hw=>?_) (fun hw=>?_)<;>try omega|fail
  exact aL (by rw[← hE]) rfl
theorem wz{α : Type}[Inhabited α](f : α→aH){l:List α}{i:Nat}(hi:i<l.length)(x:aH): x++(l.take (i+1)).flatMap f=(x++(l.take i).flatMap f)++f (l.getD i default):=by
 rw[take_succ hi,List.flatMap_append];simp
def EN(c:bV): Prop:=c.name.length≤2 ^ 30∧mC c.kind∧c.order.length≤8∧ ∀ v ∈ c.order,bS v=true∧mC v.n
def KO(l:List aH): Prop:=l.length≤6∧ ∀ s ∈ l,s.length≤2 ^ 30
def ZP(t:Table): Prop:=t.name.length≤2 ^ 30∧mC t.bl∧mC t.agg∧(t.ins.length≤6∧ ∀ c ∈ t.ins,EN c)∧(t.outs.length≤6∧ ∀ c ∈ t.outs,EN c)∧t.rules.length≤24∧ ∀ r ∈ t.rules,KO r.cells∧KO r.outs
theorem Pu{c:bV}(h:EN c): SI c.order∧c.order.all bS=true:=by
 refine⟨⟨by have:=h.2.2.1;omega,fun v hv=>⟨(h.2.2.2 v hv).2,by have:=SM (h.2.2.2 v hv).1;omega⟩⟩,List.all_eq_true.2 fun v hv=>(h.2.2.2 v hv).1⟩
theorem Ym{t:Table}(ok:gU t)(h:(bZ t).2.2.2=0): ZP t:=by
 obtain⟨h5,_,_⟩:=Cm h
 obtain⟨hf,hl,_⟩:=qP h5
 have hn:eK t.name=true:=by
  unfold e7 at hf;split at hf
  ·omega
  ·rename_i hh;simpa using hh
 obtain⟨p1,p2,p3,p4⟩:g_ t.ins false=0∧g_ t.outs (decide (t.bl=3))=0∧jj t=true∧t.rules.length≤24:=by
  unfold e7 at hf
  rw[hn,if_neg (by simp)]at hf
  split at hf
  ·contradiction
  split at hf
  ·contradiction
  split at hf
  ·cases hf
  split at hf
  ·cases hf
  ·rename_i a b c d;exact⟨by simpa using a,by simpa using b,by simpa using c,by omega⟩
 obtain⟨i1,i2,i3⟩:=EL p1
 obtain⟨o1,o2,o3⟩:=EL p2
 have pp:=JQ p3
 have hi:=BM i1
 have ho:=BM o1
 have hc:∀ (b:Bool) (c:bV),(eK c.name=true∧1≤c.kind∧c.kind≤3)→fQ c b=true→qO c→EN c:=fun b c q1 q2 q3=>by
  have w1:=EK q1.1
  have w2:=MP q2 q3
  exact⟨by omega,⟨by omega,by omega⟩,w2.2⟩
 refine⟨by have:=EK hn;omega,⟨by omega,by omega⟩,⟨by omega,by omega⟩,⟨hi.1,fun c hm=>hc false c (hi.2 c hm) (i3 c hm) (ok.2.1.2 c hm)⟩,⟨ho.1,fun c hm=>hc _ c (ho.2 c hm) (o3 c hm) (ok.2.2.1.2 c hm)⟩,p4,fun r hr=>?_⟩
 obtain⟨j,hj,rfl⟩:=List.getElem_of_mem hr
 have e:t.rules[j]=t.rules.getD j default:=by rw[List.getD_eq_getElem?_getD,List.getElem?_eq_getElem hj];rfl
 have hz:=hl j hj
 unfold gj at hz
 rw[← e]at hz
 obtain⟨z1,z2,_⟩:=EI hz
 have ro:=ok.2.2.2.2 _ hr
 exact⟨⟨by have:=hi.1;omega,ro.1.2⟩,⟨by have:=ho.1;omega,ro.2.2⟩⟩
theorem qp(s:aH): (bY s).length≤10+s.length:=by unfold bY;have:=d_ s.length;rw[List.length_append];omega
theorem SU{l:List dy}(hl:l.length≤8)(h:∀ v ∈ l,bS v=true): (rA l).length≤1000:=by
 have h1:=d_ l.length
 have h2:(l.flatMap ff).length≤70*l.length:=by
  clear h1 hl
  induction l with
  | nil=>simp
  | cons v l ih =>
    have a1:=EM v
    have a2:=SM (h v (by simp))
    have a3:=ih (fun w hw=>h w (by simp[hw]))
    rw[List.flatMap_cons,List.length_append,List.length_cons];omega
 unfold rA;rw[List.length_append];omega
theorem Ig(o:Bool){c:bV}(h:EN c): (kC o c).length≤1073750000:=by
 have h1:=qp c.name
 have h2:=d_ c.kind
 have h3:=SU h.2.2.1 (fun v hv=>(h.2.2.2 v hv).1)
 have h4:=h.1
 unfold kC
 simp only[List.length_append]
 cases o
 ·simp;omega
 ·simp;omega
theorem SV{α : Type}{f : α→aH}{b:Nat}: ∀ {l:List α},(∀ x ∈ l,(f x).length≤b)→(l.flatMap f).length≤l.length*b:=by
 intro l
 induction l with
 | nil=>intro _;simp
 | cons x l ih =>
   intro h
   have a1:=h x (by simp)
   have a2:=ih (fun y hy=>h y (by simp[hy]))
   rw[List.flatMap_cons,List.length_append,List.length_cons,Nat.add_mul];omega
theorem Pv(o:Bool){l:List bV}(hl:l.length≤6)(h:∀ c ∈ l,EN c): (iY o l).length≤6442500010:=by
 have h1:=d_ l.length
 have h2:=SV (f:=kC o) (fun c hc=>Ig o (h c hc))
 unfold iY;rw[List.length_append];omega
theorem tC{l:List aH}(h:KO l): (l.flatMap bY).length≤6442451004:=by
 have h2:=SV (f:=bY) (l:=l) (b:=1073741834) (fun s hs=>by have:=qp s;have:=h.2 s hs;omega)
 have:=h.1;omega
theorem Oi(c:bV): aq Tryz.prog nD [bp c] (.str []):=by
 refine aq.of_nil (IY (by simp) ?_) (by simp)
 unfold zZ aM
 intro Q aC aD aE
 repeat' first|refine aB ?_|refine aA (fun hw=>?_) (fun hw=>?_)<;>try omega|fail
 exact aL rfl rfl
theorem SW(c:bV)(h:EN c): aq Tryz.prog qz [bp c] (.str (rA c.order)):=by
 have hv:=Pu h
 have h1:=Yk c.order hv.1
 unfold SS at h1
 rw[hv.2,if_pos rfl]at h1
 simp only[dH]at h1
 simp only[bp,dH]
 refine aq.of_nil (Lw (by simp) ?_) (by simp)
 unfold CH aM
 intro Q aC aD aE
 repeat' first|refine aB ?_|refine aF h1 ?_|refine aA (fun hw=>?_) (fun hw=>?_)<;>try omega|fail
 exact aL rfl rfl
theorem Dt(l:List bV)(o:Bool)(F:FuncId)(hl:l.length≤6)(h:∀ c ∈ l,EN c)(hF:∀ c ∈ l,aq Tryz.prog F [bp c] (.str (if o then rA c.order else []))):
 aq Tryz.prog nC [bq l,.fn (.func F) [] []] (.str (iY o l)):=by
 have h1:=mh l.length ⟨by omega,by omega⟩
 have h2:=d_ l.length
 obtain⟨E,hE⟩:∃ E,iY o l=E:=⟨_,rfl⟩
 rw[hE]
 unfold iY at hE
 generalize dw l.length=x at *
 simp only[bq]
 refine aq.of_nil (IX (by simp) ?_) (by simp)
 unfold zY aM
 intro Q aC aD aE
 repeat' first|refine aB ?_|refine aF h1 ?_|refine aA (fun hw=>?_) (fun hw=>?_)<;>try omega|fail
 with_reducible refine a_ [5,7,13,14,15,16,17,18,19,20,21,22,23,24,25,26,27,28,29,30] (fun q:Nat × List aR=>[(13,I q.1),(5,.str (x++(l.take q.1).flatMap (kC o)))]) (fun q=>q.2) (fun q=>q.1≤l.length∧x.length+((l.take q.1).flatMap (kC o)).length≤10+q.1*1073750000) (fun q=>l.length-q.1) ((0,[])) ?_ ?_ ?_ ?_
 ·simp;omega
 ·rfl
 ·simp only[List.take_zero,List.flatMap_nil,List.append_nil];simp (disch:=omega) only[cU,cE,and_true,go_sem,aC,aD,aE,aj,au,ak,Nat.reduceAdd,Nat.reduceBEq,↓reduceIte,Int.natCast_add,Int.cast_ofNat_Int]<;>(try trivial)<;>(try omega)<;>(try (repeat (first|trivial|(refine And.intro ?_ ?_)|(congr 1;omega))))
 rintro⟨i,τ⟩ r ⟨g1,g3⟩
 dsimp only at g1 g3
 by_cases hi:i<l.length
 ·have hc:=h _ (aY hi)
  have hf:=hF _ (aY hi)
  have iR:=wz (kC o) hi x
  obtain⟨c,hce⟩:∃ c,l.getD i default=c:=⟨_,rfl⟩
  rw[hce]at hc hf iR
  have c1:=y2 c.name (by have:=hc.1;omega)
  have c2:=mh c.kind hc.2.1
  have xg:=Ig o hc
  obtain⟨y,hy⟩:∃ y,x++(l.take i).flatMap (kC o)=y:=⟨_,rfl⟩
  have Ct:y.length=x.length+((l.take i).flatMap (kC o)).length:=by rw[← hy,List.length_append]
  have pC:=congrArg List.length iR
  rw[hy]at iR
  simp only[List.length_append]at pC
  have SX:kC o c=bY c.name++dw c.kind++(if o then rA c.order else []):=rfl
  generalize bY c.name=u1 at *
  generalize dw c.kind=u2 at *
  generalize (if o then rA c.order else [])=u3 at *
  have Yn:=congrArg List.length SX
  simp only[List.length_append]at Yn
  have a1:((u1.length+u2.length:Nat):Int)≤IntKind.i64.max:=by show _≤(9223372036854775807:Int);omega
  have a2:(((u1++u2).length+u3.length:Nat):Int)≤IntKind.i64.max:=by rw[List.length_append];show _≤(9223372036854775807:Int);omega
  have a3:((y.length+(u1++u2++u3).length:Nat):Int)≤IntKind.i64.max:=by simp only[List.length_append];show _≤(9223372036854775807:Int);omega
  simp only[bp,dH]at hf
  repeat' first|simp (disch:=omega) only[go_sem,aC,aD,aE,aj,au,ak,Nat.reduceAdd,Nat.reduceBEq,↓reduceIte,hce,hy,a1,a2,a3]|refine aB ?_|refine aF c1 ?_|refine aF c2 ?_|refine aF hf ?_|refine aA (fun hw=>?_) (fun hw=>?_)<;>try omega|fail
  refine⟨(i+1,τ++[aR.cells [.str c.name,I c.kind,.aG false EV (c.order.map gO)]]),?_,?_,?_,bG,?_⟩
  ·dsimp only;omega
  ·dsimp only;omega
  ·first|rfl|(simp[go_sem];done)
  ·dsimp only;rw[iR,SX];simp (disch:=omega) only[cU,cE,and_true,go_sem,aC,aD,aE,aj,au,ak,Nat.reduceAdd,Nat.reduceBEq,↓reduceIte,Int.natCast_add,Int.cast_ofNat_Int]<;>(try trivial)<;>(try omega)<;>(try (repeat (first|trivial|(refine And.intro ?_ ?_)|(congr 1;omega))))
 ·have ht:l.take i=l:=List.take_of_length_le (by omega)
  repeat' first|simp (disch:=omega) only[go_sem,aC,aD,aE,aj,au,ak,Nat.reduceAdd,Nat.reduceBEq,↓reduceIte,ht]|refine aB ?_|refine aA (fun hw=>?_) (fun hw=>?_)<;>try omega|fail
  exact aL (by rw[← hE]) rfl
theorem Ih(l:List aH)(h:KO l): aq Tryz.prog qA [dS l] (.str (l.flatMap bY)):=by
 obtain⟨hl,hs⟩:=h
 obtain⟨E,hE⟩:∃ E,l.flatMap bY=E:=⟨_,rfl⟩
 rw[hE]
 simp only[dS]
 refine aq.of_nil (Ly (by simp) ?_) (by simp)
 unfold CI aM
 intro Q aC aD aE
 repeat' first|refine aB ?_|refine aA (fun hw=>?_) (fun hw=>?_)<;>try omega|fail
 with_reducible refine a_ [3,5,8,9,10,11,12,13,14,15,16] (fun q:Nat=>[(8,I q),(3,.str ((l.take q).flatMap bY))]) (fun _=>[]) (fun q=>q≤l.length∧((l.take q).flatMap bY).length≤q*1073741834) (fun q=>l.length-q) (0) ?_ ?_ ?_ ?_
 ·simp
 ·rfl
 ·simp only[List.take_zero,List.flatMap_nil];simp (disch:=omega) only[cU,cE,and_true,go_sem,aC,aD,aE,aj,au,ak,Nat.reduceAdd,Nat.reduceBEq,↓reduceIte,Int.natCast_add,Int.cast_ofNat_Int]<;>(try trivial)<;>(try omega)<;>(try (repeat (first|trivial|(refine And.intro ?_ ?_)|(congr 1;omega))))
 rintro i r ⟨g1,g3⟩
 by_cases hi:i<l.length
 ·have hs1:=hs _ (aY hi)
  have iR:=wz bY hi []
  simp only[List.nil_append]at iR
  obtain⟨s,MS⟩:∃ s,l.getD i default=s:=⟨_,rfl⟩
  rw[MS]at hs1 iR
  have c1:=y2 s (by omega)
  have xg:=qp s
  obtain⟨y,hy⟩:∃ y,(l.take i).flatMap bY=y:=⟨_,rfl⟩
  rw[hy]at iR g3
  have a1:((y.length+(bY s).length:Nat):Int)≤IntKind.i64.max:=by show _≤(9223372036854775807:Int);omega
  have hg:(List.map cy l).getD i .undef = .str s:=by rw[getD_map _ _ _ hi,MS];rfl
  repeat' first|simp (disch:=omega) only[go_sem,aC,aD,aE,aj,au,ak,Nat.reduceAdd,Nat.reduceBEq,↓reduceIte,MS,hy,a1,hg]|refine aB ?_|refine aF c1 ?_|refine aA (fun hw=>?_) (fun hw=>?_)<;>try omega|fail
  refine⟨i+1,?_,?_,?_,bG,?_⟩
  ·refine⟨by omega,?_⟩
   rw[iR,List.length_append];omega
  ·dsimp only;omega
  ·first|rfl|(simp[go_sem];done)
  ·dsimp only;rw[iR];simp (disch:=omega) only[cU,cE,and_true,go_sem,aC,aD,aE,aj,au,ak,Nat.reduceAdd,Nat.reduceBEq,↓reduceIte,Int.natCast_add,Int.cast_ofNat_Int]<;>(try trivial)<;>(try omega)<;>(try (repeat (first|trivial|(refine And.intro ?_ ?_)|(congr 1;omega))))
 ·have ht:l.take i=l:=List.take_of_length_le (by omega)
  repeat' first|simp (disch:=omega) only[go_sem,aC,aD,aE,aj,au,ak,Nat.reduceAdd,Nat.reduceBEq,↓reduceIte,ht]|refine aB ?_|refine aA (fun hw=>?_) (fun hw=>?_)<;>try omega|fail
  exact aL (by rw[← hE]) rfl
theorem qt{a b:Nat}(h:a+b≤9223372036854775807): ((a+b:Nat):Int)≤IntKind.i64.max:=by show _≤(9223372036854775807:Int);omega
theorem FP(l:List bV)(o:Bool)(hl:l.length≤6)(h:∀ c ∈ l,EN c): aq Tryz.prog oR [bq l,.bool o] (.str (iY o l)):=by
 have h1:=mj l.length ⟨by omega,by omega⟩
 have h2:=d_ l.length
 obtain⟨E,hE⟩:∃ E,iY o l=E:=⟨_,rfl⟩
 rw[hE]
 unfold iY at hE
 generalize dw l.length=x at *
 simp only[bq]
 refine aq.of_nil (Ka (by simp) ?_) (by simp)
 unfold Bl aM
 intro Q aC aD aE
 repeat' first|refine aB ?_|refine aF h1 ?_|refine aA (fun hw=>?_) (fun hw=>?_)<;>try omega|fail
 with_reducible refine a_ [5,6,10,11,12,13,14,15,16,17,18,19,20,21,22,23,24,25,26,27,28,29,30,31,32,33,34,35,36,37,38,39] (fun q:Nat=>[(6,I q),(5,.str (x++(l.take q).flatMap (kC o)))]) (fun _=>[]) (fun q=>q≤l.length∧x.length+((l.take q).flatMap (kC o)).length≤10+q*1073750000) (fun q=>l.length-q) (0) ?_ ?_ ?_ ?_
 ·simp;omega
 ·rfl
 ·simp only[List.take_zero,List.flatMap_nil,List.append_nil];simp (disch:=omega) only[cU,cE,and_true,go_sem,aC,aD,aE,aj,au,ak,Nat.reduceAdd,Nat.reduceBEq,↓reduceIte,Int.natCast_add,Int.cast_ofNat_Int]<;>(try trivial)<;>(try omega)<;>(try (repeat (first|trivial|(refine And.intro ?_ ?_)|(congr 1;omega))))
 rintro i r ⟨g1,g3⟩
 by_cases hi:i<l.length
 ·have hc:=h _ (aY hi)
  have iR:=wz (kC o) hi x
  obtain⟨c,hce⟩:∃ c,l.getD i default=c:=⟨_,rfl⟩
  rw[hce]at hc iR
  have hv:=Pu hc
  have c1:=uQ c.name (by have:=hc.1;omega)
  have c2:=mj c.kind hc.2.1
  have c3:=Yl c.order hv.1 hv.2
  have xg:=Ig o hc
  obtain⟨y,hy⟩:∃ y,x++(l.take i).flatMap (kC o)=y:=⟨_,rfl⟩
  have Ct:y.length=x.length+((l.take i).flatMap (kC o)).length:=by rw[← hy,List.length_append]
  have pC:=congrArg List.length iR
  rw[hy]at iR
  simp only[List.length_append]at pC
  have SX:kC o c=bY c.name++dw c.kind++(if o then rA c.order else []):=rfl
  have hrl:=SU hc.2.2.1 (fun v hv=>(hc.2.2.2 v hv).1)
  have htl:=qp c.name
  have hnl:=d_ c.kind
  have o9:=hc.1
  generalize bY c.name=u1 at *
  generalize dw c.kind=u2 at *
  generalize rA c.order=u3 at *
  have a1:=qt (a:=y.length) (b:=u1.length) (by omega)
  have a2:=qt (a:=(y++u1).length) (b:=u2.length) (by rw[List.length_append];omega)
  have a3:=qt (a:=(y++u1++u2).length) (b:=u3.length) (by simp only[List.length_append];omega)
  simp only[dH]at c3
  cases o
  ·repeat' first|simp (disch:=omega) only[go_sem,aC,aD,aE,aj,au,ak,Nat.reduceAdd,Nat.reduceBEq,↓reduceIte,hce,hy,a1,a2]|refine aB ?_|refine aF c1 ?_|refine aF c2 ?_|refine aF c3 ?_|refine aA (fun hw=>?_) (fun hw=>?_)<;>try omega|fail
   refine⟨i+1,?_,?_,?_,bG,?_⟩
   ·dsimp only;omega
   ·dsimp only;omega
   ·first|rfl|(simp[go_sem];done)
   ·dsimp only;rw[iR,SX];simp only[Bool.false_eq_true,if_false,List.append_nil,← List.append_assoc];simp (disch:=omega) only[cU,cE,and_true,go_sem,aC,aD,aE,aj,au,ak,Nat.reduceAdd,Nat.reduceBEq,↓reduceIte,Int.natCast_add,Int.cast_ofNat_Int]<;>(try trivial)<;>(try omega)<;>(try (repeat (first|trivial|(refine And.intro ?_ ?_)|(congr 1;omega))))
  ·repeat' first|simp (disch:=omega) only[go_sem,aC,aD,aE,aj,au,ak,Nat.reduceAdd,Nat.reduceBEq,↓reduceIte,hce,hy,a1,a2,a3]|refine aB ?_|refine aF c1 ?_|refine aF c2 ?_|refine aF c3 ?_|refine aA (fun hw=>?_) (fun hw=>?_)<;>try omega|fail
   refine⟨i+1,?_,?_,?_,bG,?_⟩
   ·dsimp only;omega
   ·dsimp only;omega
   ·first|rfl|(simp[go_sem];done)
   ·dsimp only;rw[iR,SX];simp only[if_true,← List.append_assoc];simp (disch:=omega) only[cU,cE,and_true,go_sem,aC,aD,aE,aj,au,ak,Nat.reduceAdd,Nat.reduceBEq,↓reduceIte,Int.natCast_add,Int.cast_ofNat_Int]<;>(try trivial)<;>(try omega)<;>(try (repeat (first|trivial|(refine And.intro ?_ ?_)|(congr 1;omega))))
 ·have ht:l.take i=l:=List.take_of_length_le (by omega)
  repeat' first|simp (disch:=omega) only[go_sem,aC,aD,aE,aj,au,ak,Nat.reduceAdd,Nat.reduceBEq,↓reduceIte,ht]|refine aB ?_|refine aA (fun hw=>?_) (fun hw=>?_)<;>try omega|fail
  exact aL (by rw[← hE]) rfl
def y3(t:Table): aH:=bY t.name++dw t.bl++dw t.agg++iY false t.ins++iY true t.outs++dw t.rules.length
theorem KP(t:Table): qQ t=y3 t++t.rules.flatMap eX:=rfl
theorem Ii{t:Table}(h:ZP t): (y3 t).length≤17179869184:=by
 have h1:=qp t.name
 have h2:=d_ t.bl
 have h3:=d_ t.agg
 have h4:=Pv false h.2.2.2.1.1 h.2.2.2.1.2
 have h5:=Pv true h.2.2.2.2.1.1 h.2.2.2.2.1.2
 have h6:=d_ t.rules.length
 have h7:=h.1
 unfold y3;simp only[List.length_append];omega
theorem Ij{r:cK}(h:KO r.cells∧KO r.outs): (eX r).length≤12884902008:=by
 have h1:=tC h.1
 have h2:=tC h.2
 unfold eX;rw[List.length_append];omega
theorem JR{l:List aH}(h:KO l)(k:Nat): ((l.take k).flatMap bY).length≤6442451004 :=
 tC ⟨by rw[List.length_take];have:=h.1;omega,fun s hs=>h.2 s (List.mem_of_mem_take hs)⟩
set_option maxHeartbeats 1000000 in
theorem WO(t:Table)(h:ZP t): aq Tryz.prog zD [bI t] (.str (qQ t)):=by
 obtain⟨E,hE⟩:∃ E,qQ t=E:=⟨_,rfl⟩
 rw[hE]
 rw[KP]at hE
 have hl:=Ii h
 have hd:y3 t=bY t.name++dw t.bl++dw t.agg++iY false t.ins++iY true t.outs++dw t.rules.length:=rfl
 obtain⟨b1,b2,b3,b4,b5,b6,b7⟩:=h
 have c1:=uQ t.name (by omega)
 have c2:=mj t.bl b2
 have c3:=mj t.agg b3
 have c4:=FP t.ins false b4.1 b4.2
 have c5:=FP t.outs true b5.1 b5.2
 have c6:=mj t.rules.length ⟨by omega,by omega⟩
 generalize y3 t=x at *
 generalize bY t.name=u1 at *
 generalize dw t.bl=u2 at *
 generalize dw t.agg=u3 at *
 generalize iY false t.ins=u4 at *
 generalize iY true t.outs=u5 at *
 generalize dw t.rules.length=u6 at *
 have Yn:=congrArg List.length hd
 simp only[List.length_append]at Yn
 have a1:=qt (a:=u1.length) (b:=u2.length) (by omega)
 have a2:=qt (a:=(u1++u2).length) (b:=u3.length) (by simp only[List.length_append];omega)
 have a3:=qt (a:=(u1++u2++u3).length) (b:=u4.length) (by simp only[List.length_append];omega)
 have a4:=qt (a:=(u1++u2++u3++u4).length) (b:=u5.length) (by simp only[List.length_append];omega)
 have a5:=qt (a:=(u1++u2++u3++u4++u5).length) (b:=u6.length) (by simp only[List.length_append];omega)
 have hd':=hd.symm
 clear hd
 simp only[bI,dc,bq,cQ]at c4 c5 ⊢
 refine aq.of_nil (PV (by simp) ?_) (by simp)
 unfold GC aM
 intro Q aC aD aE
 repeat' first|simp (disch:=omega) only[go_sem,aC,aD,aE,aj,au,ak,Nat.reduceAdd,Nat.reduceBEq,↓reduceIte,a1,a2,a3,a4,a5,hd']|refine aB ?_|refine aF c1 ?_|refine aF c2 ?_|refine aF c3 ?_|refine aF c4 ?_|refine aF c5 ?_|refine aF c6 ?_|refine aA (fun hw=>?_) (fun hw=>?_)<;>try omega|fail
 with_reducible refine a_ [3,4,5,6,31,32,33,34,35,36,37,38,39,40,41,42,43,44,45,46,47,48,49,50,51,52,53,54,55,56,57,58,59,60,61,62,63,64,65,66,67,68,69,70,71,72,73,74,75,76,77,78,79,80,81,82,83] (fun q:Nat=>[(4,I q),(3,.str (x++(t.rules.take q).flatMap eX))]) (fun _=>[.cells [.str t.name,.aG false EC (t.ins.map bp),.aG false EC (t.outs.map bp),I t.bl,I t.agg,.aG false ER (t.rules.map cj)]]) (fun q=>q≤t.rules.length∧x.length+((t.rules.take q).flatMap eX).length≤17179869184+q*12884902008) (fun q=>t.rules.length-q) (0) ?_ ?_ ?_ ?_
 ·simp;omega
 ·rfl
 ·simp only[List.take_zero,List.flatMap_nil,List.append_nil];simp (disch:=omega) only[cU,cE,and_true,go_sem,aC,aD,aE,aj,au,ak,Nat.reduceAdd,Nat.reduceBEq,↓reduceIte,Int.natCast_add,Int.cast_ofNat_Int]<;>(try trivial)<;>(try omega)<;>(try (repeat (first|trivial|(refine And.intro ?_ ?_)|(congr 1;omega))))
 rintro i r ⟨g1,g3⟩
 by_cases hi:i<t.rules.length
 ·have hr:=b7 _ (aY hi)
  have iR:=wz eX hi x
  obtain⟨ru,Ht⟩:∃ c,t.rules.getD i default=c:=⟨_,rfl⟩
  rw[Ht]at hr iR
  have hrl:=Ij hr
  have l6:=hr.1.1
  have m6:=hr.2.1
  obtain⟨y,hy⟩:∃ y,x++(t.rules.take i).flatMap eX=y:=⟨_,rfl⟩
  have Ct:y.length=x.length+((t.rules.take i).flatMap eX).length:=by rw[← hy,List.length_append]
  have pC:=congrArg List.length iR
  rw[hy]at iR
  simp only[List.length_append]at pC
  have hrd:eX ru=ru.cells.flatMap bY++ru.outs.flatMap bY:=rfl
  repeat' first|simp (disch:=omega) only[go_sem,aC,aD,aE,aj,au,ak,Nat.reduceAdd,Nat.reduceBEq,↓reduceIte,Ht,hy]|refine aB ?_|refine aA (fun hw=>?_) (fun hw=>?_)<;>try omega|fail
  with_reducible refine a_ [3,5,38,39,40,41,42,43,44,45,46,47,48,49,50,51,52,53,54,55,56,57,58,59,60] (fun q:Nat=>[(5,I q),(3,.str (y++(ru.cells.take q).flatMap bY))]) (fun _=>[.cells [.str t.name,.aG false EC (t.ins.map bp),.aG false EC (t.outs.map bp),I t.bl,I t.agg,.aG false ER (t.rules.map cj)]]) (fun q=>q≤ru.cells.length) (fun q=>ru.cells.length-q) (0) ?_ ?_ ?_ ?_
  ·simp
  ·rfl
  ·simp only[List.take_zero,List.flatMap_nil,List.append_nil,← hy];simp (disch:=omega) only[cU,cE,and_true,go_sem,aC,aD,aE,aj,au,ak,Nat.reduceAdd,Nat.reduceBEq,↓reduceIte,Int.natCast_add,Int.cast_ofNat_Int]<;>(try trivial)<;>(try omega)<;>(try (repeat (first|trivial|(refine And.intro ?_ ?_)|(congr 1;omega))))
  rintro k r2 k1
  have tJ:=JR hr.1 k
  by_cases hk:k<ru.cells.length
  ·have hs1:=hr.1.2 _ (aY hk)
   have KQ:=wz bY hk y
   obtain⟨s,MS⟩:∃ s,ru.cells.getD k default=s:=⟨_,rfl⟩
   rw[MS]at hs1 KQ
   have d1:=uQ s (by omega)
   have xg:=qp s
   obtain⟨z,hz⟩:∃ z,y++(ru.cells.take k).flatMap bY=z:=⟨_,rfl⟩
   have hzl:z.length=y.length+((ru.cells.take k).flatMap bY).length:=by rw[← hz,List.length_append]
   rw[hz]at KQ
   have e1:=qt (a:=z.length) (b:=(bY s).length) (by omega)
   have hg:(List.map cy ru.cells).getD k .undef = .str s:=by rw[getD_map _ _ _ hk,MS];rfl
   repeat' first|simp (disch:=omega) only[go_sem,aC,aD,aE,aj,au,ak,Nat.reduceAdd,Nat.reduceBEq,↓reduceIte,Ht,hz,e1,hg]|refine aB ?_|refine aF d1 ?_|refine aA (fun hw=>?_) (fun hw=>?_)<;>try omega|fail
   refine⟨k+1,?_,?_,?_,bG,?_⟩
   ·dsimp only;omega
   ·dsimp only;omega
   ·first|rfl|(simp[go_sem];done)
   ·dsimp only;rw[KQ];simp (disch:=omega) only[cU,cE,and_true,go_sem,aC,aD,aE,aj,au,ak,Nat.reduceAdd,Nat.reduceBEq,↓reduceIte,Int.natCast_add,Int.cast_ofNat_Int]<;>(try trivial)<;>(try omega)<;>(try (repeat (first|trivial|(refine And.intro ?_ ?_)|(congr 1;omega))))
  ·have ht:ru.cells.take k=ru.cells:=List.take_of_length_le (by omega)
   have c_:=tC hr.1
   obtain⟨w,hwq⟩:∃ w,y++ru.cells.flatMap bY=w:=⟨_,rfl⟩
   have hwl:w.length=y.length+(ru.cells.flatMap bY).length:=by rw[← hwq,List.length_append]
   repeat' first|simp (disch:=omega) only[go_sem,aC,aD,aE,aj,au,ak,Nat.reduceAdd,Nat.reduceBEq,↓reduceIte,Ht,ht,hwq]|refine aB ?_|refine aA (fun hw=>?_) (fun hw=>?_)<;>try omega|fail
   with_reducible refine a_ [3,6,61,62,63,64,65,66,67,68,69,70,71,72,73,74,75,76,77,78,79,80,81,82,83] (fun q:Nat=>[(6,I q),(3,.str (w++(ru.outs.take q).flatMap bY))]) (fun _=>[.cells [.str t.name,.aG false EC (t.ins.map bp),.aG false EC (t.outs.map bp),I t.bl,I t.agg,.aG false ER (t.rules.map cj)]]) (fun q=>q≤ru.outs.length) (fun q=>ru.outs.length-q) (0) ?_ ?_ ?_ ?_
   ·simp
   ·rfl
   ·simp only[List.take_zero,List.flatMap_nil,List.append_nil,← hwq,ht];simp (disch:=omega) only[cU,cE,and_true,go_sem,aC,aD,aE,aj,au,ak,Nat.reduceAdd,Nat.reduceBEq,↓reduceIte,Int.natCast_add,Int.cast_ofNat_Int]<;>(try trivial)<;>(try omega)<;>(try (repeat (first|trivial|(refine And.intro ?_ ?_)|(congr 1;omega))))
   rintro m r3 m1
   have hml:=JR hr.2 m
   by_cases hm:m<ru.outs.length
   ·have hs1:=hr.2.2 _ (aY hm)
    have KQ:=wz bY hm w
    obtain⟨s,MS⟩:∃ s,ru.outs.getD m default=s:=⟨_,rfl⟩
    rw[MS]at hs1 KQ
    have d1:=uQ s (by omega)
    have xg:=qp s
    obtain⟨z,hz⟩:∃ z,w++(ru.outs.take m).flatMap bY=z:=⟨_,rfl⟩
    have hzl:z.length=w.length+((ru.outs.take m).flatMap bY).length:=by rw[← hz,List.length_append]
    rw[hz]at KQ
    have e1:=qt (a:=z.length) (b:=(bY s).length) (by omega)
    have hg:(List.map cy ru.outs).getD m .undef = .str s:=by rw[getD_map _ _ _ hm,MS];rfl
    repeat' first|simp (disch:=omega) only[go_sem,aC,aD,aE,aj,au,ak,Nat.reduceAdd,Nat.reduceBEq,↓reduceIte,Ht,hz,e1,hg]|refine aB ?_|refine aF d1 ?_|refine aA (fun hw=>?_) (fun hw=>?_)<;>try omega|fail
    refine⟨m+1,?_,?_,?_,bG,?_⟩
    ·dsimp only;omega
    ·dsimp only;omega
    ·first|rfl|(simp[go_sem];done)
    ·dsimp only;rw[KQ];simp (disch:=omega) only[cU,cE,and_true,go_sem,aC,aD,aE,aj,au,ak,Nat.reduceAdd,Nat.reduceBEq,↓reduceIte,Int.natCast_add,Int.cast_ofNat_Int]<;>(try trivial)<;>(try omega)<;>(try (repeat (first|trivial|(refine And.intro ?_ ?_)|(congr 1;omega))))
   ·have ht2:ru.outs.take m=ru.outs:=List.take_of_length_le (by omega)
    repeat' first|simp (disch:=omega) only[go_sem,aC,aD,aE,aj,au,ak,Nat.reduceAdd,Nat.reduceBEq,↓reduceIte,Ht,ht2]|refine aB ?_|refine aA (fun hw=>?_) (fun hw=>?_)<;>try omega|fail
    refine⟨i+1,?_,?_,?_,bG,?_⟩
    ·dsimp only;omega
    ·dsimp only;omega
    ·first|rfl|(simp[go_sem];done)
    ·dsimp only;rw[iR,hrd,← List.append_assoc,hwq];simp (disch:=omega) only[cU,cE,and_true,go_sem,aC,aD,aE,aj,au,ak,Nat.reduceAdd,Nat.reduceBEq,↓reduceIte,Int.natCast_add,Int.cast_ofNat_Int]<;>(try trivial)<;>(try omega)<;>(try (repeat (first|trivial|(refine And.intro ?_ ?_)|(congr 1;omega))))
 ·have ht:t.rules.take i=t.rules:=List.take_of_length_le (by omega)
  repeat' first|simp (disch:=omega) only[go_sem,aC,aD,aE,aj,au,ak,Nat.reduceAdd,Nat.reduceBEq,↓reduceIte,ht]|refine aB ?_|refine aA (fun hw=>?_) (fun hw=>?_)<;>try omega|fail
  exact aL (by rw[← hE]) rfl
end Go.Proofs.YtmbgnaoilncbnaaGreatDoor
