/- Part. -/
import Derived.Test.YthakfmmgnjpmdaaGreatW40
set_option linter.all false
set_option maxHeartbeats 4000000
namespace Go.Proofs.YthakfmmgnjpmdaaGreat
open Go.AM
set_option maxRecDepth 4000
def HY(l m:List Int)(hl:l.length<=2 ^ 60)(hm:m.length<=2 ^ 60): aF aD 56 [cJ l,cJ m] (.bool (fm (fun a b=>a==b) l m)):=by
 simp only[cJ];refine aK CQ ?_;intro Q aq au aA;repeat' first|refine ak ?_|refine aj ?_ ?_<;>intro hw<;>try omega|fail
 ·refine aN ?_ rfl;rw[qQ (by omega)]
 have xJ:l.length=m.length:=by omega
 with_reducible refine aX [4,5,13,14,15,16,17,18,19,20,21,22,23,24,25] (fun i:Nat=>[(13,I i)]) (fun _=>[]) (fun i=>i<=l.length/\ ∀ k,k<i->(l.getD k default==m.getD k default)=true) (fun i=>l.length-i) (0) ?_ ?_ ?_ ?_
 ·simp
 ·rfl
 ·exact at_
 rintro i r ⟨h1,h2⟩;by_cases hi:i<l.length
 ·repeat' first|refine ak ?_|refine aj ?_ ?_<;>intro hw<;>try omega|fail
  ·refine aN ?_ rfl;rw[tD (p:=fun a b=>a==b) hi (by rw[<-Bool.not_eq_true];simp_all) (by omega)]
  ·refine⟨i+1,?_,?_,by first|rfl|(simp[go_sem];done),bK,at_⟩<;>(try dsimp only)
   ·exact⟨by omega,bx h2 (by simp_all)⟩
   ·omega
 ·repeat' first|refine ak ?_|refine aj ?_ ?_<;>intro hw<;>try omega|fail
  refine aN ?_ rfl;rw[qR (p:=fun a b=>a==b) xJ (fun k hk=>h2 k (by omega))]
def yn (fn : FuncId) (cap : List AV) (hcap : AV.bG cap = true) (p : List aH -> List aH -> Bool) (l m : List (List aH))
    (h:∀ k,k<l.length->k<m.length->aF aD fn (aL (l.getD k default)::aL (m.getD k default)::cap) (.bool (p (l.getD k default) (m.getD k default)))) (hl:l.length<=2 ^ 62) (hm:m.length<=2 ^ 62) :
    aF aD 57 [cu l,cu m,.fn (.func fn) [] cap] (.bool (fm p l m)):=by
 refine aK vI ?_ (by simp[AV.cQ,AV.bG,hcap]);intro Q aq au aA;simp only[cu];repeat' first|refine ak ?_|refine aj ?_ ?_<;>intro hw<;>try omega|fail
 ·refine aN ?_ rfl;rw[qQ (by omega)]
 have xJ:l.length=m.length:=by omega
 with_reducible refine aX [6,7,8,9,17,18,19,20,21,22,23,24,25,26,27,28,29,30,31] (fun i:Nat=>[(17,I i)]) (fun _=>[]) (fun i=>i<=l.length/\ ∀ k,k<i->p (l.getD k default) (m.getD k default)=true) (fun i=>l.length-i) (0) ?_ ?_ ?_ ?_
 ·simp
 ·rfl
 ·exact at_
 rintro i r ⟨h1,h2⟩;by_cases hi:i<l.length
 ·have hy:=h i hi (by omega);simp only[aL]at hy;repeat' first|refine ak ?_|refine aj ?_ ?_<;>intro hw<;>try omega|fail
  ·refine aN ?_ rfl;rw[tD hi hw (by omega)]
  ·refine⟨i+1,?_,?_,by first|rfl|(simp[go_sem];done),bK,at_⟩<;>(try dsimp only)
   ·exact⟨by omega,bx h2 hw⟩
   ·omega
 ·repeat' first|refine ak ?_|refine aj ?_ ?_<;>intro hw<;>try omega|fail
  refine aN ?_ rfl;rw[qR xJ (fun k hk=>h2 k (by omega))]
def VL(a b:List aH)(ha:a.length<=2 ^ 60)(hb:b.length<=2 ^ 60): aF aD 58 [aL a,aL b] (.bool (fm (fun x y=>x==y) a b)):=by
 have c:=qv a b ha hb;generalize fm (fun x y=>x==y) a b=v at *;simp only[aL]at c ⊢;refine aK Np ?_;intro Q aq au aA;repeat' first|refine ak ?_|refine cW c ?_|refine aj ?_ ?_<;>intro hw<;>try omega|fail
 exact aN rfl rfl
def aam(a b:jl)(ha:J8 a)(hb:J8 b): aF aD 30 [.agg (EW a),.agg (EW b)] (.bool (decide (a.err=b.err) && fm (fun x y=>x==y) a.rules b.rules && fm (fm fun x y=>x==y) a.rows b.rows)):=by
 have c1:=HY a.rules b.rules ha.2.1 hb.2.1;have c2:=yn 58 [] rfl (fm fun x y=>x==y) a.rows b.rows (fun k h1 h2=>VL _ _ (ha.2.2.2 _ (aO h1)) (hb.2.2.2 _ (aO h2))) (by have:=ha.2.2.1;omega) (by have:=hb.2.2.1;omega);generalize fm (fun x y=>x==y) a.rules b.rules=v1 at *;generalize fm (fm fun x y=>x==y) a.rows b.rows=v2 at *;obtain⟨n,hn⟩:∃ n,a.err=n:=⟨_,rfl⟩;obtain⟨m,hm⟩:∃ n,b.err=n:=⟨_,rfl⟩;simp only[EW,hn,hm,cJ,cu]at c1 c2 ⊢;refine aK Rs ?_;intro Q aq au aA;repeat' first|refine ak ?_|refine cW c1 ?_|refine cW c2 ?_|refine aj ?_ ?_<;>intro hw<;>try omega|fail
 all_goals first|exact aP|skip
 all_goals (refine aN ?_ rfl;simp_all)
def Cd(a b:jl)(ha:J8 a)(hb:J8 b): aF aD 14 [iC a,iC b] (.bool (r_ a b)):=by
 have c1:=qv a.input b.input ha.1 hb.1;have c2:=aam a b ha hb
 have e:r_ a b=(decide (a.table=b.table) && decide (a.ver=b.ver) && fm (fun x y=>x==y) a.input b.input && (decide (a.err=b.err) && fm (fun x y=>x==y) a.rules b.rules && fm (fm fun x y=>x==y) a.rows b.rows)):=by
  unfold r_;simp only[Bool.and_assoc]
 rw[e];clear e;generalize fm (fun x y=>x==y) a.input b.input=v1 at *;generalize (decide (a.err=b.err) && fm (fun x y=>x==y) a.rules b.rules && fm (fm fun x y=>x==y) a.rows b.rows)=v2 at *;simp only[iC,nj,EW,cJ,cu,aL]at c1 c2 ⊢;refine aK Ni ?_;intro Q aq au aA;repeat' first|refine ak ?_|refine cW c1 ?_|refine cW c2 ?_|refine aj ?_ ?_<;>intro hw<;>try omega|fail
 all_goals first|exact aP|skip
 all_goals (refine aN ?_ rfl;simp_all)
def aan{v:aH}{a:List aH}(h:∀ v ∈ a,fC v)(h0:0<a.length)(e:v=a.getD 0 default): fC v:=by subst e;exact h _ (aO h0)
def M7: ∀ {l:List aH} {n:Int} {v:aH},dJ n->vR l n = .ok v->fC v
 | [], n, v, hn, h => by
   have h:g_.ok ⟨1,n,[]⟩ = .ok v:=h;cases h;exact⟨by simp[bp],hn,by simp⟩
 | u :: r, n, v, hn, h => by
   rw[vD]at h;rcases tQ (n+u.n)with ⟨e,hr⟩|e
   ·rw[e]at h;exact M7 (l:=r) hr h
   ·rw[e]at h;cases h
def Gw: ∀ {l:List aH} {m:aH},(∀ v ∈ l,fC v)->fC m->fC (nL l m)
 | [],_,_,h=>h
 | v :: r, m, hl, h => by
   rw[zB];refine Gw (fun w hw=>hl w (by simp[hw])) ?_;split
   ·exact hl v (by simp)
   ·exact h
def J9: ∀ {l:List aH} {m:aH},(∀ v ∈ l,fC v)->fC m->fC (qU l m)
 | [],_,_,h=>h
 | v :: r, m, hl, h => by
   rw[B6];refine J9 (fun w hw=>hl w (by simp[hw])) ?_;split
   ·exact hl v (by simp)
   ·exact h
def VM{agg:Int}{rows:List (List aH)}{v:aH}(hr:rows.length<=2 ^ 30)(hw:∀ a ∈ rows,0<a.length/\ ∀ v ∈ a,fC v)(h:kK agg rows = .ok v): fC v:=by
 have hh:∀ v ∈ jU rows,fC v:=fun v hv=>by
  obtain⟨a,ha,e⟩:=JY hv;exact aan (hw a ha).2 (hw a ha).1 e
 by_cases h4:agg=4
 ·subst h4;rw[LC]at h;cases h;exact⟨by simp[bp],⟨by dsimp only;omega,by dsimp only;omega⟩,by simp⟩
 cases hL:jU rows with
 | nil=>rw[MU h4 hL]at h;cases h;exact Fp
 | cons m l =>
   rw[hL]at hh;have hm:=hh m (by simp);have hl:∀ v ∈ l,fC v:=fun w hw=>hh w (by simp[hw]);by_cases h1:agg=1
   ·subst h1;rw[TT,hL,if_neg (by simp)]at h;exact M7 (n:=0) (by unfold dJ;omega) h
   by_cases h2:agg=2
   ·subst h2;rw[TU hL]at h;cases h;exact Gw hl hm
   ·rw[TV h4 h1 h2 hL]at h;cases h;exact J9 hl hm
structure J_ (n:Nat) (o:qx):Prop where
 err:0<=o.err/\o.err<=99
 agu:o.rules.Pairwise (· < ·)
 rules:∀ i ∈ o.rules,0<=i/\i<24
 few:o.rules.length<=24
 rows:o.rows.length<=24
 row:∀ a ∈ o.rows,a.length<=n/\ ∀ v ∈ a,fC v
def Ob{t:Table}{rules:List Int}{rows:List (List aH)}{n:Nat}(hn:n=t.outs.length)(h0:0<n)(hr:rules.Pairwise (· < ·))(hi:∀ i ∈ rules,0<=i/\i<24)(hf:rules.length<=24)(hl:rows.length=rules.length)(hw:∀ a ∈ rows,a.length=n/\ ∀ v ∈ a,fC v): J_ n (gO t rules rows):=by
 have W:∀ a ∈ rows,a.length<=n/\ ∀ v ∈ a,fC v:=fun a h=>⟨by have:=(hw a h).1;omega,(hw a h).2⟩
 have one:∀ b,rules≠[]->b<rows.length->J_ n ⟨0,[rules.getD b default],[rows.getD b default]⟩:=fun b hne hb =>
  ⟨⟨by dsimp only;omega,by dsimp only;omega⟩,by simp,fun i h=>by obtain rfl:=List.mem_singleton.1 h;exact hi _ (aO (by omega)),by simp,by simp,fun a h=>by obtain rfl:=List.mem_singleton.1 h;exact W _ (aO hb)⟩
 unfold gO;split
 ·split
  ·have hp:(nK rows []).Perm rows:=by simpa using BM rows []
   exact⟨⟨by dsimp only;omega,by dsimp only;omega⟩,hr,hi,hf,by show(nK rows []).length<=24;rw[hp.length_eq];omega,fun a h=>W a (hp.mem_iff.1 h)⟩
  ·split
   ·rename_i e he;have:=MW he;subst this;exact⟨⟨by dsimp only;omega,by dsimp only;omega⟩,hr,hi,hf,by simp,fun a h=>by cases h⟩
   ·rename_i v hv;have:=VM (by omega) (fun a h=>⟨by have:=(hw a h).1;omega,(hw a h).2⟩) hv;refine⟨⟨by dsimp only;omega,by dsimp only;omega⟩,hr,hi,hf,by simp,fun a h=>?_⟩;obtain rfl:=List.mem_singleton.1 h;exact⟨by simp only[List.length_cons,List.length_nil];omega,fun w hw=>by obtain rfl:=List.mem_singleton.1 hw;exact this⟩
 split
 ·split
  ·exact⟨⟨by dsimp only;omega,by dsimp only;omega⟩,hr,hi,hf,by simp,fun a h=>by cases h⟩
  ·exact⟨⟨by dsimp only;omega,by dsimp only;omega⟩,hr,hi,hf,by show(rows.take 1).length<=24;rw[List.length_take];omega,fun a h=>W a (List.mem_of_mem_take h)⟩
 split
 ·exact⟨⟨by dsimp only;omega,by dsimp only;omega⟩,hr,hi,hf,by show rows.length<=24;omega,W⟩
 split
 ·exact⟨⟨by dsimp only;omega,by dsimp only;omega⟩,by simp,fun i h=>(by cases h),by simp,by simp,fun a h=>by cases h⟩
 ·rename_i hne;have XJ:0<rows.length:=by rw[hl];exact List.length_pos_iff.2 hne
  split
  ·exact one _ hne (yZ (by omega) XJ)
  ·exact one 0 hne XJ
def Oc{r:Ready}{row:List aH}(h:Oz r row)(h2:(gw r row).2=0): kJ r.table.ins row=true/\J_ r.table.outs.length (gw r row).1:=by
 have hR:=EL h.tT h.Gp;have hl:=h.tT.lines
 have hin:(cZ r row).2.2≠21->kJ r.table.ins row=true:=fun hne=>by
  unfold cZ at hne;split at hne
  ·assumption
  ·exact absurd rfl hne
 have H24:∀ i ∈ (cZ r row).1,0<=i/\i<24:=fun i hi=>by have:=hR.1.2.1 i hi;omega
 have adC:∀ (e a:Int),r8 e->0<=a/\a.toNat<r.lines.length->J_ r.table.outs.length ⟨e,[a],[]⟩:=fun e a he ha =>
  ⟨(AN he).2.2,by simp,fun i h=>by obtain rfl:=List.mem_singleton.1 h;omega,by simp,by simp,fun a h=>by cases h⟩
 by_cases CN:(cZ r row).2.2=21
 ·rw[vU CN]at h2;exact absurd h2 (by decide)
 refine⟨hin CN,?_⟩;by_cases h0:(cZ r row).2.2=0
 ·by_cases hu:r.table.bu=1/\1<(cZ r row).1.length
  ·rw[uM h0 hu];exact⟨⟨by dsimp only;omega,by dsimp only;omega⟩,hR.1.1,H24,hR.1.2.2,by simp,fun a h=>by cases h⟩
  ·rw[x6 h0 hu];rcases B_ h.tT h.Gp (q:=(cZ r row).1) (acc:=[]) hR.1.2.1 (fun a h=>by cases h)with ⟨k1,k2,k3⟩|⟨k1,k2⟩
   ·rw[if_neg (by omega)];exact Ob rfl h.Vx hR.1.1 H24 hR.1.2.2 (by simpa using k2) k3
   ·rw[if_pos (AN k1).1];exact adC _ _ k1 (hR.1.2.1 _ k2)
 ·rw[zC CN h0];rcases hR.2 with h3|h3|h3
  ·exact absurd h3 h0
  ·exact absurd h3 CN
  ·exact adC _ _ h3.1 h3.2
def Gx{t:Table}(h:jL t=0): jH t.name=true/\kF t.ins false=0/\kF t.outs (decide (t.bu=3))=0/\kZ t=true/\t.rules.length<=24:=by
 unfold jL at h;by_cases h1:jH t.name=false
 ·rw[if_pos h1]at h;omega
 rw[if_neg h1]at h;by_cases h2:kF t.ins false≠0
 ·rw[if_pos h2]at h;exact absurd h h2
 rw[if_neg h2]at h;by_cases h3:kF t.outs (decide (t.bu=3))≠0
 ·rw[if_pos h3]at h;exact absurd h h3
 rw[if_neg h3]at h;by_cases h4:kZ t=false
 ·rw[if_pos h4]at h;omega
 rw[if_neg h4]at h;by_cases h5:24<t.rules.length
 ·rw[if_pos h5]at h;omega
 exact⟨by simpa using h1,by omega,by omega,by simpa using h4,by omega⟩
def y7{l:List bQ}(h:jZ l=0): l.length<=6:=by
 unfold jZ at h;by_cases h6:6<l.length
 ·rw[if_pos h6]at h;omega
 ·omega
def Ka{t:Table}{r:kX}(h:(mT t r).2.2=0): r.cells.length=t.ins.length/\r.outs.length=t.outs.length/\(mT t r).1=⟨lM t r r.cells.length,oJ t r r.outs.length⟩/\ ∀ k,k<r.outs.length->(kG t r k).2=0:=by
 unfold mT at h ⊢;by_cases h1:r.cells.length≠t.ins.length\/r.outs.length≠t.outs.length
 ·rw[if_pos h1]at h;exact absurd h (by decide)
 rw[if_neg h1]at h ⊢;refine⟨by omega,by omega,?_⟩;split at h
 ·rename_i k hk;have:=List.find?_some hk;simp at this;exact absurd h this
 ·rename_i hn;try rw[hn]
  try dsimp only
  split at h
  ·rename_i k hk;have:=List.find?_some hk;simp at this;exact absurd h this
  ·rename_i hn2;try rw[hn2]
   refine⟨rfl,fun k hk=>?_⟩;have:=List.find?_eq_none.1 hn2 k (by simpa using hk);simpa using this
def Kc{t:Table}(h:(iV t).2.2.2=0): jL t=0/\(iV t).1=⟨t,mU t t.rules.length⟩/\ ∀ j,j<t.rules.length->(kT t j).2.2=0:=by
 unfold iV at h ⊢;by_cases h1:jL t≠0
 ·rw[if_pos h1]at h;exact absurd h h1
 rw[if_neg h1]at h ⊢;refine⟨by omega,?_⟩;split at h
 ·rename_i k hk;have:=List.find?_some hk;simp at this;exact absurd h this
 ·rename_i hn;try rw[hn]
  refine⟨rfl,fun k hk=>?_⟩;have:=List.find?_eq_none.1 hn k (by simpa using hk);simpa using this
def Yf{t:Table}{r:kX}{n:Nat}{c:Cell}(h:c ∈ lM t r n): pI c:=by
 unfold lM at h;obtain⟨k,_,rfl⟩:=eZ.1 h;exact U8 _
def aao{t:Table}{r:kX}{n:Nat}{x:Expr}(h:x ∈ oJ t r n): iG x/\fE x<=2 ^ 30:=by
 unfold oJ at h;obtain⟨k,_,rfl⟩:=eZ.1 h;exact vv _
def M8{t:Table}{n:Nat}{l:pG}(h:l ∈ mU t n): ∃ j,j<n/\l=(kT t j).1:=by
 unfold mU at h;obtain⟨k,hk,rfl⟩:=eZ.1 h;exact⟨k,by simpa using hk,rfl⟩
def SC{ins:List bQ}{row:List aH}(h:kJ ins row=true)(hk:∀ i,i<ins.length->1<=(ins.getD i default).kind): ∀ i,i<ins.length->(row.getD i default).kind=0\/(row.getD i default).kind=(ins.getD i default).kind:=fun i hi=>by
 have hl:=B4 h;unfold kJ at h;rw[aC,bg]at h;have:=h.2 i (by simp;omega);rw[aC]at this;have h3:=this.2;have:=hk i hi;simp only[bI,bO,decide_eq_true_eq]at h3;omega
def Q7{ins:List bQ}{row:List aH}(h:kJ ins row=true): ∀ v ∈ row,bp v=true:=fun v hv=>by
 unfold kJ at h;rw[aC,bg]at h;obtain⟨i,hi,rfl⟩:=bT hv;have:=h.2 i (by simpa using hi);rw[aC,aB,aE hi]at this;exact this.1
def Yg{t:Table}{k:Nat}{s:aS}(h:(wG t k s).2=0): dw (wG t k s).1=true/\ ∃ K,fB t.ins (wG t k s).1=(K,0)/\bI K (t.outs.getD k default).kind=true:=by
 unfold wG at h ⊢;dsimp only at h ⊢;generalize (dK s).1=x at *;by_cases h1:(dK s).2.2≠0
 ·rw[if_pos h1]at h;exact absurd h h1
 rw[if_neg h1]at h
 have hz:(ek t.ins x).2=0:=by
  split at h
  ·omega
  ·exact h
 have hr:dw x=true:=by
  cases hr:dw x with
  | true=>rfl
  | false=>unfold ek at hz;rw[hr]at hz;simp at hz
 have hk:ek t.ins x=fB t.ins x:=by unfold ek;rw[if_pos hr]
 rw[hk]at h hz;refine⟨hr,(fB t.ins x).1,Prod.ext rfl hz,?_⟩;cases hf:bI (fB t.ins x).1 (t.outs.getD k default).kind with
 | true=>rfl
 | false=>rw[if_pos ⟨hz,hf⟩]at h;omega
def E0{t:Table}(ht:qT t)(h:(iV t).2.2.2=0){row:List aH}(hrow:nN row): Oz (iV t).1 row:=by
 obtain⟨h0,h1,h2⟩:=Kc h;obtain⟨f1,f2,f3,f4,f5⟩:=Gx h0;obtain⟨i1,i2⟩:=sQ f2;obtain⟨o1,o2⟩:=sQ f3;have i6:=y7 i1;have o6:=y7 o1
 have aeA:∀ l ∈ mU t t.rules.length,(l.cells.length=t.ins.length/\ ∀ c ∈ l.cells,pI c)/\l.outs.length=t.outs.length/\ ∀ x ∈ l.outs,iG x/\fE x<=2 ^ 30:=fun l hl=>by
  obtain⟨j,hj,rfl⟩:=M8 hl;obtain⟨l1,l2,l3,_⟩:=Ka (h2 j hj);have l3:(kT t j).1=_:=l3;rw[l3];exact⟨⟨by rw[vw];exact l1,fun c hc=>Yf hc⟩,by rw[HB];exact l2,fun x hx=>aao hx⟩
 rw[h1];refine⟨⟨by dsimp only;omega,by dsimp only;omega,by dsimp only;rw[vx];exact f5,aeA⟩,hrow,o2,fun c hc=>?_,fun hp=>?_,fun hin hp ha l hl he=>?_⟩
 ·exact(ht.2.2.1.2 c hc).2.1
 ·dsimp only at hp ⊢;unfold kZ at f4;rw[if_neg (by omega)]at f4;by_cases h0:t.agg=0
  ·omega
  rw[if_neg h0]at f4;by_cases h3:t.bu≠5\/t.agg<1\/4<t.agg\/t.outs.length≠1
  ·rw[if_pos h3]at f4;exact absurd f4 (by decide)
  ·omega
 ·dsimp only at hin hp ha hl he ⊢
  have SN:t.outs.length=1/\(t.outs.getD 0 default).kind=1:=by
   unfold kZ at f4;rw[if_neg (by omega),if_neg (by omega)]at f4;by_cases h3:t.bu≠5\/t.agg<1\/4<t.agg\/t.outs.length≠1
   ·rw[if_pos h3]at f4;exact absurd f4 (by decide)
   ·rw[if_neg h3,decide_eq_true_eq]at f4;refine⟨by omega,?_⟩;rcases f4 with h|h|h
    ·omega
    ·exact h
    ·exact absurd ha h.2
  obtain⟨j,hj,rfl⟩:=M8 hl;obtain⟨l1,l2,l3,l4⟩:=Ka (h2 j hj);have l3:(kT t j).1=_:=l3;rw[l3]at he ⊢;dsimp only at he ⊢;have e1:(t.rules.getD j default).outs.length=1:=by rw[l2];exact SN.1
  have t0:=l4 0 (by omega);rw[e1]at he ⊢;have eo:oJ t (t.rules.getD j default) 1=[(kG t (t.rules.getD j default) 0).1]:=rfl;rw[eo]at he ⊢;obtain⟨k1,K,k2,k3⟩:=Yg t0;have k1:dw (kG t (t.rules.getD j default) 0).1=true:=k1;have k2:fB t.ins (kG t (t.rules.getD j default) 0).1=(K,0):=k2;have gx:=(vv ((t.rules.getD j default).outs.getD 0 default)).1;have gx:iG (kG t (t.rules.getD j default) 0).1:=gx;generalize (kG t (t.rules.getD j default) 0).1=x at *;have gg:=lp (cs:=t.ins) hrow.2 gx;cases hv:gN x t.ins row with
  | err e=>rw[EG hv]at he;rw[hv]at gg;exact absurd he (mE gg)
  | ok v =>
    rw[BZ hv,EH]
    have kv:(gN x t.ins row).yU K:=by
     unfold gN;split
     ·exact abt (SC hin (fun i hi=>(JB i1 hi).1)) x K k1 k2
     ·trivial
    rw[hv]at kv;have kv:v.kind=0\/v.kind=K:=kv;rw[SN.2]at k3;simp only[bI,bO,decide_eq_true_eq]at k3;show v.kind=0\/v.kind=1;omega
def sD(t:Table)(ver:Int)(row:List aH)(o:qx): jl:=⟨t.name,ver,row,o.err,o.rules,o.rows⟩
def tV(t:Table)(ver:Int)(row:List aH): jl × Int :=
 if ver<1\/2147483648<ver then(zD,2)
 else if(iV t).2.2.2≠0 then(zD,(iV t).2.2.2)
 else if(gw (iV t).1 row).2≠0 then(zD,(gw (iV t).1 row).2)
 else if 1400<(mW (sD t ver row (gw (iV t).1 row).1)).length then(zD,5)else (sD t ver row (gw (iV t).1 row).1,0)
def abP: ∀ {l:List Int},l.Pairwise (· < ·)->(∀ i ∈ l,0<=i/\i<24)->r9 l=true:=fun {l} h1 h2=>by
 refine Q5 fun k hk=>?_;have hb:=h2 _ (aO hk)
 have hp:0<k->l.getD (k-1) default<l.getD k default:=fun h0=>by
  have:=List.pairwise_iff_getElem.1 h1 (k-1) k (by omega) hk (by omega);rwa[aB,aB,aE hk,aE (by omega:k-1<l.length)]
 have hb:0<=l.getD k 0/\l.getD k 0<24:=hb;have hp:0<k->l.getD (k-1) 0<l.getD k 0:=hp;unfold y5 tU;rw[decide_eq_true_eq];split
 ·omega
 ·exact⟨hp (by omega),hb.2⟩
def E5 {t : Table} (ht : qT t) {ver : Int} (hv : 1 <= ver /\ ver <= 2147483648) {row : List aH} (hrow : nN row) (hm : (iV t).2.2.2 = 0) (hd : (gw (iV t).1 row).2 = 0) :
    ou (sD t ver row (gw (iV t).1 row).1)=true/\nO (sD t ver row (gw (iV t).1 row).1):=by
 have agv:=E0 ht hm hrow;obtain⟨h0,h1,_⟩:=Kc hm;obtain⟨f1,f2,f3,f4,f5⟩:=Gx h0;have i6:=y7 (sQ f2).1;have o6:=y7 (sQ f3).1;obtain⟨hin,ho⟩:=Oc agv hd;rw[h1]at hin ho;dsimp only at hin ho;have hl:=B4 hin;have hr:=Q7 hin;rw[h1];generalize (gw ⟨t,mU t t.rules.length⟩ row).1=o at *
 have pin:jm row=true:=by
  unfold jm;rw[decide_eq_true (by omega),bg.2 hr];rfl
 have agw:∀ a ∈ o.rows,jm a=true:=fun a ha=>by
  have:=ho.row a ha;unfold jm;rw[decide_eq_true (by omega),bg.2 (fun v hv=>(this.2 v hv).1)];rfl
 refine⟨?_,?_⟩
 ·unfold ou sD;dsimp only;rw[f1,decide_eq_true hv,decide_eq_true ho.err,abP ho.agu ho.rules,decide_eq_true ho.rows,pin,bg.2 agw];rfl
 ·have e1:=ho.err;refine⟨ht.1,⟨by show _<=ver;omega,by show ver<=_;omega⟩,⟨by have:=hrow.1;exact this,fun v hv=>⟨(hrow.2 v hv).1,(hrow.2 v hv).2⟩⟩,⟨by show _<=o.err;omega,by show o.err<=_;omega⟩,⟨by show o.rules.length<=_;have:=ho.few;omega,fun n hn=>?_⟩,by show o.rows.length<=_;have:=ho.rows;omega,fun l hl=>?_⟩
  ·have:=ho.rules n hn;exact⟨by omega,by omega⟩
  ·have:=ho.row l hl;exact⟨by omega,fun v hv=>(this.2 v hv).2⟩
def Yh{σ : ae}: View σ (.agg [.str [],I 0,.ai,I 0,.ai,.ai]) (iC zD) :=
 View.n9 (.cons (.refl _ rfl) (.cons (.refl _ rfl) (.cons (.ai _) (.cons (.refl _ rfl) (.cons (.ai _) (.cons (.ai _) (.nil _)))))))
def uj(p:jl × Int): AV:= .bJ [iC p.1,I p.2]
def sV{σ : ae}{e:Int}{p:jl × Int}(h:p=(zD,e)): ∃ r,Out.ret (oneOf [.agg [.str [],I 0,.ai,I 0,.ai,.ai],I e])=Out.ret r/\View σ r (uj p):=by
 subst h;exact cN (.cons Yh (.cons (.refl _ rfl) (.nil _)))
def Yi{σ : ae}{x:jl}{p:jl × Int}(h:p=(x,0)): ∃ r,Out.ret (oneOf [.agg [.str x.table,I x.ver,.aG false EV (x.input.map bD),I x.err,.aG false E1 (x.rules.map lG),.aG false E1 (x.rows.map aL)],I 0])=Out.ret r/\View σ r (uj p):=by
 subst h;exact cN (.cons (.refl (iC x) (by simp)) (.cons (.refl _ rfl) (.nil _)))
def HZ(t:Table)(ht:qT t)(ver:Int)(row:List aH)(hrow:nN row): aF aD 8 [cI t,I ver,aL row] (uj (tV t ver row)):=by
 have c1:=Sc t ht;have c2:=fun hm=>Vy (iV t).1 row (E0 ht hm hrow);have hE:=fun hv hm hd=>E5 ht (ver:=ver) hv hrow hm hd;obtain⟨P,hP⟩:∃ P,tV t ver row=P:=⟨_,rfl⟩;rw[hP];unfold tV at hP;clear ht hrow;simp only[cI,eJ,aY,dy,Tq,iZ,l9,aL,tS,jR,cJ,cu]at c1 c2 ⊢;by_cases hv:ver<1\/2147483648<ver
 ·rw[if_pos hv]at hP;clear c1 c2 hE;refine aK rE ?_ (by simp[uj,AV.cQ,AV.bG]);intro Q aq au aA;repeat' first|refine ak ?_|refine aj ?_ ?_<;>intro hw<;>try omega|fail
  all_goals first|exact sV hP.symm|exact aP|skip
 rw[if_neg hv]at hP;have hE:=hE (by omega);obtain⟨M,hM⟩:∃ M,iV t=M:=⟨_,rfl⟩;rw[hM]at c1 c2 hE hP;clear hM;obtain⟨r,a1,a2,e1⟩:=M;dsimp only at c1 c2 hE hP;by_cases he:e1≠0
 ·rw[if_pos he]at hP;clear c2 hE;refine aK rE ?_ (by simp[uj,AV.cQ,AV.bG]);intro Q aq au aA;repeat' first|refine ak ?_|refine cW c1 ?_|refine aj ?_ ?_<;>intro hw<;>try omega|fail
  all_goals first|exact sV hP.symm|exact aP|skip
 rw[if_neg he]at hP;have he:e1=0:=by omega
 subst he;have c2:=c2 rfl;have hE:=hE rfl;generalize gw r row=D at *;obtain⟨o,e2⟩:=D;dsimp only at c2 hE hP;by_cases he:e2≠0
 ·rw[if_pos he]at hP;clear hE;refine aK rE ?_ (by simp[uj,AV.cQ,AV.bG]);intro Q aq au aA;repeat' first|refine ak ?_|refine cW c1 ?_|refine cW c2 ?_|refine aj ?_ ?_<;>intro hw<;>try omega|fail
  all_goals first|exact sV hP.symm|exact aP|skip
 rw[if_neg he]at hP;have he:e2=0:=by omega
 subst he;obtain⟨k1,k2⟩:=hE rfl;have c3:=Gr (sD t ver row o) k2;have hC:rR (sD t ver row o)=if 1400<(mW (sD t ver row o)).length then 5 else 0:=by unfold rR;rw[if_neg (by rw[k1];decide)]
 rw[hC]at c3;clear k1 k2 hC;generalize mW (sD t ver row o)=s at *;simp only[iC,nj,sD,aL,cJ,cu]at c3;by_cases hs:1400<s.length
 ·rw[if_pos hs]at hP c3;refine aK rE ?_ (by simp[uj,AV.cQ,AV.bG]);intro Q aq au aA;repeat' first|refine ak ?_|refine cW c1 ?_|refine cW c2 ?_|refine cW c3 ?_|refine aj ?_ ?_<;>intro hw<;>try omega|fail
  all_goals first|exact sV hP.symm|exact aP|skip
 ·rw[if_neg hs]at hP c3;refine aK rE ?_ (by simp[uj,AV.cQ,AV.bG]);intro Q aq au aA;repeat' first|refine ak ?_|refine cW c1 ?_|refine cW c2 ?_|refine cW c3 ?_|refine aj ?_ ?_<;>intro hw<;>try omega|fail
  all_goals first|exact Yi (x:=sD t ver row o) hP.symm|exact aP|skip
def Q8(t:Table)(ht:qT t)(ver:Int)(row:List aH)(hrow:nN row): aF aD 9 [cI t,I ver,aL row] (uj (tV t ver row)):=by
 have c1:=Va t ht;have c2:=fun hm=>QO (iV t).1 row (E0 ht hm hrow);have hE:=fun hv hm hd=>E5 ht (ver:=ver) hv hrow hm hd;obtain⟨P,hP⟩:∃ P,tV t ver row=P:=⟨_,rfl⟩;rw[hP];unfold tV at hP;clear ht hrow;simp only[cI,eJ,aY,dy,Tq,iZ,l9,aL,tS,jR,cJ,cu]at c1 c2 ⊢;by_cases hv:ver<1\/2147483648<ver
 ·rw[if_pos hv]at hP;clear c1 c2 hE;refine aK rF ?_ (by simp[uj,AV.cQ,AV.bG]);intro Q aq au aA;repeat' first|refine ak ?_|refine aj ?_ ?_<;>intro hw<;>try omega|fail
  all_goals first|exact sV hP.symm|exact aP|skip
 rw[if_neg hv]at hP;have hE:=hE (by omega);obtain⟨M,hM⟩:∃ M,iV t=M:=⟨_,rfl⟩;rw[hM]at c1 c2 hE hP;clear hM;obtain⟨r,a1,a2,e1⟩:=M;dsimp only at c1 c2 hE hP;by_cases he:e1≠0
 ·rw[if_pos he]at hP;clear c2 hE;refine aK rF ?_ (by simp[uj,AV.cQ,AV.bG]);intro Q aq au aA;repeat' first|refine ak ?_|refine cW c1 ?_|refine aj ?_ ?_<;>intro hw<;>try omega|fail
  all_goals first|exact sV hP.symm|exact aP|skip
 rw[if_neg he]at hP;have he:e1=0:=by omega
 subst he;have c2:=c2 rfl;have hE:=hE rfl;generalize gw r row=D at *;obtain⟨o,e2⟩:=D;dsimp only at c2 hE hP;by_cases he:e2≠0
 ·rw[if_pos he]at hP;clear hE;refine aK rF ?_ (by simp[uj,AV.cQ,AV.bG]);intro Q aq au aA;repeat' first|refine ak ?_|refine cW c1 ?_|refine cW c2 ?_|refine aj ?_ ?_<;>intro hw<;>try omega|fail
  all_goals first|exact sV hP.symm|exact aP|skip
 rw[if_neg he]at hP;have he:e2=0:=by omega
 subst he;obtain⟨k1,k2⟩:=hE rfl;have c3:=VJ (sD t ver row o) k2 k1;clear k1 k2;generalize mW (sD t ver row o)=s at *;simp only[iC,nj,sD,aL,cJ,cu]at c3;by_cases hs:1400<s.length
 ·rw[if_pos hs]at hP;refine aK rF ?_ (by simp[uj,AV.cQ,AV.bG]);intro Q aq au aA;repeat' first|refine ak ?_|refine cW c1 ?_|refine cW c2 ?_|refine cW c3 ?_|refine aj ?_ ?_<;>intro hw<;>try omega|fail
  all_goals first|exact sV hP.symm|exact aP|skip
 ·rw[if_neg hs]at hP;refine aK rF ?_ (by simp[uj,AV.cQ,AV.bG]);intro Q aq au aA;repeat' first|refine ak ?_|refine cW c1 ?_|refine cW c2 ?_|refine cW c3 ?_|refine aj ?_ ?_<;>intro hw<;>try omega|fail
  all_goals first|exact Yi (x:=sD t ver row o) hP.symm|exact aP|skip
def yb{l:List aH}(h:mQ l): nN l:=⟨h.1,fun w hw=>⟨(h.2 w hw).1,(h.2 w hw).2⟩⟩
def Ke{t:Table}(ht:qT t)(ver:Int){row:List aH}(hrow:nN row): nO (tV t ver row).1:=by
 unfold tV;by_cases h1:ver<1\/2147483648<ver
 ·rw[if_pos h1];exact Fv
 rw[if_neg h1];by_cases h2:(iV t).2.2.2≠0
 ·rw[if_pos h2];exact Fv
 rw[if_neg h2];by_cases h3:(gw (iV t).1 row).2≠0
 ·rw[if_pos h3];exact Fv
 rw[if_neg h3];split
 ·exact Fv
 ·exact(E5 ht (by omega) hrow (by omega) (by omega)).2
def yc(x:jl)(t:Table): Bool:=decide ((tV t x.ver x.input).2=0) && r_ x (tV t x.ver x.input).1
def Gy(x:jl)(hx:nO x)(t:Table)(ht:qT t): aF aD 12 [iC x,cI t] (.bool (yc x t)):=by
 have c1:=HZ t ht x.ver x.input (yb hx.2.2.1);have c2:=Cd x (tV t x.ver x.input).1 hx.sm (Ke ht x.ver (yb hx.2.2.1)).sm;unfold yc;generalize tV t x.ver x.input=P at *;obtain⟨y,e⟩:=P;dsimp only at c2 ⊢;generalize r_ x y=B at *;simp only[iC,nj,cI,eJ,aY,dy,aL,cJ,cu,uj]at c1 c2 ⊢;refine aK KH ?_;intro Q aq au aA;by_cases he:e=0
 ·subst he;repeat' first|refine ak ?_|refine aj ?_ ?_<;>intro hw<;>try omega|fail
  all_goals first|exact oN rfl (by simp)|exact aP|skip
 ·repeat' first|refine ak ?_|refine aj ?_ ?_<;>intro hw<;>try omega|fail
  all_goals first|exact oN rfl (by simp[he])|exact aP|skip
def SD(x:jl)(hx:nO x)(t:Table)(ht:qT t): aF aD 13 [iC x,cI t] (.bool (yc x t)):=by
 have c1:=Q8 t ht x.ver x.input (yb hx.2.2.1);have c2:=wP x (tV t x.ver x.input).1 hx.sm (Ke ht x.ver (yb hx.2.2.1)).sm;unfold yc;generalize tV t x.ver x.input=P at *;obtain⟨y,e⟩:=P;dsimp only at c2 ⊢;generalize r_ x y=B at *;simp only[iC,nj,cI,eJ,aY,dy,aL,cJ,cu,uj]at c1 c2 ⊢;refine aK KI ?_;intro Q aq au aA;by_cases he:e=0
 ·subst he;repeat' first|refine ak ?_|refine aj ?_ ?_<;>intro hw<;>try omega|fail
  all_goals first|exact oN rfl (by simp)|exact aP|skip
 ·repeat' first|refine ak ?_|refine aj ?_ ?_<;>intro hw<;>try omega|fail
  all_goals first|exact oN rfl (by simp[he])|exact aP|skip
def uk(s:aS)(e:Int): List AV:=[.str s,I e]
def FA(s:aS)(e:Int): AV.bG (uk s e)=true:=rfl
def M9(e x:Int): Int:=if x≠0 then x else e
def T1(e x:Int): (M9 e x != 0)=((e != 0) ||(x != 0)):=by
 unfold M9;by_cases h:x=0
 ·subst h;simp
 ·rw[if_pos h];have:(x != 0)=true:=by simpa using h
  rw[this];simp
def kR(s:aS)(e:Int): Int × aS × Int:=((takeN s).1,(takeN s).2.1,M9 e (takeN s).2.2)
def pL(s:aS)(e:Int): List aH × aS × Int:=((ju s 6).1,(ju s 6).2.1,M9 e (ju s 6).2.2)
def Yj(s:aS)(e:Int): ot s (e != 0)=((kR s e).1,(kR s e).2.1,(kR s e).2.2 != 0):=by
 unfold ot kR;dsimp only;rw[T1]
def Yk(s:aS)(e:Int): x8 (some 6) s (e != 0)=((pL s e).1,(pL s e).2.1,(pL s e).2.2 != 0):=by
 unfold x8 pL;dsimp only;rw[T1]
def sg: Nat->List Int->aS->Int->List Int × aS × Int
 | 0,out,s,e=>(out,s,e)
 | k+1,out,s,e=>if e≠0 then(out,s,e)else sg k (out++[(kR s e).1]) (kR s e).2.1 (kR s e).2.2
def u4: Nat->List (List aH)->aS->Int->List (List aH) × aS × Int
 | 0,out,s,e=>(out,s,e)
 | k+1,out,s,e=>if e≠0 then(out,s,e)else u4 k (out++[(pL s e).1]) (pL s e).2.1 (pL s e).2.2
def abQ: ∀(k:Nat) (out:List Int) (s:aS) (e:Int),pZ k out s (e != 0)=((sg k out s e).1,(sg k out s e).2.1,(sg k out s e).2.2 != 0):=by
 intro k
 induction k with
 | zero=>intro out s e;rfl
 | succ k ih =>
   intro out s e;rw[pZ,sg];by_cases h:e=0
   ·subst h;rw[if_neg (by simp),if_neg (by simp)];have:=Yj s 0;rw[this,ih]
   ·rw[if_pos (by simpa using h),if_pos h]
def abR: ∀(k:Nat) (out:List (List aH)) (s:aS) (e:Int),qY k out s (e != 0)=((u4 k out s e).1,(u4 k out s e).2.1,(u4 k out s e).2.2 != 0):=by
 intro k
 induction k with
 | zero=>intro out s e;rfl
 | succ k ih =>
   intro out s e;rw[qY,u4];by_cases h:e=0
   ·subst h;rw[if_neg (by simp),if_neg (by simp)];have:=Yk s 0;rw[this,ih]
   ·rw[if_pos (by simpa using h),if_pos h]
def wQ(s:aS)(e:Int): List Int × aS × Int:=sg (kR s e).1.toNat [] (kR s e).2.1 (kR s e).2.2
def y8(s:aS)(e:Int): List (List aH) × aS × Int:=u4 (kR s e).1.toNat [] (kR s e).2.1 (kR s e).2.2
def my(s:aS): jl × Int :=
 let t:=jc s 1400
 let v:=kR t.2.1 t.2.2
 let i:=pL v.2.1 v.2.2
 let e:=kR i.2.1 i.2.2
 let r:=wQ e.2.1 e.2.2
 let q:=y8 r.2.1 r.2.2
 (⟨t.1,v.1,i.1,e.1,r.1,q.1⟩,q.2.2)
def Q9(s:aS): (u0 s).1=(my s).1/\(u0 s).2.2=((my s).2 != 0):=by
 have h0:Fs s false=((jc s 1400).1,(jc s 1400).2.1,(jc s 1400).2.2 != 0):=by unfold Fs;simp
 unfold u0 my Ft Fu wQ y8;rw[h0];dsimp only;simp only[Yj,Yk,abQ,abR];exact⟨trivial,trivial⟩
def vH(s:aS)(e:Int)(hs:s.length<=2 ^ 60): br aD 34 0 [] (uk s e) (uk (kR s e).2.1 (kR s e).2.2) (I (kR s e).1):=by
 have c:=o_ s (by omega);unfold kR M9;generalize takeN s=t at *;obtain⟨n,r,x⟩:=t;simp only[eN]at c;refine br.bM (CO.go ?_) rfl (FA _ _);unfold cj;intro Q aq au aA;simp only[uk];repeat' first|refine ak ?_|refine cW c ?_|refine aj ?_ ?_<;>intro hw<;>try omega|fail
 ·exact bZ (View.eqv rfl rfl) (bn.eqv (by rw[if_pos (by omega)];rfl) rfl)
 ·exact bZ (View.eqv rfl rfl) (bn.eqv (by rw[if_neg (by omega)];rfl) rfl)
def M_(s:aS)(e:Int)(hs:s.length<=2 ^ 30): br aD 35 0 [] (uk s e) (uk (pL s e).2.1 (pL s e).2.2) (aL (pL s e).1):=by
 have c:=N9 s 6 hs;unfold pL M9;generalize ju s 6=t at *;obtain⟨n,r,x⟩:=t;simp only[aah,aL]at c ⊢;refine br.bM (CP.go ?_) rfl (FA _ _);unfold cj;intro Q aq au aA;simp only[uk];repeat' first|refine ak ?_|refine cW c ?_|refine aj ?_ ?_<;>intro hw<;>try omega|fail
 ·exact bZ (View.eqv rfl (by simp)) (bn.eqv (by rw[if_pos (by omega)];rfl) rfl)
 ·exact bZ (View.eqv rfl (by simp)) (bn.eqv (by rw[if_neg (by omega)];rfl) rfl)
def sE(s:aS)(e:Int): (kR s e).2.1.length<=s.length/\((kR s e).2.2=0->(kR s e).2.1.length<s.length):=by
 have h:=jC s;refine⟨h.1,fun h0=>h.2.1 ?_⟩;unfold kR M9 at h0;dsimp only at h0;split at h0
 ·assumption
 ·omega
def Q_(s:aS)(e:Int): (pL s e).2.1.length<=s.length/\((pL s e).2.2=0->(pL s e).2.1.length<s.length):=by
 have h:=HU s 6;have h2:=QW s 6;refine⟨h.1,fun h0=>h2 ?_⟩;unfold pL M9 at h0;dsimp only at h0;split at h0
 ·assumption
 ·omega
def LL(s:aS)(e:Int)(hs:s.length<=2 ^ 28): xn aD 36 (uk s e) (uk (wQ s e).2.1 (wQ s e).2.2) (cJ (wQ s e).1) 34:=by
 obtain⟨E,hE⟩:∃ E,wQ s e=E:=⟨_,rfl⟩;rw[hE];unfold wQ at hE;have c1:=vH s e (by omega);have hn:=sE s e;generalize kR s e=t at *;obtain⟨n,s0,e0⟩:=t;dsimp only at hE hn;simp only[uk]at c1;refine xn.bM (FF.go ?_) (FA _ _);unfold cj;intro Q aq au aA;simp only[uk];repeat' first|refine ak ?_|refine bh c1 ?_|refine aj ?_ ?_<;>intro hw<;>try omega|fail
 with_reducible refine aX [5,7,10,11,12,13,14,15,16,17,18,19,20,21,22,23,24,25,26] (fun q:List Int × aS × Int=>[(5,.own E1 1 q.1.length 0 q.1.length)]) (fun q=>[.cells [.str q.2.1,I q.2.2],.vec E1 (q.1.map lG)]) (fun q=>q.1.length+q.2.1.length+(if q.2.2≠0 then 0 else 1)<=2 ^ 28+1/\E=sg (n.toNat-q.1.length) q.1 q.2.1 q.2.2) (fun q=>n.toNat-q.1.length) (([],s0,e0)) ?_ ?_ ?_ ?_
 ·refine⟨?_,by simpa using hE.symm⟩;dsimp only;split<;>simp<;>omega
 ·rfl
 ·exact at_
 rintro⟨out,s1,e1⟩ u ⟨g1,g2⟩;dsimp only at g1 g2;by_cases m_:(out.length:Int)<n/\e1=0
 ·obtain⟨hlt,rfl⟩:=m_;obtain⟨j,hj⟩:∃ j,n.toNat-out.length=j+1:=⟨n.toNat-out.length-1,by omega⟩;rw[hj,sg,if_neg (by simp)]at g2;rw[if_neg (by simp)]at g1;have c2:=vH s1 0 (by omega);have hl:=sE s1 0;generalize kR s1 0=t at *;obtain⟨x,s2,e2⟩:=t;dsimp only at g2 hl;simp only[uk]at c2;repeat' first|refine ak ?_|refine bh c2 ?_|refine aj ?_ ?_<;>intro hw<;>try omega|fail
  all_goals first|exact aP|skip
  refine⟨(out++[x],s2,e2),?_,?_,?_,bK,?_⟩
  ·have e:n.toNat-(out++[x]).length=j:=by simp;omega
   dsimp only;rw[e];refine⟨?_,g2⟩;rw[List.length_append,List.length_singleton];by_cases h0:e2=0
   ·have:=hl.2 h0;rw[if_neg (by simpa using h0)];omega
   ·rw[if_pos h0];omega
  ·simp;omega
  ·first|rfl|(simp[go_sem];done)
  ·dsimp only;simp only[List.length_append,List.length_singleton];simp (disch:=omega) only[l7,kO,and_true,go_sem,aq,au,aA,Int.natCast_add,Int.cast_ofNat_Int]<;>(try trivial)<;>(try omega)<;>(try (repeat (first|trivial|(refine And.intro ?_ ?_)|(congr 1;omega))))
 ·have Qz : E = (out, s1, e1) := by
   rw[g2];cases hk:n.toNat-out.length with
   | zero=>rw[sg]
   | succ j =>
     rw[sg,if_pos];intro h0;exact absurd ⟨by omega,h0⟩ m_
  repeat' first|refine ak ?_|refine aj ?_ ?_<;>intro hw<;>try omega|fail
  all_goals first
   | exact aP
   |(exfalso;refine m_ ⟨?_,?_⟩<;>omega)
   |(rw[Qz];exact bZ (View.vec rfl (by simp) (by simp) (xP _)) (bn.refl rfl))
def FO(s:aS)(e:Int)(hs:s.length<=2 ^ 28): xn aD 37 (uk s e) (uk (y8 s e).2.1 (y8 s e).2.2) (cu (y8 s e).1) 35:=by
 obtain⟨E,hE⟩:∃ E,y8 s e=E:=⟨_,rfl⟩;rw[hE];unfold y8 at hE;have c1:=vH s e (by omega);have hn:=sE s e;generalize kR s e=t at *;obtain⟨n,s0,e0⟩:=t;dsimp only at hE hn;simp only[uk]at c1;refine xn.bM (Bi.go ?_) (FA _ _);unfold cj;intro Q aq au aA;simp only[uk];repeat' first|refine ak ?_|refine bh c1 ?_|refine aj ?_ ?_<;>intro hw<;>try omega|fail
 with_reducible refine aX [5,7,10,11,12,13,14,15,16,17,18,19,20,21,22,23,24,25,26] (fun q:List (List aH) × aS × Int=>[(5,.own E1 1 q.1.length 0 q.1.length)]) (fun q=>[.cells [.str q.2.1,I q.2.2],.vec E1 (q.1.map aL)]) (fun q=>q.1.length+q.2.1.length+(if q.2.2≠0 then 0 else 1)<=2 ^ 28+1/\E=u4 (n.toNat-q.1.length) q.1 q.2.1 q.2.2) (fun q=>n.toNat-q.1.length) (([],s0,e0)) ?_ ?_ ?_ ?_
 ·refine⟨?_,by simpa using hE.symm⟩;dsimp only;split<;>simp<;>omega
 ·rfl
 ·exact at_
 rintro⟨out,s1,e1⟩ u ⟨g1,g2⟩;dsimp only at g1 g2;by_cases m_:(out.length:Int)<n/\e1=0
 ·obtain⟨hlt,rfl⟩:=m_;obtain⟨j,hj⟩:∃ j,n.toNat-out.length=j+1:=⟨n.toNat-out.length-1,by omega⟩;rw[hj,u4,if_neg (by simp)]at g2;rw[if_neg (by simp)]at g1;have c2:=M_ s1 0 (by omega);have hl:=Q_ s1 0;generalize pL s1 0=t at *;obtain⟨x,s2,e2⟩:=t;dsimp only at g2 hl;simp only[uk,aL]at c2;repeat' first|refine ak ?_|refine bh c2 ?_|refine aj ?_ ?_<;>intro hw<;>try omega|fail
  all_goals first|exact aP|skip
  refine⟨(out++[x],s2,e2),?_,?_,?_,bK,?_⟩
  ·have e:n.toNat-(out++[x]).length=j:=by simp;omega
   dsimp only;rw[e];refine⟨?_,g2⟩;rw[List.length_append,List.length_singleton];by_cases h0:e2=0
   ·have:=hl.2 h0;rw[if_neg (by simpa using h0)];omega
   ·rw[if_pos h0];omega
  ·simp;omega
  ·first|rfl|(simp[go_sem];done)
  ·dsimp only;simp only[List.length_append,List.length_singleton];simp (disch:=omega) only[l7,kO,and_true,go_sem,aq,au,aA,Int.natCast_add,Int.cast_ofNat_Int]<;>(try trivial)<;>(try omega)<;>(try (repeat (first|trivial|(refine And.intro ?_ ?_)|(congr 1;omega))))
 ·have Qz : E = (out, s1, e1) := by
   rw[g2];cases hk:n.toNat-out.length with
   | zero=>rw[u4]
   | succ j =>
     rw[u4,if_pos];intro h0;exact absurd ⟨by omega,h0⟩ m_
  repeat' first|refine ak ?_|refine aj ?_ ?_<;>intro hw<;>try omega|fail
  all_goals first
   | exact aP
   |(exfalso;refine m_ ⟨?_,?_⟩<;>omega)
   |(rw[Qz];exact bZ (View.vec rfl (by simp) (by simp) (AK _)) (bn.refl rfl))
def Yl: ∀(k:Nat) (out:List Int) (s:aS) (e:Int),(sg k out s e).2.1.length<=s.length:=by
 intro k
 induction k with
 | zero=>intro out s e;exact Nat.le_refl _
 | succ k ih =>
   intro out s e;rw[sg];split
   ·exact Nat.le_refl _
   ·exact c_ (ih _ _ _) (sE s e).1
def Ym(s:aS)(e:Int): (wQ s e).2.1.length<=s.length:=c_ (Yl _ _ _ _) (sE s e).1
def eEP(p:jl × Int): AV:= .bJ [iC p.1,I p.2]
def Ra(s:aS): vF s=if(my s).2≠0\/(jN (my s).1).2≠0\/(jN (my s).1).1≠s then(zD,4)else ((my s).1,0):=by
 obtain⟨h1,h2⟩:=Q9 s;unfold vF;rw[h1,h2];by_cases h:(my s).2≠0\/(jN (my s).1).2≠0\/(jN (my s).1).1≠s
 ·rw[if_pos h,if_pos];rcases h with h|h|h
  ·exact .inl (by simpa using h)
  ·exact .inr fun e=>h (by rw[e])
  ·exact .inr fun e=>h (by rw[e])
 ·rw[if_neg h,if_neg];rintro(h'|h')
  ·exact h (.inl (by simpa using h'))
  ·exact h (Classical.or_iff_not_imp_left.2 fun a=>Classical.or_iff_not_imp_left.2 fun b c=>h' (Prod.ext c (Classical.not_not.1 b)))
def Yn{s:aS}(h:(my s).2≠0\/(jN (my s).1).2≠0\/(jN (my s).1).1≠s): vF s=(zD,4):=by rw[Ra,if_pos h]
def VN{s:aS}(h1:(my s).2=0)(h2:(jN (my s).1).2=0)(h3:(jN (my s).1).1=s): vF s=((my s).1,0):=by
 rw[Ra,if_neg];rintro(h|h|h)
 ·exact h h1
 ·exact h h2
 ·exact h h3
def SE(s:aS)(hs:s.length<=2 ^ 20): aF aD 20 [.str s] (eEP (vF s)):=by
 have ok:=aad hs;rw[(Q9 s).1]at ok;have cB:=Gs (my s).1 ok;have hn:=@Yn s;have hy:=@VN s;obtain⟨E,hE⟩:∃ E,vF s=E:=⟨_,rfl⟩;rw[hE]at hn hy ⊢;clear hE ok;unfold my at cB hn hy;have c0:=AO s 1400 (by omega);have l0:=(EM s 1400).2.1;generalize jc s 1400=t at *;obtain⟨A,s1,e1⟩:=t;dsimp only at cB hn hy l0;have c1:=vH s1 e1 (by omega);have l1:=(sE s1 e1).1;generalize kR s1 e1=t at *;obtain⟨B,s2,e2⟩:=t;dsimp only at cB hn hy l1;have c2:=M_ s2 e2 (by omega);have l2:=(Q_ s2 e2).1;generalize pL s2 e2=t at *;obtain⟨C,s3,e3⟩:=t;dsimp only at cB hn hy l2;have c3:=vH s3 e3 (by omega);have l3:=(sE s3 e3).1;generalize kR s3 e3=t at *;obtain⟨D,s4,e4⟩:=t;dsimp only at cB hn hy l3;have c4:=LL s4 e4 (by omega);have l4:=Ym s4 e4;generalize wQ s4 e4=t at *;obtain⟨F,s5,e5⟩:=t;dsimp only at cB hn hy l4;have c5:=FO s5 e5 (by omega);generalize y8 s5 e5=t at *;obtain⟨G,s6,e6⟩:=t;dsimp only at cB hn hy c4 c5;generalize jN ⟨A,B,C,D,F,G⟩=b at *;obtain⟨bs,be⟩:=b;simp only[eS,uk,Yd,iC,nj,cJ,aL,cu]at c0 c1 c2 c3 c4 c5 cB;refine aK KM ?_ (by simp[eEP]);intro Q aq au aA;repeat' first|refine ak ?_|refine cW c0 ?_|refine bh c1 ?_|refine bh c2 ?_|refine bh c3 ?_|with_reducible refine Pb c4 rfl ?_|with_reducible refine Pb c5 rfl ?_|refine aj ?_ ?_<;>intro hw<;>try omega|fail
 all_goals first
  | exact aP
  |(refine cN ?_;rw[hn (by first|exact .inl (by assumption)|exact .inr (.inl (by assumption))|exact .inr (.inr (by assumption)))];exact xC)
  |(refine cN ?_;rw[hy (by assumption) (by assumption) (by assumption)];exact xC)
  | skip
