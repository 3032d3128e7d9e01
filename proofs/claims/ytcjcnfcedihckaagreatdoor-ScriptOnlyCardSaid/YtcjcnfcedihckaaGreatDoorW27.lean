/- Part. -/
import Derived.Test.YtcjcnfcedihckaaGreatDoorW26
set_option linter.all false
namespace Go.Proofs.YtcjcnfcedihckaaGreatDoor
open Go.AM
set_option maxRecDepth 4000
def u7 (fn : FuncId) (cap : List AV) (hcap : AV.cA cap = true) (p : cR -> Bool) (l : List cR) (h : ∀ k, k < l.length -> aP aK fn (bq (l.getD k default) :: cap) (.bool (p (l.getD k default)))) (hl : l.length <= 2 ^ 62) :
    aP aK 228 [cJ l,.fn (.func fn) [] cap] (.bool (l.any p)):=by
 refine aR s7 ?_ (by simp[AV.dz,AV.cA,hcap,jk]);intro Q aF aG aH;have hc:=qa fn cap hcap p l h hl;simp only[cJ]at hc;repeat' first|refine aE ?_|refine aD ?_ ?_<;>intro hw<;>try omega|fail
 all_goals refine aU ?_ rfl
 all_goals rw[<-zX]
def qc (fn : FuncId) (cap : List AV) (hcap : AV.cA cap = true) (p : cR -> cR -> Bool) (l m : List cR)
    (h:∀ k,k<l.length->k<m.length->aP aK fn (bq (l.getD k default)::bq (m.getD k default)::cap) (.bool (p (l.getD k default) (m.getD k default)))) (hl:l.length<=2 ^ 62) (hm:m.length<=2 ^ 62) :
    aP aK 117 [cJ l,cJ m,.fn (.func fn) [] cap] (.bool (gy p l m)):=by
 refine aR uU ?_ (by simp[AV.dz,AV.cA,hcap,jk]);intro Q aF aG aH;repeat' first|refine aE ?_|refine aD ?_ ?_<;>intro hw<;>try omega|fail
 ·refine aU ?_ rfl;rw[nH (by omega)]
 have oq:l.length=m.length:=by omega
 with_reducible refine bZ [6,7,8,9,17,18,19,20,21,22,23,24,25,26,27,28,29,30,31] (fun p:Nat × List aY=>[(17,I p.1)]) (fun p=>p.2) (fun q=>q.1<=l.length/\ ∀ k,k<q.1->p (l.getD k default) (m.getD k default)=true) (fun p=>l.length-p.1) (0,[]) ?_ ?_ ?_ ?_
 ·simp
 ·rfl
 ·exact at_
 rintro⟨i,τ⟩ r ⟨h1,h2⟩;dsimp only at h1 h2;by_cases hi:i<l.length
 ·have hy:=h i hi (by omega);simp only[dB,bq,cu,nY,dD,dA,jo,dy,bX,qD]at hy;repeat' first|refine aE ?_|refine aD ?_ ?_<;>intro hw<;>try omega|fail
  ·refine aU ?_ rfl;rw[pn hi hw (by omega)]
  ·refine⟨(i+1,τ++[.cells [.str (l.getD i default).name,I (l.getD i default).kind,.aO false EV ((l.getD i default).order.map fF)]]++[.cells [.str (m.getD i default).name,I (m.getD i default).kind,.aO false EV ((m.getD i default).order.map fF)]]),?_,?_,by first|rfl|(simp[go_sem];done),dH,at_⟩<;>(try dsimp only)
   ·exact⟨by omega,bI h2 hw⟩
   ·omega
 ·repeat' first|refine aE ?_|refine aD ?_ ?_<;>intro hw<;>try omega|fail
  refine aU ?_ rfl;rw[nI oq (fun k hk=>h2 k (by omega))]
def y5 (fn : FuncId) (cap : List AV) (hcap : AV.cA cap = true) (p : eE -> eE -> Bool) (l m : List eE)
    (h:∀ k,k<l.length->k<m.length->aP aK fn (cu (l.getD k default)::cu (m.getD k default)::cap) (.bool (p (l.getD k default) (m.getD k default)))) (hl:l.length<=2 ^ 62) (hm:m.length<=2 ^ 62) :
    aP aK 119 [eF l,eF m,.fn (.func fn) [] cap] (.bool (gy p l m)):=by
 refine aR wJ ?_ (by simp[AV.dz,AV.cA,hcap,vP]);intro Q aF aG aH;repeat' first|refine aE ?_|refine aD ?_ ?_<;>intro hw<;>try omega|fail
 ·refine aU ?_ rfl;rw[nH (by omega)]
 have oq:l.length=m.length:=by omega
 with_reducible refine bZ [6,7,8,9,17,18,19,20,21,22,23,24,25,26,27,28,29,30,31] (fun p:Nat × List aY=>[(17,I p.1)]) (fun p=>p.2) (fun q=>q.1<=l.length/\ ∀ k,k<q.1->p (l.getD k default) (m.getD k default)=true) (fun p=>l.length-p.1) (0,[]) ?_ ?_ ?_ ?_
 ·simp
 ·rfl
 ·exact at_
 rintro⟨i,τ⟩ r ⟨h1,h2⟩;dsimp only at h1 h2;by_cases hi:i<l.length
 ·have hy:=h i hi (by omega);simp only[dB,bq,cu,nY,dD,dA,jo,dy,bX,qD]at hy;repeat' first|refine aE ?_|refine aD ?_ ?_<;>intro hw<;>try omega|fail
  ·refine aU ?_ rfl;rw[pn hi hw (by omega)]
  ·refine⟨(i+1,τ++[.cells [.aO false E1 ((l.getD i default).cells.map cj),.aO false E1 ((l.getD i default).outs.map cj)]]++[.cells [.aO false E1 ((m.getD i default).cells.map cj),.aO false E1 ((m.getD i default).outs.map cj)]]),?_,?_,by first|rfl|(simp[go_sem];done),dH,at_⟩<;>(try dsimp only)
   ·exact⟨by omega,bI h2 hw⟩
   ·omega
 ·repeat' first|refine aE ?_|refine aD ?_ ?_<;>intro hw<;>try omega|fail
  refine aU ?_ rfl;rw[nI oq (fun k hk=>h2 k (by omega))]
def Dq(v u:eu): (v==u)=((v.kind==u.kind) && (v.n==u.n) && (v.s==u.s)):=by
 obtain⟨a,b,c⟩:=v;obtain⟨d,e,f⟩:=u;rw[a_];simp[and_assoc]
def Cr(l:List eu)(v:eu)(hl:l.length<=2 ^ 60): aP aK 263 [dy l,fF v] (I (fy (fun x=>x==v) l)):=by
 simp only[dy,fF];refine aR yU ?_;intro Q aF aG aH;repeat' first|refine aE ?_|refine aD ?_ ?_<;>intro hw<;>try omega|fail
 with_reducible refine bZ [4,5,8,9,10,11,12,13,14,15,16,17,18] (fun i:Nat=>[(8,I i)]) (fun _=>[.cells [I v.kind,I v.n,.str v.s]]) (fun i=>i<=l.length/\ ∀ k,k<i->(l.getD k default==v)=false) (fun i=>l.length-i) (0) ?_ ?_ ?_ ?_
 ·simp
 ·rfl
 ·exact at_
 rintro i r ⟨h1,h2⟩;by_cases hi:i<l.length
 ·obtain⟨u,hu⟩:∃ u,l.getD i default=u:=⟨_,rfl⟩;have hb:=Dq u v;repeat' first|simp (disch:=omega) only[go_sem,aF,aG,aH,hu]|refine aE ?_|refine aD ?_ ?_<;>intro hw<;>try omega|fail
  ·refine aU ?_ rfl;refine congrArg I ?_;exact(lU (p:=fun x=>x==v) hi h2 (by rw[hu,hb];simp_all)).symm
  ·refine⟨i+1,?_,?_,by first|rfl|(simp[go_sem];done),dH,at_⟩<;>(try dsimp only)
   ·exact⟨by omega,bI h2 (by rw[hu,hb,<-Bool.not_eq_true];simp only[<-Bool.not_eq_true,aq,beq_iff_eq,not_and]at hw ⊢;intro c;exact fun d=>hw ⟨c.1.symm,c.2.symm⟩ d.symm)⟩
   ·omega
 ·repeat' first|refine aE ?_|refine aD ?_ ?_<;>intro hw<;>try omega|fail
  refine aU ?_ rfl;refine congrArg I ?_;exact(lO (p:=fun x=>x==v) fun k hk=>h2 k (by omega)).symm
def Ct(l m:List eu)(hl:l.length<=2 ^ 60)(hm:m.length<=2 ^ 60): aP aK 160 [dy l,dy m] (.bool (gy (fun a b=>a==b) l m)):=by
 simp only[dy];refine aR yQ ?_;intro Q aF aG aH;repeat' first|refine aE ?_|refine aD ?_ ?_<;>intro hw<;>try omega|fail
 ·refine aU ?_ rfl;rw[nH (by omega)]
 have oq:l.length=m.length:=by omega
 with_reducible refine bZ [4,5,13,14,15,16,17,18,19,20,21,22,23,24,25] (fun i:Nat=>[(13,I i)]) (fun _=>[]) (fun i=>i<=l.length/\ ∀ k,k<i->(l.getD k default==m.getD k default)=true) (fun i=>l.length-i) (0) ?_ ?_ ?_ ?_
 ·simp
 ·rfl
 ·exact at_
 rintro i r ⟨h1,h2⟩;by_cases hi:i<l.length
 ·have hb:=Dq (l.getD i default) (m.getD i default);repeat' first|refine aE ?_|refine aD ?_ ?_<;>intro hw<;>try omega|fail
  ·refine aU ?_ rfl;rw[pn (p:=fun a b=>a==b) hi (by rw[hb,<-Bool.not_eq_true];simp_all) (by omega)]
  ·refine⟨i+1,?_,?_,by first|rfl|(simp[go_sem];done),dH,at_⟩<;>(try dsimp only)
   ·exact⟨by omega,bI h2 (by rw[hb];simp_all)⟩
   ·omega
 ·repeat' first|refine aE ?_|refine aD ?_ ?_<;>intro hw<;>try omega|fail
  refine aU ?_ rfl;rw[nI (p:=fun a b=>a==b) oq (fun k hk=>h2 k (by omega))]
def tg(l m:List aI)(hl:l.length<=2 ^ 60)(hm:m.length<=2 ^ 60): aP aK 161 [bX l,bX m] (.bool (gy (fun a b=>a==b) l m)):=by
 simp only[bX];refine aR ym ?_;intro Q aF aG aH;repeat' first|refine aE ?_|refine aD ?_ ?_<;>intro hw<;>try omega|fail
 ·refine aU ?_ rfl;rw[nH (by omega)]
 have oq:l.length=m.length:=by omega
 with_reducible refine bZ [4,5,13,14,15,16,17,18,19,20,21,22,23,24,25] (fun i:Nat=>[(13,I i)]) (fun _=>[]) (fun i=>i<=l.length/\ ∀ k,k<i->(l.getD k default==m.getD k default)=true) (fun i=>l.length-i) (0) ?_ ?_ ?_ ?_
 ·simp
 ·rfl
 ·exact at_
 rintro i r ⟨h1,h2⟩;by_cases hi:i<l.length
 ·repeat' first|refine aE ?_|refine aD ?_ ?_<;>intro hw<;>try omega|fail
  ·refine aU ?_ rfl;rw[pn (p:=fun a b=>a==b) hi (by rw[<-Bool.not_eq_true];simp_all) (by omega)]
  ·refine⟨i+1,?_,?_,by first|rfl|(simp[go_sem];done),dH,at_⟩<;>(try dsimp only)
   ·exact⟨by omega,bI h2 (by simp_all)⟩
   ·omega
 ·repeat' first|refine aE ?_|refine aD ?_ ?_<;>intro hw<;>try omega|fail
  refine aU ?_ rfl;rw[nI (p:=fun a b=>a==b) oq (fun k hk=>h2 k (by omega))]
def xU(l m:List aI)(hl:l.length<=2 ^ 60)(hm:m.length<=2 ^ 60): aP aK 11 [bX l,bX m] (.bool (gy (fun a b=>a==b) l m)):=by
 simp only[bX];refine aR BV ?_;intro Q aF aG aH;repeat' first|refine aE ?_|refine aD ?_ ?_<;>intro hw<;>try omega|fail
 ·refine aU ?_ rfl;rw[nH (by omega)]
 have oq:l.length=m.length:=by omega
 with_reducible refine bZ [4,5,11,12,13,14,15,16,17,18,19,20,21,22,23,24,25] (fun i:Nat=>[(5,I i)]) (fun _=>[]) (fun i=>i<=l.length/\ ∀ k,k<i->(l.getD k default==m.getD k default)=true) (fun i=>l.length-i) (0) ?_ ?_ ?_ ?_
 ·simp
 ·rfl
 ·exact at_
 rintro i r ⟨h1,h2⟩;by_cases hi:i<l.length
 ·repeat' first|refine aE ?_|refine aD ?_ ?_<;>intro hw<;>try omega|fail
  ·refine aU ?_ rfl;rw[pn (p:=fun a b=>a==b) hi (by rw[<-Bool.not_eq_true];simp_all) (by omega)]
  ·refine⟨i+1,?_,?_,by first|rfl|(simp[go_sem];done),dH,at_⟩<;>(try dsimp only)
   ·exact⟨by omega,bI h2 (by simp_all)⟩
   ·omega
 ·repeat' first|refine aE ?_|refine aD ?_ ?_<;>intro hw<;>try omega|fail
  refine aU ?_ rfl;rw[nI (p:=fun a b=>a==b) oq (fun k hk=>h2 k (by omega))]
def A2(l m:List eu)(hl:l.length<=2 ^ 60)(hm:m.length<=2 ^ 60): aP aK 66 [dy l,dy m] (.bool (gy (fun a b=>a==b) l m)):=by
 simp only[dy];refine aR EU ?_;intro Q aF aG aH;repeat' first|refine aE ?_|refine aD ?_ ?_<;>intro hw<;>try omega|fail
 ·refine aU ?_ rfl;rw[nH (by omega)]
 have oq:l.length=m.length:=by omega
 with_reducible refine bZ [4,5,11,12,13,14,15,16,17,18,19,20,21,22,23,24,25] (fun i:Nat=>[(5,I i)]) (fun _=>[]) (fun i=>i<=l.length/\ ∀ k,k<i->(l.getD k default==m.getD k default)=true) (fun i=>l.length-i) (0) ?_ ?_ ?_ ?_
 ·simp
 ·rfl
 ·exact at_
 rintro i r ⟨h1,h2⟩;by_cases hi:i<l.length
 ·have hb:=Dq (l.getD i default) (m.getD i default);repeat' first|refine aE ?_|refine aD ?_ ?_<;>intro hw<;>try omega|fail
  ·refine aU ?_ rfl;rw[pn (p:=fun a b=>a==b) hi (by rw[hb,<-Bool.not_eq_true];simp_all) (by omega)]
  ·refine⟨i+1,?_,?_,by first|rfl|(simp[go_sem];done),dH,at_⟩<;>(try dsimp only)
   ·exact⟨by omega,bI h2 (by rw[hb];simp_all)⟩
   ·omega
 ·repeat' first|refine aE ?_|refine aD ?_ ?_<;>intro hw<;>try omega|fail
  refine aU ?_ rfl;rw[nI (p:=fun a b=>a==b) oq (fun k hk=>h2 k (by omega))]
def pA(c:cR)(k:Nat): Bool:=bT (c.order.getD k default) && decide ((c.order.getD k default).kind=c.kind) && decide (fy (fun x=>x==c.order.getD k default) c.order=k)
def iG(c:cR)(asked:Bool): Bool :=
 if asked then(List.range c.order.length).all (pA c) && decide (1<=c.order.length/\c.order.length<=8)else decide (c.order.length=0)
def sU(c:cR): Prop:=c.name.length<=2 ^ 62/\c.order.length<=2 ^ 60/\ ∀ v ∈ c.order,(-9223372036854775808<=v.n/\v.n<=9223372036854775807)/\v.s.length<=2 ^ 62
def xV{c:cR}{i:Nat}(hi:i<c.order.length)(h:pA c i=false): iG c true=false:=by
 unfold iG;rw[if_pos rfl]
 have:(List.range c.order.length).all (pA c)=false:=by
  rw[List.all_eq_false];exact⟨i,by simpa using hi,by simp[h]⟩
 rw[this];rfl
def GN{c:cR}(h:∀ k,k<c.order.length->pA c k=true): iG c true=decide (1<=c.order.length/\c.order.length<=8):=by
 unfold iG;rw[if_pos rfl]
 have:(List.range c.order.length).all (pA c)=true:=by
  rw[aW];intro k hk;exact h k (by simpa using hk)
 rw[this];rfl
def M6(c:cR)(b:Bool)(h:sU c): aP aK 230 [bq c,.bool b] (.bool (iG c b)):=by
 obtain⟨_,hl,hv⟩:=h;simp only[bq,dy];cases b with
 | false =>
   have hS:iG c false=decide (c.order.length=0):=rfl;rw[hS];refine aR xI ?_;intro Q aF aG aH;repeat' first|refine aE ?_|refine aD ?_ ?_<;>intro hw<;>try omega|fail
   refine aU ?_ rfl;refine congrArg AV.bool ?_;rw[a_];simp_all
 | true =>
   refine aR xI ?_;intro Q aF aG aH;repeat' first|refine aE ?_|refine aD ?_ ?_<;>intro hw<;>try omega|fail
   with_reducible refine bZ [4,5,6,16,17,18,19,20,21,22,23,24,25,26,27,28,29,30,31,32,33,34,35,36,37,38,39] (fun q:Nat × List aY=>[(16,I q.1)]) (fun q=> .cells [.str c.name,I c.kind,.aO false EV (c.order.map fF)]::q.2) (fun q=>q.1<=c.order.length/\ ∀ k,k<q.1->pA c k=true) (fun q=>c.order.length-q.1) (0,[]) ?_ ?_ ?_ ?_
   ·simp
   ·rfl
   ·exact at_
   rintro⟨i,τ⟩ r ⟨h1,h2⟩;dsimp only at h1 h2;by_cases hi:i<c.order.length
   ·have Qd:=hv _ (bJ hi);have hO:pA c i=(bT (c.order.getD i default) && decide ((c.order.getD i default).kind=c.kind) && decide (fy (fun x=>x==c.order.getD i default) c.order=i)):=rfl;obtain⟨v,Cu⟩:∃ v,c.order.getD i default=v:=⟨_,rfl⟩;rw[Cu]at Qd hO;have c1:=qG v.kind v.n v.s Qd.1.1 Qd.1.2;have c2:=Cr c.order v hl;rw[show (⟨v.kind,v.n,v.s⟩:eu)=v from rfl]at c1;simp only[dy,fF]at c2;generalize fy (fun x=>x==v) c.order=ix at *;cases J7:bT v;all_goals (rw[J7]at c1 hO;simp only[mZ,aB,if_false,if_true]at c1)
    ·repeat' first|simp (disch:=omega) only[go_sem,aF,aG,aH,Cu]|refine aE ?_|refine aD ?_ ?_<;>intro hw<;>try omega|fail
     all_goals (refine aU ?_ rfl;rw[xV hi (by rw[hO];rfl)])
    ·repeat' first|simp (disch:=omega) only[go_sem,aF,aG,aH,Cu]|refine aE ?_|refine aD ?_ ?_<;>intro hw<;>try omega|fail
     all_goals first
      |(refine aU ?_ rfl;rw[xV hi (by rw[hO];simp_all;done)])
      | (refine ⟨(i + 1, τ ++ [.cells [I v.kind, I v.n, .str v.s]]), ?_, ?_, by first | rfl | (simp [go_sem]; done), dH, at_⟩ <;> (try dsimp only)
         ·exact⟨by omega,bI h2 (by rw[hO];simp_all)⟩
         ·omega)
   ·repeat' first|refine aE ?_|refine aD ?_ ?_<;>intro hw<;>try omega|fail
    all_goals (refine aU ?_ rfl;rw[GN (fun k hk=>h2 k (by omega))];refine congrArg AV.bool ?_;rw[a_];simp_all)
    all_goals (try omega)
def ZO{α : Type}[Inhabited α]{p : α->Bool}{l:List α}: ∀ {k:Nat},k<l.length->p (l.getD k default)=true->fy p l<=k:=by
 intro k
 induction k using Nat.strongRecOn with
 | _ k ih =>
   intro hk h;by_cases ha:∀ j,j<k->p (l.getD j default)=false
   ·rw[lU hk ha h];exact Int.le_refl _
   ·simp only[Classical.not_forall]at ha;obtain⟨j,hj,hn⟩:=ha;have:=ih j hj (by omega) (by simpa using hn);omega
def Xn{c:cR}{k i:Nat}(hk:k<i)(hi:i<c.order.length)(h:(c.order.getD k default==c.order.getD i default)=true): pA c i=false:=by
 have:=ZO (p:=fun x=>x==c.order.getD i default) (l:=c.order) (k:=k) (by omega) h;unfold pA;rw[Bool.and_eq_false_iff];exact .inr (decide_eq_false (by omega))
def ZP{c:cR}{i:Nat}(hi:i<c.order.length)(h:∀ k,k<i->(c.order.getD k default==c.order.getD i default)=false)(hr:bT (c.order.getD i default)=true)(hk:(c.order.getD i default).kind=c.kind): pA c i=true:=by
 have:=lU (p:=fun x=>x==c.order.getD i default) (l:=c.order) hi h (by simp);unfold pA;rw[this,hr,hk];simp
def ZQ{c:cR}{i:Nat}(h:bT (c.order.getD i default)=false\/(c.order.getD i default).kind≠c.kind): pA c i=false:=by
 unfold pA;rcases h with h|h
 ·rw[h];rfl
 ·rw[decide_eq_false h,fT];rfl
def acA(c:cR)(b:Bool)(h:sU c): aP aK 246 [bq c,.bool b] (.bool (iG c b)):=by
 obtain⟨_,hl,hv⟩:=h;simp only[bq,dy];cases b with
 | false =>
   have hS:iG c false=decide (c.order.length=0):=rfl;rw[hS];refine aR yT ?_;intro Q aF aG aH;repeat' first|refine aE ?_|refine aD ?_ ?_<;>intro hw<;>try omega|fail
   refine aU ?_ rfl;refine congrArg AV.bool ?_;rw[a_];simp_all
 | true =>
   refine aR yT ?_;intro Q aF aG aH;repeat' first|refine aE ?_|refine aD ?_ ?_<;>intro hw<;>try omega|fail
   with_reducible refine bZ [4,5,6,13,14,15,16,17,18,19,20,21,22,23,24,25,26,27,28,29,30,31,32,33,34,35,36,37,38,39,40,41,42,43,44,45,46,47,48,49,50,51,52,53] (fun i:Nat=>[(5,I i)]) (fun _=>[.cells [.str c.name,I c.kind,.aO false EV (c.order.map fF)]]) (fun i=>i<=c.order.length/\ ∀ k,k<i->pA c k=true) (fun i=>c.order.length-i) (0) ?_ ?_ ?_ ?_
   ·simp
   ·rfl
   ·exact at_
   rintro i r ⟨h1,h2⟩;by_cases hi:i<c.order.length
   ·have Qd:=hv _ (bJ hi);have hno:=fun h=>xV hi (ZQ (c:=c) (i:=i) h);have abI:=fun k hk h=>xV hi (Xn (c:=c) (k:=k) (i:=i) hk hi h);have hok:=fun h hr hk=>bI h2 (ZP (c:=c) hi h hr hk);obtain⟨v,Cu⟩:∃ v,c.order.getD i default=v:=⟨_,rfl⟩;rw[Cu]at Qd hno abI hok;have c1:=DY v.kind v.n v.s Qd.2;rw[show (⟨v.kind,v.n,v.s⟩:eu)=v from rfl]at c1;cases J7:bT v;all_goals rw[J7]at c1
    ·repeat' first|simp (disch:=omega) only[go_sem,aF,aG,aH,Cu]|refine aE ?_|refine aD ?_ ?_<;>intro hw<;>try omega|fail
     all_goals (refine aU ?_ rfl;rw[hno (.inl J7)])
    ·repeat' first|simp (disch:=omega) only[go_sem,aF,aG,aH,Cu]|refine aE ?_|refine aD ?_ ?_<;>intro hw<;>try omega|fail
     ·refine aU ?_ rfl;rw[hno (.inr (by simp_all))]
     with_reducible refine bZ [4,6,38,39,40,41,42,43,44,45,46,47,48,49,50,51,52,53] (fun k:Nat=>[(6,I k)]) (fun _=>[.cells [.str c.name,I c.kind,.aO false EV (c.order.map fF)]]) (fun k=>k<=i/\ ∀ j,j<k->(c.order.getD j default==v)=false) (fun k=>i-k) (0) ?_ ?_ ?_ ?_
     ·simp
     ·rfl
     ·exact at_
     rintro k r2 ⟨g1,g2⟩;by_cases hk:k<i
     ·have hdk:=abI k hk;have TO:=bI (i:=k) g2;obtain⟨u,abJ⟩:∃ u,c.order.getD k default=u:=⟨_,rfl⟩;rw[abJ]at hdk TO;have hb:=Dq u v;repeat' first|simp (disch:=omega) only[go_sem,aF,aG,aH,Cu,abJ]|refine aE ?_|refine aD ?_ ?_<;>intro hw<;>try omega|fail
      ·refine aU ?_ rfl;rw[hdk (by rw[hb];simp_all)]
      ·refine⟨k+1,?_,?_,by first|rfl|(simp[go_sem];done),dH,at_⟩<;>(try dsimp only)
       ·exact⟨by omega,TO (by rw[hb,<-Bool.not_eq_true];simp_all)⟩
       ·omega
     ·repeat' first|refine aE ?_|refine aD ?_ ?_<;>intro hw<;>try omega|fail
      refine⟨i+1,?_,?_,by first|rfl|(simp[go_sem];done),dH,at_⟩<;>(try dsimp only)
      ·exact⟨by omega,hok (fun j hj=>g2 j (by omega)) J7 (by simp_all)⟩
      ·omega
   ·repeat' first|refine aE ?_|refine aD ?_ ?_<;>intro hw<;>try omega|fail
    all_goals (refine aU ?_ rfl;rw[GN (fun k hk=>h2 k (by omega))];refine congrArg AV.bool ?_;rw[a_];simp_all)
    all_goals (try omega)
def jt(l:List cR)(b:Bool): Int:=if jc l≠0 then jc l else if l.length=0\/(l.any fun c=> !(iG c b))=true then 17 else 0
def Fl(c:cR)(b:Bool)(h:sU c): aP aK 229 [bq c,.dO E1 (.bool b) 0] (.bool (!(iG c b))):=by
 have h1:=M6 c b h;simp only[bq,dy]at h1 ⊢;generalize iG c b=o at *;refine aR Be ?_;intro Q aF aG aH;repeat' first|refine aE ?_|refine aD ?_ ?_<;>intro hw<;>try omega|fail
 all_goals exact aU rfl rfl
def y6(l:List cR)(b:Bool)(hl:l.length<=2 ^ 60)(h:∀ c ∈ l,sU c): aP aK 186 [cJ l,.bool b] (I (jt l b)):=by
 have h1:=Iq l (fun k hk=>(h _ (bJ hk)).1);have h2:=u7 229 [.dO E1 (.bool b) 0] rfl (fun c=> !(iG c b)) l (fun k hk=>Fl _ b (h _ (bJ hk))) (by omega);have hS:jt l b=if jc l≠0 then jc l else if l.length=0\/(l.any fun c=> !(iG c b))=true then 17 else 0:=rfl
 rw[hS];clear hS;simp only[cJ]at h1 h2 ⊢;generalize (l.any fun c=> !(iG c b))=an at *;generalize jc l=cs at *;refine aR DH ?_;intro Q aF aG aH;repeat' first|refine aE ?_|refine xK h2 ?_|refine aD ?_ ?_<;>intro hw<;>try omega|fail
 all_goals (refine aU ?_ rfl;refine congrArg I ?_;simp_all[<-List.length_eq_zero_iff])
 all_goals (try omega)
def jd(t:Table): Bool :=
 if t.aM<1\/6<t.aM then false else if t.agg=0 then true
 else if t.aM≠5\/t.agg<1\/4<t.agg\/t.outs.length≠1 then false
 else decide (t.agg=4\/(t.outs.getD 0 default).kind=1\/(t.outs.getD 0 default).kind=2/\t.agg≠1)
def ic(t:Table): Int :=
 if eV t.name=false then 13 else if jt t.ins false≠0 then jt t.ins false
 else if jt t.outs (decide (t.aM=3))≠0 then jt t.outs (decide (t.aM=3))
 else if jd t=false then 17 else if 24<t.rules.length then 24 else 0
def jQ(t:Table): Prop:=t.name.length<=2 ^ 30/\(t.ins.length<=2 ^ 30/\ ∀ c ∈ t.ins,sU c)/\(t.outs.length<=2 ^ 30/\ ∀ c ∈ t.outs,sU c) /\
 t.rules.length<=2 ^ 30/\ ∀ r ∈ t.rules,(r.cells.length<=2 ^ 30/\ ∀ s ∈ r.cells,s.length<=2 ^ 30)/\r.outs.length<=2 ^ 30/\ ∀ s ∈ r.outs,s.length<=2 ^ 30
def GO{l:List cR}(h:jc l=0){i:Nat}(hi:i<l.length): 1<=(l.getD i default).kind/\(l.getD i default).kind<=3:=by
 by_cases h6:6<l.length
 ·unfold jc at h;rw[if_pos h6]at h;omega
 ·by_cases hc:∀ k,k<l.length->oI l k=0
  ·have:=hc i hi;unfold oI at this;split at this
   ·omega
   ·split at this
    ·omega
    ·omega
  ·exfalso;unfold jc at h;rw[if_neg h6]at h;split at h
   ·rename_i j hj;have:=dN hj;simp[h]at this
   ·rename_i hn;apply hc;intro k hk;have:=dm.1 hn k (by simpa using hk);simpa using this
def xW{l:List cR}{b:Bool}(h:jt l b=0): jc l=0/\0<l.length:=by
 unfold jt at h;split at h
 ·omega
 ·split at h
  ·omega
  ·rename_i h1 h2;refine⟨by omega,?_⟩;rcases Nat.eq_zero_or_pos l.length with h3|h3
   ·exact absurd (.inl h3) h2
   ·exact h3
def Le(t:Table)(ho:jc t.outs=0): aP aK 187 [dV t] (.bool (jd t)):=by
 have hk:=fun h=>GO ho (i:=0) h;have hS:jd t=if t.aM<1\/6<t.aM then false else if t.agg=0 then true else if t.aM≠5\/t.agg<1\/4<t.agg\/t.outs.length≠1 then false else decide (t.agg=4\/(t.outs.getD 0 default).kind=1\/(t.outs.getD 0 default).kind=2/\t.agg≠1):=rfl
 rw[hS];clear hS ho;simp only[dV,ia,cJ,eF];obtain⟨c,abK⟩:∃ c,t.outs.getD 0 default=c:=⟨_,rfl⟩;rw[abK]at hk ⊢;refine aR EZ ?_;intro Q aF aG aH;repeat' first|simp (disch:=omega) only[go_sem,aF,aG,aH,abK]|refine aE ?_|refine aD ?_ ?_<;>intro hw<;>try omega|fail
 all_goals (refine aU ?_ rfl;refine congrArg AV.bool ?_;rw[a_];simp_all)
 all_goals (try omega)
def M7(t:Table)(h:jQ t): aP aK 152 [dV t] (I (ic t)):=by
 obtain⟨h1,h2,h3,h4,_⟩:=h;have c1:=tQ t.name (by omega);have c2:=y6 t.ins false (by omega) h2.2;have c3:=y6 t.outs (decide (t.aM=3)) (by omega) h3.2;have c4:jt t.outs (decide (t.aM=3))=0->aP aK 187 [dV t] (.bool (jd t)):=fun hb=>Le t (xW hb).1;have hS:ic t=if eV t.name=false then 13 else if jt t.ins false≠0 then jt t.ins false else if jt t.outs (decide (t.aM=3))≠0 then jt t.outs (decide (t.aM=3))else if jd t=false then 17 else if 24<t.rules.length then 24 else 0:=rfl
 rw[hS];clear hS;simp only[dV,ia,cJ,eF]at c2 c3 c4 ⊢;generalize eV t.name=n at *;generalize jt t.ins false=a at *;generalize jt t.outs (decide (t.aM=3))=b at *;generalize jd t=p at *;by_cases hb:b=0
 ·have c5:=c4 hb;clear c4;refine aR xH ?_;intro Q aF aG aH;repeat' first|refine aE ?_|refine aD ?_ ?_<;>intro hw<;>try omega|fail
  all_goals (refine aU ?_ rfl;refine congrArg I ?_;simp_all)
  all_goals (try omega)
 ·clear c4;refine aR xH ?_;intro Q aF aG aH;repeat' first|refine aE ?_|refine aD ?_ ?_<;>intro hw<;>try omega|fail
  all_goals first
   | exact bN
   |(refine aU ?_ rfl;refine congrArg I ?_;simp_all;done)
   |(refine aU ?_ rfl;refine congrArg I ?_;simp_all;omega)
def UP{T:List Tok}(hT:yx T)(hl:T.length<=2 ^ 20)(p:Nat)(b:Bool): Co (fO T p b).t:=by
 have hx:∀ p b,jl (iS T p b).x/\fN (iS T p b).x<=2 ^ 30:=fun p b=>⟨(Ab hT p b).1,by have:=(Ab hT p b).2;omega⟩;have h0:jl x0/\fN x0<=2 ^ 30:=⟨qK,by simp[x0,fN,lZ]⟩;have h1:∀ k p b,Co (rq k (iS T p b)).t:=fun k p b=>⟨hx p b,h0⟩;have h2:∀ lo,Co (JZ T p lo).t:=fun lo=>⟨hx _ _,hx _ _⟩;unfold fO;split
 ·exact h1 _ _ _
 split
 ·exact h1 _ _ _
 split
 ·exact h1 _ _ _
 split
 ·exact h1 _ _ _
 split
 ·exact h2 _
 split
 ·exact h2 _
 ·exact h1 _ _ _
def UQ{T:List Tok}(hT:yx T)(hl:T.length<=2 ^ 20)(f:Nat): ∀(acc:List Test) (p:Nat) (b:Bool),(∀ t ∈ acc,Co t)->(∀ t ∈ (qJ T f acc p b).ts,Co t)/\(qJ T f acc p b).ts.length<=acc.length+f:=by
 induction f with
 | zero=>intro acc p b h;exact⟨h,Nat.le_refl _⟩
 | succ f ih =>
   intro acc p b h
   have h2:∀ t ∈ acc++[(fO T p b).t],Co t:=fun t ht=>by
    rcases List.mem_append.1 ht with ht|ht
    ·exact h t ht
    ·simp only[List.mem_cons,List.not_mem_nil,or_false]at ht;subst ht;exact UP hT hl p b
   rw[uo];split
   ·have:=ih _ ((fO T p b).p+1) (fO T p b).bad h2;rw[aA,List.length_cons,List.length_nil]at this;exact⟨this.1,by omega⟩
   ·exact⟨h2,by rw[aA,List.length_cons,List.length_nil];omega⟩
def R8(s:aI): yz (kL s).1:=by
 have h:yz ⟨false,qg (bG s).1,(jP (bG s).1).ts⟩:=by
  have hf:=(n6 s).1;have:=UQ (wh s) (by omega) ((bG s).1.length+1) [] (P8 (bG s).1) false (fun t ht=>by cases ht);unfold jP yz;rw[Qa];exact⟨by have:=this.2;simp only[List.length_nil]at this;dsimp only;omega,this.1⟩
 have h0:yz c0:=⟨Nat.zero_le _,fun t ht=>by cases ht⟩;have h1:yz Ff:=⟨Nat.zero_le _,fun t ht=>by cases ht⟩;unfold kL;repeat' split
 all_goals first|exact h0|exact h1|exact h
def J8(s:aI): jl (jf s).1/\fN (jf s).1<=2 ^ 30:=by
 have h:jl (gY (bG s).1 0 0).1/\fN (gY (bG s).1 0 0).1<=2 ^ 30:=by
  have hf:=(n6 s).1;have:=Fb (bG s).1 0 0;exact⟨MS (wh s) _ _,by omega⟩
 have h0:jl x0/\fN x0<=2 ^ 30:=⟨qK,by simp[x0,fN,lZ]⟩;unfold jf;repeat' split
 all_goals first|exact h0|exact h
def M8(t:Table)(k:Nat)(s:aI): Cell × Int:=((kL s).1,if(kL s).2.2=0 then yy t.ins (t.ins.getD k default).kind (kL s).1 else(kL s).2.2)
def GP(t:Table)(k:Nat)(s:aI): Expr × Int:=((jf s).1,if(jf s).2.2≠0 then(jf s).2.2 else if(jA t.ins (jf s).1).2=0/\j8 (jA t.ins (jf s).1).1 (t.outs.getD k default).kind=false then 14 else(jA t.ins (jf s).1).2)
def R9(t:Table)(k:Nat)(s:aI)(ht:t.ins.length<=2 ^ 30)(hk:k<t.ins.length)(hs:s.length<=2 ^ 30): aP aK 188 [dV t,I k,.str s] (.bO [dD (M8 t k s).1,I (M8 t k s).2]):=by
 have c1:=RW s hs;have c2:=RY t.ins (by omega) (t.ins.getD k default).kind (kL s).1 (UD s);have hS:M8 t k s=((kL s).1,if(kL s).2.2=0 then yy t.ins (t.ins.getD k default).kind (kL s).1 else(kL s).2.2):=rfl;rw[hS];clear hS;dsimp only;obtain⟨cc,fX⟩:∃ c,t.ins.getD k default=c:=⟨_,rfl⟩;rw[fX]at c2 ⊢;generalize yy t.ins cc.kind (kL s).1=ty at *;generalize kL s=P at *;obtain⟨c,n,e⟩:=P;dsimp only at c1 c2 ⊢;simp only[eC3]at c1;obtain⟨C,hC⟩:∃ C,dD c=C:=⟨_,rfl⟩;have hC2:C = .agg [.bool c.any,.bool c.neg,.aO false ES (c.tests.map dB)]:=by rw[<-hC];rfl
 simp only[dD,jo,dV,ia,cJ,eF]at c1 c2 ⊢;refine aR K6 ?_;intro Q aF aG aH;repeat' first|simp (disch:=omega) only[go_sem,aF,aG,aH,fX]|refine aE ?_|refine aD ?_ ?_<;>intro hw<;>try omega|fail
 all_goals (refine b_ ?_ (by simp);simp_all)
def OV(t:Table)(k:Nat)(s:aI)(ht:t.ins.length<=2 ^ 30)(ho:t.outs.length<=2 ^ 30)(hk:k<t.outs.length)(hs:s.length<=2 ^ 30): aP aK 189 [dV t,I k,.str s] (.bO [bf (GP t k s).1,I (GP t k s).2]):=by
 have c1:=MH s hs;have hp:=J8 s;have c2:=wS t.ins (by omega) (jf s).1 hp.1 (by have:=hp.2;omega);have c3:=oD (jA t.ins (jf s).1).1 (t.outs.getD k default).kind;have hS:GP t k s=((jf s).1,if(jf s).2.2≠0 then(jf s).2.2 else if(jA t.ins (jf s).1).2=0/\j8 (jA t.ins (jf s).1).1 (t.outs.getD k default).kind=false then 14 else(jA t.ins (jf s).1).2):=rfl;rw[hS];clear hS hp;dsimp only;obtain⟨cc,fX⟩:∃ c,t.outs.getD k default=c:=⟨_,rfl⟩;rw[fX]at c3 ⊢;generalize j8 (jA t.ins (jf s).1).1 cc.kind=fi at *;generalize jA t.ins (jf s).1=ki at *;generalize jf s=P at *;obtain⟨x,n,e⟩:=P;dsimp only at c1 c2 ⊢;simp only[JT]at c1;rw[bB]at c1 c2 ⊢;simp only[dA,dV,ia,cJ,eF]at c1 c2 ⊢;refine aR Ia ?_;intro Q aF aG aH;repeat' first|simp (disch:=omega) only[go_sem,aF,aG,aH,fX]|refine aE ?_|refine aD ?_ ?_<;>intro hw<;>try omega|fail
 all_goals (refine b_ ?_ (by simp);simp_all)
