/- Part. -/
import Derived.Test.YtcjcnfcedihckaaGreatDoorW26
set_option linter.all false
namespace Go.Proofs.YtcjcnfcedihckaaGreatDoor
open Go.AM
set_option maxRecDepth 4000
def vL (fn : FuncId) (cap : List AV) (hcap : AV.cB cap = true) (p : cV -> Bool) (l : List cV) (h : ∀ k, k < l.length -> aM aK fn (bu (l.getD k default) :: cap) (.bool (p (l.getD k default)))) (hl : l.length <= 2 ^ 62) :
    aM aK 228 [cH l,.fn (.func fn) [] cap] (.bool (l.any p)):=by
 refine aR tR ?_ (by simp[AV.dF,AV.cB,hcap,jC]);intro Q aC aD aE;have hc:=qF fn cap hcap p l h hl;simp only[cH]at hc;repeat' first|refine aG ?_|refine aF ?_ ?_<;>intro hw<;>try omega|fail
 all_goals refine aS ?_ rfl
 all_goals rw[<-Ay]
def qH (fn : FuncId) (cap : List AV) (hcap : AV.cB cap = true) (p : cV -> cV -> Bool) (l m : List cV)
    (h:∀ k,k<l.length->k<m.length->aM aK fn (bu (l.getD k default)::bu (m.getD k default)::cap) (.bool (p (l.getD k default) (m.getD k default)))) (hl:l.length<=2 ^ 62) (hm:m.length<=2 ^ 62) :
    aM aK 117 [cH l,cH m,.fn (.func fn) [] cap] (.bool (gV p l m)):=by
 refine aR vE ?_ (by simp[AV.dF,AV.cB,hcap,jC]);intro Q aC aD aE;repeat' first|refine aG ?_|refine aF ?_ ?_<;>intro hw<;>try omega|fail
 ·refine aS ?_ rfl;rw[nZ (by omega)]
 have n6:l.length=m.length:=by omega
 with_reducible refine bX [6,7,8,9,17,18,19,20,21,22,23,24,25,26,27,28,29,30,31] (fun p:Nat × List aZ=>[(17,I p.1)]) (fun p=>p.2) (fun q=>q.1<=l.length/\ ∀ k,k<q.1->p (l.getD k default) (m.getD k default)=true) (fun p=>l.length-p.1) (0,[]) ?_ ?_ ?_ ?_
 ·simp
 ·rfl
 ·exact at_
 rintro⟨i,τ⟩ r ⟨h1,h2⟩;dsimp only at h1 h2;by_cases hi:i<l.length
 ·have hy:=h i hi (by omega);simp only[dH,bu,cu,ow,dI,dG,jL,dh,bM,qZ]at hy;repeat' first|refine aG ?_|refine aF ?_ ?_<;>intro hw<;>try omega|fail
  ·refine aS ?_ rfl;rw[pR hi hw (by omega)]
  ·refine⟨(i+1,τ++[.cells [.str (l.getD i default).name,I (l.getD i default).kind,.aO false EV ((l.getD i default).order.map fD)]]++[.cells [.str (m.getD i default).name,I (m.getD i default).kind,.aO false EV ((m.getD i default).order.map fD)]]),?_,?_,by first|rfl|(simp[go_sem];done),da,at_⟩<;>(try dsimp only)
   ·exact⟨by omega,bP h2 hw⟩
   ·omega
 ·repeat' first|refine aG ?_|refine aF ?_ ?_<;>intro hw<;>try omega|fail
  refine aS ?_ rfl;rw[n5 n6 (fun k hk=>h2 k (by omega))]
def zB (fn : FuncId) (cap : List AV) (hcap : AV.cB cap = true) (p : eL -> eL -> Bool) (l m : List eL)
    (h:∀ k,k<l.length->k<m.length->aM aK fn (cu (l.getD k default)::cu (m.getD k default)::cap) (.bool (p (l.getD k default) (m.getD k default)))) (hl:l.length<=2 ^ 62) (hm:m.length<=2 ^ 62) :
    aM aK 119 [eA l,eA m,.fn (.func fn) [] cap] (.bool (gV p l m)):=by
 refine aR xd ?_ (by simp[AV.dF,AV.cB,hcap,wA]);intro Q aC aD aE;repeat' first|refine aG ?_|refine aF ?_ ?_<;>intro hw<;>try omega|fail
 ·refine aS ?_ rfl;rw[nZ (by omega)]
 have n6:l.length=m.length:=by omega
 with_reducible refine bX [6,7,8,9,17,18,19,20,21,22,23,24,25,26,27,28,29,30,31] (fun p:Nat × List aZ=>[(17,I p.1)]) (fun p=>p.2) (fun q=>q.1<=l.length/\ ∀ k,k<q.1->p (l.getD k default) (m.getD k default)=true) (fun p=>l.length-p.1) (0,[]) ?_ ?_ ?_ ?_
 ·simp
 ·rfl
 ·exact at_
 rintro⟨i,τ⟩ r ⟨h1,h2⟩;dsimp only at h1 h2;by_cases hi:i<l.length
 ·have hy:=h i hi (by omega);simp only[dH,bu,cu,ow,dI,dG,jL,dh,bM,qZ]at hy;repeat' first|refine aG ?_|refine aF ?_ ?_<;>intro hw<;>try omega|fail
  ·refine aS ?_ rfl;rw[pR hi hw (by omega)]
  ·refine⟨(i+1,τ++[.cells [.aO false E1 ((l.getD i default).cells.map bB),.aO false E1 ((l.getD i default).outs.map bB)]]++[.cells [.aO false E1 ((m.getD i default).cells.map bB),.aO false E1 ((m.getD i default).outs.map bB)]]),?_,?_,by first|rfl|(simp[go_sem];done),da,at_⟩<;>(try dsimp only)
   ·exact⟨by omega,bP h2 hw⟩
   ·omega
 ·repeat' first|refine aG ?_|refine aF ?_ ?_<;>intro hw<;>try omega|fail
  refine aS ?_ rfl;rw[n5 n6 (fun k hk=>h2 k (by omega))]
def D4(v u:ez): (v==u)=((v.kind==u.kind) && (v.n==u.n) && (v.s==u.s)):=by
 obtain⟨a,b,c⟩:=v;obtain⟨d,e,f⟩:=u;rw[a_];simp[and_assoc]
def C8(l:List ez)(v:ez)(hl:l.length<=2 ^ 60): aM aK 263 [dh l,fD v] (I (fI (fun x=>x==v) l)):=by
 simp only[dh,fD];refine aR zo ?_;intro Q aC aD aE;repeat' first|refine aG ?_|refine aF ?_ ?_<;>intro hw<;>try omega|fail
 with_reducible refine bX [4,5,8,9,10,11,12,13,14,15,16,17,18] (fun i:Nat=>[(8,I i)]) (fun _=>[.cells [I v.kind,I v.n,.str v.s]]) (fun i=>i<=l.length/\ ∀ k,k<i->(l.getD k default==v)=false) (fun i=>l.length-i) (0) ?_ ?_ ?_ ?_
 ·simp
 ·rfl
 ·exact at_
 rintro i r ⟨h1,h2⟩;by_cases hi:i<l.length
 ·obtain⟨u,hu⟩:∃ u,l.getD i default=u:=⟨_,rfl⟩;have hb:=D4 u v;repeat' first|simp (disch:=omega) only[go_sem,aC,aD,aE,hu]|refine aG ?_|refine aF ?_ ?_<;>intro hw<;>try omega|fail
  ·refine aS ?_ rfl;refine congrArg I ?_;exact(mo (p:=fun x=>x==v) hi h2 (by rw[hu,hb];simp_all)).symm
  ·refine⟨i+1,?_,?_,by first|rfl|(simp[go_sem];done),da,at_⟩<;>(try dsimp only)
   ·exact⟨by omega,bP h2 (by rw[hu,hb,<-Bool.not_eq_true];simp only[<-Bool.not_eq_true,aq,beq_iff_eq,not_and]at hw ⊢;intro c;exact fun d=>hw ⟨c.1.symm,c.2.symm⟩ d.symm)⟩
   ·omega
 ·repeat' first|refine aG ?_|refine aF ?_ ?_<;>intro hw<;>try omega|fail
  refine aS ?_ rfl;refine congrArg I ?_;exact(lZ (p:=fun x=>x==v) fun k hk=>h2 k (by omega)).symm
def C9(l m:List ez)(hl:l.length<=2 ^ 60)(hm:m.length<=2 ^ 60): aM aK 160 [dh l,dh m] (.bool (gV (fun a b=>a==b) l m)):=by
 simp only[dh];refine aR zk ?_;intro Q aC aD aE;repeat' first|refine aG ?_|refine aF ?_ ?_<;>intro hw<;>try omega|fail
 ·refine aS ?_ rfl;rw[nZ (by omega)]
 have n6:l.length=m.length:=by omega
 with_reducible refine bX [4,5,13,14,15,16,17,18,19,20,21,22,23,24,25] (fun i:Nat=>[(13,I i)]) (fun _=>[]) (fun i=>i<=l.length/\ ∀ k,k<i->(l.getD k default==m.getD k default)=true) (fun i=>l.length-i) (0) ?_ ?_ ?_ ?_
 ·simp
 ·rfl
 ·exact at_
 rintro i r ⟨h1,h2⟩;by_cases hi:i<l.length
 ·have hb:=D4 (l.getD i default) (m.getD i default);repeat' first|refine aG ?_|refine aF ?_ ?_<;>intro hw<;>try omega|fail
  ·refine aS ?_ rfl;rw[pR (p:=fun a b=>a==b) hi (by rw[hb,<-Bool.not_eq_true];simp_all) (by omega)]
  ·refine⟨i+1,?_,?_,by first|rfl|(simp[go_sem];done),da,at_⟩<;>(try dsimp only)
   ·exact⟨by omega,bP h2 (by rw[hb];simp_all)⟩
   ·omega
 ·repeat' first|refine aG ?_|refine aF ?_ ?_<;>intro hw<;>try omega|fail
  refine aS ?_ rfl;rw[n5 (p:=fun a b=>a==b) n6 (fun k hk=>h2 k (by omega))]
def tY(l m:List aI)(hl:l.length<=2 ^ 60)(hm:m.length<=2 ^ 60): aM aK 161 [bM l,bM m] (.bool (gV (fun a b=>a==b) l m)):=by
 simp only[bM];refine aR yQ ?_;intro Q aC aD aE;repeat' first|refine aG ?_|refine aF ?_ ?_<;>intro hw<;>try omega|fail
 ·refine aS ?_ rfl;rw[nZ (by omega)]
 have n6:l.length=m.length:=by omega
 with_reducible refine bX [4,5,13,14,15,16,17,18,19,20,21,22,23,24,25] (fun i:Nat=>[(13,I i)]) (fun _=>[]) (fun i=>i<=l.length/\ ∀ k,k<i->(l.getD k default==m.getD k default)=true) (fun i=>l.length-i) (0) ?_ ?_ ?_ ?_
 ·simp
 ·rfl
 ·exact at_
 rintro i r ⟨h1,h2⟩;by_cases hi:i<l.length
 ·repeat' first|refine aG ?_|refine aF ?_ ?_<;>intro hw<;>try omega|fail
  ·refine aS ?_ rfl;rw[pR (p:=fun a b=>a==b) hi (by rw[<-Bool.not_eq_true];simp_all) (by omega)]
  ·refine⟨i+1,?_,?_,by first|rfl|(simp[go_sem];done),da,at_⟩<;>(try dsimp only)
   ·exact⟨by omega,bP h2 (by simp_all)⟩
   ·omega
 ·repeat' first|refine aG ?_|refine aF ?_ ?_<;>intro hw<;>try omega|fail
  refine aS ?_ rfl;rw[n5 (p:=fun a b=>a==b) n6 (fun k hk=>h2 k (by omega))]
def yo(l m:List aI)(hl:l.length<=2 ^ 60)(hm:m.length<=2 ^ 60): aM aK 11 [bM l,bM m] (.bool (gV (fun a b=>a==b) l m)):=by
 simp only[bM];refine aR Cr ?_;intro Q aC aD aE;repeat' first|refine aG ?_|refine aF ?_ ?_<;>intro hw<;>try omega|fail
 ·refine aS ?_ rfl;rw[nZ (by omega)]
 have n6:l.length=m.length:=by omega
 with_reducible refine bX [4,5,11,12,13,14,15,16,17,18,19,20,21,22,23,24,25] (fun i:Nat=>[(5,I i)]) (fun _=>[]) (fun i=>i<=l.length/\ ∀ k,k<i->(l.getD k default==m.getD k default)=true) (fun i=>l.length-i) (0) ?_ ?_ ?_ ?_
 ·simp
 ·rfl
 ·exact at_
 rintro i r ⟨h1,h2⟩;by_cases hi:i<l.length
 ·repeat' first|refine aG ?_|refine aF ?_ ?_<;>intro hw<;>try omega|fail
  ·refine aS ?_ rfl;rw[pR (p:=fun a b=>a==b) hi (by rw[<-Bool.not_eq_true];simp_all) (by omega)]
  ·refine⟨i+1,?_,?_,by first|rfl|(simp[go_sem];done),da,at_⟩<;>(try dsimp only)
   ·exact⟨by omega,bP h2 (by simp_all)⟩
   ·omega
 ·repeat' first|refine aG ?_|refine aF ?_ ?_<;>intro hw<;>try omega|fail
  refine aS ?_ rfl;rw[n5 (p:=fun a b=>a==b) n6 (fun k hk=>h2 k (by omega))]
def Bv(l m:List ez)(hl:l.length<=2 ^ 60)(hm:m.length<=2 ^ 60): aM aK 66 [dh l,dh m] (.bool (gV (fun a b=>a==b) l m)):=by
 simp only[dh];refine aR FJ ?_;intro Q aC aD aE;repeat' first|refine aG ?_|refine aF ?_ ?_<;>intro hw<;>try omega|fail
 ·refine aS ?_ rfl;rw[nZ (by omega)]
 have n6:l.length=m.length:=by omega
 with_reducible refine bX [4,5,11,12,13,14,15,16,17,18,19,20,21,22,23,24,25] (fun i:Nat=>[(5,I i)]) (fun _=>[]) (fun i=>i<=l.length/\ ∀ k,k<i->(l.getD k default==m.getD k default)=true) (fun i=>l.length-i) (0) ?_ ?_ ?_ ?_
 ·simp
 ·rfl
 ·exact at_
 rintro i r ⟨h1,h2⟩;by_cases hi:i<l.length
 ·have hb:=D4 (l.getD i default) (m.getD i default);repeat' first|refine aG ?_|refine aF ?_ ?_<;>intro hw<;>try omega|fail
  ·refine aS ?_ rfl;rw[pR (p:=fun a b=>a==b) hi (by rw[hb,<-Bool.not_eq_true];simp_all) (by omega)]
  ·refine⟨i+1,?_,?_,by first|rfl|(simp[go_sem];done),da,at_⟩<;>(try dsimp only)
   ·exact⟨by omega,bP h2 (by rw[hb];simp_all)⟩
   ·omega
 ·repeat' first|refine aG ?_|refine aF ?_ ?_<;>intro hw<;>try omega|fail
  refine aS ?_ rfl;rw[n5 (p:=fun a b=>a==b) n6 (fun k hk=>h2 k (by omega))]
def pV(c:cV)(k:Nat): Bool:=bZ (c.order.getD k default) && decide ((c.order.getD k default).kind=c.kind) && decide (fI (fun x=>x==c.order.getD k default) c.order=k)
def iT(c:cV)(asked:Bool): Bool :=
 if asked then(List.range c.order.length).all (pV c) && decide (1<=c.order.length/\c.order.length<=8)else decide (c.order.length=0)
def tI(c:cV): Prop:=c.name.length<=2 ^ 62/\c.order.length<=2 ^ 60/\ ∀ v ∈ c.order,(-9223372036854775808<=v.n/\v.n<=9223372036854775807)/\v.s.length<=2 ^ 62
def yp{c:cV}{i:Nat}(hi:i<c.order.length)(h:pV c i=false): iT c true=false:=by
 unfold iT;rw[if_pos rfl]
 have:(List.range c.order.length).all (pV c)=false:=by
  rw[List.all_eq_false];exact⟨i,by simpa using hi,by simp[h]⟩
 rw[this];rfl
def HG{c:cV}(h:∀ k,k<c.order.length->pV c k=true): iT c true=decide (1<=c.order.length/\c.order.length<=8):=by
 unfold iT;rw[if_pos rfl]
 have:(List.range c.order.length).all (pV c)=true:=by
  rw[aX];intro k hk;exact h k (by simpa using hk)
 rw[this];rfl
def Ol(c:cV)(b:Bool)(h:tI c): aM aK 230 [bu c,.bool b] (.bool (iT c b)):=by
 obtain⟨_,hl,hv⟩:=h;simp only[bu,dh];cases b with
 | false =>
   have hS:iT c false=decide (c.order.length=0):=rfl;rw[hS];refine aR yd ?_;intro Q aC aD aE;repeat' first|refine aG ?_|refine aF ?_ ?_<;>intro hw<;>try omega|fail
   refine aS ?_ rfl;refine congrArg AV.bool ?_;rw[a_];simp_all
 | true =>
   refine aR yd ?_;intro Q aC aD aE;repeat' first|refine aG ?_|refine aF ?_ ?_<;>intro hw<;>try omega|fail
   with_reducible refine bX [4,5,6,16,17,18,19,20,21,22,23,24,25,26,27,28,29,30,31,32,33,34,35,36,37,38,39] (fun q:Nat × List aZ=>[(16,I q.1)]) (fun q=> .cells [.str c.name,I c.kind,.aO false EV (c.order.map fD)]::q.2) (fun q=>q.1<=c.order.length/\ ∀ k,k<q.1->pV c k=true) (fun q=>c.order.length-q.1) (0,[]) ?_ ?_ ?_ ?_
   ·simp
   ·rfl
   ·exact at_
   rintro⟨i,τ⟩ r ⟨h1,h2⟩;dsimp only at h1 h2;by_cases hi:i<c.order.length
   ·have Rt:=hv _ (bH hi);have hO:pV c i=(bZ (c.order.getD i default) && decide ((c.order.getD i default).kind=c.kind) && decide (fI (fun x=>x==c.order.getD i default) c.order=i)):=rfl;obtain⟨v,C_⟩:∃ v,c.order.getD i default=v:=⟨_,rfl⟩;rw[C_]at Rt hO;have c1:=q_ v.kind v.n v.s Rt.1.1 Rt.1.2;have c2:=C8 c.order v hl;rw[show (⟨v.kind,v.n,v.s⟩:ez)=v from rfl]at c1;simp only[dh,fD]at c2;generalize fI (fun x=>x==v) c.order=ix at *;cases Lf:bZ v;all_goals (rw[Lf]at c1 hO;simp only[nF,aB,if_false,if_true]at c1)
    ·repeat' first|simp (disch:=omega) only[go_sem,aC,aD,aE,C_]|refine aG ?_|refine aF ?_ ?_<;>intro hw<;>try omega|fail
     all_goals (refine aS ?_ rfl;rw[yp hi (by rw[hO];rfl)])
    ·repeat' first|simp (disch:=omega) only[go_sem,aC,aD,aE,C_]|refine aG ?_|refine aF ?_ ?_<;>intro hw<;>try omega|fail
     all_goals first
      |(refine aS ?_ rfl;rw[yp hi (by rw[hO];simp_all;done)])
      | (refine ⟨(i + 1, τ ++ [.cells [I v.kind, I v.n, .str v.s]]), ?_, ?_, by first | rfl | (simp [go_sem]; done), da, at_⟩ <;> (try dsimp only)
         ·exact⟨by omega,bP h2 (by rw[hO];simp_all)⟩
         ·omega)
   ·repeat' first|refine aG ?_|refine aF ?_ ?_<;>intro hw<;>try omega|fail
    all_goals (refine aS ?_ rfl;rw[HG (fun k hk=>h2 k (by omega))];refine congrArg AV.bool ?_;rw[a_];simp_all)
    all_goals (try omega)
def aa0{α : Type}[Inhabited α]{p : α->Bool}{l:List α}: ∀ {k:Nat},k<l.length->p (l.getD k default)=true->fI p l<=k:=by
 intro k
 induction k using Nat.strongRecOn with
 | _ k ih =>
   intro hk h;by_cases ha:∀ j,j<k->p (l.getD j default)=false
   ·rw[mo hk ha h];exact Int.le_refl _
   ·simp only[Classical.not_forall]at ha;obtain⟨j,hj,hn⟩:=ha;have:=ih j hj (by omega) (by simpa using hn);omega
def Yv{c:cV}{k i:Nat}(hk:k<i)(hi:i<c.order.length)(h:(c.order.getD k default==c.order.getD i default)=true): pV c i=false:=by
 have:=aa0 (p:=fun x=>x==c.order.getD i default) (l:=c.order) (k:=k) (by omega) h;unfold pV;rw[Bool.and_eq_false_iff];exact .inr (decide_eq_false (by omega))
def aa1{c:cV}{i:Nat}(hi:i<c.order.length)(h:∀ k,k<i->(c.order.getD k default==c.order.getD i default)=false)(hr:bZ (c.order.getD i default)=true)(hk:(c.order.getD i default).kind=c.kind): pV c i=true:=by
 have:=mo (p:=fun x=>x==c.order.getD i default) (l:=c.order) hi h (by simp);unfold pV;rw[this,hr,hk];simp
def aa2{c:cV}{i:Nat}(h:bZ (c.order.getD i default)=false\/(c.order.getD i default).kind≠c.kind): pV c i=false:=by
 unfold pV;rcases h with h|h
 ·rw[h];rfl
 ·rw[decide_eq_false h,f_];rfl
def adN(c:cV)(b:Bool)(h:tI c): aM aK 246 [bu c,.bool b] (.bool (iT c b)):=by
 obtain⟨_,hl,hv⟩:=h;simp only[bu,dh];cases b with
 | false =>
   have hS:iT c false=decide (c.order.length=0):=rfl;rw[hS];refine aR zn ?_;intro Q aC aD aE;repeat' first|refine aG ?_|refine aF ?_ ?_<;>intro hw<;>try omega|fail
   refine aS ?_ rfl;refine congrArg AV.bool ?_;rw[a_];simp_all
 | true =>
   refine aR zn ?_;intro Q aC aD aE;repeat' first|refine aG ?_|refine aF ?_ ?_<;>intro hw<;>try omega|fail
   with_reducible refine bX [4,5,6,13,14,15,16,17,18,19,20,21,22,23,24,25,26,27,28,29,30,31,32,33,34,35,36,37,38,39,40,41,42,43,44,45,46,47,48,49,50,51,52,53] (fun i:Nat=>[(5,I i)]) (fun _=>[.cells [.str c.name,I c.kind,.aO false EV (c.order.map fD)]]) (fun i=>i<=c.order.length/\ ∀ k,k<i->pV c k=true) (fun i=>c.order.length-i) (0) ?_ ?_ ?_ ?_
   ·simp
   ·rfl
   ·exact at_
   rintro i r ⟨h1,h2⟩;by_cases hi:i<c.order.length
   ·have Rt:=hv _ (bH hi);have hno:=fun h=>yp hi (aa2 (c:=c) (i:=i) h);have acX:=fun k hk h=>yp hi (Yv (c:=c) (k:=k) (i:=i) hk hi h);have hok:=fun h hr hk=>bP h2 (aa1 (c:=c) hi h hr hk);obtain⟨v,C_⟩:∃ v,c.order.getD i default=v:=⟨_,rfl⟩;rw[C_]at Rt hno acX hok;have c1:=EE v.kind v.n v.s Rt.2;rw[show (⟨v.kind,v.n,v.s⟩:ez)=v from rfl]at c1;cases Lf:bZ v;all_goals rw[Lf]at c1
    ·repeat' first|simp (disch:=omega) only[go_sem,aC,aD,aE,C_]|refine aG ?_|refine aF ?_ ?_<;>intro hw<;>try omega|fail
     all_goals (refine aS ?_ rfl;rw[hno (.inl Lf)])
    ·repeat' first|simp (disch:=omega) only[go_sem,aC,aD,aE,C_]|refine aG ?_|refine aF ?_ ?_<;>intro hw<;>try omega|fail
     ·refine aS ?_ rfl;rw[hno (.inr (by simp_all))]
     with_reducible refine bX [4,6,38,39,40,41,42,43,44,45,46,47,48,49,50,51,52,53] (fun k:Nat=>[(6,I k)]) (fun _=>[.cells [.str c.name,I c.kind,.aO false EV (c.order.map fD)]]) (fun k=>k<=i/\ ∀ j,j<k->(c.order.getD j default==v)=false) (fun k=>i-k) (0) ?_ ?_ ?_ ?_
     ·simp
     ·rfl
     ·exact at_
     rintro k r2 ⟨g1,g2⟩;by_cases hk:k<i
     ·have hdk:=acX k hk;have U3:=bP (i:=k) g2;obtain⟨u,acY⟩:∃ u,c.order.getD k default=u:=⟨_,rfl⟩;rw[acY]at hdk U3;have hb:=D4 u v;repeat' first|simp (disch:=omega) only[go_sem,aC,aD,aE,C_,acY]|refine aG ?_|refine aF ?_ ?_<;>intro hw<;>try omega|fail
      ·refine aS ?_ rfl;rw[hdk (by rw[hb];simp_all)]
      ·refine⟨k+1,?_,?_,by first|rfl|(simp[go_sem];done),da,at_⟩<;>(try dsimp only)
       ·exact⟨by omega,U3 (by rw[hb,<-Bool.not_eq_true];simp_all)⟩
       ·omega
     ·repeat' first|refine aG ?_|refine aF ?_ ?_<;>intro hw<;>try omega|fail
      refine⟨i+1,?_,?_,by first|rfl|(simp[go_sem];done),da,at_⟩<;>(try dsimp only)
      ·exact⟨by omega,hok (fun j hj=>g2 j (by omega)) Lf (by simp_all)⟩
      ·omega
   ·repeat' first|refine aG ?_|refine aF ?_ ?_<;>intro hw<;>try omega|fail
    all_goals (refine aS ?_ rfl;rw[HG (fun k hk=>h2 k (by omega))];refine congrArg AV.bool ?_;rw[a_];simp_all)
    all_goals (try omega)
def jO(l:List cV)(b:Bool): Int:=if jq l≠0 then jq l else if l.length=0\/(l.any fun c=> !(iT c b))=true then 17 else 0
def F5(c:cV)(b:Bool)(h:tI c): aM aK 229 [bu c,.dY E1 (.bool b) 0] (.bool (!(iT c b))):=by
 have h1:=Ol c b h;simp only[bu,dh]at h1 ⊢;generalize iT c b=o at *;refine aR BL ?_;intro Q aC aD aE;repeat' first|refine aG ?_|refine aF ?_ ?_<;>intro hw<;>try omega|fail
 all_goals exact aS rfl rfl
def zC(l:List cV)(b:Bool)(hl:l.length<=2 ^ 60)(h:∀ c ∈ l,tI c): aM aK 186 [cH l,.bool b] (I (jO l b)):=by
 have h1:=JA l (fun k hk=>(h _ (bH hk)).1);have h2:=vL 229 [.dY E1 (.bool b) 0] rfl (fun c=> !(iT c b)) l (fun k hk=>F5 _ b (h _ (bH hk))) (by omega);have hS:jO l b=if jq l≠0 then jq l else if l.length=0\/(l.any fun c=> !(iT c b))=true then 17 else 0:=rfl
 rw[hS];clear hS;simp only[cH]at h1 h2 ⊢;generalize (l.any fun c=> !(iT c b))=an at *;generalize jq l=cs at *;refine aR Em ?_;intro Q aC aD aE;repeat' first|refine aG ?_|refine xj h2 ?_|refine aF ?_ ?_<;>intro hw<;>try omega|fail
 all_goals (refine aS ?_ rfl;refine congrArg I ?_;simp_all[<-List.length_eq_zero_iff])
 all_goals (try omega)
def jr(t:Table): Bool :=
 if t.aL<1\/6<t.aL then false else if t.agg=0 then true
 else if t.aL≠5\/t.agg<1\/4<t.agg\/t.outs.length≠1 then false
 else decide (t.agg=4\/(t.outs.getD 0 default).kind=1\/(t.outs.getD 0 default).kind=2/\t.agg≠1)
def iC(t:Table): Int :=
 if fh t.name=false then 13 else if jO t.ins false≠0 then jO t.ins false
 else if jO t.outs (decide (t.aL=3))≠0 then jO t.outs (decide (t.aL=3))
 else if jr t=false then 17 else if 24<t.rules.length then 24 else 0
def j8(t:Table): Prop:=t.name.length<=2 ^ 30/\(t.ins.length<=2 ^ 30/\ ∀ c ∈ t.ins,tI c)/\(t.outs.length<=2 ^ 30/\ ∀ c ∈ t.outs,tI c) /\
 t.rules.length<=2 ^ 30/\ ∀ r ∈ t.rules,(r.cells.length<=2 ^ 30/\ ∀ s ∈ r.cells,s.length<=2 ^ 30)/\r.outs.length<=2 ^ 30/\ ∀ s ∈ r.outs,s.length<=2 ^ 30
def HI{l:List cV}(h:jq l=0){i:Nat}(hi:i<l.length): 1<=(l.getD i default).kind/\(l.getD i default).kind<=3:=by
 by_cases h6:6<l.length
 ·unfold jq at h;rw[if_pos h6]at h;omega
 ·by_cases hc:∀ k,k<l.length->o9 l k=0
  ·have:=hc i hi;unfold o9 at this;split at this
   ·omega
   ·split at this
    ·omega
    ·omega
  ·exfalso;unfold jq at h;rw[if_neg h6]at h;split at h
   ·rename_i j hj;have:=dW hj;simp[h]at this
   ·rename_i hn;apply hc;intro k hk;have:=dA.1 hn k (by simpa using hk);simpa using this
def yq{l:List cV}{b:Bool}(h:jO l b=0): jq l=0/\0<l.length:=by
 unfold jO at h;split at h
 ·omega
 ·split at h
  ·omega
  ·rename_i h1 h2;refine⟨by omega,?_⟩;rcases Nat.eq_zero_or_pos l.length with h3|h3
   ·exact absurd (.inl h3) h2
   ·exact h3
def Mw(t:Table)(ho:jq t.outs=0): aM aK 187 [dS t] (.bool (jr t)):=by
 have hk:=fun h=>HI ho (i:=0) h;have hS:jr t=if t.aL<1\/6<t.aL then false else if t.agg=0 then true else if t.aL≠5\/t.agg<1\/4<t.agg\/t.outs.length≠1 then false else decide (t.agg=4\/(t.outs.getD 0 default).kind=1\/(t.outs.getD 0 default).kind=2/\t.agg≠1):=rfl
 rw[hS];clear hS ho;simp only[dS,gQ,cH,eA];obtain⟨c,acZ⟩:∃ c,t.outs.getD 0 default=c:=⟨_,rfl⟩;rw[acZ]at hk ⊢;refine aR FM ?_;intro Q aC aD aE;repeat' first|simp (disch:=omega) only[go_sem,aC,aD,aE,acZ]|refine aG ?_|refine aF ?_ ?_<;>intro hw<;>try omega|fail
 all_goals (refine aS ?_ rfl;refine congrArg AV.bool ?_;rw[a_];simp_all)
 all_goals (try omega)
def Om(t:Table)(h:j8 t): aM aK 152 [dS t] (I (iC t)):=by
 obtain⟨h1,h2,h3,h4,_⟩:=h;have c1:=uy t.name (by omega);have c2:=zC t.ins false (by omega) h2.2;have c3:=zC t.outs (decide (t.aL=3)) (by omega) h3.2;have c4:jO t.outs (decide (t.aL=3))=0->aM aK 187 [dS t] (.bool (jr t)):=fun hb=>Mw t (yq hb).1;have hS:iC t=if fh t.name=false then 13 else if jO t.ins false≠0 then jO t.ins false else if jO t.outs (decide (t.aL=3))≠0 then jO t.outs (decide (t.aL=3))else if jr t=false then 17 else if 24<t.rules.length then 24 else 0:=rfl
 rw[hS];clear hS;simp only[dS,gQ,cH,eA]at c2 c3 c4 ⊢;generalize fh t.name=n at *;generalize jO t.ins false=a at *;generalize jO t.outs (decide (t.aL=3))=b at *;generalize jr t=p at *;by_cases hb:b=0
 ·have c5:=c4 hb;clear c4;refine aR yc ?_;intro Q aC aD aE;repeat' first|refine aG ?_|refine aF ?_ ?_<;>intro hw<;>try omega|fail
  all_goals (refine aS ?_ rfl;refine congrArg I ?_;simp_all)
  all_goals (try omega)
 ·clear c4;refine aR yc ?_;intro Q aC aD aE;repeat' first|refine aG ?_|refine aF ?_ ?_<;>intro hw<;>try omega|fail
  all_goals first
   | exact bK
   |(refine aS ?_ rfl;refine congrArg I ?_;simp_all;done)
   |(refine aS ?_ rfl;refine congrArg I ?_;simp_all;omega)
def V7{T:List Tok}(hT:yX T)(hl:T.length<=2 ^ 20)(p:Nat)(b:Bool): C5 (fU T p b).t:=by
 have hx:∀ p b,jD (jd T p b).x/\fT (jd T p b).x<=2 ^ 30:=fun p b=>⟨(AK hT p b).1,by have:=(AK hT p b).2;omega⟩;have h0:jD x0/\fT x0<=2 ^ 30:=⟨rj,by simp[x0,fT,mA]⟩;have h1:∀ k p b,C5 (rT k (jd T p b)).t:=fun k p b=>⟨hx p b,h0⟩;have h2:∀ lo,C5 (K8 T p lo).t:=fun lo=>⟨hx _ _,hx _ _⟩;unfold fU;split
 ·exact h1 _ _ _
 split
 ·exact h1 _ _ _
 split
 ·exact h1 _ _ _
 split
 ·exact h1 _ _ _
 split
 ·exact h2 _
 split
 ·exact h2 _
 ·exact h1 _ _ _
def V8{T:List Tok}(hT:yX T)(hl:T.length<=2 ^ 20)(f:Nat): ∀(acc:List Test) (p:Nat) (b:Bool),(∀ t ∈ acc,C5 t)->(∀ t ∈ (ri T f acc p b).ts,C5 t)/\(ri T f acc p b).ts.length<=acc.length+f:=by
 induction f with
 | zero=>intro acc p b h;exact⟨h,Nat.le_refl _⟩
 | succ f ih =>
   intro acc p b h
   have h2:∀ t ∈ acc++[(fU T p b).t],C5 t:=fun t ht=>by
    rcases List.mem_append.1 ht with ht|ht
    ·exact h t ht
    ·simp only[List.mem_cons,List.not_mem_nil,or_false]at ht;subst ht;exact V7 hT hl p b
   rw[uT];split
   ·have:=ih _ ((fU T p b).p+1) (fU T p b).bad h2;rw[aA,List.length_cons,List.length_nil]at this;exact⟨this.1,by omega⟩
   ·exact⟨h2,by rw[aA,List.length_cons,List.length_nil];omega⟩
def Tp(s:aI): yZ (kX s).1:=by
 have h:yZ ⟨false,qJ (bN s).1,(j7 (bN s).1).ts⟩:=by
  have hf:=(oB s).1;have:=V8 (wP s) (by omega) ((bN s).1.length+1) [] (Rn (bN s).1) false (fun t ht=>by cases ht);unfold j7 yZ;rw[Rq];exact⟨by have:=this.2;simp only[List.length_nil]at this;dsimp only;omega,this.1⟩
 have h0:yZ c0:=⟨Nat.zero_le _,fun t ht=>by cases ht⟩;have h1:yZ FY:=⟨Nat.zero_le _,fun t ht=>by cases ht⟩;unfold kX;repeat' split
 all_goals first|exact h0|exact h1|exact h
def Lg(s:aI): jD (jw s).1/\fT (jw s).1<=2 ^ 30:=by
 have h:jD (iw (bN s).1 0 0).1/\fT (iw (bN s).1 0 0).1<=2 ^ 30:=by
  have hf:=(oB s).1;have:=FV (bN s).1 0 0;exact⟨N9 (wP s) _ _,by omega⟩
 have h0:jD x0/\fT x0<=2 ^ 30:=⟨rj,by simp[x0,fT,mA]⟩;unfold jw;repeat' split
 all_goals first|exact h0|exact h
def On(t:Table)(k:Nat)(s:aI): Cell × Int:=((kX s).1,if(kX s).2.2=0 then yY t.ins (t.ins.getD k default).kind (kX s).1 else(kX s).2.2)
def HJ(t:Table)(k:Nat)(s:aI): Expr × Int:=((jw s).1,if(jw s).2.2≠0 then(jw s).2.2 else if(jU t.ins (jw s).1).2=0/\kE (jU t.ins (jw s).1).1 (t.outs.getD k default).kind=false then 14 else(jU t.ins (jw s).1).2)
def Tq(t:Table)(k:Nat)(s:aI)(ht:t.ins.length<=2 ^ 30)(hk:k<t.ins.length)(hs:s.length<=2 ^ 30): aM aK 188 [dS t,I k,.str s] (.bU [dI (On t k s).1,I (On t k s).2]):=by
 have c1:=Td s hs;have c2:=Tf t.ins (by omega) (t.ins.getD k default).kind (kX s).1 (VN s);have hS:On t k s=((kX s).1,if(kX s).2.2=0 then yY t.ins (t.ins.getD k default).kind (kX s).1 else(kX s).2.2):=rfl;rw[hS];clear hS;dsimp only;obtain⟨cc,gy⟩:∃ c,t.ins.getD k default=c:=⟨_,rfl⟩;rw[gy]at c2 ⊢;generalize yY t.ins cc.kind (kX s).1=ty at *;generalize kX s=P at *;obtain⟨c,n,e⟩:=P;dsimp only at c1 c2 ⊢;simp only[eC3]at c1;obtain⟨C,hC⟩:∃ C,dI c=C:=⟨_,rfl⟩;have hC2:C = .agg [.bool c.any,.bool c.neg,.aO false ES (c.tests.map dH)]:=by rw[<-hC];rfl
 simp only[dI,jL,dS,gQ,cH,eA]at c1 c2 ⊢;refine aR Mn ?_;intro Q aC aD aE;repeat' first|simp (disch:=omega) only[go_sem,aC,aD,aE,gy]|refine aG ?_|refine aF ?_ ?_<;>intro hw<;>try omega|fail
 all_goals (refine cj ?_ (by simp);simp_all)
def Qe(t:Table)(k:Nat)(s:aI)(ht:t.ins.length<=2 ^ 30)(ho:t.outs.length<=2 ^ 30)(hk:k<t.outs.length)(hs:s.length<=2 ^ 30): aM aK 189 [dS t,I k,.str s] (.bU [bg (HJ t k s).1,I (HJ t k s).2]):=by
 have c1:=NW s hs;have hp:=Lg s;have c2:=xu t.ins (by omega) (jw s).1 hp.1 (by have:=hp.2;omega);have c3:=oW (jU t.ins (jw s).1).1 (t.outs.getD k default).kind;have hS:HJ t k s=((jw s).1,if(jw s).2.2≠0 then(jw s).2.2 else if(jU t.ins (jw s).1).2=0/\kE (jU t.ins (jw s).1).1 (t.outs.getD k default).kind=false then 14 else(jU t.ins (jw s).1).2):=rfl;rw[hS];clear hS hp;dsimp only;obtain⟨cc,gy⟩:∃ c,t.outs.getD k default=c:=⟨_,rfl⟩;rw[gy]at c3 ⊢;generalize kE (jU t.ins (jw s).1).1 cc.kind=fi at *;generalize jU t.ins (jw s).1=ki at *;generalize jw s=P at *;obtain⟨x,n,e⟩:=P;dsimp only at c1 c2 ⊢;simp only[K0]at c1;rw[bG]at c1 c2 ⊢;simp only[dG,dS,gQ,cH,eA]at c1 c2 ⊢;refine aR Jn ?_;intro Q aC aD aE;repeat' first|simp (disch:=omega) only[go_sem,aC,aD,aE,gy]|refine aG ?_|refine aF ?_ ?_<;>intro hw<;>try omega|fail
 all_goals (refine cj ?_ (by simp);simp_all)
