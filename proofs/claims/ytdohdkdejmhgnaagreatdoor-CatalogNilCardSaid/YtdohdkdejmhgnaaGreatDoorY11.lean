/- Part. -/
import Derived.Test.YtdohdkdejmhgnaaGreatDoorY10
import Derived.RecoverIn
set_option linter.all false
set_option maxHeartbeats 1000000
namespace Go.Proofs.YtdohdkdejmhgnaaGreatDoor
open Go.AM
set_option maxRecDepth 4000
def P2(l:List jC): bj × Int:=if l.all gZ then(B7 l,0)else ([],2)
def Xu{l:List jC}{i:Nat}(hi:i<l.length)(x:bj): x++(l.take (i+1)).flatMap mU=(x++(l.take i).flatMap mU)++mU (l.getD i default):=by
 rw[take_succ hi,List.flatMap_append];simp
def Xv(l:List jC)(hl:Xp l): aA aM 158 [j_ l] (.bg [.str (P2 l).1,I (P2 l).2]):=by
 obtain⟨hl1,hl2⟩:=hl;have h1:=mV l.length ⟨ae,ae⟩;have h2:=jK l.length;obtain⟨E,hE⟩:=gi (P2 l);rw[hE];unfold P2 B7 at hE;generalize ku l.length=x at *;simp only[j_];refine bB OU ?_;intro Q aX aY aZ;repeat' first|refine aQ ?_|refine aR ?_ ?_<;>intro hw<;>try omega|fail
 with_reducible refine dA [2,3,6,3,14,16] (fun q:Nat × List bG=>[(14,I q.1),(4,.str (x++(l.take q.1).flatMap mU))]) (fun q=>q.2) (fun q=>q.1<=l.length/\(∀ k,k<q.1->gZ (l.getD k default)=true)/\x.length+((l.take q.1).flatMap mU).length<=10+q.1*2147483648) (fun q=>l.length-q.1) ((0,[])) ?_ ?_ ?_ ?_
 ·simp;omega
 ·rfl
 ·simp only[List.take_zero,List.flatMap_nil,cI];exact at_
 rintro⟨i,H⟩ r ⟨g1,g2,g3⟩;dsimp only at g1 g2 g3;by_cases hi:i<l.length
 ·have hv:=hl2 _ (dh hi);have hne:=fun h=>KV (p:=gZ) hi h;have fF:=fun he=>cS (q:=fun k=>gZ (l.getD k default)=true) g2 (i:=i) he;have qD:=Xu hi x;obtain⟨v,hve⟩:=gi (l.getD i default);rw[hve]at hv hne fF qD;have h3:=RC v.kind v.n v.s hv.1 ae;have Pf:=JL v;have ev:xL ⟨v.kind,v.n,v.s⟩=xL v:=rfl;rw[ev]at h3;unfold xL at h3;obtain⟨y,hy⟩:=gi (x++(l.take i).flatMap mU);have VZ:y.length=x.length+((l.take i).flatMap mU).length:=by rw[<-hy,aG]
  have hsl:=bC List.length qD;rw[hy]at qD;simp only[aG]at hsl;have alv:((y.length+(mU v).length:Nat):Int)<=IntKind.i64.max:=by show _<=(9223372036854775807:Int);omega
  generalize gZ v=b at *;cases b
  ·simp only[aN,if_false]at h3;rw[hne rfl]at hE;simp only[aN,if_false]at hE;repeat' first|refine fy (zA hve hy) ?_|refine aQ ?_|refine aR ?_ ?_<;>intro hw<;>try omega|fail
   all_goals first|exact eu|(exact c6 (by rw[<-hE]) rfl)
  simp only[if_true]at h3;repeat' first|refine fy (zA hve hy) ?_|refine aQ ?_|refine aR ?_ ?_<;>intro hw<;>try omega|fail
  all_goals first
   | exact eu
   | (refine ⟨(i + 1, H ++ [bG.cells [I v.kind, I v.n, .str v.s]]), ?_, ?_, ?_, fU, ?_⟩
      ·refine⟨by dsimp only;omega,fF rfl,?_⟩;dsimp only;omega
      ·dsimp only;omega
      ·first|rfl|(simp[go_sem];done)
      ·dsimp only;rw[qD];exact at_)
 have ht:l.take i=l:=cM ae;rw[KU (fun k hk=>g2 k ae),aB rfl]at hE;repeat' first|refine fy ht ?_|refine aQ ?_|refine aR ?_ ?_<;>intro hw<;>try omega|fail
 exact c6 (by rw[<-hE]) rfl
def K3{α : Type}[Inhabited α](f : α->bj){l:List α}{i:Nat}(hi:i<l.length)(x:bj): x++(l.take (i+1)).flatMap f=(x++(l.take i).flatMap f)++f (l.getD i default):=by
 rw[take_succ hi,List.flatMap_append];simp
def EI(c:fh): Prop:=c.name.length<=2^30/\rE c.kind/\c.order.length<=8/\ ∀ v ∈ c.order,gZ v=true/\rE v.n
def K4(l:List bj): Prop:=l.length<=6/\ ∀ s ∈ l,s.length<=2^30
def aeN(t:Table): Prop:=t.name.length<=2^30/\rE t.dF/\rE t.agg/\(t.ins.length<=6/\ ∀ c ∈ t.ins,EI c)/\(t.outs.length<=6/\ ∀ c ∈ t.outs,EI c)/\t.rules.length<=24/\ ∀ r ∈ t.rules,K4 r.cells/\K4 r.outs
def Xw{c:fh}(h:EI c): Xp c.order/\c.order.all gZ=true:=by
 refine⟨⟨by have:=h.2.2.1;omega,fun v hv=>⟨(h.2.2.2 v hv).2,by have:=PY (h.2.2.2 v hv).1;omega⟩⟩,bt.2 fun v hv=>(h.2.2.2 v hv).1⟩
def aeO{t:Table}(ok:qt t)(h:(jk t).2.2.2=0): aeN t:=by
 obtain⟨h5,_,_⟩:=Rz h;obtain⟨hf,hl,_⟩:=B4 h5
 have hn:jb t.name=true:=by
  unfold lz at hf;split at hf
  ·omega
  rename_i hh;simpa using hh
 obtain⟨p1,p2,p3,p4⟩:nU t.ins false=0/\nU t.outs (decide (t.dF=3))=0/\qp t=true/\t.rules.length<=24:=by
  unfold lz at hf;rw[hn,aq aT]at hf;split at hf
  ·contradiction
  split at hf
  ·contradiction
  split at hf
  ·cases hf
  split at hf
  ·cases hf
  rename_i a b c d;exact⟨by simpa using a,by simpa using b,by simpa using c,ae⟩
 obtain⟨i1,i2,i3⟩:=PX p1;obtain⟨o1,o2,o3⟩:=PX p2;have pp:=RA p3;have hi:=MH i1;have ho:=MH o1
 have hc:∀ (b:Bool) (c:fh),(jb c.name=true/\1<=c.kind/\c.kind<=3)->lu c b=true->wD c->EI c:=fun b c q1 q2 q3=>by
  have w1:=PW q1.1;have w2:=UN q2 q3;exact⟨ae,⟨ae,ae⟩,w2.2⟩
 refine⟨by have:=PW hn;omega,⟨ae,ae⟩,⟨ae,ae⟩,⟨hi.1,fun c hm=>hc false c (hi.2 c hm) (i3 c hm) (ok.2.1.2 c hm)⟩,⟨ho.1,fun c hm=>hc _ c (ho.2 c hm) (o3 c hm) (ok.2.2.1.2 c hm)⟩,p4,fun r hr=>?_⟩;obtain⟨j,hj,rfl⟩:=bY hr;have e:t.rules[j]=t.rules.getD j default:=by rw[aj,aJ hj];rfl
 have hz:=hl j hj;unfold lV at hz;rw[<-e]at hz;obtain⟨z1,z2,_⟩:=UL hz;have ro:=ok.2.2.2.2 _ hr;exact⟨⟨by have:=hi.1;omega,ro.1.2⟩,⟨by have:=ho.1;omega,ro.2.2⟩⟩
def yZ(s:bj): (iR s).length<=10+s.length:=by unfold iR;have:=jK s.length;rw[List.length_append];omega
def Z0{l:List jC}(hl:l.length<=8)(h:∀ v ∈ l,gZ v=true): (B7 l).length<=1000:=by
 have h1:=jK l.length
 have h2:(l.flatMap mU).length<=70*l.length:=by
  clear h1 hl
  induction l with
  | nil=>simp
  | cons v l ih =>
    have a1:=JL v;have a2:=PY (h v aT);have a3:=ih (fun w hw=>h w (by simp[hw]));rw[List.flatMap_cons,aG,aE];omega
 unfold B7;rw[List.length_append];omega
def MI(o:Bool){c:fh}(h:EI c): (ux o c).length<=1073750000:=by
 have h1:=yZ c.name;have h2:=jK c.kind;have h3:=Z0 h.2.2.1 (fun v hv=>(h.2.2.2 v hv).1);have h4:=h.1;unfold ux;simp only[aG];cases o
 ·simp;omega
 simp;omega
def Xx{α : Type}{f : α->bj}{b:Nat}: ∀ {l:List α},(∀ x ∈ l,(f x).length<=b)->(l.flatMap f).length<=l.length*b:=by
 intro l
 induction l with
 | nil=>intro _;simp
 | cons x l ih =>
   intro h;have a1:=h x aT;have a2:=ih (fun y hy=>h y (by simp[hy]));rw[List.flatMap_cons,aG,aE,bJ];omega
def MJ(o:Bool){l:List fh}(hl:l.length<=6)(h:∀ c ∈ l,EI c): (qu o l).length<=6442500010:=by
 have h1:=jK l.length;have h2:=Xx (f:=ux o) (fun c hc=>MI o (h c hc));unfold qu;rw[List.length_append];omega
def y5{l:List bj}(h:K4 l): (l.flatMap iR).length<=6442451004:=by
 have h2:=Xx (f:=iR) (l:=l) (b:=1073741834) (fun s hs=>by have:=yZ s;have:=h.2 s hs;omega);have:=h.1;omega
def K5(c:fh): aA aM 118 [dS c] (.str []):=by
 refine bB Gc ?_;intro Q aX aY aZ;repeat' first|refine aQ ?_|refine aR ?_ ?_<;>intro hw<;>try omega|fail
 exact bu rfl rfl
def P3(c:fh)(h:EI c): aA aM 119 [dS c] (.str (B7 c.order)):=by
 have hv:=Xw h;have h1:=Xv c.order hv.1;unfold P2 at h1;rw[hv.2,aB rfl]at h1;simp only[j_]at h1;simp only[dS,j_];refine bB Jd ?_;intro Q aX aY aZ;repeat' first|refine aQ ?_|refine aR ?_ ?_<;>intro hw<;>try omega|fail
 exact bu rfl rfl
def AL (l : List fh) (o : Bool) (F : FuncId) (hl : l.length <= 6) (h : ∀ c ∈ l, EI c) (hF : ∀ c ∈ l, aA aM F [dS c] (.str (if o then B7 c.order else []))) :
    aA aM 117 [ei l,.fn (.func F) [] []] (.str (qu o l)):=by
 have h1:=mV l.length ⟨ae,ae⟩;have h2:=jK l.length;obtain⟨E,hE⟩:=gi (qu o l);rw[hE];unfold qu at hE;generalize ku l.length=x at *;simp only[ei];refine bB Gb ?_;intro Q aX aY aZ;repeat' first|refine aQ ?_|refine aR ?_ ?_<;>intro hw<;>try omega|fail
 with_reducible refine dA [5,1,7,1,13,18] (fun q:Nat × List bG=>[(13,I q.1),(5,.str (x++(l.take q.1).flatMap (ux o)))]) (fun q=>q.2) (fun q=>q.1<=l.length/\x.length+((l.take q.1).flatMap (ux o)).length<=10+q.1*1073750000) (fun q=>l.length-q.1) ((0,[])) ?_ ?_ ?_ ?_
 ·simp;omega
 ·rfl
 ·simp only[List.take_zero,List.flatMap_nil,cI];exact at_
 rintro⟨i,H⟩ r ⟨g1,g3⟩;dsimp only at g1 g3;by_cases hi:i<l.length
 ·have hc:=h _ (dh hi);have hf:=hF _ (dh hi);have qD:=K3 (ux o) hi x;obtain⟨c,hce⟩:=gi (l.getD i default);rw[hce]at hc hf qD;have c1:=wF c.name (by have:=hc.1;omega);have c2:=mV c.kind hc.2.1;have Pf:=MI o hc;obtain⟨y,hy⟩:=gi (x++(l.take i).flatMap (ux o));have VZ:y.length=x.length+((l.take i).flatMap (ux o)).length:=by rw[<-hy,aG]
  have hsl:=bC List.length qD;rw[hy]at qD;simp only[aG]at hsl;have aeP:ux o c=iR c.name++ku c.kind++(if o then B7 c.order else []):=rfl;generalize iR c.name=u1 at *;generalize ku c.kind=u2 at *;generalize (if o then B7 c.order else [])=u3 at *;have yE:=bC List.length aeP;simp only[aG]at yE;have a1:((u1.length+u2.length:Nat):Int)<=IntKind.i64.max:=by show _<=(9223372036854775807:Int);omega
  have a2:(((u1++u2).length+u3.length:Nat):Int)<=IntKind.i64.max:=by rw[aG];show _<=(9223372036854775807:Int);omega
  have a3:((y.length+(u1++u2++u3).length:Nat):Int)<=IntKind.i64.max:=by simp only[aG];show _<=(9223372036854775807:Int);omega
  simp only[dS,j_]at hf;repeat' first|refine fy (zC hce hy a1 (zA a2 a3)) ?_|refine aQ ?_|refine aR ?_ ?_<;>intro hw<;>try omega|fail
  refine⟨(i+1,H++[bG.cells [.str c.name,I c.kind,.aH false EV (c.order.map nL)]]),?_,?_,?_,fU,?_⟩
  ·dsimp only;omega
  ·dsimp only;omega
  ·first|rfl|(simp[go_sem];done)
  dsimp only;rw[qD,aeP];exact at_
 have ht:l.take i=l:=cM ae;repeat' first|refine fy ht ?_|refine aQ ?_|refine aR ?_ ?_<;>intro hw<;>try omega|fail
 exact bu (by rw[<-hE]) rfl
def EJ(l:List bj)(h:K4 l): aA aM 120 [ji l] (.str (l.flatMap iR)):=by
 obtain⟨hl,hs⟩:=h;obtain⟨E,hE⟩:=gi (l.flatMap iR);rw[hE];simp only[ji];refine bB I7 ?_;intro Q aX aY aZ;repeat' first|refine aQ ?_|refine aR ?_ ?_<;>intro hw<;>try omega|fail
 with_reducible refine dA [3,1,5,1,8,9] (fun q:Nat=>[(8,I q),(3,.str ((l.take q).flatMap iR))]) (fun _=>[]) (fun q=>q<=l.length/\((l.take q).flatMap iR).length<=q*1073741834) (fun q=>l.length-q) (0) ?_ ?_ ?_ ?_
 ·simp
 ·rfl
 ·simp only[List.take_zero,List.flatMap_nil];exact at_
 rintro i r ⟨g1,g3⟩;by_cases hi:i<l.length
 ·have hs1:=hs _ (dh hi);have qD:=K3 iR hi [];simp only[gj]at qD;obtain⟨s,hse⟩:=gi (l.getD i default);rw[hse]at hs1 qD;have c1:=wF s ae;have Pf:=yZ s;obtain⟨y,hy⟩:=gi ((l.take i).flatMap iR);rw[hy]at qD g3;have a1:((y.length+(iR s).length:Nat):Int)<=IntKind.i64.max:=by show _<=(9223372036854775807:Int);omega
  have hg:(List.map fG l).getD i .undef = .str s:=by rw[getD_map _ _ _ hi,hse];rfl
  repeat' first|refine fy (zC hse hy a1 hg) ?_|refine aQ ?_|refine aR ?_ ?_<;>intro hw<;>try omega|fail
  refine⟨i+1,?_,?_,?_,fU,?_⟩
  ·refine⟨ae,?_⟩;rw[qD,aG];omega
  ·dsimp only;omega
  ·first|rfl|(simp[go_sem];done)
  dsimp only;rw[qD];exact at_
 have ht:l.take i=l:=cM ae;repeat' first|refine fy ht ?_|refine aQ ?_|refine aR ?_ ?_<;>intro hw<;>try omega|fail
 exact bu (by rw[<-hE]) rfl
def tU{a b:Nat}(h:a+b<=9223372036854775807): ((a+b:Nat):Int)<=IntKind.i64.max:=by show _<=(9223372036854775807:Int);omega
def FR(t:Table): bj:=iR t.name++ku t.dF++ku t.agg++qu false t.ins++qu true t.outs++ku t.rules.length
def Z1(t:Table): UM t=FR t++t.rules.flatMap oB:=rfl
def Xy{t:Table}(h:aeN t): (FR t).length<=17179869184:=by
 have h1:=yZ t.name;have h2:=jK t.dF;have h3:=jK t.agg;have h4:=MJ false h.2.2.2.1.1 h.2.2.2.1.2;have h5:=MJ true h.2.2.2.2.1.1 h.2.2.2.2.1.2;have h6:=jK t.rules.length;have h7:=h.1;unfold FR;simp only[List.length_append];omega
def Xz{r:gX}(h:K4 r.cells/\K4 r.outs): (oB r).length<=12884902008:=by
 have h1:=y5 h.1;have h2:=y5 h.2;unfold oB;rw[List.length_append];omega
def eB(p:bj × Int): AV:= .bg [.str p.1,I p.2]
abbrev aeQ(t:Table): bG:= .cells [.str t.name,.aH false EC (t.ins.map dS),.aH false EC (t.outs.map dS),I t.dF,I t.agg,.aH false ER (t.rules.map gG)]
def P4(t:Table)(ok:qt t): aA aM 54 [fV t] (eB (JK t)):=by
 obtain⟨E,hE⟩:=gi (JK t);rw[hE];unfold JK at hE;have c1:=EE t ok;have c2:=Rv (jk t).1 t (ZN ok) (Xo ok);have hb:=fun h=>aeO ok h;obtain⟨C,hC⟩:=gi (jk t);rw[hC]at c1 c2 hE hb;obtain⟨C,m1,m2,e⟩:=C;dsimp only at hE c2 hb;simp only[eT4,fV,kI,ei,jj]at c1 c2 |-;by_cases he:e≠0
 ·rw[aB he]at hE;refine bB sj ?_ (by simp[eB]);intro Q aX aY aZ;repeat' first|refine aQ ?_|refine aR ?_ ?_<;>intro hw<;>try omega|fail
  all_goals first|exact eu|exact c6 (by rw[<-hE]) rfl
 rw[aq he]at hE;obtain rfl:e=0:=ae;cases hs:AH C t with
 | false =>
   rw[hs]at hE c2;rw[aB rfl]at hE;refine bB sj ?_ (by simp[eB]);intro Q aX aY aZ;repeat' first|refine aQ ?_|refine aR ?_ ?_<;>intro hw<;>try omega|fail
   all_goals first|exact eu|exact c6 (by rw[<-hE]) rfl
 | true =>
 rw[hs]at hE c2;rw[aq aT,Z1]at hE;have h:=hb rfl;have hl:=Xy h;have hd:FR t=iR t.name++ku t.dF++ku t.agg++(qu false t.ins++qu true t.outs++ku t.rules.length):=by unfold FR;simp only[List.append_assoc]
 obtain⟨b1,b2,b3,b4,b5,b6,b7⟩:=h;have k1:=wF t.name ae;have k2:=mV t.dF b2;have k3:=mV t.agg b3;have k4:=AL t.ins false 118 b4.1 b4.2 (fun c _=>K5 c);have k5:=AL t.outs true 119 b5.1 b5.2 (fun c hc=>P3 c (b5.2 c hc));have k6:=mV t.rules.length ⟨ae,ae⟩;generalize FR t=x at *;generalize iR t.name=u1 at *;generalize ku t.dF=u2 at *;generalize ku t.agg=u3 at *;generalize qu false t.ins=u4 at *;generalize qu true t.outs=u5 at *;generalize ku t.rules.length=u6 at *;have yE:=bC List.length hd;simp only[aG]at yE;have a1:=tU (a:=u1.length) (b:=u2.length) ae;have a2:=tU (a:=(u1++u2).length) (b:=u3.length) (by simp only[aG];omega);have a3:=tU (a:=u4.length) (b:=u5.length) ae;have a4:=tU (a:=(u4++u5).length) (b:=u6.length) (by simp only[aG];omega);have a5:=tU (a:=(u1++u2++u3).length) (b:=(u4++u5++u6).length) (by simp only[aG];omega);have hd':=hd.symm;clear hd;simp only[ei]at k4 k5;refine bB sj ?_ (by simp[eB]);intro Q aX aY aZ;repeat' first|refine fy (zC a1 a2 a3 (zB a4 a5 hd')) ?_|refine aQ ?_|refine aR ?_ ?_<;>intro hw<;>try omega|fail
 all_goals first|exact eu|skip
 with_reducible refine dA [8,1,10,1,55,14] (fun q:Nat × List bG=>[(55,I q.1),(8,.str (x++(t.rules.take q.1).flatMap oB))]) (fun q=>aeQ t::aeQ C::q.2) (fun q=>q.1<=t.rules.length/\x.length+((t.rules.take q.1).flatMap oB).length<=17179869184+q.1*12884902008) (fun q=>t.rules.length-q.1) ((0,[])) ?_ ?_ ?_ ?_
 ·simp;omega
 ·rfl
 ·simp only[List.take_zero,List.flatMap_nil,cI];exact at_
 rintro⟨i,H⟩ r ⟨g1,g3⟩;dsimp only at g1 g3;by_cases hi:i<t.rules.length
 ·have hr:=b7 _ (dh hi);have qD:=K3 oB hi x;obtain⟨ru,hre⟩:∃ c,t.rules.getD i default=c:=⟨_,rfl⟩;rw[hre]at hr qD;have En:=Xz hr;obtain⟨y,hy⟩:=gi (x++(t.rules.take i).flatMap oB);have VZ:y.length=x.length+((t.rules.take i).flatMap oB).length:=by rw[<-hy,aG]
  have hsl:=bC List.length qD;rw[hy]at qD;simp only[aG]at hsl;have hrd:oB ru=ru.cells.flatMap iR++ru.outs.flatMap iR:=rfl;have d1:=EJ ru.cells hr.1;have d2:=EJ ru.outs hr.2;have f1:=y5 hr.1;have f2:=y5 hr.2;generalize ru.cells.flatMap iR=v1 at *;generalize ru.outs.flatMap iR=v2 at *;have e1:=tU (a:=v1.length) (b:=v2.length) ae;have e2:=tU (a:=y.length) (b:=(v1++v2).length) (by simp only[aG];omega);simp only[ji]at d1 d2;repeat' first|refine fy (zC hre hy e1 e2) ?_|refine aQ ?_|refine aR ?_ ?_<;>intro hw<;>try omega|fail
  refine⟨(i+1,H++[bG.cells [.aH false E1 (ru.cells.map fG),.aH false E1 (ru.outs.map fG)]]),?_,?_,?_,fU,?_⟩
  ·dsimp only;omega
  ·dsimp only;omega
  ·first|rfl|(simp[go_sem];done)
  dsimp only;rw[qD,hrd];exact at_
 have ht:t.rules.take i=t.rules:=cM ae;rw[ht]at g3;have hxl:(x++t.rules.flatMap oB).length=x.length+(t.rules.flatMap oB).length:=aG;by_cases hbig:1400<(x++t.rules.flatMap oB).length
 ·rw[aB hbig]at hE;obtain⟨z,hz⟩:=gi (x++t.rules.flatMap oB);rw[hz]at hbig hxl;repeat' first|refine fy (zA ht hz) ?_|refine aQ ?_|refine aR ?_ ?_<;>intro hw<;>try omega|fail
  exact c6 (by rw[<-hE]) rfl
 rw[aq hbig]at hE;obtain⟨z,hz⟩:=gi (x++t.rules.flatMap oB);rw[hz]at hbig hxl hE;repeat' first|refine fy (zA ht hz) ?_|refine aQ ?_|refine aR ?_ ?_<;>intro hw<;>try omega|fail
 exact c6 (by rw[<-hE]) rfl
end Go.Proofs.YtdohdkdejmhgnaaGreatDoor
namespace Go.AM
variable {P:Program}
def sD: FrameMode->FrameMode
 | .panicking ({ v,recovered:=false,goexit:=false }::older)=> .panicking ({ v,recovered:=true }::older)
 | u=>u
def y6(g:aC)(w:World): Option AV->FrameMode->Prop
 | none,u=>u = .returning
 | some a,u=> ∃ v,u = .panicking [{ v,recovered:=false }]/\VR g w a v
def tV(P:Program)(n:FuncId)(args:List AV)(pv:Option AV)(σ : ai)(R:ai->Prop): Prop :=
 Has P n/\ ∀(g:aC) (w:World) (vs:Array Value) (u:FrameMode),Rel g w σ->args.length=vs.size->(∀ i,i<args.length->VR g w (args.getD i .undef) (vs.getD i Go.undef))->y6 g w pv u ->
  CallsDIn (WF none) 0 P n vs u w fun e u' w'=> ∃ g' σ' v,e = .returned v/\u'=sD u/\Rel g' w' σ'/\ep σ g w σ' g' w'/\R σ'
structure B8 where
 nt:Nat
 k:Nat
 SL:List (AX × Option Nat)
 rest:cQ
def qv(nt:Nat): List Oper->Option (List (AX × Option Nat))
 | []=>some []
 | o :: r => match o.op, o.guard with
   | .assign x, none => match cX nt x, qv nt r with
     | some ax,some l=>some ((ax,o.dst)::l)
     | _,_=>none
   | .move x, none => match cX nt x, qv nt r with
     | some ax,some l=>some ((ax,o.dst)::l)
     | _,_=>none
   | _,_=>none
def y7(o:Oper): Option Nat:=match o.op,o.guard with
 | .call c, none => match c.callee with
   | .builtin .recover=>o.dst
   | _=>none
 | _,_=>none
def HS(P:Program)(h:Hints)(fn:Func): Option B8 :=
 match fn.body,fn.results.toList with
 | some (.seq (.region _ ops false) b), [] => match ops.toList with
   | o :: r => match y7 o, qv fn.ntmps r, cj P fn.ntmps h false b with
     | some k,some l,some c=>if c.mh=false then some ⟨fn.ntmps,k,l,c⟩else none
     | _,_,_=>none
   | []=>none
 | _,_=>none
def K6: List (AX × Option Nat)->(Env->Prop)->Env->Prop
 | [],K,e=>K e
 |(x,d)::r,K,e=>K6 r K (cZ e d (x.ev e))
def vB(R:ai->Prop): AQ
 | .normal,_,σ=>R σ
 | .ret,_,σ=>R σ
 | _,_,_=>False
def B8.wp(P:Program)(f:B8)(pv:Option AV)(R:ai->Prop)(e:Env)(σ : ai): Prop:=K6 f.SL (fun e=>fg P f.rest (vB R) e σ) (cZ e (some f.k) (pv.getD .eG))
def NC {F : Fence} {n : Nat} {ops : Array Oper} {Q : Exit -> Act -> List Frame -> World -> Prop} {i : Nat} {l : List Nat} {a : Act} {cs : List Frame} {w : World} {o : Oper} {x : Operand} (ho : ops[i]? = some o) (hop : o.op = .assign x \/ o.op = .move x) (hg : o.guard = none)
    (hF:∀ f,F.fn f) (h:wpOpsSIn F n P ops Q l (a.put o.dst (a.eval x)) cs w):wpOpsSIn F n P ops Q (i::l) a cs w:=by
 simp only[wpOpsSIn,ho];refine⟨fun f _=>hF f,?_⟩;have hw:Region.wanted o (yielded ops a.tmps)=true:=by simp[Region.wanted,hg]
 rw[aB hw]
 have hx:(execOp a.eval o).run P w = .ok (.value (a.eval x)) w:=by
  unfold execOp;rcases hop with hop|hop<;>simp only[hop]<;>rfl
 rw[hx];exact h
def XA {nt : Nat} {ops : Array Oper} {Q : Exit -> Act -> List Frame -> World -> Prop} {cs : List Frame} {w : World} {g : aC} {K : Env -> Prop} : ∀ (l : List Oper) (i : Nat) (ms : List (AX × Option Nat)) (e : Env) (a : Act),
    qv nt l=some ms->(∀ j,j<l.length->ops[i+j]? = l[j]?)->K6 ms K e->fm nt g w e a.tmps->(∀ e' a',K e'->fm nt g w e' a'.tmps->a'.defers=a.defers->Q .normal a' cs w) ->
    wpOpsSIn (WF none) 0 P ops Q (List.range' i l.length) a cs w:=by
 intro l
 induction l with
 | nil=>intro i ms e a hc _ hw hE hK;cases hc;exact hK e a hw hE rfl
 | cons o l ih =>
   intro i ms e a hc hidx hw hE hK;have h0:ops[i]? = some o:=by simpa using hidx 0 aT
   have NL:∀ j,j<l.length->ops[i+1+j]? = l[j]?:=fun j hj=>by
    have:=hidx (j+1) (by simpa using hj);simpa[bP,Nat.add_comm 1 j]using this
   rw[aE,List.range'_succ]
   have go:∀ (x:Operand) (ax:AX) (ms':List (AX × Option Nat)),(o.op = .assign x\/o.op = .move x)->o.guard=none->cX nt x=some ax->qv nt l=some ms'->K6 ms' K (cZ e o.dst (ax.ev e))->wpOpsSIn (WF none) 0 P ops Q (i::List.range' (i+1) l.length) a cs w:=by
    intro x ax ms' hop hg hx GF hw;refine NC h0 hop hg (fun _=>trivial) (ih (i+1) ms' _ _ GF NL hw (hE.put o.dst (bL hx hE)) (fun e' a' k1 k2 k3=>hK e' a' k1 k2 (k3.trans (put_defers _ _ _))))
   simp only[qv]at hc;split at hc
   ·rename_i x hop hg;split at hc
    ·rename_i ax ms' h1 h2;cases hc;exact go x ax ms' (.inl hop) hg h1 h2 hw
    ·cases hc
   ·rename_i x hop hg;split at hc
    ·rename_i ax ms' h1 h2;cases hc;exact go x ax ms' (.inr hop) hg h1 h2 hw
    ·cases hc
   ·cases hc
def y6.recover {g : aC} {w : World} {pv : Option AV} {u : FrameMode} {c₀ : Frame} {cs : List Frame} (h : y6 g w pv u) (hm : c₀.mode = u) :
    ∃ v cs',(match recoverD (c₀::cs)with|some (v,cs')=>(v,cs')|none=>(Value.nilIface,c₀::cs))=(v,cs')/\VR g w (pv.getD .eG) v/\cs' = { c₀ with mode:=sD u }::cs:=by
 cases pv with
 | none =>
   have h:u = .returning:=h;subst h;refine⟨.nilIface,c₀::cs,?_,.eG,?_⟩
   ·simp[recoverD,hm]
   have:({ c₀ with mode:=sD .returning }:Frame)=c₀:=by rw[show sD .returning=c₀.mode by rw[hm];rfl]
   rw[this]
 | some a =>
   obtain⟨v,h,hv⟩:=h;subst h;exact⟨v,{ c₀ with mode:= .panicking [{ v,recovered:=true }] }::cs,by simp[recoverD,hm],hv,by simp[sD]⟩
def tV.of_wp {n : FuncId} {fn : Func} {h : Hints} {rf : B8} {args : List AV} {pv : Option AV} {σ : ai} {R : ai → Prop} (hf : P.funcs[n]? = some fn) (hn : (fn.name == "runtime.NumGoroutine") = false) (hc : HS P h fn = some rf)
    (hl:args.length<=rf.nt) (hw:rf.wp P pv R (fC args) σ):tV P n args pv σ R:=by
 unfold HS at hc;split at hc
 ·rename_i id ops b hb hres;split at hc
  ·rename_i o r vp;split at hc
   ·rename_i k ms c h1 h2 h3;split at hc
    case isFalse=>cases hc
    rename_i h4;cases hc;refine⟨⟨fn,hf,by simp[hb],hn⟩,fun g w vs u hR hlen hv hu=>?_⟩;refine callsDIn_of_wpSIn (F:=WF none) (n:=0) hf hb trivial fun c₀ cs hm=>?_;have h0:ops[0]? = some o:=by rw[<-eN,vp];rfl
    have hsz:ops.size=r.length+1:=by rw[<-dB,vp];rfl
    obtain⟨v,cs',xM,XB,hcs⟩:=hu.recover (c₀:=c₀) (cs:=cs) hm
    have MK:fm fn.ntmps g w (fC args) (vs++Array.replicate (fn.ntmps-vs.size) Go.undef):=by
     refine⟨?_,fun t ht=>?_⟩
     ·simp only at hl;simp;omega
     by_cases h:t<args.length
     ·have h3:t<vs.size:=ae;have:=hv t h;simp only[fC];rw[bQ,bT h3];simpa using this
     have:fC args t = .undef:=by simp[fC,eo (iw h)]
     rw[this];exact .undef _
    have P5:o.dst=some k/\o.guard=none/\ ∃ c,o.op = .call c/\c.callee = .builtin .recover:=by
     unfold y7 at h1;split at h1
     ·rename_i c hop hg;split at h1
      ·rename_i B9;exact⟨h1,hg,c,hop,B9⟩
      ·cases h1
     ·cases h1
    obtain⟨hd,hg,cc,hop,B9⟩:=P5;refine wpSIn_seq (wpSIn_region ?_);rw[hsz,iL,List.range'_succ];simp only[wpOpsSIn,h0];refine⟨fun f _=>trivial,?_⟩;have alw:Region.wanted o (yielded ops (vs++Array.replicate (fn.ntmps-vs.size) Go.undef))=true:=by simp[Region.wanted,hg]
    rw[aB alw]
    have hx:∀ ρ : Operand->Value,(execOp ρ o).run P w = .ok .recover w:=fun ρ=>by
     unfold execOp;simp only[hop,resolve,B9,Sem.run_bind,Sem.run_pure,Result.andThen_ok];rfl
    rw[hx]
    have fin:wpOpsSIn (WF none) 0 P ops (Exit.thenS (b.wpSIn (WF none) 0 P (bodyPostS P fn c₀ cs fun e u' w'=> ∃ g' σ' v,e = .returned v/\u'=sD u/\Rel g' w' σ'/\ep σ g w σ' g' w'/\R σ')) (bodyPostS P fn c₀ cs fun e u' w'=> ∃ g' σ' v,e = .returned v/\u'=sD u/\Rel g' w' σ'/\ep σ g w σ' g' w'/\R σ'))
     (List.range' (0+1) r.length) (Act.put { tmps:=vs++Array.replicate (fn.ntmps-vs.size) Go.undef,defers:=[] } o.dst v) cs' w:=by
     refine XA (g:=g) (nt:=fn.ntmps) (K:=fun e=>fg P c (vB R) e σ) r 1 ms (cZ (fC args) (some k) (pv.getD .eG)) _ h2 (fun j hj=>?_) hw ?_ ?_
     ·rw[<-eN,vp,Nat.add_comm];rfl
     ·rw[hd];exact MK.put (a:= { tmps:=_,defers:=[] }) (some k) XB
     intro e' a' hK Wk hdf;rw[put_defers]at hdf;show b.wpSIn (WF none) 0 P _ a' cs' w;refine wpSIn_of_wpIn rfl (wpIn_mono (wm b [] none 0 (fun _=>False) c (vB R) g w σ e' a' h3 hK hR Wk (by rw[hdf];exact ja.nil _ _ _ _ _) (fun h=>absurd h (by rw[h4];simp))) ?_);rintro ex a2 w2 ⟨g2,e2,σ2,⟨XC,hmk,hmo⟩,q2,q3,q4,q5⟩
     have Z2:XC=[]:=by
      cases XC with
      | nil=>rfl
      | cons d ds=>obtain⟨D,_,hD,_⟩:=hmo.mark d aT;exact hD.elim
     subst Z2
     have done:R σ2->a2.defers=[]/\ ∃ u',cs' = { c₀ with mode:=u' }::cs/\ ∃ v,(results fn a2.tmps).run P w2 = .ok v w2/\ ∃ g' σ' v',Ending.returned v = .returned v'/\u'=sD u/\Rel g' w2 σ'/\ep σ g w σ' g' w2/\R σ':=fun hr =>
      ⟨hmk,sD u,hcs,_,uj (us:=[]) (by rw[hres];rfl),g2,σ2,_,rfl,rfl,q2,q4,hr⟩
     cases ex with
     | normal=>exact done q5
     | ret=>exact done q5
     | panic ch=>obtain⟨_,_,_,_,q5⟩:=q5;exact q5.elim
     | exit id=>exact q5.elim
     | goto l=>exact q5.elim
     | outgrown=>exact q5.elim
    subst hcs
    show(match recoverD (c₀::cs)with
     | some (v,cs')=>wpOpsSIn (WF none) 0 P ops _ _ _ cs' w
     | none=>wpOpsSIn (WF none) 0 P ops _ _ _ (c₀::cs) w)
    split
    ·rename_i v1 ML hr;rw[hr]at xM;cases xM;exact fin
    rename_i hr;rw[hr]at xM;injection xM with e1 e2;subst e1;rw[<-e2]at fin;exact fin
   ·cases hc
  ·cases hc
 ·cases hc
def oN{F:Fence}{n:Nat}{ops:Array Oper}{Q Q':Exit->Act->World->Prop}(h:∀ e a w,Q e a w->Q' e a w): ∀(l:List Nat) (a:Act) (w:World),Go.wpOpsIn F n P ops Q l a w->Go.wpOpsIn F n P ops Q' l a w
 | [],a,w,hh=>h _ a w hh
 | i :: l, a, w, hh => by
   simp only[Go.wpOpsIn]at hh |-;cases ho:ops[i]? with
   | none=>simp only[ho]at hh |-;exact oN h l a w hh
   | some o =>
     simp only[ho]at hh |-;split
     ·rename_i hw;rw[aB hw]at hh;exact Oper.Hp (fun a w hh=>oN h l a w hh) h hh
     rename_i hw;rw[aq hw]at hh;exact⟨hh.1,oN h l _ w hh.2⟩
structure xN where
 nt:Nat
 k1:Nat
 k2:Nat
 gs:List bV
def sE(ops:Array Oper)(done:List Bool)(l:List Nat): Bool:=Region.ready .any ops done.toArray==l
def K7: bV->Option (Nat × Nat)
 |⟨.load _ _ (.t t),some k,none⟩=>some (t,k)
 | _=>none
def XD: Op->Bool
 | .load ..=>true
 | _=>false
def EK(P:Program)(h:Hints)(fn:Func): Option xN :=
 match fn.body,fn.results.toList with
 | some (.region _ ops true), [] => match ops.toList with
   | [o0, o1, o2, o3] => match y7 o0, jF P fn.ntmps h false ops [o1, o2, o3] with
     | some k1, some (g1 :: gs) => match K7 g1 with
       | some (t, k2) => if XD o1.op && k1 != k2 && t != k1 && P.follows .mixedOrders && sE ops [false, false, false, false] [0, 1] && sE ops [true, false, false, false] [1] && sE ops [false, true, false, false] [0]
          && sE ops [true,true,false,false] [2] && sE ops [true,true,true,false] [3]then some ⟨fn.ntmps,k1,k2,g1::gs⟩else none
       | none=>none
     | _,_=>none
   | _=>none
 | _,_=>none
def xN.wp(P:Program)(f:xN)(pv:Option AV)(R:ai->Prop)(e:Env)(σ : ai): Prop:=dL P (vB R) f.gs (cZ e (some f.k1) (pv.getD .eG)) σ
def sF(P:Program)(Q:Exit->Act->List Frame->World->Prop)(ops:Array Oper)(l:List Nat)(a:Act)(cs:List Frame)(w:World): Prop :=
 ∀ (b : Frame) (k : List Item), b.kind = .deferred -> b.roundOf = none -> (WF none).fn b.fn -> (WF none).room (cs.length + 1 + 0) ->
   ∃ e a' cs' w',cs'.length=cs.length/\Q e a' cs' w'/\ArrivesIn (Machine.fenced P (WF none)) P (lone (b.atR a (.inRegion ops l::k)) cs w) b k cs' e a' w'
def sF.of_wp{Q:Exit->Act->List Frame->World->Prop}{ops:Array Oper}{l:List Nat}{a:Act}{cs:List Frame}{w:World}(h:Go.wpOpsIn (WF none) 0 P ops (fun e a' w'=>Q e a' cs w') l a w): sF P Q ops l a cs w :=
 fun b k _ hr hF hroom=>let ⟨e,a',w',q,r⟩:=wp_opsIn l a w h b k cs hr hF hroom;⟨e,a',cs,w',rfl,q,r⟩
def sF.value {Q : Exit -> Act -> List Frame -> World -> Prop} {ops : Array Oper} {i : Nat} {l : List Nat} {a : Act} {cs : List Frame} {w : World} {o : Oper} {v : Value} (ho : ops[i]? = some o) (hg : o.guard = none)
    (hx:(execOp a.eval o).run P w = .ok (.value v) w) (h:sF P Q ops l (a.put o.dst v) cs w):sF P Q ops (i::l) a cs w:=by
 intro b k hb hro hF hroom;have hw:Region.wanted o (yielded ops a.tmps)=true:=by simp[Region.wanted,hg]
 have h0:(lone (b.atR a (.inRegion ops (i::l)::k)) cs w).fenced P (WF none):=fenced_oper hF hroom ho (fun _ _=>trivial);have hs:=stepGR_op (P:=P) (b:=b) (k:=k) (cs:=cs) (w:=w) (rest:=l) ho hw;rw[hro,Oper.semAt_none]at hs;have Hy:(b.atR a (.inRegion ops (i::l)::k)).finish v=b.atR (a.put o.dst v) (.inRegion ops l::k):=by rw[Frame.finish_atR,ho];rfl
 obtain⟨e,a',cs',w',hl,hq,lK⟩:=h b k hb hro hF hroom;refine⟨e,a',cs',w',hl,hq,.of_steps (.one h0 (step_lone_go ?_)) lK⟩;rw[hs,<-Hy];simp[stepG.apply,hx]
def sF.recover {Q : Exit -> Act -> List Frame -> World -> Prop} {ops : Array Oper} {i : Nat} {l : List Nat} {a : Act} {cs ML : List Frame} {w : World} {o : Oper} {v : Value} (ho : ops[i]? = some o) (hg : o.guard = none)
    (hx:(execOp a.eval o).run P w = .ok .recover w) (hlen:ML.length=cs.length) (xM:(match recoverD cs with|some (v,cs')=>(v,cs')|none=>(Value.nilIface,cs))=(v,ML)) (h:sF P Q ops l (a.put o.dst v) ML w):sF P Q ops (i::l) a cs w:=by
 intro b k hb hro hF hroom;have hw:Region.wanted o (yielded ops a.tmps)=true:=by simp[Region.wanted,hg]
 have h0:(lone (b.atR a (.inRegion ops (i::l)::k)) cs w).fenced P (WF none):=fenced_oper hF hroom ho (fun _ _=>trivial);have hs:=stepGR_op (P:=P) (b:=b) (k:=k) (cs:=cs) (w:=w) (rest:=l) ho hw;rw[hro,Oper.semAt_none]at hs;have Hy:(b.atR a (.inRegion ops (i::l)::k)).finish v=b.atR (a.put o.dst v) (.inRegion ops l::k):=by rw[Frame.finish_atR,ho];rfl
 have hk:(b.atR a (.inRegion ops (i::l)::k)).kind = .deferred:=hb;have htr:=tryRecover_deferred hk cs;obtain⟨e,a',cs',w',hl,hq,lK⟩:=h b k hb hro hF (by rw[hlen];exact hroom);refine⟨e,a',cs',w',hl.trans hlen,hq,.of_steps (.one h0 (step_lone_go ?_)) lK⟩;rw[hs,<-Hy];simp only[Frame.atR,hro]at htr |-;split at xM
 ·rename_i v' cs' hr;cases xM;simp[stepG.apply,hx,htr,hr]
 rename_i hr;cases xM;simp[stepG.apply,hx,htr,hr]
def RE {Q : Exit -> Act -> List Frame -> World -> Prop} {id : Nat} {ops : Array Oper} {a : Act} {cs : List Frame} {w : World} (hm : P.follows .mixedOrders = true)
    (h:∀ t,sF P Q ops (Region.linearise.go .any ops ops.size t (Array.replicate ops.size false) []) a cs { w with drawn:=w.drawn+1 }):(Code.region id ops true).wpSIn (WF none) 0 P Q a cs w:=by
 intro b k hb hr hF hroom;obtain⟨e,a',cs',w',l,q,r⟩:=h (w.tape w.drawn (.order b.fn id)) b k hb hr hF hroom;refine⟨e,a',cs',w',l,q,.of_steps (.one (fenced_calm hF hroom rfl) ?_) r⟩;have:=stepR_region_draw (P:=P) (b:=b) (a:=a) (k:=k) (cs:=cs) (w:=w) (ops:=ops) (id:=id);simp only[Region.schedule,hm,Bool.true_or,if_true]at this;exact this
def AN {md : Region.Mode} {ops : Array Oper} {fuel t : Nat} {listed : Array Bool} {acc l : List Nat} (h : Region.ready md ops listed = l) :
    Region.linearise.go md ops (fuel+1) t listed acc=match l[t % l.length]? with
     | some i=>Region.linearise.go md ops fuel (t / l.length) (listed.setIfInBounds i true) (i::acc)
     | none=>acc.reverse:=by
 subst h;rfl
def aeR {ops : Array Oper} (hs : ops.size = 4) (h0 : sE ops [false, false, false, false] [0, 1] = true) (h1 : sE ops [true, false, false, false] [1] = true) (h2 : sE ops [false, true, false, false] [0] = true)
    (h3:sE ops [true,true,false,false] [2]=true) (h4:sE ops [true,true,true,false] [3]=true) (t:Nat) :
    Region.linearise.go .any ops ops.size t (Array.replicate ops.size false) []=[0,1,2,3]\/Region.linearise.go .any ops ops.size t (Array.replicate ops.size false) []=[1,0,2,3]:=by
 simp only[sE,beq_iff_eq]at h0 h1 h2 h3 h4;rw[hs];have e0:Array.replicate 4 false=[false,false,false,false].toArray:=rfl;rw[e0,AN h0];have one:∀ t:Nat,t % 1=0:=fun t=>Nat.mod_one t
 have tail:∀ (t:Nat) (acc:List Nat),Region.linearise.go .any ops 2 t [true,true,false,false].toArray acc=acc.reverse++[2,3]:=fun t acc=>by
  rw[AN h3];simp only[aE,a_,bp,one,cE];have e1:([true,true,false,false].toArray).setIfInBounds 2 true=[true,true,true,false].toArray:=rfl;rw[e1,AN h4];simp only[aE,a_,bp,one,cE];simp[Region.linearise.go]
 have h2':t % [0,1].length=0\/t % [0,1].length=1:=by simp only[aE,a_];omega
 rcases h2' with e|e
 ·left;rw[e];simp only[cE];have e1:([false,false,false,false].toArray).setIfInBounds 0 true=[true,false,false,false].toArray:=rfl;rw[e1,AN h1];simp only[aE,a_,bp,one,cE];have e2:([true,false,false,false].toArray).setIfInBounds 1 true=[true,true,false,false].toArray:=rfl;rw[e2,tail];rfl
 right;rw[e];simp only[cR,cE];have e1:([false,false,false,false].toArray).setIfInBounds 1 true=[false,true,false,false].toArray:=rfl;rw[e1,AN h2];simp only[aE,a_,bp,one,cE];have e2:([false,true,false,false].toArray).setIfInBounds 0 true=[true,true,false,false].toArray:=rfl;rw[e2,tail];rfl
def UQ{g:bV}{t k:Nat}(h:K7 g=some (t,k)): ∃ ag n,g=⟨.load ag n (.t t),some k,none⟩:=by
 unfold K7 at h;split at h
 ·cases h;exact⟨_,_,rfl⟩
 ·cases h
def tV.aeS {n : FuncId} {fn : Func} {h : Hints} {rf : xN} {args : List AV} {pv : Option AV} {σ : ai} {R : ai → Prop} (hf : P.funcs[n]? = some fn) (hn : (fn.name == "runtime.NumGoroutine") = false) (hc : EK P h fn = some rf)
    (hl:args.length<=rf.nt) (hw:rf.wp P pv R (fC args) σ):tV P n args pv σ R:=by
 unfold EK at hc;split at hc
 case h_2=>cases hc
 rename_i id ops hb hres;split at hc
 case h_2=>cases hc
 rename_i o0 o1 o2 o3 vp;split at hc
 case h_2=>cases hc
 rename_i k1 g1 gs yA EL;split at hc
 case h_2=>cases hc
 rename_i t k2 hld;split at hc
 case isFalse=>cases hc
 rename_i DN;cases hc;simp only[aD,bne_iff_ne,ne_eq]at DN;obtain⟨⟨⟨⟨⟨⟨⟨⟨R8,Z3⟩,htk⟩,hm⟩,y0⟩,y1⟩,y2⟩,y3⟩,y4⟩:=DN;obtain⟨ag,m,rfl⟩:=UQ hld;have hsz:ops.size=4:=by rw[<-dB,vp];rfl
 have xG:ops[0]? = some o0:=by rw[<-eN,vp];rfl
 have IC:ops[1]? = some o1:=by rw[<-eN,vp];rfl
 have Cx:ops[2]? = some o2:=by rw[<-eN,vp];rfl
 have hi3:ops[3]? = some o3:=by rw[<-eN,vp];rfl
 refine⟨⟨fn,hf,by simp[hb],hn⟩,fun g w vs u hR hlen hv hu=>?_⟩;refine callsDIn_of_wpSIn (F:=WF none) (n:=0) hf hb trivial fun c₀ cs hmd=>?_;obtain⟨v,ML,xM,XB,hcs⟩:=hu.recover (c₀:=c₀) (cs:=cs) hmd
 have P5:o0.dst=some k1/\o0.guard=none/\ ∃ c,o0.op = .call c/\c.callee = .builtin .recover:=by
  unfold y7 at yA;split at yA
  ·rename_i c hop hg;split at yA
   ·rename_i B9;exact⟨yA,hg,c,hop,B9⟩
   ·cases yA
  ·cases yA
 obtain⟨hd,hg,cc,hop,B9⟩:=P5
 have hx:∀ (ρ : Operand->Value) (w:World),(execOp ρ o0).run P w = .ok .recover w:=fun ρ w=>by
  unfold execOp;simp only[hop,resolve,B9,Sem.run_bind,Sem.run_pure,Result.andThen_ok];rfl
 have SM:ep σ g w σ g { w with drawn:=w.drawn+1 }:=ep.drew σ g w (w.drawn+1);have L5:=hR.drew (w.drawn+1);have Z4:VR g { w with drawn:=w.drawn+1 } (pv.getD .eG) v:=XB.mono SM.mono
 have MK:fm fn.ntmps g { w with drawn:=w.drawn+1 } (fC args) (vs++Array.replicate (fn.ntmps-vs.size) Go.undef):=by
  refine⟨?_,fun t ht=>?_⟩
  ·simp only at hl;simp;omega
  by_cases h:t<args.length
  ·have h3:t<vs.size:=ae;have:=(hv t h).mono SM.mono;simp only[fC];rw[bQ,bT h3];simpa using this
  have:fC args t = .undef:=by simp[fC,eo (iw h)]
  rw[this];exact .undef _
 generalize hw1:({ w with drawn:=w.drawn+1 }:World)=w1 at SM L5 Z4 MK;obtain⟨a0,ha0⟩:∃ a0:Act,a0 = { tmps:=vs++Array.replicate (fn.ntmps-vs.size) Go.undef,defers:=[] }:=⟨_,rfl⟩;have MK:fm fn.ntmps g w1 (fC args) a0.tmps:=by rw[ha0];exact MK
 have aeT:a0.defers=[]:=by rw[ha0]
 rw[<-ha0]
 have fin:∀ (ex:Exit) (a2:Act) (w2:World),QR [] fn.ntmps (fun _=>False) g w1 σ (vB R) ex a2 w2->bodyPostS P fn c₀ cs (fun e u' w'=> ∃ g' σ' v,e = .returned v/\u'=sD u/\Rel g' w' σ'/\ep σ g w σ' g' w'/\R σ') ex a2 ML w2:=by
  rintro ex a2 w2 ⟨g2,e2,σ2,⟨XC,hmk,hmo⟩,q2,q3,q4,q5⟩
  have Z2:XC=[]:=by
   cases XC with
   | nil=>rfl
   | cons d ds=>obtain⟨D,_,hD,_⟩:=hmo.mark d aT;exact hD.elim
  subst Z2
  have done:R σ2->a2.defers=[]/\ ∃ u',ML = { c₀ with mode:=u' }::cs/\ ∃ v,(results fn a2.tmps).run P w2 = .ok v w2/\ ∃ g' σ' v',Ending.returned v = .returned v'/\u'=sD u/\Rel g' w2 σ'/\ep σ g w σ' g' w2/\R σ':=fun hr =>
   ⟨hmk,sD u,hcs,_,uj (us:=[]) (by rw[hres];rfl),g2,σ2,_,rfl,rfl,q2,SM.trans q4,hr⟩
  cases ex with
  | normal=>exact done q5
  | ret=>exact done q5
  | panic ch=>obtain⟨_,_,_,_,q5⟩:=q5;exact q5.elim
  | exit id=>exact q5.elim
  | goto l=>exact q5.elim
  | outgrown=>exact q5.elim
 have hw':dL P (vB R) (⟨.load ag m (.t t),some k2,none⟩::gs) (cZ (fC args) (some k1) (pv.getD .eG)) σ:=hw
 have hidx:∀ j,j<[o1,o2,o3].length->ops[1+j]? = [o1,o2,o3][j]?:=fun j hj=>by
  match j,hj with
  | 0,_=>exact IC
  | 1,_=>exact Cx
  | 2,_=>exact hi3
 have hlc:ML.length=(c₀::cs).length:=by rw[hcs];rfl
 refine RE hm fun tt=>?_;rw[hw1];rcases aeR hsz y0 y1 y2 y3 y4 tt with e|e<;>rw[e]
 ·
  refine sF.recover xG hg (hx _ _) hlc xM (sF.of_wp ?_);rw[hd];have hs:=yG (X:=[]) (ro:=none) (wn:=0) (B:=fun _=>False) (ops:=ops) (Q:=vB R) (g0:=g) (w0:=w1) (lY:=σ) [o1,o2,o3] 1 _ g w1 σ _ (a0.put (some k1) v) EL hidx hw' L5 (MK.put (some k1) Z4) (by rw[put_defers,aeT];exact ja.nil _ _ _ _ _) (.refl _ _ _);exact oN (fun ex a' w' hq=>fin ex a' w' hq) _ _ _ hs
 
 obtain⟨ao,gs2,hc1,hc2,su,hgd⟩:∃ ao gs2,pL P fn.ntmps h false o1=some ao/\jF P fn.ntmps h false ops [o2,o3]=some gs2/\(⟨.load ag m (.t t),some k2,none⟩::gs:List bV)=⟨ao,o1.dst,none⟩::gs2/\o1.guard=none:=by
  simp only[jF]at EL;split at EL
  ·rename_i ao gs2 q1 q2;split at EL
   ·rename_i hgd;exact⟨_,_,q1,q2,(Option.some.inj EL).symm,hgd⟩
   rename_i j b hgd;split at EL
   ·split at EL
    ·have h1:=Option.some.inj EL;injection h1 with h2 _;injection h2 with _ _ h3;cases h3
    ·cases EL
   ·cases EL
  ·cases EL
 injection su with alx aly;injection alx with alz alA _;subst aly;subst alz
 obtain⟨T,adr,aeU⟩:∃ T adr,o1.op = .load T adr:=by
  cases ho:o1.op<;>simp[ho,XD]at R8;exact⟨_,_,rfl⟩
 simp only[pL,aeU]at hc1;split at hc1
 ·rename_i R0 fi ax q1 q2 q3;split at hc1
  ·rename_i hag;cases hc1
   have ai3:gE σ ag fi.size ((AX.t t).ev (fC args)) fun av=>dL P (vB R) gs (cZ (cZ (fC args) (some k1) (pv.getD .eG)) (some k2) av) σ:=by
    have h1:gE σ ag fi.size ((AX.t t).ev (cZ (fC args) (some k1) (pv.getD .eG))) fun av=>dL P (vB R) gs (cZ (cZ (fC args) (some k1) (pv.getD .eG)) (some k2) av) σ:=hw';have e1:(AX.t t).ev (cZ (fC args) (some k1) (pv.getD .eG))=(AX.t t).ev (fC args):=by simp[AX.ev,cZ,htk]
    rwa[e1]at h1
   obtain⟨lv,av,r1,r2,r3⟩:=Dw (P:=P) L5 q1 q2 (fun h=>by simpa[h]using hag) (bL q3 MK) ai3;refine sF.value (v:=lv) IC hgd (by simp[execOp,aeU,r1]) ?_;rw[<-alA];refine sF.recover xG hg (hx _ _) hlc xM (sF.of_wp ?_);rw[hd]
   have alB:cZ (cZ (fC args) (some k1) (pv.getD .eG)) (some k2) av=cZ (cZ (fC args) (some k2) av) (some k1) (pv.getD .eG):=by
    funext j
    simp only[cZ];by_cases j1:j=k1<;>by_cases j2:j=k2
    ·exact absurd (j1.symm.trans j2) Z3
    ·simp[j1,Z3]
    ·simp[j2,Ne.symm Z3]
    simp[j1,j2]
   rw[alB]at r3
   have hs:=yG (X:=[]) (ro:=none) (wn:=0) (B:=fun _=>False) (ops:=ops) (Q:=vB R) (g0:=g) (w0:=w1) (lY:=σ) [o2,o3] 2 _ g w1 σ _ ((a0.put (some k2) lv).put (some k1) v) hc2 (fun j hj=>by
    match j,hj with
    | 0,_=>exact Cx
    | 1,_=>exact hi3) r3 L5 ((MK.put (some k2) r2).put (some k1) Z4) (by rw[put_defers,put_defers,aeT];exact ja.nil _ _ _ _ _) (.refl _ _ _)
   exact oN (fun ex a' w' hq=>fin ex a' w' hq) _ _ _ hs
  ·cases hc1
 ·cases hc1
inductive sG where
 | seq (a:cQ) (d:sG)
 | dfr (ops:List bV) (x:AX) (rest:cQ)
structure JM where
 nt:Nat
 results:List kp
 body:sG
def SN(nt:Nat)(o:Oper): Option AX:=match o.op,o.guard,o.dst with
 | .defer c, none, none => match c.callee, c.args.toList with
   | .value f,[]=>cX nt f
   | _,_=>none
 | _,_,_=>none
def EM(P:Program)(nt:Nat)(h:Hints)(ops:Array Oper): Option (List bV × AX):=match ops.toList.getLast? with
 | some o => match SN nt o, jF P nt h false ops ops.toList.dropLast with
   | some x,some gs=>some (gs,x)
   | _,_=>none
 | none=>none
def aeV: Code->Option (Array Oper)
 | .region _ ops false=>some ops
 | _=>none
def B_(P:Program)(nt:Nat)(h:Hints): Code->Option sG
 | .seq a b => match (aeV a).bind (EM P nt h) with
   | some (gs,x)=>(cj P nt h false b).map (.dfr gs x)
   | none => match cj P nt h false a, B_ P nt h b with
     | some c,some d=>some (.seq c d)
     | _,_=>none
 | _=>none
def EN(P:Program)(h:Hints)(fn:Func): Option JM:=match fn.body with
 | some c => match B_ P fn.ntmps h c, kW P fn.ntmps fn.results.toList with
   | some b,some rs=>some ⟨fn.ntmps,rs,b⟩
   | _,_=>none
 | none=>none
def sG.wp(P:Program)(Q:AQ)(QD:FuncId->List AV->AQ): sG->Env->ai->Prop
 | .seq a d=>fg P a (ny (d.wp P Q QD) Q)
 | .dfr ops x rest => dL P (ny (fun e σ => match x.ev e with
    | .fn (.func n) first cap=>fg P rest (QD n (first++cap)) e σ
    | _=>False) Q) ops
def EO(P:Program)(rs:List kp)(R:Out->ai->Prop)(n:FuncId)(args:List AV): AQ
 | .normal,e,σ=>tV P n args none σ fun σ'=>mj e σ' rs fun vs=>R (.ret (oneOf vs)) σ'
 | .ret,e,σ=>tV P n args none σ fun σ'=>mj e σ' rs fun vs=>R (.ret (oneOf vs)) σ'
 | .panic v,e,σ=>tV P n args (some v) σ fun σ'=>mj e σ' rs fun vs=>R (.ret (oneOf vs)) σ'
 | _,_,_=>False
def Oper.Z5 {F : Fence} {wn : Nat} {o : Oper} {a : Act} {w : World} {K K' : Act -> World -> Prop} {Q Q' : Exit -> Act -> World -> Prop} (h : ∀ a w, K a w -> K' a w) (hq : ∀ e a w, e ≠ .normal -> Q e a w -> Q' e a w)
    (hh:o.wpIn F wn P a w K Q):o.wpIn F wn P a w K' Q':=by
 unfold Oper.wpIn at *;refine⟨hh.1,?_⟩
 replace hh:=hh.2
 generalize (o.semAt F.round a.eval).run P w=r at *;cases r with
 | ok n w' =>
   cases n<;>simp only[Oper.uponIn]at hh |- <;>
    first
     | exact h _ _ hh
     | exact ⟨hh.1, CallsIn.mono hh.2 (fun e w'' he => by
        cases e<;>first
         | exact h _ _ he
         | exact hq _ _ _ aT he
         |(obtain⟨a0,w0,he⟩:=he;exact⟨a0,w0,hq _ _ _ aT he⟩))⟩
     | exact ⟨hh.1, RoundIn.mono hh.2 (fun e w'' he => by
        cases e<;>first
         | exact h _ _ he
         | exact hq _ _ _ aT he
         |(obtain⟨a0,w0,he⟩:=he;exact⟨a0,w0,hq _ _ _ aT he⟩))⟩
     | exact⟨hh.1,RowsIn.mono hh.2 (fun _ _ he=>h _ _ he)⟩
 | halt x w' =>
   cases x<;>simp only[Oper.uponIn]at hh |-<;>first
    | exact hq _ _ _ aT hh
    | exact hh
def qw{F:Fence}{n:Nat}{ops:Array Oper}{Q1 Q:Exit->Act->World->Prop}(l2:List Nat)(h1:∀ a w,Q1 .normal a w->Go.wpOpsIn F n P ops Q l2 a w)(h2:∀ e a w,e≠ .normal->Q1 e a w->Q e a w): ∀(l1:List Nat) (a:Act) (w:World),Go.wpOpsIn F n P ops Q1 l1 a w->Go.wpOpsIn F n P ops Q (l1++l2) a w
 | [],a,w,h=>h1 a w h
 | i :: l1, a, w, h => by
   simp only[gO,Go.wpOpsIn]at h |-;cases ho:ops[i]? with
   | none=>simp only[ho]at h |-;exact qw l2 h1 h2 l1 a w h
   | some o =>
     simp only[ho]at h |-;split
     ·rename_i hw;rw[aB hw]at h;exact Oper.Z5 (fun a w h=>qw l2 h1 h2 l1 a w h) h2 h
     rename_i hw;rw[aq hw]at h;exact⟨h.1,qw l2 h1 h2 l1 _ w h.2⟩
def XE {nt : Nat} {h : Hints} {ops : Array Oper} {gs : List bV} {x : AX} {Q : AQ} {g : aC} {w : World} {σ : ai} {e : Env} {a : Act} {QQ : Exit -> Act -> World -> Prop} (hc : EM P nt h ops = some (gs, x)) (hw : dL P Q gs e σ) (hR : Rel g w σ) (hE : fm nt g w e a.tmps)
    {B:Nat->Prop} (hd:ja [] B σ g w a.defers)
    (hn : ∀ (g' : aC) (w' : World) (σ' : ai) (e' : Env) (a' : Act), Q .normal e' σ' -> Rel g' w' σ' -> fm nt g' w' e' a'.tmps -> ep σ g w σ' g' w' -> ja [] B σ' g' w' a'.defers ->
      ∃ n first cap,x.ev e' = .fn (.func n) first cap/\ ∀ f1 c1,VR g' w' (.fn (.func n) first cap) (.func (.func n) f1 c1)->QQ .normal { a' with defers:= { target:= .fn (.func n) c1,args:=f1 }::a'.defers } w')
    (hp:∀ ex a' w',ex≠ .normal->QR [] nt B g w σ Q ex a' w'->QQ ex a' w') :
    Go.wpOpsIn (WF none) 0 P ops QQ (List.range ops.size) a w:=by
 unfold EM at hc;split at hc
 ·rename_i o NR;split at hc
  ·rename_i x' gs' h1 h2;cases hc;have hne:ops.toList≠[]:=fun h=>by rw[h]at NR;cases NR
   have hsz:ops.size=ops.toList.dropLast.length+1:=by
    rw[List.length_dropLast,<-dB];have:=List.length_pos_iff.2 hne;omega
   have XF:ops.toList=ops.toList.dropLast++[o]:=by
    rw[List.getLast?_eq_some_getLast hne]at NR;cases NR;exact(List.dropLast_concat_getLast hne).symm
   have hidx:∀ j,j<ops.toList.dropLast.length->ops[0+j]? = ops.toList.dropLast[j]?:=fun j hj=>by
    rw[bp,<-eN]
    conv=>lhs;rw[XF]
    rw[aO hj]
   have hlo:ops[ops.toList.dropLast.length]? = some o:=by
    have key:∀ l:List Oper,(l++[o])[(l++[o]).dropLast.length]? = some o:=fun l=>by simp
    rw[<-eN]
    conv=>lhs;rw[XF]
    exact key _
   rw[hsz,iL,List.range'_concat];have hs:=yG (X:=[]) (ro:=none) (wn:=0) (B:=B) (ops:=ops) (Q:=Q) (g0:=g) (w0:=w) (lY:=σ) ops.toList.dropLast 0 gs g w σ e a h2 hidx hw hR hE hd (.refl _ _ _);refine qw _ ?_ hp _ a w hs;rintro a1 w1 ⟨g1,e1,σ1,d1,r1,E1,v1,q1⟩;obtain⟨n,first,cap,hx,hq⟩:=hn g1 w1 σ1 e1 a1 q1 r1 E1 v1 d1;simp only[bp,Nat.one_mul,Go.wpOpsIn,hlo];unfold SN at h1;split at h1
   ·rename_i c hop hg P5;split at h1
    ·rename_i f B9 hargs;have hwn:Region.wanted o (yielded ops a1.tmps)=true:=by simp[Region.wanted,hg]
     rw[aB hwn];have hv:=bL h1 E1;rw[hx]at hv;generalize hfv:a1.eval f=fv at hv;have mz:=hv;cases hv;rename_i f1 c1 _ _ _ _
     have hz:c.args = #[]:=by
      have:=bC List.toArray hargs;simpa using this
     have hrun:(o.semAt (WF none).round a1.eval).run P w1 = .ok (.defer { target:= .fn (.func n) c1,args:=f1 }) w1:=by
      show(execOp a1.eval o).run P w1=_;unfold execOp;simp only[hop,resolve,B9,hz,hfv,Deferred.ofValue,Sem.run_bind,Sem.run_pure,Result.andThen_ok];simp
     refine⟨fun _ _=>trivial,?_⟩;rw[hrun];simp only[Oper.uponIn,P5,Act.put];exact hq f1 c1 mz
    ·cases h1
   ·cases h1
  ·cases hc
 ·cases hc
def zQ{g:aC}{w:World}{pv:Option AV}{u:FrameMode}(h:y6 g w pv u): u≠ .run/\settle (sD u) = .returning:=by
 cases pv with
 | none=>have h:u = .returning:=h;subst h;exact⟨aT,rfl⟩
 | some a=>obtain⟨v,h,_⟩:=h;subst h;exact⟨aT,rfl⟩
def y6.mono{g g':aC}{w w':World}(hm:jQ g w g' w'){pv:Option AV}{u:FrameMode}(h:y6 g w pv u): y6 g' w' pv u:=by
 cases pv with
 | none=>exact h
 | some a=>obtain⟨v,h,hv⟩:=h;exact⟨v,h,hv.mono hm⟩
def EP {fn : Func} {rs : List kp} {R : Out -> ai -> Prop} {g0 : aC} {w0 : World} {lY : ai} (L8 : kW P fn.ntmps fn.results.toList = some rs) {g1 : aC} {w1 : World} {σ1 : ai} {g' : aC} {w' : World} {σ' : ai} {e' : Env} {tmps : Array Value} {n : FuncId} {first cap : List AV} {f1 c1 : Array Value} {ms1 ms : List Deferred} {pv : Option AV} {u : FrameMode}
    (fX:ep lY g0 w0 σ1 g1 w1) (hB:w0.heap.size<=w1.heap.size) (Z6:w8 (fun D=>w0.heap.size<=D) σ1 g1 w1 ms1) (hv:VR g1 w1 (.fn (.func n) first cap) (.func (.func n) f1 c1)) (GF:w8 (fun D=>w1.heap.size<=D) σ' g' w' ms) (hR:Rel g' w' σ') (hE:fm fn.ntmps g' w' e' tmps) (Sx:ep σ1 g1 w1 σ' g' w')
    (hu:y6 g' w' pv u) (hq:tV P n (first++cap) pv σ' fun σ'=>mj e' σ' rs fun vs=>R (.ret (oneOf vs)) σ') :
    LeavesInM (WF none) 0 P fn tmps (fun e w'=> ∃ out g' σ',Rel g' w' σ'/\ep lY g0 w0 σ' g' w'/\vf g' w' out e/\R out σ') (ms++({ target:= .fn (.func n) c1,args:=f1 }::ms1)) u w':=by
 refine pO (zQ hu).1 ms w' GF hR hE Sx (fun w2 R2 E2 V2 M2=>?_);cases hv;rename_i hl hh hl' Dy;obtain⟨c3,c4⟩:=qb hl (fun i hi=>(hh i hi).mono V2.mono) hl' (fun i hi=>(Dy i hi).mono V2.mono);refine⟨(zQ hu).1,.inr ⟨fun h=>by simp[WF,Fence.wide]at h,.func n,c1,n,f1++c1,rfl,?_,fun _ _=>trivial,?_⟩⟩
 ·simp only[invoke];exact r9 hq.1 _ _
 refine(hq.2 g' w2 (f1++c1) u R2 c3 c4 (hu.mono M2)).mono ?_;rintro e u' w3 ⟨g3,σ3,v,rfl,rfl,R3,V3,hres⟩;show LeavesInM (WF none) 0 P fn tmps _ ms1 (settle (sD u)) w3;rw[(zQ hu).2]
 have:=pO (X:=[]) (P:=P) (R:=fun e w'=> ∃ out g' σ',Rel g' w' σ'/\ep lY g0 w0 σ' g' w'/\vf g' w' out e/\R out σ') (fn:=fn) (tmps:=tmps) (u:= .returning) aT ms1 w3 (Z6.step (V2.trans V3)) R3 (E2.mono V3.mono) ((fX.trans V2).trans V3) (fun w4 R4 E4 V4 M4=>by
  obtain⟨sW,us,r1,r2,r3,r4⟩:=L7 (P:=P) R4 E4 fn.results.toList rs _ L8 hres;exact⟨_,uj r1,.ret (oneOf sW),g3,σ3,R4,V4,R_ r2 r3,r4⟩)
 simpa using this
def RF {fn : Func} {h : Hints} {rs : List kp} {R : Out -> ai -> Prop} {g0 : aC} {w0 : World} {lY : ai} (L8 : kW P fn.ntmps fn.results.toList = some rs) : ∀ (c : Code) (dc : sG) (g : aC) (w : World) (σ : ai) (e : Env) (a : Act),
    B_ P fn.ntmps h c=some dc->dc.wp P (xg rs R) (EO P rs R) e σ->Rel g w σ->fm fn.ntmps g w e a.tmps->ja [] (fun D=>w0.heap.size<=D) σ g w a.defers->w0.heap.size<=w.heap.size->ep lY g0 w0 σ g w ->
    c.wpIn (WF none) 0 P (bodyPostM (WF none) 0 P fn fun e w'=> ∃ out g' σ',Rel g' w' σ'/\ep lY g0 w0 σ' g' w'/\vf g' w' out e/\R out σ') a w:=by
 intro c
 have base:∀ (g:aC) (w:World) (σ : ai) (ex:Exit) (a':Act) (w':World),QR [] fn.ntmps (fun D=>w0.heap.size<=D) g w σ (xg rs R) ex a' w'->ep lY g0 w0 σ g w->bodyPostM (WF none) 0 P fn (fun e w'=> ∃ out g' σ',Rel g' w' σ'/\ep lY g0 w0 σ' g' w'/\vf g' w' out e/\R out σ') ex a' w' :=
  fun g w σ ex a' w' hq fX=>GG L8 (QR.step fX hq)
 induction c with
 | seq x y w_ uM =>
   intro dc g w σ e a hc hw hR hE hd hB fX;simp only[B_]at hc;split at hc
   ·rename_i gs clo hr;obtain⟨rest,ai4,rfl⟩:=aW.1 hc;obtain⟨ops,ho,SM⟩:=eR.1 hr;cases x with
    | region id ops' d =>
      cases d with
      | true=>cases ho
      | false =>
        cases ho
        refine wpIn_seq (wpIn_region (XE (Q:=ny (fun e σ=>match clo.ev e with
         | .fn (.func n) first cap=>fg P rest (EO P rs R n (first++cap)) e σ
         | _=>False) (xg rs R)) SM hw hR hE hd ?_ ?_))
        ·intro g1 w1 σ1 e1 a1 q1 R1 E1 V1 D1;simp only[ny]at q1;split at q1
         ·rename_i n first cap hx
          refine⟨n,first,cap,hx,fun f1 c1 hv=>?_⟩;obtain⟨ms1,Z6,Z7⟩:=D1;refine wpIn_mono (wm y ({ target:= .fn (.func n) c1,args:=f1 }::a1.defers) none 0 (fun D=>w1.heap.size<=D) rest _ g1 w1 σ1 e1 _ ai4 q1 R1 E1 (ja.nil _ _ _ _ _) (Ab.at _ _)) ?_;rintro ex a2 w2 ⟨g2,e2,σ2,⟨ms,GF,hmo⟩,R2,E2,V2,q2⟩;have hds:a2.defers=ms++({ target:= .fn (.func n) c1,args:=f1 }::ms1):=by rw[GF,Z6,cI]
          have hsz:=bS hB V1.size;cases ex with
          | normal =>
            show LeavesInM (WF none) 0 P fn a2.tmps _ a2.defers .returning w2;rw[hds];exact EP (pv:=none) L8 (fX.trans V1) hsz Z7 hv hmo R2 E2 V2 rfl q2
          | ret =>
            show LeavesInM (WF none) 0 P fn a2.tmps _ a2.defers .returning w2;rw[hds];exact EP (pv:=none) L8 (fX.trans V1) hsz Z7 hv hmo R2 E2 V2 rfl q2
          | panic ch =>
            obtain⟨v,av,rfl,XB,q2⟩:=q2;show LeavesInM (WF none) 0 P fn a2.tmps _ a2.defers _ w2;rw[hds];exact EP (pv:=some av) L8 (fX.trans V1) hsz Z7 hv hmo R2 E2 V2 ⟨v,rfl,XB⟩ q2
          | exit id=>exact q2.elim
          | goto l=>exact q2.elim
          | outgrown=>exact q2.elim
         exact q1.elim
        rintro ex a' w' hne ⟨g',e',σ',r1,r2,r3,r4,r5⟩;cases ex with
        | normal=>exact absurd rfl hne
        | exit id=>exact r5.elim
        | goto l=>exact r5.elim
        | ret=>exact base g w σ .ret a' w' ⟨g',e',σ',r1,r2,r3,r4,r5⟩ fX
        | panic ch=>exact base g w σ (.panic ch) a' w' ⟨g',e',σ',r1,r2,r3,r4,r5⟩ fX
        | outgrown=>exact r5.elim
    | _=>cases ho
   split at hc
   ·rename_i c1 d1 h1 h2;cases hc;refine wpIn_seq (wpIn_mono (wm x [] none 0 (fun D=>w0.heap.size<=D) c1 _ g w σ e a h1 hw hR hE hd (fun _ D hD=>bS hB hD)) ?_);rintro ex a' w' ⟨g',e',σ',r1,r2,r3,r4,r5⟩;cases ex with
    | normal=>exact uM d1 g' w' σ' e' a' h2 r5 r2 r3 r1 (bS hB r4.size) (fX.trans r4)
    | exit id=>exact r5.elim
    | goto l=>exact r5.elim
    | ret=>exact base g w σ .ret a' w' ⟨g',e',σ',r1,r2,r3,r4,r5⟩ fX
    | panic ch=>exact base g w σ (.panic ch) a' w' ⟨g',e',σ',r1,r2,r3,r4,r5⟩ fX
    | outgrown=>exact r5.elim
   ·cases hc
 | _=>intro dc g w σ e a hc;cases hc
def cV.aeW {f : FuncId} {fn : Func} {h : Hints} {df : JM} {args : List AV} {σ : ai} {R : Out → ai → Prop} (hf : P.funcs[f]? = some fn) (hn : (fn.name == "runtime.NumGoroutine") = false) (hc : EN P h fn = some df)
    (hl:args.length<=df.nt) (hw:df.body.wp P (xg df.results R) (EO P df.results R) (fC args) σ):cV P f args σ R:=by
 unfold EN at hc;split at hc
 ·rename_i c hb;split at hc
  ·rename_i b rs h1 h2;cases hc;refine⟨⟨fn,hf,by simp[hb],hn⟩,fun g w vs hR hlen hv=>?_⟩;refine FC.1 (callsIn_of_wp_marks (F:=WF none) (n:=0) hf hb trivial (RF h2 c b g w σ (fC args) _ h1 hw hR ⟨?_,fun t ht=>?_⟩ (ja.nil _ _ _ _ _) (aV _) (.refl _ _ _)))
   ·simp only at hl;simp;omega
   by_cases h:t<args.length
   ·have h3:t<vs.size:=ae;have:=hv t h;simp only[fC];rw[bQ,bT h3];simpa using this
   have:fC args t = .undef:=by simp[fC,eo (iw h)]
   rw[this];exact .undef _
  ·cases hc
 ·cases hc
