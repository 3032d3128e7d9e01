/- Part. -/
import Derived.Test.YthakfmmgnjpmdaaGreatDoorW38
set_option linter.all false
set_option maxHeartbeats 4000000
namespace Go.Proofs.YthakfmmgnjpmdaaGreatDoor
open Go.AM
set_option maxRecDepth 4000
def TY{α : Type}[Inhabited α](f : α->aO){l:List α}{i:Nat}(hi:i<l.length)(x:aO): x++(l.take (i+1)).flatMap f=(x++(l.take i).flatMap f)++f (l.getD i default):=by
 rw[take_succ hi,List.flatMap_append];simp
def Y6(s:aO): (n_ s).length<=10+s.length:=by unfold n_;have:=kx s.length;rw[List.length_append];omega
def abI{l:List aL}(hl:l.length<=8)(h:∀ v ∈ l,br v=true): (oV l).length<=1000:=by
 have h1:=kx l.length
 have h2:(l.flatMap lQ).length<=70*l.length:=by
  clear h1 hl
  induction l with
  | nil=>simp
  | cons v l ih =>
    have a1:=JL v;have a2:=HQ (h v (by simp));have a3:=ih (fun w hw=>h w (by simp[hw]));rw[fh,List.length_append,List.length_cons];omega
 unfold oV;rw[List.length_append];omega
def yL{a b:Nat}(h:a+b<=2 ^ 40): ((a+b:Nat):Int)<=IntKind.i64.max:=by show _<=(9223372036854775807:Int);omega
section
variable {σ : ae} {K Kp:AV->ae->Prop} {k:Nat}
def E0{s x:aO}{l:List aL}(hok:oF l)(hr:l.all br=true)(hx:oV l=x)(gO : σ[k]? = some (.cells [.str s]))(ha:((s.length+x.length:Nat):Int)<=IntKind.i64.max)(hk:j8 (.bH []) (.mk:Tg fun r=>vF (σ.set k (.cells [.str (s++x)])) (.mk:Tg fun σ=>K r σ))): qf Tryz.prog 45 [.aN false EV (l.map bX),.ref k 0] σ (.mk:Tg (K,Kp)):=by
 have c:=Y3 l hok;have e:FD l=(oV l,0):=by unfold FD;rw[if_pos hr]
 rw[e,hx]at c;simp only[aW]at c;refine IG.go ?_;unfold dO;intro Q aB aC aD;repeat' first|simp (disch:=omega) only[go_sem,aB,aC,aD,gO]|refine au ?_|refine eZ c ?_|refine aq ?_ ?_<;>intro hw<;>try omega|fail
 exact hk
end
def MU{l:List aL}(h:jl l=true): l.all br=true/\(oV l).length<=1000:=by
 obtain⟨h1,h2⟩:=JI h;exact⟨aV.2 h2,abI (by omega) h2⟩
def JM(e:jL)(ok:qt e)(h:pG e=true): aM aH 23 [jP e] (.str (lH e)):=by
 obtain⟨z1,z2,z3,z4,z5,z6,z7⟩:=JH h;obtain⟨o1,o2,o3,o4,o5,o6,o7⟩:=ok;have hl:=QH z4;have aki:=QG z1;have c1:=JK e.table (by omega);have c2:=nO e.ver o2;have c3:=nO e.err o4;have c4:=nO e.rules.length ⟨by omega,by omega⟩;have c5:=nO e.rows.length ⟨by omega,by omega⟩;have l1:=Y6 e.table;have l2:=kx e.ver;have l3:=kx e.err;have l4:=kx e.rules.length;have l5:=kx e.rows.length;have p1:=MU z6;obtain⟨E,hE⟩:∃ E,lH e=E:=⟨_,rfl⟩;rw[hE];unfold lH at hE;obtain⟨A,B,C,D,F,G⟩:=e;dsimp only at *;obtain⟨xc,xY⟩:∃ x,oV C=x:=⟨_,rfl⟩;rw[xY]at hE p1;generalize n_ A=xa at *;generalize ja B=xb at *;generalize ja D=xd at *;generalize ja F.length=xf at *;generalize ja G.length=xg at *;have a1:=yL (a:=xa.length) (b:=xb.length) (by omega);have a2:=yL (a:=(xa++xb).length) (b:=xc.length) (by rw[List.length_append];omega);have a3:=yL (a:=xd.length) (b:=xf.length) (by omega);have a4:=yL (a:=(xa++xb++xc).length) (b:=(xd++xf).length) (by simp only[List.length_append];omega);simp only[List.length_append]at a2 a4;obtain⟨X,hX⟩:∃ x,xa++xb++xc++(xd++xf)=x:=⟨_,rfl⟩;have lX:=congrArg List.length hX;simp only[List.length_append]at lX;rw[hX]at hE;simp only[dL,aW,dU,jP,pZ]at c1 c2 c3 c4 c5 ⊢;refine aR Nk ?_;intro Q aB aC aD;repeat' first|simp (disch:=omega) only[go_sem,aB,aC,aD,hX]|refine au ?_|with_reducible refine E0 o3 p1.1 xY rfl (by simp only[List.length_append];exact a2) ?_|refine aq ?_ ?_<;>intro hw<;>try omega|fail
 with_reducible refine bE [6,37,38,39,40,41,42,43,44,45] (fun q:Nat=>[(37,I q)]) (fun q=>[.cells [.str A,I B,.aN false EV (C.map bX),I D,.aN false E1 (F.map pY),.aN false E1 (G.map aW)],.cells [.str (X++(F.take q).flatMap ja)]]) (fun q=>q<=F.length/\((F.take q).flatMap ja).length<=q*10) (fun q=>F.length-q) (0) ?_ ?_ ?_ ?_
 ·simp
 ·simp only[jf,List.flatMap_nil,bB]
 ·exact at_
 rintro i r ⟨g1,g2⟩;try dsimp only at g1 g2
 by_cases hi:i<F.length
 ·have hn:=o5.2 _ (bn hi);have wj:=TY ja hi X;obtain⟨n,hne⟩:∃ n,F.getD i default=n:=⟨_,rfl⟩;rw[hne]at hn wj;have c6:=nO n hn;have l6:=kx n;have hsl:=congrArg List.length wj;obtain⟨y,hy⟩:∃ y,X++(F.take i).flatMap ja=y:=⟨_,rfl⟩;have Oy:=congrArg List.length hy;simp only[List.length_append]at hsl Oy;rw[hy]at wj;have Wm:=yL (a:=y.length) (b:=(ja n).length) (by omega);repeat' first|simp (disch:=omega) only[go_sem,aB,aC,aD,hne,hy]|refine au ?_|refine aq ?_ ?_<;>intro hw<;>try omega|fail
  refine⟨i+1,?_,?_,?_,cZ,at_⟩
  ·exact⟨by omega,by omega⟩
  ·dsimp only;omega
  ·dsimp only;rw[wj]
 ·have ht:F.take i=F:=b_ (by omega);rw[ht]at g2;obtain⟨Y,hY⟩:∃ y,X++F.flatMap ja=y:=⟨_,rfl⟩;have lY:=congrArg List.length hY;simp only[List.length_append]at lY;have a5:=yL (a:=Y.length) (b:=xg.length) (by omega);rw[hY]at hE;obtain⟨Z,hZ⟩:∃ y,Y++xg=y:=⟨_,rfl⟩;have lZ:=congrArg List.length hZ;simp only[List.length_append]at lZ;rw[hZ]at hE;repeat' first|simp (disch:=omega) only[go_sem,aB,aC,aD,ht,hY,hZ]|refine au ?_|refine aq ?_ ?_<;>intro hw<;>try omega|fail
  with_reducible refine bE [8,57,58,59,60,61,62,63,64] (fun q:Nat=>[(57,I q)]) (fun q=>[.cells [.str A,I B,.aN false EV (C.map bX),I D,.aN false E1 (F.map pY),.aN false E1 (G.map aW)],.cells [.str (Z++(G.take q).flatMap oV)]]) (fun q=>q<=G.length/\((G.take q).flatMap oV).length<=q*1000) (fun q=>G.length-q) (0) ?_ ?_ ?_ ?_
  ·simp
  ·simp only[jf,List.flatMap_nil,bB]
  ·exact at_
  rintro i' r' ⟨f1,f2⟩;try dsimp only at f1 f2
  by_cases hi':i'<G.length
  ·have hv:=o7 _ (bn hi');have tM:=MU (z7 _ (bn hi'));have wj:=TY oV hi' Z;obtain⟨n,hne⟩:∃ n,G.getD i' default=n:=⟨_,rfl⟩;rw[hne]at hv wj tM;obtain⟨xr,hxr⟩:∃ x,oV n=x:=⟨_,rfl⟩;have hsl:=congrArg List.length wj;obtain⟨y,hy⟩:∃ y,Z++(G.take i').flatMap oV=y:=⟨_,rfl⟩;have Oy:=congrArg List.length hy;simp only[List.length_append]at hsl Oy;rw[hy]at wj;rw[hxr]at wj hsl tM;have Wm:=yL (a:=y.length) (b:=xr.length) (by omega);repeat' first|simp (disch:=omega) only[go_sem,aB,aC,aD,hne,hy]|refine au ?_|with_reducible refine E0 hv tM.1 hxr rfl Wm ?_|refine aq ?_ ?_<;>intro hw<;>try omega|fail
   refine⟨i'+1,?_,?_,?_,cZ,at_⟩
   ·exact⟨by omega,by omega⟩
   ·dsimp only;omega
   ·dsimp only;rw[wj]
  ·have ht':G.take i'=G:=b_ (by omega);repeat' first|simp (disch:=omega) only[go_sem,aB,aC,aD,ht']|refine au ?_|refine aq ?_ ?_<;>intro hw<;>try omega|fail
   exact aU (by rw[<-hE]) rfl
end Go.Proofs.YthakfmmgnjpmdaaGreatDoor
namespace Go.Proofs.YthakfmmgnjpmdaaGreatDoor
open Go.AM
set_option maxRecDepth 4000
def Aa(e:jL)(ok:qt e): aM aH 10 [jP e] (I (pH e)):=by
 have c1:=Sl e ok;have c2:=fun h=>JM e ok h;unfold pH;generalize pG e=b at *;cases b with
 | false =>
   simp only[jP,pZ,dL,aW,dU]at c1 ⊢;refine aR Ao ?_;intro Q aB aC aD;repeat' first|refine au ?_|refine aq ?_ ?_<;>intro hw<;>try omega|fail
   all_goals first|exact a_|exact aU rfl rfl
 | true =>
   have c2:=c2 rfl;generalize lH e=t at *;rw[if_neg (by simp)];simp only[jP,pZ,dL,aW,dU]at c1 c2 ⊢;refine aR Ao ?_;intro Q aB aC aD;repeat' first|refine au ?_|refine aq ?_ ?_<;>intro hw<;>try omega|fail
   ·exact aU (by rw[if_pos (by omega)]) rfl
   ·exact aU (by rw[if_neg (by omega)]) rfl
def T0(p:aO × Int): AV:= .bH [.str p.1,I p.2]
def Ab(e:jL)(ok:qt e): aM aH 9 [jP e] (T0 (jm e)):=by
 have c1:=Aa e ok;have hz:=@zZ e;have c2:=fun h=>JM e ok h;unfold jm;generalize pH e=k at *;by_cases h0:k≠0
 ·rw[if_pos h0];simp only[T0,jP,pZ,dL,aW,dU]at c1 ⊢;refine aR Am ?_;intro Q aB aC aD;repeat' first|refine au ?_|refine aq ?_ ?_<;>intro hw<;>try omega|fail
  all_goals first|exact a_|exact bx rfl rfl
 rw[if_neg h0];obtain rfl:k=0:=by omega
 have c2:=c2 (hz rfl).1;generalize lH e=t at *;simp only[T0,jP,pZ,dL,aW,dU]at c1 c2 ⊢;refine aR Am ?_;intro Q aB aC aD;repeat' first|refine au ?_|refine aq ?_ ?_<;>intro hw<;>try omega|fail
 all_goals first|exact a_|exact bx rfl rfl
end Go.Proofs.YthakfmmgnjpmdaaGreatDoor
namespace Go.Proofs.YthakfmmgnjpmdaaGreatDoor
open Go.AM
set_option maxRecDepth 4000
def KX(l m:List Int)(hl:l.length<=2 ^ 60)(hm:m.length<=2 ^ 60): aM aH 41 [dL l,dL m] (.bool (fO (fun a b=>a==b) l m)):=by
 simp only[dL];refine aR FN ?_;intro Q aB aC aD;repeat' first|refine au ?_|refine aq ?_ ?_<;>intro hw<;>try omega|fail
 ·refine aU ?_ rfl;rw[s_ (by omega)]
 have wc:l.length=m.length:=by omega
 with_reducible refine bE [4,5,11,12,13,14,15,16,17,18,19,20,21,22,23,24,25] (fun i:Nat=>[(5,I i)]) (fun _=>[]) (fun i=>i<=l.length/\ ∀ k,k<i->(l.getD k default==m.getD k default)=true) (fun i=>l.length-i) (0) ?_ ?_ ?_ ?_
 ·simp
 ·rfl
 ·exact at_
 rintro i r ⟨h1,h2⟩;by_cases hi:i<l.length
 ·repeat' first|refine au ?_|refine aq ?_ ?_<;>intro hw<;>try omega|fail
  ·refine aU ?_ rfl;rw[v8 (p:=fun a b=>a==b) hi (by rw[<-Bool.not_eq_true];simp_all) (by omega)]
  ·refine⟨i+1,?_,?_,by first|rfl|(simp[go_sem];done),cZ,at_⟩<;>(try dsimp only)
   ·exact⟨by omega,bQ h2 (by simp_all)⟩
   ·omega
 ·repeat' first|refine au ?_|refine aq ?_ ?_<;>intro hw<;>try omega|fail
  refine aU ?_ rfl;rw[td (p:=fun a b=>a==b) wc (fun k hk=>h2 k (by omega))]
def KY(l m:List (List aL))(hl:l.length<=2 ^ 60)(hm:m.length<=2 ^ 60)(hl2:∀ r ∈ l,r.length<=2 ^ 60)(LR:∀ r ∈ m,r.length<=2 ^ 60): aM aH 42 [dU l,dU m] (.bool (fO (fO fun a b=>a==b) l m)):=by
 simp only[dU];refine aR FO ?_;intro Q aB aC aD;repeat' first|refine au ?_|refine aq ?_ ?_<;>intro hw<;>try omega|fail
 ·refine aU ?_ rfl;rw[s_ (by omega)]
 have wc:l.length=m.length:=by omega
 with_reducible refine bE [4,5,11,12,13,14,15,16,17,18,19,20,21,22,23,24,25,26] (fun i:Nat=>[(5,I i)]) (fun _=>[]) (fun i=>i<=l.length/\ ∀ k,k<i->fO (fun a b=>a==b) (l.getD k default) (m.getD k default)=true) (fun i=>l.length-i) (0) ?_ ?_ ?_ ?_
 ·simp
 ·rfl
 ·exact at_
 rintro i r ⟨h1,h2⟩;by_cases hi:i<l.length
 ·have c:=CQ _ _ (hl2 _ (bn hi)) (LR _ (bn (show i<m.length by omega)));have hne:=fun h=>v8 (p:=fO fun a b=>a==b) hi h (show i<m.length by omega);have dV:=fun he=>bQ (q:=fun k=>fO (fun a b=>a==b) (l.getD k default) (m.getD k default)=true) h2 (i:=i) he;generalize fO (fun a b=>a==b) (l.getD i default) (m.getD i default)=v at c hne dV;simp only[aW]at c;repeat' first|refine au ?_|refine eZ c ?_|refine aq ?_ ?_<;>intro hw<;>try omega|fail
  all_goals first
   | exact a_
   |(refine aU ?_ rfl;rw[hne (by simp_all)])
   | (refine ⟨i + 1, ?_, ?_, ?_, cZ, at_⟩ <;> (try dsimp only)
      ·exact⟨by omega,dV (by simp_all)⟩
      ·omega
      all_goals (first|rfl|(simp[go_sem];done)))
 ·repeat' first|refine au ?_|refine aq ?_ ?_<;>intro hw<;>try omega|fail
  refine aU ?_ rfl;rw[td wc (fun k hk=>h2 k (by omega))]
def CW(e:jL): Prop:=e.input.length<=2 ^ 60/\e.rules.length<=2 ^ 60/\e.rows.length<=2 ^ 60/\ ∀ r ∈ e.rows,r.length<=2 ^ 60
def qt.sm{e:jL}(h:qt e): CW e:=by
 obtain⟨h1,h2,h3,h4,h5,h6,h7⟩:=h;refine⟨by have:=h3.1;omega,by have:=h5.1;omega,by omega,fun r hr=>?_⟩;have:=(h7 r hr).1;omega
def uG(e:jL): List AV:=[I e.err,dL e.rules,dU e.rows]
def Wo(a b:jL)(ha:CW a)(hb:CW b): aM aH 22 [.agg (uG a),.agg (uG b)] (.bool (decide (a.err=b.err) && fO (fun x y=>x==y) a.rules b.rules && fO (fO fun x y=>x==y) a.rows b.rows)):=by
 have c1:=KX a.rules b.rules ha.2.1 hb.2.1;have c2:=KY a.rows b.rows ha.2.2.1 hb.2.2.1 ha.2.2.2 hb.2.2.2;generalize fO (fun x y=>x==y) a.rules b.rules=v1 at *;generalize fO (fO fun x y=>x==y) a.rows b.rows=v2 at *;obtain⟨n,hn⟩:∃ n,a.err=n:=⟨_,rfl⟩;obtain⟨m,hm⟩:∃ n,b.err=n:=⟨_,rfl⟩;simp only[uG,hn,hm,dL,dU]at c1 c2 ⊢;refine aR Nj ?_;intro Q aB aC aD;repeat' first|refine au ?_|refine aq ?_ ?_<;>intro hw<;>try omega|fail
 all_goals first|exact a_|skip
 all_goals (refine aU ?_ rfl;simp_all)
def JN(a b:jL)(ha:CW a)(hb:CW b): aM aH 8 [jP a,jP b] (.bool (mD a b)):=by
 have c1:=CQ a.input b.input ha.1 hb.1;have c2:=Wo a b ha hb
 have e:mD a b=(decide (a.table=b.table) && decide (a.ver=b.ver) && fO (fun x y=>x==y) a.input b.input && (decide (a.err=b.err) && fO (fun x y=>x==y) a.rules b.rules && fO (fO fun x y=>x==y) a.rows b.rows)):=by
  unfold mD;simp only[Bool.and_assoc]
 rw[e];clear e;generalize fO (fun x y=>x==y) a.input b.input=v1 at *;generalize (decide (a.err=b.err) && fO (fun x y=>x==y) a.rules b.rules && fO (fO fun x y=>x==y) a.rows b.rows)=v2 at *;simp only[jP,pZ,uG,dL,dU,aW]at c1 c2 ⊢;refine aR Nh ?_;intro Q aB aC aD;repeat' first|refine au ?_|refine F9 c2 ?_|refine aq ?_ ?_<;>intro hw<;>try omega|fail
 all_goals first|exact a_|skip
 all_goals (refine aU ?_ rfl;simp_all)
end Go.Proofs.YthakfmmgnjpmdaaGreatDoor
namespace Go.Proofs.YthakfmmgnjpmdaaGreatDoor
open Go.AM
set_option maxRecDepth 4000
def KZ(n:Nat)(s:aO): Bool:=decide (s.length<=n)
def E5(l:List aO): Bool:=decide (l.length<=10) && l.all (KZ 300)
def Gu(l:List aO): aM aH 15 [lC l] (.bool (E5 l)):=by
 obtain⟨E,hE⟩:∃ E,E5 l=E:=⟨_,rfl⟩;rw[hE];unfold E5 at hE;simp only[lC];refine aR Kl ?_;intro Q aB aC aD;repeat' first|refine au ?_|refine aq ?_ ?_<;>intro hw<;>try omega|fail
 ·refine aU ?_ rfl;rw[<-hE,decide_eq_false (by omega),gM]
 have h10:l.length<=10:=by omega
 rw[decide_eq_true h10,fH]at hE;with_reducible refine bE [2,3,7,8,9,10,11,12,13,14,15,16,17,18] (fun i:Nat=>[(3,I i)]) (fun _=>[]) (fun i=>i<=l.length/\ ∀ k,k<i->KZ 300 (l.getD k default)=true) (fun i=>l.length-i) (0) ?_ ?_ ?_ ?_
 ·simp
 ·rfl
 ·exact at_
 rintro i r ⟨h1,h2⟩;by_cases hi:i<l.length
 ·have hne:=fun h=>EH (p:=KZ 300) hi h;have dV:=fun he=>bQ (q:=fun k=>KZ 300 (l.getD k default)=true) h2 (i:=i) he;have hS:KZ 300 (l.getD i default)=decide ((l.getD i default).length<=300):=rfl;rw[hS]at hne dV;repeat' first|refine au ?_|refine aq ?_ ?_<;>intro hw<;>try omega|fail
  all_goals first
   | exact a_
   |(refine aU ?_ rfl;rw[<-hE,hne (decide_eq_false (by omega))])
   | (refine ⟨i + 1, ?_, ?_, by first | rfl | (simp [go_sem]; done), cZ, at_⟩ <;> (try dsimp only)
      ·exact⟨by omega,dV (decide_eq_true (by omega))⟩
      ·omega)
 ·repeat' first|refine au ?_|refine aq ?_ ?_<;>intro hw<;>try omega|fail
  refine aU ?_ rfl;rw[<-hE,EI (fun k hk=>h2 k (by omega))]
def FE(c:cN): Bool:=decide (c.name.length<=300)
def E6(l:List cN): Bool:=decide (l.length<=12) && l.all FE
def Y7(l:List cN): aM aH 30 [bV l] (.bool (E6 l)):=by
 obtain⟨E,hE⟩:∃ E,E6 l=E:=⟨_,rfl⟩;rw[hE];unfold E6 at hE;simp only[bV];refine aR FL ?_;intro Q aB aC aD;repeat' first|refine au ?_|refine aq ?_ ?_<;>intro hw<;>try omega|fail
 ·refine aU ?_ rfl;rw[<-hE,decide_eq_false (by omega),gM]
 have h10:l.length<=12:=by omega
 rw[decide_eq_true h10,fH]at hE;with_reducible refine bE [2,3,7,8,9,10,11,12,13,14,15,16,17,18,19] (fun i:Nat=>[(3,I i)]) (fun _=>[]) (fun i=>i<=l.length/\ ∀ k,k<i->FE (l.getD k default)=true) (fun i=>l.length-i) (0) ?_ ?_ ?_ ?_
 ·simp
 ·rfl
 ·exact at_
 rintro i r ⟨h1,h2⟩;by_cases hi:i<l.length
 ·have hne:=fun h=>EH (p:=FE) hi h;have dV:=fun he=>bQ (q:=fun k=>FE (l.getD k default)=true) h2 (i:=i) he;have hS:FE (l.getD i default)=decide ((l.getD i default).name.length<=300):=rfl;rw[hS]at hne dV;repeat' first|refine au ?_|refine aq ?_ ?_<;>intro hw<;>try omega|fail
  all_goals first
   | exact a_
   |(refine aU ?_ rfl;rw[<-hE,hne (decide_eq_false (by omega))])
   | (refine ⟨i + 1, ?_, ?_, by first | rfl | (simp [go_sem]; done), cZ, at_⟩ <;> (try dsimp only)
      ·exact⟨by omega,dV (decide_eq_true (by omega))⟩
      ·omega)
 ·repeat' first|refine au ?_|refine aq ?_ ?_<;>intro hw<;>try omega|fail
  refine aU ?_ rfl;rw[<-hE,EI (fun k hk=>h2 k (by omega))]
def K0(c:cN): Bool:=decide (c.order.length<=12) && c.order.all sP
def Cr(l:List cN): Bool:=E6 l && l.all K0
def Gv(l:List cN): aM aH 14 [bV l] (.bool (Cr l)):=by
 have cf:=Y7 l;obtain⟨E,hE⟩:∃ E,Cr l=E:=⟨_,rfl⟩;rw[hE];unfold Cr at hE;have h12:E6 l=true->l.length<=12:=fun h=>by simp only[E6,aj,decide_eq_true_eq]at h;exact h.1
 simp only[bV]at cf ⊢;generalize E6 l=fe at *;refine aR Kk ?_;intro Q aB aC aD;cases fe with
 | false =>
   repeat' first|refine au ?_|refine aq ?_ ?_<;>intro hw<;>try omega|fail
   all_goals first
    | exact a_
    |(refine aU ?_ rfl;rw[<-hE,gM])
 | true =>
   rw[fH]at hE;have h12:=h12 rfl;repeat' first|refine au ?_|refine aq ?_ ?_<;>intro hw<;>try omega|fail
   all_goals first|exact a_|skip
   with_reducible refine bE [2,3,4,8,9,10,11,12,13,14,15,16,17,18,19,20,21,22,23,24,25,26,27,28,29,30,31,32,33,34,35,36,37,38,39,40,41] (fun i:Nat=>[(3,I i)]) (fun _=>[]) (fun i=>i<=l.length/\ ∀ k,k<i->K0 (l.getD k default)=true) (fun i=>l.length-i) (0) ?_ ?_ ?_ ?_
   ·simp
   ·rfl
   ·exact at_
   rintro i r ⟨h1,h2⟩;by_cases hi:i<l.length
   ·have hne:=fun h=>EH (p:=K0) hi h;have dV:=fun he=>bQ (q:=fun k=>K0 (l.getD k default)=true) h2 (i:=i) he;have hS:K0 (l.getD i default)=(decide ((l.getD i default).order.length<=12) && (l.getD i default).order.all sP):=rfl;rw[hS]at hne dV;obtain⟨c,hc⟩:∃ c,l.getD i default=c:=⟨_,rfl⟩;rw[hc]at hne dV;clear hS;repeat' first|simp (disch:=omega) only[go_sem,aB,aC,aD,hc]|refine au ?_|refine aq ?_ ?_<;>intro hw<;>try omega|fail
    ·refine aU ?_ rfl;rw[<-hE,hne (by rw[decide_eq_false (by omega),gM])]
    have ho:c.order.length<=12:=by omega
    rw[decide_eq_true ho,fH]at hne dV;with_reducible refine bE [2,4,21,22,23,24,25,26,27,28,29,30,31,32,33,34,35,36,37,38,39,40,41] (fun j:Nat=>[(4,I j)]) (fun _=>[]) (fun j=>j<=c.order.length/\ ∀ k,k<j->sP (c.order.getD k default)=true) (fun j=>c.order.length-j) (0) ?_ ?_ ?_ ?_
    ·simp
    ·rfl
    ·exact at_
    rintro j r2 ⟨g1,g2⟩;by_cases hj:j<c.order.length
    ·have afF:=fun h=>EH (p:=sP) hj h;have kG:=fun he=>bQ (q:=fun k=>sP (c.order.getD k default)=true) g2 (i:=j) he;have hS:sP (c.order.getD j default)=decide ((c.order.getD j default).s.length<=300):=rfl;rw[hS]at afF kG;repeat' first|simp (disch:=omega) only[go_sem,aB,aC,aD,hc]|refine au ?_|refine aq ?_ ?_<;>intro hw<;>try omega|fail
     all_goals first
      | exact a_
      |(refine aU ?_ rfl;rw[<-hE,hne (afF (decide_eq_false (by omega)))])
      | (refine ⟨j + 1, ?_, ?_, by first | rfl | (simp [go_sem]; done), cZ, at_⟩ <;> (try dsimp only)
         ·exact⟨by omega,kG (decide_eq_true (by omega))⟩
         ·omega)
    ·repeat' first|simp (disch:=omega) only[go_sem,aB,aC,aD,hc]|refine au ?_|refine aq ?_ ?_<;>intro hw<;>try omega|fail
     refine⟨i+1,?_,?_,by first|rfl|(simp[go_sem];done),cZ,at_⟩<;>(try dsimp only)
     ·exact⟨by omega,dV (EI (fun k hk=>g2 k (by omega)))⟩
     ·omega
   ·repeat' first|refine au ?_|refine aq ?_ ?_<;>intro hw<;>try omega|fail
    refine aU ?_ rfl;rw[<-hE,EI (fun k hk=>h2 k (by omega))]
def K3(r:iq): Bool:=E5 r.cells && E5 r.outs
def yM(t:Table): Bool:=decide (t.name.length<=300) && decide (t.rules.length<=26) && Cr t.ins && Cr t.outs && t.rules.all K3
def Sm(t:Table): aM aH 4 [dP t] (.bool (yM t)):=by
 have ci:=Gv t.ins;have co:=Gv t.outs;obtain⟨E,hE⟩:∃ E,yM t=E:=⟨_,rfl⟩;rw[hE];unfold yM at hE;simp only[dP,ic,bV,fj]at ci co ⊢;generalize Cr t.ins=oi at *;generalize Cr t.outs=oo at *;refine aR G4 ?_;intro Q aB aC aD;by_cases hb:(decide (t.name.length<=300) && decide (t.rules.length<=26) && oi && oo)=true
 case neg =>
  simp only[Bool.not_eq_true]at hb;rw[hb,gM]at hE;cases oi<;>cases oo
  all_goals
   repeat' first|refine au ?_|refine aq ?_ ?_<;>intro hw<;>try omega|fail
  all_goals first
   | exact a_
   |(refine aU ?_ rfl;rw[<-hE])
   |(exfalso;simp at hb;omega)
 rw[hb,fH]at hE;simp only[aj,decide_eq_true_eq]at hb;obtain⟨⟨⟨b1,b2⟩,rfl⟩,rfl⟩:=hb;repeat' first|refine au ?_|refine aq ?_ ?_<;>intro hw<;>try omega|fail
 all_goals first|exact a_|skip
 with_reducible refine bE [2,3,26,27,28,29,30,31,32,33,34,35,36,37,38,39,40,41,42,43,44,45,46,47,48,49,50] (fun i:Nat=>[(3,I i)]) (fun _=>[.cells [.str t.name,.aN false EC (t.ins.map ew),.aN false EC (t.outs.map ew),I t.bZ,I t.agg,.aN false ER (t.rules.map ia)]]) (fun i=>i<=t.rules.length/\ ∀ k,k<i->K3 (t.rules.getD k default)=true) (fun i=>t.rules.length-i) (0) ?_ ?_ ?_ ?_
 ·simp
 ·rfl
 ·exact at_
 rintro i r ⟨h1,h2⟩;by_cases hi:i<t.rules.length
 ·have hne:=fun h=>EH (p:=K3) hi h;have dV:=fun he=>bQ (q:=fun k=>K3 (t.rules.getD k default)=true) h2 (i:=i) he;have hS:K3 (t.rules.getD i default)=(E5 (t.rules.getD i default).cells && E5 (t.rules.getD i default).outs):=rfl;have c1:=Gu (t.rules.getD i default).cells;have c2:=Gu (t.rules.getD i default).outs;rw[hS]at hne dV;simp only[lC]at c1 c2;generalize E5 (t.rules.getD i default).cells=u1 at *;generalize E5 (t.rules.getD i default).outs=u2 at *;cases u1<;>cases u2
  all_goals
   repeat' first|refine au ?_|refine aq ?_ ?_<;>intro hw<;>try omega|fail
  all_goals first
   | exact a_
   |(refine aU ?_ rfl;rw[<-hE,hne rfl])
   | (refine ⟨i + 1, ?_, ?_, by first | rfl | (simp [go_sem]; done), cZ, at_⟩ <;> (try dsimp only)
      ·exact⟨by omega,dV rfl⟩
      ·omega)
 ·repeat' first|refine au ?_|refine aq ?_ ?_<;>intro hw<;>try omega|fail
  refine aU ?_ rfl;rw[<-hE,EI (fun k hk=>h2 k (by omega))]
end Go.Proofs.YthakfmmgnjpmdaaGreatDoor
namespace Go.Proofs.YthakfmmgnjpmdaaGreatDoor
open Go.AM
set_option maxRecDepth 4000
def HR(l m:List Int)(hl:l.length<=2 ^ 60)(hm:m.length<=2 ^ 60): aM aH 60 [dL l,dL m] (.bool (fO (fun a b=>a==b) l m)):=by
 simp only[dL];refine aR CZ ?_;intro Q aB aC aD;repeat' first|refine au ?_|refine aq ?_ ?_<;>intro hw<;>try omega|fail
 ·refine aU ?_ rfl;rw[s_ (by omega)]
 have wc:l.length=m.length:=by omega
 with_reducible refine bE [4,5,13,14,15,16,17,18,19,20,21,22,23,24,25] (fun i:Nat=>[(13,I i)]) (fun _=>[]) (fun i=>i<=l.length/\ ∀ k,k<i->(l.getD k default==m.getD k default)=true) (fun i=>l.length-i) (0) ?_ ?_ ?_ ?_
 ·simp
 ·rfl
 ·exact at_
 rintro i r ⟨h1,h2⟩;by_cases hi:i<l.length
 ·repeat' first|refine au ?_|refine aq ?_ ?_<;>intro hw<;>try omega|fail
  ·refine aU ?_ rfl;rw[v8 (p:=fun a b=>a==b) hi (by rw[<-Bool.not_eq_true];simp_all) (by omega)]
  ·refine⟨i+1,?_,?_,by first|rfl|(simp[go_sem];done),cZ,at_⟩<;>(try dsimp only)
   ·exact⟨by omega,bQ h2 (by simp_all)⟩
   ·omega
 ·repeat' first|refine au ?_|refine aq ?_ ?_<;>intro hw<;>try omega|fail
  refine aU ?_ rfl;rw[td (p:=fun a b=>a==b) wc (fun k hk=>h2 k (by omega))]
def yU (fn : FuncId) (cap : List AV) (hcap : AV.cg cap = true) (p : List aL -> List aL -> Bool) (l m : List (List aL))
    (h:∀ k,k<l.length->k<m.length->aM aH fn (aW (l.getD k default)::aW (m.getD k default)::cap) (.bool (p (l.getD k default) (m.getD k default)))) (hl:l.length<=2 ^ 62) (hm:m.length<=2 ^ 62) :
    aM aH 61 [dU l,dU m,.fn (.func fn) [] cap] (.bool (fO p l m)):=by
 refine aR wD ?_ (by simp[AV.dz,AV.cg,hcap]);intro Q aB aC aD;simp only[dU];repeat' first|refine au ?_|refine aq ?_ ?_<;>intro hw<;>try omega|fail
 ·refine aU ?_ rfl;rw[s_ (by omega)]
 have wc:l.length=m.length:=by omega
 with_reducible refine bE [6,7,8,9,17,18,19,20,21,22,23,24,25,26,27,28,29,30,31] (fun i:Nat=>[(17,I i)]) (fun _=>[]) (fun i=>i<=l.length/\ ∀ k,k<i->p (l.getD k default) (m.getD k default)=true) (fun i=>l.length-i) (0) ?_ ?_ ?_ ?_
 ·simp
 ·rfl
 ·exact at_
 rintro i r ⟨h1,h2⟩;by_cases hi:i<l.length
 ·have hy:=h i hi (by omega);simp only[aW]at hy;repeat' first|refine au ?_|refine aq ?_ ?_<;>intro hw<;>try omega|fail
  ·refine aU ?_ rfl;rw[v8 hi hw (by omega)]
  ·refine⟨i+1,?_,?_,by first|rfl|(simp[go_sem];done),cZ,at_⟩<;>(try dsimp only)
   ·exact⟨by omega,bQ h2 hw⟩
   ·omega
 ·repeat' first|refine au ?_|refine aq ?_ ?_<;>intro hw<;>try omega|fail
  refine aU ?_ rfl;rw[td wc (fun k hk=>h2 k (by omega))]
def Wp(a b:List aL)(ha:a.length<=2 ^ 60)(hb:b.length<=2 ^ 60): aM aH 62 [aW a,aW b] (.bool (fO (fun x y=>x==y) a b)):=by
 have c:=qN a b ha hb;generalize fO (fun x y=>x==y) a b=v at *;simp only[aW]at c ⊢;refine aR Np ?_;intro Q aB aC aD;repeat' first|refine au ?_|refine eZ c ?_|refine aq ?_ ?_<;>intro hw<;>try omega|fail
 exact aU rfl rfl
def abJ(a b:jL)(ha:CW a)(hb:CW b): aM aH 29 [.agg (uG a),.agg (uG b)] (.bool (decide (a.err=b.err) && fO (fun x y=>x==y) a.rules b.rules && fO (fO fun x y=>x==y) a.rows b.rows)):=by
 have c1:=HR a.rules b.rules ha.2.1 hb.2.1;have c2:=yU 62 [] rfl (fO fun x y=>x==y) a.rows b.rows (fun k h1 h2=>Wp _ _ (ha.2.2.2 _ (bn h1)) (hb.2.2.2 _ (bn h2))) (by have:=ha.2.2.1;omega) (by have:=hb.2.2.1;omega);generalize fO (fun x y=>x==y) a.rules b.rules=v1 at *;generalize fO (fO fun x y=>x==y) a.rows b.rows=v2 at *;obtain⟨n,hn⟩:∃ n,a.err=n:=⟨_,rfl⟩;obtain⟨m,hm⟩:∃ n,b.err=n:=⟨_,rfl⟩;simp only[uG,hn,hm,dL,dU]at c1 c2 ⊢;refine aR Rq ?_;intro Q aB aC aD;repeat' first|refine au ?_|refine aq ?_ ?_<;>intro hw<;>try omega|fail
 all_goals first|exact a_|skip
 all_goals (refine aU ?_ rfl;simp_all)
def Ct(a b:jL)(ha:CW a)(hb:CW b): aM aH 13 [jP a,jP b] (.bool (mD a b)):=by
 have c1:=qN a.input b.input ha.1 hb.1;have c2:=abJ a b ha hb
 have e:mD a b=(decide (a.table=b.table) && decide (a.ver=b.ver) && fO (fun x y=>x==y) a.input b.input && (decide (a.err=b.err) && fO (fun x y=>x==y) a.rules b.rules && fO (fO fun x y=>x==y) a.rows b.rows)):=by
  unfold mD;simp only[Bool.and_assoc]
 rw[e];clear e;generalize fO (fun x y=>x==y) a.input b.input=v1 at *;generalize (decide (a.err=b.err) && fO (fun x y=>x==y) a.rules b.rules && fO (fO fun x y=>x==y) a.rows b.rows)=v2 at *;simp only[jP,pZ,uG,dL,dU,aW]at c1 c2 ⊢;refine aR Ni ?_;intro Q aB aC aD;repeat' first|refine au ?_|refine aq ?_ ?_<;>intro hw<;>try omega|fail
 all_goals first|exact a_|skip
 all_goals (refine aU ?_ rfl;simp_all)
end Go.Proofs.YthakfmmgnjpmdaaGreatDoor
namespace Go.Proofs.YthakfmmgnjpmdaaGreatDoor
open Go.AM
def abK{v:aL}{a:List aL}(h:∀ v ∈ a,gk v)(h0:0<a.length)(e:v=a.getD 0 default): gk v:=by subst e;exact h _ (bn h0)
def MV: ∀ {l:List aL} {n:Int} {v:aL},ku n->zV l n = .ok v->gk v
 | [], n, v, hn, h => by
   have h:iW.ok ⟨1,n,[]⟩ = .ok v:=h;cases h;exact⟨by simp[br],hn,by simp⟩
 | u :: r, n, v, hn, h => by
   rw[EM]at h;rcases Cp (n+u.n)with ⟨e,hr⟩|e
   ·rw[e]at h;exact MV (l:=r) hr h
   ·rw[e]at h;cases h
def Gw: ∀ {l:List aL} {m:aL},(∀ v ∈ l,gk v)->gk m->gk (pC l m)
 | [],_,_,h=>h
 | v :: r, m, hl, h => by
   rw[Gr];refine Gw (fun w hw=>hl w (by simp[hw])) ?_;split
   ·exact hl v (by simp)
   ·exact h
def JO: ∀ {l:List aL} {m:aL},(∀ v ∈ l,gk v)->gk m->gk (uw l m)
 | [],_,_,h=>h
 | v :: r, m, hl, h => by
   rw[Jx];refine JO (fun w hw=>hl w (by simp[hw])) ?_;split
   ·exact hl v (by simp)
   ·exact h
def Wq{agg:Int}{rows:List (List aL)}{v:aL}(hr:rows.length<=2 ^ 30)(hw:∀ a ∈ rows,0<a.length/\ ∀ v ∈ a,gk v)(h:lW agg rows = .ok v): gk v:=by
 have hh:∀ v ∈ j0 rows,gk v:=fun v hv=>by
  obtain⟨a,ha,e⟩:=Jy hv;exact abK (hw a ha).2 (hw a ha).1 e
 by_cases h4:agg=4
 ·subst h4;rw[TN]at h;cases h;exact⟨by simp[br],⟨by dsimp only;omega,by dsimp only;omega⟩,by simp⟩
 cases hL:j0 rows with
 | nil=>rw[MJ h4 hL]at h;cases h;exact Fx
 | cons m l =>
   rw[hL]at hh;have hm:=hh m (by simp);have hl:∀ v ∈ l,gk v:=fun w hw=>hh w (by simp[hw]);by_cases h1:agg=1
   ·subst h1;rw[TP,hL,if_neg (by simp)]at h;exact MV (n:=0) (by unfold ku;omega) h
   by_cases h2:agg=2
   ·subst h2;rw[TQ hL]at h;cases h;exact Gw hl hm
   ·rw[TR h4 h1 h2 hL]at h;cases h;exact JO hl hm
structure JQ (n:Nat) (o:ux):Prop where
 err:0<=o.err/\o.err<=99
 aiV:o.rules.Pairwise (· < ·)
 rules:∀ i ∈ o.rules,0<=i/\i<24
 few:o.rules.length<=24
 rows:o.rows.length<=24
 row:∀ a ∈ o.rows,a.length<=n/\ ∀ v ∈ a,gk v
def NQ{t:Table}{rules:List Int}{rows:List (List aL)}{n:Nat}(hn:n=t.outs.length)(h0:0<n)(hr:rules.Pairwise (· < ·))(hi:∀ i ∈ rules,0<=i/\i<24)(hf:rules.length<=24)(hl:rows.length=rules.length)(hw:∀ a ∈ rows,a.length=n/\ ∀ v ∈ a,gk v): JQ n (mM t rules rows):=by
 have W:∀ a ∈ rows,a.length<=n/\ ∀ v ∈ a,gk v:=fun a h=>⟨by have:=(hw a h).1;omega,(hw a h).2⟩
 have one:∀ b,rules≠[]->b<rows.length->JQ n ⟨0,[rules.getD b default],[rows.getD b default]⟩:=fun b hne hb =>
  ⟨⟨by dsimp only;omega,by dsimp only;omega⟩,by simp,fun i h=>by obtain rfl:=List.mem_singleton.1 h;exact hi _ (bn (by omega)),by simp,by simp,fun a h=>by obtain rfl:=List.mem_singleton.1 h;exact W _ (bn hb)⟩
 unfold mM;split
 ·split
  ·have hp:(xy rows []).Perm rows:=by simpa using Cf rows []
   exact⟨⟨by dsimp only;omega,by dsimp only;omega⟩,hr,hi,hf,by show(xy rows []).length<=24;rw[hp.length_eq];omega,fun a h=>W a (hp.mem_iff.1 h)⟩
  ·split
   ·rename_i e he;have:=ML he;subst this;exact⟨⟨by dsimp only;omega,by dsimp only;omega⟩,hr,hi,hf,by simp,fun a h=>by cases h⟩
   ·rename_i v hv;have:=Wq (by omega) (fun a h=>⟨by have:=(hw a h).1;omega,(hw a h).2⟩) hv;refine⟨⟨by dsimp only;omega,by dsimp only;omega⟩,hr,hi,hf,by simp,fun a h=>?_⟩;obtain rfl:=List.mem_singleton.1 h;exact⟨by simp only[List.length_cons,List.length_nil];omega,fun w hw=>by obtain rfl:=List.mem_singleton.1 hw;exact this⟩
 split
 ·split
  ·exact⟨⟨by dsimp only;omega,by dsimp only;omega⟩,hr,hi,hf,by simp,fun a h=>by cases h⟩
  ·exact⟨⟨by dsimp only;omega,by dsimp only;omega⟩,hr,hi,hf,by show(rows.take 1).length<=24;rw[List.length_take];omega,fun a h=>W a (List.mem_of_mem_take h)⟩
 split
 ·exact⟨⟨by dsimp only;omega,by dsimp only;omega⟩,hr,hi,hf,by show rows.length<=24;omega,W⟩
 split
 ·exact⟨⟨by dsimp only;omega,by dsimp only;omega⟩,by simp,fun i h=>(by cases h),by simp,by simp,fun a h=>by cases h⟩
 ·rename_i hne;have Ms:0<rows.length:=by rw[hl];exact ik.2 hne
  split
  ·exact one _ hne (EL (by omega) Ms)
  ·exact one 0 hne Ms
def NR{r:Ready}{row:List aL}(h:V_ r row)(h2:(di r row).2=0): lN r.table.ins row=true/\JQ r.table.outs.length (di r row).1:=by
 have hR:=MP h.JE h.TT;have hl:=h.JE.lines
 have hin:(dS r row).2.2≠21->lN r.table.ins row=true:=fun hne=>by
  unfold dS at hne;split at hne
  ·assumption
  ·exact absurd rfl hne
 have H24:∀ i ∈ (dS r row).1,0<=i/\i<24:=fun i hi=>by have:=hR.1.2.1 i hi;omega
 have afG:∀ (e a:Int),sw e->0<=a/\a.toNat<r.lines.length->JQ r.table.outs.length ⟨e,[a],[]⟩:=fun e a he ha =>
  ⟨(Fz he).2.2,by simp,fun i h=>by obtain rfl:=List.mem_singleton.1 h;omega,by simp,by simp,fun a h=>by cases h⟩
 by_cases MQ:(dS r row).2.2=21
 ·rw[CV MQ]at h2;exact absurd h2 (by decide)
 refine⟨hin MQ,?_⟩;by_cases h0:(dS r row).2.2=0
 ·by_cases hu:r.table.bZ=1/\1<(dS r row).1.length
  ·rw[Bf h0 hu];exact⟨⟨by dsimp only;omega,by dsimp only;omega⟩,hR.1.1,H24,hR.1.2.2,by simp,fun a h=>by cases h⟩
  ·rw[EU h0 hu];rcases HO h.JE h.TT (q:=(dS r row).1) (acc:=[]) hR.1.2.1 (fun a h=>by cases h)with ⟨k1,k2,k3⟩|⟨k1,k2⟩
   ·rw[if_neg (by omega)];exact NQ rfl h.afD hR.1.1 H24 hR.1.2.2 (by simpa using k2) k3
   ·rw[if_pos (Fz k1).1];exact afG _ _ k1 (hR.1.2.1 _ k2)
 ·rw[Gs MQ h0];rcases hR.2 with h3|h3|h3
  ·exact absurd h3 h0
  ·exact absurd h3 MQ
  ·exact afG _ _ h3.1 h3.2
end Go.Proofs.YthakfmmgnjpmdaaGreatDoor
namespace Go.Proofs.YthakfmmgnjpmdaaGreatDoor
open Go.AM
def Gx{t:Table}(h:jQ t=0): jU t.name=true/\oB t.ins false=0/\oB t.outs (decide (t.bZ=3))=0/\pR t=true/\t.rules.length<=24:=by
 unfold jQ at h;by_cases h1:jU t.name=false
 ·rw[if_pos h1]at h;omega
 rw[if_neg h1]at h;by_cases h2:oB t.ins false≠0
 ·rw[if_pos h2]at h;exact absurd h h2
 rw[if_neg h2]at h;by_cases h3:oB t.outs (decide (t.bZ=3))≠0
 ·rw[if_pos h3]at h;exact absurd h h3
 rw[if_neg h3]at h;by_cases h4:pR t=false
 ·rw[if_pos h4]at h;omega
 rw[if_neg h4]at h;by_cases h5:24<t.rules.length
 ·rw[if_pos h5]at h;omega
 exact⟨by simpa using h1,by omega,by omega,by simpa using h4,by omega⟩
def zx{l:List cN}(h:mw l=0): l.length<=6:=by
 unfold mw at h;by_cases h6:6<l.length
 ·rw[if_pos h6]at h;omega
 ·omega
def JR{t:Table}{r:iq}(h:(jw t r).2.2=0): r.cells.length=t.ins.length/\r.outs.length=t.outs.length/\(jw t r).1=⟨kD t r r.cells.length,mV t r r.outs.length⟩/\ ∀ k,k<r.outs.length->(jv t r k).2=0:=by
 unfold jw at h ⊢;by_cases h1:r.cells.length≠t.ins.length\/r.outs.length≠t.outs.length
 ·rw[if_pos h1]at h;exact absurd h (by decide)
 rw[if_neg h1]at h ⊢;refine⟨by omega,by omega,?_⟩;split at h
 ·rename_i k hk;have:=eG hk;simp at this;exact absurd h this
 ·rename_i hn;try rw[hn]
  try dsimp only
  split at h
  ·rename_i k hk;have:=eG hk;simp at this;exact absurd h this
  ·rename_i hn2;try rw[hn2]
   refine⟨rfl,fun k hk=>?_⟩;have:=d_.1 hn2 k (by simpa using hk);simpa using this
def JT{t:Table}(h:(bS t).2.2.2=0): jQ t=0/\(bS t).1=⟨t,kX t t.rules.length⟩/\ ∀ j,j<t.rules.length->(kg t j).2.2=0:=by
 unfold bS at h ⊢;by_cases h1:jQ t≠0
 ·rw[if_pos h1]at h;exact absurd h h1
 rw[if_neg h1]at h ⊢;refine⟨by omega,?_⟩;split at h
 ·rename_i k hk;have:=eG hk;simp at this;exact absurd h this
 ·rename_i hn;try rw[hn]
  refine⟨rfl,fun k hk=>?_⟩;have:=d_.1 hn k (by simpa using hk);simpa using this
def Y8{t:Table}{r:iq}{n:Nat}{c:Cell}(h:c ∈ kD t r n): oA c:=by
 unfold kD at h;obtain⟨k,_,rfl⟩:=dW.1 h;exact B8 _
def abL{t:Table}{r:iq}{n:Nat}{x:Expr}(h:x ∈ mV t r n): ig x/\fW x<=2 ^ 30:=by
 unfold mV at h;obtain⟨k,_,rfl⟩:=dW.1 h;exact wm _
def MW{t:Table}{n:Nat}{l:jn}(h:l ∈ kX t n): ∃ j,j<n/\l=(kg t j).1:=by
 unfold kX at h;obtain⟨k,hk,rfl⟩:=dW.1 h;exact⟨k,by simpa using hk,rfl⟩
def Sn{ins:List cN}{row:List aL}(h:lN ins row=true)(hk:∀ i,i<ins.length->1<=(ins.getD i default).kind): ∀ i,i<ins.length->(row.getD i default).kind=0\/(row.getD i default).kind=(ins.getD i default).kind:=fun i hi=>by
 have hl:=HM h;unfold lN at h;rw[aj,aV]at h;have:=h.2 i (by simp;omega);rw[aj]at this;have h3:=this.2;have:=hk i hi;simp only[bT,bU,decide_eq_true_eq]at h3;omega
def QU{ins:List cN}{row:List aL}(h:lN ins row=true): ∀ v ∈ row,br v=true:=fun v hv=>by
 unfold lN at h;rw[aj,aV]at h;obtain⟨i,hi,rfl⟩:=bP hv;have:=h.2 i (by simpa using hi);rw[aj,ai,aF hi]at this;exact this.1
def Y9{t:Table}{k:Nat}{s:aO}(h:(su t k s).2=0): cq (su t k s).1=true/\ ∃ K,jr t.ins (su t k s).1=(K,0)/\bT K (t.outs.getD k default).kind=true:=by
 unfold su at h ⊢;dsimp only at h ⊢;generalize (iH s).1=x at *;by_cases h1:(iH s).2.2≠0
 ·rw[if_pos h1]at h;exact absurd h h1
 rw[if_neg h1]at h
 have hz:(jk t.ins x).2=0:=by
  split at h
  ·omega
  ·exact h
 have hr:cq x=true:=by
  cases hr:cq x with
  | true=>rfl
  | false=>unfold jk at hz;rw[hr]at hz;simp at hz
 have hk:jk t.ins x=jr t.ins x:=by unfold jk;rw[if_pos hr]
 rw[hk]at h hz;refine⟨hr,(jr t.ins x).1,Prod.ext rfl hz,?_⟩;cases hf:bT (jr t.ins x).1 (t.outs.getD k default).kind with
 | true=>rfl
 | false=>rw[if_pos ⟨hz,hf⟩]at h;omega
def MX{t:Table}(ht:oP t)(h:(bS t).2.2.2=0){row:List aL}(hrow:qo row): V_ (bS t).1 row:=by
 obtain⟨h0,h1,h2⟩:=JT h;obtain⟨f1,f2,f3,f4,f5⟩:=Gx h0;obtain⟨i1,i2⟩:=tu f2;obtain⟨o1,o2⟩:=tu f3;have i6:=zx i1;have o6:=zx o1
 have N4:∀ l ∈ kX t t.rules.length,(l.cells.length=t.ins.length/\ ∀ c ∈ l.cells,oA c)/\l.outs.length=t.outs.length/\ ∀ x ∈ l.outs,ig x/\fW x<=2 ^ 30:=fun l hl=>by
  obtain⟨j,hj,rfl⟩:=MW hl;obtain⟨l1,l2,l3,_⟩:=JR (h2 j hj);have l3:(kg t j).1=_:=l3;rw[l3];exact⟨⟨by rw[wo];exact l1,fun c hc=>Y8 hc⟩,by rw[B9];exact l2,fun x hx=>abL hx⟩
 rw[h1];refine⟨⟨by dsimp only;omega,by dsimp only;omega,by dsimp only;rw[tA];exact f5,N4⟩,hrow,o2,fun c hc=>?_,fun hp=>?_,fun hin hp ha l hl he=>?_⟩
 ·exact(ht.2.2.1.2 c hc).2.1
 ·dsimp only at hp ⊢;unfold pR at f4;rw[if_neg (by omega)]at f4;by_cases h0:t.agg=0
  ·omega
  rw[if_neg h0]at f4;by_cases h3:t.bZ≠5\/t.agg<1\/4<t.agg\/t.outs.length≠1
  ·rw[if_pos h3]at f4;exact absurd f4 (by decide)
  ·omega
 ·dsimp only at hin hp ha hl he ⊢
  have Lt:t.outs.length=1/\(t.outs.getD 0 default).kind=1:=by
   unfold pR at f4;rw[if_neg (by omega),if_neg (by omega)]at f4;by_cases h3:t.bZ≠5\/t.agg<1\/4<t.agg\/t.outs.length≠1
   ·rw[if_pos h3]at f4;exact absurd f4 (by decide)
   ·rw[if_neg h3,decide_eq_true_eq]at f4;refine⟨by omega,?_⟩;rcases f4 with h|h|h
    ·omega
    ·exact h
    ·exact absurd ha h.2
  obtain⟨j,hj,rfl⟩:=MW hl;obtain⟨l1,l2,l3,l4⟩:=JR (h2 j hj);have l3:(kg t j).1=_:=l3;rw[l3]at he ⊢;dsimp only at he ⊢;have e1:(t.rules.getD j default).outs.length=1:=by rw[l2];exact Lt.1
  have t0:=l4 0 (by omega);rw[e1]at he ⊢;have eo:mV t (t.rules.getD j default) 1=[(jv t (t.rules.getD j default) 0).1]:=rfl;rw[eo]at he ⊢;obtain⟨k1,K,k2,k3⟩:=Y9 t0;have k1:cq (jv t (t.rules.getD j default) 0).1=true:=k1;have k2:jr t.ins (jv t (t.rules.getD j default) 0).1=(K,0):=k2;have gx:=(wm ((t.rules.getD j default).outs.getD 0 default)).1;have gx:ig (jv t (t.rules.getD j default) 0).1:=gx;generalize (jv t (t.rules.getD j default) 0).1=x at *;have gg:=oQ (cs:=t.ins) hrow.2 gx;cases hv:jx x t.ins row with
  | err e=>rw[EJ hv]at he;rw[hv]at gg;exact absurd he (Bc gg)
  | ok v =>
    rw[Cl hv,EK]
    have kv:(jx x t.ins row).zn K:=by
     unfold jx;split
     ·exact adp (Sn hin (fun i hi=>(Ji i1 hi).1)) x K k1 k2
     ·trivial
    rw[hv]at kv;have kv:v.kind=0\/v.kind=K:=kv;rw[Lt.2]at k3;simp only[bT,bU,decide_eq_true_eq]at k3;show v.kind=0\/v.kind=1;omega
