/- Part. -/
import Derived.Test.YtoldfccfpameeaaGreatDoorX14
set_option linter.all false
set_option maxHeartbeats 4000000
namespace Go.Proofs.YtoldfccfpameeaaGreatDoor
open Go.AM
def BN{t:Table}(h:jV t=0): iZ t.name=true/\mA t.ins false=0/\mA t.outs (decide (t.bW=3))=0/\mQ t=true/\t.rules.length<=24:=by
 unfold jV at h;by_cases h1:iZ t.name=false
 ·rw[au h1]at h;omega
 rw[aj h1]at h;by_cases h2:mA t.ins false≠0
 ·rw[au h2]at h;exact absurd h h2
 rw[aj h2]at h;by_cases h3:mA t.outs (decide (t.bW=3))≠0
 ·rw[au h3]at h;exact absurd h h3
 rw[aj h3]at h;by_cases h4:mQ t=false
 ·rw[au h4]at h;omega
 rw[aj h4]at h;by_cases h5:24<t.rules.length
 ·rw[au h5]at h;omega
 exact⟨by simpa using h1,ae,ae,by simpa using h4,ae⟩
def A1{l:List cV}(h:lA l=0): l.length<=6:=by
 unfold lA at h;by_cases h6:6<l.length
 ·rw[au h6]at h;omega
 omega
def MP{t:Table}{r:ia}(h:(l9 t r).2.2=0): r.cells.length=t.ins.length/\r.outs.length=t.outs.length/\(l9 t r).1=⟨mR t r r.cells.length,pS t r r.outs.length⟩/\ ∀ k,k<r.outs.length->(lG t r k).2=0:=by
 unfold l9 at h |-;by_cases h1:r.cells.length≠t.ins.length\/r.outs.length≠t.outs.length
 ·rw[au h1]at h;exact absurd h cW
 rw[aj h1]at h |-;refine⟨ae,ae,?_⟩;split at h
 ·rename_i k hk;have:=fJ hk;simp at this;exact absurd h this
 rename_i hn;try rw[hn]
 try dsimp only
 split at h
 ·rename_i k hk;have:=fJ hk;simp at this;exact absurd h this
 rename_i hn2;try rw[hn2]
 refine⟨rfl,fun k hk=>?_⟩;have:=fL.1 hn2 k (by simpa using hk);simpa using this
def MQ{t:Table}(h:(eC t).2.2.2=0): jV t=0/\(eC t).1=⟨t,nq t t.rules.length⟩/\ ∀ j,j<t.rules.length->(lg t j).2.2=0:=by
 unfold eC at h |-;by_cases h1:jV t≠0
 ·rw[au h1]at h;exact absurd h h1
 rw[aj h1]at h |-;refine⟨ae,?_⟩;split at h
 ·rename_i k hk;have:=fJ hk;simp at this;exact absurd h this
 rename_i hn;try rw[hn]
 refine⟨rfl,fun k hk=>?_⟩;have:=fL.1 hn k (by simpa using hk);simpa using this
def abZ{t:Table}{r:ia}{n:Nat}{c:Cell}(h:c ∈ mR t r n): pR c:=by
 unfold mR at h;obtain⟨k,_,rfl⟩:=cI.1 h;exact Me _
def aeL{t:Table}{r:ia}{n:Nat}{x:Expr}(h:x ∈ pS t r n): jj x/\gV x<=2^30:=by
 unfold pS at h;obtain⟨k,_,rfl⟩:=cI.1 h;exact AJ _
def P_{t:Table}{n:Nat}{l:kL}(h:l ∈ nq t n): ∃ j,j<n/\l=(lg t j).1:=by
 unfold nq at h;obtain⟨k,hk,rfl⟩:=cI.1 h;exact⟨k,by simpa using hk,rfl⟩
def VF{ins:List cV}{row:List aX}(h:mB ins row=true)(hk:∀ i,i<ins.length->1<=(ins.getD i default).kind): ∀ i,i<ins.length->(row.getD i default).kind=0\/(row.getD i default).kind=(ins.getD i default).kind:=fun i hi=>by
 have hl:=Kr h;unfold mB at h;rw[aD,bf]at h;have:=h.2 i (by simp;omega);rw[aD]at this;have h3:=this.2;have:=hk i hi;simp only[cK,cN,aM]at h3;omega
def Ug{ins:List cV}{row:List aX}(h:mB ins row=true): ∀ v ∈ row,cg v=true:=fun v hv=>by
 unfold mB at h;rw[aD,bf]at h;obtain⟨i,hi,rfl⟩:=bV hv;have:=h.2 i (by simpa using hi);rw[aD,aq,aG hi]at this;exact this.1
def ab0{t:Table}{k:Nat}{s:aU}(h:(yA t k s).2=0): ef (yA t k s).1=true/\ ∃ K,jZ t.ins (yA t k s).1=(K,0)/\cK K (t.outs.getD k default).kind=true:=by
 unfold yA at h |-;dsimp only at h |-;generalize (jT s).1=x at *;by_cases h1:(jT s).2.2≠0
 ·rw[au h1]at h;exact absurd h h1
 rw[aj h1]at h
 have hz:(jU t.ins x).2=0:=by
  split at h
  ·omega
  exact h
 have hr:ef x=true:=by
  cases hr:ef x with
  | true=>rfl
  | false=>unfold jU at hz;rw[hr]at hz;simp at hz
 have hk:jU t.ins x=jZ t.ins x:=by unfold jU;rw[if_pos hr]
 rw[hk]at h hz;refine⟨hr,(jZ t.ins x).1,Prod.ext rfl hz,?_⟩;cases hf:cK (jZ t.ins x).1 (t.outs.getD k default).kind with
 | true=>rfl
 | false=>rw[au ⟨hz,hf⟩]at h;omega
def Qa{t:Table}(ht:j4 t)(h:(eC t).2.2.2=0){row:List aX}(hrow:mT row): Zn (eC t).1 row:=by
 obtain⟨h0,h1,h2⟩:=MQ h;obtain⟨f1,f2,f3,f4,f5⟩:=BN h0;obtain⟨i1,i2⟩:=rI f2;obtain⟨o1,o2⟩:=rI f3;have i6:=A1 i1;have o6:=A1 o1
 have aky:∀ l ∈ nq t t.rules.length,(l.cells.length=t.ins.length/\ ∀ c ∈ l.cells,pR c)/\l.outs.length=t.outs.length/\ ∀ x ∈ l.outs,jj x/\gV x<=2^30:=fun l hl=>by
  obtain⟨j,hj,rfl⟩:=P_ hl;obtain⟨l1,l2,l3,_⟩:=MP (h2 j hj);have l3:(lg t j).1=_:=l3;rw[l3];exact⟨⟨by rw[AK];exact l1,fun c hc=>abZ hc⟩,by rw[Ke];exact l2,fun x hx=>aeL hx⟩
 rw[h1];refine⟨⟨by dsimp only;omega,by dsimp only;omega,by dsimp only;rw[xu];exact f5,aky⟩,hrow,o2,fun c hc=>?_,fun hp=>?_,fun hin hp ha l hl he=>?_⟩
 ·exact(ht.2.2.1.2 c hc).2.1
 ·dsimp only at hp |-;unfold mQ at f4;rw[aj ae]at f4;by_cases h0:t.agg=0
  ·omega
  rw[aj h0]at f4;by_cases h3:t.bW≠5\/t.agg<1\/4<t.agg\/t.outs.length≠1
  ·rw[au h3]at f4;exact absurd f4 cW
  omega
 dsimp only at hin hp ha hl he |-
 have Lb:t.outs.length=1/\(t.outs.getD 0 default).kind=1:=by
  unfold mQ at f4;rw[aj ae,aj ae]at f4;by_cases h3:t.bW≠5\/t.agg<1\/4<t.agg\/t.outs.length≠1
  ·rw[au h3]at f4;exact absurd f4 cW
  rw[aj h3,aM]at f4;refine⟨ae,?_⟩;rcases f4 with h|h|h
  ·omega
  ·exact h
  exact absurd ha h.2
 obtain⟨j,hj,rfl⟩:=P_ hl;obtain⟨l1,l2,l3,l4⟩:=MP (h2 j hj);have l3:(lg t j).1=_:=l3;rw[l3]at he |-;dsimp only at he |-;have e1:(t.rules.getD j default).outs.length=1:=by rw[l2];exact Lb.1
 have t0:=l4 0 ae;rw[e1]at he |-;have eo:pS t (t.rules.getD j default) 1=[(lG t (t.rules.getD j default) 0).1]:=rfl;rw[eo]at he |-;obtain⟨k1,K,k2,k3⟩:=ab0 t0;have k1:ef (lG t (t.rules.getD j default) 0).1=true:=k1;have k2:jZ t.ins (lG t (t.rules.getD j default) 0).1=(K,0):=k2;have gx:=(AJ ((t.rules.getD j default).outs.getD 0 default)).1;have gx:jj (lG t (t.rules.getD j default) 0).1:=gx;generalize (lG t (t.rules.getD j default) 0).1=x at *;have gg:=pV (cs:=t.ins) hrow.2 gx;cases hv:j5 x t.ins row with
 | err e=>rw[GY hv]at he;rw[hv]at gg;exact absurd he (CM gg)
 | ok v =>
   rw[D7 hv,GZ]
   have kv:(j5 x t.ins row).AN K:=by
    unfold j5;split
    ·exact agz (VF hin (fun i hi=>(DP i1 hi).1)) x K k1 k2
    trivial
   rw[hv]at kv;have kv:v.kind=0\/v.kind=K:=kv;rw[Lb.2]at k3;simp only[cK,cN,aM]at k3;show v.kind=0\/v.kind=1;omega
set_option maxRecDepth 4000
def zP(t:Table)(ver:Int)(row:List aX)(o:ve): jW:=⟨t.name,ver,row,o.err,o.rules,o.rows⟩
def ux(t:Table)(ver:Int)(row:List aX): jW × Int :=
 if ver<1\/2147483648<ver then(vo,2)
 else if(eC t).2.2.2≠0 then(vo,(eC t).2.2.2)
 else if(jw (eC t).1 row).2≠0 then(vo,(jw (eC t).1 row).2)
 else if 1400<(sy (zP t ver row (jw (eC t).1 row).1)).length then(vo,5)else (zP t ver row (jw (eC t).1 row).1,0)
def agT: ∀ {l:List Int},l.Pairwise (· < ·)->(∀ i ∈ l,0<=i/\i<24)->tR l=true:=fun {l} h1 h2=>by
 refine Ue fun k hk=>?_;have hb:=h2 _ (bq hk)
 have hp:0<k->l.getD (k-1) default<l.getD k default:=fun h0=>by
  have:=List.pairwise_iff_getElem.1 h1 (k-1) k ae hk ae;rwa[aq,aq,aG hk,aG (by omega:k-1<l.length)]
 have hb:0<=l.getD k 0/\l.getD k 0<24:=hb;have hp:0<k->l.getD (k-1) 0<l.getD k 0:=hp;unfold AZ vp;rw[aM];split
 ·omega
 exact⟨hp ae,hb.2⟩
def Qb {t : Table} (ht : j4 t) {ver : Int} (hv : 1 <= ver /\ ver <= 2147483648) {row : List aX} (hrow : mT row) (hm : (eC t).2.2.2 = 0) (hd : (jw (eC t).1 row).2 = 0) :
    rP (zP t ver row (jw (eC t).1 row).1)=true/\p7 (zP t ver row (jw (eC t).1 row).1):=by
 have amX:=Qa ht hm hrow;obtain⟨h0,h1,_⟩:=MQ hm;obtain⟨f1,f2,f3,f4,f5⟩:=BN h0;have i6:=A1 (rI f2).1;have o6:=A1 (rI f3).1;obtain⟨hin,ho⟩:=Q8 amX hd;rw[h1]at hin ho;dsimp only at hin ho;have hl:=Kr hin;have hr:=Ug hin;rw[h1];generalize (jw ⟨t,nq t t.rules.length⟩ row).1=o at *
 have pin:kx row=true:=by
  unfold kx;rw[bQ ae,bf.2 hr];rfl
 have amY:∀ a ∈ o.rows,kx a=true:=fun a ha=>by
  have:=ho.row a ha;unfold kx;rw[bQ ae,bf.2 (fun v hv=>(this.2 v hv).1)];rfl
 refine⟨?_,?_⟩
 ·unfold rP zP;dsimp only;rw[f1,bQ hv,bQ ho.err,agT ho.amW ho.rules,bQ ho.rows,pin,bf.2 amY];rfl
 have e1:=ho.err;refine⟨ht.1,⟨by show _<=ver;omega,by show ver<=_;omega⟩,⟨by have:=hrow.1;exact this,fun v hv=>⟨(hrow.2 v hv).1,(hrow.2 v hv).2⟩⟩,⟨by show _<=o.err;omega,by show o.err<=_;omega⟩,⟨by show o.rules.length<=_;have:=ho.few;omega,fun n hn=>?_⟩,by show o.rows.length<=_;have:=ho.rows;omega,fun l hl=>?_⟩
 ·have:=ho.rules n hn;exact⟨ae,ae⟩
 have:=ho.row l hl;exact⟨ae,fun v hv=>(this.2 v hv).2⟩
def ab1{σ : ai}: View σ (.agg [.str [],I 0,.aV,I 0,.aV,.aV]) (jY vo) :=
 View.nS (.cons (.refl _ rfl) (.cons (.refl _ rfl) (.cons (.aV _) (.cons (.refl _ rfl) (.cons (.aV _) (.cons (.aV _) (.nil _)))))))
def MR(p:jW × Int): AV:= .bU [jY p.1,I p.2]
def HU{σ : ai}{e:Int}{p:jW × Int}(h:p=(vo,e)): ∃ r,Out.ret (oneOf [.agg [.str [],I 0,.aV,I 0,.aV,.aV],I e])=Out.ret r/\View σ r (MR p):=by
 subst h;exact gW (.cons ab1 (.cons (.refl _ rfl) (.nil _)))
def ai5{σ : ai}{x:jW}{p:jW × Int}(h:p=(x,0)): ∃ r,Out.ret (oneOf [.agg [.str x.table,I x.ver,.aR false EV (x.input.map c8),I x.err,.aR false E1 (x.rules.map sM),.aR false E1 (x.rows.map bu)],I 0])=Out.ret r/\View σ r (MR p):=by
 subst h;exact gW (.cons (.refl (jY x) aQ) (.cons (.refl _ rfl) (.nil _)))
def aeM(t:Table)(ht:j4 t)(ver:Int)(row:List aX)(hrow:mT row): aS aH 39 [dS t,I ver,bu row] (MR (ux t ver row)):=by
 have c1:=IP t ht;have c2:=fun hm=>Zo (eC t).1 row (Qa ht hm hrow);have hE:=fun hv hm hd=>Qb ht (ver:=ver) hv hrow hm hd;obtain⟨P,hP⟩:=cq (ux t ver row);rw[hP];unfold ux at hP;clear ht hrow;simp only[dS,gK,b_,eR,eR4,lH,qh,bu,G4,oF,eN,eX]at c1 c2 |-;by_cases hv:ver<1\/2147483648<ver
 ·rw[au hv]at hP;clear c1 c2 hE;refine a_ sU ?_ (by simp[MR,AV.dy,AV.cG]);intro Q aJ aK aL;repeat' first|refine aB ?_|refine aA ?_ ?_<;>intro hw<;>try omega|fail
  all_goals first|exact HU hP.symm|exact bJ|skip
 rw[aj hv]at hP;have hE:=hE ae;obtain⟨M,hM⟩:=cq (eC t);rw[hM]at c1 c2 hE hP;clear hM;obtain⟨r,a1,a2,e1⟩:=M;dsimp only at c1 c2 hE hP;by_cases he:e1≠0
 ·rw[au he]at hP;clear c2 hE;refine a_ sU ?_ (by simp[MR,AV.dy,AV.cG]);intro Q aJ aK aL;repeat' first|refine aB ?_|refine aA ?_ ?_<;>intro hw<;>try omega|fail
  all_goals first|exact HU hP.symm|exact bJ|skip
 rw[aj he]at hP;have he:e1=0:=ae;subst he;have c2:=c2 rfl;have hE:=hE rfl;generalize jw r row=D at *;obtain⟨o,e2⟩:=D;dsimp only at c2 hE hP;by_cases he:e2≠0
 ·rw[au he]at hP;clear hE;refine a_ sU ?_ (by simp[MR,AV.dy,AV.cG]);intro Q aJ aK aL;repeat' first|refine aB ?_|refine aA ?_ ?_<;>intro hw<;>try omega|fail
  all_goals first|exact HU hP.symm|exact bJ|skip
 rw[aj he]at hP;have he:e2=0:=ae;subst he;obtain⟨k1,k2⟩:=hE rfl;have c3:=I6 (zP t ver row o) k2;have hC:tB (zP t ver row o)=if 1400<(sy (zP t ver row o)).length then 5 else 0:=by unfold tB;rw[if_neg (by rw[k1];decide)]
 rw[hC]at c3;clear k1 k2 hC;generalize sy (zP t ver row o)=s at *;simp only[jY,nJ,zP,bu,eN,eX]at c3;by_cases hs:1400<s.length
 ·rw[au hs]at hP c3;refine a_ sU ?_ (by simp[MR,AV.dy,AV.cG]);intro Q aJ aK aL;repeat' first|refine aB ?_|refine aA ?_ ?_<;>intro hw<;>try omega|fail
  all_goals first|exact HU hP.symm|exact bJ|skip
 rw[aj hs]at hP c3;refine a_ sU ?_ (by simp[MR,AV.dy,AV.cG]);intro Q aJ aK aL;repeat' first|refine aB ?_|refine aA ?_ ?_<;>intro hw<;>try omega|fail
 all_goals first|exact ai5 (x:=zP t ver row o) hP.symm|exact bJ|skip
def aeN{l:List aX}(h:xC l): mT l:=⟨h.1,fun w hw=>⟨(h.2 w hw).1,(h.2 w hw).2⟩⟩
def Uh{t:Table}(ht:j4 t)(ver:Int){row:List aX}(hrow:mT row): p7 (ux t ver row).1:=by
 unfold ux;by_cases h1:ver<1\/2147483648<ver
 ·rw[au h1];exact HS
 rw[aj h1];by_cases h2:(eC t).2.2.2≠0
 ·rw[au h2];exact HS
 rw[aj h2];by_cases h3:(jw (eC t).1 row).2≠0
 ·rw[au h3];exact HS
 rw[aj h3];split
 ·exact HS
 exact(Qb ht ae hrow ae ae).2
end Go.Proofs.YtoldfccfpameeaaGreatDoor
namespace Go.AM
variable {P:Program}
section
variable (e:Env) (σ : ai) (K Kp:AV->ai->Prop) (x y z:AX)
def xT(P:Program)(o:gG)(vs:List AV)(σ : ai){K Kp:AV->ai->Prop}(_:Tg (K,Kp)): Prop:=o.run P vs σ K Kp
@[go_sem ↓] def amZ (el:El):bx.run P (.ex (.yW el false) [x,y,z]) e σ K Kp=xT P (.yW el false) [x.ev e,y.ev e,z.ev e] σ (.mk:Tg (K,Kp)):=_root_.id rfl
@[go_sem ↓] def aob (el:El):bx.run P (.ex (.Ov el false) [x,y,z]) e σ K Kp=xT P (.Ov el false) [x.ev e,y.ev e,z.ev e] σ (.mk:Tg (K,Kp)):=_root_.id rfl
@[go_sem ↓] def alk:bx.run P (.ex .C2 []) e σ K Kp=K (.mp σ.length) (σ++[.map []]):=_root_.id rfl
@[go_sem ↓] def am0 (kd:Option IntKind) (ok:Bool) (v:AV):bx.run P (.ex (.vM kd ok v) [x,y]) e σ K Kp=xT P (.vM kd ok v) [x.ev e,y.ev e] σ (.mk:Tg (K,Kp)):=_root_.id rfl
@[go_sem ↓] def akz (kd:Option IntKind):bx.run P (.ex (.wR kd) [x,y,z]) e σ K Kp=xT P (.wR kd) [x.ev e,y.ev e,z.ev e] σ (.mk:Tg (K,Kp)):=_root_.id rfl
@[go_sem ↓] def am1 (el:El):bx.run P (.ex (.xJ el) [x,y]) e σ K Kp=xT P (.xJ el) [x.ev e,y.ev e] σ (.mk:Tg (K,Kp)):=_root_.id rfl
@[go_sem ↓] def aoc (el:El):bx.run P (.ex (.Eo el) [x,y]) e σ K Kp=xT P (.Eo el) [x.ev e,y.ev e] σ (.mk:Tg (K,Kp)):=_root_.id rfl
@[go_sem ↓] def am2 (el:El) (n:Nat):bx.run P (.ex (.ug el n false false) [x]) e σ K Kp=xT P (.ug el n false false) [x.ev e] σ (.mk:Tg (K,Kp)):=_root_.id rfl
@[go_sem ↓] def am3 (el:El) (n:Nat):bx.run P (.ex (.ug el n true false) [x,y]) e σ K Kp=xT P (.ug el n true false) [x.ev e,y.ev e] σ (.mk:Tg (K,Kp)):=_root_.id rfl
@[go_sem ↓] def am4 (el:El) (n:Nat):bx.run P (.ex (.ug el n false true) [x,y]) e σ K Kp=xT P (.ug el n false true) [x.ev e,y.ev e] σ (.mk:Tg (K,Kp)):=_root_.id rfl
@[go_sem ↓] def aod (el:El):bx.run P (.ex (.copy el) [x,y]) e σ K Kp=xT P (.copy el) [x.ev e,y.ev e] σ (.mk:Tg (K,Kp)):=_root_.id rfl
@[go_sem ↓] def am5 (ng:Bool):bx.run P (.ex (.A_ ng) [x]) e σ K Kp=xT P (.A_ ng) [x.ev e] σ (.mk:Tg (K,Kp)):=_root_.id rfl
variable (k k':IntKind) (a b:Int) (el:El) (xs ys cs:List AV) (l m lo n o i:Nat) (f f':Bool)
def aeO{c d:Nat}{a b:Int}{K:Nat->Nat->Nat->Prop}: (mo none (.int k a) (.int k' b) c K)=((0<=b/\b<=c)/\(0<=a/\a<=b)/\K 0 a.toNat b.toNat):=by
 simp only[mo,bound,eq_iff_iff];constructor
 ·rintro⟨h1,h2,h3,h4,h5⟩;exact⟨⟨h1,h2⟩,⟨h3,ae⟩,h5⟩
 rintro⟨⟨h1,h2⟩,⟨h3,h4⟩,h5⟩;exact⟨h1,h2,h3,ae,h5⟩
@[go_sem] def ajy : xT P (.yW el false) [.aV, .int k a, .int k' b] σ (.mk : Tg (K, Kp)) = req ((0 <= b /\ b <= ((0 : Nat) : Int)) /\ 0 <= a /\ a <= b) (.mk : Tg (K .aV σ)) := by
  rw[<-dK];show mo none (.int k a) (.int k' b) 0 (fun _ _ _=>K .aV σ)=_;rw[aeO (d:=0)];simp only[and_assoc]
@[go_sem] def akA : xT P (.yW el false) [.aR f el xs, .int k a, .int k' b] σ (.mk : Tg (K, Kp)) = req ((0 <= b /\ b <= xs.length) /\ 0 <= a /\ a <= b) (.mk : Tg (K (.aR (a.toNat == b.toNat) el (xs.take a.toNat)) σ)) := by
  rw[<-dK];show(el=el/\mo none (.int k a) (.int k' b) xs.length (fun l h m=>K (.aR (h==m) el ((xs.drop l).take (h-l))) σ))=_;rw[aeO (d:=0)];simp only[true_and,and_assoc,eO,Nat.sub_zero]
@[go_sem] def alm : xT P (.Ov el false) [.aR f el xs, .int k a, .int k' b] σ (.mk : Tg (K, Kp)) = req ((0 <= b /\ b <= xs.length) /\ 0 <= a /\ a <= b) (.mk : Tg (K (.aR (a.toNat == b.toNat) el (xs.take a.toNat)) σ)) := by
  rw[<-dK];show(el=el/\mo none (.int k a) (.int k' b) xs.length (fun l h m=>K (.aR (h==m) el ((xs.drop l).take (h-l))) σ))=_;rw[aeO (d:=0)];simp only[true_and,and_assoc,eO,Nat.sub_zero]
def lkF(v:AV)(σ : ai)(r:Option (Option (Nat × AV))){K:AV->ai->Prop}(_:Tg K): Prop:=match r with
 | some (some (_,u))=>K u σ
 | some none=>K v σ
 | none=>False
def lkO(v q:AV)(σ : ai)(o:Option aY){K:AV->ai->Prop}(t:Tg K): Prop:=match o with
 | some (.map es)=>lkF v σ (lM q es 0) t
 | _=>False
@[go_sem] def aoB (kd : Option IntKind) (v q : AV) : xT P (.vM kd false v) [.mp l, q] σ (.mk : Tg (K, Kp)) = req (q.pI kd = true) (.mk : Tg (lkO v q σ (σ[l]?) (.mk : Tg K))) := by
  rw[<-dK]
  show(q.pI kd=true/\match σ[l]? with
   | some (.map es) => match lM q es 0 with
     | some (some (_,v))=>K v σ
     | some none=>K v σ
     | none=>False
   | _=>False)=_
  unfold lkO;cases σ[l]? with
  | none=>rfl
  | some ob =>
    cases ob<;>rfl
@[go_sem] def aoC (v q:AV) (es:List (AV × AV)):lkO v q σ (some (.map es)) (.mk:Tg K)=lkF v σ (lM q es 0) (.mk:Tg K):=_root_.id rfl
@[go_sem] def am6 (v u:AV) (i:Nat):lkF v σ (some (some (i,u))) (.mk:Tg K)=K u σ:=_root_.id rfl
@[go_sem] def am7 (v:AV):lkF v σ (some none) (.mk:Tg K)=K v σ:=_root_.id rfl
def msF(l:Nat)(σ : ai)(r:Option (List (AV × AV))){K:AV->ai->Prop}(_:Tg K): Prop:=match r with
 | some es'=>K (.bU []) (σ.set l (.map es'))
 | none=>False
def msO(l:Nat)(q v:AV)(σ : ai)(o:Option aY){K:AV->ai->Prop}(t:Tg K): Prop:=match o with
 | some (.map es)=>msF l σ (wS q v es) t
 | _=>False
@[go_sem] def am8 (kd : Option IntKind) (q v : AV) : xT P (.wR kd) [.mp l, q, v] σ (.mk : Tg (K, Kp)) = req (q.pI kd = true) (.mk : Tg (msO l q v σ (σ[l]?) (.mk : Tg K))) := by
  rw[<-dK]
  show(q.pI kd=true/\match σ[l]? with
   | some (.map es) => match wS q v es with
     | some es'=>K (.bU []) (σ.set l (.map es'))
     | none=>False
   | _=>False)=_
  unfold msO;cases σ[l]? with
  | none=>rfl
  | some ob =>
    cases ob<;>rfl
@[go_sem] def aoD (q v:AV) (es:List (AV × AV)):msO l q v σ (some (.map es)) (.mk:Tg K)=msF l σ (wS q v es) (.mk:Tg K):=_root_.id rfl
@[go_sem] def am9 (es:List (AV × AV)):msF l σ (some es) (.mk:Tg K)=K (.bU []) (σ.set l (.map es)):=_root_.id rfl
@[go_sem] def ajz : xT P (.xJ el) [.aV, .aR f el ys] σ (.mk : Tg (K, Kp)) = req (ys.all (fun a => a.fits el) = true /\ ys.length ≠ 0 /\ gH ys.length el) (.mk : Tg (K (.aR false el ys) σ)) := by
  rw[<-dK];show(el=el/\_)=_;simp only[true_and,and_assoc]
@[go_sem] def akB : xT P (.xJ el) [.aR true el xs, .aR f el ys] σ (.mk : Tg (K, Kp)) = req (ys.all (fun a => a.fits el) = true /\ ys.length ≠ 0 /\ gH (xs.length + ys.length) el) (.mk : Tg (K (.aR false el (xs ++ ys)) σ)) := by
  rw[<-dK];show(el=el/\_/\_/\el=el/\_)=_;simp only[true_and,and_assoc]
def ab2{x y:AV}(h:∀ bD l m lo n,x≠ .own bD l m (lo+1) n): xT P (.Eo el) [x,y] σ (.mk:Tg (K,Kp))=eG P (.app none el (.c x) (.c y)) σ (.mk:Tg (K,Kp)):=by
 show C5 σ el x y K=oY σ none el x y K;unfold C5;split
 ·exact absurd rfl (h _ _ _ _ _)
 rfl
@[go_sem] def ZA (y:AV):xT P (.Eo el) [.aV,y] σ (.mk:Tg (K,Kp))=eG P (.app none el (.c .aV) (.c y)) σ (.mk:Tg (K,Kp)):=ab2 _ _ _ _ fun _ _ _ _ _ h=>by cases h
@[go_sem] def ZB (y:AV):xT P (.Eo el) [.own el l m 0 n,y] σ (.mk:Tg (K,Kp))=eG P (.app none el (.c (.own el l m 0 n)) (.c y)) σ (.mk:Tg (K,Kp)):=ab2 _ _ _ _ fun _ _ _ _ _ h=>by cases h
def ZC(σ : ai)(el:El)(l m lo n:Nat)(ys:List AV)(ob:Option aY){K:AV->ai->Prop}(_:Tg K): Prop:=match ob with
 | some (.dn _ bN xs)=>bN=el/\m=xs.length/\lo+1+n=m/\gH (n+ys.length) el/\K (.own el σ.length (n+ys.length) 0 (n+ys.length)) (σ.set l .dead++[.vec el (xs.drop (lo+1)++ys)])
 | _=>False
@[go_sem] def ZD (s : List UInt8) : xT P (.Eo ⟨false, 1⟩) [.own ⟨false, 1⟩ l m (lo + 1) n, .str s] σ (.mk : Tg (K, Kp)) = ZC σ ⟨false, 1⟩ l m lo n (s.map fun b => .int .u8 b.toNat) (σ[l]?) (.mk : Tg K) := by
  have hall:(s.map fun b=>AV.int .u8 b.toNat).all (fun a=>a.fits ⟨false,1⟩)=true:=by simp[AV.fits]
  show(_=_/\(_=_/\(_/\_)))=_;simp only[true_and,hall];unfold ZC;cases σ[l]? with
  | none=>rfl
  | some ob=>cases ob<;>rfl
@[go_sem] def agU (T : Option TypeId) (xs ys : List AV) : ZC σ el l m lo n ys (some (.dn T el xs)) (.mk : Tg K) = req (m = xs.length /\ lo + 1 + n = m /\ gH (n + ys.length) el) (.mk : Tg (K (.own el σ.length (n + ys.length) 0 (n + ys.length)) (σ.set l .dead ++ [.vec el (xs.drop (lo + 1) ++ ys)]))) := by
  rw[<-dK];simp only[ZC,true_and,and_assoc]
@[go_sem] def aoE (h : 0 < n) : xT P (.ug el n false false) [.ref l o] σ (.mk : Tg (K, Kp)) = K (.mg el (.ref l o) n) σ := by
  show(true=true/\K (if n=0 then .aR false el []else .mg el (.ref l (o+0*el.sz)) (n-0)) σ)=_;rw[aj ae];simp
@[go_sem] def aoF (h : 0 <= a) (h2 : a < n) : xT P (.ug el n true false) [.ref l o, .int k a] σ (.mk : Tg (K, Kp)) = K (.mg el (.ref l (o + a.toNat * el.sz)) (n - a.toNat)) σ := by
  show(true=true/\0<=a/\a<=n/\K (if n=a.toNat then .aR false el []else .mg el (.ref l (o+a.toNat*el.sz)) (n-a.toNat)) σ)=_;rw[aj ae];simp only[true_and,h,eq_iff_iff];exact⟨fun h=>h.2,fun h=>⟨ae,h⟩⟩
@[go_sem] def aoG (h : 0 < b) (h2 : b <= n) : xT P (.ug el n false true) [.ref l o, .int k b] σ (.mk : Tg (K, Kp)) = K (.mg el (.ref l o) b.toNat) σ := by
  show(true=true/\0<=b/\b<=n/\K (if b.toNat=0 then .aR false el []else .mg el (.ref l (o+0*el.sz)) (b.toNat-0)) σ)=_;rw[aj ae];simp only[true_and,eq_iff_iff,Nat.zero_mul,eZ,Nat.sub_zero];exact⟨fun h=>h.2.2,fun h=>⟨ae,h2,h⟩⟩
def cpO(σ : ai)(l o n:Nat)(src:Option aY)(o' n':Nat)(dst:Option aY){K:AV->ai->Prop}(_:Tg K): Prop:=match src,dst with
 | some (.bY _ cs'), some (.bY T cs) => o' + n' <= cs'.length /\ ((cs'.drop o').take n').all (fun a => a.fits ⟨false, 1⟩) = true /\ ((((cs'.drop o').take n').take n).length = min ((cs'.drop o').take n').length n /\ (((cs'.drop o').take n').take n).all AV.scalar = true /\ o + min ((cs'.drop o').take n').length n <= cs.length) /\
    K (.int .i64 (min ((cs'.drop o').take n').length n:Nat)) (σ.set l (.bY T (fM cs o (((cs'.drop o').take n').take n))))
 | _,_=>False
@[go_sem] def akC (l' o' n' : Nat) : xT P (.copy ⟨false, 1⟩) [.mg ⟨false, 1⟩ (.ref l o) n, .mg ⟨false, 1⟩ (.ref l' o') n'] σ (.mk : Tg (K, Kp)) = cpO σ l o n (σ[l']?) o' n' (σ[l]?) (.mk : Tg K) := by
  show C4 σ ⟨false,1⟩ (.mg ⟨false,1⟩ (.ref l o) n) (.mg ⟨false,1⟩ (.ref l' o') n') K=_;simp only[C4,gN,ij,BU,oe,true_and];unfold cpO;cases σ[l']? with
  | none=>rfl
  | some ob =>
    cases ob<;>first|rfl|skip
    rename_i T' cs';cases σ[l]? with
    | none=>simp
    | some ob2 =>
      cases ob2<;>first|(simp;done)|skip
      simp only[AV.cells,forall_const,true_and,if_true,and_assoc,Bool.true_eq_false,false_imp_iff,reduceCtorEq]
@[go_sem] def aoH (cs cs' : List AV) (o' n' : Nat) : cpO σ l o n (some (.cells cs')) o' n' (some (.cells cs)) (.mk : Tg K) = req (o' + n' <= cs'.length /\ ((cs'.drop o').take n').all (fun a => a.fits ⟨false, 1⟩) = true /\ ((((cs'.drop o').take n').take n).length = min ((cs'.drop o').take n').length n /\ (((cs'.drop o').take n').take n).all AV.scalar = true /\ o + min ((cs'.drop o').take n').length n <= cs.length)) (.mk : Tg (K (.int .i64 (min ((cs'.drop o').take n').length n : Nat)) (σ.set l (.cells (fM cs o (((cs'.drop o').take n').take n)))))) := by
  rw[<-dK];simp only[cpO,and_assoc]
def Rr(p:Prop){T E:Prop}(_:Tg (T,E)): Prop:=(p->T)/\E
def ai6{p T E:Prop}(h:p->T)(h':E): Rr p (.mk:Tg (T,E)):=⟨h,h'⟩
@[go_sem] def akD (ng : Bool) : xT P (.A_ ng) [.aR f el xs] σ (.mk : Tg (K, Kp)) = Rr (xs = []) (.mk : Tg (K (.bool (if ng then false else true)) σ, K (.bool (if ng then true else false)) σ)) := by
  cases xs with
  | nil=>show(_/\_)=((_->_)/\_);cases ng<;>simp
  | cons x xs =>
    have:Rr (x::xs=[]) (.mk:Tg (K (.bool (if ng then false else true)) σ,K (.bool (if ng then true else false)) σ))=K (.bool (if ng then true else false)) σ:=by simp[Rr]
    rw[this];cases ng<;>rfl
def afx(P:Program)(n:FuncId)(az gs:List AV)(σ : ai)(jC:List (Bool × Nat)){K:AV->ai->Prop}(_:Tg K): Prop:= ∃ r σ2,cE P n az σ (fun o σ'=>o = .ret r/\σ' = σ2)/\og az σ σ2 jC gs/\K r σ2
@[go_sem ↓] def aoe (f:FuncId) (jC:List (Bool × Nat)) (ys:List AX):bx.run P (.ex (.cw f 1 jC) (x::ys)) e σ K Kp=afx P f [x.ev e] (ys.map (AX.ev e)) σ jC (.mk:Tg K):=_root_.id rfl
def agV{f:FuncId}{az gs:List AV}{jC:List (Bool × Nat)}{r:AV}{σ σ2:ai}{K:AV->ai->Prop}(h:cE P f az σ fun o σ'=>o = .ret r/\σ' = σ2)(hk:og az σ σ2 jC gs)(k:jS r (.mk:Tg fun r=>tK σ2 (.mk:Tg fun s=>K r s))): afx P f az gs σ jC (.mk:Tg K):=⟨r,σ2,h,hk,k⟩
end
end Go.AM
namespace Go.Proofs.YtoldfccfpameeaaGreatDoor
open Go.AM
set_option maxRecDepth 4000
abbrev U(n:Int): AV:= .int .u32 n
def Ui(n:Int): 0<=dw .u64 n:=by
 show 0<=n % 18446744073709551616;omega
def agW(op:BinOp)(a b:Int): 0<=iX op .u64 a b:=by
 rw[oL];unfold od;cases op<;>exact Ui _
noncomputable def aeP (x s:Int):Int:=iX .or .u32 (dw .u32 (x*2 ^ (Nat.min s.toNat (IntKind.u32).bits))) (x.fdiv (2 ^ (Nat.min (dw .u64 (32-s)).toNat (IntKind.u32).bits)))
noncomputable def xY (x n:Int):Int:=aeP x (iX .and .u64 (dw .u64 (dw .i64 (0-n))) 31)
def Ij(x k:Int): aS aH 244 [U x,I k] (U (aeP x (iX .and .u64 (dw .u64 k) 31))):=by
 have h1:=agW .and (dw .u64 k) 31;have h2:=Ui (32-iX .and .u64 (dw .u64 k) 31);unfold aeP;refine a_ yu ?_;intro Q aJ aK aL;repeat' first|refine aB ?_|refine aA ?_ ?_<;>intro hw<;>try omega|fail
 all_goals first|exact aZ rfl rfl|skip
def Ed(x n:Int): aS aH 200 [U x,I n] (U (xY x n)):=by
 have h1:=Ij x (dw .i64 (0-n));unfold xY;refine a_ U2 ?_;intro Q aJ aK aL;repeat' first|refine aB ?_|refine aA ?_ ?_<;>intro hw<;>try omega|fail
 all_goals first|exact aZ rfl rfl|skip
abbrev E8: El:=⟨false,1⟩
def lD(B:aU): List AV:=B.map fun b=>AV.int .u8 b.toNat
def HV{S:ai}{w:Nat}{o:aY}(h:S[w]? = some o)(c:aY): (S.set w c)[w]? = some c:=bw (aE.1 h).1
def agX{S:ai}{w l:Nat}{o:aY}(h:S[l]? = some o)(hne:w≠l)(c:aY): (S.set w c)[l]? = some o:=by rw[aF hne];exact h
def ab3{S:ai}{w:Nat}{o:aY}(h:S[w]? = some o): S.set w o=S:=by
 apply jy;intro i;by_cases e:w=i
 ·subst e;rw[HV h];exact h.symm
 rw[aF e]
noncomputable def shW (B:aU) (lo t:Nat):Int :=
 iX .or .u32 (iX .or .u32 (iX .or .u32 (dw .u32 (dw .u32 (B.getD (lo+4*t) 0).toNat*2^24)) (dw .u32 (dw .u32 (B.getD (lo+(4*t+1)) 0).toNat*2^16))) (dw .u32 (dw .u32 (B.getD (lo+(4*t+2)) 0).toNat*2^8))) (dw .u32 (B.getD (lo+(4*t+3)) 0).toNat)
noncomputable def yF (B:aU) (lo:Nat) (W:List Int):Nat->List Int
 | 0=>W
 | t+1=>(yF B lo W t).set t (shW B lo t)
def G9(B:aU)(lo:Nat)(W:List Int): ∀ t,(yF B lo W t).length=W.length
 | 0=>rfl
 | t+1=>by simp[yF,G9 B lo W t]
noncomputable def afy (W:List Int) (t:Nat):Int :=
 dw .u32 (dw .u32 (dw .u32 (W.getD (t-16) default+W.getD (t-7) default)+iX .xor .u32 (iX .xor .u32 (xY (W.getD (t-15) default) 7) (xY (W.getD (t-15) default) 18)) ((W.getD (t-15) default).fdiv (2^3)))+iX .xor .u32 (iX .xor .u32 (xY (W.getD (t-2) default) 17) (xY (W.getD (t-2) default) 19)) ((W.getD (t-2) default).fdiv (2^10)))
noncomputable def A2 (W:List Int):Nat->List Int
 | 0=>W
 | j+1=>(A2 W j).set (16+j) (afy (A2 W j) (16+j))
def G_(W:List Int): ∀ t,(A2 W t).length=W.length
 | 0=>rfl
 | t+1=>by simp[A2,G_ W t]
noncomputable def yS (B:aU) (lo:Nat) (Z:List Int):List Int:=A2 (yF B lo Z 16) 48
def VG(B:aU)(lo:Nat)(Z:List Int): (yS B lo Z).length=Z.length:=by rw[yS,G_,G9]
def ZE {S : ai} {l w lo : Nat} {B : aU} {Z : List Int} (hl : S[l]? = some (.vec E8 (lD B))) (hlo : lo + 64 <= B.length) (hw : S[w]? = some (.cells (Z.map U))) (hz : Z.length = 64) :
    cE aH 199 [.own E8 l B.length lo 64,.ref w 0] S (fun o S'=>o = .ret (.bU [])/\S'=S.set w (.cells ((yS B lo Z).map U))):=by
 have hne:w≠l:=fun e=>by subst e;rw[hl]at hw;cases hw
 have hL:=fun c=>agX hl hne c;have hW:=fun c=>HV hw c;have Ax:(lD B).length=B.length:=by simp[lD]
 refine QS.go ?_;unfold dP;intro Q aJ aK aL;repeat' first|refine aB ?_|refine aA ?_ ?_<;>intro hw<;>try omega|fail
 with_reducible refine bE [4,1,8,41] (fun t:Nat=>[(8,I t)]) (fun t=>S.set w (.cells ((yF B lo Z t).map U))) (fun t=>t<=16) (fun t=>16-t) (0) ?_ ?_ ?_ ?_
 ·simp
 ·exact(ab3 hw).symm
 ·exact at_
 rintro t r ht;try dsimp only at ht
 have hlen:=G9 B lo Z t;by_cases h16:t<16
 ·have g0:(lD B).getD (lo+4*t) .undef = .int .u8 (B.getD (lo+4*t) 0).toNat:=getD_map _ _ _ ae;have g1:(lD B).getD (lo+(4*t+1)) .undef = .int .u8 (B.getD (lo+(4*t+1)) 0).toNat:=getD_map _ _ _ ae;have g2:(lD B).getD (lo+(4*t+2)) .undef = .int .u8 (B.getD (lo+(4*t+2)) 0).toNat:=getD_map _ _ _ ae;have g3:(lD B).getD (lo+(4*t+3)) .undef = .int .u8 (B.getD (lo+(4*t+3)) 0).toNat:=getD_map _ _ _ ae;have c0:(4*(t:Int)).toNat=4*t:=ae;have c1:(4*(t:Int)+1).toNat=4*t+1:=ae;have c2:(4*(t:Int)+2).toNat=4*t+2:=ae;have c3:(4*(t:Int)+3).toNat=4*t+3:=ae;repeat' first|simp (disch:=omega) only[go_sem,aJ,aK,aL,hL,hW,c0,c1,c2,c3,g0,g1,g2,g3,Ax]|refine aB ?_|refine aA ?_ ?_<;>intro hw<;>try omega|fail
  refine⟨t+1,?_,?_,?_,da,?_⟩
  ·dsimp only;omega
  ·dsimp only;omega
  ·simp[yF,List.map_set,shW]
  exact at_
 obtain rfl:t=16:=ae;repeat' first|refine aB ?_|refine aA ?_ ?_<;>intro hw<;>try omega|fail
 with_reducible refine bE [5,3,49,51] (fun j:Nat=>[(5,I (16+j:Nat))]) (fun j=>S.set w (.cells ((A2 (yF B lo Z 16) j).map U))) (fun j=>j<=48) (fun j=>48-j) (0) ?_ ?_ ?_ ?_
 ·simp
 ·rfl
 ·exact at_
 rintro j r2 hj;try dsimp only at hj
 have YO:=G_ (yF B lo Z 16) j;generalize hX:A2 (yF B lo Z 16) j=X at *;by_cases h48:j<48
 ·have c1:((16+j:Nat):Int)-15=(1+j:Nat):=ae;have c2:((16+j:Nat):Int)-2=(14+j:Nat):=ae;have c3:((16+j:Nat):Int)-16=(j:Nat):=ae;have c4:((16+j:Nat):Int)-7=(9+j:Nat):=ae;have r1:=fun n=>Ed (X.getD (1+j) default) n;have r2:=fun n=>Ed (X.getD (14+j) default) n;repeat' first|simp (disch:=omega) only[go_sem,aJ,aK,aL,hW,c1,c2,c3,c4,jd]|refine aB ?_|refine eU (r1 7) ?_|refine eU (r1 18) ?_|refine eU (r2 17) ?_|refine eU (r2 19) ?_|refine aA ?_ ?_<;>intro hw<;>try omega|fail
  refine⟨j+1,?_,?_,?_,da,?_⟩
  ·dsimp only;omega
  ·dsimp only;omega
  ·have d1:16+j-15=1+j:=ae;have d2:16+j-2=14+j:=ae;have d3:16+j-16=j:=ae;have d4:16+j-7=9+j:=ae;simp[A2,hX,List.map_set,afy,d1,d2,d3,d4]
  exact at_
 obtain rfl:j=48:=ae;repeat' first|refine aB ?_|refine aA ?_ ?_<;>intro hw<;>try omega|fail
 exact⟨rfl,by rw[<-hX];rfl⟩
noncomputable def Uj (KC W:List Int) (t:Nat):List Int->List Int
 | [a0, a1, a2, a3, a4, a5, a6, a7] =>
   let x:=dw .u32 (dw .u32 (dw .u32 (dw .u32 (a7+iX .xor .u32 (iX .xor .u32 (xY a4 6) (xY a4 11)) (xY a4 25))+iX .xor .u32 a6 (iX .and .u32 a4 (iX .xor .u32 a5 a6)))+KC.getD t default)+W.getD t default)
   let y:=dw .u32 (iX .xor .u32 (iX .xor .u32 (xY a0 2) (xY a0 13)) (xY a0 22)+iX .or .u32 (iX .and .u32 a0 a1) (iX .and .u32 a2 (iX .or .u32 a0 a1)))
   [dw .u32 (x+y),a0,a1,a2,dw .u32 (a3+x),a4,a5,a6]
 | l=>l
noncomputable def wu (KC W V:List Int):Nat->List Int
 | 0=>V
 | t+1=>Uj KC W t (wu KC W V t)
def eight{V:List Int}(h:V.length=8): ∃ a0 a1 a2 a3 a4 a5 a6 a7,V=[a0,a1,a2,a3,a4,a5,a6,a7]:=by
 match V,h with
 | [a0,a1,a2,a3,a4,a5,a6,a7],_=>exact⟨_,_,_,_,_,_,_,_,rfl⟩
def ZG(KC W:List Int)(t:Nat){V:List Int}(h:V.length=8): (Uj KC W t V).length=8:=by
 obtain⟨a0,a1,a2,a3,a4,a5,a6,a7,rfl⟩:=eight h;rfl
def I8(KC W:List Int){V:List Int}(h:V.length=8): ∀ t,(wu KC W V t).length=8
 | 0=>h
 | t+1=>ZG KC W t (I8 KC W h t)
noncomputable def He (V H:List Int):Nat->List Int
 | 0=>H
 | i+1=>(He V H i).set i (dw .u32 ((He V H i).getD i default+V.getD i default))
def Kw(V H:List Int): ∀ t,(He V H t).length=H.length
 | 0=>rfl
 | t+1=>by simp[He,Kw V H t]
def lT(KC H:List Int)(v:AV)(z:Int): List AV:=H.map U++(v::I z::KC.map U)
noncomputable def Oh (KC H:List Int) (B:aU) (lo:Nat):List Int:=He (wu KC (yS B lo (List.replicate 64 0)) H 64) H 8
def aeQ(KC H:List Int)(B:aU)(lo:Nat): (Oh KC H B lo).length=H.length:=Kw _ _ _
section
variable {KC H:List Int} {v:AV} {z:Int} (hH:H.length=8) (hK:KC.length=64)
include hH
theorem tC(hK:KC.length=64): (lT KC H v z).length=74:=by simp[lT,hH,hK]
theorem Xk: (lT KC H v z).take 8=H.map U:=by simp[lT,<-hH]
theorem am_{i:Nat}(hi:i<8): (lT KC H v z).getD i .undef=U (H.getD i default):=by
 unfold lT;rw[List.getD_eq_getElem?_getD,aI (by simp;omega),<-List.getD_eq_getElem?_getD,getD_map _ _ _ ae]
theorem ana{i:Nat}(hK:KC.length=64)(hi:i<64): (lT KC H v z).getD (10+i) .undef=U (KC.getD i default):=by
 unfold lT;rw[aq,bp (by simp;omega)];have e:10+i-(H.map U).length=i+2:=by simp;omega
 rw[e,bH,bH,<-aq,getD_map _ _ _ ae]
theorem ai7{i:Nat}(hi:i<8)(x:Int): (lT KC H v z).set i (U x)=lT KC (H.set i x) v z:=by
 unfold lT;rw[iN _ _ (by simp;omega),List.map_set]
end
def agY {S : ai} {l k lo : Nat} {B : aU} {KC H : List Int} {v : AV} {z : Int} (hl : S[l]? = some (.vec E8 (lD B))) (hlo : lo + 64 <= B.length) (hk : S[k]? = some (.cells (lT KC H v z))) (hH : H.length = 8) (hK : KC.length = 64) :
    cE aH 149 [.ref k 0,.own E8 l B.length lo 64] S (fun o S'=>o = .ret (.bU [])/\S'[k]? = some (.cells (lT KC (Oh KC H B lo) v z))/\ ∀ j ob,S[j]? = some ob->j≠k->S'[j]? = some ob):=by
 have x4:=(aE.1 hk).1;have i_:=(aE.1 hl).1;obtain⟨E,hE⟩:=cq (Oh KC H B lo);rw[hE];unfold Oh at hE;refine JM.go ?_;unfold dP;intro Q aJ aK aL;repeat' first|refine aB ?_|refine aA ?_ ?_<;>intro hw<;>try omega|fail
 refine bP (ZE (l:=l) (w:=S.length) (Z:=List.replicate 64 0) (by rw[aI i_];exact hl) hlo aQ rfl) ?_;rintro o S1 ⟨rfl,rfl⟩
 have q0:∀ (T:ai) (c d:aY) (j:Nat) (ob:aY),S[j]? = some ob->((S++[c]).set S.length d)[j]? = some ob:=fun T c d j ob h=>by
  have:=(aE.1 h).1;rw[aF ae,aI this];exact h
 have q1:∀ (c d:aY),((S++[c]).set S.length d)[S.length]? = some d:=fun c d=>bw aQ;have q2:∀ (c d:aY),((S++[c]).set S.length d).length=S.length+1:=fun c d=>by simp
 refine(fun key=>key _ (q0 S _ _) (q1 _ _) (q2 _ _)) (?_:∀ T:ai,(∀ j ob,S[j]? = some ob->T[j]? = some ob)->T[S.length]? = some (.cells ((yS B lo (List.replicate 64 0)).map U))->T.length=S.length+1->Nh _ _ _ T);intro T hT0 hT1 hT2;have hsl:=VG B lo (List.replicate 64 0);rw[gC]at hsl;obtain⟨h0,h1,h2,h3,h4,h5,h6,h7,rfl⟩:=eight hH;have hTk:=hT0 _ _ hk;have lR:=tC (v:=v) (z:=z) hH hK;have hct:=Xk (KC:=KC) (v:=v) (z:=z) hH;simp only[bB,de]at hct;generalize yS B lo (List.replicate 64 0)=W at *;have hHU:([h0,h1,h2,h3,h4,h5,h6,h7].map U).length=8:=rfl;have hkT:=(aE.1 hTk).1;have hxk:=fun c=>(by rw[aI hkT];exact hTk:(T++[c])[k]? = some (.cells (lT KC [h0,h1,h2,h3,h4,h5,h6,h7] v z)));have hxw:=fun c=>(by rw[aI ae];exact hT1:(T++[c])[S.length]? = some (.cells (W.map U)));have Sc:∀ c:aY,(T++[c])[T.length]? = some c:=fun c=>by simp
 have hxs:∀ c d:aY,(T++[c]).set T.length d=T++[d]:=fun c d=>by simp
 repeat' first|simp (disch:=omega) only[go_sem,aJ,aK,aL,hTk,hct,lR,hHU,eO]|refine aB ?_|refine aA ?_ ?_<;>intro hw<;>try omega|fail
 with_reducible refine bE [6,5,18,74] (fun t:Nat=>[(18,I t)]) (fun t=>T++[.cells ((wu KC W [h0,h1,h2,h3,h4,h5,h6,h7] t).map U)]) (fun t=>t<=64) (fun t=>64-t) (0) ?_ ?_ ?_ ?_
 ·simp
 ·simp[wu]
 ·exact at_
 rintro t r ht;try dsimp only at ht
 have hRl:=I8 KC W hH t;generalize hR:wu KC W [h0,h1,h2,h3,h4,h5,h6,h7] t=R at *;by_cases h64:t<64
 ·obtain⟨a0,a1,a2,a3,a4,a5,a6,a7,rfl⟩:=eight hRl;have rE:=fun n=>Ed a4 n;have rA:=fun n=>Ed a0 n;have Qc:=ana (H:=[h0,h1,h2,h3,h4,h5,h6,h7]) (v:=v) (z:=z) hH hK h64;have e0 : [U a0,U a1,U a2,U a3,U a4,U a5,U a6,U a7].getD 0 .undef=U a0:=rfl;have e1 : [U a0,U a1,U a2,U a3,U a4,U a5,U a6,U a7].getD (Int.toNat 1) .undef=U a1:=rfl;have e2 : [U a0,U a1,U a2,U a3,U a4,U a5,U a6,U a7].getD (Int.toNat 2) .undef=U a2:=rfl;have e3 : [U a0,U a1,U a2,U a3,U a4,U a5,U a6,U a7].getD (Int.toNat 3) .undef=U a3:=rfl;have e4 : [U a0,U a1,U a2,U a3,U a4,U a5,U a6,U a7].getD (Int.toNat 4) .undef=U a4:=rfl;have e5 : [U a0,U a1,U a2,U a3,U a4,U a5,U a6,U a7].getD (Int.toNat 5) .undef=U a5:=rfl;have e6 : [U a0,U a1,U a2,U a3,U a4,U a5,U a6,U a7].getD (Int.toNat 6) .undef=U a6:=rfl;have e7 : [U a0,U a1,U a2,U a3,U a4,U a5,U a6,U a7].getD (Int.toNat 7) .undef=U a7:=rfl;have hm:fM [U a0,U a1,U a2,U a3,U a4,U a5,U a6,U a7] (Int.toNat 1) (List.take (8-Int.toNat 1) (List.take (Int.toNat 7) [U a0,U a1,U a2,U a3,U a4,U a5,U a6,U a7]))=[U a0,U a0,U a1,U a2,U a3,U a4,U a5,U a6]:=rfl;have m4 : [U a0,U a0,U a1,U a2,U a3,U a4,U a5,U a6].getD (Int.toNat 4) .undef=U a3:=rfl;have i1:Int.toNat 4+1<=[U a0,U a0,U a1,U a2,U a3,U a4,U a5,U a6].length:=by show 5<=8;decide
  repeat' first|simp (disch:=omega) only[go_sem,aJ,aK,aL,hm,m4,hxk,hxw,Sc,hxs,lR,Qc,e0,e1,e2,e3,e4,e5,e6,e7,jd,bL]|refine aB ?_|refine eU (rE 6) ?_|refine eU (rE 11) ?_|refine eU (rE 25) ?_|refine eU (rA 2) ?_|refine eU (rA 13) ?_|refine eU (rA 22) ?_|refine aA ?_ ?_<;>intro hw<;>try omega|fail
  refine⟨t+1,?_,?_,?_,da,?_⟩
  ·dsimp only;omega
  ·dsimp only;omega
  ·simp[wu,hR,Uj]
  exact at_
 obtain rfl:t=64:=ae;repeat' first|refine cz (zC hxk hxw Sc hxs) ?_|refine aB ?_|refine aA ?_ ?_<;>intro hw<;>try omega|fail
 with_reducible refine bE [11,1,92,17] (fun i:Nat=>[(92,I i)]) (fun i=>(T++[aY.cells (R.map U)]).set k (aY.cells (lT KC (He R [h0,h1,h2,h3,h4,h5,h6,h7] i) v z))) (fun i=>i<=8) (fun i=>8-i) (0) ?_ ?_ ?_ ?_
 ·simp
 ·exact(ab3 (hxk _)).symm
 ·exact at_
 rintro i r2 hi;try dsimp only at hi
 have EH:=Kw R [h0,h1,h2,h3,h4,h5,h6,h7] i;rw[hH]at EH;generalize hA:He R [h0,h1,h2,h3,h4,h5,h6,h7] i=A at *;by_cases h8:i<8
 ·have hsh:=am_ (KC:=KC) (v:=v) (z:=z) EH h8;have hcA:=tC (v:=v) (z:=z) EH hK;have hsA:=fun x=>ai7 (KC:=KC) (v:=v) (z:=z) EH (x:=x) h8;have hRg:(R.map U).getD i .undef=U (R.getD i default):=getD_map _ _ _ ae;have hxK:∀ c d:aY,((T++[c]).set k d)[k]? = some d:=fun c d=>bw (by simp;omega);have hxV:∀ c d:aY,((T++[c]).set k d)[T.length]? = some c:=fun c d=>by rw[aF ae];simp
  repeat' first|simp (disch:=omega) only[go_sem,aJ,aK,aL,hxK,hxV,hsh,hsA,hRg,hcA,jd,bL,ek]|refine aB ?_|refine aA ?_ ?_<;>intro hw<;>try omega|fail
  refine⟨i+1,?_,?_,?_,da,?_⟩
  ·dsimp only;omega
  ·dsimp only;omega
  ·simp[He,hA]
  exact at_
 obtain rfl:i=8:=ae;repeat' first|refine aB ?_|refine aA ?_ ?_<;>intro hw<;>try omega|fail
 refine⟨rfl,?_,?_⟩
 ·rw[bw (by simp;omega),<-hE,<-hA,<-hR]
 intro j ob hj hne;have:=(aE.1 (hT0 j ob hj)).1;rw[aF (Ne.symm hne),aI this];exact hT0 j ob hj
def agZ(A B:aU): lD (A++B)=lD A++lD B:=by simp[lD]
def pB(A:aU): (lD A).length=A.length:=by simp[lD]
def Hf(S:ai)(v:AV)(R:aU): Prop:=(v = .aV/\R=[])\/ ∃ l B lo,v = .own E8 l B.length lo (B.length-lo)/\S[l]? = some (.vec E8 (lD B))/\lo<=B.length/\R=B.drop lo
def afz(S:ai)(v:AV)(B:aU): Prop:=(v = .aV/\B=[])\/ ∃ l,v = .own E8 l B.length 0 B.length/\S[l]? = some (.vec E8 (lD B))
def Hf.put{S:ai}{v:AV}{R:aU}(h:Hf S v R){k:Nat}{cs:List AV}(hk:S[k]? = some (.cells cs))(d:aY): Hf (S.set k d) v R:=by
 rcases h with⟨rfl,rfl⟩|⟨l,B,lo,rfl,hl,h1,h2⟩
 ·exact .inl ⟨rfl,rfl⟩
 exact .inr ⟨l,B,lo,rfl,by rw[List.getElem?_set_ne (fun e=>by subst e;rw[hk]at hl;cases hl)];exact hl,h1,h2⟩
def ZH{n:Nat}(h:n<=2^39): gH n ⟨false,1⟩:=by
 show n*2<=2^40;omega
def akE{P:Program}{S:ai}{v:AV}{R t:aU}{K Kp:AV->ai->Prop}(h:Hf S v R)(hr:R.length+t.length<=2^39)(hK:∀ (v':AV) (T:ai),afz T v' (R++t)->(∀(j:Nat) (cs:List AV),S[j]? = some (aY.cells cs)->T[j]? = some (aY.cells cs))->K v' T): xT P (.Eo ⟨false,1⟩) [v,.str t] S (.mk:Tg (K,Kp)):=by
 rcases h with⟨rfl,rfl⟩|⟨l,B,lo,rfl,hl,h1,rfl⟩
 ·rw[ZA];have hall:(t.map fun b=>AV.int .u8 b.toNat).all (fun a=>a.fits ⟨false,1⟩)=true:=by simp[AV.fits]
  simp only[eG,bx.run,AX.ev,oY,gN,true_and,hall,cZ];split
  ·rename_i h0;have:t=[]:=eP h0;subst this;exact hK _ _ (.inl ⟨rfl,rfl⟩) fun j cs h=>h
  refine⟨ZH (by simpa using hr),hK _ _ (.inr ⟨S.length,aQ,by simp[lD]⟩) fun j cs h=>?_⟩;rw[aI (aE.1 h).1];exact h
 simp only[dJ]at hr;have i_:=(aE.1 hl).1
 match lo,h1 with
 | 0, _ =>
   rw[Nat.sub_zero,ZB,Sh,hl,afX];refine yp ⟨(pB _).symm,rfl,(pB _).symm,ZH (by simpa[lD]using hr)⟩ ?_;intro _;refine hK _ _ (.inr ⟨l,by simp[lD],by rw[bw i_];simp[lD]⟩) fun j cs h=>?_;rw[List.getElem?_set_ne (fun e=>by subst e;rw[hl]at h;cases h)];exact h
 | lo + 1, h1 =>
   rw[ZD,hl,agU];refine yp ⟨(pB _).symm,ae,ZH (by simpa using hr)⟩ ?_;intro _;refine hK _ _ (.inr ⟨S.length,aQ,by simp[lD]⟩) fun j cs h=>?_;have hj:=(aE.1 h).1;rw[List.getElem?_append_left (by simpa using hj),List.getElem?_set_ne (fun e=>by subst e;rw[hl]at h;cases h)];exact h
section
variable {KC H:List Int} {v:AV} {z:Int} (hH:H.length=8)
include hH
theorem yT: (lT KC H v z).getD 8 .undef=v:=by
 unfold lT;rw[aq,bp (by simp[hH])];simp[hH]
theorem Xl: (lT KC H v z).getD 9 .undef=I z:=by
 unfold lT;rw[aq,bp (by simp[hH])];simp[hH]
theorem Uk(w:AV): (lT KC H v z).set 8 w=lT KC H w z:=by
 unfold lT;rw[dY _ _ (by simp[hH])];simp[hH]
theorem aeR(w:Int): (lT KC H v z).set 9 (I w)=lT KC H v w:=by
 unfold lT;rw[dY _ _ (by simp[hH])];simp[hH]
end
noncomputable def Ee (KC H:List Int) (B:aU):Nat->List Int
 | 0=>H
 | i+1=>Oh KC (Ee KC H B i) B (64*i)
def Ef(KC H:List Int)(B:aU): ∀ i,(Ee KC H B i).length=H.length
 | 0=>rfl
 | i+1=>by rw[Ee,aeQ,Ef KC H B i]
noncomputable def rQ (KC:List Int) (p:List Int × aU) (t:aU):List Int × aU:=(Ee KC p.1 (p.2++t) ((p.2++t).length / 64),(p.2++t).drop (64*((p.2++t).length / 64)))
def A3(S:ai)(k:Nat)(KC:List Int)(p:List Int × aU)(z:Int): Prop:=p.1.length=8/\ ∃ v,S[k]? = some (.cells (lT KC p.1 v z))/\Hf S v p.2
def xE {S : ai} {k : Nat} {KC : List Int} {p : List Int × aU} {z : Int} (hp : A3 S k KC p z) (hK : KC.length = 64) {t : aU} (h0 : 0 <= z) (h1 : z + t.length <= 2^60) (hr : p.2.length + t.length <= 2^39) :
    cE aH 114 [.ref k 0,.str t] S (fun o S'=>o = .ret (.bU [])/\A3 S' k KC (rQ KC p t) (z+t.length)):=by
 obtain⟨hH,v,hk,hR⟩:=hp;obtain⟨H,R⟩:=p;dsimp only at hH hk hR hr;obtain⟨E,hE⟩:=cq (rQ KC (H,R) t);rw[hE];unfold rQ at hE;dsimp only at hE;have s8:=yT (KC:=KC) (v:=v) (z:=z) hH;have s9:=Xl (KC:=KC) (v:=v) (z:=z) hH;have s8b:=yT (KC:=KC) (v:=v) (z:=z+t.length) hH;have ss:=aeR (KC:=KC) (v:=v) (z:=z) hH;have lR:=tC (v:=v) (z:=z) hH hK;have ai8:=tC (v:=v) (z:=z+t.length) hH hK;have g:=fun c=>HV hk c;refine FV.go ?_;unfold dP;intro Q aJ aK aL;repeat' first|simp (disch:=omega) only[go_sem,aJ,aK,aL,hk,g,s8,s9,s8b,ss,lR,ai8,bL]|refine aB ?_|refine aA ?_ ?_<;>intro hw<;>try omega|fail
 refine akE (hR.put hk _) hr fun v' T hT hfr=>?_;have hkT:=hfr k _ (g _);have sr:=Uk (KC:=KC) (v:=v) (z:=z+t.length) hH v';have g2:=fun c=>HV hkT c
 have hT2:afz (T.set k (.cells (lT KC H v' (z+t.length)))) v' (R++t):=by
  rcases hT with h|⟨l,h,hl⟩
  ·exact .inl h
  exact .inr ⟨l,h,by rw[List.getElem?_set_ne (fun e=>by subst e;rw[hkT]at hl;cases hl)];exact hl⟩
 have hvc:v'.cells.length=1/\v'.cells.all AV.scalar=true:=by rcases hT with⟨rfl,_⟩|⟨l,rfl,_⟩<;>exact⟨rfl,rfl⟩
 have aoX:=hvc.1;have aoY:=hvc.2;have anb:v'.cells=[v']:=by rcases hT with⟨rfl,_⟩|⟨l,rfl,_⟩<;>rfl
 have hvs:v'.scalar=true:=by rcases hT with⟨rfl,_⟩|⟨l,rfl,_⟩<;>rfl
 repeat' first|simp (disch:=omega) only[go_sem,aJ,aK,aL,hkT,sr,ai8,anb,hvs,List.all_cons,List.all_nil,Bool.and_self,bL]|refine aB ?_|refine aA ?_ ?_<;>intro hw<;>try omega|fail
 have aeS:=g2 (.cells (lT KC H v' (z+t.length)));rcases hT2 with⟨rfl,kU⟩|⟨l,rfl,hl⟩
 ·have s8c:=yT (KC:=KC) (v:= .aV) (z:=z+t.length) hH;have Ul:=tC (v:= .aV) (z:=z+t.length) hH hK;with_reducible refine bE [22,21] (fun _:Unit=>[]) (fun _=>T.set k (aY.cells (lT KC H .aV (z+t.length)))) (fun _=>True) (fun _=>0) (()) ?_ ?_ ?_ ?_
  ·trivial
  ·rfl
  ·exact at_
  rintro _ r _;repeat' first|simp (disch:=omega) only[go_sem,aJ,aK,aL,aeS,s8c,Ul,bL]|refine aB ?_|refine aA ?_ ?_<;>intro hw<;>try omega|fail
  rw[kU]at hE;subst hE;exact⟨rfl,hH,_,aeS,.inl ⟨rfl,aQ⟩⟩
 generalize hB:R++t=B at *;with_reducible refine bE [22,21] (fun q:Nat × ai=>[]) (fun q=>q.2) (fun q=>64*q.1<=B.length/\q.2[k]? = some (.cells (lT KC (Ee KC H B q.1) (.own E8 l B.length (64*q.1) (B.length-64*q.1)) (z+t.length)))/\q.2[l]? = some (.vec E8 (lD B))) (fun q=>B.length-64*q.1) ((0,T.set k (aY.cells (lT KC H (.own E8 l B.length 0 B.length) (z+t.length))))) ?_ ?_ ?_ ?_
 ·exact⟨ae,by simpa[Ee]using aeS,hl⟩
 ·rfl
 ·exact at_
 rintro⟨i,X⟩ r ⟨hi,MS,Qd⟩;dsimp only at hi MS Qd;have hml:=Ef KC H B i;rw[hH]at hml;have s8c:=yT (KC:=KC) (v:= .own E8 l B.length (64*i) (B.length-64*i)) (z:=z+t.length) hml;have Ul:=tC (v:= .own E8 l B.length (64*i) (B.length-64*i)) (z:=z+t.length) hml hK;repeat' first|simp (disch:=omega) only[go_sem,aJ,aK,aL,MS,s8c,Ul,Qd,pB,bL,Option.map_none,dh]|refine aB ?_|refine aA ?_ ?_<;>intro hw<;>try omega|fail
 ·refine bP (agY Qd ae MS hml hK) ?_;rintro o Y ⟨rfl,Um,hYf⟩;have hYl:=hYf l _ Qd (fun e=>by subst e;rw[Qd]at MS;cases MS);have Nb:=Ef KC H B (i+1);rw[hH]at Nb;have s8d:=yT (KC:=KC) (v:= .own E8 l B.length (64*i) (B.length-64*i)) (z:=z+t.length) Nb;have anc:=tC (v:= .own E8 l B.length (64*i) (B.length-64*i)) (z:=z+t.length) Nb hK;have sr2:=Uk (KC:=KC) (v:= .own E8 l B.length (64*i) (B.length-64*i)) (z:=z+t.length) Nb;rw[show Oh KC (Ee KC H B i) B (64*i)=Ee KC H B (i+1) from rfl]at Um;repeat' first|simp (disch:=omega) only[go_sem,aJ,aK,aL,Um,s8d,anc,hYl,sr2,pB,bL,Option.map_none,dh]|refine aB ?_|refine aA ?_ ?_<;>intro hw<;>try omega|fail
  have aeT:=(aE.1 Um).1;have aoZ:=(aE.1 hYl).1;have x4:k≠l:=fun e=>by subst e;rw[Um]at hYl;cases hYl
  refine⟨(i+1,Y.set k (.cells (lT KC (Ee KC H B (i+1)) (.own E8 l B.length (64*(i+1)) (B.length-64*(i+1))) (z+t.length)))),?_,?_,?_,da,?_⟩
  ·exact⟨by dsimp only;omega,List.getElem?_set_self aeT,by dsimp only;rw[List.getElem?_set_ne x4];exact hYl⟩
  ·dsimp only;omega
  ·dsimp only
   congr 3
  exact at_
 have hi2:i=B.length / 64:=ae;subst hi2;subst hE;exact⟨rfl,hml,_,MS,.inr ⟨l,B,_,rfl,Qd,hi,rfl⟩⟩
set_option maxRecDepth 10000
def A4: List Int:=[1116352408,1899447441,3049323471,3921009573,961987163,1508970993,2453635748,2870763221,3624381080,310598401,607225278,1426881987,1925078388,2162078206,2614888103,3248222580,3835390401,4022224774,264347078,604807628,770255983,1249150122,1555081692,1996064986,2554220882,2821834349,2952996808,3210313671,3336571891,3584528711,113926993,338241895,666307205,773529912,1294757372,1396182291,1695183700,1986661051,2177026350,2456956037,2730485921,2820302411,3259730800,3345764771,3516065817,3600352804,4094571909,275423344,430227734,506948616,659060556,883997877,958139571,1322822218,1537002063,1747873779,1955562222,2024104815,2227730452,2361852424,2428436474,2756734187,3204031479,3329325298]
def HC0: List Int:=[1779033703,3144134277,1013904242,2773480762,1359893119,2600822924,528734635,1541459225]
def Q9: aS aH 148 [] (.agg (A4.map U)):=by
 refine a_ JZ ?_;intro Q aJ aK aL;repeat' first|refine aB ?_|refine aA ?_ ?_<;>intro hw<;>try omega|fail
 all_goals exact aZ rfl rfl
def ab4(S:ai): cE aH 113 [] S (fun o S'=>o = .ret (.ref S.length 0)/\S'=S++[.cells (lT A4 HC0 .aV 0)]):=by
 have k1:A4.length=64:=rfl;have k2:(A4.map U).all AV.scalar=true:=rfl;refine Sy.go ?_;unfold dP;intro Q aJ aK aL;repeat' first|refine cz (zA k1 k2) ?_|refine aB ?_|refine eU Q9 ?_|refine aA ?_ ?_<;>intro hw<;>try omega|fail
 refine yp (by rfl) fun _=>?_;repeat' first|refine aB ?_|refine aA ?_ ?_<;>intro hw<;>try omega|fail
 exact⟨rfl,rfl⟩
def A3.begun(S:ai): A3 (S++[.cells (lT A4 HC0 .aV 0)]) S.length A4 (HC0,[]) 0:=⟨rfl,.aV,aQ,.inl ⟨rfl,rfl⟩⟩
def Hg(n:Int): UInt8:=UInt8.ofNat (dw .u8 n).toNat
def ab5(n:Int): (dw .u8 n)=((Hg n).toNat:Int):=by
 have h:dw .u8 n=n % 256:=rfl;unfold Hg;rw[h];have h1:0<=n % 256:=ae;have h2:n % 256<256:=ae;simp only[UInt8.toNat_ofNat'];omega
def Kx(KC:List Int)(p:List Int × aU)(t:aU): (rQ KC p t).2.length=(p.2.length+t.length) % 64:=by
 simp only[rQ,dJ,aC];omega
def A5(KC:List Int)(p:List Int × aU)(t:aU): (rQ KC p t).1.length=p.1.length:=Ef _ _ _ _
noncomputable def zN (KC:List Int) (p:List Int × aU):Nat->List Int × aU
 | 0=>p
 | j+1=>rQ KC (zN KC p j) [0]
def Xm(KC:List Int)(p:List Int × aU): ∀ j,(zN KC p j).1.length=p.1.length
 | 0=>rfl
 | j+1=>by rw[zN,A5,Xm KC p j]
def ab6(KC:List Int)(p:List Int × aU)(h:p.2.length<64): ∀ j,(zN KC p j).2.length=(p.2.length+j) % 64
 | 0=>by rw[zN];omega
 | j+1=>by rw[zN,Kx,ab6 KC p h j];simp;omega
noncomputable def Un (n:Int):Nat->aU
 | 0=>List.replicate 8 0
 | i+1=>(Un n i).set (7-i) (Hg (n.fdiv (2 ^ (Nat.min (8*i) 64))))
def Xn(n:Int): ∀ i,(Un n i).length=8
 | 0=>rfl
 | i+1=>by rw[Un,dN,Xn n i]
def ag0(A:aU)(i:Nat)(b:UInt8): lD (A.set i b)=(lD A).set i (.int .u8 b.toNat):=by simp[lD,List.map_set]
noncomputable def xZ (H:List Int):aU:=H.flatMap fun w=>[Hg (w.fdiv (2^24)),Hg (w.fdiv (2^16)),Hg (w.fdiv (2^8)),Hg w]
def Ky: ∀ H,(xZ H).length=4*H.length
 | []=>rfl
 | a::l=>by have h:=Ky l;simp only[xZ,jx,aC,aO,bt]at h |-;omega
def ab7(H:List Int)(i:Nat)(h:i<H.length): xZ (H.take (i+1))=xZ (H.take i)++[Hg ((H.getD i default).fdiv (2^24)),Hg ((H.getD i default).fdiv (2^16)),Hg ((H.getD i default).fdiv (2^8)),Hg (H.getD i default)]:=by
 have e:H.getD i default=H[i]:=by simp[aq,h]
 unfold xZ;rw[dD h,e,List.flatMap_append];rfl
noncomputable def Oi (KC:List Int) (p:List Int × aU) (z:Int):aU :=
 xZ (rQ KC (zN KC (rQ KC p [128]) ((120-(rQ KC p [128]).2.length) % 64)) (Un (z*8) 8)).1
def ZI{P:Program}{σ : ai}{K Kp:AV->ai->Prop}{l n:Nat}{cs:List AV}{s:aU}(h : σ[l]? = some (.cells cs))(hn:cs.length=n)(hs:cs=lD s): eG P (.yX (.c (.mg ⟨false,1⟩ (.ref l 0) n))) σ (.mk:Tg (K,Kp))=K (.str s) σ:=by
 simp only[eG,bx.run,AX.ev,gN,ij,h]
 have e:(if True then AV.agg (List.take n (List.drop 0 cs))else cs.getD 0 AV.undef).cells=cs:=by
  rw[au trivial,eO,<-hn,fZ];rfl
 rw[e,hs];simp only[true_and,eq_iff_iff];constructor
 ·rintro⟨_,_,s',h,hk⟩;have:s=s':=(List.map_inj_right (fun x y hxy=>by simp at hxy;exact UInt8.toNat_inj.1 (Int.ofNat_inj.1 hxy))).1 h;exact this ▸ hk
 exact fun hk=>⟨by rw[<-hs];omega,aQ,s,rfl,hk⟩
def ZJ{P:Program}{σ : ai}{K Kp:AV->ai->Prop}{l m:Nat}{s:aU}(h : σ[l]? = some (.vec ⟨false,1⟩ (lD s)))(hm:m=s.length): eG P (.yX (.c (.own ⟨false,1⟩ l m 0 m))) σ (.mk:Tg (K,Kp))=K (.str s) σ:=by
 subst hm;have e:((lD s).drop 0).take s.length=lD s:=by rw[eO,<-pB,fZ]
 rw[Ye,h];simp only[Sg,pB,true_and,eq_iff_iff];rw[e];constructor
 ·rintro⟨s',h,hk⟩;have:s=s':=(List.map_inj_right (fun x y hxy=>by simp at hxy;exact UInt8.toNat_inj.1 (Int.ofNat_inj.1 hxy))).1 h;exact this ▸ hk
 exact fun hk=>⟨s,rfl,hk⟩
def A3.app{S:ai}{k:Nat}{KC:List Int}{p:List Int × aU}{z:Int}(h:A3 S k KC p z)(c:aY): A3 (S++[c]) k KC p z:=by
 obtain⟨h1,v,hk,hR⟩:=h;refine⟨h1,v,by rw[aI (aE.1 hk).1];exact hk,?_⟩;rcases hR with h|⟨l,B,lo,e,hl,h2⟩
 ·exact .inl h
 exact .inr ⟨l,B,lo,e,by rw[aI (aE.1 hl).1];exact hl,h2⟩
def A3.put{S:ai}{k:Nat}{KC:List Int}{p:List Int × aU}{z:Int}(h:A3 S k KC p z){j:Nat}{cs:List AV}(hj:S[j]? = some (.cells cs))(hne:j≠k)(d:aY): A3 (S.set j d) k KC p z:=by
 obtain⟨h1,v,hk,hR⟩:=h;exact⟨h1,v,by rw[aF hne];exact hk,hR.put hj d⟩
def ag1 {S : ai} {k : Nat} {KC : List Int} {p : List Int × aU} {z : Int} (hp : A3 S k KC p z) (hK : KC.length = 64) (h0 : 0 <= z) (h1 : z <= 2^59) (hr : p.2.length < 64) :
    cE aH 115 [.ref k 0] S (fun o S'=>o = .ret (.str (Oi KC p z))):=by
 obtain⟨E,hE⟩:=cq (Oi KC p z);rw[hE];have hp0:=hp;obtain⟨hH,v,hk,hR⟩:=hp;have s9:=Xl (KC:=KC) (v:=v) (z:=z) hH;have lR:=tC (v:=v) (z:=z) hH hK;refine JN.go ?_;unfold dP;intro Q aJ aK aL;repeat' first|simp (disch:=omega) only[go_sem,aJ,aK,aL,hk,s9,lR,bL]|refine aB ?_|refine aA ?_ ?_<;>intro hw<;>try omega|fail
 refine bP (xE hp0 hK h0 (t:=[128]) (by simp;omega) (by simp;omega)) ?_;rintro o S1 ⟨rfl,hp1⟩;have Iz:(rQ KC p [128]).2.length<64:=by rw[Kx];omega
 unfold Oi at hE;generalize hP1:rQ KC p [128]=P1 at *;repeat' first|refine aB ?_|refine aA ?_ ?_<;>intro hw<;>try omega|fail
 with_reducible refine bE [16,9] (fun q:Nat × ai=>[]) (fun q=>q.2) (fun q=>q.1<=(120-P1.2.length) % 64/\A3 q.2 k KC (zN KC P1 q.1) (z+1+q.1)) (fun q=>64-q.1) ((0,S1)) ?_ ?_ ?_ ?_
 ·exact⟨ae,by simpa[zN]using hp1⟩
 ·rfl
 ·exact at_
 rintro⟨j,X⟩ r ⟨hj,hX⟩;dsimp only at hj hX;have hX0:=hX;obtain⟨hXH,w,MS,hXR⟩:=hX;have Qd:=ab6 KC P1 Iz j;have s8x:=yT (KC:=KC) (v:=w) (z:=z+1+j) hXH;have ai9:=tC (v:=w) (z:=z+1+j) hXH hK
 have hwv:∃ n:Nat,n=(zN KC P1 j).2.length/\((w = .aV/\n=0)\/ ∃ l m lo,w = .own E8 l m lo n):=by
  rcases hXR with⟨rfl,h⟩|⟨l,B,lo,rfl,hl,h1,h⟩
  ·exact⟨0,by rw[h];rfl,.inl ⟨rfl,rfl⟩⟩
  exact⟨B.length-lo,by rw[h,dJ],.inr ⟨l,_,lo,rfl⟩⟩
 obtain⟨n,hn,hwn⟩:=hwv;rw[Qd]at hn;rcases hwn with⟨rfl,rfl⟩|⟨l,m,lo,rfl⟩
 ·repeat' first|simp (disch:=omega) only[go_sem,aJ,aK,aL,MS,s8x,ai9,bL]|refine aB ?_|refine aA ?_ ?_<;>intro hw<;>try omega|fail
  have hj2:j<(120-P1.2.length) % 64:=ae;refine bP (xE hX0 hK ae (t:=[0]) (by simp;omega) (by simp;omega)) ?_;rintro o Y ⟨rfl,hY⟩;have e:z+1+j+(([0]:aU).length:Nat)=z+1+((j+1:Nat):Int):=by simp;omega
  rw[e]at hY;repeat' first|refine aB ?_|refine aA ?_ ?_<;>intro hw<;>try omega|fail
  refine⟨(j+1,Y),?_,?_,?_,da,?_⟩
  ·exact⟨by dsimp only;omega,hY⟩
  ·dsimp only;omega
  ·rfl
  exact at_
 repeat' first|simp (disch:=omega) only[go_sem,aJ,aK,aL,MS,s8x,ai9,bL]|refine aB ?_|refine aA ?_ ?_<;>intro hw<;>try omega|fail
 ·have hj2:j<(120-P1.2.length) % 64:=ae;refine bP (xE hX0 hK ae (t:=[0]) (by simp;omega) (by simp;omega)) ?_;rintro o Y ⟨rfl,hY⟩;have e:z+1+j+(([0]:aU).length:Nat)=z+1+((j+1:Nat):Int):=by simp;omega
  rw[e]at hY;repeat' first|refine aB ?_|refine aA ?_ ?_<;>intro hw<;>try omega|fail
  refine⟨(j+1,Y),?_,?_,?_,da,?_⟩
  ·exact⟨by dsimp only;omega,hY⟩
  ·dsimp only;omega
  ·rfl
  exact at_
 have hj3:j=(120-P1.2.length) % 64:=ae;rw[<-hj3]at hE;generalize zN KC P1 j=P2 at *;with_reducible refine bE [5,1,25,12] (fun i:Nat=>[(25,I i)]) (fun i=>X++[.cells (lD (Un (z*8) i))]) (fun i=>i<=8) (fun i=>8-i) (0) ?_ ?_ ?_ ?_
 ·simp
 ·rfl
 ·exact at_
 rintro i r2 hi;try dsimp only at hi
 have EH:=Xn (z*8) i;generalize hA:Un (z*8) i=A at *;by_cases h8:i<8
 ·have Ax:(lD A).length=8:=by rw[pB,EH]
  repeat' first|simp (disch:=omega) only[go_sem,aJ,aK,aL,Ax,jd,bL]|refine aB ?_|refine aA ?_ ?_<;>intro hw<;>try omega|fail
  refine⟨i+1,?_,?_,?_,da,?_⟩
  ·dsimp only;omega
  ·dsimp only;omega
  ·dsimp only[Un];rw[hA,ag0,<-ab5,show(7-(i:Int)).toNat=7-i by omega,show(8*(i:Int)).toNat=8*i by omega]
  exact at_
 obtain rfl:i=8:=ae;repeat' first|refine aB ?_|refine aA ?_ ?_<;>intro hw<;>try omega|fail
 rw[ZI (cs:=lD A) (s:=A) aQ (by rw[pB,EH]) rfl];repeat' first|refine aB ?_|refine aA ?_ ?_<;>intro hw<;>try omega|fail
 have hX1:=hX0.app (.cells (lD A));refine bP (xE hX1 hK ae (t:=A) ae ae) ?_;rintro o Y ⟨rfl,hY⟩;obtain⟨hYH,w2,Um,hYR⟩:=hY;generalize hP3:rQ KC P2 A=P3 at *;have Ul:=tC (v:=w2) (z:=z+1+j+A.length) hYH hK;have ht3:=Xk (KC:=KC) (v:=w2) (z:=z+1+j+A.length) hYH;have aeT:=(aE.1 Um).1;have hYc:=fun c:aY=>(by rw[aI aeT];exact Um:(Y++[c])[k]? = some (.cells (lT KC P3.1 w2 (z+1+j+A.length))));repeat' first|simp (disch:=omega) only[go_sem,aJ,aK,aL,hYc,Ul,ht3,bL,eO]|refine aB ?_|refine aA ?_ ?_<;>intro hw<;>try omega|fail
 with_reducible refine bE [6,1,8,1,46,18] (fun i:Nat=>[(46,I i),(6,.own E8 Y.length (4*i) 0 (4*i))]) (fun i=>Y++[.vec E8 (lD (xZ (P3.1.take i)))]) (fun i=>i<=8) (fun i=>8-i) (0) ?_ ?_ ?_ ?_
 ·simp
 ·rfl
 ·exact at_
 rintro i r3 hi;try dsimp only at hi
 have EE:(lD (xZ (P3.1.take i))).length=4*i:=by rw[pB,Ky,dW,hYH];omega
 by_cases h8:i<8
 ·have hg:(P3.1.map U).getD i .undef=U (P3.1.getD i default):=getD_map _ _ _ ae;have hYv:=fun c:aY=>(by simp:(Y++[c])[Y.length]? = some c);have hYs:=fun c d:aY=>(by simp:(Y++[c]).set Y.length d=Y++[d]);have hml:(P3.1.map U).length=8:=by rw[cZ,hYH]
  repeat' first|simp (disch:=omega) only[go_sem,aJ,aK,aL,hYv,hYs,hg,EE,hml,jd,bL]|refine aB ?_|refine aA ?_ ?_<;>intro hw<;>try omega|fail
  refine⟨i+1,?_,?_,?_,da,?_⟩
  ·dsimp only;omega
  ·dsimp only;omega
  ·show _=Y++[aY.vec E8 (lD (xZ (P3.1.take (i+1))))];rw[ab7 _ _ ae,agZ];simp only[ab5];rfl
  exact at_
 obtain rfl:i=8:=ae;have hYv:=fun c:aY=>(by simp:(Y++[c])[Y.length]? = some c);have ane:(lD (xZ (P3.1.take 8))).length=32:=EE;have hb:=fun(K Kp:AV->ai->Prop)=>ZJ (P:=Tryz.prog) (K:=K) (Kp:=Kp) (σ:=Y++[.vec E8 (lD (xZ (P3.1.take 8)))]) (l:=Y.length) (m:=32) (s:=xZ (P3.1.take 8)) aQ (by rw[<-ane,pB]);repeat' first|refine cz hb ?_|refine aB ?_|refine aA ?_ ?_<;>intro hw<;>try omega|fail
 rw[<-hE,bG ae,hA,hP3];rfl
def vt(l:List aU): Nat:=(l.map List.length).sum
def Qe(l:List aU)(i:Nat)(h:i<l.length): vt (l.take (i+1))=vt (l.take i)+(l.getD i default).length:=by
 have e:l.getD i default=l[i]:=by simp[aq,h]
 unfold vt;rw[dD h,e,fI,List.sum_append];simp
def Qf(l:List aU)(i:Nat): vt (l.take i)<=vt l:=by
 have h:vt l=vt (l.take i)+vt (l.drop i):=by
  conv=>lhs;rw[<-dH i l]
  unfold vt;rw[fI,List.sum_append]
 omega
noncomputable def Eg (l:List aU):List Int × aU:=l.foldl (rQ A4) (HC0,[])
def ab8(l:List aU)(i:Nat)(h:i<l.length): Eg (l.take (i+1))=rQ A4 (Eg (l.take i)) (l.getD i default):=by
 have e:l.getD i default=l[i]:=by simp[aq,h]
 unfold Eg;rw[dD h,e,List.foldl_append];rfl
def Uo(l:List aU): ∀ p:List Int × aU,p.2.length<64->(l.foldl (rQ A4) p).2.length<64:=by
 induction l with
 | nil=>exact fun p h=>h
 | cons a l ih=>exact fun p h=>ih _ (by rw[Kx];omega)
def ab9(l:List aU): ∀ p:List Int × aU,(l.foldl (rQ A4) p).1.length=p.1.length:=by
 induction l with
 | nil=>exact fun p=>rfl
 | cons a l ih=>exact fun p=>by rw[List.foldl_cons,ih,A5]
noncomputable def BO (l:List aU):aU:=Oi A4 (Eg l) (vt l)
def Up(l:List aU): (BO l).length=32:=by
 rw[BO,Oi,Ky,A5,Xm,A5,Eg,ab9];rfl
def ag2(l:List aU)(hl:vt l<=2^38)(hn:l.length<=2^40): aS aH 73 [.aR false E1 (l.map fH)] (.str (BO l)):=by
 obtain⟨E,hE⟩:=cq (BO l);rw[hE];refine a_ Yj ?_ (by simp[AV.dy,AV.cG,w9]);intro Q aJ aK aL;repeat' first|refine aB ?_|refine aA ?_ ?_<;>intro hw<;>try omega|fail
 refine bP (ab4 _) ?_;rintro o S ⟨rfl,rfl⟩;repeat' first|refine aB ?_|refine aA ?_ ?_<;>intro hw<;>try omega|fail
 with_reducible refine bE [5,1,9,8] (fun q:Nat × ai=>[(9,I q.1)]) (fun q=>q.2) (fun q=>q.1<=l.length/\A3 q.2 0 A4 (Eg (l.take q.1)) (vt (l.take q.1))) (fun q=>l.length-q.1) ((0,[.cells (lT A4 HC0 .aV 0)])) ?_ ?_ ?_ ?_
 ·exact⟨ae,A3.begun []⟩
 ·rfl
 ·exact at_
 rintro⟨i,X⟩ r ⟨hi,hX⟩;dsimp only at hi hX;by_cases kK:i<l.length
 ·have ht:=Qf l (i+1);rw[Qe l i kK]at ht;have hel:(Eg (l.take i)).2.length<64:=Uo _ _ aQ;repeat' first|refine aB ?_|refine aA ?_ ?_<;>intro hw<;>try omega|fail
  refine bP (xE hX rfl ae (t:=l.getD i default) ae ae) ?_;rintro o Y ⟨rfl,hY⟩;repeat' first|refine aB ?_|refine aA ?_ ?_<;>intro hw<;>try omega|fail
  refine⟨(i+1,Y),?_,?_,?_,da,?_⟩
  ·refine⟨by dsimp only;omega,?_⟩;dsimp only;rw[ab8 l i kK,Qe l i kK];simpa using hY
  ·dsimp only;omega
  ·rfl
  exact at_
 obtain rfl:i=l.length:=ae;have hel:(Eg (l.take l.length)).2.length<64:=Uo _ _ aQ;have ht:=Qf l l.length;repeat' first|refine aB ?_|refine aA ?_ ?_<;>intro hw<;>try omega|fail
 refine bP (ag1 hX rfl ae ae hel) ?_;rintro o Y rfl;rw[fZ];rw[show Oi A4 (Eg l) (vt l)=E from hE];repeat' first|refine aB ?_|refine aA ?_ ?_<;>intro hw<;>try omega|fail
 exact aZ rfl rfl
def Kz(a b:aU)(h:a.length+b.length<=2^38): aS aH 47 [.str a,.str b] (.str (BO [a,b])):=by
 have h1:=ag2 [a,b] (by simpa[vt]using h) aQ;refine a_ U1 ?_;intro Q aJ aK aL;repeat' first|refine aB ?_|refine As h1 ?_|refine aA ?_ ?_<;>intro hw<;>try omega|fail
 all_goals exact aZ rfl rfl
noncomputable def kQ (s:aU):List aU->aU
 | []=>s
 | a::l=>kQ (BO [s,a]) l
def BP(l:List aU): ∀(s:aU) (i:Nat),i<l.length->kQ s (l.take (i+1))=BO [kQ s (l.take i),l.getD i default]:=by
 induction l with
 | nil=>exact fun s i h=>absurd h aQ
 | cons a l ih =>
   intro s i h;cases i with
   | zero=>rfl
   | succ i=>exact ih _ i (by simpa using h)
def Eh(l:List aU): ∀ s:aU,s.length=32->(kQ s l).length=32:=by
 induction l with
 | nil=>exact fun s h=>h
 | cons a l ih=>exact fun s h=>ih _ (Up _)
def Qg(s:aU)(hs:s.length=32)(l:List aU)(hl:∀ x ∈ l,x.length<=2^37)(hn:l.length<=2^40): aS aH 42 [.str s,.aR false E1 (l.map fH)] (.str (kQ s l)):=by
 obtain⟨E,hE⟩:=cq (kQ s l);rw[hE];refine a_ Sx ?_ (by simp[AV.dy,AV.cG,w9]);intro Q aJ aK aL;repeat' first|refine aB ?_|refine aA ?_ ?_<;>intro hw<;>try omega|fail
 with_reducible refine bE [0,1,6,1,9,8] (fun i:Nat=>[(9,I i),(0,.str (kQ s (l.take i)))]) (fun _=>[]) (fun i=>i<=l.length) (fun i=>l.length-i) (0) ?_ ?_ ?_ ?_
 ·simp
 ·rfl
 ·exact at_
 rintro i r hi;try dsimp only at hi
 by_cases kK:i<l.length
 ·have hc:=Eh (l.take i) s hs
  have hx:(l.getD i default).length<=2^37:=by
   have e:l.getD i default=l[i]:=by simp[aq,kK]
   rw[e];exact hl _ (dI _)
  repeat' first|refine aB ?_|with_reducible refine yL (Kz (kQ s (l.take i)) (l.getD i default) ae) ?_|with_reducible refine B3 (Kz (kQ s (l.take i)) (l.getD i default) ae) ?_|refine aA ?_ ?_<;>intro hw<;>try omega|fail
  refine⟨i+1,?_,?_,?_,da,?_⟩
  ·dsimp only;omega
  ·dsimp only;omega
  ·rfl
  dsimp only;rw[BP l s i kK];exact at_
 obtain rfl:i=l.length:=ae;repeat' first|refine aB ?_|refine aA ?_ ?_<;>intro hw<;>try omega|fail
 rw[fZ];all_goals exact aZ (by rw[hE]) rfl
structure Mk where
 base:Int
 count:Int
 anchor:aU
 head:aU
def xF(m:Mk): AV:= .agg [I m.base,I m.count,.str m.anchor,.str m.head]
structure CU (m:Mk):Prop where
 b0:0<=m.base
 bc:m.base<=m.count
 ct:m.count<=1125899906842624
 la:m.anchor.length=32
 lh:m.head.length=32
 eq:m.base=m.count->m.anchor=m.head
def I9{m:Mk}(h:CU m): aS aH 41 [xF m] (I 0):=by
 obtain⟨b,c,a,d⟩:=m;obtain⟨h1,h2,h3,h4,h5,h6⟩:=h;dsimp only at *;unfold xF;dsimp only;refine a_ Nr ?_;intro Q aJ aK aL;repeat' first|refine aB ?_|refine aA ?_ ?_<;>intro hw<;>try omega|fail
 all_goals first|exact aZ rfl rfl|exact absurd (h6 (by assumption)) (by assumption)
noncomputable def j7 (m:Mk) (s:aU):Mk:=⟨m.base,m.count+1,m.anchor,BO [m.head,s]⟩
def MU{m:Mk}(h:CU m)(hc:m.count<1125899906842624)(s:aU)(hs:s.length<=2^37): aS aH 21 [xF m,.str s] (.bU [xF (j7 m s),I 0]):=by
 have h1:=I9 h;obtain⟨b,c,a,d⟩:=m;obtain⟨g1,g2,g3,g4,g5,g6⟩:=h;unfold xF at h1;dsimp only at *;have h2:=Kz d s ae;obtain⟨E,hE⟩:=cq (BO [d,s]);simp only[j7,xF];rw[hE]at h2 |-;refine a_ Qz ?_;intro Q aJ aK aL;repeat' first|refine aB ?_|refine aA ?_ ?_<;>intro hw<;>try omega|fail
 exact aZ rfl rfl
noncomputable def sB (m:Mk) (l:List aU):Prop:=(l.length:Int)=m.count-m.base/\kQ m.anchor l=m.head
open Classical in
def Uq{m:Mk}(h:CU m)(l:List aU)(hl:∀ x ∈ l,x.length<=2^37)(hn:l.length<=2^40): aS aH 16 [xF m,.aR false E1 (l.map fH)] (I (if sB m l then 0 else 23)):=by
 have h1:=I9 h;obtain⟨b,c,a,d⟩:=m;obtain⟨g1,g2,g3,g4,g5,g6⟩:=h;unfold xF at h1;dsimp only at *;have h2:=Qg a g4 l hl hn;unfold sB xF;dsimp only;generalize kQ a l=E at *;refine a_ LH ?_ (by simp[AV.dy,AV.cG,w9]);intro Q aJ aK aL;repeat' first|refine aB ?_|refine aA ?_ ?_<;>intro hw<;>try omega|fail
 all_goals first|(rw[au ⟨by assumption,by assumption⟩];exact aZ rfl rfl)|(rw[aj (by rintro⟨e1,e2⟩;first|exact absurd e1 (by assumption)|exact absurd e2 (by assumption)|omega)];exact aZ rfl rfl)
noncomputable def sN (m:Mk) (l:List aU) (k:Int):Mk:=⟨k,m.count,kQ m.anchor (l.take (k-m.base).toNat),m.head⟩
def acd {m : Mk} (h : CU m) (l : List aU) (hl : ∀ x ∈ l, x.length <= 2^37) (hn : l.length <= 2^40) (hs : sB m l) (k : Int) :
    aS aH 45 [xF m,.aR false E1 (l.map fH),I k] (.bU (if m.base<=k/\k<=m.count then [xF (sN m l k),I 0]else [.agg [I 0,I 0,.str [],.str []],I 22])):=by
 have h1:=Uq h l hl hn;rw[au hs]at h1;obtain⟨b,c,a,d⟩:=m;obtain⟨g1,g2,g3,g4,g5,g6⟩:=h;unfold xF at h1;dsimp only at *;have h2:=Qg a g4 (l.take (k-b).toNat) (fun x hx=>hl x (List.mem_of_mem_take hx)) (by rw[dW];omega);unfold sN xF;dsimp only;rw[List.map_take]at h2;generalize kQ a (l.take (k-b).toNat)=E at *;have hs1:=hs.1;dsimp only at hs1;refine a_ Sm ?_ (by simp[AV.dy,AV.cG,w9]);intro Q aJ aK aL;repeat' first|refine aB ?_|refine aA ?_ ?_<;>intro hw<;>try omega|fail
 all_goals first|(rw[au ⟨by assumption,by assumption⟩];exact aZ rfl rfl)|(rw[aj (by rintro⟨e1,e2⟩;first|exact absurd e1 (by assumption)|exact absurd e2 (by assumption)|omega)];exact aZ rfl rfl)
def aeU{m:Mk}(h:CU m)(hc:m.count<1125899906842624)(s:aU): CU (j7 m s):=by
 obtain⟨g1,g2,g3,g4,g5,g6⟩:=h;exact⟨g1,by dsimp only[j7];omega,by dsimp only[j7];omega,g4,Up _,by dsimp only[j7];intro e;omega⟩
def VH{m:Mk}{l:List aU}(h:sB m l)(s:aU): sB (j7 m s) (l++[s]):=by
 obtain⟨h1,h2⟩:=h;refine⟨by simp[j7];omega,?_⟩;have e:=BP (l++[s]) m.anchor l.length aQ;rw[show (l++[s]).take (l.length+1)=l++[s] by rw[bG aQ],show(l++[s]).take l.length=l by simp,h2]at e;simpa[j7]using e
def ZK(l k:List aU): ∀ s,kQ s (l++k)=kQ (kQ s l) k:=by
 induction l with
 | nil=>exact fun s=>rfl
 | cons a l ih=>exact fun s=>ih _
def ai_{m:Mk}(h:CU m){l:List aU}(hs:sB m l){k:Int}(h1:m.base<=k)(h2:k<=m.count): CU (sN m l k)/\sB (sN m l k) (l.drop (k-m.base).toNat):=by
 obtain⟨g1,g2,g3,g4,g5,g6⟩:=h;obtain⟨s1,s2⟩:=hs;have e:=ZK (l.take (k-m.base).toNat) (l.drop (k-m.base).toNat) m.anchor;rw[dH,s2]at e;refine⟨⟨by dsimp only[sN];omega,h2,g3,Eh _ _ g4,g5,?_⟩,?_,e.symm⟩
 ·dsimp only[sN];intro hk;rw[hk,show(m.count-m.base).toNat=l.length by omega,fZ,s2]
 dsimp only[sN];rw[dJ];omega
end Go.Proofs.YtoldfccfpameeaaGreatDoor
namespace Go.AM
def KA{σ τ : ai}{l:Nat}{o:aY}(h:(σ.map (fun _=>aY.dead)++ τ)[l]? = some o)(hv:o.live=true): σ.length<=l/\(σ++ τ)[l]? = some o:=by
 by_cases hl:l < σ.length
 ·rw[aI (by simpa using hl)]at h;simp at h;obtain⟨_,_,rfl⟩:=h;cases hv
 rw[bp (by simp;omega)]at h;refine⟨ae,?_⟩;rw[bp ae];simpa using h
def VR.shrink{g0 g':aN}{w0 w':World}{J:Nat->Prop}(hI:∀ b,g'.fN b->J b){a:AV}{v:Value}(h:VR g' w' a v): ∀ {v0:Value},VR g0 w0 a v0->VR { g' with fN:=J,n:=g0.n } w' a v:=by
 induction h with
 | undef v=>exact fun _=> .undef v
 | bool b=>exact fun _=> .bool b
 | int k n=>exact fun _=> .int k n
 | str s=>exact fun _=> .str s
 | agg cs vs hl hs _ ih=>intro v0 h0;cases h0;rename_i rM;exact .agg cs vs hl hs fun i hi=>ih i hi (rM i hi)
 | bU cs vs hl _ ih=>intro v0 h0;cases h0;rename_i rM;exact .bU cs vs hl fun i hi=>ih i hi (rM i hi)
 | aV=>exact fun _=> .aV
 | iT f el b cap hf=>exact fun _=> .iT f el b cap hf
 | aR f el xs b off cap hi hf hx ft hc _ ih =>
   intro v0 h0;cases h0
   ·exact .aR f el [] b off cap (hI b hi) hf hx ft hc fun i c h1 _=>absurd h1 (dm _)
   rename_i rM;exact .aR f el xs b off cap (hI b hi) hf hx ft hc fun i c h1 h2=>ih i c h1 h2 (rM i c h1 h2)
 | own el l m lo n v h=>intro v0 h0;cases h0;rename_i rM;exact .own el l m lo n v ⟨rM.1,h.2⟩
 | ref l off v h=>intro v0 h0;cases h0;rename_i rM;exact .ref l off v ⟨⟨rM.1.1,h.1.2⟩,h.2⟩
 | fh el x off b o hi ft hc _ ih=>intro v0 h0;cases h0;rename_i rM;exact .fh el x off b o (hI b hi) ft hc fun c h2=>ih c h2 (rM c h2)
 | fG el l m i off v h=>intro v0 h0;cases h0;rename_i rM;exact .fG el l m i off v ⟨rM.1,h.2⟩
 | gO=>exact fun _=> .gO
 | nQ=>exact fun _=> .nQ
 | jR=>exact fun _=> .jR
 | fn f first cap first' cap' hl hl' _ _ ih qN=>intro v0 h0;cases h0;rename_i _ rM _ h01;exact .fn f first cap first' cap' hl hl' (fun i hi=>ih i hi (rM i hi)) (fun i hi=>qN i hi (h01 i hi))
 | kZ t a v _ ih=>intro v0 h0;cases h0;rename_i rM;exact .kZ t a v (ih rM)
 | iS=>exact fun _=> .iS
 | nZ v h=>exact fun _=> .nZ v h
 | mp l v h=>intro v0 h0;cases h0;rename_i rM;exact .mp l v ⟨rM.1,h.2⟩
 | qV l v h=>intro v0 h0;cases h0;rename_i rM;exact .qV l v ⟨rM.1,h.2⟩
 | mg el p n A cap hn hc _ ih=>intro v0 h0;cases h0;exact .mg el p n A cap hn hc (ih (by assumption))
def aY.Ok.shrink{g0 g':aN}{w0 w':World}{J:Nat->Prop}(hI:∀ b,g'.fN b->J b){l:Nat}{o:aY}(h:o.Ok g' w' l)(h0:o.Ok g0 w0 l): o.Ok { g' with fN:=J,n:=g0.n } w' l:=by
 cases o with
 | bY T cs =>
   obtain⟨h1,h2,b,vs,h3,h4,h5,h6,h7⟩:=h;obtain⟨_,_,_,_,_,_,_,k6,_⟩:=h0;exact⟨h1,h2,b,vs,h3,h4,h5,fun i hi=>(h6 i hi).shrink hI (k6 i hi),h7⟩
 | dn T el xs =>
   obtain⟨h1,h2,h3⟩:=h;refine⟨h1,h2,?_⟩;rcases h3 with h3|⟨b,vs,h3,h4,h5,h6,h7,h8⟩
   ·exact .inl h3
   refine .inr ⟨b,vs,h3,h4,h5,h6,fun i c hi hc=>?_,h8⟩;rcases h0.2.2 with k3|⟨_,_,_,_,_,_,k7,_⟩
   ·rw[k3.1]at hi;exact absurd hi (dm _)
   exact(h7 i c hi hc).shrink hI (k7 i c hi hc)
 | jA s pos=>exact h
 | map es =>
   obtain⟨h1,b,ms,clock,h2,h3,h4,h5,h6⟩:=h;obtain⟨_,_,_,_,_,_,_,_,k6⟩:=h0;exact⟨h1,b,ms,clock,h2,h3,h4,h5,fun i hi=>⟨(h6 i hi).1.shrink hI (k6 i hi).1,(h6 i hi).2.shrink hI (k6 i hi).2⟩⟩
 | loop nt e ps ca cb st pe =>
   obtain⟨h1,b,rec,h2,h3,h4,h5,h6,h7,h8,h9,h10⟩:=h;obtain⟨_,_,_,_,_,_,_,_,_,_,_,k10⟩:=h0;exact⟨h1,b,rec,h2,h3,h4,h5,h6,h7,h8,h9,fun t ht=>(h10 t ht).shrink hI (k10 t ht)⟩
 | dead=>trivial
 | resv=>exact h
def cE.drop{P:Program}{f:FuncId}{args:List AV}{σ : ai}{r:AV}(h:cE P f args σ fun o σ'=> ∃ r0 τ,o = .ret r0/\σ' = σ++ τ/\View (σ.map (fun _=>aY.dead)++ τ) r0 r): kq P f args σ r:=by
 refine⟨h.1,fun g w vs hR hlen hv=>(h.2 g w vs hR hlen hv).mono ?_⟩;rintro e w' ⟨out,g',σ',jf,hE,hO,r0,τ,rfl,rfl,Dq⟩;have lift:∀ l,Live (σ.map (fun _=>aY.dead)++ τ) l->σ.length<=l/\Live (σ++ τ) l:=fun l ⟨o,ho,hv⟩=>⟨(KA ho hv).1,o,(KA ho hv).2,hv⟩
 have hRd:Rel g' w' (σ.map (fun _=>aY.dead)++ τ):=by
  refine⟨by simpa using jf.len,jf.lt,fun l o ho=>?_,fun l l' c hl hl'=>jf.inj l l' c (lift l hl).2 (lift l' hl').2,fun l c hl=>jf.qc l c (lift l hl).2,jf.glob⟩;by_cases hv:o.live=true
  ·exact jf.ok l o (KA ho hv).2
  ·cases o<;>simp[aY.live]at hv;trivial
 let g2:aN:= { g' with fN:=fun c=>g'.fN c\/mG (σ.map (fun _=>aY.dead)++ τ) g' c,n:=g.n }
 have hat:∀ {l o},σ[l]? = some o->(σ++ τ)[l]? = some o:=fun {l o} ho=>by rw[aI (aE.1 ho).1];exact ho
 have Rs:∀ l,Live σ l->l < σ.length/\Live (σ++ τ) l:=fun l ⟨o,ho,hv⟩=>⟨(aE.1 ho).1,o,hat ho,hv⟩
 have Ev:Rel g2 w' σ:=by
  refine⟨hR.len,fun c hc=>?_,fun l o ho=>(jf.ok l o (hat ho)).shrink (fun b hb=>Or.inl hb) (hR.ok l o ho),fun l l' c hl hl'=>jf.inj l l' c (Rs l hl).2 (Rs l' hl').2,fun l c hl hc hi=>?_,jf.glob.mono fun b hb=>⟨Or.inl hb,rfl⟩⟩
  ·rcases hc with hc|hc
   ·exact jf.lt c hc
   exact hRd.C1 hc
  obtain⟨h1,h2⟩:=Rs l hl;rcases hi with hi|⟨l',hl',mh⟩
  ·exact jf.qc l c h2 hc hi
  have:=jf.inj l l' c h2 (lift l' hl').2 hc mh;have:=(lift l' hl').1;omega
 have hmo:kH g w g2 w':=⟨fun b hb=>⟨Or.inl (hE.mono.fN b hb).1,(hE.mono.fN b hb).2⟩,bg _,hE.mono.ver⟩;refine⟨.ret r,g2,_,Ev,⟨hmo,hE.size,hE.os,hE.tape,hE.output,hE.frame,fun c hc hi=>?_,fun c hc ⟨l,hl,hb⟩=>hE.BS c hc ⟨l,(Rs l hl).2,hb⟩⟩,?_,rfl,rfl⟩
 ·rcases hi with hi|⟨l,hl,hb⟩
  ·exact hE.qW c hc hi
  exact .inr (hE.BS c hc ⟨l,(lift l hl).2,hb⟩)
 ·cases e with
  | returned v=>exact View.vr (g':=g2) hRd (fun c hc=>Or.inl hc) (fun c hc=>Or.inr hc) Dq hO
  | panicked c=>exact hO.elim
  | outgrown=>exact hO.elim
def cE.anf {P : Program} {f : FuncId} {args : List AV} {σ T : ai} {r : AV} {p j : Nat} {cs : List AV} {el : El} (h : cE P f args σ fun o σ' => o = .ret r /\ σ' = T) (hp : T[p]? = some (.cells cs)) (hj : j < cs.length) (hc : cs.getD j .undef = .aV) :
    cE P f args σ fun o σ'=>o = .ret r/\σ'=T.set p (.cells (cs.set j (.aR false el []))):=by
 refine⟨h.1,fun g w vs hR hlen hv=>(h.2 g w vs hR hlen hv).mono ?_⟩;rintro e w' ⟨out,g',σ',jf,hE,hO,rfl,rfl⟩;have hlt:=(aE.1 hp).1
 have iW:∀ l,Live (σ'.set p (.cells (cs.set j (.aR false el [])))) l->Live σ' l:=fun l ⟨o,ho,hv⟩=>by
  by_cases e:p=l
  ·subst e;exact⟨_,hp,rfl⟩
  rw[aF e]at ho;exact⟨o,ho,hv⟩
 have Ev:Rel g' w' (σ'.set p (.cells (cs.set j (.aR false el [])))):=by
  refine⟨by rw[dN];exact jf.len,jf.lt,fun l o ho=>?_,fun l l' c hl hl'=>jf.inj l l' c (iW l hl) (iW l' hl'),fun l c hl=>jf.qc l c (iW l hl),jf.glob⟩;by_cases e:p=l
  ·subst e;rw[bw hlt]at ho;cases ho;obtain⟨h1,h2,b,us,h3,h4,h5,h6,h7⟩:=jf.ok p _ hp;refine⟨h1,?_,b,us,h3,h4,by rw[dN];exact h5,fun i hi=>?_,trivial⟩
   ·rw[bf]at h2 |-;intro x hx;rcases List.mem_or_eq_of_mem_set hx with hx|rfl
    ·exact h2 x hx
    rfl
   rw[dN]at hi;have h8:=h6 i hi;by_cases e:j=i
   ·subst e;rw[hc]at h8;rw[aq,bw hj];generalize us.getD j Go.undef=u at h8;cases h8;exact VR.iT _ _ _ _ (fun h=>by cases h)
   rw[aq,aF e,<-aq];exact h8
  rw[aF e]at ho;exact jf.ok l o ho
 refine⟨.ret r,g',_,Ev,⟨hE.mono,hE.size,hE.os,hE.tape,hE.output,hE.frame,hE.qW,fun c hc ⟨l,hl,hb⟩=>hE.BS c hc ⟨l,iW l hl,hb⟩⟩,hO,rfl,rfl⟩
end Go.AM
namespace Go.Proofs.YtoldfccfpameeaaGreatDoor
open Go.AM
set_option maxRecDepth 4000
abbrev EM: El:=⟨true,6⟩
def yG(l:List Table): AV:= .aR false EM (l.map dS)
def nL(l:List jW): AV:= .aR false EM (l.map jY)
structure Mo where
 vs:List (aU × List Table)
 mark:Mk
 es:List jW
def CV(vs:List (aU × List Table)): List (AV × AV):=vs.map fun p=>(.str p.1,yG p.2)
def xG(q:Nat)(m:Mo): List AV:=[.mp q,I m.mark.base,I m.mark.count,.str m.mark.anchor,.str m.mark.head,nL m.es]
structure jQ (S:ai) (p q:Nat) (m:Mo):Prop where
 hp:S[p]? = some (.cells (xG q m))
 hq:S[q]? = some (.map (CV m.vs))
def jQ.ne{S:ai}{p q:Nat}{m:Mo}(h:jQ S p q m): p≠q:=fun e=>by
 have h1:=h.hp;rw[e,h.hq]at h1;cases h1
def eD(S S':ai): Prop:= ∀(j:Nat) (ob:aY),S[j]? = some ob->S'[j]? = some ob
def eD.refl(S:ai): eD S S:=fun _ _ h=>h
def eD.trans{S S' T:ai}(h:eD S S')(h':eD S' T): eD S T:=fun j ob e=>h' j ob (h j ob e)
def eD.app(S T:ai): eD S (S++T):=fun j ob e=>by rw[aI (aE.1 e).1];exact e
def jQ.keep{S S':ai}{p q:Nat}{m:Mo}(h:jQ S p q m)(k:eD S S'): jQ S' p q m:=⟨k _ _ h.hp,k _ _ h.hq⟩
def Qh{S S':ai}{p off n:Nat}{ag:Bool}{cs:List AV}(h:S[p]? = some (.cells cs))(h':S'[p]? = some (.cells cs))(hl:off+n<=cs.length)(ha:ag=false->n=1): ∃ v,ij S ag n (.ref p off) (fun u=>u=v)/\ij S' ag n (.ref p off) (fun u=>u=v):=by
 refine⟨if ag then .agg ((cs.drop off).take n)else cs.getD off .undef,?_,?_⟩
 ·simp only[ij,h];exact⟨hl,ha,trivial⟩
 simp only[ij,h'];exact⟨hl,ha,trivial⟩
def lB(S T:ai)(k:Nat): (S++T)[S.length+k]? = T[k]?:=by
 rw[bp ae];simp
def jO(S T:ai): (S++T)[S.length]? = T[0]?:=lB S T 0
def k_(S T:ai)(k:Nat)(d:aY): (S++T).set (S.length+k) d=S++T.set k d:=by
 rw[dY _ _ ae];simp
def kC(S T:ai)(d:aY): (S++T).set S.length d=S++T.set 0 d:=k_ S T 0 d
def oV: List (aU × List Table)->aU->Nat->Option (Nat × List Table)
 | [],_,_=>none
 |(a,l)::r,s,i=>if s==a then some (i,l)else oV r s (i+1)
def xH(s:aU): ∀(vs:List (aU × List Table)) (i:Nat),lM (.str s) (CV vs) i=some ((oV vs s i).map fun j=>(j.1,yG j.2))
 | [],i=>rfl
 | (a, l) :: r, i => by
   show(match some (s==a)with|some true=>some (some (i,yG l))|some false=>lM (.str s) (CV r) (i+1)|none=>none)=_;rw[oV];by_cases h:(s==a)=true
   ·rw[h];rfl
   have h:(s==a)=false:=by simpa using h
   rw[h];exact xH s r (i+1)
def jl(vs:List (aU × List Table))(s:aU): List Table:=match oV vs s 0 with
 | some (_,l)=>l
 | none=>[]
def ku(m:Mo)(s:aU)(v:Int): Table × Int × Int :=
 if iZ s=false then(s7,0,13)else
 let w:Int:=if v=0 then(jl m.vs s).length else v
 if w<1\/((jl m.vs s).length:Int)<w then(s7,0,6)else ((jl m.vs s).getD (w-1).toNat default,w,0)
def KB(r:Table × Int × Int): AV:= .bU [dS r.1,I r.2.1,I r.2.2]
section
variable {P:Program} {n:FuncId} {args:List AV} {σ σ2:ai} {r:AV} {K Kp:AV->ai->Prop}
def fC(h:kq P n args σ r)(hk:jS r (.mk:Tg fun r=>K r σ)): oQ P n args σ (.mk:Tg (K,Kp)):=h.mono (by rintro o s ⟨rfl,rfl⟩;exact hk)
def aeV(h:cE P n args σ fun o s=>o = .ret r/\s = σ2)(hk:jS r (.mk:Tg fun r=>tK σ2 (.mk:Tg fun s=>K r s))): oQ P n args σ (.mk:Tg (K,Kp)):=h.mono (by rintro o s ⟨rfl,rfl⟩;exact hk)
end
def aeW(q:Nat): pH .m (.mp q) .iS=some false:=rfl
def wv(s:aU): AV.pI none (.str s)=true:=rfl
def p8{S:ai}{p q:Nat}{m:Mo}(h:jQ S p q m): kq aH 31 [.ref p 0] S (.bool true):=by
 have hp:=h.hp;unfold xG at hp;refine E7.go ?_;unfold dP;intro Q aJ aK aL;repeat' first|simp (disch:=omega) only[go_sem,aJ,aK,aL,hp,aeW]|refine aB ?_|refine aA ?_ ?_<;>intro hw<;>try omega|fail
 all_goals exact⟨rfl,trivial⟩
def Oj{S:ai}{c:Int}{E:Table × Int × Int}(hE:(s7,0,c)=E): ∃ r0 τ,Out.ret (oneOf [.agg [.str [],.aV,.aV,I 0,I 0,.aV],I 0,I c])=Out.ret r0/\S++[aY.cells [.str [],.aV,.aV,I 0,I 0,.aV]]=S++ τ/\View (S.map (fun _=>aY.dead)++ τ) r0 (KB E):=by
 subst hE;exact⟨_,_,rfl,rfl,View.ac7 (.cons (View.nS (.cons (.refl _ rfl) (.cons (.aV _) (.cons (.aV _) (.cons (.refl _ rfl) (.cons (.refl _ rfl) (.cons (.aV _) (.nil _)))))))) (.cons (.refl _ rfl) (.cons (.refl _ rfl) (.nil _))))⟩
def ace{S:ai}{t:Table}{w:Int}{E:Table × Int × Int}(hE:(t,w,0)=E): ∃ r0 τ,Out.ret (oneOf [.agg (gK t),I w,I 0])=Out.ret r0/\S++[aY.cells (gK t)]=S++ τ/\View (S.map (fun _=>aY.dead)++ τ) r0 (KB E):=by
 subst hE;exact⟨_,_,rfl,rfl,View.refl _ (by show(KB (t,w,0)).dy=true;simp[KB,AV.dy,AV.cG])⟩
def x3 {S : ai} {p q : Nat} {m : Mo} (h : jQ S p q m) (s : aU) (hs : s.length <= 2^60) (v : Int) (hl : (jl m.vs s).length <= 2^60) :
    kq aH 13 [.ref p 0,.str s,I v] S (KB (ku m s v)):=by
 refine cE.drop ?_;have c1:=fun c=>p8 (h.keep (eD.app S [c]));have c2:=v7 s ae;obtain⟨E,hE⟩:=cq (ku m s v);rw[hE];unfold ku at hE;have hp:=fun c:aY=>(eD.app S [c]) _ _ h.hp;have hq:=fun c:aY=>(eD.app S [c]) _ _ h.hq;have uy:=xH s m.vs 0;have Ty:=fun c:aY=>(by simp:(S++[c])[S.length]? = some c);have hSs:=fun c d:aY=>(by simp:(S++[c]).set S.length d=S++[d]);unfold jl at hE hl;unfold xG at hp;refine Bj.go ?_;unfold dP;intro Q aJ aK aL;cases hn:iZ s
 ·rw[hn]at hE c2;rw[au rfl]at hE;repeat' first|refine cz (zB hp Ty hSs) ?_|refine aB ?_|with_reducible refine fC (c1 _) ?_|refine aA ?_ ?_<;>intro hw<;>try omega|fail
  all_goals first|exact Oj hE|skip
 rw[hn]at hE c2;rw[aj aQ]at hE;cases hf:oV m.vs s 0 with
 | none =>
   rw[hf]at uy hE hl;simp only[Option.map_none]at uy;dsimp only at hE hl;repeat' first|simp (disch:=omega) only[go_sem,aJ,aK,aL,hp,hq,uy,wv,Ty,hSs]|refine aB ?_|with_reducible refine fC (c1 _) ?_|refine aA ?_ ?_<;>intro hw<;>try omega|fail
   all_goals first|exact Oj (by rw[<-hE,au (by split<;>simp_all<;>omega)])|skip
 | some j =>
   obtain⟨i,l⟩:=j;rw[hf]at uy hE hl;simp only[dh,yG]at uy;dsimp only at hE hl;repeat' first|simp (disch:=omega) only[go_sem,aJ,aK,aL,hp,hq,uy,wv,Ty,hSs]|refine aB ?_|with_reducible refine fC (c1 _) ?_|refine aA ?_ ?_<;>intro hw<;>try omega|fail
   all_goals first|exact Oj (by rw[<-hE,au (by split<;>simp_all<;>omega)])|exact ace (by rw[<-hE,aj (by rw[au (by assumption)];omega),au (by assumption)])|exact ace (by rw[<-hE,aj (by rw[aj (by assumption)];omega),aj (by assumption)])|skip
def wz(vs:List (aU × List Table))(s:aU)(l:List Table): List (aU × List Table):=match oV vs s 0 with
 | some (i,_)=>vs.set i (s,l)
 | none=>vs++[(s,l)]
def aeX(s:aU)(l:List Table)(vs:List (aU × List Table)): wS (.str s) (yG l) (CV vs)=some (CV (wz vs s l)):=by
 unfold wS wz;rw[xH];cases oV vs s 0 with
 | none=>simp[CV]
 | some j=>simp[CV,List.map_set]
def wA(m:Mo)(t:Table): Mo × Int × Int :=
 if(gk t).2.2.2≠0 then(m,0,(gk t).2.2.2)else
 if(m_ (gk t).1).2≠0 then(m,0,(m_ (gk t).1).2)else
 (⟨wz m.vs (gk t).1.name (jl m.vs (gk t).1.name++[(gk t).1]),m.mark,m.es⟩,(jl m.vs (gk t).1.name).length+1,0)
def p_(p q:Nat)(S S':ai): Prop:= ∀(j:Nat) (ob:aY),S[j]? = some ob->j≠p->j≠q->S'[j]? = some ob
def qK{S:ai}{p q:Nat}{m:Mo}(h:jQ S p q m)(T:ai): jQ (S++T) p q m/\p_ p q S (S++T):=⟨h.keep (eD.app S T),fun j ob e _ _=>eD.app S T j ob e⟩
def acf{S:ai}{p q:Nat}{m:Mo}(h:jQ S p q m)(T:ai)(vs:List (aU × List Table)): jQ ((S++T).set q (.map (CV vs))) p q ⟨vs,m.mark,m.es⟩/\p_ p q S ((S++T).set q (.map (CV vs))):=by
 have h2:=h.keep (eD.app S T);have hl:=(aE.1 h2.hq).1;refine⟨⟨?_,bw hl⟩,fun j ob e _ hq=>?_⟩
 ·rw[aF (Ne.symm h.ne)];exact h2.hp
 rw[aF (Ne.symm hq)];exact eD.app S T j ob e
def EN {S : ai} {p q : Nat} {m : Mo} (h : jQ S p q m) (t : Table) (ok : j4 t) (okc : j4 (gk t).1) (hl : ∀ s, (jl m.vs s).length <= 2^30) :
    cE aH 26 [.ref p 0,dS t] S (fun o S'=>o = .ret (.bU [I (wA m t).2.1,I (wA m t).2.2])/\jQ S' p q (wA m t).1/\p_ p q S S'):=by
 have c2:=Gw t ok;have c3:=Ud (gk t).1 okc;obtain⟨E,hE⟩:=cq (wA m t);rw[hE];unfold wA at hE;generalize gk t=C at *;obtain⟨c,a,b,e⟩:=C;generalize m_ c=B at *;obtain⟨bs,be⟩:=B;dsimp only at hE c2 c3;have hp:=fun T:ai=>(eD.app S T) _ _ h.hp;have hq:=fun T:ai=>(eD.app S T) _ _ h.hq;have c1:=fun T=>p8 (h.keep (eD.app S T));have uy:=xH c.name m.vs 0;have tA:=hl c.name;have vA:=aeX c.name (jl m.vs c.name++[c]) m.vs;have hst:=fun T:ai=>eD.app S T;have hne:=h.ne;unfold xG at hp;simp only[eT4,eB,dS,gK,b_,eR]at c2 c3 |-;refine Bi.go ?_;unfold dP;intro Q aJ aK aL;cases hf:oV m.vs c.name 0 with
 | none =>
   have hg:jl m.vs c.name=[]:=by unfold jl;rw[hf]
   rw[hg]at vA tA hE;rw[hf]at uy;simp only[Option.map_none]at uy;simp only[yG,bS,bB,de,dS,gK,b_,eR]at vA;repeat' first|simp (disch:=omega) only[go_sem,aJ,aK,aL,hp,hq,uy,vA,wv,aT,cJ]|refine aB ?_|with_reducible refine fC (c1 _) ?_|refine aA ?_ ?_<;>intro hw<;>try omega|fail
   all_goals first
    | (obtain rfl : (m, 0, e) = E := by rw [<-hE, au ae]
       exact⟨rfl,qK h _⟩)
    | (obtain rfl : (m, 0, be) = E := by rw [<-hE, aj ae, au ae]
       exact⟨rfl,qK h _⟩)
    | (obtain rfl : (⟨wz m.vs c.name ([c]), m.mark, m.es⟩, (0 + 1 : Int), 0) = E := by rw [<-hE, aj ae, aj ae]; first | done | simp
       exact⟨rfl,acf h _ _⟩)
    | skip
 | some j =>
   obtain⟨i,l⟩:=j;have hg:jl m.vs c.name=l:=by unfold jl;rw[hf]
   rw[hg]at vA tA hE;rw[hf]at uy;simp only[dh,yG]at uy;simp only[yG,fI,bB,de,dS,gK,b_,eR]at vA;repeat' first|simp (disch:=omega) only[go_sem,aJ,aK,aL,hp,hq,uy,vA,wv,aT,cJ]|refine aB ?_|with_reducible refine fC (c1 _) ?_|refine aA ?_ ?_<;>intro hw<;>try omega|fail
   all_goals first
    | (obtain rfl : (m, 0, e) = E := by rw [<-hE, au ae]
       exact⟨rfl,qK h _⟩)
    | (obtain rfl : (m, 0, be) = E := by rw [<-hE, aj ae, au ae]
       exact⟨rfl,qK h _⟩)
    | (obtain rfl : (⟨wz m.vs c.name (l ++ [c]), m.mark, m.es⟩, (l.length + 1 : Int), 0) = E := by rw [<-hE, aj ae, aj ae]; first | done | simp
       exact⟨rfl,acf h _ _⟩)
    | skip
def Ik(xs:List AV)(hp:AV.cG xs=true)(hn:xs.length<=2^60): aS aH 54 [.aR false EM xs] (.aR true EM xs):=by
 refine a_ Dw ?_ (by simp[AV.dy,AV.cG,hp]);intro Q aJ aK aL;repeat' first|refine aB ?_|refine aA ?_ ?_<;>intro hw<;>try omega|fail
 refine⟨_,rfl,?_⟩;rw[fZ];exact View.refl _ (by show(AV.aR true EM xs).dy=true;simpa[AV.dy]using hp)
def acg{P:Program}{σ : ai}{K Kp:AV->ai->Prop}(f:Bool): eG P (.app none ⟨true,6⟩ (.c (.aR true ⟨true,6⟩ [])) (.c (.aR f ⟨true,6⟩ []))) σ (.mk:Tg (K,Kp))=K (.aR true ⟨true,6⟩ []) σ:=by
 simp[eG,bx.run,AX.ev,oY,gN]
def rR(xs:List AV)(hp:AV.cG xs=true)(hf:xs.all (fun a=>a.fits EM)=true)(hn:xs.length<=2^30): aS aH 32 [.aR false EM xs] (.aR false EM xs):=by
 refine a_ Cg ?_ (by simp[AV.dy,AV.cG,hp]);intro Q aJ aK aL;repeat' first|refine aB ?_|refine aA ?_ ?_<;>intro hw<;>try omega|fail
 refine ai6 (fun hx=>?_) ?_
 ·subst hx;repeat' first|simp (disch:=omega) only[go_sem,aJ,aK,aL,aP,if_false]|refine aB ?_|refine aA ?_ ?_<;>intro hw<;>try omega|fail
  all_goals first|exact⟨_,rfl,.aV _⟩|exact absurd hw aQ|skip
 ·cases xs with
  | nil =>
    repeat' first|simp (disch:=omega) only[go_sem,aJ,aK,aL,aP,if_false,acg]|refine aB ?_|refine aA ?_ ?_<;>intro hw<;>try omega|fail
    exact⟨_,rfl,.weak _ _ _ rfl⟩
  | cons x r =>
    repeat' first|simp (disch:=omega) only[go_sem,aJ,aK,aL,aP,if_false,hf]|refine aB ?_|refine aA ?_ ?_<;>intro hw<;>try omega|fail
    refine yp ⟨trivial,by show(r.length+1)*7<=2^40;simp at hn;omega⟩ fun _=>?_;repeat' first|refine aB ?_|refine aA ?_ ?_<;>intro hw<;>try omega|fail
    exact⟨_,rfl,View.vec rfl rfl rfl hp⟩
def sC{S:ai}{p q:Nat}{m:Mo}(h:jQ S p q m): kq aH 10 [.ref p 0] S (.bU [xF m.mark,I 0]):=by
 refine cE.drop ?_;have c1:=fun c=>p8 (h.keep (eD.app S [c]));have hp:=fun c:aY=>(eD.app S [c]) _ _ h.hp;unfold xG at hp;have Ty:=fun c:aY=>(by simp:(S++[c])[S.length]? = some c);have hSs:=fun c d:aY=>(by simp:(S++[c]).set S.length d=S++[d]);refine E6.go ?_;unfold dP;intro Q aJ aK aL;repeat' first|refine cz (zB hp Ty hSs) ?_|refine aB ?_|with_reducible refine fC (c1 _) ?_|refine aA ?_ ?_<;>intro hw<;>try omega|fail
 exact⟨_,_,rfl,rfl,View.refl _ rfl⟩
def zQ(m:Mo)(a n:Int): List jW:=(m.es.drop (a-m.mark.base).toNat).take n.toNat
def Ei(l:List jW): (l.map jY).all (fun a=>a.fits EM)=true:=by
 rw[bf];intro x hx;obtain⟨e,_,rfl⟩:=cI.1 hx;rfl
def uz {S : ai} {p q : Nat} {m : Mo} (h : jQ S p q m) (hm : CU m.mark) (hl : (m.es.length : Int) = m.mark.count - m.mark.base) (he : m.es.length <= 2^30) (a n : Int) (ha : m.mark.base <= a) (ha2 : a <= m.mark.count) (h0 : 0 <= n) :
    kq aH 11 [.ref p 0,I a,I n] S (.bU [nL (zQ m a n),I 0]):=by
 have c1:=p8 h;have hp:=h.hp;unfold xG nL at hp;obtain⟨g1,g2,g3,_,_,_⟩:=hm;obtain⟨E,hE⟩:=cq (zQ m a n);rw[hE];unfold zQ at hE;refine FU.go ?_;unfold dP;intro Q aJ aK aL;have hc:=fun k j=>rR (((m.es.drop k).take j).map jY) (fm _ _ wq) (Ei _) (by simp;omega);simp only[List.map_take,List.map_drop]at hc;repeat' first|refine cz hp ?_|refine aB ?_|refine eU ((hc _ _)) ?_|with_reducible refine fC c1 ?_|refine aA ?_ ?_<;>intro hw<;>try omega|fail
 refine⟨?_,trivial⟩;rw[<-hE];simp only[oneOf,nL,List.map_take,List.map_drop];split
 ·rename_i hlt;rw[bG ae,bG (by simp at hlt |-;omega)]
 rfl
noncomputable def gu (l:List jW):List aU:=l.map fun e=>(gM e).1
def nr(l:List jW): (gu l).length=l.length:=by simp[gu]
def VI {S : ai} {p q : Nat} {m : Mo} (h : jQ S p q m) (hk : ∀ e ∈ m.es, p7 e) (he : m.es.length <= 2^30) :
    kq aH 35 [.ref p 0] S (.aR false E1 ((gu m.es).map fH)):=by
 refine cE.drop ?_;have hp:=h.hp;unfold xG nL at hp;refine Ds.go ?_;unfold dP;intro Q aJ aK aL;have qQ:=(aE.1 hp).1;have CW:=fun T:ai=>(eD.app S T) _ _ hp;repeat' first|refine cz CW ?_|refine aB ?_|refine aA ?_ ?_<;>intro hw<;>try omega|fail
 with_reducible refine bE [3,1,5,3,13,14] (fun i:Nat=>[(13,I i),(3,.own E1 S.length i 0 i)]) (fun i=>S++(.vec E1 (((gu m.es).take i).map fH)::(m.es.take i).map fun e=> .cells (nJ e))) (fun i=>i<=m.es.length) (fun i=>m.es.length-i) (0) ?_ ?_ ?_ ?_
 ·simp
 ·simp
 ·exact at_
 rintro i r hi;try dsimp only at hi
 by_cases kK:i<m.es.length
 ·have c2:=BM (m.es.getD i default) (hk _ (bq kK))
  have hts:(gu m.es).take (i+1)=(gu m.es).take i++[(gM (m.es.getD i default)).1]:=by
   have e1:m.es.getD i default=m.es[i]:=by simp[aq,kK]
   rw[dD (by rw[nr];exact kK),e1];simp[gu]
  simp only[jY,nJ,bu,eN,eX,Xj]at c2;have hA2:=fun(A:ai) (c:aY)=>(by simp:(A++[c])[A.length]? = some c);have hA3:=fun(A:ai) (c d:aY)=>(by simp:(A++[c]).set A.length d=A++[d]);have EH:S.length+((m.es.take i).length+1)=(S++aY.vec E1 (((gu m.es).take i).map fH)::(m.es.take i).map fun e=> .cells (nJ e)).length:=aQ;unfold nJ bu eN eX at EH;generalize hA:S++aY.vec E1 (((gu m.es).take i).map fH)::(m.es.take i).map (fun e=> .cells (nJ e))=A at *
  have hAv:∀ c:aY,(A++[c])[S.length]? = some (.vec E1 (((gu m.es).take i).map fH)):=fun c=>by
   rw[<-hA,aT,bp ae];simp
  have V7:(((gu m.es).take i).map fH).length=i:=by simp[nr];omega
  repeat' first|refine cz (zC CW hA2 hA3 (zA hAv V7)) ?_|refine aB ?_|refine aA ?_ ?_<;>intro hw<;>try omega|fail
  refine⟨i+1,?_,?_,?_,da,?_⟩
  ·dsimp only;omega
  ·dsimp only;omega
  ·dsimp only;rw[<-hA,hts,aT,dY _ _ ae];have e1:m.es.getD i default=m.es[i]:=by simp[aq,kK]
   rw[dD kK,e1];simp[nJ,bu,eN,eX,fH,-List.map_take];rw[dD kK,fI];rfl
  exact at_
 obtain rfl:i=m.es.length:=ae;repeat' first|refine aB ?_|refine aA ?_ ?_<;>intro hw<;>try omega|fail
 refine⟨_,_,rfl,rfl,?_⟩
 ·rw[bG (Nat.le_of_eq (nr m.es))];exact View.vec (T:=none) aQ (by simp[nr]) (by simp[nr]) (w9 _)
noncomputable def nK (m:Mo) (s:aU) (v:Int) (row:List aX):Mo × jW × Int × Int :=
 if(ku m s v).2.2≠0 then(m,vo,0,(ku m s v).2.2)else
 if(ux (ku m s v).1 (ku m s v).2.1 row).2≠0 then(m,vo,0,(ux (ku m s v).1 (ku m s v).2.1 row).2)else
 if(gM (ux (ku m s v).1 (ku m s v).2.1 row).1).2≠0 then(m,vo,0,(gM (ux (ku m s v).1 (ku m s v).2.1 row).1).2)else
 (⟨m.vs,j7 m.mark (gM (ux (ku m s v).1 (ku m s v).2.1 row).1).1,m.es++[(ux (ku m s v).1 (ku m s v).2.1 row).1]⟩,(ux (ku m s v).1 (ku m s v).2.1 row).1,m.mark.count,0)
def Xo{S:ai}{p q:Nat}{m:Mo}(h:jQ S p q m)(T:ai)(m2:Mo)(hv:m2.vs=m.vs): jQ ((S++T).set p (.cells (xG q m2))) p q m2/\p_ p q S ((S++T).set p (.cells (xG q m2))):=by
 have h2:=h.keep (eD.app S T);have hl:=(aE.1 h2.hp).1;refine⟨⟨bw hl,?_⟩,fun j ob e hp _=>?_⟩
 ·rw[aF h.ne,hv];exact h2.hq
 rw[aF (Ne.symm hp)];exact eD.app S T j ob e
def Hh {S : ai} {p q : Nat} {m : Mo} (h : jQ S p q m) (hm : CU m.mark) (hc : m.mark.count < 1125899906842624) (s : aU) (hs : s.length <= 2^60) (v : Int) (hl : (jl m.vs s).length <= 2^60) (row : List aX) (hrow : mT row)
    (ht:(ku m s v).2.2=0->j4 (ku m s v).1) (hb:∀ x:jW,(gM x).2=0->(gM x).1.length<=2^37) (hx:(ku m s v).2.2=0->p7 (ux (ku m s v).1 (ku m s v).2.1 row).1) (he:m.es.length<=2^30) :
    cE aH 28 [.ref p 0,.str s,I v,bu row] S (fun o S'=>(∃ r0,o = .ret (.bU [r0,I (nK m s v row).2.2.1,I (nK m s v row).2.2.2])/\((nK m s v row).2.2.2=0->r0=jY (nK m s v row).2.1))/\jQ S' p q (nK m s v row).1/\p_ p q S S'):=by
 have c1:=fun T=>x3 (h.keep (eD.app S T)) s hs v hl;obtain⟨E,hE⟩:=cq (nK m s v row);rw[hE];unfold nK at hE;generalize ku m s v=V at *;obtain⟨t,w,e⟩:=V;dsimp only[KB]at hE c1 ht hx;have hp:=fun T:ai=>(eD.app S T) _ _ h.hp;have hq:=fun T:ai=>(eD.app S T) _ _ h.hq;unfold xG at hp;refine B4.go ?_;unfold dP;intro Q aJ aK aL;by_cases Tx:e=0
 ·subst Tx;have c2:=aeM t (ht rfl) w row hrow;have hx:=hx rfl;generalize ux t w row=O at *;obtain⟨x,f⟩:=O;dsimp only[MR]at hE c2 hx;have c3:=BM x hx;have hb:=hb x;generalize gM x=B at *;obtain⟨bs,be⟩:=B;dsimp only[Xj]at hE c3 hb;simp only[dS,gK,b_,eR,jY,nJ,bu,eN,eX]at c2 c3 |-;have qQ:=fun T:ai=>(aE.1 (hp T)).1;have hpS:=fun(T:ai) (d:aY)=>(bw (qQ T):((S++T).set p d)[p]? = some d);have ang:=(aE.1 h.hp).1;have Aj:=fun(T:ai) (d:aY) (k:Nat)=>(by rw[aF ae];exact lB S T k:((S++T).set p d)[S.length+k]? = T[k]?);have hg0:∀ (T:ai) (d:aY),((S++T).set p d)[S.length]? = T[0]?:=fun T d=>Aj T d 0;have Qc:=fun(T:ai) (d c:aY) (k:Nat)=>(by rw[List.set_comm _ _ ae,k_]:((S++T).set p d).set (S.length+k) c=(S++T.set k c).set p d);have hs0:∀ (T:ai) (d c:aY),((S++T).set p d).set S.length c=(S++T.set 0 c).set p d:=fun T d c=>Qc T d c 0;by_cases hbe:be=0
  ·subst hbe;have c4:=MU hm hc bs (hb rfl);simp only[xF]at c4;have c5:aS aH 54 [nL m.es] (.aR true EM (m.es.map jY)):=Ik _ (fm _ _ wq) (by simp;omega);have hf5:([AV.agg (nJ x)]).all (fun a=>a.fits EM)=true:=rfl;have hr5:gH (m.es.length+1) EM:=by show(m.es.length+1)*7<=2^40;omega
   simp only[nJ,bu,eN,eX]at hf5;repeat' first|simp (disch:=omega) only[go_sem,aJ,aK,aL,hp,hpS,lB,jO,k_,kC,bO,bH,dO,eA,bK,bS,aT,cJ,ek,hf5,hr5,Aj,hg0,Qc,hs0]|refine aB ?_|with_reducible refine fC (c1 _) ?_|refine aA ?_ ?_<;>intro hw<;>try omega|fail
   all_goals first
    | (obtain rfl : (m, vo, 0, f) = E := by rw [<-hE, aj ae, au ae]
       exact⟨⟨_,rfl,fun h0=>absurd h0 (by dsimp only;omega)⟩,qK h _⟩)
    | (obtain rfl : (⟨m.vs, j7 m.mark bs, m.es ++ [x]⟩, x, m.mark.count, 0) = E := by rw [<-hE, aj ae, aj ae, aj ae]
       have WG:=fun T=>Xo h T ⟨m.vs,j7 m.mark bs,m.es++[x]⟩ rfl;simp only[xG,nL,fI,bB,de,jY,nJ,bu,eN,eX]at WG;exact⟨⟨_,rfl,fun _=>rfl⟩,WG _⟩)
    | skip
  repeat' first|simp (disch:=omega) only[go_sem,aJ,aK,aL,hp,lB,jO,k_,kC,bO,bH,dO,eA,bK,bS,aT,cJ]|refine aB ?_|with_reducible refine fC (c1 _) ?_|refine aA ?_ ?_<;>intro hw<;>try omega|fail
  all_goals first
   | (obtain rfl : (m, vo, 0, f) = E := by rw [<-hE, aj ae, au ae]
      exact⟨⟨_,rfl,fun h0=>absurd h0 (by dsimp only;omega)⟩,qK h _⟩)
   | (obtain rfl : (m, vo, 0, be) = E := by rw [<-hE, aj ae, aj ae, au ae]
      exact⟨⟨_,rfl,fun h0=>absurd h0 (by dsimp only;omega)⟩,qK h _⟩)
   | skip
 repeat' first|simp (disch:=omega) only[go_sem,aJ,aK,aL,hp,lB,jO,k_,kC,bO,bH,dO,eA,bK,bS,aT,cJ]|refine aB ?_|with_reducible refine fC (c1 _) ?_|refine aA ?_ ?_<;>intro hw<;>try omega|fail
 all_goals first
  | (obtain rfl : (m, vo, 0, e) = E := by rw [<-hE, au ae]
     exact⟨⟨_,rfl,fun h0=>absurd h0 (by dsimp only;omega)⟩,qK h _⟩)
  | skip
end Go.Proofs.YtoldfccfpameeaaGreatDoor
namespace Go.AM
def Qi{P:Program}{n:FuncId}{args:List AV}{σ : ai}{r:AV}{K Kp:AV->ai->Prop}(h:∀ τ,kq P n args (σ++ τ) r)(hk:jS r (.mk:Tg fun r=>K r σ)): Al P n args σ (.mk:Tg (K,Kp)):=⟨r,h,hk⟩
end Go.AM
namespace Go.Proofs.YtoldfccfpameeaaGreatDoor
open Go.AM
set_option maxRecDepth 4000
noncomputable def qa (m:Mo) (k:Int):Mo × Int :=
 if m.mark.base<=k/\k<=m.mark.count then(⟨m.vs,sN m.mark (gu m.es) k,m.es.drop (k-m.mark.base).toNat⟩,0)else (m,22)
def EO {S : ai} {p q : Nat} {m : Mo} (h : jQ S p q m) (hm : CU m.mark) (hst : sB m.mark (gu m.es)) (hk : ∀ e ∈ m.es, p7 e) (hb : ∀ e ∈ m.es, (gM e).1.length <= 2^37) (he : m.es.length <= 2^30) (k : Int) :
    cE aH 19 [.ref p 0,I k] S (fun o S'=>o = .ret (I (qa m k).2)/\jQ S' p q (qa m k).1/\p_ p q S S'):=by
 have c1:=p8 h;have c2:=fun T=>VI (h.keep (eD.app S T)) hk he;have c3:=acd hm (gu m.es) (fun x hx=>by obtain⟨e,h1,rfl⟩:=cI.1 hx;exact hb e h1) (by rw[nr];omega) hst k;have hp:=h.hp;have hs1:=hst.1;rw[nr]at hs1;obtain⟨E,hE⟩:=cq (qa m k);rw[hE];unfold qa at hE;unfold xG nL at hp;unfold xF at c3;have CW:=fun T:ai=>(eD.app S T) _ _ hp;refine Bh.go ?_;unfold dP;intro Q aJ aK aL;have c5:=fun d=>rR ((m.es.drop d).map jY) (fm _ _ wq) (Ei _) (by simp;omega);simp only[List.map_drop]at c5;have ang:=(aE.1 h.hp).1;have qQ:=fun T:ai=>(aE.1 (CW T)).1;have hpS:=fun(T:ai) (d:aY)=>(bw (qQ T):((S++T).set p d)[p]? = some d);have Aj:=fun(T:ai) (d:aY) (k:Nat)=>(by rw[aF ae];exact lB S T k:((S++T).set p d)[S.length+k]? = T[k]?);have hg0:∀ (T:ai) (d:aY),((S++T).set p d)[S.length]? = T[0]?:=fun T d=>Aj T d 0;have Qc:=fun(T:ai) (d c:aY) (k:Nat)=>(by rw[List.set_comm _ _ ae,k_]:((S++T).set p d).set (S.length+k) c=(S++T.set k c).set p d);have hs0:∀ (T:ai) (d c:aY),((S++T).set p d).set S.length c=(S++T.set 0 c).set p d:=fun T d c=>Qc T d c 0;by_cases hkk:m.mark.base<=k/\k<=m.mark.count
 ·rw[au hkk]at c3 hE;subst hE;repeat' first|simp (disch:=omega) only[go_sem,aJ,aK,aL,hp,CW,hpS,Aj,hg0,Qc,hs0,lB,jO,k_,kC,ek,bO,bH,dO,eA,bK,bS,aT,cJ]|refine aB ?_|refine eU ((c5 _)) ?_|with_reducible refine fC c1 ?_|with_reducible refine Qi c2 ?_|refine aA ?_ ?_<;>intro hw<;>try omega|fail
  have WG:=fun T=>Xo h T ⟨m.vs,sN m.mark (gu m.es) k,m.es.drop (k-m.mark.base).toNat⟩ rfl;simp only[xG,nL,List.map_drop]at WG;exact⟨rfl,WG _⟩
 rw[aj hkk]at c3 hE;subst hE;repeat' first|simp (disch:=omega) only[go_sem,aJ,aK,aL,hp,CW,hpS,Aj,hg0,Qc,hs0,lB,jO,k_,kC,ek,bO,bH,dO,eA,bK,bS,aT,cJ]|refine aB ?_|refine eU ((c5 _)) ?_|with_reducible refine fC c1 ?_|with_reducible refine Qi c2 ?_|refine aA ?_ ?_<;>intro hw<;>try omega|fail
 exact⟨rfl,qK h _⟩
