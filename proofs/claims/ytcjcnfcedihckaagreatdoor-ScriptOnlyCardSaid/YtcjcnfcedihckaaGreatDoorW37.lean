/- Part. -/
import Derived.Test.YtcjcnfcedihckaaGreatDoorW36
set_option linter.all false
set_option maxHeartbeats 8000000
namespace Go.Proofs.YtcjcnfcedihckaaGreatDoor
open Go.AM
set_option maxRecDepth 4000
@[go_sem] def aar {P:Program} {el:El} {x:AV} {i:Nat} {σ : ae} {K Kp:AV->ae->Prop}:d_ P (.pK (.c (.dO el x i))) σ (.mk:Tg (K,Kp))=K (.dO el x i) σ:=_root_.id rfl
def yb(o:AV)(n:Int)(t:Table): AV:= .dO ⟨true,8⟩ (.agg [o,I n,.str t.name,cJ t.ins,cJ t.outs,I t.aM,I t.agg,eF t.rules]) 0
def Qz{o:AV}(ho:o.dz=true)(n:Int)(t:Table): (yb o n t).dz=true:=by
 simp[yb,AV.dz,AV.cA,ho]
def QA{t:Table}(h:jQ t): jQ (je t):=by
 unfold je;split
 ·obtain⟨h1,h2,h3,h4,h5⟩:=h;refine⟨h1,h2,⟨by simp,fun c hc=>?_⟩,h4,h5⟩;obtain rfl:=bK.1 hc;refine⟨by simp,?_,?_⟩
  ·dsimp only;split<;>simp
  ·dsimp only;split
   ·intro v hv;obtain rfl:=bK.1 hv;exact⟨⟨by decide,by decide⟩,by simp⟩
   ·intro v hv;cases hv
 ·exact h
def Li(o:AV)(ho:o.dz=true)(n:Int)(t:Table)(h:jQ t): aP aK 63 [yb o n t] (.bool (dP t)):=by
 obtain⟨E,hE⟩:∃ E,dP t=E:=⟨_,rfl⟩;rw[hE];unfold dP at hE;have DP:=h.2.1.1;have GA:=h.2.2.1.1;have Cq:=h.2.2.2.1;have IV:AV.cA [yb o n t]=true:=by simp only[AV.cA,Qz ho,fP]
 by_cases hi:t.ins.length=0
 ·rw[if_pos hi]at hE;refine aP.Dk (jR.go ?_) IV;unfold eP;intro Q aF aG aH;simp only[yb,cJ,eF];repeat' first|refine aE ?_|refine aD ?_ ?_<;>intro hw<;>try omega|fail
  all_goals first|exact bN|(refine aU ?_ rfl;rw[<-hE];refine congrArg AV.bool ?_;clear hE;rw[a_];simp_all;done)|skip
 rw[if_neg hi]at hE;have ok:=QA h;have c1:=Cy (je t) ok;have c2:=yA (ff (je t)).1 (je t) (Ng ok) (y8 ok)
 have c3:ie (ff (je t)).1 (je t)=true->aP aK 36 [dV (ff (je t)).1] (eB (jI (ff (je t)).1)):=fun hu=>by
  rw[sW hu];exact CK _ ok
 by_cases hz:t.outs.length=0
 ·have hf:je t=⟨t.name,t.ins,n_ t.aM,t.aM,t.agg,t.rules⟩:=by unfold je;rw[if_pos hz];rfl
  rw[hf]at c1 c2 c3 hE;obtain⟨C,hC⟩:∃ C,ff ⟨t.name,t.ins,n_ t.aM,t.aM,t.agg,t.rules⟩=C:=⟨_,rfl⟩;rw[hC]at c1 c2 c3 hE;obtain⟨C,m1,m2,e⟩:=C;dsimp only at c1 c2 c3 hE;generalize ie C ⟨t.name,t.ins,n_ t.aM,t.aM,t.agg,t.rules⟩=b at *;generalize jI C=B at *;obtain⟨bs,be⟩:=B;dsimp only at c3 hE;by_cases hp:t.aM=3
  ·have hout:(n_ t.aM).map bq=[.agg [.str [111],I 1,.aO false EV [.agg [I 1,I 0,.str []]]]]:=by unfold n_;rw[if_pos hp];simp[bq,dy,fF]
   simp only[Qe,eB,dV,ia,cJ,eF,hout]at c1 c2 c3;refine aP.Dk (jR.go ?_) IV;unfold eP;intro Q aF aG aH;simp only[yb,cJ,eF];repeat' first|refine aE ?_|refine aD ?_ ?_<;>intro hw<;>try omega|fail
   all_goals first|(exfalso;omega)|skip
   refine Qy (l:=1) (k:=0) (T:=none) (el:=EC) (xs:=[.agg [.str [111],.int .i64 1,.aO true EV [.agg [.int .i64 1,.int .i64 0,.str []]]]]) [.str t.name,.aO false EC (t.ins.map bq),.aO false EC [.agg [.str [111],.int .i64 1,.aO true EV [.agg [.int .i64 1,.int .i64 0,.str []]]]],I t.aM,I t.agg,.aO false ER (t.rules.map cu)] rfl rfl (by simp) rfl (fun i=>by match i with|0=>exact .inl rfl|1=>exact .inl rfl|2=>exact .inr ⟨rfl,rfl⟩|3=>exact .inl rfl|4=>exact .inl rfl|5=>exact .inl rfl|n+6=>exact .inl rfl) ?_;cases b with
   | false =>
     repeat' first|refine aE ?_|refine xJ c1 ?_|refine xJ c2 ?_|refine aD ?_ ?_<;>intro hw<;>try omega|fail
     all_goals first|exact bN|(refine aU ?_ rfl;rw[<-hE];refine congrArg AV.bool ?_;clear hE;rw[a_];simp_all;done)|skip
   | true =>
     have c3:=c3 rfl;repeat' first|refine aE ?_|refine xJ c1 ?_|refine xJ c2 ?_|refine aD ?_ ?_<;>intro hw<;>try omega|fail
     all_goals first|exact bN|(refine aU ?_ rfl;rw[<-hE];refine congrArg AV.bool ?_;clear hE;rw[a_];simp_all;done)|skip
  ·have hout:(n_ t.aM).map bq=[.agg [.str [111],I 1,.aO false EV []]]:=by unfold n_;rw[if_neg hp];simp[bq,dy]
   simp only[Qe,eB,dV,ia,cJ,eF,hout]at c1 c2 c3;refine aP.Dk (jR.go ?_) IV;unfold eP;intro Q aF aG aH;simp only[yb,cJ,eF];repeat' first|refine aE ?_|refine aD ?_ ?_<;>intro hw<;>try omega|fail
   all_goals first|(exfalso;omega)|skip
   refine Qy (l:=1) (k:=0) (T:=none) (el:=EC) (xs:=[.agg [.str [111],.int .i64 1,.au]]) [.str t.name,.aO false EC (t.ins.map bq),.aO false EC [.agg [.str [111],.int .i64 1,.au]],I t.aM,I t.agg,.aO false ER (t.rules.map cu)] rfl rfl (by simp) rfl (fun i=>by match i with|0=>exact .inl rfl|1=>exact .inl rfl|2=>exact .inr ⟨rfl,rfl⟩|3=>exact .inl rfl|4=>exact .inl rfl|5=>exact .inl rfl|n+6=>exact .inl rfl) ?_;cases b with
   | false =>
     repeat' first|refine aE ?_|refine xJ c1 ?_|refine xJ c2 ?_|refine aD ?_ ?_<;>intro hw<;>try omega|fail
     all_goals first|exact bN|(refine aU ?_ rfl;rw[<-hE];refine congrArg AV.bool ?_;clear hE;rw[a_];simp_all;done)|skip
   | true =>
     have c3:=c3 rfl;repeat' first|refine aE ?_|refine xJ c1 ?_|refine xJ c2 ?_|refine aD ?_ ?_<;>intro hw<;>try omega|fail
     all_goals first|exact bN|(refine aU ?_ rfl;rw[<-hE];refine congrArg AV.bool ?_;clear hE;rw[a_];simp_all;done)|skip
 ·have hf:je t=t:=by unfold je;rw[if_neg hz]
  rw[hf]at c1 c2 c3 hE;obtain⟨C,hC⟩:∃ C,ff t=C:=⟨_,rfl⟩;rw[hC]at c1 c2 c3 hE;obtain⟨C,m1,m2,e⟩:=C;dsimp only at c1 c2 c3 hE;generalize ie C t=b at *;generalize jI C=B at *;obtain⟨bs,be⟩:=B;dsimp only at c3 hE;simp only[Qe,eB,dV,ia,cJ,eF]at c1 c2 c3;refine aP.Dk (jR.go ?_) IV;unfold eP;intro Q aF aG aH;simp only[yb,cJ,eF];cases b with
  | false =>
    repeat' first|refine aE ?_|refine aD ?_ ?_<;>intro hw<;>try omega|fail
    all_goals first|exact bN|(refine aU ?_ rfl;rw[<-hE];refine congrArg AV.bool ?_;clear hE;rw[a_];simp_all;done)|skip
  | true =>
    have c3:=c3 rfl;repeat' first|refine aE ?_|refine aD ?_ ?_<;>intro hw<;>try omega|fail
    all_goals first|exact bN|(refine aU ?_ rfl;rw[<-hE];refine congrArg AV.bool ?_;clear hE;rw[a_];simp_all;done)|skip
def Pf(o:AV)(ho:o.dz=true)(n:Int)(t:Table)(s:aI)(h:Hh t): aP aK 104 [yb o n t,.str s] (.bool (j_ t s)):=by
 have c1:=w_ t h;have e:j5 t=eW t++[qp]:=rfl;have hl:1<=(eW t).length:=by unfold eW;simp
 have MC:(eW t).length<=2 ^ 22:=by have:=h.ins.1;have:=h.outs.1;have:=h.rules.1;unfold eW;simp;omega
 have hg:(j5 t).getD (((j5 t).length:Int)-2).toNat default=(eW t).getD ((eW t).length-1) []:=by
  rw[e];have e2:(((eW t++[qp]).length:Int)-2).toNat=(eW t).length-1:=by rw[aA,List.length_singleton];omega
  rw[e2,Kn (by omega)];rfl
 have uQ:(j5 t).length=(eW t).length+1:=by rw[e];simp
 unfold j_;generalize (eW t).getD ((eW t).length-1) []=w at *;generalize j5 t=L at *;simp only[dV,ia,cJ,eF,bX]at c1;have IV:AV.cA [yb o n t,.str s]=true:=by simp only[AV.cA,Qz ho,AV.dz,fP]
 refine aP.Dk (yL.go ?_) IV;unfold eP;intro Q aF aG aH;simp only[yb,cJ,eF];repeat' first|simp (disch:=omega) only[go_sem,aF,aG,aH,hg]|refine aE ?_|refine aD ?_ ?_<;>intro hw<;>try omega|fail
 all_goals first|exact bN|(refine aU ?_ rfl;refine congrArg AV.bool ?_;rw[a_];simp;done)|skip
end Go.Proofs.YtcjcnfcedihckaaGreatDoor
namespace Go.Proofs.YtcjcnfcedihckaaGreatDoor
open Go.AM
set_option maxRecDepth 4000
def VG(c:Cell): (uq c).1.length<=200:=by
 unfold uq;repeat' split
 all_goals first|(simp;done)|(dsimp only;omega)
def VH(x:Expr): (oT x).1.length<=200:=by
 unfold oT oJ;split
 ·simp
 split
 ·simp
 split
 ·simp
 ·rename_i h;simp only[decide_eq_true_eq]at h;dsimp only;omega
def VI{t:Table}(h:qQ t){r:eE}(hr:r ∈ t.rules): (∀ s ∈ r.cells,s.length<=200)/\ ∀ s ∈ r.outs,s.length<=200:=by
 have hc:=h.clean;have h0:(ff t).2.2.2=0:=by rw[hc]
 obtain⟨c1,c2,c3⟩:=qN h0
 have qb:t.rules=mM t (eG t).1.lines.length:=by
  have:=congrArg (fun q=>q.1.rules) (c3.symm.trans hc);dsimp only at this;exact this.symm
 rw[qb]at hr;obtain⟨j,hj,rfl⟩:=cC.1 hr;unfold l7;rw[GS];refine⟨fun s hs=>?_,fun s hs=>?_⟩
 ·obtain⟨m,hm,rfl⟩:=cC.1 hs;exact VG _
 ·obtain⟨m,hm,rfl⟩:=cC.1 hs;exact VH _
def nh{s:aI}(h:eV s=true): s.length<=16:=by
 simp only[eV,aq,decide_eq_true_eq]at h;exact h.1.2
def NI{t:Table}(h:qQ t){c:cR}(hc:c ∈ t.outs): c.order.length<=8:=by
 obtain⟨_,_,f3,_⟩:=jB h.frame;obtain⟨h1,h2,h3⟩:=gH f3;have ho:=h3 _ hc;unfold iG at ho;split at ho
 ·simp only[aq,decide_eq_true_eq]at ho;exact ho.2.2
 ·simp only[decide_eq_true_eq]at ho;omega
def Fy{t:Table}(h:qQ t): t.ins.length<=6/\t.outs.length<=6/\t.rules.length<=24:=by
 obtain⟨f1,f2,f3,f4,f5⟩:=jB h.frame;exact⟨(mQ (gH f2).1).1,(mQ (gH f3).1).1,f5⟩
def VJ{t:Table}(h:qQ t)(hg:∀ c ∈ t.outs,∀ v ∈ c.order,iE v.n): Hh t:=by
 obtain⟨f1,f2,f3,f4,f5⟩:=jB h.frame;obtain⟨p1,p2,p3,p4,p5⟩:=sZ f4;obtain⟨l1,l2,l3⟩:=Fy h;have hn:=nh f1;refine⟨by omega,⟨by omega,p2⟩,⟨p3,p4⟩,⟨by omega,fun c hc=>?_⟩,⟨by omega,fun c hc=>?_⟩,by omega,fun r hr=>?_⟩
 ·obtain⟨a,b,d,_⟩:=x8 h hc;have:=nh a;exact⟨by omega,by omega,d⟩
 ·obtain⟨a,b,d,e⟩:=s4 h hc;have:=nh a;have:=NI h hc;exact⟨⟨by omega,by omega,d⟩,by omega,fun v hv=>⟨e v hv,hg c hc v hv⟩⟩
 ·obtain⟨a,b,_,_⟩:=Aw h hr;obtain⟨x,y⟩:=VI h hr;exact⟨⟨by omega,fun s hs=>by have:=x s hs;omega⟩,by omega,fun s hs=>by have:=y s hs;omega⟩
def NJ{t:Table}(h:jQ t): ∀ c ∈ t.outs,∀ v ∈ c.order,iE v.n:=fun c hc v hv=>((h.2.2.1.2 c hc).2.2 v hv).1
def SM{t:Table}(hi:t.ins.length≠0)(h:dP t=true): qQ (je t):=by
 unfold dP at h;rw[if_neg hi]at h;simp only[aq,decide_eq_true_eq]at h;rw[sW h.1.2]at h;exact CP h.2
def vW{t:Table}(ok:jQ t)(hi:t.ins.length≠0)(h:dP t=true): Hh t/\t.ins.length<=6/\t.outs.length<=6/\t.rules.length<=24:=by
 have hc:=SM hi h;have hx:=VJ hc (NJ (QA ok));have hl:=Fy hc;unfold je at hx hl;split at hx
 ·rename_i hz;rw[if_pos hz]at hl;refine⟨⟨hx.name,hx.pol,hx.agg,hx.ins,⟨by omega,fun c hc=>?_⟩,hx.rules⟩,hl.1,by omega,hl.2.2⟩;rw[List.length_eq_zero_iff.1 hz]at hc;cases hc
 ·rename_i hz;rw[if_neg hz]at hl;exact⟨hx,hl⟩
structure vX (t:Table):Prop where
 ok:jQ t
 tx:Hh t
 ins:t.ins.length<=6
 outs:t.outs.length<=6
 rules:t.rules.length<=24
structure s6 (r:gu):Prop where
 out:∀ c ∈ r.out,iJ c
 tab:r.now≠0->vX r.t
def VK{s:aI}(hs:s.length<=2 ^ 17): sU (kG s).1:=by
 obtain⟨s1,s2,s3⟩:=lR s 3;have z:=mz s2 1;have v:=Kq (s:=(cn s 3).2.1) (by omega);unfold kG;split
 ·exact⟨by simp,by simp,fun v hv=>by cases hv⟩
 split
 ·refine⟨by dsimp only;omega,by have:=v.1.1;dsimp only;omega,fun w hw=>⟨(v.1.2 w hw).2,by have:=v.2 w hw;omega⟩⟩
 ·exact⟨by dsimp only;omega,by simp,fun v hv=>by cases hv⟩
def aac{s:aI}(hs:s.length<=2 ^ 16): ((kO s).1.cells.length<=2 ^ 17/\ ∀ z ∈ (kO s).1.cells,z.length<=2 ^ 16)/\(kO s).1.outs.length<=2 ^ 17/\ ∀ z ∈ (kO s).1.outs,z.length<=2 ^ 16:=by
 obtain⟨s1,s2,s3⟩:=lR s 1;have p:=rS (cn s 1).2.1 58;have z0:=mz p.2 0;have z1:=mz p.2 1;have q0:=rS ((fG (cn s 1).2.1 58).getD 0 []) 124;have q1:=rS ((fG (cn s 1).2.1 58).getD 1 []) 124;unfold kO;split
 ·exact⟨⟨by simp,fun z hz=>by cases hz⟩,by simp,fun z hz=>by cases hz⟩
 ·dsimp only;exact⟨⟨by omega,fun z hz=>by have:=q0.2 z hz;omega⟩,by omega,fun z hz=>by have:=q1.2 z hz;omega⟩
def NL{r:gu}{s:aI}(h:vX r.t)(hs:s.length<=2 ^ 16): jQ (mP r s).t:=by
 obtain⟨h1,⟨h2,h2'⟩,h3,h4⟩:=h.ok;refine⟨h1,⟨?_,fun c hc=>?_⟩,h3,h4⟩
 ·have:=h.ins;simp[mP];omega
 ·rcases List.mem_append.1 hc with hc|hc
  ·exact h2' c hc
  ·rw[bK.1 hc];exact VK (by omega)
def Ks{r:gu}{s:aI}(h:vX r.t)(hs:s.length<=2 ^ 16): jQ (l9 r s).t:=by
 obtain⟨h1,h2,⟨h3,Qc⟩,h4⟩:=h.ok;refine⟨h1,h2,⟨?_,fun c hc=>?_⟩,h4⟩
 ·have:=h.outs;simp[l9];omega
 ·rcases List.mem_append.1 hc with hc|hc
  ·exact Qc c hc
  ·rw[bK.1 hc];exact VK (by omega)
def Ho{r:gu}{s:aI}(h:vX r.t)(hs:s.length<=2 ^ 16): jQ (kB r s).t:=by
 obtain⟨h1,h2,h3,h4,h5⟩:=h.ok;have hr:=aac hs;refine⟨h1,h2,h3,?_,fun c hc=>?_⟩
 ·have:=h.rules;simp[kB];omega
 ·rcases List.mem_append.1 hc with hc|hc
  ·exact h5 c hc
  ·rw[bK.1 hc];exact⟨⟨by omega,fun z hz=>by have:=hr.1.2 z hz;omega⟩,by omega,fun z hz=>by have:=hr.2.2 z hz;omega⟩
def VL{α : Type}(p : α->Bool)(l:List α): -1<=fy p l/\fy p l<l.length:=by
 unfold fy;split
 ·rename_i i hi;obtain⟨h,_⟩:=List.findIdx?_eq_some_iff_getElem.1 hi;omega
 ·omega
def Hp{r:gu}{s:aI}(hs:s.length<=2 ^ 16)(hb:(gw r s).2=true): (gw r s).1.out=r.out/\(gw r s).1.now=1/\vX (gw r s).1.t:=by
 unfold gw at hb ⊢;split at hb
 ·cases hb
 rename_i h;rw[if_neg h];simp only[aq,decide_eq_true_eq]at hb
 have hn:eV ((cn s 4).1.getD 1 [])=true:=by
  cases hq:eV ((cn s 4).1.getD 1 [])with
  | true=>rfl
  | false=>exact absurd (.inr (.inr hq)) h
 have hl:=nh hn;have i1:=VL (fun x=>x==(cn s 4).1.getD 2 []) rB;have i2:=VL (fun x=>x==(cn s 4).1.getD 3 []) rC;have l1:rB.length=7:=rfl;have l2:rC.length=5:=rfl;refine⟨rfl,rfl,⟨⟨by dsimp only;omega,⟨by simp,fun c hc=>by cases hc⟩,⟨by simp,fun c hc=>by cases hc⟩,by simp,fun c hc=>by cases hc⟩,⟨by dsimp only;omega,⟨by dsimp only;omega,by dsimp only;omega⟩,⟨by dsimp only;omega,by dsimp only;omega⟩,⟨by simp,fun c hc=>by cases hc⟩,⟨by simp,fun c hc=>by cases hc⟩,by simp,fun c hc=>by cases hc⟩,by simp,by simp,by simp⟩⟩
def Hq: y9 []:=⟨by decide,fun c hc=>(by cases hc)⟩
def SN{t:Table}(h:jQ t): iJ { eS with kind:=1,table:=t }:=⟨⟨by simp[eS],by simp[eS]⟩,h,by simp[eS],kx,Hq,kx,kx⟩
def NM{k:Int}{s:aI}(hk:iE k)(hs:s.length<=2 ^ 16): iJ (ko k s).1:=by
 obtain⟨s1,s2,s3⟩:=lR s 3;have z:=mz s2 1;have v:=Kq (s:=(cn s 3).2.1) (by omega);have n:=vV ((cn s 3).1.getD 2 []);unfold ko;split
 ·exact IA
 split
 ·refine⟨hk,rQ,by dsimp only;omega,n,⟨by have:=v.1.1;dsimp only;omega,fun w hw=>⟨(v.1.2 w hw).2,by have:=v.2 w hw;omega⟩⟩,kx,kx⟩
 ·exact⟨hk,rQ,by dsimp only;omega,n,Hq,kx,kx⟩
def Kt{k:Int}{s:aI}(n:Nat)(hk:iE k): iJ (jK k s n).1:=by
 have n1:=vV ((cn s (n+1)).1.getD 1 []);have n2:=vV ((cn s (n+1)).1.getD 2 []);unfold jK;split
 ·exact IA
 split
 ·exact⟨hk,rQ,by simp[eS],kx,Hq,n1,n2⟩
 ·exact⟨hk,rQ,by simp[eS],kx,Hq,n1,kx⟩
def ok_one{s:aI}(hs:s.length<=2 ^ 16): iJ (l8 s).1:=by
 have k:∀ k:Int,0<=k->k<=9->iJ { eS with kind:=k }:=fun k a b=>⟨⟨by dsimp only;omega,by dsimp only;omega⟩,rQ,by simp[eS],kx,Hq,kx,kx⟩;unfold l8;repeat' split
 ·exact NM ⟨by decide,by decide⟩ hs
 ·exact NM ⟨by decide,by decide⟩ hs
 ·exact Kt 2 ⟨by decide,by decide⟩
 ·exact Kt 1 ⟨by decide,by decide⟩
 ·exact k 4 (by decide) (by decide)
 ·exact k 7 (by decide) (by decide)
 ·exact k 8 (by decide) (by decide)
 ·exact k 9 (by decide) (by decide)
 ·exact IA
def Pg{r:gu}{s:aI}(h:s6 r)(hn:r.now≠0)(hs:s.length<=2 ^ 16)(hb:(jL r s).2=true)(hp:3<=r.now->r.t.ins≠[])(hq:r.now=2->r.t.ins≠[]): s6 (jL r s).1:=by
 have hg:=h.tab hn
 have key:∀ t:Table,jQ t->t.ins.length≠0->dP t=true->vX t:=fun t ok hi hst=>by
  obtain⟨a,b,c,d⟩:=vW ok hi hst;exact⟨ok,a,b,c,d⟩
 unfold jL at hb ⊢;split at hb
 ·rename_i c;rw[if_pos c];simp only[aq]at hb;exact⟨h.out,fun _=>key _ (NL hg hs) (by simp[mP]) hb.1.2⟩
 split at hb
 ·rename_i c0 c;rw[if_neg c0,if_pos c];simp only[aq]at hb
  have hi:r.t.ins≠[]:=by
   rcases c.2 with e|e
   ·exact hq e
   ·exact hp (by omega)
  exact⟨h.out,fun _=>key _ (Ks hg hs) (fun e=>hi (List.length_eq_zero_iff.1 e)) hb.1.2⟩
 split at hb
 ·rename_i c0 c1 c;rw[if_neg c0,if_neg c1,if_pos c];simp only[aq]at hb;exact⟨h.out,fun _=>key _ (Ho hg hs) (fun e=>hp c.2 (List.length_eq_zero_iff.1 e)) hb.1.2⟩
 split at hb
 ·rename_i c0 c1 c2 c;rw[if_neg c0,if_neg c1,if_neg c2,if_pos c];refine⟨fun x hx=>?_,fun h=>absurd rfl h⟩;rcases List.mem_append.1 hx with hx|hx
  ·exact h.out x hx
  ·rw[bK.1 hx];exact SN hg.ok
 ·cases hb
def Ku{r:gu}{u s:aI}(hi:Inv r u)(h:s6 r)(hs:s.length<=2 ^ 16)(hb:(eU r s).2=true): s6 (eU r s).1:=by
 unfold eU at hb ⊢;split at hb
 ·rename_i hn;rw[if_pos hn];exact Pg h hn hs hb (fun h=>hi.p1 (by omega)) (fun h=>hi.p1 (by omega))
 rename_i hn;rw[if_neg hn];split at hb
 ·cases hb
 rename_i h64;rw[if_neg h64];split at hb
 ·rename_i c;rw[if_pos c];simp only[aq]at hb;obtain⟨a,b,d⟩:=Hp hs hb.1.1;exact⟨fun x hx=>h.out x (by rw[a]at hx;exact hx),fun _=>d⟩
 ·rename_i c;rw[if_neg c];split at hb
  ·cases hb
  rename_i c2;rw[if_neg c2];refine⟨fun x hx=>?_,fun h'=>absurd (Classical.not_not.1 hn) h'⟩;rcases List.mem_append.1 hx with hx|hx
  ·exact h.out x hx
  ·rw[bK.1 hx];exact ok_one hs
def YU: s6 wZ:=⟨fun c hc=>(by cases hc),fun h=>absurd rfl h⟩
end Go.Proofs.YtcjcnfcedihckaaGreatDoor
namespace Go.AM
def cN.afo {P : Program} {f : FuncId} {args : List AV} {σ : ae} {R : Out -> ae -> Prop} {l k : Nat} {T : Option TypeId} {el : El} {xs cs : List AV} (cs' : List AV) (hl : σ[l]? = some (.cy T el xs)) (hk : σ[k]? = some (.cells cs)) (hx : xs ≠ [])
    (hc:cs.length=cs'.length) (hf:∀ i,XX el l xs (cs.getD i .undef) (cs'.getD i .undef)) (h:cN P f args ((σ.set l .dead).set k (.cells cs')) R):cN P f args σ R:=by
 refine⟨h.1,fun g w vs hR hlen hvs=>?_⟩;have s8:k≠l:=fun e=>by subst e;rw[hl]at hk;cases hk
 obtain⟨lK,oQ,hrow⟩:=hR.ok l _ hl;rcases hrow with⟨hx',_,_⟩|⟨b,bs,hb,hrow,hsz,hle,kj,_⟩
 ·exact absurd hx' hx
 obtain⟨r1,r2⟩:=hR.freeze hl rfl hb
 have key:∀ v,VR g w (.own el l xs.length 0 xs.length) v->VR (g.hY b) w (.aO false el xs) v:=fun v hv=>by
  cases hv with
  | own _ _ _ _ _ _ hO =>
  obtain⟨_,_,A,cap,rfl,h4⟩:=hO;obtain⟨_,h6,h7⟩:=h4 lK.symm;have hxl:0<xs.length:=List.length_pos_iff.2 hx;have hlt:0<g.cap l:=by omega
  have hA:=h7 hlt;rw[hb]at hA;simp only[aS]at hA;subst hA
  have hidx:∀ i c,i<xs.length->c<el.sz->g.off l+i*el.sz+c<bs.size:=fun i c h1 h2=>by
   rw[hsz];have:i*el.sz+el.sz<=g.cap l*el.sz:=by rw[<-cL];exact aX _ (by omega)
   omega
  have hoff:∀ i c,g.off l+0*el.sz+(i*el.sz+c)=g.off l+i*el.sz+c:=fun i c=>by omega
  refine VR.aO (g:=g.hY b) (w:=w) false el xs b (g.off l+0*el.sz) cap (.inr rfl) (fun h=>by cases h) (by omega) (fun i h1=>oQ i h1) (fun i c h1 h2=>?_) (fun i c h1 h2=>?_)
  ·rw[hoff,hrow.cell (hidx i c h1 h2)];rfl
  ·have e1 : dw w ⟨b, g.off l + i * el.sz + c, none⟩ = bs.getD (g.off l + i * el.sz + c) Go.undef := by
    simp only[dw,hrow.cell (hidx i c h1 h2),bu]
   rw[hoff,e1];exact(kj i c h1 h2).mono r2.mono
 have oX:∀ v,VR (g.hY b) w (.own el l xs.length 0 xs.length) v->VR (g.hY b) w (.aO false el xs) v:=fun v hv=>by
  cases hv with
  | own _ _ _ _ _ _ hO=>exact key v (.own _ _ _ _ _ _ hO)
 have seen:∀ i v,VR (g.hY b) w (cs.getD i .undef) v->VR (g.hY b) w (cs'.getD i .undef) v:=fun i v hv=>by
  rcases hf i with e|⟨e1,e2⟩
  ·rw[<-e];exact hv
  ·rw[e2];rw[e1]at hv;exact oX v hv
 obtain⟨_,o2,_⟩:=hR.ok k _ hk
 have hsc:cs'.all AV.scalar=true:=by
  rw[aW];intro a ha;obtain⟨i,hi,rfl⟩:=bC ha;have e0:cs'.getD i .undef=cs'[i]:=by simp[aj,hi]
  rw[<-e0];rcases hf i with e|⟨_,e2⟩
  ·rw[<-e];have hi':i<cs.length:=by omega
   have e1:cs.getD i .undef=cs[i]:=by simp[aj,hi']
   rw[e1];exact aW.1 o2 _ (cQ hi')
  ·rw[e2];rfl
 obtain⟨q1,q2⟩:=r1.YT (k:=k) (cs:=cs) (cs':=cs') (by rw[List.getElem?_set_ne s8.symm];exact hk) hc hsc seen;refine(h.2 (g.hY b) w vs q1 hlen (fun i hi=>(hvs i hi).mono r2.mono)).mono ?_;rintro e w' ⟨out,g',σ',a1,a2,a3,a4⟩;exact⟨out,g',σ',a1,(r2.trans q2).trans a2,a3,a4⟩
end Go.AM
namespace Go.Proofs.YtcjcnfcedihckaaGreatDoor
open Go.AM
set_option maxRecDepth 4000
abbrev EK: El:=⟨true,12⟩
def Lv(S:ae)(el:El)(q:Nat)(v:AV)(ys:List AV): Prop:=(ys=[]/\v = .au)\/(ys≠[]/\v = .own el q ys.length 0 ys.length/\S[q]? = some (.vec el ys))
def Lv.scalar{S:ae}{el:El}{q:Nat}{v:AV}{ys:List AV}(h:Lv S el q v ys): v.scalar=true:=by
 rcases h with⟨_,rfl⟩|⟨_,rfl,_⟩<;>rfl
def Lv.view{S:ae}{el:El}{q:Nat}{v:AV}{ys zs:List AV}(h:Lv S el q v ys)(hz:bL [] ys zs): View S v (.aO false el zs):=by
 rcases h with⟨rfl,rfl⟩|⟨_,rfl,hq⟩
 ·obtain rfl:zs=[]:=List.length_eq_zero_iff.1 hz.1.symm;exact .au _
 ·exact .aa5 hq rfl rfl ⟨hz.1,fun i hi=>(hz.2 i hi).mono (fun l o hl=>by simp at hl)⟩
def Lv.SO{S:ae}{el:El}{q:Nat}{v:AV}{ys:List AV}(h:Lv S el q v ys)(hp:AV.cA ys=true): View S v (.aO false el ys):=h.view (.refl hp)
def Lv.keep{S S':ae}{el:El}{q:Nat}{v:AV}{ys:List AV}(h:Lv S el q v ys)(hk:∀ o,S[q]? = some o->S'[q]? = some o): Lv S' el q v ys:=by
 rcases h with h|⟨h1,h2,h3⟩
 ·exact .inl h
 ·exact .inr ⟨h1,h2,hk _ h3⟩
structure jC (S:ae) (k:Nat) (l:List dX) (o:AV) (q0:Nat) (ys:List AV):Prop where
 vw:bL [] ys (l.map ey)
 o:Lv S EK q0 o ys
structure nj (S:ae) (k:Nat) (t:Table) (i u p:AV) (q1 q2 q3:Nat):Prop where
 i:Lv S EC q1 i (t.ins.map bq)
 u:Lv S EC q2 u (t.outs.map bq)
 p:Lv S ER q3 p (t.rules.map cu)
 d:t.ins≠[]->t.outs≠[]->q1≠q2
def Lv.ux{S S':ae}{k:Nat}{cs:List AV}(hk:S[k]? = some (.cells cs)){el:El}{q:Nat}{v:AV}{ys:List AV}(h:Lv S el q v ys)(keep:∀ j o',S[j]? = some o'->j≠k->S'[j]? = some o'): Lv S' el q v ys:=by
 rcases h with h|⟨h1,h2,h3⟩
 ·exact .inl h
 ·exact .inr ⟨h1,h2,keep _ _ h3 (fun e=>by subst e;rw[hk]at h3;cases h3)⟩
def Lv.vY{S S':ae}{k q1:Nat}{cs:List AV}(hk:S[k]? = some (.cells cs)){el:El}{q:Nat}{v:AV}{ys:List AV}(h:Lv S el q v ys)(hne:S[q]? = some (.vec el ys)->ys≠[]->q≠q1)(keep:∀ j o',S[j]? = some o'->j≠k->j≠q1->S'[j]? = some o'): Lv S' el q v ys:=by
 rcases h with h|⟨h1,h2,h3⟩
 ·exact .inl h
 ·exact .inr ⟨h1,h2,keep _ _ h3 (fun e=>by subst e;rw[hk]at h3;cases h3) (hne h3 h1)⟩
def yc{S:ae}{q q':Nat}{el bj:El}{xs ys:List AV}(h:S[q]? = some (.vec el ys))(h':S[q']? = some (.vec bj xs))(he:el≠bj): q≠q':=fun e=>by
 subst e;rw[h]at h';injection h' with h';injection h' with _ h';exact he h'
section
variable {S S':ae} {k q q0 q1 q2 q3:Nat} {cs ys:List AV} {l:List dX} {t:Table} {o i u p:AV}
def ab6 (hk : S[k]? = some (.cells cs)) (h0 : jC S k l o q0 ys) (ht : nj S k t .au u p q1 q2 q3) (he : t.ins.map bq = []) (C : cR) (hq : S.length <= q) (h1 : S'[q]? = some (.vec EC [bq C])) (keep : ∀ j o', S[j]? = some o' -> j ≠ k -> S'[j]? = some o') :
    jC S' k l o q0 ys/\nj S' k { t with ins:=t.ins++[C] } (.own EC q 1 0 1) u p q q2 q3:=by
 obtain⟨ti,tu,tp,td⟩:=ht;refine⟨⟨h0.vw,h0.o.ux hk keep⟩,.inr ⟨by simp,by simp[he],by simp[he,h1]⟩,tu.ux hk keep,tp.ux hk keep,fun _ ho=>?_⟩;rcases tu with⟨e,_⟩|⟨_,_,h⟩
 ·exact absurd (List.map_eq_nil_iff.1 e) ho
 ·have:=ef h;omega
def ab7 (hk : S[k]? = some (.cells cs)) (h0 : jC S k l o q0 ys) (ht : nj S k t i u p q1 q2 q3) (he : t.ins.map bq ≠ []) (hq : S[q1]? = some (.vec EC (t.ins.map bq))) (C : cR) (h1 : S'[q1]? = some (.vec EC (t.ins.map bq ++ [bq C]))) (keep : ∀ j o', S[j]? = some o' -> j ≠ k -> j ≠ q1 -> S'[j]? = some o') :
    jC S' k l o q0 ys/\nj S' k { t with ins:=t.ins++[C] } (.own EC q1 ((t.ins.map bq).length+1) 0 ((t.ins.map bq).length+1)) u p q1 q2 q3:=by
 obtain⟨ti,tu,tp,td⟩:=ht;have hi:t.ins≠[]:=fun e=>he (by rw[e];rfl);refine⟨⟨h0.vw,h0.o.vY hk (fun h _=>yc h hq (by decide)) keep⟩,.inr ⟨by simp,by simp,by simp[h1]⟩,tu.vY hk (fun _ h=>(td hi (fun e=>h (by rw[e];rfl))).symm) keep,tp.vY hk (fun h _=>yc h hq (by decide)) keep,fun _ ho=>td hi ho⟩
def aad (hk : S[k]? = some (.cells cs)) (h0 : jC S k l o q0 ys) (ht : nj S k t i .au p q1 q2 q3) (he : t.outs.map bq = []) (C : cR) (hq : S.length <= q) (h1 : S'[q]? = some (.vec EC [bq C])) (keep : ∀ j o', S[j]? = some o' -> j ≠ k -> S'[j]? = some o') :
    jC S' k l o q0 ys/\nj S' k { t with outs:=t.outs++[C] } i (.own EC q 1 0 1) p q1 q q3:=by
 obtain⟨ti,tu,tp,td⟩:=ht;refine⟨⟨h0.vw,h0.o.ux hk keep⟩,ti.ux hk keep,.inr ⟨by simp,by simp[he],by simp[he,h1]⟩,tp.ux hk keep,fun hi _=>?_⟩;rcases ti with⟨e,_⟩|⟨_,_,h⟩
 ·exact absurd (List.map_eq_nil_iff.1 e) hi
 ·have:=ef h;omega
def aae (hk : S[k]? = some (.cells cs)) (h0 : jC S k l o q0 ys) (ht : nj S k t i u p q1 q2 q3) (he : t.outs.map bq ≠ []) (hq : S[q2]? = some (.vec EC (t.outs.map bq))) (C : cR) (h1 : S'[q2]? = some (.vec EC (t.outs.map bq ++ [bq C]))) (keep : ∀ j o', S[j]? = some o' -> j ≠ k -> j ≠ q2 -> S'[j]? = some o') :
    jC S' k l o q0 ys/\nj S' k { t with outs:=t.outs++[C] } i (.own EC q2 ((t.outs.map bq).length+1) 0 ((t.outs.map bq).length+1)) p q1 q2 q3:=by
 obtain⟨ti,tu,tp,td⟩:=ht;have hu:t.outs≠[]:=fun e=>he (by rw[e];rfl);refine⟨⟨h0.vw,h0.o.vY hk (fun h _=>yc h hq (by decide)) keep⟩,ti.vY hk (fun _ h=>td (fun e=>h (by rw[e];rfl)) hu) keep,.inr ⟨by simp,by simp,by simp[h1]⟩,tp.vY hk (fun h _=>yc h hq (by decide)) keep,fun hi _=>td hi hu⟩
def XY (hk : S[k]? = some (.cells cs)) (h0 : jC S k l o q0 ys) (ht : nj S k t i u .au q1 q2 q3) (he : t.rules.map cu = []) (C : eE) (hq : S.length <= q) (h1 : S'[q]? = some (.vec ER [cu C])) (keep : ∀ j o', S[j]? = some o' -> j ≠ k -> S'[j]? = some o') :
    jC S' k l o q0 ys/\nj S' k { t with rules:=t.rules++[C] } i u (.own ER q 1 0 1) q1 q2 q:=by
 obtain⟨ti,tu,tp,td⟩:=ht;exact⟨⟨h0.vw,h0.o.ux hk keep⟩,ti.ux hk keep,tu.ux hk keep,.inr ⟨by simp,by simp[he],by simp[he,h1]⟩,td⟩
def XZ (hk : S[k]? = some (.cells cs)) (h0 : jC S k l o q0 ys) (ht : nj S k t i u p q1 q2 q3) (he : t.rules.map cu ≠ []) (hq : S[q3]? = some (.vec ER (t.rules.map cu))) (C : eE) (h1 : S'[q3]? = some (.vec ER (t.rules.map cu ++ [cu C]))) (keep : ∀ j o', S[j]? = some o' -> j ≠ k -> j ≠ q3 -> S'[j]? = some o') :
    jC S' k l o q0 ys/\nj S' k { t with rules:=t.rules++[C] } i u (.own ER q3 ((t.rules.map cu).length+1) 0 ((t.rules.map cu).length+1)) q1 q2 q3:=by
 obtain⟨ti,tu,tp,td⟩:=ht;exact⟨⟨h0.vw,h0.o.vY hk (fun h _=>yc h hq (by decide)) keep⟩,ti.vY hk (fun h _=>yc h hq (by decide)) keep,tu.vY hk (fun h _=>yc h hq (by decide)) keep,.inr ⟨by simp,by simp,by simp[h1]⟩,td⟩
def NN{d e c:aY}(j:Nat)(o':aY)(hj:S[j]? = some o')(hne:j≠k): ((S++[d]++[e]).set k c)[j]? = some o':=by
 rw[List.getElem?_set_ne (Ne.symm hne),aC (by have:=ef hj;simp;omega),aC (ef hj)];exact hj
def NO{d e c:aY}(j:Nat)(o':aY)(hj:S[j]? = some o')(hne:j≠k)(hq:j≠q): (((S++[d]).set q e).set k c)[j]? = some o':=by
 rw[List.getElem?_set_ne (Ne.symm hne),List.getElem?_set_ne (Ne.symm hq),aC (ef hj)];exact hj
end
def rT {S : ae} {k : Nat} {l : List dX} {n : Int} {t : Table} {o i u p : AV} {q0 q1 q2 q3 : Nat} {ys : List AV} (hk : S[k]? = some (.cells [o, I n, .str t.name, i, u, I t.aM, I t.agg, p])) (h0 : jC S k l o q0 ys) (h : nj S k t i u p q1 q2 q3) :
    View S (.ref k 0) (yb (.aO false EK (l.map ey)) n t):=by
 have hv:bL S [o,I n,.str t.name,i,u,I t.aM,I t.agg,p] [.aO false EK (l.map ey),I n,.str t.name,cJ t.ins,cJ t.outs,I t.aM,I t.agg,eF t.rules] :=
  .cons (h0.o.view h0.vw) (.cons (.refl _ rfl) (.cons (.refl _ rfl) (.cons (h.i.SO (wN _)) (.cons (h.u.SO (wN _)) (.cons (.refl _ rfl) (.cons (.refl _ rfl) (.cons (h.p.SO (B7 _)) (.nil _))))))))
 exact .yK _ _ _ _ hk rfl rfl hv.2
def NP(l:List dX): (AV.aO false EK (l.map ey)).dz=true:=by
 have:AV.cA (l.map ey)=true:=by
  induction l with
  | nil=>rfl
  | cons a l ih=>simp[AV.cA,ey,AV.dz,Kr,ih]
 simpa[AV.dz]using this
section
variable {S:ae} {k:Nat} {l:List dX} {n:Int} {t:Table} {K Kp:AV->ae->Prop}
def lS(hv:View S (.ref k 0) (yb (.aO false EK (l.map ey)) n t))(ok:jQ t)(hk:kD (.bool (dP t)) (.mk:Tg fun r=>K r S)): pP Tryz.prog 63 [.ref k 0] S (.mk:Tg (K,Kp)) :=
 pQ (Li _ (NP l) n t ok) (.cons hv (.nil _)) rfl hk
def rU{s:aI}(hv:View S (.ref k 0) (yb (.aO false EK (l.map ey)) n t))(tx:Hh t)(hk:kD (.bool (j_ t s)) (.mk:Tg fun r=>K r S)): pP Tryz.prog 104 [.ref k 0,.str s] S (.mk:Tg (K,Kp)) :=
 pQ (Pf _ (NP l) n t s tx) (.cons hv (.cons (.refl _ rfl) (.nil _))) rfl hk
end
