/- Part. -/
import Derived.Test.YthakfmmgnjpmdaaGreatW35
set_option linter.all false
set_option maxHeartbeats 4000000
namespace Go.Proofs.YthakfmmgnjpmdaaGreat
open Go.AM
set_option maxRecDepth 4000
def mV(agg:Int): List aH->aH->g_
 | [],b=> .ok b
 | v :: r, b => if v = v0 then mV agg r b else if b = v0 then mV agg r v
   else if agg=1 then(match ew (b.n+v.n)with
    | .err e=> .err e
    | .ok w=>mV agg r w)
   else if(agg=2/\e7 v b<0)\/(agg=3/\0<e7 v b)then mV agg r v else mV agg r b
def tR (agg : Int) (v : aH) (r : List aH) (b : aH) : mV agg (v :: r) b = if v = v0 then mV agg r b else if b = v0 then mV agg r v
    else if agg=1 then(match ew (b.n+v.n)with
     | .err e=> .err e
     | .ok w=>mV agg r w)
    else if(agg=2/\e7 v b<0)\/(agg=3/\0<e7 v b)then mV agg r v else mV agg r b:=rfl
def oO(a:List aH): aH:=a.getD 0 default
def AL(agg:Int)(v:aH): Prop:=bp v=true/\dJ v.n/\(agg=1->v.kind=0\/v.kind=1)
def XV{v:aH}(h:bp v=true)(hk:v.kind=1): v=⟨1,v.n,[]⟩:=by
 obtain⟨k,n,s⟩:=v;dsimp only at hk;subst hk;rw[xI]at h;have:s=[]:=by simpa using h
 rw[this]
def wI{v:aH}(h:v.kind≠0): v≠v0:=fun e=>h (by rw[e];rfl)
def EJ: ∀(l:List aH) (b:aH),(∀ v ∈ l,AL 1 v)->b.kind≠0->b=⟨1,b.n,[]⟩->mV 1 l b=vR (l.filter fun v=> !(bU v)) b.n
 | [], b, _, _, e => by
   show g_.ok b=g_.ok ⟨1,b.n,[]⟩;rw[<-e]
 | v :: r, b, h, hb, e => by
   have hv:=h v (by simp);have hr:∀ v ∈ r,AL 1 v:=fun w hw=>h w (by simp[hw]);rw[tR];rcases hv.2.2 rfl with hk|hk
   ·have:v=v0:=Ax hv.1 hk;rw[if_pos this,EJ r b hr hb e,ia];simp[bU,hk]
   ·rw[if_neg (wI (by omega)),if_neg (wI hb),if_pos rfl,ia];simp only[bU,hk];have:(!decide ((1:Int)=0))=true:=by decide
    rw[if_pos this,vD];rcases tQ (b.n+v.n)with ⟨e2,_⟩|e2
    ·rw[e2];dsimp only;exact EJ r _ hr (by simp) rfl
    ·rw[e2]
def uY: ∀(l:List aH) (b:aH),(∀ v ∈ l,bp v=true)->b≠v0->mV 2 l b = .ok (nL (l.filter fun v=> !(bU v)) b)
 | [],b,_,_=>rfl
 | v :: r, b, h, hb => by
   have hv:=h v (by simp);have hr:∀ v ∈ r,bp v=true:=fun w hw=>h w (by simp[hw]);rw[tR];by_cases hk:v.kind=0
   ·rw[if_pos (Ax hv hk),uY r b hr hb,ia];simp[bU,hk]
   ·rw[if_neg (wI hk),if_neg hb,if_neg (by decide),ia];have:(!bU v)=true:=by simp[bU,hk]
    rw[if_pos this,zB];by_cases hc:e7 v b<0
    ·rw[if_pos (.inl ⟨rfl,hc⟩),if_pos hc];exact uY r v hr (wI hk)
    ·rw[if_neg (by rintro(h|h);exact hc h.2;exact absurd h.1 (by decide)),if_neg hc];exact uY r b hr hb
def wJ: ∀(l:List aH) (b:aH),(∀ v ∈ l,bp v=true)->b≠v0->mV 3 l b = .ok (qU (l.filter fun v=> !(bU v)) b)
 | [],b,_,_=>rfl
 | v :: r, b, h, hb => by
   have hv:=h v (by simp);have hr:∀ v ∈ r,bp v=true:=fun w hw=>h w (by simp[hw]);rw[tR];by_cases hk:v.kind=0
   ·rw[if_pos (Ax hv hk),wJ r b hr hb,ia];simp[bU,hk]
   ·rw[if_neg (wI hk),if_neg hb,if_neg (by decide),ia];have:(!bU v)=true:=by simp[bU,hk]
    rw[if_pos this,B6];by_cases hc:0<e7 v b
    ·rw[if_pos (.inr ⟨rfl,hc⟩),if_pos hc];exact wJ r v hr (wI hk)
    ·rw[if_neg (by rintro(h|h);exact absurd h.1 (by decide);exact hc h.2),if_neg hc];exact wJ r b hr hb
def Vs{agg:Int}(ha:1<=agg/\agg<=3)(rows:List (List aH))(h:∀ a ∈ rows,AL agg (oO a)): mV agg (rows.map oO) v0=kK agg rows:=by
 have key:∀ l:List aH,(∀ v ∈ l,AL agg v)->mV agg l v0=match l.filter fun v=> !(bU v)with
  | []=> .ok v0
  | m::r=>if agg=1 then vR (m::r) 0 else if agg=2 then .ok (nL r m)else .ok (qU r m):=by
  intro l
  induction l with
  | nil=>intro _;rfl
  | cons v r ih =>
    intro h;have hv:=h v (by simp);have hr:∀ v ∈ r,AL agg v:=fun w hw=>h w (by simp[hw]);rw[tR,ia];by_cases hk:v.kind=0
    ·rw[if_pos (Ax hv.1 hk),ih hr,if_neg (by simp[bU,hk])]
    ·rw[if_neg (wI hk),if_pos rfl,if_pos (by simp[bU,hk])];dsimp only;by_cases h1:agg=1
     ·subst h1;have h1:v.kind=1:=by rcases hv.2.2 rfl with h|h;exact absurd h hk;exact h
      have e:=XV hv.1 h1;rw[if_pos rfl,EJ r v hr hk e,vD]
      have:ew (0+v.n) = .ok ⟨1,v.n,[]⟩:=by
       rw[Int.zero_add];unfold ew;exact if_pos hv.2.1
      rw[this]
     rw[if_neg h1];by_cases h2:agg=2
     ·subst h2;rw[if_pos rfl];exact uY r v (fun w hw=>(hr w hw).1) (wI hk)
     ·obtain rfl:agg=3:=by omega
      rw[if_neg h2];exact wJ r v (fun w hw=>(hr w hw).1) (wI hk)
 rw[key _ (fun v hv=>by obtain⟨a,ha,rfl⟩:=eZ.1 hv;exact h a ha)];unfold kK;rw[if_neg (by omega)];rfl
def jR(o:qx): AV:= .agg [I o.err,cJ o.rules,cu o.rows]
def XW(o:qx): (jR o).cQ=true:=by simp[jR,AV.cQ,AV.bG]
attribute [simp] XW
def Z1(rules:List Int): g_->qx
 | .err e=>⟨e,rules,[]⟩
 | .ok v=>⟨0,rules,[[v]]⟩
def wK(agg:Int)(rules:List Int)(rows:List (List aH)): qx:=Z1 rules (kK agg rows)
end Go.Proofs.YthakfmmgnjpmdaaGreat
namespace Go.Proofs.YthakfmmgnjpmdaaGreat
open Go.AM
set_option maxRecDepth 4000
def QC{σ : ae}{rules:List Int}{v:aH}{o:qx}{f f' f'':Bool}(h:o=⟨0,rules,[[v]]⟩): ∃ r0,Out.ret (oneOf [.agg [I 0,.aG f E1 (rules.map lG),.aG f' E1 [.aG f'' EV [.agg [I v.kind,I v.n,.str v.s]]]]])=Out.ret r0∧View σ r0 (jR o):=by
 subst h;exact uS (View.n9 (.cons (.refl _ rfl) (.cons jg (.cons (View.Ky (.cons (View.weak _ _ _ rfl) (.nil _))) (.nil _)))))
def TX{σ : ae}{rules:List Int}{e:Int}{o:qx}{f:Bool}(h:o=⟨e,rules,[]⟩): ∃ r0,Out.ret (oneOf [.agg [I e,.aG f E1 (rules.map lG),.ai]])=Out.ret r0/\View σ r0 (jR o):=by
 subst h;exact uS (View.n9 (.cons (.refl _ rfl) (.cons jg (.cons (.ai _) (.nil _)))))
def XX(v:aH): decide (v=v0)=(v.kind==0 && v.n==0 && v.s==[]):=nw v v0
def Vt(agg:Int)(ha:1<=agg/\agg<=4)(rules:List Int)(rows:List (List aH))(hr:rows.length<=2 ^ 30)(hw:∀ a ∈ rows,0<a.length/\AL agg (oO a)): aF aD 48 [I agg,cJ rules,cu rows] (jR (wK agg rules rows)):=by
 have hpos:=fun i (hi:i<rows.length)=>hw _ (aO hi);unfold wK;by_cases h4:agg=4
 ·subst h4;rw[LC];clear hpos hw ha;simp only[cJ,cu];refine aK Cq ?_;intro Q aq au aA;repeat' first|refine ak ?_|refine aj ?_ ?_<;>intro hw<;>try omega|fail
  with_reducible refine aX [8,9,10,11,12,19,20,21,22,23,24,25,26,27,28,29,30,31,32,33,34,35,36,37,38,39,40,41,42,43,44,45,46,47,48,49,50,51,52,53,54,55,56,57,58,59,60,61,62,63,64,65,66,67,68,69,70,71,72,73,74,75,76,77,78,79,80] (fun q:Nat=>[(8,I 0)]) (fun q=>[.cells [I 0,.ai,.ai],.cells [I 1,I rows.length,.str []]]) (fun q=>True) (fun q=>q) 0 ?_ ?_ ?_ ?_
  ·trivial
  ·rfl
  ·exact at_
  rintro i u -;repeat' first|refine ak ?_|refine aj ?_ ?_<;>intro hw<;>try omega|fail
  all_goals first|exact QC (v:=⟨1,rows.length,[]⟩) rfl|exact aP|skip
 rw[<-Vs (by omega) rows (fun a h=>(hw a h).2)];obtain⟨R,hR⟩:∃ R,mV agg (rows.map oO) v0=R:=⟨_,rfl⟩;rw[hR];have hAdd:=vA;have Z2:=o8;obtain⟨O,hO⟩:∃ O:qx,Z1 rules R=O:=⟨_,rfl⟩;rw[hO];clear hw;simp only[cJ,cu];refine aK Cq ?_;intro Q aq au aA;repeat' first|refine ak ?_|refine aj ?_ ?_<;>intro hw<;>try omega|fail
 with_reducible refine aX [8,9,10,11,12,19,20,21,22,23,24,25,26,27,28,29,30,31,32,33,34,35,36,37,38,39,40,41,42,43,44,45,46,47,48,49,50,51,52,53,54,55,56,57,58,59,60,61,62,63,64,65,66,67,68,69,70,71,72,73,74,75,76,77,78,79,80] (fun q:(Nat × aH) × List bE=>[(8,I q.1.1)]) (fun q=> .cells [I 0,.ai,.ai]:: .cells [I q.1.2.kind,I q.1.2.n,.str q.1.2.s]::q.2) (fun q=>q.1.1<=rows.length/\dJ q.1.2.n/\mV agg ((rows.map oO).drop q.1.1) q.1.2=R) (fun q=>rows.length-q.1.1) ((0,v0),[]) ?_ ?_ ?_ ?_
 ·exact⟨by simp,by dsimp only[v0];unfold dJ;omega,hR⟩
 ·rfl
 ·exact at_
 rintro⟨⟨i,b⟩,τ⟩ u ⟨g1,g2,g3⟩;dsimp only at g1 g2 g3;clear hR;by_cases hi:i<rows.length
 ·have hp:=hpos i hi;rw[fZ (by simpa using hi),tR]at g3;have hge:(rows.map oO).getD i default=oO (rows.getD i default):=by simp[aB,hi]
  rw[hge]at g3;obtain⟨a,gZ⟩:∃ a,rows.getD i default=a:=⟨_,rfl⟩;rw[gZ]at hp g3;have hv:a.getD 0 default=oO a:=rfl;generalize oO a=v at *;have cC:=Z2 v b;have cA:=hAdd b.n v.n g2 hp.2.2.1;have s8:=hp.1;have hpn:=hp.2.2.1;have d1:=XX v;have d2:=XX b;have z0:(0:Int).toNat=0:=rfl;generalize e7 v b=m at *;clear hpos hAdd Z2 hp hge;simp only[c9]at cC;by_cases kp:v=v0
  ·rw[if_pos kp]at g3;rw[decide_eq_true kp]at d1;clear cA d2;repeat' first|simp (disch:=omega) only[go_sem,aq,au,aA,gZ,hv,aL,z0,<-d1]|refine ak ?_|refine cW cC ?_|refine aj ?_ ?_<;>intro hw<;>try omega|fail
   all_goals first
    | exact aP
    |(refine⟨((i+1,b),τ++[.cells [I v.kind,I v.n,.str v.s]]),⟨by dsimp only;omega,g2,g3⟩,by dsimp only;omega,by first|rfl|(simp[go_sem];done),bK,at_⟩)
    | skip
  rw[if_neg kp]at g3;rw[decide_eq_false kp]at d1;by_cases hb0:b=v0
  ·rw[if_pos hb0]at g3;rw[decide_eq_true hb0]at d2;clear cA;repeat' first|simp (disch:=omega) only[go_sem,aq,au,aA,gZ,hv,aL,z0,<-d1,<-d2]|refine ak ?_|refine cW cC ?_|refine aj ?_ ?_<;>intro hw<;>try omega|fail
   all_goals first
    | exact aP
    |(refine⟨((i+1,v),τ++[.cells [I v.kind,I v.n,.str v.s]]),⟨by dsimp only;omega,hpn,g3⟩,by dsimp only;omega,by first|rfl|(simp[go_sem];done),bK,at_⟩)
    | skip
  rw[if_neg hb0]at g3;rw[decide_eq_false hb0]at d2;by_cases e1:agg=1
  ·rw[if_pos e1]at g3;subst e1;rcases tQ (b.n+v.n)with ⟨e,hrg⟩|e
   ·rw[e]at g3 cA;dsimp only at g3;have e1:numOf (.ok ⟨1,b.n+v.n,[]⟩)=b.n+v.n:=rfl;have e2:fH (.ok ⟨1,b.n+v.n,[]⟩)=0:=rfl;rw[e1,e2]at cA;repeat' first|simp (disch:=omega) only[go_sem,aq,au,aA,gZ,hv,aL,z0,<-d1,<-d2]|refine ak ?_|refine cW cC ?_|refine cW cA ?_|refine aj ?_ ?_<;>intro hw<;>try omega|fail
    all_goals first
     | exact aP
     |(refine⟨((i+1,⟨1,b.n+v.n,[]⟩),τ++[.cells [I v.kind,I v.n,.str v.s]]),⟨by dsimp only;omega,hrg,g3⟩,by dsimp only;omega,by first|rfl|(simp[go_sem];done),bK,at_⟩)
     | skip
   ·rw[e]at g3 cA;dsimp only at g3;subst g3;have e1:numOf (.err 15)=0:=rfl;have e2:fH (.err 15)=15:=rfl;rw[e1,e2]at cA;repeat' first|simp (disch:=omega) only[go_sem,aq,au,aA,gZ,hv,aL,z0,<-d1,<-d2]|refine ak ?_|refine cW cC ?_|refine cW cA ?_|refine aj ?_ ?_<;>intro hw<;>try omega|fail
    all_goals first|exact TX hO.symm|exact aP|skip
  rw[if_neg e1]at g3;clear cA;by_cases hc:(agg=2/\m<0)\/(agg=3/\0<m)
  ·rw[if_pos hc]at g3;repeat' first|simp (disch:=omega) only[go_sem,aq,au,aA,gZ,hv,aL,z0,<-d1,<-d2]|refine ak ?_|refine cW cC ?_|refine aj ?_ ?_<;>intro hw<;>try omega|fail
   all_goals first
    | exact aP
    |(refine⟨((i+1,v),τ++[.cells [I v.kind,I v.n,.str v.s]]),⟨by dsimp only;omega,hpn,g3⟩,by dsimp only;omega,by first|rfl|(simp[go_sem];done),bK,at_⟩)
    | skip
  ·rw[if_neg hc]at g3;repeat' first|simp (disch:=omega) only[go_sem,aq,au,aA,gZ,hv,aL,z0,<-d1,<-d2]|refine ak ?_|refine cW cC ?_|refine aj ?_ ?_<;>intro hw<;>try omega|fail
   all_goals first
    | exact aP
    |(refine⟨((i+1,b),τ++[.cells [I v.kind,I v.n,.str v.s]]),⟨by dsimp only;omega,g2,g3⟩,by dsimp only;omega,by first|rfl|(simp[go_sem];done),bK,at_⟩)
    | skip
 ·rw[a_ (by simp;omega)]at g3;have g3:g_.ok b=R:=g3;subst g3;clear hpos hAdd Z2;repeat' first|refine ak ?_|refine aj ?_ ?_<;>intro hw<;>try omega|fail
  all_goals first|exact QC hO.symm|exact aP|skip
end Go.Proofs.YthakfmmgnjpmdaaGreat
namespace Go.Proofs.YthakfmmgnjpmdaaGreat
open Go.AM
set_option maxRecDepth 4000
def XY(a:Int): iW a a=0:=by unfold iW;simp
def Gn: ∀(cs:List bQ) (a:List aH),jB cs a a=0
 | c::cs,a::r=>by unfold jB;rw[XY,if_neg (by simp)];exact Gn cs r
 | [],_=>by unfold jB;rfl
 | _::_,[]=>by unfold jB;rfl
def vE{α : Type}[Inhabited α](f : α->AV){l:List α}{b:Nat}(h:b<l.length){n:Nat}(hn:n=1): ((l.map f).drop b).take n=[f (l.getD b default)]:=by
 subst hn;rw[<-List.map_drop,fZ h];rfl
def B9(t:Table)(rules:List Int)(rows:List (List aH)): qx :=
 if t.bu=4 then(if pE rows then⟨20,rules,[]⟩else ⟨0,rules,rows.take 1⟩)
 else if t.bu=3 then⟨0,[rules.getD (j_ t.outs rows rows 0 0) default],[rows.getD (j_ t.outs rows rows 0 0) default]⟩
 else⟨0,[rules.getD 0 default],[rows.getD 0 default]⟩
def St{t:Table}{rules:List Int}{rows:List (List aH)}(h5:t.bu≠5)(h6:t.bu≠6)(h0:rules≠[]): gO t rules rows=B9 t rules rows:=by
 unfold gO B9;rw[if_neg h5];split
 ·rfl
 ·first|rfl|rw[if_neg h6,if_neg h0]
def x4{α : Type}{p : α-> α->Bool}(l:List α)(h:∀ x ∈ l,p x x=true): fm p l l=true:=by
 induction l with
 | nil=>rfl
 | cons x l ih=>simp only[fm,h x (by simp),dG];exact ih (fun y hy=>h y (da _ hy))
def Z3(l:List aH): fm (fun a b=>a==b) l l=true:=x4 l fun x _=>by simp
def lW{σ : ae}{r0 r1:AV}{o:qx}{e:Int}(h:I o.err=I e)(h1:View σ r0 (cJ o.rules))(h2:View σ r1 (cu o.rows)): ∃ r,Out.ret (oneOf [.agg [I e,r0,r1]])=Out.ret r/\View σ r (jR o):=by
 unfold jR;rw[h];exact uS (View.n9 (.cons (.refl _ rfl) (.cons h1 (.cons h2 (.nil _)))))
def y3{σ : ae}{f:Bool}{a:List aH}: View σ (.aG f E1 [.aG false EV (a.map bD)]) (cu [a]):=View.weak _ _ _ (show AV.bG [aL a]=true by simp)
def XZ(t:Table)(h5:t.bu≠5)(h6:t.bu≠6)(rules:List Int)(rows:List (List aH))(ho:t.outs.length<=2 ^ 30)(hc:∀ c ∈ t.outs,c.order.length<=2 ^ 60)(hr:rows.length<=2 ^ 30)(hlen:rules.length=rows.length)(h0:0<rows.length)(hw:∀ a ∈ rows,a.length=t.outs.length): aF aD 50 [cI t,cJ rules,cu rows] (jR (B9 t rules rows)):=by
 have cA:=fun i (hi:i<rows.length) j (hj:j<rows.length)=>Sr t.outs (rows.getD i default) (rows.getD j default) hc (hw _ (aO hi)) (hw _ (aO hj)) ho;have cS:=fun i (hi:i<rows.length)=>vQ (rows.getD i default) (rows.getD 0 default) (by have:=hw _ (aO hi);omega) (by have:=hw _ (aO h0);omega);clear hc hw;by_cases Me:t.bu=4
 ·have e:B9 t rules rows=if pE rows then⟨20,rules,[]⟩else ⟨0,rules,rows.take 1⟩:=by unfold B9;rw[if_pos Me]
  rw[e];obtain⟨O,hO⟩:∃ O:qx,(if pE rows then⟨20,rules,[]⟩else ⟨0,rules,rows.take 1⟩)=O:=⟨_,rfl⟩;rw[hO]
  have hno:∀ i,i<rows.length->fm (fun a b=>a==b) (rows.getD i default) (rows.getD 0 default)=false->O=⟨20,rules,[]⟩:=fun i hi h=>by
   rw[<-hO,if_pos];unfold pE;rw[List.any_eq_true];exact⟨_,aO hi,by rw[h];rfl⟩
  have hyes:(∀ i,i<rows.length->fm (fun a b=>a==b) (rows.getD i default) (rows.getD 0 default)=true)->O=⟨0,rules,rows.take 1⟩:=fun h=>by
   rw[<-hO,if_neg];rw[Bool.not_eq_true];unfold pE;rw[List.any_eq_false];intro a ha;obtain⟨i,hi,rfl⟩:=bT ha;have:=h i hi;rw[aB,aE hi,bC]at this;rw[this];decide
  have hse:=Z3 (rows.getD 0 default);clear cA e hO;simp only[cI,eJ,aY,dy,cJ,cu];refine aK xo ?_;intro Q aq au aA;repeat' first|refine ak ?_|refine aj ?_ ?_<;>intro hw<;>try omega|fail
  with_reducible refine aX [7,8,9,10,11,12,13,14,15,16,17,18,19,20,21,22,23,24,25,26,27,28,29,30,31,32,33,34,35,36,37,38,39,40,41,42,43,44,45,46,47] (fun q:Nat=>[(8,I q)]) (fun q=>[.cells [.str t.name,.aG false EC (t.ins.map bW),.aG false EC (t.outs.map bW),I t.bu,I t.agg,.aG false ER (t.rules.map dN)],.cells [I 0,.ai,.ai]]) (fun q=>1<=q/\q<=rows.length/\ ∀ k,k<q->fm (fun a b=>a==b) (rows.getD k default) (rows.getD 0 default)=true) (fun q=>rows.length-q) 1 ?_ ?_ ?_ ?_
  ·refine⟨by omega,by omega,fun k hk=>?_⟩;obtain rfl:k=0:=by omega
   exact hse
  ·rfl
  ·exact at_
  rintro i u ⟨g1,g2,g3⟩;by_cases hi:i<rows.length
  ·have c:=cS i hi;have hn:=hno i hi;have dD:=bx (q:=fun k=>fm (fun a b=>a==b) (rows.getD k default) (rows.getD 0 default)=true) g3 (i:=i);obtain⟨x,hx⟩:∃ x,rows.getD i default=x:=⟨_,rfl⟩;obtain⟨y,hy⟩:∃ y,rows.getD 0 default=y:=⟨_,rfl⟩;have z0:(0:Int).toNat=0:=rfl;rw[hx,hy]at c hn;rw[hx]at dD;generalize hb:fm (fun a b=>a==b) x y=b at *;simp only[aL]at c;clear cS hno hyes hse;cases b with
   | true =>
     have dD:=dD (by rw[hy];exact hb);rw[hy]at dD;clear hn;repeat' first|simp (disch:=omega) only[go_sem,aq,au,aA,hx,hy,z0]|refine ak ?_|refine cW c ?_|refine aj ?_ ?_<;>intro hw<;>try omega|fail
     all_goals first
      | exact aP
      | (refine ⟨i + 1, ?_, ?_, by first | rfl | (simp [go_sem]; done), bK, at_⟩ <;> (try dsimp only)
         ·exact⟨by omega,by omega,dD⟩
         ·omega)
      | skip
   | false =>
     have hn:=hn rfl;subst hn;clear dD;repeat' first|simp (disch:=omega) only[go_sem,aq,au,aA,hx,hy,z0]|refine ak ?_|refine cW c ?_|refine aj ?_ ?_<;>intro hw<;>try omega|fail
     all_goals first
      | exact lW (o:=⟨20,rules,[]⟩) rfl jg (.ai _)
      | exact aP
      | skip
  ·have hB:=hyes fun k hk=>g3 k (by omega);subst hB;clear cS hno hyes hse;have z1:(1:Int).toNat=1:=rfl;repeat' first|simp (disch:=omega) only[go_sem,aq,au,aA,z1]|refine ak ?_|refine aj ?_ ?_<;>intro hw<;>try omega|fail
   all_goals first
    |(refine lW (o:=⟨0,rules,rows.take 1⟩) rfl jg ?_;rw[cu,List.map_take];exact View.weak _ _ _ (by rw[<-List.map_take];exact AK _))
    | exact aP
    | skip
 by_cases Du:t.bu=3
 ·have e:B9 t rules rows=⟨0,[rules.getD (j_ t.outs rows rows 0 0) default],[rows.getD (j_ t.outs rows rows 0 0) default]⟩:=by unfold B9;rw[if_neg Me,if_pos Du]
  rw[e]
  have hF:j_ t.outs rows (rows.drop 1) 1 0=j_ t.outs rows rows 0 0:=by
   obtain⟨a,r,rfl⟩:∃ a r,rows=a::r:=by
    cases rows with
    | nil=>simp at h0
    | cons a r=>exact⟨a,r,rfl⟩
   rw[zA,dn,Gn];rfl
  have hB0:=yZ (outs:=t.outs) (rows:=rows) (l:=rows) (i:=0) (b:=0) (by omega) h0;generalize j_ t.outs rows rows 0 0=B at *;have hN:=fun i j=>B5 t.outs (rows.getD i default) (rows.getD j default);clear cS e;simp only[cI,eJ,aY,dy,cJ,cu]at cA ⊢;refine aK xo ?_;intro Q aq au aA;repeat' first|refine ak ?_|refine aj ?_ ?_<;>intro hw<;>try omega|fail
  with_reducible refine aX [7,8,9,10,11,12,13,14,15,16,17,18,19,20,21,22,23,24,25,26,27,28,29,30,31,32,33,34,35,36,37,38,39,40,41,42,43,44,45,46,47] (fun q:Nat × Nat=>[(7,I q.2),(8,I q.1)]) (fun q=>[.cells [.str t.name,.aG false EC (t.ins.map bW),.aG false EC (t.outs.map bW),I t.bu,I t.agg,.aG false ER (t.rules.map dN)],.cells [I 0,.ai,.ai]]) (fun q=>1<=q.1/\q.1<=rows.length/\q.2<rows.length/\j_ t.outs rows (rows.drop q.1) q.1 q.2=B) (fun q=>rows.length-q.1) (1,0) ?_ ?_ ?_ ?_
  ·exact⟨by simp,by dsimp only;omega,h0,hF⟩
  ·rfl
  ·exact at_
  rintro⟨i,b⟩ u ⟨g1,g2,g3,g4⟩;dsimp only at g1 g2 g3 g4;clear hF;by_cases hi:i<rows.length
  ·have c:=cA i hi b g3;have hN:=hN i b;rw[fZ hi,zA]at g4;obtain⟨x,hx⟩:∃ x,rows.getD i default=x:=⟨_,rfl⟩;obtain⟨y,hy⟩:∃ y,rows.getD b default=y:=⟨_,rfl⟩;rw[hx,hy]at c hN g4;rw[hN]at c;generalize jB t.outs x y=n at *;simp only[aL]at c;clear cA hN;by_cases hn:n<0
   ·rw[if_pos hn]at g4;rw[decide_eq_true hn]at c;repeat' first|simp (disch:=omega) only[go_sem,aq,au,aA,hx,hy]|refine ak ?_|refine cW c ?_|refine aj ?_ ?_<;>intro hw<;>try omega|fail
    all_goals first
     | exact aP
     | (refine ⟨(i + 1, i), ?_, ?_, by first | rfl | (simp [go_sem]; done), bK, at_⟩ <;> (try dsimp only)
        ·exact⟨by omega,by omega,hi,g4⟩
        ·omega)
     | skip
   ·rw[if_neg hn]at g4;rw[decide_eq_false hn]at c;repeat' first|simp (disch:=omega) only[go_sem,aq,au,aA,hx,hy]|refine ak ?_|refine cW c ?_|refine aj ?_ ?_<;>intro hw<;>try omega|fail
    all_goals first
     | exact aP
     | (refine ⟨(i + 1, b), ?_, ?_, by first | rfl | (simp [go_sem]; done), bK, at_⟩ <;> (try dsimp only)
        ·exact⟨by omega,by omega,g3,g4⟩
        ·omega)
     | skip
  ·rw[a_ (by omega)]at g4;have g4:b=B:=g4;subst g4;clear cA hN;have s1:=vE lG (l:=rules) (b:=b) (by omega) (n:=b+1-b) (by omega);have s2:=vE aL (l:=rows) (b:=b) (by omega) (n:=b+1-b) (by omega);repeat' first|simp (disch:=omega) only[go_sem,aq,au,aA,s1,s2]|refine ak ?_|refine aj ?_ ?_<;>intro hw<;>try omega|fail
   all_goals first
    | exact lW (o:=⟨0,[rules.getD b default],[rows.getD b default]⟩) rfl mq y3
    | exact aP
    | skip
 have e:B9 t rules rows=⟨0,[rules.getD 0 default],[rows.getD 0 default]⟩:=by unfold B9;rw[if_neg Me,if_neg Du]
 rw[e];simp only[cI,eJ,aY,dy,cJ,cu];refine aK xo ?_;intro Q aq au aA;repeat' first|refine ak ?_|refine aj ?_ ?_<;>intro hw<;>try omega|fail
 with_reducible refine aX [7,8,9,10,11,12,13,14,15,16,17,18,19,20,21,22,23,24,25,26,27,28,29,30,31,32,33,34,35,36,37,38,39,40,41,42,43,44,45,46,47] (fun q:Nat=>[(7,I 0),(8,I q)]) (fun q=>[.cells [.str t.name,.aG false EC (t.ins.map bW),.aG false EC (t.outs.map bW),I t.bu,I t.agg,.aG false ER (t.rules.map dN)],.cells [I 0,.ai,.ai]]) (fun q=>1<=q/\q<=rows.length) (fun q=>rows.length-q) 1 ?_ ?_ ?_ ?_
 ·omega
 ·rfl
 ·exact at_
 rintro i u ⟨g1,g2⟩;by_cases hi:i<rows.length
 ·clear cA cS;repeat' first|refine ak ?_|refine aj ?_ ?_<;>intro hw<;>try omega|fail
  all_goals first
   | exact aP
   | (refine ⟨i + 1, ?_, ?_, by first | rfl | (simp [go_sem]; done), bK, at_⟩ <;> (try dsimp only)
      ·exact⟨by omega,by omega⟩
      ·omega)
   | skip
 ·clear cA cS;have s1:(rules.map lG).take (((0:Int)+1).toNat-0)=[lG (rules.getD 0 default)]:=vE lG (l:=rules) (b:=0) (by omega) rfl;have s2:(rows.map aL).take (((0:Int)+1).toNat-0)=[aL (rows.getD 0 default)]:=vE aL (l:=rows) (b:=0) (by omega) rfl;repeat' first|simp (disch:=omega) only[go_sem,aq,au,aA,s1,s2]|refine ak ?_|refine aj ?_ ?_<;>intro hw<;>try omega|fail
  all_goals first
   | exact lW (o:=⟨0,[rules.getD 0 default],[rows.getD 0 default]⟩) rfl mq y3
   | exact aP
   | skip
end Go.Proofs.YthakfmmgnjpmdaaGreat
namespace Go.Proofs.YthakfmmgnjpmdaaGreat
open Go.AM
set_option maxRecDepth 4000
def eTl(p:List aH × Int): AV:= .bJ [aL p.1,I p.2]
def X0{σ : ae}{v:AV}{l:List aH}{e:Int}{p:List aH × Int}(h:p=(l,e))(hv:View σ v (aL l)): ∃ r0,Out.ret (oneOf [v,I e])=Out.ret r0/\View σ r0 (eTl p):=by
 subst h;exact cN (.cons hv (.cons (.refl _ rfl) (.nil _)))
def Sv(ln:pG)(cs:List bQ)(qA:cs.length<=2 ^ 60)(row:List aH)(hrow:nN row)(hl:ln.outs.length<=2 ^ 30)(hx:∀ x ∈ ln.outs,iG x/\fE x<=2 ^ 30): aF aD 47 [jb ln,aY cs,aL row] (eTl (fO cs row ln.outs [])):=by
 obtain⟨cls,ps⟩:=ln;dsimp only at hl hx ⊢;have dI:=fun k (hk:k<ps.length)=>(show aF aD 91 [aJ (ps.getD k default),aY cs,aL row] (vT (gN (ps.getD k default) cs row))/\(gN (ps.getD k default) cs row).good from⟨BS _ cs row (hx _ (aO hk)).1 (by have:=(hx _ (aO hk)).2;omega) qA (by have:=hrow.1;omega) hrow.2,lp hrow.2 (hx _ (aO hk)).1⟩);clear hx hrow;obtain⟨R,hR⟩:∃ R,fO cs row ps []=R:=⟨_,rfl⟩;rw[hR];simp only[jb,nG,cH,aY,aL];refine aK KO ?_;intro Q aq au aA;repeat' first|refine ak ?_|refine aj ?_ ?_<;>intro hw<;>try omega|fail
 with_reducible refine aX [6,7,8,9,10,11,12,13,14,15,16,17,18,19,20,21,22,23,24,25,26,27,28,29,30,31,32,33,34,35,36] (fun q:List aH × List bE=>[(8,.own EV 1 q.1.length 0 q.1.length),(9,I q.1.length)]) (fun q=> .cells [.aG false EC (cls.map bY),.aG false EX (ps.map aJ)]:: .vec EV (q.1.map bD)::q.2) (fun q=>q.1.length<=ps.length/\fO cs row (ps.drop q.1.length) q.1=R) (fun q=>ps.length-q.1.length) ([],[]) ?_ ?_ ?_ ?_
 ·exact⟨by simp,by simpa using hR⟩
 ·rfl
 ·exact at_
 rintro⟨L,τ⟩ r ⟨h1,h3⟩;dsimp only at h1 h3;clear hR;by_cases hi:L.length<ps.length
 ·have hx:=dI _ hi;rw[fZ hi]at h3;obtain⟨x,hx0⟩:∃ x,ps.getD L.length default=x:=⟨_,rfl⟩;rw[hx0]at hx h3;obtain⟨cA,gA⟩:=hx;simp only[fO]at h3;clear dI;generalize gN x cs row=ra at *;rw[aU]at cA;simp only[aY,aL]at cA;cases ra with
  | err e =>
    rw[lV]at cA;have he:=mE gA;dsimp only at h3;simp only[c9]at cA;repeat' first|simp (disch:=omega) only[go_sem,aq,au,aA,hx0]|refine ak ?_|refine aj ?_ ?_<;>intro hw<;>try omega|fail
    all_goals first|exact X0 h3.symm (.ai _)|exact aP|skip
  | ok a =>
    rw[qX]at cA;dsimp only at h3;simp only[c9]at cA;repeat' first|simp (disch:=omega) only[go_sem,aq,au,aA,hx0]|refine ak ?_|refine aj ?_ ?_<;>intro hw<;>try omega|fail
    all_goals first
     |(refine⟨(L++[a],τ++[.cells [I a.kind,I a.n,.str a.s]]),⟨by dsimp only;simp only[List.length_append,List.length_cons,List.length_nil];omega,by dsimp only;simp only[List.length_append,List.length_cons,List.length_nil];exact h3⟩,by dsimp only;simp only[List.length_append,List.length_cons,List.length_nil];omega,by simp[go_sem],bK,at_⟩)
     | exact aP
     | skip
 ·rw[a_ (by omega)]at h3;have h3:R=(L,0):=h3.symm;clear dI;repeat' first|refine ak ?_|refine aj ?_ ?_<;>intro hw<;>try omega|fail
  all_goals first|exact X0 h3 (by exact xC)|exact aP|skip
end Go.Proofs.YthakfmmgnjpmdaaGreat
namespace Go.AM
variable {P:Program} {el:El} {σ : ae} {K Kp:AV->ae->Prop} {k:IntKind} {a:Int} {l m lo n:Nat}
@[go_sem] def abG : gD P (.ov el (.c .ai) none (some (.c (.int k a)))) σ (.mk : Tg (K, Kp)) = req (0 <= a /\ a <= 0) (.mk : Tg (K .ai σ)) := by
  rw[<-ey];simp only[gD,bA.run,AX.ev,bound,Option.map,and_assoc];rfl
@[go_sem] def abH : gD P (.ov el (.c .ai) (some (.c (.int k a))) none) σ (.mk : Tg (K, Kp)) = req (0 <= a /\ a <= 0) (.mk : Tg (K .ai σ)) := by
  rw[<-ey];simp only[gD,bA.run,AX.ev,bound,Option.map,and_assoc];rfl
@[go_sem] def aaH (T : Option TypeId) : gD P (.app T el (.c (.own el l m lo n)) (.c .ai)) σ (.mk : Tg (K, Kp)) = Kx σ T el (σ[l]?) l m lo n [] (.mk : Tg K) := by
  simp only[gD,bA.run,AX.ev,uo,ja,Kx,true_and,List.all_nil];rfl
end Go.AM
namespace Go.Proofs.YthakfmmgnjpmdaaGreat
open Go.AM
set_option maxRecDepth 4000
def TY{x:List aH}: ∀ {O:List (List aH)} {k:Nat},k<=O.length->(∀ j,j<k->¬ eY x (O.getD j default)<0)->(k=O.length\/eY x (O.getD k default)<0)->rh x O=O.take k++x::O.drop k
 | [], k, hk, _, _ => by
   have:k=0:=by simpa using hk
   subst this;rfl
 | y :: r, 0, _, _, h2 => by
   rcases h2 with h2|h2
   ·simp at h2
   ·have h2:eY x y<0:=h2;show(if eY x y<0 then x::y::r else y::rh x r)=_;rw[if_pos h2];rfl
 | y :: r, k + 1, hk, h1, h2 => by
   have h0:¬ eY x y<0:=h1 0 (by omega);show(if eY x y<0 then x::y::r else y::rh x r)=_
   rw[if_neg h0,TY (O:=r) (k:=k) (by simpa using hk) (fun j hj=>h1 (j+1) (by omega)) (by
    rcases h2 with h2|h2
    ·exact .inl (by simpa using h2)
    ·exact .inr h2)]
   rfl
def Vu(x:List aH)(r acc:List (List aH)): nK (x::r) acc=nK r (rh x acc):=rfl
def oV(O:List (List aH)): AV:=if O=[]then .ai else .aG false E1 (O.map aL)
def adw: oV [] = .ai:=rfl
def Oy{O:List (List aH)}(h:O≠[]): oV O = .aG false E1 (O.map aL):=if_neg h
def abI{σ : ae}(O:List (List aH)): View σ (oV O) (cu O):=by
 unfold oV;split
 ·rename_i h;subst h;exact .ai _
 ·exact View.weak _ _ _ (AK _)
def MV{l:List (List aH)}{m:List AV}(h:∀ a ∈ m,a ∈ l.map aL): (m.all fun a=>AV.fits ⟨false,1⟩ a)=true :=
 bg.2 fun a ha=>by obtain⟨b,_,rfl⟩:=eZ.1 (h a ha);rfl
def QE(rows:List (List aH))(n:Nat)(hn:n<=2 ^ 30)(hr:rows.length<=2 ^ 30)(hw:∀ a ∈ rows,a.length=n): aF aD 49 [cu rows] (cu (nK rows [])):=by
 have hlen:=fun i (hi:i<rows.length)=>hw _ (aO hi);have cL:=fun(a b:List aH) (ha:a.length=n) (hb:b.length=n)=>Vp a b (by omega) (by omega);clear hw;obtain⟨R,hR⟩:∃ R,nK rows []=R:=⟨_,rfl⟩;rw[hR];simp only[cu];refine aK IQ ?_;intro Q aq au aA;repeat' first|refine ak ?_|refine aj ?_ ?_<;>intro hw<;>try omega|fail
 with_reducible refine aX [3,4,5,6,7,8,9,10,11,12,13,14,15,16,17,18,19,20,21,22,23,24,25,26,27,28,29,30,31,32,33,34,35,36,37,38,39,40,41,42,43,44,45,46,47,48] (fun q:(Nat × List (List aH)) × List bE=>[(3,oV q.1.2),(4,I q.1.1)]) (fun q=>q.2) (fun q=>q.1.1<=rows.length/\q.1.2.length=q.1.1/\(∀ a ∈ q.1.2,a.length=n)/\nK (rows.drop q.1.1) q.1.2=R) (fun q=>rows.length-q.1.1) ((0,[]),[]) ?_ ?_ ?_ ?_
 ·exact⟨by simp,rfl,by simp,hR⟩
 ·rfl
 ·exact at_
 rintro⟨⟨i,O⟩,τ⟩ u ⟨g1,g2,g3,g4⟩;dsimp only at g1 g2 g3 g4;clear hR;by_cases hi:i<rows.length
 ·have lx:=hlen i hi;rw[fZ hi,Vu]at g4;obtain⟨x,hx⟩:∃ x,rows.getD i default=x:=⟨_,rfl⟩;rw[hx]at lx g4;clear hlen;by_cases hO:O=[]
  ·subst hO;have g4:nK (List.drop (i+1) rows) [x]=R:=g4;rw[adw];clear cL;repeat' first|refine ak ?_|refine aj ?_ ?_<;>intro hw<;>try omega|fail
   with_reducible refine aX [5,13,14,15,16,17,18,19,20,21,22,23,24,25,26,27,28,29,30] (fun q:Nat=>[(5,I 0)]) (fun q=> τ) (fun q=>True) (fun q=>q) 0 ?_ ?_ ?_ ?_
   ·trivial
   ·rfl
   ·exact at_
   rintro j u' -;repeat' first|simp (disch:=omega) only[go_sem,aq,au,aA,hx]|refine ak ?_|refine aj ?_ ?_<;>intro hw<;>try omega|fail
   all_goals first
    | exact aP
    | (refine ⟨((i + 1, [x]), τ ++ [.dead]), ⟨by dsimp only; omega, by dsimp only; simp at g2 ⊢; omega, by simpa using lx, g4⟩, by dsimp only; omega, by simp [go_sem], bK, ?_⟩
       dsimp only;rw[Oy (by simp)];exact at_)
    | skip
  ·rw[Oy hO];have gV:=fun k hk h1 h2=>TY (x:=x) (O:=O) (k:=k) hk h1 h2
   have xk:∀ k,rh x O=O.take k++x::O.drop k->(rh x O).length=i+1/\ ∀ a ∈ rh x O,a.length=n:=fun k e=>by
    refine⟨by rw[e];simp;omega,fun a ha=>?_⟩;rw[e]at ha;rcases List.mem_append.1 ha with h|h
    ·exact g3 a (List.mem_of_mem_take h)
    ·rcases List.mem_cons.1 h with rfl|h
     ·exact lx
     ·exact g3 a (List.mem_of_mem_drop h)
   generalize rh x O=O' at *;repeat' first|refine ak ?_|refine aj ?_ ?_<;>intro hw<;>try omega|fail
   with_reducible refine aX [5,13,14,15,16,17,18,19,20,21,22,23,24,25,26,27,28,29,30] (fun q:Nat=>[(5,I q)]) (fun q=> τ) (fun q=>q<=O.length/\ ∀ j,j<q->¬ eY x (O.getD j default)<0) (fun q=>O.length-q) 0 ?_ ?_ ?_ ?_
   ·simp
   ·rfl
   ·exact at_
   rintro k u' ⟨k1,k2⟩;have key:(k=O.length\/eY x (O.getD k default)<0)->O'=O.take k++x::O.drop k:=gV k k1 k2;have dD:=bx (q:=fun j=>¬ eY x (O.getD j default)<0) k2 (i:=k);have ly:=fun(h:k<O.length)=>g3 _ (aO h);have lt:(O.take k).length=k:=by rw[List.length_take];omega
   have ld:(O.drop k).length=O.length-k:=by rw[List.length_drop]
   have ft:((List.take k (O.map aL)).all fun a=>AV.fits ⟨false,1⟩ a)=true:=MV (l:=O) fun a h=>List.mem_of_mem_take h;have fd:((List.drop k (O.map aL)).all fun a=>AV.fits ⟨false,1⟩ a)=true:=MV (l:=O) fun a h=>List.mem_of_mem_drop h;have lt2:(List.take k (O.map aL)).length=k:=by rw[List.length_take,List.length_map];omega
   have ld2:(List.drop k (O.map aL)).length=O.length-k:=by rw[List.length_drop,List.length_map]
   have fq:O'=O.take k++x::O.drop k->List.take (k+1+(O.length-k)) (List.take k (O.map aL)++[AV.aG false EV (x.map bD)]++List.drop k (O.map aL))=O'.map aL:=fun e=>by
    rw[bX (by simp only[List.length_append,lt2,ld2,List.length_cons,List.length_nil];omega),e,← List.map_take,← List.map_drop];simp[aL]
   by_cases hk:k<O.length
   ·have c:=cL x (O.getD k default) lx (ly hk);obtain⟨y,hy⟩:∃ y,O.getD k default=y:=⟨_,rfl⟩;rw[hy]at key dD c;generalize eY x y=m at *;clear cL ly gV;simp only[aL]at c;by_cases hm:m<0
    ·rw[decide_eq_true hm]at c;have key:=key (.inr hm);have hf:=xk k key;clear dD;have fq:=fq key;have hne:O'≠[]:=fun e=>by rw[e]at hf;simp at hf
     repeat' first|simp (disch:=omega) only[go_sem,aq,au,aA,hx,hy,ft,fd,lt2,ld2,fq]|refine ak ?_|refine cW c ?_|refine aj ?_ ?_<;>intro hw<;>try omega|fail
     all_goals first
      | exact aP
      | (refine ⟨((i + 1, O'), τ ++ [.dead]), ⟨by dsimp only; omega, hf.1, hf.2, g4⟩, by dsimp only; omega, by simp [go_sem], bK, ?_⟩
         dsimp only;rw[Oy hne];exact at_)
      | skip
    ·rw[decide_eq_false hm]at c;have dD:=dD hm;clear key xk;repeat' first|simp (disch:=omega) only[go_sem,aq,au,aA,hx,hy]|refine ak ?_|refine cW c ?_|refine aj ?_ ?_<;>intro hw<;>try omega|fail
     all_goals first
      | exact aP
      | (refine ⟨k + 1, ?_, ?_, by first | rfl | (simp [go_sem]; done), bK, at_⟩ <;> (try dsimp only)
         ·exact⟨by omega,dD⟩
         ·omega)
      | skip
   ·have key:=key (.inl (by omega));have hf:=xk k key;clear cL ly gV dD;have fq:=fq key;have hne:O'≠[]:=fun e=>by rw[e]at hf;simp at hf
    repeat' first|simp (disch:=omega) only[go_sem,aq,au,aA,hx,ft,fd,lt2,ld2,fq]|refine ak ?_|refine aj ?_ ?_<;>intro hw<;>try omega|fail
    all_goals first
     | exact aP
     | (refine ⟨((i + 1, O'), τ ++ [.dead]), ⟨by dsimp only; omega, hf.1, hf.2, g4⟩, by dsimp only; omega, by simp [go_sem], bK, ?_⟩
        dsimp only;rw[Oy hne];exact at_)
     | skip
 ·rw[a_ (by omega)]at g4;have g4:O=R:=g4;subst g4;clear cL hlen;repeat' first|refine ak ?_|refine aj ?_ ?_<;>intro hw<;>try omega|fail
  all_goals first|exact uS (abI _)|exact aP|skip
