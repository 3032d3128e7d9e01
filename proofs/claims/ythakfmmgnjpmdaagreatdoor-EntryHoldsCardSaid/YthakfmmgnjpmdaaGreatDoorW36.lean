/- Part. -/
import Derived.Test.YthakfmmgnjpmdaaGreatDoorW35
set_option linter.all false
set_option maxHeartbeats 4000000
namespace Go.Proofs.YthakfmmgnjpmdaaGreatDoor
open Go.AM
set_option maxRecDepth 4000
def Sg(l:List (List aL))(a:List aL): j0 (l++[a])=j0 l++(if dB (a.getD 0 default)then []else [a.getD 0 default]):=by
 unfold j0;rw[List.map_append,List.filter_append]
 congr 1
 simp only[bf,cJ,List.filter_cons,List.filter_nil];cases dB (a.getD 0 default)<;>rfl
def YQ{α : Type}[Inhabited α]{l:List α}{k:Nat}(h:k<l.length): l.take (k+1)=l.take k++[l.getD k default]:=by
 rw[iR,ai,aF h];rfl
def V7(l:List (List aL)): (j0 l).length<=l.length:=by
 unfold j0;exact bW (List.length_filter_le _ _) (by simp)
def Jy{l:List (List aL)}{v:aL}(h:v ∈ j0 l): ∃ a ∈ l,v=a.getD 0 default:=by
 unfold j0 at h;obtain⟨a,ha,rfl⟩:=dW.1 (List.mem_filter.1 h).1;exact⟨a,ha,rfl⟩
def TN(rows:List (List aL)): lW 4 rows = .ok ⟨1,rows.length,[]⟩:=by unfold lW;exact if_pos rfl
def TP(rows:List (List aL)): lW 1 rows=if j0 rows=[]then .ok v0 else zV (j0 rows) 0:=by
 unfold lW;rw[if_neg (by decide)];split
 ·rename_i h;rw[h,if_pos rfl]
 ·rename_i m l h;rw[h];exact(if_pos rfl).trans (if_neg (by simp)).symm
def MJ{agg:Int}{rows:List (List aL)}(h4:agg≠4)(h:j0 rows=[]): lW agg rows = .ok v0:=by
 unfold lW;rw[if_neg h4,h]
def TQ{rows:List (List aL)}{m:aL}{l:List aL}(h:j0 rows=m::l): lW 2 rows = .ok (pC l m):=by
 unfold lW;rw[if_neg (by decide),h];rfl
def TR{agg:Int}{rows:List (List aL)}{m:aL}{l:List aL}(h4:agg≠4)(h1:agg≠1)(h2:agg≠2)(h:j0 rows=m::l): lW agg rows = .ok (uw l m):=by
 unfold lW;rw[if_neg h4,h];dsimp only;rw[if_neg h1,if_neg h2]
def abq(v:aL): dB v=decide (v.kind=0):=rfl
def abr(agg:Int)(rows:List (List aL))(hr:rows.length<=2 ^ 30)(hw:∀ a ∈ rows,0<a.length/\ ∀ v ∈ a,ku v.n): aM aH 119 [I agg,dU rows] (zX (lW agg rows)):=by
 have hpos:=fun i (hi:i<rows.length)=>(hw _ (bn hi)).1;have Ow:=V7 rows
 have cS:=adE (j0 rows) (by omega) (fun v hv=>by
  obtain⟨a,ha,rfl⟩:=Jy hv;exact(hw a ha).2 _ (bn (hw a ha).1))
 rw[<-TP]at cS
 have cL:∀ m l,j0 rows=m::l->aM aH 165 [aW (j0 rows),.fn (.func 118) [] []] (bX (pC l m)):=fun m l h=>by
  rw[h];exact Cn m l (by rw[h]at Ow;simp at Ow;omega)
 have cM:∀ m l,j0 rows=m::l->aM aH 166 [aW (j0 rows),.fn (.func 118) [] []] (bX (uw l m)):=fun m l h=>by
  rw[h];exact Co m l (by rw[h]at Ow;simp at Ow;omega)
 clear hw;obtain⟨R,hR⟩:∃ R,lW agg rows=R:=⟨_,rfl⟩;rw[hR];simp only[dU];refine aR Ru ?_;intro Q aB aC aD;repeat' first|refine au ?_|refine aq ?_ ?_<;>intro hw<;>try omega|fail
 with_reducible refine bE [6,8,11,12,13,14,15,16,17,18,19,20,21,22,23,24,25,26] (fun q:Nat × List aL=>[(6,.own EV 1 q.2.length 0 q.2.length),(11,I q.1)]) (fun q=>[.cells [I 0,I 0,.str []],.vec EV (q.2.map bX)]) (fun q=>q.1<=rows.length/\q.2.length<=q.1/\q.2=j0 (rows.take q.1)) (fun q=>rows.length-q.1) (0,[]) ?_ ?_ ?_ ?_
 ·exact⟨by simp,by simp,rfl⟩
 ·rfl
 ·exact at_
 rintro⟨i,L⟩ u ⟨g1,g2,g3⟩;dsimp only at g1 g2 g3;by_cases hi:i<rows.length
 ·have hp:=hpos i hi;have hs:=Sg (rows.take i) (rows.getD i default);rw[<-YQ hi,<-g3,abq]at hs;obtain⟨a,ha⟩:∃ a,rows.getD i default=a:=⟨_,rfl⟩;rw[ha]at hp hs;obtain⟨v,hv⟩:∃ v,a.getD 0 default=v:=⟨_,rfl⟩;rw[hv]at hs;clear cS cL cM hpos Ow g3 hR;have z0:(0:Int).toNat=0:=rfl;by_cases hk:v.kind=0
  ·rw[if_pos (by simpa using hk),bB]at hs;repeat' first|simp (disch:=omega) only[go_sem,aB,aC,aD,ha,aW,z0,hv]|refine au ?_|refine aq ?_ ?_<;>intro hw<;>try omega|fail
   all_goals first
    | exact a_
    | (refine ⟨(i + 1, L), ?_, ?_, by first | rfl | (simp [go_sem]; done), cZ, at_⟩ <;> (try dsimp only)
       ·exact⟨by omega,by omega,hs.symm⟩
       ·omega)
    | skip
  ·rw[if_neg (by simpa using hk)]at hs;repeat' first|simp (disch:=omega) only[go_sem,aB,aC,aD,ha,aW,z0,hv]|refine au ?_|refine aq ?_ ?_<;>intro hw<;>try omega|fail
   all_goals first
    | exact a_
    | (refine ⟨(i + 1, L ++ [v]), ?_, ?_, by first | rfl | (simp [go_sem]; done), cZ, at_⟩ <;> (try dsimp only)
       ·exact⟨by omega,by simp only[List.length_append,List.length_cons,List.length_nil];omega,hs.symm⟩
       ·omega)
    | skip
 ·rw[b_ (by omega)]at g3;clear hpos;have hag:agg=4->R = .ok ⟨1,rows.length,[]⟩:=fun h=>by rw[<-hR,h];exact TN rows
  rw[<-g3]at cS cL cM Ow;have EN:agg=1->R=lW 1 rows:=fun h=>by rw[<-hR,h]
  have kT:=fun(h4:agg≠4) (h:L=[])=>hR.symm.trans (MJ h4 (by rw[<-g3];exact h));have h2:∀ m l,L=m::l->agg=2->R = .ok (pC l m):=fun m l h h'=>by rw[<-hR,h'];exact TQ (by rw[<-g3];exact h)
  have ho:=fun m l (h:L=m::l) h4 h1 h2=>hR.symm.trans (TR h4 h1 h2 (by rw[<-g3];exact h));clear hR;simp only[aW]at cS cL cM;by_cases e4:agg=4
  ·have hag:=hag e4;subst hag;subst e4;clear cS cL cM EN kT h2 ho;repeat' first|refine au ?_|refine aq ?_ ?_<;>intro hw<;>try omega|fail
   all_goals first|exact tD (v:=⟨1,rows.length,[]⟩) (r:= .ok ⟨1,rows.length,[]⟩) rfl rfl|exact a_|skip
  by_cases e1:agg=1
  ·have EN:=EN e1;rw[<-EN]at cS;subst e1;clear cL cM kT h2 ho hag EN;have hRr:zX R = .bH [.agg [I (valOf R).kind,I (valOf R).n,.str (valOf R).s],I (oS R)]:=by cases R<;>rfl
   rw[hRr]at cS;repeat' first|refine au ?_|refine F9 cS ?_|refine aq ?_ ?_<;>intro hw<;>try omega|fail
   all_goals first|exact tD (v:=valOf R) (r:=R) rfl rfl|exact a_|skip
  cases hL:L with
  | nil =>
    have kT:=kT e4 hL;subst kT;subst hL;clear cS cL cM h2 ho hag EN;repeat' first|refine au ?_|refine aq ?_ ?_<;>intro hw<;>try omega|fail
    all_goals first|exact tD (v:=v0) (r:= .ok v0) rfl rfl|exact a_|skip
  | cons m l =>
    have cL:=cL m l hL;have cM:=cM m l hL;have hm:(m::l).length=l.length+1:=rfl;rw[hL]at cL cM;by_cases e2:agg=2
    ·have h2:=h2 m l hL e2;subst h2;subst e2;subst hL;clear cS cM kT ho hag EN;generalize pC l m=b at *;simp only[gi b]at cL;repeat' first|refine au ?_|refine F9 cL ?_|refine aq ?_ ?_<;>intro hw<;>try omega|fail
     all_goals first|exact tD (v:=b) (r:= .ok b) rfl rfl|exact a_|skip
    ·have ho:=ho m l hL e4 e1 e2;subst ho;subst hL;clear cS cL kT h2 hag EN;generalize uw l m=b at *;simp only[gi b]at cM;repeat' first|refine au ?_|refine F9 cM ?_|refine aq ?_ ?_<;>intro hw<;>try omega|fail
     all_goals first|exact tD (v:=b) (r:= .ok b) rfl rfl|exact a_|skip
end Go.Proofs.YthakfmmgnjpmdaaGreatDoor
namespace Go.Proofs.YthakfmmgnjpmdaaGreatDoor
open Go.AM
set_option maxRecDepth 4000
def Jz(agg:Int): List aL->aL->iW
 | [],b=> .ok b
 | v :: r, b => if v = v0 then Jz agg r b else if b = v0 then Jz agg r v
   else if agg=1 then(match jR (b.n+v.n)with
    | .err e=> .err e
    | .ok w=>Jz agg r w)
   else if(agg=2/\iM v b<0)\/(agg=3/\0<iM v b)then Jz agg r v else Jz agg r b
def ack(a:List aL): aL:=a.getD 0 default
def nN(o:ux): AV:= .agg [I o.err,dL o.rules,dU o.rows]
def YR(o:ux): (nN o).dz=true:=by simp[nN,AV.dz,AV.cg]
attribute [simp] YR
def afz(rules:List Int): iW->ux
 | .err e=>⟨e,rules,[]⟩
 | .ok v=>⟨0,rules,[[v]]⟩
def N_(agg:Int)(rules:List Int)(rows:List (List aL)): ux:=afz rules (lW agg rows)
end Go.Proofs.YthakfmmgnjpmdaaGreatDoor
namespace Go.Proofs.YthakfmmgnjpmdaaGreatDoor
open Go.AM
set_option maxRecDepth 4000
def afA{σ : ae}{rules:List Int}{v:aL}{o:ux}{f f' f'':Bool}(h:o=⟨0,rules,[[v]]⟩): ∃ r0,Out.ret (oneOf [.agg [I 0,.aN f E1 (rules.map pY),.aN f' E1 [.aN f'' EV [.agg [I v.kind,I v.n,.str v.s]]]]])=Out.ret r0∧View σ r0 (nN o):=by
 subst h;exact y_ (View.nV (.cons (.refl _ rfl) (.cons nM (.cons (View.Kc (.cons (View.weak _ _ _ rfl) (.nil _))) (.nil _)))))
def adF{σ : ae}{rules:List Int}{e:Int}{o:ux}{f:Bool}(h:o=⟨e,rules,[]⟩): ∃ r0,Out.ret (oneOf [.agg [I e,.aN f E1 (rules.map pY),.aA]])=Out.ret r0/\View σ r0 (nN o):=by
 subst h;exact y_ (View.nV (.cons (.refl _ rfl) (.cons nM (.cons (.aA _) (.nil _)))))
end Go.Proofs.YthakfmmgnjpmdaaGreatDoor
namespace Go.Proofs.YthakfmmgnjpmdaaGreatDoor
open Go.AM
set_option maxRecDepth 4000
def JA{α : Type}[Inhabited α](f : α->AV){l:List α}{b:Nat}(h:b<l.length){n:Nat}(hn:n=1): ((l.map f).drop b).take n=[f (l.getD b default)]:=by
 subst hn;rw[<-List.map_drop,jW h];rfl
def Cq{α : Type}{p : α-> α->Bool}(l:List α)(h:∀ x ∈ l,p x x=true): fO p l l=true:=by
 induction l with
 | nil=>rfl
 | cons x l ih=>simp only[fO,h x (by simp),fH];exact ih (fun y hy=>h y (bJ _ hy))
def qR{σ : ae}{r0 r1:AV}{o:ux}{e:Int}(h:I o.err=I e)(h1:View σ r0 (dL o.rules))(h2:View σ r1 (dU o.rows)): ∃ r,Out.ret (oneOf [.agg [I e,r0,r1]])=Out.ret r/\View σ r (nN o):=by
 unfold nN;rw[h];exact y_ (View.nV (.cons (.refl _ rfl) (.cons h1 (.cons h2 (.nil _)))))
def MK{σ : ae}{f:Bool}{a:List aL}: View σ (.aN f E1 [.aN false EV (a.map bX)]) (dU [a]):=View.weak _ _ _ (show AV.cg [aW a]=true by simp)
end Go.Proofs.YthakfmmgnjpmdaaGreatDoor
namespace Go.Proofs.YthakfmmgnjpmdaaGreatDoor
open Go.AM
set_option maxRecDepth 4000
end Go.Proofs.YthakfmmgnjpmdaaGreatDoor
namespace Go.AM
variable {P:Program} {el:El} {σ : ae} {K Kp:AV->ae->Prop} {k:IntKind} {a:Int} {l m lo n:Nat}
end Go.AM
namespace Go.Proofs.YthakfmmgnjpmdaaGreatDoor
open Go.AM
set_option maxRecDepth 4000
end Go.Proofs.YthakfmmgnjpmdaaGreatDoor
namespace Go.Proofs.YthakfmmgnjpmdaaGreatDoor
open Go.AM
set_option maxRecDepth 4000
section
variable {α : Type} (τ kM:List α) (x y z w : α)
def mg0: (τ++[z]++kM)[τ.length]? = some z:=by rw[aP,bp (Nat.le_refl _),Nat.sub_self];rfl
def ms0: (τ++[z]++kM).set τ.length w = τ++[w]++kM:=by rw[aP,fL _ _ (Nat.le_refl _),Nat.sub_self,aP];rfl
def mg2: (τ++[z]++kM++[x]++[y])[τ.length]? = some z:=by
 have:=mg0 τ (kM++[x]++[y]) z;simpa[aP]using this
def ms2: (τ++[z]++kM++[x]++[y]).set τ.length w = τ++[w]++kM++[x]++[y]:=by
 have:=ms0 τ (kM++[x]++[y]) z w;simpa[aP]using this
def ml: (τ++[z]++kM).length = τ.length+1+kM.length:=by simp;omega
def lx0: (τ++[z]++kM++[x])[τ.length+1+kM.length]? = some x:=by rw[<-ml τ kM z];simp
def lx1: (τ++[z]++kM++[x]).set (τ.length+1+kM.length) w = τ++[z]++kM++[w]:=by rw[<-ml τ kM z,fL _ _ (Nat.le_refl _),Nat.sub_self];rfl
def ly0: (τ++[z]++kM++[x]++[y])[τ.length+1+kM.length]? = some x:=by rw[<-ml τ kM z];exact afw _ _ _
def ly1: (τ++[z]++kM++[x]++[y])[τ.length+1+kM.length+1]? = some y:=by rw[<-ml τ kM z];exact aiR _ _ _
def ly2: (τ++[z]++kM++[x]++[y]).set (τ.length+1+kM.length+1) w = τ++[z]++kM++[x]++[w]:=by rw[<-ml τ kM z];exact aiS _ _ _ _
end
def JB (r : Ready) (row : List aL) (i : Int) (q : List Int) (acc : List (List aL)) : kF r row (i :: q) acc = if (jc r.table.ins row (r.lines.getD i.toNat default).outs []).2 ≠ 0 then ([], i, (jc r.table.ins row (r.lines.getD i.toNat default).outs []).2)
    else kF r row q (acc++[(jc r.table.ins row (r.lines.getD i.toNat default).outs []).1]):=rfl
def agO(o1 o2:bj)(T:List (List aL) × Int × Int)(o:Out)(s:ae): Prop :=
 (T.2.2≠0/\o = .ret (.bH [.aA,I T.2.1,I T.2.2])/\ ∃ τ,s=o1::o2:: τ)\/(T.2.2=0/\o = .ret (.bH [sN 3 T.1,I 0,I 0])/\ ∃ o3 τ,s=o1::o2::o3::jS T.1:: τ)
def abt (r : Ready) (hr : Fy r) (row : List aL) (hrow : qo row) (rules : List Int) (Mq : ∀ i ∈ rules, 0 <= i /\ i.toNat < r.lines.length) (h24 : rules.length <= 24) (o1 o2 : bj) :
    dZ aH 39 [kZ r,dL rules,aW row] [o1,o2] (agO o1 o2 (kF r row rules [])):=by
 have hz:=fun i (hi:i<rules.length)=>Mq _ (bn hi);have eH:=fun j (hj:j<r.lines.length) k (hk:k<(r.lines.getD j default).outs.length)=>(show aM aH 72 [aT ((r.lines.getD j default).outs.getD k default),bV r.table.ins,aW row] (zX (jx ((r.lines.getD j default).outs.getD k default) r.table.ins row))/\(jx ((r.lines.getD j default).outs.getD k default) r.table.ins row).good from⟨EG _ r.table.ins row ((hr.line _ (bn hj)).2.2 _ (bn hk)).1 (by have:=((hr.line _ (bn hj)).2.2 _ (bn hk)).2;omega) (by have:=hr.ins;omega) (by have:=hrow.1;omega) hrow.2,oQ hrow.2 ((hr.line _ (bn hj)).2.2 _ (bn hk)).1⟩);have D3:=fun j (hj:j<r.lines.length)=>(hr.line _ (bn hj)).2.1;have aiU:=hr.outs;clear Mq hr hrow;obtain⟨T,hT⟩:∃ T,kF r row rules []=T:=⟨_,rfl⟩;rw[hT];simp only[kZ,bV,fj,o_,aW,dL];refine Rr.go ?_;unfold dO;intro Q aB aC aD;repeat' first|refine au ?_|refine aq ?_ ?_<;>intro hw<;>try omega|fail
 with_reducible refine bE [6,7,8,9,11,12,14,15,16,19,20,21,22,23,24,25,26,27,28,29,30,31,32,33,34,35,36,37,38,39,40,41,42,43,44,45,46,47,48,49,50,51,52,53,54,55,56] (fun q:(Nat × List (List aL)) × List bj=>[(9,.own E1 3 q.1.2.length 0 q.1.2.length),(19,I q.1.1)]) (fun q=>o1::o2:: .cells [.str r.table.name,.aN false EC (r.table.ins.map ew),.aN false EC (r.table.outs.map ew),I r.table.bZ,I r.table.agg,.aN false ER (r.table.rules.map ia),.aN false ER (r.lines.map m_)]:: .vec E1 (q.1.2.map aW)::q.2) (fun q=>q.1.1<=rules.length/\q.1.2.length=q.1.1/\kF r row (rules.drop q.1.1) q.1.2=T) (fun q=>rules.length-q.1.1) ((0,[]),[]) ?_ ?_ ?_ ?_
 ·exact⟨by simp,rfl,hT⟩
 ·rfl
 ·exact at_
 rintro⟨⟨i,rows⟩,τ⟩ u ⟨g1,g2,g4⟩;dsimp only at g1 g2 g4;clear hT;by_cases hi:i<rules.length
 ·have hz:=hz i hi;rw[jW hi,JB]at g4;obtain⟨z,hz0⟩:∃ z,rules.getD i default=z:=⟨_,rfl⟩;rw[hz0]at hz g4;obtain⟨j,rfl⟩:∃ j:Nat,z=j:=⟨z.toNat,by omega⟩;have hj:j<r.lines.length:=by omega
  have eH:=eH j hj;have D3:=D3 j hj;rw[show ((j:Int)).toNat=j from rfl]at g4;obtain⟨ln,AZ⟩:∃ ln,r.lines.getD j default=ln:=⟨_,rfl⟩;rw[AZ]at eH D3 g4;obtain⟨ps,hps⟩:∃ ps,ln.outs=ps:=⟨_,rfl⟩;rw[hps]at eH D3 g4;have tM:ps.length<=2 ^ 30:=by omega
  obtain⟨P,hP⟩:∃ P,jc r.table.ins row ps []=P:=⟨_,rfl⟩;rw[hP]at g4;repeat' first|simp (disch:=omega) only[go_sem,aB,aC,aD,hz0,AZ,hps]|refine au ?_|refine aq ?_ ?_<;>intro hw<;>try omega|fail
  with_reducible refine bE [6,7,8,12,14,15,16,30,31,32,33,34,35,36,37,38,39,40,41,42,43,44,45,46,47,48,49,50,51] (fun q:List aL × List bj=>[(12,.own EV (τ.length+4) q.1.length 0 q.1.length),(30,I q.1.length)]) (fun q=>o1::o2:: .cells [.str r.table.name,.aN false EC (r.table.ins.map ew),.aN false EC (r.table.outs.map ew),I r.table.bZ,I r.table.agg,.aN false ER (r.table.rules.map ia),.aN false ER (r.lines.map m_)]:: .vec E1 (rows.map aW)::(τ++[.vec EV (q.1.map bX)]++q.2)) (fun q=>q.1.length<=ps.length/\jc r.table.ins row (ps.drop q.1.length) q.1=P) (fun q=>ps.length-q.1.length) ([],[]) ?_ ?_ ?_ ?_
  ·exact⟨by simp,by simpa using hP⟩
  ·simp
  ·exact at_
  rintro⟨L,kM⟩ u' ⟨k1,k2⟩;dsimp only at k1 k2;clear hP;by_cases hk:L.length<ps.length
  ·have hx:=eH _ hk;rw[jW hk]at k2;obtain⟨x,hx0⟩:∃ x,ps.getD L.length default=x:=⟨_,rfl⟩;rw[hx0]at hx k2;obtain⟨cA,gA⟩:=hx;simp only[jc]at k2;clear eH D3;generalize jx x r.table.ins row=ra at *;rw[bq]at cA;simp only[bV,aW]at cA;cases ra with
   | err e =>
     rw[sO]at cA;have he:=Bc gA;dsimp only at k2;simp only[gi]at cA;subst k2;rw[if_pos he]at g4;repeat' first|simp (disch:=omega) only[go_sem,aB,aC,aD,hx0,mg0,ms0,mg2,ms2,lx0,lx1,ly0,ly1,ly2]|refine au ?_|refine aq ?_ ?_<;>intro hw<;>try omega|fail
     all_goals first
      | exact a_
      | exact .inl (by rw[<-g4];exact⟨he,rfl,_,rfl⟩)
      | skip
   | ok a =>
     rw[Bb]at cA;dsimp only at k2;simp only[gi]at cA;repeat' first|simp (disch:=omega) only[go_sem,aB,aC,aD,hx0,mg0,ms0,mg2,ms2,lx0,lx1,ly0,ly1,ly2]|refine au ?_|refine aq ?_ ?_<;>intro hw<;>try omega|fail
     all_goals first
      | exact a_
      |(refine⟨(L++[a],kM++[.cells [I x.op,I x.v.kind,I x.v.n,.str x.v.s,.str x.s,.aN false EX (x.l.map aT)]]++[.cells [I a.kind,I a.n,.str a.s]]),⟨by dsimp only;simp only[List.length_append,List.length_cons,List.length_nil];omega,by dsimp only;simp only[List.length_append,List.length_cons,List.length_nil];exact k2⟩,by dsimp only;simp only[List.length_append,List.length_cons,List.length_nil];omega,by simp[go_sem],cZ,at_⟩)
      | skip
  ·rw[bK (by omega)]at k2;have k2:P=(L,0):=k2.symm;subst k2;rw[if_neg (by simp)]at g4;clear eH;repeat' first|simp (disch:=omega) only[go_sem,aB,aC,aD,mg0,ms0,mg2,ms2]|refine au ?_|refine aq ?_ ?_<;>intro hw<;>try omega|fail
   all_goals first
    | exact a_
    |(refine⟨((i+1,rows++[L]),τ++[.dead]++kM),⟨by dsimp only;omega,by dsimp only;simp only[List.length_append,List.length_cons,List.length_nil];omega,g4⟩,by dsimp only;omega,by simp[go_sem,aW],cZ,at_⟩)
    | skip
 ·rw[bK (by omega)]at g4;have g4:T=(rows,0,0):=g4.symm;subst g4;clear eH D3 hz;repeat' first|refine au ?_|refine aq ?_ ?_<;>intro hw<;>try omega|fail
  all_goals first
   | exact a_
   | exact .inr ⟨rfl,rfl,_,_,rfl⟩
   | skip
end Go.Proofs.YthakfmmgnjpmdaaGreatDoor
namespace Go.Proofs.YthakfmmgnjpmdaaGreatDoor
open Go.AM
set_option maxRecDepth 4000
def Qv: ∀ {l:List aL} {n e:Int},zV l n = .err e->e=15
 | [],_,_,h=>by cases h
 | v :: r, n, e, h => by
   rw[EM]at h;rcases Cp (n+v.n)with ⟨e1,_⟩|e1
   ·rw[e1]at h;exact Qv h
   ·rw[e1]at h;cases h;rfl
def ML{agg:Int}{rows:List (List aL)}{e:Int}(h:lW agg rows = .err e): e=15:=by
 unfold lW at h;split at h
 ·cases h
 split at h
 ·cases h
 split at h
 ·exact Qv h
 split at h<;>cases h
def Sh(agg:Int)(ha:agg≠0)(rules:List Int)(rows:List (List aL))(hr:rows.length<=2 ^ 30)(hw:∀ a ∈ rows,0<a.length/\ ∀ v ∈ a,ku v.n): aM aH 73 [I agg,dL rules,dU rows] (nN (N_ agg rules rows)):=by
 have c:=abr agg rows hr hw;have he:=fun e=>ML (agg:=agg) (rows:=rows) (e:=e);unfold N_;generalize lW agg rows=R at *;obtain⟨O,hO⟩:∃ O,afz rules R=O:=⟨_,rfl⟩;rw[hO];simp only[dL,dU]at c ⊢;cases R with
 | ok v =>
   rw[Bb,gi]at c;refine aR u5 ?_;intro Q aB aC aD;repeat' first|refine au ?_|refine eZ c ?_|refine aq ?_ ?_<;>intro hw<;>try omega|fail
   all_goals first|exact afA hO.symm|exact a_|skip
 | err e =>
   have he:=he e rfl;subst he;rw[sO,gi]at c;refine aR u5 ?_;intro Q aB aC aD;repeat' first|refine au ?_|refine eZ c ?_|refine aq ?_ ?_<;>intro hw<;>try omega|fail
   all_goals first|exact adF hO.symm|exact a_|skip
def abu{rows:List (List aL)}: List.take (if 1<(rows.length:Int)then (1:Int)else (rows.length:Int)).toNat (rows.map aW)=(rows.take 1).map aW:=by
 rw[List.map_take];split
 ·rfl
 ·rename_i h;have:rows.length<=1:=by omega
  rw[b_ (by simp),b_ (by simpa using this)]
def zu{σ : ae}{f:Bool}{l:List (List aL)}: View σ (.aN f E1 (l.map aW)) (dU l):=View.weak _ _ _ (Ju _)
def V8(t:Table)(hp:¬ (t.bZ=5/\t.agg=0))(rules:List Int)(rows:List (List aL))(ho:t.outs.length<=2 ^ 30)(ho0:0<t.outs.length)(hc:∀ c ∈ t.outs,c.order.length<=2 ^ 60)(hr:rows.length<=2 ^ 30)(hlen:rules.length=rows.length)(hw:∀ a ∈ rows,a.length=t.outs.length/\ ∀ v ∈ a,ku v.n): aM aH 40 [dP t,dL rules,dU rows] (nN (mM t rules rows)):=by
 have cC:=fun ha=>Sh t.agg ha rules rows hr (fun a h=>⟨by have:=(hw a h).1;omega,(hw a h).2⟩);have cU:=V6 rows hr (fun a h=>by have:=(hw a h).1;omega);have cF:=YM t.outs rows hc ho hr (fun a h=>(hw a h).1);have hF:=fun(h0:0<rows.length)=>EL (outs:=t.outs) (rows:=rows) (l:=rows) (i:=0) (b:=0) (by omega) h0;clear hc hw;obtain⟨O,hO⟩:∃ O,mM t rules rows=O:=⟨_,rfl⟩;rw[hO];unfold mM at hO;by_cases hp5:t.bZ=5
 ·have ha:t.agg≠0:=fun h=>hp ⟨hp5,h⟩;have cC:=cC ha;rw[if_pos hp5,if_neg ha]at hO
  have e:N_ t.agg rules rows=O:=by
   rw[<-hO];unfold N_;cases lW t.agg rows<;>rfl
  rw[e]at cC;clear cU cF hF;simp only[dP,ic,bV,fj,dL,dU,nN]at cC ⊢;refine aR j9 ?_;intro Q aB aC aD;repeat' first|refine au ?_|refine aq ?_ ?_<;>intro hw<;>try omega|fail
  all_goals first|exact qR (o:=O) rfl nM zu|exact a_|skip
 clear cC hp;rw[if_neg hp5]at hO;by_cases hp4:t.bZ=4
 ·rw[if_pos hp4]at hO;generalize A2 rows=B at *;clear cF hF;simp only[dP,ic,bV,fj,dL,dU]at cU ⊢;cases B with
  | true =>
    rw[if_pos rfl]at hO;subst hO;refine aR j9 ?_;intro Q aB aC aD;repeat' first|refine au ?_|refine aq ?_ ?_<;>intro hw<;>try omega|fail
    all_goals first|exact qR (o:=⟨20,rules,[]⟩) rfl nM (.aA _)|exact a_|skip
  | false =>
    rw[if_neg (by decide)]at hO;subst hO;refine aR j9 ?_;intro Q aB aC aD;repeat' first|simp (disch:=omega) only[go_sem,aB,aC,aD,abu]|refine au ?_|refine aq ?_ ?_<;>intro hw<;>try omega|fail
    all_goals first|exact qR (o:=⟨0,rules,rows.take 1⟩) rfl nM zu|exact a_|skip
 rw[if_neg hp4]at hO;clear cU;by_cases hp6:t.bZ=6
 ·rw[if_pos hp6]at hO;subst hO;clear cF hF;simp only[dP,ic,bV,fj,dL,dU];refine aR j9 ?_;intro Q aB aC aD;repeat' first|refine au ?_|refine aq ?_ ?_<;>intro hw<;>try omega|fail
  all_goals first|exact qR (o:=⟨0,rules,rows⟩) rfl nM zu|exact a_|skip
 rw[if_neg hp6]at hO;generalize pB t.outs rows rows 0 0=b at *;by_cases h0:rules=[]
 ·rw[if_pos h0]at hO;subst hO;have Ms:rows.length=0:=by rw[<-hlen,h0];rfl
  have Xt:rules.length=0:=by rw[h0];rfl
  clear hF;by_cases OM:t.bZ=3
  ·simp only[dP,ic,bV,fj,dL,dU]at cF ⊢;refine aR j9 ?_;intro Q aB aC aD;repeat' first|refine au ?_|refine aq ?_ ?_<;>intro hw<;>try omega|fail
   all_goals first|exact qR (o:=⟨0,[],[]⟩) rfl (.aA _) (.aA _)|exact a_|skip
  ·clear cF;simp only[dP,ic,bV,fj,dL,dU];refine aR j9 ?_;intro Q aB aC aD;repeat' first|refine au ?_|refine aq ?_ ?_<;>intro hw<;>try omega|fail
   all_goals first|exact qR (o:=⟨0,[],[]⟩) rfl (.aA _) (.aA _)|exact a_|skip
 rw[if_neg h0]at hO;have Ms:0<rules.length:=ik.2 h0;have hb:=hF (by omega);clear hF;by_cases OM:t.bZ=3
 ·rw[if_pos OM]at hO;subst hO;have s1:=JA pY (l:=rules) (b:=b) (by omega) (n:=b+1-b) (by omega);have s2:=JA aW (l:=rows) (b:=b) (by omega) (n:=b+1-b) (by omega);simp only[dP,ic,bV,fj,dL,dU]at cF ⊢;refine aR j9 ?_;intro Q aB aC aD;repeat' first|simp (disch:=omega) only[go_sem,aB,aC,aD,s1,s2]|refine au ?_|refine aq ?_ ?_<;>intro hw<;>try omega|fail
  all_goals first|exact qR (o:=⟨0,[rules.getD b default],[rows.getD b default]⟩) rfl uB MK|exact a_|skip
 ·rw[if_neg OM]at hO;subst hO;clear cF;have s1:(rules.map pY).take (((0:Int)+1).toNat-0)=[pY (rules.getD 0 default)]:=JA pY (l:=rules) (b:=0) (by omega) rfl;have s2:(rows.map aW).take (((0:Int)+1).toNat-0)=[aW (rows.getD 0 default)]:=JA aW (l:=rows) (b:=0) (by omega) rfl;simp only[dP,ic,bV,fj,dL,dU];refine aR j9 ?_;intro Q aB aC aD;repeat' first|simp (disch:=omega) only[go_sem,aB,aC,aD,s1,s2]|refine au ?_|refine aq ?_ ?_<;>intro hw<;>try omega|fail
  all_goals first|exact qR (o:=⟨0,[rules.getD 0 default],[rows.getD 0 default]⟩) rfl uB MK|exact a_|skip
end Go.Proofs.YthakfmmgnjpmdaaGreatDoor
namespace Go.Proofs.YthakfmmgnjpmdaaGreatDoor
open Go.AM
set_option maxRecDepth 4000
section
variable {σ : ae} {k:Nat} {o:bj}
def kl(h : σ[k]? = some o): k < σ.length:=(aK.1 h).1
def ks1(h : σ[k]? = some o)(v x:bj): (σ++[x]).set k v = σ.set k v++[x]:=by rw[iO _ _ (kl h)]
def kg1(h : σ[k]? = some o)(x:bj): (σ++[x])[k]? = some o:=by rw[aJ (kl h)];exact h
def kt1(v x:bj): (σ.set k v++[x])[σ.length]? = some x:=by
 have:(σ.set k v).length = σ.length:=eF;rw[<-this];simp
def ku1(v x y:bj): (σ.set k v++[x]).set σ.length y = σ.set k v++[y]:=by
 have:(σ.set k v).length = σ.length:=eF;rw[<-this,fL _ _ (Nat.le_refl _),Nat.sub_self];rfl
def ks2(h : σ[k]? = some o)(v x y:bj): (σ++[x]++[y]).set k v = σ.set k v++[x]++[y]:=by rw[aP,iO _ _ (kl h),aP]
def kl2(v x:bj): (σ.set k v++[x]).length = σ.length+1:=by simp
def kg3(v x y z:bj): (σ.set k v++[x]++[y]++[z])[σ.length+1]? = some y:=by rw[<-kl2 (k:=k) v x];exact afw _ _ _
def ku3(v x y z w:bj): (σ.set k v++[x]++[y]++[z]).set (σ.length+1) w = σ.set k v++[x]++[w]++[z]:=by
 rw[<-kl2 (k:=k) v x,YE,fL _ _ (Nat.le_refl _),Nat.sub_self,aP _ [w] [z]];rfl
end
def HN (rules : List Int) (L : List Row) (hl : L.length < 40) (hw : ∀ a ∈ L, a.length <= 2 ^ 30) (σ : ae) (k : Nat) (gO : σ[k]? = some (jS L)) :
    dZ aH 73 [I 0,dL rules,sN k L] σ fun o s=>o = .ret (.agg [I 0,dL rules,sN k L])/\ ∃ c,s = σ.set k (jS (ez L))++[c]:=by
 have h:=VP 116 L (fun x hx y hy=>NL x y (hw x hx) (hw y hy)) hl;obtain⟨M,hM⟩:∃ M,ez L=M:=⟨_,rfl⟩;rw[hM]at h ⊢;have s1:=ks1 gO;have g1:=kg1 gO;have t1:=fun v x=>kt1 (σ:=σ) (k:=k) v x;have u1:=fun v x y=>ku1 (σ:=σ) (k:=k) v x y;simp only[dL];refine u5.go ?_;unfold dO;intro Q aB aC aD;repeat' first|simp (disch:=omega) only[go_sem,aB,aC,aD,g1,s1,t1,u1]|refine au ?_|with_reducible refine TC h (g1 _) ?_|refine aq ?_ ?_<;>intro hw<;>try omega|fail
 all_goals first|exact⟨rfl,_,rfl⟩|exact a_|skip
def JC (t : Table) (hp : t.bZ = 5) (ha : t.agg = 0) (rules : List Int) (L : List Row) (hl : L.length < 40) (hw : ∀ a ∈ L, a.length <= 2 ^ 30) (σ : ae) (k : Nat) (gO : σ[k]? = some (jS L)) :
    dZ aH 40 [dP t,dL rules,sN k L] σ fun o s=>o = .ret (.agg [I 0,dL rules,sN k L])/\ ∃ τ,s = σ.set k (jS (ez L))++ τ:=by
 have hc:=fun(b c:bj)=>HN rules L hl hw (σ++[b]++[c]) k (by
  rw[aP,aJ (kl gO)];exact gO)
 have hk:=kl gO;obtain⟨M,hM⟩:∃ M,ez L=M:=⟨_,rfl⟩;rw[hM]at hc ⊢;simp only[dP,ic,bV,fj,dL]at hc ⊢;refine j9.go ?_;unfold dO;intro Q aB aC aD;repeat' first|simp (disch:=omega) only[go_sem,aB,aC,aD,hp,ha]|refine au ?_|with_reducible refine cI ((hc _ _)) ?_|refine aq ?_ ?_<;>intro hw<;>try omega|fail
 rintro o s' ⟨rfl,c,rfl⟩;have s2:=ks2 gO;have g3:=fun v x y z=>kg3 (σ:=σ) (k:=k) v x y z;have u3:=fun v x y z w=>ku3 (σ:=σ) (k:=k) v x y z w;rw[s2];clear hc;repeat' first|simp (disch:=omega) only[go_sem,aB,aC,aD,g3,u3]|refine au ?_|refine aq ?_ ?_<;>intro hw<;>try omega|fail
 all_goals first|exact⟨rfl,_,by rw[aP,aP]⟩|exact a_|skip
end Go.Proofs.YthakfmmgnjpmdaaGreatDoor
namespace Go.AM
variable {P:Program}
def View.live{σ σ':ae}(hs:∀ (l:Nat) o,σ[l]? = some o->o.live=true->σ'[l]? = some o){a b:AV}(h:View σ a b): View σ' a b:=by
 induction h with
 | refl a h=>exact .refl a h
 | aA el=>exact .aA el
 | weak f el xs h=>exact .weak f el xs h
 | aN f el xs ys hl _ ih=>exact .aN f el xs ys hl ih
 | own T el l lo n xs ys hl hy hn _ ih=>exact .own T el l lo n xs ys (hs _ _ hl rfl) hy hn ih
 | agg cs ds hl _ ih=>exact .agg cs ds hl ih
 | bH cs ds hl _ ih=>exact .bH cs ds hl ih
 | cell l v hl h hp=>exact .cell l v (hs _ _ hl rfl) h hp
 | cells l n cs hl hn hp=>exact .cells l n cs (hs _ _ hl rfl) hn hp
 | yb l n cs ds hl hn hd h ih=>exact .yb l n cs ds (hs _ _ hl rfl) hn hd ih
 | p_ a l o hl ho h=>exact .p_ a l o (hs _ _ hl ho) ho h
 | fn f az bs cs ds hl _ hl' _ ih sU=>exact .fn f az bs cs ds hl ih hl' sU
def V9(q:Nat)(o:bj): ae:=List.replicate q .dead++[o]
def YS{q:Nat}{o:bj}(l:Nat)(o':bj)(h:(V9 q o)[l]? = some o')(hl:o'.live=true): l=q/\o'=o:=by
 unfold V9 at h;by_cases h1:l<q
 ·rw[aJ (by simpa using h1)]at h;simp[List.getElem?_replicate,h1]at h;subst h;cases hl
 ·rw[bp (by simpa using fF h1)]at h;simp only[dN]at h
  have:l-q=0:=by
   apply Nat.eq_zero_of_not_pos;intro hp;rw[List.getElem?_eq_none (by simp;omega)]at h;cases h
  rw[this]at h;simp at h;exact⟨by omega,h.symm⟩
def aM.freeze {f : FuncId} {az bz : List AV} {r : AV} {σ : ae} {q : Nat} {o : bj} (h : aM P f bz r) (hq : σ[q]? = some o) (ho : o.live = true) (hv : bN (V9 q o) az bz) (hr : r.dz = true) :
    dZ P f az σ fun out s=>out = .ret r/\s = σ.set q .dead:=by
 refine⟨(h []).1,fun g w vs hR hlen hvs=>?_⟩;have hqn:q<g.n:=by rw[<-hR.len];exact(aK.1 hq).1
 have Qw:Live σ q:=⟨o,hq,ho⟩
 let I:Nat->Prop:=fun b=>g.fQ b\/g.base q=some b
 have hlt:∀ b,I b->b<w.heap.size:=fun b hb=>by
  rcases hb with hb|hb
  ·exact hR.lt b hb
  ·exact hR.jV Qw hb
 let MN:ae:=σ.zipIdx.map fun x=>if x.2=q then x.1 else .dead
 have Qx:∀ (l:Nat) o',MN[l]? = some o'->o'.live=true->l=q/\σ[l]? = some o':=fun l o' hl hlv=>by
  simp only[MN,g_,List.getElem?_zipIdx,Option.map_map]at hl;obtain⟨x,hx,lU⟩:=aS.1 hl;simp at lU;split at lU
  ·rename_i e;subst lU;exact⟨e,hx⟩
  ·subst lU;cases hlv
 have afB:MN.length = σ.length:=by simp[MN]
 have agP:MN[q]? = some o:=by
  simp only[MN,g_,List.getElem?_zipIdx,Option.map_map];rw[hq];simp
 have hRq:Rel g w MN:=by
  refine⟨by rw[afB];exact hR.len,hR.lt,fun l o' ho'=>?_,fun l l' b hl hl'=>?_,fun l b hl=>?_,hR.glob⟩
  ·by_cases hlv:o'.live=true
   ·exact hR.ok l o' (Qx l o' ho' hlv).2
   ·cases o'<;>simp[bj.live]at hlv;trivial
  ·obtain⟨o1,h1,h2⟩:=hl;obtain⟨o2,h3,h4⟩:=hl';exact hR.inj l l' b ⟨o1,(Qx l o1 h1 h2).2,h2⟩ ⟨o2,(Qx l' o2 h3 h4).2,h4⟩
  ·obtain⟨o1,h1,h2⟩:=hl;exact hR.sV l b ⟨o1,(Qx l o1 h1 h2).2,h2⟩
 have IC:∀ {x y:AV},View (V9 q o) x y->View MN x y:=fun hxy=>hxy.live (fun l o' hl hlv=>by
  obtain⟨rfl,rfl⟩:=YS l o' hl hlv;exact agP)
 refine((h []).2 (aE.bare I) w vs (Rel.bare hlt ⟨fun b hb=> .inl (hR.glob.1 b hb),hR.glob.2⟩) (hv.1 ▸ hlen) (fun i hi=>?_)).mono ?_
 ·refine(IC (hv.2 i (hv.1 ▸ hi))).vr (g':=aE.bare I) hRq (fun b hb=> .inl hb) (fun b hb=>?_) (hvs i (hv.1 ▸ hi));obtain⟨l,⟨o1,h1,h2⟩,hb⟩:=hb;obtain⟨rfl,_⟩:=Qx l o1 h1 h2;exact .inr hb
 rintro e w' ⟨out,g',σ',kY,hE,hO,rfl,rfl⟩;have hfr:∀ b,b<w.heap.size->w'.heap[b]? = w.heap[b]?:=fun b hb=>hE.frame b hb iK
 let g2:aE:= { g with fQ:=fun b=>I b\/(w.heap.size<=b/\b<w'.heap.size) }
 have hm:kI g w g2 w':=⟨fun b hb=>⟨.inl (.inl hb),hfr b (hR.lt b hb)⟩,Nat.le_refl _,fun _ _=>⟨Nat.le_refl _,fun _=>⟨rfl,rfl,rfl⟩⟩⟩
 have sH:∀ (l:Nat) o',(σ.set q .dead)[l]? = some o'->o'.live=true->l≠q/\σ[l]? = some o':=fun l o' hl hlv=>by
  by_cases e:l=q
  ·subst e;rw[List.getElem?_set_self (aK.1 hq).1]at hl;cases hl;cases hlv
  ·rw[aI (Ne.symm e)]at hl;exact⟨e,hl⟩
 have L2:Rel g2 w' (σ.set q .dead):=by
  refine⟨by simp[g2,hR.len],fun b hb=>?_,fun l o' ho'=>?_,fun l l' b hl hl'=>?_,fun l b hl hb hi=>?_,hR.glob.mono hm.fQ⟩
  ·rcases hb with hb|hb
   ·exact dK (hlt b hb) hE.size
   ·exact hb.2
  ·by_cases hlv:o'.live=true
   ·obtain⟨_,h2⟩:=sH l o' ho' hlv;have hl:l<g.n:=by rw[<-hR.len];exact(aK.1 h2).1
    exact(hR.ok l o' h2).step hm hl rfl (fun b hb=>hfr b (hR.jV ⟨o',h2,hlv⟩ hb))
   ·cases o'<;>simp[bj.live]at hlv;trivial
  ·obtain⟨o1,h1,h2⟩:=hl;obtain⟨o2,h3,h4⟩:=hl';exact hR.inj l l' b ⟨o1,(sH l o1 h1 h2).2,h2⟩ ⟨o2,(sH l' o2 h3 h4).2,h4⟩
  ·obtain⟨o1,h1,h2⟩:=hl;obtain⟨hne,h3⟩:=sH l o1 h1 h2;rcases hi with(hi|hi)|hi
   ·exact hR.sV l b ⟨o1,h3,h2⟩ hb hi
   ·exact hne (hR.inj l q b ⟨o1,h3,h2⟩ Qw hb hi)
   ·have:=hR.jV ⟨o1,h3,h2⟩ hb;omega
 refine⟨.ret r,g2,_,L2,⟨hm,hE.size,hE.os,hE.tape,hE.output,fun b hb _=>hfr b hb,fun b hb hi=>?_,fun b hb ht=>?_⟩,?_,rfl,rfl⟩
 ·rcases hi with(hi|hi)|hi
  ·exact .inl hi
  ·exact .inr ⟨q,Qw,hi⟩
  ·omega
 ·obtain⟨l,⟨o1,h1,h2⟩,gG⟩:=ht;exact⟨l,⟨o1,(sH l o1 h1 h2).2,h2⟩,gG⟩
 ·cases e with
  | returned v =>
    refine VR.dz (g:=g') (g':=g2) (fun b hb=>⟨?_,rfl⟩) hO hr;by_cases I3:b<w.heap.size
    ·rcases hE.xR b I3 hb with h3|h3
     ·exact .inl h3
     ·exact absurd h3 iK
    ·exact .inr ⟨by omega,kY.lt b hb⟩
  | panicked c=>exact hO.elim
  | outgrown=>exact hO.elim
end Go.AM
namespace Go.Proofs.YthakfmmgnjpmdaaGreatDoor
open Go.AM
def sw(e:Int): Prop:=e=2\/e=5\/e=13\/e=14\/e=15\/e=16
def Fz{e:Int}(h:sw e): e≠0/\e≠21/\0<=e/\e<=99:=by unfold sw at h;omega
def afC{cs:List cN}{row:List aL}(hrow:∀ w ∈ row,tC w)(v:aL){t:Test}(ht:uj t): (uu cs row v t).2=0\/sw (uu cs row v t).2:=by
 have ga:=oQ (cs:=cs) hrow ht.1.1;have gb:=oQ (cs:=cs) hrow ht.2.1
 have hT:∀ a b,(yA t v a b).2=0\/sw (yA t v a b).2:=fun a b=>by
  unfold yA;split
  ·exact .inl rfl
  ·exact .inr (.inr (.inr (.inr (.inl rfl))))
 unfold uu;revert ga gb;generalize jx t.a cs row=ra;generalize jx t.b cs row=rb;intro ga gb;cases ra with
 | err e=>exact .inr ga
 | ok a =>
   dsimp only;split
   ·cases rb with
    | err e=>exact .inr gb
    | ok b=>exact hT _ _
   ·exact hT _ _
def Qy{cs:List cN}{row:List aL}(hrow:∀ w ∈ row,tC w)(v:aL)(any neg:Bool): ∀ {l:List Test},(∀ t ∈ l,uj t)->(uv cs row v any neg l).2=0\/sw (uv cs row v any neg l).2
 | [],_=> .inl rfl
 | t :: r, h => by
   have ht:=afC (cs:=cs) hrow v (h t (by simp));unfold uv;split
   ·rename_i he;rcases ht with ht|ht
    ·exact absurd ht he
    ·exact .inr ht
   split
   ·exact .inl rfl
   ·exact Qy hrow v any neg (fun t ht=>h t (by simp[ht]))
def abv{cs:List cN}{row:List aL}(hrow:∀ w ∈ row,tC w)(v:aL){c:Cell}(hc:oA c): (mX c v cs row).2=0\/sw (mX c v cs row).2:=by
 unfold mX;split
 ·exact Qy hrow v _ _ hc.2
 ·exact .inr (.inl rfl)
def Qz{cs:List cN}{row:List aL}(hrow:∀ w ∈ row,tC w): ∀ {l:List Cell} {k:Nat},(∀ c ∈ l,oA c)->(mY cs row l k).2=0\/sw (mY cs row l k).2
 | [],_,_=> .inl rfl
 | c :: r, k, h => by
   rw[Gp];split
   ·exact abv hrow _ (h c (by simp))
   ·exact Qz hrow (fun c hc=>h c (by simp[hc]))
def EO {Ep : Int} {cs : List cN} {row : List aL} (hrow : ∀ w ∈ row, tC w) : ∀ {ls : List jn} {k : Nat} {acc : List Int}, (∀ l ∈ ls, ∀ c ∈ l.cells, oA c) -> acc.Pairwise (· < ·) -> (∀ i ∈ acc, 0 <= i /\ i < k) ->
    let R:=rZ Ep cs row ls k acc
    (R.1.Pairwise (· < ·)/\ ∀ i ∈ R.1,0<=i/\i<(k+ls.length:Nat))/\(R.2.2=0\/(R.1=[]/\sw R.2.2/\0<=R.2.1/\R.2.1<(k+ls.length:Nat)))
 | [],k,acc,_,h1,h2=>⟨⟨h1,fun i hi=>by have:=h2 i hi;simp;omega⟩,.inl rfl⟩
 | l :: r, k, acc, hc, h1, h2 => by
   have he:=Qz (cs:=cs) hrow (k:=0) (hc l (by simp));have hr:∀ l ∈ r,∀ c ∈ l.cells,oA c:=fun l hl=>hc l (by simp[hl])
   have a1:(acc++[(k:Int)]).Pairwise (· < ·):=fC.2 ⟨h1,by simp,fun a ha b hb=>by
    have:=h2 a ha;obtain rfl:b=k:=by simpa using hb
    omega⟩
   have a2:∀ i ∈ acc++[(k:Int)],0<=i/\i<(k+1:Nat):=fun i hi=>by
    rcases List.mem_append.1 hi with hi|hi
    ·have:=h2 i hi;omega
    ·obtain rfl:i=k:=by simpa using hi
     omega
   have e:k+(l::r).length=k+1+r.length:=by simp;omega
   rw[e];dsimp only;rw[Gq];split
   ·rename_i hne;refine⟨⟨.nil,fun i hi=>by cases hi⟩,.inr ⟨rfl,?_,by dsimp only;omega,by dsimp only;omega⟩⟩;rcases he with he|he
    ·exact absurd he hne
    ·exact he
   split
   ·split
    ·exact ⟨⟨by simp, fun i hi => by
      obtain rfl:i=k:=by simpa using hi
      omega⟩,.inl rfl⟩
    ·exact EO hrow hr a1 a2
   ·exact EO hrow hr h1 (fun i hi=>by have:=h2 i hi;omega)
def MO: ∀ {l:List Int} {n:Int},l.Pairwise (· < ·)->(∀ i ∈ l,n<=i)-> ∀ {m:Nat},(∀ i ∈ l,i<n+m)->l.length<=m
 | [],_,_,_,_,_=>by simp
 | a :: r, n, h1, h2, m, h3 => by
   have ha:=h2 a (by simp);have hb:=h3 a (by simp);have h4:=eY.1 h1;obtain⟨m',rfl⟩:∃ m',m=m'+1:=⟨m-1,by omega⟩;have:=MO (l:=r) (n:=n+1) h4.2 (fun i hi=>by have:=h4.1 i hi;omega) (m:=m') (fun i hi=>by have:=h3 i (by simp[hi]);omega);simp only[List.length_cons];omega
def MP {r : Ready} (hr : Fy r) {row : List aL} (hrow : qo row) :
    ((dS r row).1.Pairwise (· < ·) /\ (∀ i ∈ (dS r row).1, 0 <= i /\ i.toNat < r.lines.length) /\ (dS r row).1.length <= 24) /\
      ((dS r row).2.2=0\/(dS r row).2.2=21\/(sw (dS r row).2.2/\0<=(dS r row).2.1/\(dS r row).2.1.toNat<r.lines.length)):=by
 unfold dS;split
 ·have h:=EO (Ep:=r.table.bZ) (cs:=r.table.ins) hrow.2 (ls:=r.lines) (k:=0) (acc:=[]) (fun l hl=>(hr.line l hl).1.2) .nil (fun i hi=>by cases hi);dsimp only at h;generalize rZ r.table.bZ r.table.ins row r.lines 0 []=R at *;have hl:=hr.lines;refine⟨⟨h.1.1,fun i hi=>by have:=h.1.2 i hi;omega,?_⟩,?_⟩
  ·have:=MO (n:=0) h.1.1 (fun i hi=>(h.1.2 i hi).1) (m:=r.lines.length) (fun i hi=>by have:=h.1.2 i hi;omega);omega
  ·rcases h.2 with h2|⟨_,h3,h4,h5⟩
   ·exact .inl h2
   ·exact .inr (.inr ⟨h3,h4,by omega⟩)
 ·exact⟨⟨.nil,⟨fun i hi=>(by cases hi),Nat.zero_le _⟩⟩,.inr (.inl rfl)⟩
def JD {cs : List cN} {row : List aL} (hrow : ∀ w ∈ row, tC w) : ∀ {xs : List Expr} {acc : List aL}, (∀ x ∈ xs, ig x) -> (∀ v ∈ acc, gk v) ->
    ((jc cs row xs acc).2=0/\(jc cs row xs acc).1.length=acc.length+xs.length/\ ∀ v ∈ (jc cs row xs acc).1,gk v)\/sw (jc cs row xs acc).2
 | [],acc,_,h=> .inl ⟨rfl,by simp[jc],h⟩
 | x :: r, acc, hx, h => by
   have g:=oQ (cs:=cs) hrow (hx x (by simp));simp only[jc];revert g;cases jx x cs row with
   | err e=>intro g;exact .inr g
   | ok v =>
     intro g
     have:=JD (cs:=cs) hrow (xs:=r) (acc:=acc++[v]) (fun x h=>hx x (by simp[h])) (fun w hw=>by
      rcases List.mem_append.1 hw with hw|hw
      ·exact h w hw
      ·obtain rfl:w=v:=by simpa using hw
       exact g)
     rcases this with⟨h1,h2,h3⟩|h1
     ·exact .inl ⟨h1,by rw[h2];simp;omega,h3⟩
     ·exact .inr h1
def HO {r : Ready} (hr : Fy r) {row : List aL} (hrow : qo row) : ∀ {q : List Int} {acc : List (List aL)}, (∀ i ∈ q, 0 <= i /\ i.toNat < r.lines.length) -> (∀ a ∈ acc, a.length = r.table.outs.length /\ ∀ v ∈ a, gk v) ->
    ((kF r row q acc).2.2=0/\(kF r row q acc).1.length=acc.length+q.length/\ ∀ a ∈ (kF r row q acc).1,a.length=r.table.outs.length/\ ∀ v ∈ a,gk v)\/(sw (kF r row q acc).2.2/\(kF r row q acc).2.1 ∈ q)
 | [],acc,_,h=> .inl ⟨rfl,by simp[kF],h⟩
 | i :: q, acc, hq, h => by
   have hi:=hq i (by simp);have hl:=hr.line _ (bn hi.2);have ho:=JD (cs:=r.table.ins) hrow.2 (xs:=(r.lines.getD i.toNat default).outs) (acc:=[]) (fun x hx=>(hl.2.2 x hx).1) (fun v hv=>by cases hv);rw[JB];rcases ho with⟨h1,h2,h3⟩|h1
   ·rw[if_neg (by omega)]
    have:=HO hr hrow (q:=q) (acc:=acc++[(jc r.table.ins row (r.lines.getD i.toNat default).outs []).1]) (fun j hj=>hq j (by simp[hj])) (fun a ha=>by
     rcases List.mem_append.1 ha with ha|ha
     ·exact h a ha
     ·obtain rfl:=List.mem_singleton.1 ha;exact⟨by rw[h2,hl.2.1];simp,h3⟩)
    rcases this with⟨k1,k2,k3⟩|⟨k1,k2⟩
    ·exact .inl ⟨k1,by rw[k2];simp;omega,k3⟩
    ·exact .inr ⟨k1,bJ _ k2⟩
   ·rw[if_pos (Fz h1).1];exact .inr ⟨h1,by simp⟩
