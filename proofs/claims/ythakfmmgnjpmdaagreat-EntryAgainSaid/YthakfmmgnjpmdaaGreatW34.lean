/- Part. -/
import Derived.Test.YthakfmmgnjpmdaaGreatW33
set_option linter.all false
set_option maxHeartbeats 2000000
namespace Go.Proofs.YthakfmmgnjpmdaaGreat
open Go.AM
set_option maxRecDepth 4000
def zw{α : Type}[Inhabited α]{p : α->Bool}{l:List α}{i:Nat}(hi:i<l.length)(h:p (l.getD i default)=false): l.all p=false:=by
 cases hq:l.all p with
 | false=>rfl
 | true=>rw[List.all_eq_true]at hq;rw[hq _ (aO hi)]at h;cases h
def zx{α : Type}[Inhabited α]{p : α->Bool}{l:List α}(h:∀ k,k<l.length->p (l.getD k default)=true): l.all p=true:=by
 rw[bg];intro x hx;obtain⟨i,hi,rfl⟩:=bT hx;have:=h i hi;rwa[aB,aE hi,bC]at this
def HR(t:Test)(v:aH)(o:List aH × Int): Bool × Int :=
 if o.2≠0 then(false,o.2)else if o.1.all (fun w=>kE t v.kind w.kind)then (mP t v (o.1.getD 0 default) (o.1.getD (o.1.length-1) default),0)else (false,14)
def EG{cs:List bQ}{row:List aH}{x:Expr}{r:List Expr}{acc:List aH}{e:Int}(h:gN x cs row = .err e): fO cs row (x::r) acc=([],e):=by simp only[fO,h]
def BZ{cs:List bQ}{row:List aH}{x:Expr}{r:List Expr}{acc:List aH}{v:aH}(h:gN x cs row = .ok v): fO cs row (x::r) acc=fO cs row r (acc++[v]):=by simp only[fO,h]
def EH{cs:List bQ}{row:List aH}{acc:List aH}: fO cs row [] acc=(acc,0):=rfl
def Qy{t:Test}{v:aH}{l:List aH}{e:Int}(h:e≠0): HR t v (l,e)=(false,e):=by unfold HR;exact if_pos h
def LB{t:Test}{v:aH}{l:List aH}: HR t v (l,0)=if l.all (fun w=>kE t v.kind w.kind)then (mP t v (l.getD 0 default) (l.getD (l.length-1) default),0)else (false,14):=by unfold HR;exact if_neg (by simp)
def adt{cs:List bQ}{row:List aH}(v:aH)(t:Test)(ga:(gN t.a cs row).good)(gb:(gN t.b cs row).good): kH cs row v t=HR t v (fO cs row (oW t) []):=by
 unfold kH oW;cases ha:gN t.a cs row with
 | err e =>
   rw[ha]at ga;have he:=mE ga;dsimp only;split<;>rw[EG ha,Qy he]
 | ok a =>
   dsimp only;by_cases h6:t.kind=6
   ·rw[if_pos h6,if_pos h6,BZ ha];cases hb:gN t.b cs row with
    | err e =>
      rw[hb]at gb;have he:=mE gb;dsimp only;rw[EG hb,Qy he]
    | ok b =>
      dsimp only;rw[BZ hb,EH,LB];simp[tL]
   ·rw[if_neg h6,if_neg h6,BZ ha,EH,LB];simp[tL]
def ZY(t:Test)(v:aH)(cs:List bQ)(row:List aH)(ht:zm t)(hk6:1<=t.kind/\t.kind<=6)(qA:cs.length<=2 ^ 60)(hr:row.length<=2 ^ 40)(hrow:∀ w ∈ row,og w): aF aD 168 [bS t,bD v,aY cs,aL row] (CM (kH cs row v t)):=by
 have gA:=lp (cs:=cs) hrow ht.1.1;have gB:=lp (cs:=cs) hrow ht.2.1;rw[adt v t gA gB];have cP:=Jy t
 have hps:(oW t).length<=2/\ ∀ x ∈ oW t,aF aD 73 [aJ x,aY cs,aL row] (vT (gN x cs row))/\(gN x cs row).good:=by
  have a:=EB t.a cs row ht.1.1 (by have:=ht.1.2;omega) qA hr hrow;have b:=EB t.b cs row ht.2.1 (by have:=ht.2.2;omega) qA hr hrow;unfold oW;split
  ·exact⟨by simp,fun x hx=>by rcases List.mem_cons.1 hx with rfl|hx;exact⟨a,gA⟩;rcases List.mem_cons.1 hx with rfl|hx;exact⟨b,gB⟩;cases hx⟩
  ·exact⟨by simp,fun x hx=>by rcases List.mem_cons.1 hx with rfl|hx;exact⟨a,gA⟩;cases hx⟩
 have hT:(oW t).length=if t.kind=6 then 2 else 1:=by unfold oW;split<;>rfl
 obtain⟨Ds,dI⟩:=hps;have hf:=fun x=>Ef t v.kind x;have IE:=fun a b ha hb h6=>Sn t v a b ha hb h6 hk6;clear gA gB ht hk6 hrow;generalize oW t=ps at *;obtain⟨R,hR⟩:∃ R,fO cs row ps []=R:=⟨_,rfl⟩;rw[hR];obtain⟨E,hE⟩:∃ E,HR t v R=E:=⟨_,rfl⟩;rw[hE];simp only[bS,cH,aY,aL,c9 v]at cP hf IE ⊢;refine aK Rx ?_;intro Q aq au aA;repeat' first|refine ak ?_|refine aj ?_ ?_<;>intro hw<;>try omega|fail
 with_reducible refine aX [8,9,10,12,13,14,20,21,22,23,24,25,26,27,28,29,30,31,32,33,34,35,36,37,38] (fun q:List aH × List bE=>[(10,.own EV 2 q.1.length 0 q.1.length),(20,I q.1.length)]) (fun q=> .cells [I t.kind,I t.a.op,I t.a.v.kind,I t.a.v.n,.str t.a.v.s,.str t.a.s,.aG false EX (t.a.l.map aJ),I t.b.op,I t.b.v.kind,I t.b.v.n,.str t.b.v.s,.str t.b.s,.aG false EX (t.b.l.map aJ),.bool t.lo,.bool t.hi]:: .cells [I v.kind,I v.n,.str v.s]:: .vec EV (q.1.map bD)::q.2) (fun q=>q.1.length<=ps.length/\(∀ w ∈ q.1,fC w)/\fO cs row (ps.drop q.1.length) q.1=R) (fun q=>ps.length-q.1.length) ([],[]) ?_ ?_ ?_ ?_
 ·exact⟨by simp,by simp,by simpa using hR⟩
 ·rfl
 ·exact at_
 rintro⟨L,τ⟩ r ⟨h1,h2,h3⟩;dsimp only at h1 h2 h3;clear hR;by_cases hi:L.length<ps.length
 ·have hx:=dI _ (aO hi);rw[fZ hi]at h3;obtain⟨x,hx0⟩:∃ x,ps.getD L.length default=x:=⟨_,rfl⟩;rw[hx0]at hx h3;obtain⟨cA,gA⟩:=hx;simp only[fO]at h3;generalize gN x cs row=ra at *;rw[aU]at cA;simp only[aY,aL]at cA;cases ra with
  | err e =>
    have he:=mE gA;rw[lV]at cA;dsimp only at h3;simp only[c9]at cA;have Qz:E=(false,e):=by rw[<-hE,<-h3];unfold HR;exact if_pos he
    repeat' first|simp (disch:=omega) only[go_sem,aq,au,aA,hx0]|refine ak ?_|refine aj ?_ ?_<;>intro hw<;>try omega|fail
    all_goals first|exact jM Qz|exact aP|skip
  | ok a =>
    rw[qX]at cA;dsimp only at h3;simp only[c9]at cA;repeat' first|simp (disch:=omega) only[go_sem,aq,au,aA,hx0]|refine ak ?_|refine aj ?_ ?_<;>intro hw<;>try omega|fail
    all_goals first
     | (refine ⟨(L ++ [a], τ ++ [.cells [I x.op, I x.v.kind, I x.v.n, .str x.v.s, .str x.s, .aG false EX (x.l.map aJ)]] ++ [.cells [I a.kind, I a.n, .str a.s]]), ⟨by dsimp only; simp only [List.length_append, List.length_cons, List.length_nil]; omega, fun w hw => ?_, by dsimp only; simp only [List.length_append, List.length_cons, List.length_nil]; exact h3⟩, by dsimp only; simp only [List.length_append, List.length_cons, List.length_nil]; omega, by simp [go_sem], bK, at_⟩
        rcases List.mem_append.1 hw with hw|hw
        ·exact h2 w hw
        ·rcases List.mem_cons.1 hw with rfl|hw
         ·exact gA
         ·cases hw)
     | exact aP
     | skip
 ·rw[a_ (by omega)]at h3;have hlen:L.length=ps.length:=by omega
  have h3:R=(L,0):=h3.symm;rw[h3,LB]at hE
  have hL2:L=yY t (L.getD 0 default) (L.getD (L.length-1) default):=by
   rw[hT]at hlen;unfold yY;by_cases h6:t.kind=6
   ·rw[if_pos h6]at hlen ⊢
    match L,hlen with
    | [a,b],_=>rfl
   ·rw[if_neg h6]at hlen ⊢
    match L,hlen with
    | [a],_=>rfl
  have XJ:0<L.length:=by rw[hlen,hT];split<;>omega
  have cp:=IE (L.getD 0 default) (L.getD (L.length-1) default) (h2 _ (aO (by omega))).1 (h2 _ (aO (by omega))).1 (fun h6=>by
   have:L.length=1:=by rw[hlen,hT,if_neg h6]
   rw[this])
  rw[<-hL2]at cp;generalize mP t v (L.getD 0 default) (L.getD (L.length-1) default)=B at *
  have hno:∀ i,i<L.length->kE t v.kind (L.getD i default).kind=false->E=(false,14):=fun i hi h=>by
   rw[<-hE,zw hi h];rfl
  have hyes:(∀ i,i<L.length->kE t v.kind (L.getD i default).kind=true)->E=(B,0):=fun h=>by
   rw[<-hE,zx h];rfl
  clear hE dI IE hL2 h3 hT;repeat' first|refine ak ?_|refine aj ?_ ?_<;>intro hw<;>try omega|fail
  with_reducible refine aX [8,9,16,41,42,43,44,45,46,47,48,49,50,51,52] (fun q:Nat × List bE=>[(41,I q.1)]) (fun q=> .cells [I t.kind,I t.a.op,I t.a.v.kind,I t.a.v.n,.str t.a.v.s,.str t.a.s,.aG false EX (t.a.l.map aJ),I t.b.op,I t.b.v.kind,I t.b.v.n,.str t.b.v.s,.str t.b.s,.aG false EX (t.b.l.map aJ),.bool t.lo,.bool t.hi]:: .cells [I v.kind,I v.n,.str v.s]:: .vec EV (L.map bD)::q.2) (fun q=>q.1<=L.length/\ ∀ k,k<q.1->kE t v.kind (L.getD k default).kind=true) (fun q=>L.length-q.1) (0,τ) ?_ ?_ ?_ ?_
  ·simp
  ·rfl
  ·exact at_
  rintro⟨i,kr⟩ r' ⟨g1,g2⟩;dsimp only at g1 g2;by_cases hi:i<L.length
  ·have f:=hf (L.getD i default).kind;have hn:=hno i hi;have dD:=bx (q:=fun k=>kE t v.kind (L.getD k default).kind=true) g2 (i:=i);obtain⟨w,lf⟩:∃ w,L.getD i default=w:=⟨_,rfl⟩;rw[lf]at f hn dD;clear hno hyes hf;cases hb:kE t v.kind w.kind with
   | false =>
     rw[hb]at f;have hn:=hn hb;clear dD;repeat' first|simp (disch:=omega) only[go_sem,aq,au,aA,lf]|refine ak ?_|refine aj ?_ ?_<;>intro hw<;>try omega|fail
     all_goals first|exact jM hn|exact aP|skip
   | true =>
     rw[hb]at f;have dD:=dD hb;clear hn;repeat' first|simp (disch:=omega) only[go_sem,aq,au,aA,lf]|refine ak ?_|refine aj ?_ ?_<;>intro hw<;>try omega|fail
     all_goals first
      |(refine⟨(i+1,kr++[.cells [I w.kind,I w.n,.str w.s]]),⟨by dsimp only;omega,dD⟩,by dsimp only;omega,by first|rfl|(simp[go_sem];done),bK,at_⟩)
      | exact aP
      | skip
  ·have hE:=hyes fun k hk=>g2 k (by omega);clear hno hyes hf;repeat' first|refine ak ?_|refine Cx cp ?_|refine aj ?_ ?_<;>intro hw<;>try omega|fail
   all_goals first|exact jM hE|exact aP|skip
def Vm{c:Cell}{t:Test}(h:gW c=true)(ht:t ∈ c.tests): 1<=t.kind/\t.kind<=6:=by
 unfold gW at h;split at h
 ·simp only[aC,decide_eq_true_eq]at h;rw[List.length_eq_zero_iff.1 h.2]at ht;cases ht
 ·simp only[aC,cy,List.any_eq_false]at h;have:=h.2 t ht;simp only[cy,Bool.not_eq_false]at this;unfold mM at this;split at this
  ·omega
  ·simp only[aC,decide_eq_true_eq]at this;omega
def Vn(c:Cell)(v:aH)(cs:List bQ)(row:List aH)(hc:pI c)(hv:og v)(qA:cs.length<=2 ^ 60)(hr:row.length<=2 ^ 40)(hrow:∀ w ∈ row,og w): aF aD 116 [bY c,bD v,aY cs,aL row] (CM (lD c v cs row)):=by
 have c1:=ZX c v cs row hc hv qA hr hrow;by_cases h1:HQ c v cs row=true
 case neg =>
  rw[if_neg h1]at c1;rw[JT (by unfold HQ at h1;simpa[Bool.and_eq_true,and_assoc]using h1)];simp only[bY,gG,c9 v,aY,aL]at c1 ⊢;refine aK Cu ?_;intro Q aq au aA;repeat' first|refine ak ?_|refine cW c1 ?_|refine aj ?_ ?_<;>intro hw<;>try omega|fail
  all_goals first|exact jM rfl|exact aP|skip
 rw[if_pos h1]at c1;have h2:gW c=true/\bp v=true/\cs.length=row.length/\qw row=true:=by unfold HQ at h1;simpa[Bool.and_eq_true,and_assoc]using h1
 rw[Gm h2.1 h2.2.1 h2.2.2.1 h2.2.2.2]
 have hA:∀ k,k<c.tests.length->aF aD 168 [bS (c.tests.getD k default),bD v,aY cs,aL row] (CM (kH cs row v (c.tests.getD k default))):=fun k hk=>by
  have ht:=hc.2 _ (aO hk);exact ZY _ v cs row ht (Vm h2.1 (aO hk)) qA hr hrow
 have hlen:=hc.1;clear hc hrow h1 h2;obtain⟨any,neg,L⟩:=c;dsimp only at *;obtain⟨R,hR⟩:∃ R,oh cs row v any neg L=R:=⟨_,rfl⟩;rw[hR];simp only[bY,gG,aY,aL,c9 v]at c1 hA ⊢;refine aK Cu ?_;intro Q aq au aA;repeat' first|refine ak ?_|refine cW c1 ?_|refine aj ?_ ?_<;>intro hw<;>try omega|fail
 with_reducible refine aX [8,9,12,13,14,26,27,28,29,30,31,32,33,34,35,36,37,38,39,40,41,42,43,44,45,46,47] (fun q:Nat × List bE=>[(26,I q.1)]) (fun q=> .cells [.bool any,.bool neg,.aG false ES (L.map bS)]:: .cells [I v.kind,I v.n,.str v.s]::q.2) (fun q=>q.1<=L.length/\oh cs row v any neg (L.drop q.1)=R) (fun q=>L.length-q.1) (0,[]) ?_ ?_ ?_ ?_
 ·exact⟨by simp,by rw[e8];exact hR⟩
 ·rfl
 ·exact at_
 rintro⟨i,τ⟩ r ⟨g1,g2⟩;dsimp only at g1 g2;clear hR;by_cases hi:i<L.length
 ·have cA:=hA i hi;clear hA;rw[fZ hi]at g2;obtain⟨t,ht⟩:∃ t,L.getD i default=t:=⟨_,rfl⟩;rw[ht]at cA g2;have hT:(if(kH cs row v t).2≠0 then(false,(kH cs row v t).2)else if(kH cs row v t).1=true then(!neg,0)else oh cs row v any neg (L.drop (i+1)))=R:=g2;clear g2;generalize kH cs row v t=p at *;obtain⟨p1,p2⟩:=p;dsimp only at hT;simp only[bS,cH,CM]at cA;by_cases he:p2=0
  ·subst he;rw[if_neg (by decide)]at hT;cases p1 with
   | true =>
     rw[if_pos rfl]at hT;repeat' first|simp (disch:=omega) only[go_sem,aq,au,aA,ht]|refine ak ?_|refine cW cA ?_|refine aj ?_ ?_<;>intro hw<;>try omega|fail
     all_goals first|exact jM hT.symm|exact aP|skip
   | false =>
     rw[if_neg (by decide)]at hT;repeat' first|simp (disch:=omega) only[go_sem,aq,au,aA,ht]|refine ak ?_|refine cW cA ?_|refine aj ?_ ?_<;>intro hw<;>try omega|fail
     all_goals first
      |(refine⟨(i+1,τ++[.cells [I t.kind,I t.a.op,I t.a.v.kind,I t.a.v.n,.str t.a.v.s,.str t.a.s,.aG false EX (t.a.l.map aJ),I t.b.op,I t.b.v.kind,I t.b.v.n,.str t.b.v.s,.str t.b.s,.aG false EX (t.b.l.map aJ),.bool t.lo,.bool t.hi]]),⟨by dsimp only;omega,hT⟩,by dsimp only;omega,by first|rfl|(simp[go_sem];done),bK,at_⟩)
      | exact aP
      | skip
  ·rw[if_pos he]at hT;repeat' first|simp (disch:=omega) only[go_sem,aq,au,aA,ht]|refine ak ?_|refine cW cA ?_|refine aj ?_ ?_<;>intro hw<;>try omega|fail
   all_goals first|exact jM hT.symm|exact aP|skip
 ·rw[a_ (by omega)]at g2;have g2:(any || neg,0)=R:=g2;repeat' first|refine ak ?_|refine aj ?_ ?_<;>intro hw<;>try omega|fail
  all_goals first
   | exact jM (g2.symm.trans (by simp_all))
   | exact aP
   | skip
def sA(ins:List bQ)(row:List aH)(i:Nat): Bool:=bp (row.getD i default) && bI (row.getD i default).kind (ins.getD i default).kind
def MP{ins:List bQ}{row:List aH}{i:Nat}(hi:i<row.length)(h:sA ins row i=false): kJ ins row=false:=by
 unfold kJ;rw[Bool.and_eq_false_iff];refine .inr ?_;rw[List.all_eq_false];exact⟨i,List.mem_range.2 hi,by unfold sA at h;simpa using h⟩
def JU{ins:List bQ}{row:List aH}(hl:row.length=ins.length)(h:∀ k,k<row.length->sA ins row k=true): kJ ins row=true:=by
 unfold kJ;rw[aC];exact⟨decide_eq_true hl,bg.2 fun k hk=>h k (gj.1 hk)⟩
def uh(ins:List bQ)(row:List aH): Int:=if kJ ins row then 0 else 21
def TP{ins:List bQ}{row:List aH}(h:row.length≠ins.length): uh ins row=21:=by
 unfold uh kJ;rw[decide_eq_false h];rfl
def XK(r:Ready)(row:List aH)(hr:row.length<=2 ^ 40)(hrow:∀ w ∈ row,og w): aF aD 71 [iZ r,aL row] (I (uh r.table.ins row)):=by
 have cv:=fun k (hk:k<row.length)=>(show aF aD 115 [.agg [I (row.getD k default).kind,I (row.getD k default).n,.str (row.getD k default).s]] (I (iz (bp (row.getD k default)))) from jT _ _ _ (hrow _ (aO hk)).1.1 (hrow _ (aO hk)).1.2);clear hrow;by_cases hl:row.length=r.table.ins.length
 case neg =>
  rw[TP hl];simp only[iZ,aY,dy,l9,aL];refine aK DE ?_;intro Q aq au aA;repeat' first|refine ak ?_|refine aj ?_ ?_<;>intro hw<;>try omega|fail
  all_goals first|exact lq rfl|exact aP|skip
 obtain⟨R,hR⟩:∃ R,uh r.table.ins row=R:=⟨_,rfl⟩;rw[hR];have hno:∀ i,i<row.length->sA r.table.ins row i=false->R=21:=fun i hi h=>by rw[<-hR];unfold uh;rw[MP hi h];rfl
 have hyes:(∀ k,k<row.length->sA r.table.ins row k=true)->R=0:=fun h=>by rw[<-hR];unfold uh;rw[JU hl h];rfl
 clear hR;simp only[iZ,aY,dy,l9,aL];refine aK DE ?_;intro Q aq au aA;repeat' first|refine ak ?_|refine aj ?_ ?_<;>intro hw<;>try omega|fail
 with_reducible refine aX [4,5,6,16,17,18,19,20,21,22,23,24,25,26,27,28,29,30,31,32,33,34,35,36,37] (fun q:Nat × List bE=>[(16,I q.1)]) (fun q=> .cells [.str r.table.name,.aG false EC (r.table.ins.map bW),.aG false EC (r.table.outs.map bW),I r.table.bu,I r.table.agg,.aG false ER (r.table.rules.map dN),.aG false ER (r.lines.map jb)]::q.2) (fun q=>q.1<=row.length/\ ∀ k,k<q.1->sA r.table.ins row k=true) (fun q=>row.length-q.1) (0,[]) ?_ ?_ ?_ ?_
 ·simp
 ·rfl
 ·exact at_
 rintro⟨i,τ⟩ u ⟨g1,g2⟩;dsimp only at g1 g2;by_cases hi:i<row.length
 ·have c1:=cv i hi;have hn:=hno i hi;have dD:=bx (q:=fun k=>sA r.table.ins row k=true) g2 (i:=i);have hf:sA r.table.ins row i=(bp (row.getD i default) && bI (row.getD i default).kind (r.table.ins.getD i default).kind):=rfl;have c2:=nU (row.getD i default).kind (r.table.ins.getD i default).kind;obtain⟨w,lf⟩:∃ w,row.getD i default=w:=⟨_,rfl⟩;obtain⟨c,hc0⟩:∃ c,r.table.ins.getD i default=c:=⟨_,rfl⟩;rw[lf]at c1;rw[lf,hc0]at hf c2;generalize bp w=b1 at *;generalize bI w.kind c.kind=b2 at *;clear cv hno hyes;cases b1 with
  | false =>
    have hn:=hn (by rw[hf];rfl);clear dD;have z:iz false=2:=rfl;rw[z]at c1;repeat' first|simp (disch:=omega) only[go_sem,aq,au,aA,lf,hc0]|refine ak ?_|refine aj ?_ ?_<;>intro hw<;>try omega|fail
    all_goals first|exact lq hn|exact aP|skip
  | true =>
    have z:iz true=0:=rfl;rw[z]at c1;cases b2 with
    | false =>
      have hn:=hn (by rw[hf];rfl);clear dD;repeat' first|simp (disch:=omega) only[go_sem,aq,au,aA,lf,hc0]|refine ak ?_|refine aj ?_ ?_<;>intro hw<;>try omega|fail
      all_goals first|exact lq hn|exact aP|skip
    | true =>
      have dD:=dD (by show sA r.table.ins row i=true;rw[hf];rfl);clear hn;repeat' first|simp (disch:=omega) only[go_sem,aq,au,aA,lf,hc0]|refine ak ?_|refine aj ?_ ?_<;>intro hw<;>try omega|fail
      all_goals first
       |(refine⟨(i+1,τ++[.cells [I w.kind,I w.n,.str w.s]]),⟨by dsimp only;omega,dD⟩,by dsimp only;omega,by first|rfl|(simp[go_sem];done),bK,at_⟩)
       | exact aP
       | skip
 ·have:=hyes fun k hk=>g2 k (by omega);repeat' first|refine ak ?_|refine aj ?_ ?_<;>intro hw<;>try omega|fail
  all_goals first|exact lq this|exact aP|skip
def So(r:Ready)(row:List aH)(hr:row.length<=2 ^ 40)(hrow:∀ w ∈ row,og w): aF aD 89 [iZ r,aL row] (I (uh r.table.ins row)):=by
 have cv:=fun k (hk:k<row.length)=>(show aF aD 145 [.agg [I (row.getD k default).kind,I (row.getD k default).n,.str (row.getD k default).s]] (.bool (bp (row.getD k default))) from pB _ _ _ (by have:=(hrow _ (aO hk)).2;omega));clear hrow;by_cases hl:row.length=r.table.ins.length
 case neg =>
  rw[TP hl];simp only[iZ,aY,dy,l9,aL];refine aK zW ?_;intro Q aq au aA;repeat' first|refine ak ?_|refine aj ?_ ?_<;>intro hw<;>try omega|fail
  all_goals first|exact lq rfl|exact aP|skip
 obtain⟨R,hR⟩:∃ R,uh r.table.ins row=R:=⟨_,rfl⟩;rw[hR];have hno:∀ i,i<row.length->sA r.table.ins row i=false->R=21:=fun i hi h=>by rw[<-hR];unfold uh;rw[MP hi h];rfl
 have hyes:(∀ k,k<row.length->sA r.table.ins row k=true)->R=0:=fun h=>by rw[<-hR];unfold uh;rw[JU hl h];rfl
 clear hR;simp only[iZ,aY,dy,l9,aL];refine aK zW ?_;intro Q aq au aA;repeat' first|refine ak ?_|refine aj ?_ ?_<;>intro hw<;>try omega|fail
 with_reducible refine aX [4,5,13,14,15,16,17,18,19,20,21,22,23,24,25,26,27,28,29,30,31,32,33,34,35,36,37,38,39,40] (fun q:Nat=>[(5,I q)]) (fun q=>[.cells [.str r.table.name,.aG false EC (r.table.ins.map bW),.aG false EC (r.table.outs.map bW),I r.table.bu,I r.table.agg,.aG false ER (r.table.rules.map dN),.aG false ER (r.lines.map jb)]]) (fun q=>q<=row.length/\ ∀ k,k<q->sA r.table.ins row k=true) (fun q=>row.length-q) 0 ?_ ?_ ?_ ?_
 ·simp
 ·rfl
 ·exact at_
 rintro i u ⟨g1,g2⟩;by_cases hi:i<row.length
 ·have c1:=cv i hi;have hn:=hno i hi;have dD:=bx (q:=fun k=>sA r.table.ins row k=true) g2 (i:=i);have hf:sA r.table.ins row i=(bp (row.getD i default) && bI (row.getD i default).kind (r.table.ins.getD i default).kind):=rfl;have c2:=jI (row.getD i default).kind (r.table.ins.getD i default).kind;obtain⟨w,lf⟩:∃ w,row.getD i default=w:=⟨_,rfl⟩;obtain⟨c,hc0⟩:∃ c,r.table.ins.getD i default=c:=⟨_,rfl⟩;rw[lf]at c1;rw[lf,hc0]at hf c2;generalize bp w=b1 at *;generalize bI w.kind c.kind=b2 at *;clear cv hno hyes;cases b1 with
  | false =>
    have hn:=hn (by rw[hf];rfl);clear dD;repeat' first|simp (disch:=omega) only[go_sem,aq,au,aA,lf,hc0]|refine ak ?_|refine aj ?_ ?_<;>intro hw<;>try omega|fail
    all_goals first|exact lq hn|exact aP|skip
  | true =>
    cases b2 with
    | false =>
      have hn:=hn (by rw[hf];rfl);clear dD;repeat' first|simp (disch:=omega) only[go_sem,aq,au,aA,lf,hc0]|refine ak ?_|refine aj ?_ ?_<;>intro hw<;>try omega|fail
      all_goals first|exact lq hn|exact aP|skip
    | true =>
      have dD:=dD (by show sA r.table.ins row i=true;rw[hf];rfl);clear hn;repeat' first|simp (disch:=omega) only[go_sem,aq,au,aA,lf,hc0]|refine ak ?_|refine aj ?_ ?_<;>intro hw<;>try omega|fail
      all_goals first
       | (refine ⟨i + 1, ?_, ?_, by first | rfl | (simp [go_sem]; done), bK, at_⟩ <;> (try dsimp only)
          ·exact⟨by omega,dD⟩
          ·omega)
       | exact aP
       | skip
 ·have:=hyes fun k hk=>g2 k (by omega);repeat' first|refine ak ?_|refine aj ?_ ?_<;>intro hw<;>try omega|fail
  all_goals first|exact lq this|exact aP|skip
def lG(n:Int): AV:=I n
def cJ(l:List Int): AV:= .aG false E1 (l.map lG)
@[simp] def agq (n:Int):(lG n).cQ=true:=rfl
def MQ(l:List Int): (cJ l).cQ=true:=by simp only[cJ,AV.cQ];exact gk _ _ (fun _=>rfl)
def abE(l:List Int): AV.bG (l.map lG)=true:=gk _ _ (fun _=>rfl)
attribute [simp] MQ abE
attribute [go_sem] lG
structure B0 (r:Ready):Prop where
 ins:r.table.ins.length<=2 ^ 30
 outs:r.table.outs.length<=2 ^ 30
 lines:r.lines.length<=24
 line:∀ l ∈ r.lines,(l.cells.length=r.table.ins.length/\ ∀ c ∈ l.cells,pI c)/\l.outs.length=r.table.outs.length/\ ∀ x ∈ l.outs,iG x/\fE x<=2 ^ 30
def nN(row:List aH): Prop:=row.length<=2 ^ 30/\ ∀ w ∈ row,og w
def zy(cs:List bQ)(row:List aH)(c:Cell)(r:List Cell)(k:Nat): kI cs row (c::r) k=if(lD c (row.getD k default) cs row).2≠0\/(lD c (row.getD k default) cs row).1=false then(false,(lD c (row.getD k default) cs row).2)else kI cs row r (k+1):=rfl
def XL(r:Ready)(hr:B0 r)(row:List aH)(hrow:nN row)(j:Nat)(hj:j<r.lines.length)(hl:r.table.ins.length<=row.length): aF aD 72 [iZ r,I j,aL row] (CM (kI r.table.ins row (r.lines.getD j default).cells 0)):=by
 have vB:=(hr.line _ (aO hj)).1;obtain⟨ln,adu⟩:∃ ln,r.lines.getD j default=ln:=⟨_,rfl⟩;rw[adu]at vB ⊢;obtain⟨L,hL⟩:∃ L,ln.cells=L:=⟨_,rfl⟩;rw[hL]at vB ⊢;have hA:=fun k (hk:k<L.length)=>Vn (L.getD k default) (row.getD k default) r.table.ins row (vB.2 _ (aO hk)) (hrow.2 _ (aO (by omega))) (by have:=hr.ins;omega) (by have:=hrow.1;omega) hrow.2;have hlen:L.length<=row.length:=by omega
 have ahy:L.length<=2 ^ 30:=by have:=hr.ins;omega
 have Eb:=hrow.1;clear vB hrow hr hl;obtain⟨R,hR⟩:∃ R,kI r.table.ins row L 0=R:=⟨_,rfl⟩;rw[hR];simp only[iZ,aY,dy,l9,aL]at hA ⊢;refine aK Pk ?_;intro Q aq au aA;repeat' first|simp (disch:=omega) only[go_sem,aq,au,aA,adu,hL]|refine ak ?_|refine aj ?_ ?_<;>intro hw<;>try omega|fail
 with_reducible refine aX [6,7,8,9,10,11,19,20,21,22,23,24,25,26,27,28,29,30,31,32,33,34,35,36,37,38,39,40,41,42,43,44] (fun q:Nat × List bE=>[(19,I q.1)]) (fun q=> .cells [.str r.table.name,.aG false EC (r.table.ins.map bW),.aG false EC (r.table.outs.map bW),I r.table.bu,I r.table.agg,.aG false ER (r.table.rules.map dN),.aG false ER (r.lines.map jb)]::q.2) (fun q=>q.1<=L.length/\kI r.table.ins row (L.drop q.1) q.1=R) (fun q=>L.length-q.1) (0,[]) ?_ ?_ ?_ ?_
 ·exact⟨by simp,by rw[e8];exact hR⟩
 ·rfl
 ·exact at_
 rintro⟨i,τ⟩ u ⟨g1,g2⟩;dsimp only at g1 g2;clear hR;by_cases hi:i<L.length
 ·have cA:=hA i hi;clear hA;rw[fZ hi,zy]at g2;obtain⟨c,hc0⟩:∃ c,L.getD i default=c:=⟨_,rfl⟩;obtain⟨w,lf⟩:∃ w,row.getD i default=w:=⟨_,rfl⟩;rw[hc0,lf]at g2 cA;generalize lD c w r.table.ins row=p at *;obtain⟨p1,p2⟩:=p;dsimp only at g2;simp only[bY,gG,c9,CM]at cA;by_cases he:p2=0
  ·subst he;cases p1 with
   | true =>
     rw[if_neg (by simp)]at g2;repeat' first|simp (disch:=omega) only[go_sem,aq,au,aA,hc0,lf]|refine ak ?_|refine aj ?_ ?_<;>intro hw<;>try omega|fail
     all_goals first
      |(refine⟨(i+1,τ++[.cells [.bool c.any,.bool c.neg,.aG false ES (c.tests.map bS)]]),⟨by dsimp only;omega,g2⟩,by dsimp only;omega,by first|rfl|(simp[go_sem];done),bK,at_⟩)
      | exact aP
      | skip
   | false =>
     rw[if_pos (by simp)]at g2;repeat' first|simp (disch:=omega) only[go_sem,aq,au,aA,hc0,lf]|refine ak ?_|refine aj ?_ ?_<;>intro hw<;>try omega|fail
     all_goals first|exact jM g2.symm|exact aP|skip
  ·rw[if_pos (.inl he)]at g2;repeat' first|simp (disch:=omega) only[go_sem,aq,au,aA,hc0,lf]|refine ak ?_|refine aj ?_ ?_<;>intro hw<;>try omega|fail
   all_goals first|exact jM g2.symm|exact aP|skip
 ·rw[a_ (by omega)]at g2;have g2:(true,0)=R:=g2;repeat' first|refine ak ?_|refine aj ?_ ?_<;>intro hw<;>try omega|fail
  all_goals first|exact jM g2.symm|exact aP|skip
def Vo(ln:pG)(cs:List bQ)(qA:cs.length<=2 ^ 60)(row:List aH)(hrow:nN row)(hl:ln.cells.length<=row.length)(hc:∀ c ∈ ln.cells,pI c): aF aD 90 [jb ln,aY cs,aL row] (CM (kI cs row ln.cells 0)):=by
 obtain⟨L,xs⟩:=ln;dsimp only at hl hc ⊢;have hA:=fun k (hk:k<L.length)=>Sm (L.getD k default) (row.getD k default) cs row (hc _ (aO hk)) (hrow.2 _ (aO (by omega))) qA (by have:=hrow.1;omega) hrow.2;have Eb:=hrow.1;clear hc hrow;obtain⟨R,hR⟩:∃ R,kI cs row L 0=R:=⟨_,rfl⟩;rw[hR];simp only[jb,nG,cH,aY,aL]at hA ⊢;refine aK Nw ?_;intro Q aq au aA;repeat' first|refine ak ?_|refine aj ?_ ?_<;>intro hw<;>try omega|fail
 with_reducible refine aX [6,7,8,9,10,11,12,13,14,15,16,17,18,19,20,21,22,23,24,25,26,27,28,29,30,31,32,33,34,35,36,37,38,39] (fun q:Nat=>[(8,I q)]) (fun q=>[.cells [.aG false EC (L.map bY),.aG false EX (xs.map aJ)]]) (fun q=>q<=L.length/\kI cs row (L.drop q) q=R) (fun q=>L.length-q) 0 ?_ ?_ ?_ ?_
 ·exact⟨by simp,by rw[e8];exact hR⟩
 ·rfl
 ·exact at_
 rintro i u ⟨g1,g2⟩;clear hR;by_cases hi:i<L.length
 ·have cA:=hA i hi;clear hA;rw[fZ hi,zy]at g2;obtain⟨c,hc0⟩:∃ c,L.getD i default=c:=⟨_,rfl⟩;obtain⟨w,lf⟩:∃ w,row.getD i default=w:=⟨_,rfl⟩;rw[hc0,lf]at g2 cA;generalize lD c w cs row=p at *;obtain⟨p1,p2⟩:=p;dsimp only at g2;simp only[bY,gG,c9,CM]at cA;by_cases he:p2=0
  ·subst he;cases p1 with
   | true =>
     rw[if_neg (by simp)]at g2;repeat' first|simp (disch:=omega) only[go_sem,aq,au,aA,hc0,lf]|refine ak ?_|refine aj ?_ ?_<;>intro hw<;>try omega|fail
     all_goals first
      | (refine ⟨i + 1, ?_, ?_, by first | rfl | (simp [go_sem]; done), bK, at_⟩ <;> (try dsimp only)
         ·exact⟨by omega,g2⟩
         ·omega)
      | exact aP
      | skip
   | false =>
     rw[if_pos (by simp)]at g2;repeat' first|simp (disch:=omega) only[go_sem,aq,au,aA,hc0,lf]|refine ak ?_|refine aj ?_ ?_<;>intro hw<;>try omega|fail
     all_goals first|exact jM g2.symm|exact aP|skip
  ·rw[if_pos (.inl he)]at g2;repeat' first|simp (disch:=omega) only[go_sem,aq,au,aA,hc0,lf]|refine ak ?_|refine aj ?_ ?_<;>intro hw<;>try omega|fail
   all_goals first|exact jM g2.symm|exact aP|skip
 ·rw[a_ (by omega)]at g2;have g2:(true,0)=R:=g2;repeat' first|refine ak ?_|refine aj ?_ ?_<;>intro hw<;>try omega|fail
  all_goals first|exact jM g2.symm|exact aP|skip
def XM(p:List Int × Int × Int): AV:= .bJ [cJ p.1,I p.2.1,I p.2.2]
def vC{σ : ae}{v:AV}{l:List Int}{n e:Int}{p:List Int × Int × Int}(h:p=(l,n,e))(hv:View σ v (cJ l)): ∃ r0,Out.ret (oneOf [v,I n,I e])=Out.ret r0/\View σ r0 (XM p):=by
 subst h;exact cN (.cons hv (.cons (.refl _ rfl) (.cons (.refl _ rfl) (.nil _))))
def jg{σ : ae}{f:Bool}{l:List Int}: View σ (.aG f E1 (l.map lG)) (cJ l):=View.weak _ _ _ (by simp)
def mq{σ : ae}{f:Bool}{n:Int}: View σ (.aG f E1 [I n]) (cJ [n]):=View.weak _ _ _ (by simp)
def zz (Ek : Int) (cs : List bQ) (row : List aH) (l : pG) (r : List pG) (k : Nat) (acc : List Int) : oX Ek cs row (l :: r) k acc = if (kI cs row l.cells 0).2 ≠ 0 then ([], (k : Int), (kI cs row l.cells 0).2)
    else if(kI cs row l.cells 0).1 then(if Ek=2 then([(k:Int)],0,0)else oX Ek cs row r (k+1) (acc++[(k:Int)]))
    else oX Ek cs row r (k+1) acc:=rfl
def B4{ins:List bQ}{row:List aH}(h:kJ ins row=true): row.length=ins.length:=by
 unfold kJ at h;rw[aC,decide_eq_true_eq]at h;exact h.1
def XO(r:Ready)(hr:B0 r)(row:List aH)(hrow:nN row): aF aD 40 [iZ r,aL row] (XM (cZ r row)):=by
 have c1:=XK r row (by have:=hrow.1;omega) hrow.2;unfold cZ;cases hin:kJ r.table.ins row with
 | false =>
   have:uh r.table.ins row=21:=by unfold uh;rw[hin];rfl
   rw[this]at c1;rw[if_neg (by decide)];simp only[iZ,aY,dy,l9,aL]at c1 ⊢;refine aK DC ?_;intro Q aq au aA;repeat' first|refine ak ?_|refine cW c1 ?_|refine aj ?_ ?_<;>intro hw<;>try omega|fail
   all_goals first|exact vC rfl (.ai _)|exact aP|skip
 | true =>
 have:uh r.table.ins row=0:=by unfold uh;rw[hin];rfl
 rw[this]at c1;rw[if_pos rfl];clear this;have hin:=B4 hin;have cA:=fun j hj=>XL r hr row hrow j hj (by omega);have h24:=hr.lines;clear hr hrow hin;obtain⟨R,hR⟩:∃ R,oX r.table.bu r.table.ins row r.lines 0 []=R:=⟨_,rfl⟩;rw[hR];simp only[iZ,aY,dy,l9,aL]at c1 cA ⊢;refine aK DC ?_;intro Q aq au aA;repeat' first|refine ak ?_|refine cW c1 ?_|refine aj ?_ ?_<;>intro hw<;>try omega|fail
 with_reducible refine aX [4,5,6,8,9,10,11,21,22,23,24,25,26,27,28,29,30,31,32,33,34,35,36,37,38,39,40,41,42,43,44,45,46,47,48,49,50,51,52] (fun q:Nat × List Int=>[(21,I q.1),(8,.own E1 1 q.2.length 0 q.2.length)]) (fun q=>[.cells [.str r.table.name,.aG false EC (r.table.ins.map bW),.aG false EC (r.table.outs.map bW),I r.table.bu,I r.table.agg,.aG false ER (r.table.rules.map dN),.aG false ER (r.lines.map jb)],.vec E1 (q.2.map lG)]) (fun q=>q.1<=r.lines.length/\q.2.length<=q.1/\oX r.table.bu r.table.ins row (r.lines.drop q.1) q.1 q.2=R) (fun q=>r.lines.length-q.1) (0,[]) ?_ ?_ ?_ ?_
 ·exact⟨by simp,by simp,by rw[e8];exact hR⟩
 ·rfl
 ·exact at_
 rintro⟨i,acc⟩ u ⟨g1,g3,g2⟩;dsimp only at g1 g2 g3;clear hR;by_cases hi:i<r.lines.length
 ·have cA:=cA i hi;rw[fZ hi,zz]at g2;generalize kI r.table.ins row (r.lines.getD i default).cells 0=p at *;obtain⟨p1,p2⟩:=p;dsimp only at g2;simp only[CM]at cA;by_cases he:p2=0
  ·subst he;rw[if_neg (by simp)]at g2;cases p1 with
   | true =>
     rw[if_pos rfl]at g2;by_cases hp:r.table.bu=2
     ·rw[if_pos hp]at g2;repeat' first|refine ak ?_|refine cW cA ?_|refine aj ?_ ?_<;>intro hw<;>try omega|fail
      all_goals first|exact vC g2.symm mq|exact aP|skip
     ·rw[if_neg hp]at g2;repeat' first|refine ak ?_|refine cW cA ?_|refine aj ?_ ?_<;>intro hw<;>try omega|fail
      all_goals first
       |(refine⟨(i+1,acc++[(i:Int)]),⟨by dsimp only;omega,by dsimp only;simp only[List.length_append,List.length_cons,List.length_nil];omega,g2⟩,by dsimp only;omega,by first|rfl|(simp[go_sem];done),bK,at_⟩)
       | exact aP
       | skip
   | false =>
     rw[if_neg (by decide)]at g2;repeat' first|refine ak ?_|refine cW cA ?_|refine aj ?_ ?_<;>intro hw<;>try omega|fail
     all_goals first
      |(refine⟨(i+1,acc),⟨by dsimp only;omega,by dsimp only;omega,g2⟩,by dsimp only;omega,by first|rfl|(simp[go_sem];done),bK,at_⟩)
      | exact aP
      | skip
  ·rw[if_pos he]at g2;repeat' first|refine ak ?_|refine cW cA ?_|refine aj ?_ ?_<;>intro hw<;>try omega|fail
   all_goals first|exact vC g2.symm (.ai _)|exact aP|skip
 ·rw[a_ (by omega)]at g2;have g2:(acc,(0:Int),(0:Int))=R:=g2;clear cA;repeat' first|refine ak ?_|refine aj ?_ ?_<;>intro hw<;>try omega|fail
  all_goals first|exact vC g2.symm (by exact xC)|exact aP|skip
def Sp(r:Ready)(hr:B0 r)(row:List aH)(hrow:nN row): aF aD 46 [iZ r,aL row] (XM (cZ r row)):=by
 have c1:=So r row (by have:=hrow.1;omega) hrow.2;unfold cZ;cases hin:kJ r.table.ins row with
 | false =>
   have:uh r.table.ins row=21:=by unfold uh;rw[hin];rfl
   rw[this]at c1;rw[if_neg (by decide)];simp only[iZ,aY,dy,l9,aL]at c1 ⊢;refine aK zU ?_;intro Q aq au aA;repeat' first|refine ak ?_|refine cW c1 ?_|refine aj ?_ ?_<;>intro hw<;>try omega|fail
   all_goals first|exact vC rfl (.ai _)|exact aP|skip
 | true =>
 have:uh r.table.ins row=0:=by unfold uh;rw[hin];rfl
 rw[this]at c1;rw[if_pos rfl];clear this;have hin:=B4 hin;have cA:=fun j (hj:j<r.lines.length)=>Vo (r.lines.getD j default) r.table.ins (by have:=hr.ins;omega) row hrow (by have:=(hr.line _ (aO hj)).1.1;omega) (hr.line _ (aO hj)).1.2;have h24:=hr.lines;clear hr hrow hin;obtain⟨R,hR⟩:∃ R,oX r.table.bu r.table.ins row r.lines 0 []=R:=⟨_,rfl⟩;rw[hR];simp only[iZ,aY,dy,l9,aL]at c1 cA ⊢;refine aK zU ?_;intro Q aq au aA;repeat' first|refine ak ?_|refine cW c1 ?_|refine aj ?_ ?_<;>intro hw<;>try omega|fail
 with_reducible refine aX [4,5,6,8,9,10,11,18,19,20,21,22,23,24,25,26,27,28,29,30,31,32,33,34,35,36,37,38,39,40,41,42,43,44,45,46,47,48,49,50,51] (fun q:Nat × List Int=>[(9,I q.1),(8,.own E1 1 q.2.length 0 q.2.length)]) (fun q=>[.cells [.str r.table.name,.aG false EC (r.table.ins.map bW),.aG false EC (r.table.outs.map bW),I r.table.bu,I r.table.agg,.aG false ER (r.table.rules.map dN),.aG false ER (r.lines.map jb)],.vec E1 (q.2.map lG)]) (fun q=>q.1<=r.lines.length/\q.2.length<=q.1/\(r.table.bu=2->q.2=[])/\oX r.table.bu r.table.ins row (r.lines.drop q.1) q.1 q.2=R) (fun q=>r.lines.length-q.1) (0,[]) ?_ ?_ ?_ ?_
 ·exact⟨by simp,by simp,by simp,by rw[e8];exact hR⟩
 ·rfl
 ·exact at_
 rintro⟨i,acc⟩ u ⟨g1,g3,g4,g2⟩;dsimp only at g1 g2 g3 g4;clear hR;by_cases hi:i<r.lines.length
 ·have cA:=cA i hi;rw[fZ hi,zz]at g2;obtain⟨ln,vB⟩:∃ ln,r.lines.getD i default=ln:=⟨_,rfl⟩;rw[vB]at g2 cA;generalize kI r.table.ins row ln.cells 0=p at *;obtain⟨p1,p2⟩:=p;dsimp only at g2;simp only[CM,jb,nG,cH]at cA;by_cases he:p2=0
  ·subst he;rw[if_neg (by simp)]at g2;cases p1 with
   | true =>
     rw[if_pos rfl]at g2;by_cases hp:r.table.bu=2
     ·rw[if_pos hp]at g2;have g4:=g4 hp;subst g4;repeat' first|simp (disch:=omega) only[go_sem,aq,au,aA,vB]|refine ak ?_|refine cW cA ?_|refine aj ?_ ?_<;>intro hw<;>try omega|fail
      all_goals first|exact vC g2.symm (by exact xC)|exact aP|skip
     ·rw[if_neg hp]at g2;repeat' first|simp (disch:=omega) only[go_sem,aq,au,aA,vB]|refine ak ?_|refine cW cA ?_|refine aj ?_ ?_<;>intro hw<;>try omega|fail
      all_goals first
       |(refine⟨(i+1,acc++[(i:Int)]),⟨by dsimp only;omega,by dsimp only;simp only[List.length_append,List.length_cons,List.length_nil];omega,fun h=>absurd h hp,g2⟩,by dsimp only;omega,by first|rfl|(simp[go_sem];done),bK,at_⟩)
       | exact aP
       | skip
   | false =>
     rw[if_neg (by decide)]at g2;repeat' first|simp (disch:=omega) only[go_sem,aq,au,aA,vB]|refine ak ?_|refine cW cA ?_|refine aj ?_ ?_<;>intro hw<;>try omega|fail
     all_goals first
      |(refine⟨(i+1,acc),⟨by dsimp only;omega,by dsimp only;omega,g4,g2⟩,by dsimp only;omega,by first|rfl|(simp[go_sem];done),bK,at_⟩)
      | exact aP
      | skip
  ·rw[if_pos he]at g2;repeat' first|simp (disch:=omega) only[go_sem,aq,au,aA,vB]|refine ak ?_|refine cW cA ?_|refine aj ?_ ?_<;>intro hw<;>try omega|fail
   all_goals first|exact vC g2.symm (.ai _)|exact aP|skip
 ·rw[a_ (by omega)]at g2;have g2:(acc,(0:Int),(0:Int))=R:=g2;clear cA;repeat' first|refine ak ?_|refine aj ?_ ?_<;>intro hw<;>try omega|fail
  all_goals first|exact vC g2.symm (by exact xC)|exact aP|skip
