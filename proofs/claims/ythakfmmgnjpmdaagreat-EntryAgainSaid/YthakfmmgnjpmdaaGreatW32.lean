/- Part. -/
import Derived.Test.YthakfmmgnjpmdaaGreatW31
set_option linter.all false
set_option maxHeartbeats 2000000
namespace Go.Proofs.YthakfmmgnjpmdaaGreat
open Go.AM
set_option maxRecDepth 4000
section
variable {P:Program}
def ZS(v:AV){K:FuncId->List AV->Prop}(_:Tg K): Prop:=match v with
 | .fn (.func n) first cap=>K n (first++cap)
 | _=>False
def adp(P:Program)(QD:FuncId->List AV->AQ)(x:AX)(rest:cY)(e:Env)(σ : ae): Prop:=ZS (x.ev e) (.mk:Tg fun n args=>iu P rest (QD n args) e σ)
def TJ(n:FuncId)(first cap:List AV)(K:FuncId->List AV->Prop): ZS (.fn (.func n) first cap) (.mk:Tg K)=K n (first++cap):=_root_.id rfl
def TK(QD:FuncId->List AV->AQ)(x:AX)(rest:cY)(e:Env)(σ : ae): adp P QD x rest e σ = ZS (x.ev e) (.mk:Tg fun n args=>iu P rest (QD n args) e σ):=_root_.id rfl
def wW(Q:AQ)(QD:FuncId->List AV->AQ)(a:cY)(d:r7)(e:Env)(σ : ae): r7.wp P Q QD (.seq a d) e σ = iu P a (mg (r7.wp P Q QD d) Q) e σ:=_root_.id rfl
def TL(Q:AQ)(QD:FuncId->List AV->AQ)(ops:List cz)(x:AX)(rest:cY)(e:Env)(σ : ae): r7.wp P Q QD (.dfr ops x rest) e σ = ef P (mg (adp P QD x rest) Q) ops e σ:=by
 show ef P (mg _ Q) ops e σ = ef P (mg _ Q) ops e σ
 congr 2
def ZU(T:TypeId)(ok:Bool)(z v:AV){K:AV->Prop}(_:Tg K): Prop:=w8 T ok z v K
@[go_sem ↓] def ahf (T:TypeId) (ok:Bool) (z:AV) (x:AX) (e:Env) (σ : ae) (K Kp:AV->ae->Prop):bA.run P (.ex (.OH T ok z) [x]) e σ K Kp=ZU T ok z (x.ev e) (.mk:Tg fun v=>K v σ):=_root_.id rfl
@[go_sem] def afb (T:TypeId) (z v:AV) (K:AV->Prop):ZU T false z (.k8 T v) (.mk:Tg K)=K v:=by simp[ZU,w8]
def eU.abA {f : FuncId} {fn : Func} {h : Hints} {df : Ow} {args : List AV} {σ : ae} {R : Out → ae → Prop} (hf : P.funcs[f]? = some fn) (hn : (fn.name == "runtime.NumGoroutine") = false) (hc : yX P h fn = some df) (hl : args.length ≤ df.nt)
    (hw : ∀ (Q : AQ) (QD : FuncId -> List AV -> AQ), (∀ e σ, Q .ret e σ = lz e σ df.results fun vs => R (.ret (oneOf vs)) σ) -> (∀ n az e σ, QD n az .ret e σ = tO P n az none σ fun σ' => lz e σ' df.results fun vs => R (.ret (oneOf vs)) σ') ->
      (∀ n az v e σ,QD n az (.panic v) e σ = tO P n az (some v) σ fun σ'=>lz e σ' df.results fun vs=>R (.ret (oneOf vs)) σ')->df.body.wp P Q QD (kg args) σ):eU P f args σ R :=
 eU.ado hf hn hc hl (hw _ _ (fun _ _=>rfl) (fun _ _ _ _=>rfl) (fun _ _ _ _ _=>rfl))
end
def HM: cY:= .seq (.region [⟨.mv (.t 2),(some 4),none⟩,⟨.rU true .i (.t 4) (.c .mF),(some 5),none⟩])<|
 .cond (.t 5) (.draw [⟨.build [(.int .i64 0),(.int .i64 0),(.str [])] [],(some 6),none⟩,⟨.mv (.t 2),(some 7),none⟩,⟨.ex (.OH 32 false (.int .i64 0)) [(.t 7)],(some 8),none⟩,⟨.store 3 (.t 0) (.t 6),none,none⟩,⟨.store 1 (.t 1) (.t 8),none,none⟩] []) (.skip)
def Ex: BP:=⟨9,3,[(.t 3,some 2)],HM⟩
def Ey: HL Tryz.prog {} Tryz.f118=some Ex:=by kernel_rfl
def Ez: r7:= .seq (.region [⟨.box (.t 0),(some 3),none⟩,⟨.alloc none [(.int .i64 0),(.int .i64 0),(.str [])],(some 6),none⟩,⟨.alloc none [(.int .i64 0)],(some 7),none⟩])<|
 .seq (.seq (.region [⟨.load true 6 (.t 3),(some 10),none⟩,⟨.call false (.c (.fn (.func 117) [] [])) [(.t 10)],(some 11),none⟩,⟨.bin .neq (.t 11) (.c (.int .i64 0)),(some 12),none⟩,⟨.mv (.t 12),(some 13),none⟩,⟨.mv (.t 1),(some 14),some (13,false)⟩,⟨.len false (.t 14),(some 15),some (13,false)⟩,⟨.mv (.t 2),(some 16),some (13,false)⟩,⟨.len false (.t 16),(some 17),some (13,false)⟩,⟨.bin .neq (.t 15) (.t 17),(some 18),some (13,false)⟩,⟨.pick (.t 13) (.c (.bool true)) (.t 18),(some 19),none⟩])<|
 .cond (.t 19) (.seq (.region [⟨.build [(.int .i64 0),(.int .i64 0),(.str [])] [],(some 20),none⟩,⟨.store 3 (.t 6) (.t 20),none,none⟩,⟨.store 1 (.t 7) (.c (.int .i64 2)),none,none⟩])<|
 .ret) (.skip))<|
 .seq (.seq (.region [⟨.mv (.t 2),(some 21),none⟩,⟨.len false (.t 21),(some 22),none⟩,⟨.mv (.c (.int .i64 0)),(some 23),none⟩])<|
 .block 0 (.loop (.seq (.region [⟨.bin .lss (.t 23) (.t 22),(some 24),none⟩])<|
 .seq (.cond (.t 24) (.skip) (.exit 0))<|
 .seq (.block 1 (.seq (.region [⟨.fh ⟨true,3⟩ none (.t 21) (.t 23),(some 25),none⟩,⟨.load true 3 (.t 25),(some 26),none⟩,⟨.alloc none [(.int .i64 0),(.int .i64 0),(.str [])],(some 9),none⟩,⟨.store 3 (.t 9) (.t 26),none,none⟩])<|
 .seq (.region [⟨.load true 3 (.t 9),(some 27),none⟩,⟨.call false (.c (.fn (.func 115) [] [])) [(.t 27)],(some 28),none⟩,⟨.bin .neq (.t 28) (.c (.int .i64 0)),(some 29),none⟩])<|
 .cond (.t 29) (.seq (.region [⟨.build [(.int .i64 0),(.int .i64 0),(.str [])] [],(some 30),none⟩,⟨.store 3 (.t 6) (.t 30),none,none⟩,⟨.store 1 (.t 7) (.c (.int .i64 2)),none,none⟩])<|
 .ret) (.skip)))<|
 .region [⟨.bin .add (.t 23) (.c (.int .i64 1)),(some 31),none⟩,⟨.mv (.t 31),(some 23),none⟩])))<|
 .dfr [⟨.q_ (.func 118) [] [(.t 6),(.t 7)],(some 32),none⟩] (.t 32)<|
 .seq (.region [⟨.mv (.t 1),(some 33),none⟩,⟨.mv (.t 2),(some 34),none⟩,⟨.build [.ai,.ai] [(0,1,(.t 33)),(1,1,(.t 34))],(some 35),none⟩,⟨.load true 6 (.t 3),(some 36),none⟩,⟨.call false (.c (.fn (.func 119) [] [])) [(.t 35),(.t 36)],(some 37),none⟩,⟨.store 3 (.t 6) (.t 37),none,none⟩,⟨.store 1 (.t 7) (.c (.int .i64 0)),none,none⟩])<|
 .ret
def abB: Ow:=⟨38,[.cell 6 true 3,.cell 7 false 1],Ez⟩
def Vj: yX Tryz.prog {} Tryz.f73=some abB:=by kernel_rfl
def HN{σ : ae}{R:ae->Prop}{k l:Nat}(h:R σ): tO aD 118 [.ref k 0,.ref l 0] none σ R:=by
 refine tO.of_wp Tryz.func118 (by kernel_rfl) Ey (Nat.le_of_ble_eq_true rfl) ?_;unfold BP.wp;simp only[Ex,Lx];obtain⟨Q,hQ⟩:∃ Q:AQ,Q=Ly R:=⟨_,rfl⟩;have au:∀ e σ,Q .normal e σ = R σ:=fun e σ=>by rw[hQ];rfl
 have aq:=au;have aA:=au;rw[<-hQ];unfold HM;simp (disch:=omega) only[go_sem,au,Option.getD_none,rT,oP];exact h
def HO{σ : ae}{R:ae->Prop}{k l:Nat}{x y z w:AV}{e:Int}(hk : σ[k]? = some (.cells [x,y,z]))(hl:(σ.set k (.cells [I 0,I 0,.str []]))[l]? = some (.cells [w]))(h:R ((σ.set k (.cells [I 0,I 0,.str []])).set l (.cells [I e]))): tO aD 118 [.ref k 0,.ref l 0] (some (qy e)) σ R:=by
 refine tO.of_wp Tryz.func118 (by kernel_rfl) Ey (Nat.le_of_ble_eq_true rfl) ?_;unfold BP.wp;simp only[Ex,Lx];obtain⟨Q,hQ⟩:∃ Q:AQ,Q=Ly R:=⟨_,rfl⟩;have au:∀ e σ,Q .normal e σ = R σ:=fun e σ=>by rw[hQ];rfl
 have aq:=au;have aA:=au;rw[<-hQ];unfold HM;simp (disch:=omega) only[go_sem,au,bC,rT,oP,qy];repeat' first|simp (disch:=omega) only[go_sem,aq,au,aA,hk,hl]|refine ak ?_|refine aj ?_ ?_<;>intro hw<;>try omega|fail
 exact h
def vT: g_->AV
 | .ok v=> .bJ [bD v,I 0]
 | .err e=> .bJ [bD v0,I e]
def qX(v:aH): vT (.ok v) = .bJ [bD v,I 0]:=rfl
def lV(e:Int): vT (.err e) = .bJ [bD v0,I e]:=rfl
def BR{x:Expr}{cs:List bQ}{row:List aH}{r:AV} (h:∀ (Q:AQ) (QD:FuncId->List AV->AQ),(∀ e σ,Q .ret e σ = lz e σ [.cell 6 true 3,.cell 7 false 1] fun vs=> ∃ r0,Out.ret (oneOf vs) = .ret r0/\View σ r0 r) ->
 (∀ n az e σ,QD n az .ret e σ = tO aD n az none σ fun σ'=>lz e σ' [.cell 6 true 3,.cell 7 false 1] fun vs=> ∃ r0,Out.ret (oneOf vs) = .ret r0/\View σ' r0 r) ->
 (∀ n az v e σ, QD n az (.panic v) e σ = tO aD n az (some v) σ fun σ' => lz e σ' [.cell 6 true 3, .cell 7 false 1] fun vs => ∃ r0, Out.ret (oneOf vs) = .ret r0 /\ View σ' r0 r) -> r7.wp Tryz.prog Q QD Ez (kg [aJ x, aY cs, aL row]) []) :
    aF aD 73 [aJ x,aY cs,aL row] r :=
 aF.On (eU.abA Tryz.func73 (by kernel_rfl) Vj (Nat.le_of_ble_eq_true rfl) h) (by simp)
def EA{x:Expr}{cs:List bQ}{row:List aH}(h:¬ (dw x=true/\cs.length=row.length/\qw row=true)): gN x cs row = .err 2:=by
 unfold gN;rw[if_neg (by simpa[aC,and_assoc]using h)]
def JR{x:Expr}{cs:List bQ}{row:List aH}(h1:dw x=true)(h2:cs.length=row.length)(h3:qw row=true): gN x cs row=mB cs row x:=by
 unfold gN;rw[if_pos (by simp[h1,h2,h3])]
def EB(x:Expr)(cs:List bQ)(row:List aH)(hx:iG x)(hz:fE x<=2 ^ 60)(qA:cs.length<=2 ^ 60)(hr:row.length<=2 ^ 40)(hrow:∀ w ∈ row,og w): aF aD 73 [aJ x,aY cs,aL row] (vT (gN x cs row)):=by
 have c1:=xL x hx hz;by_cases h1:dw x=true/\cs.length=row.length
 case neg =>
  rw[EA (fun h=>h1 ⟨h.1,h.2.1⟩),lV];refine BR fun Q QD aq hDr hDp=>?_;have au:=aq;have aA:=aq;unfold Ez;rw[aU]at c1 ⊢;simp only[aY,aL];cases qZ:dw x with
  | true =>
    have hl:cs.length≠row.length:=fun h=>h1 ⟨qZ,h⟩;simp only[qZ,iz,if_true]at c1;repeat' first|simp (disch:=omega) only[go_sem,aq,au,aA,wW]|refine ak ?_|refine aj ?_ ?_<;>intro hw<;>try omega|fail
    all_goals first|exact bt rfl rfl|exact aP
  | false =>
    simp only[qZ,iz,aI,if_false]at c1;repeat' first|simp (disch:=omega) only[go_sem,aq,au,aA,wW]|refine ak ?_|refine aj ?_ ?_<;>intro hw<;>try omega|fail
    all_goals first|exact bt rfl rfl|exact aP
 obtain⟨qZ,hl⟩:=h1;simp only[qZ,iz,if_true]at c1;have cv:=fun i (hi:i<row.length)=>jT (row.getD i default).kind (row.getD i default).n (row.getD i default).s (hrow _ (aO hi)).1.1 (hrow _ (aO hi)).1.2;cases rD:qw row with
 | false =>
   rw[EA (fun h=>by rw[h.2.2]at rD;cases rD),lV]
   obtain⟨j,hj,hb⟩:∃ j,j<row.length/\bp (row.getD j default)=false:=by
    unfold qw at rD;rw[List.all_eq_false]at rD;obtain⟨v,hv,hn⟩:=rD;obtain⟨j,hj,rfl⟩:=bT hv;exact⟨j,hj,by rw[aB,aE hj];simpa using hn⟩
   refine BR fun Q QD aq hDr hDp=>?_;have au:=aq;have aA:=aq;unfold Ez;rw[aU]at c1 ⊢;simp only[aY,aL];repeat' first|simp (disch:=omega) only[go_sem,aq,au,aA,wW]|refine ak ?_|refine aj ?_ ?_<;>intro hw<;>try omega|fail
   with_reducible refine aX [9,23,24,25,26,27,28,29,30,31] (fun q:Nat × List bE=>[(23,I q.1)]) (fun q=> .cells [I x.op,I x.v.kind,I x.v.n,.str x.v.s,.str x.s,.aG false EX (x.l.map aJ)]:: .cells [I 0,I 0,.str []]:: .cells [I 0]::q.2) (fun q=>q.1<=j) (fun q=>row.length-q.1) (0,[]) ?_ ?_ ?_ ?_
   ·simp
   ·rfl
   ·exact at_
   rintro⟨i,τ⟩ r h2;dsimp only at h2;have hi:i<row.length:=by omega
   have c:=cv i hi;have hij:i=j->bp (row.getD i default)=false:=fun e=>by rw[e];exact hb
   obtain⟨v,hv⟩:∃ v,row.getD i default=v:=⟨_,rfl⟩;rw[hv]at c hij;have ev:bp ⟨v.kind,v.n,v.s⟩=bp v:=rfl;rw[ev]at c;cases k9:bp v with
   | true =>
     have hne:i≠j:=fun e=>by rw[hij e]at k9;cases k9
     simp only[k9,iz,if_true]at c;repeat' first|simp (disch:=omega) only[go_sem,aq,au,aA,hv]|refine ak ?_|refine cW c ?_|refine aj ?_ ?_<;>intro hw<;>try omega|fail
     refine⟨(i+1,τ++[.cells [I v.kind,I v.n,.str v.s]]),?_,?_,by first|rfl|(simp[go_sem];done),bK,at_⟩
     ·dsimp only;omega
     ·dsimp only;omega
   | false =>
     simp only[k9,iz,aI,if_false]at c;repeat' first|simp (disch:=omega) only[go_sem,aq,au,aA,hv]|refine ak ?_|refine cW c ?_|refine aj ?_ ?_<;>intro hw<;>try omega|fail
     exact bt rfl rfl
 | true =>
   rw[JR qZ hl rD];have hg:∀ w ∈ row,fC w:=fun w hw=>⟨bg.1 rD w hw,hrow w hw⟩;have dI:=JM cs row hl qA hg x ⟨qZ,hx,hz⟩;generalize mB cs row x=r at *;refine BR fun Q QD aq hDr hDp=>?_;have au:=aq;have aA:=aq;unfold Ez;simp only[qz]at dI;rw[aU]at c1 dI ⊢;simp only[aY,aL]at dI ⊢;repeat' first|simp (disch:=omega) only[go_sem,aq,au,aA,wW]|refine ak ?_|refine aj ?_ ?_<;>intro hw<;>try omega|fail
   with_reducible refine aX [9,23,24,25,26,27,28,29,30,31] (fun q:Nat × List bE=>[(23,I q.1)]) (fun q=> .cells [I x.op,I x.v.kind,I x.v.n,.str x.v.s,.str x.s,.aG false EX (x.l.map aJ)]:: .cells [I 0,I 0,.str []]:: .cells [I 0]::q.2) (fun q=>q.1<=row.length) (fun q=>row.length-q.1) (0,[]) ?_ ?_ ?_ ?_
   ·simp
   ·rfl
   ·exact at_
   rintro⟨i,τ⟩ r' h2;dsimp only at h2;by_cases hi:i<row.length
   ·have c:=cv i hi;have k9:=(hg _ (aO hi)).1;obtain⟨v,hv⟩:∃ v,row.getD i default=v:=⟨_,rfl⟩;rw[hv]at c k9;have ev:bp ⟨v.kind,v.n,v.s⟩=bp v:=rfl;rw[ev]at c;simp only[k9,iz,if_true]at c;repeat' first|simp (disch:=omega) only[go_sem,aq,au,aA,hv]|refine ak ?_|refine cW c ?_|refine aj ?_ ?_<;>intro hw<;>try omega|fail
    refine⟨(i+1,τ++[.cells [I v.kind,I v.n,.str v.s]]),?_,?_,by first|rfl|(simp[go_sem];done),bK,at_⟩
    ·dsimp only;omega
    ·dsimp only;omega
   ·cases r with
    | ok v =>
      have dI:aF aD 119 _ (bD v):=dI;rw[qX]at *;simp only[bD]at dI;repeat' first|simp (disch:=omega) only[go_sem,aq,au,aA,wW,TL,TK,TJ,hDr,hDp]|refine ak ?_|with_reducible refine HN ?_|refine aj ?_ ?_<;>intro hw<;>try omega|fail
      exact bt rfl rfl
    | err e =>
      have dI:cK aD 119 _ (.panic (qy e)):=dI;rw[lV]at *;repeat' first|simp (disch:=omega) only[go_sem,aq,au,aA,wW,TL,TK,TJ,hDr,hDp]|refine ak ?_|refine Az dI ?_|with_reducible refine HO rfl rfl ?_|refine aj ?_ ?_<;>intro hw<;>try omega|fail
      exact bt rfl rfl
end Go.Proofs.YthakfmmgnjpmdaaGreat
namespace Go.Proofs.YthakfmmgnjpmdaaGreat
open Go.AM
set_option maxRecDepth 4000
def vA(a b:Int)(ha:dJ a)(hb:dJ b): aF aD 93 [I a,I b] (.bJ [I (numOf (ew (a+b))),I (fH (ew (a+b)))]):=by
 unfold dJ at ha hb;by_cases h : -9223372036854775808<=a+b/\a+b<=9223372036854775807
 ·rw[lN h];refine aK DG ?_;intro Q aq au aA;repeat' first|refine ak ?_|refine aj ?_ ?_<;>intro hw<;>try omega|fail
  all_goals first|exact bt rfl rfl|exact aP
 ·rw[lU h];refine aK DG ?_;intro Q aq au aA;repeat' first|refine ak ?_|refine aj ?_ ?_<;>intro hw<;>try omega|fail
  all_goals first|exact bt rfl rfl|exact aP
def ED(a b:Int)(ha:dJ a)(hb:dJ b): aF aD 241 [I a,I b] (.bJ [I (numOf (ew (a-b))),I (fH (ew (a-b)))]):=by
 unfold dJ at ha hb;by_cases h : -9223372036854775808<=a-b/\a-b<=9223372036854775807
 ·rw[lN h];refine aK DO ?_;intro Q aq au aA;repeat' first|refine ak ?_|refine aj ?_ ?_<;>intro hw<;>try omega|fail
  all_goals first|exact bt rfl rfl|exact aP
 ·rw[lU h];refine aK DO ?_;intro Q aq au aA;repeat' first|refine ak ?_|refine aj ?_ ?_<;>intro hw<;>try omega|fail
  all_goals first|exact bt rfl rfl|exact aP
def XD(a b:Int)(ha:dJ a)(hb:dJ b): aF aD 243 [I a,I b] (.bJ [I (numOf (pK a b)),I (fH (pK a b))]):=by
 by_cases h0:b=0
 ·subst h0;have e:pK a 0 = .err 16:=rfl;rw[e];refine aK xw ?_;intro Q aq au aA;repeat' first|refine ak ?_|refine aj ?_ ?_<;>intro hw<;>try omega|fail
  all_goals first|exact bt rfl rfl|exact aP
 have e:pK a b=ew (a.tdiv b):=if_neg h0;rw[e];by_cases h:b = -1
 ·subst h;have c:=ED 0 a (by unfold dJ;decide) ha;rw[show a.tdiv (-1)=0-a by rw[Int.tdiv_neg,Int.tdiv_one];omega];generalize ew (0-a)=r at *;refine aK xw ?_;intro Q aq au aA;repeat' first|refine ak ?_|refine cW c ?_|refine aj ?_ ?_<;>intro hw<;>try omega|fail
  all_goals first|exact bt rfl rfl|exact aP
 ·have hr:=Qf ha h0 (fun h'=>h h'.2);have ug:de .i64 (a.tdiv b)=a.tdiv b:=sK hr.1 hr.2;rw[lN hr];unfold dJ at ha hb;refine aK xw ?_;intro Q aq au aA;repeat' first|simp (disch:=omega) only[go_sem,aq,au,aA,ug]|refine ak ?_|refine aj ?_ ?_<;>intro hw<;>try omega|fail
  all_goals first|exact bt rfl rfl|exact bt (congrArg (fun z=>[AV.int .i64 z,AV.int .i64 0]) ug) rfl|skip
def Sk(a:Int)(ha:dJ a)(h0:a≠0): aF aD 269 [I a] (.bJ [I (numOf (ew (a * -9223372036854775808))),I (fH (ew (a * -9223372036854775808)))]):=by
 unfold dJ at ha;by_cases h:a=1
 ·subst h;rw[lN (by decide)];refine aK Ae ?_;intro Q aq au aA;repeat' first|refine ak ?_|refine aj ?_ ?_<;>intro hw<;>try omega|fail
  all_goals first|exact bt rfl rfl|exact aP
 ·rw[lU (by omega)];refine aK Ae ?_;intro Q aq au aA;repeat' first|refine ak ?_|refine aj ?_ ?_<;>intro hw<;>try omega|fail
  all_goals first|exact bt rfl rfl|exact aP
def pw(i:Nat): Int:=2 ^ (63-i)
def iI(b:Int)(i:Nat): Int:=b.tdiv (pw i)
def abC{i:Nat}(h:i<63): pw i=pw (i+1)*2:=by
 unfold pw;rw[show 63-i=63-(i+1)+1 by omega,Int.pow_succ]
def ZV(b:Int){m:Int}(h:0<m): b.tdiv (m*2)=(b.tdiv m).tdiv 2:=by
 have pos:∀ c:Int,0<=c->c.tdiv (m*2)=(c.tdiv m).tdiv 2:=fun c hc=>by
  rw[Int.tdiv_eq_ediv_of_nonneg hc,Int.tdiv_eq_ediv_of_nonneg hc,Int.tdiv_eq_ediv_of_nonneg (Int.ediv_nonneg hc (by omega)),Int.ediv_ediv_of_nonneg (by omega)]
 rcases Int.le_total 0 b with hb|hb
 ·exact pos b hb
 ·obtain⟨c,rfl⟩:∃ c,b = -c:=⟨-b,by omega⟩;rw[Int.neg_tdiv,Int.neg_tdiv,Int.neg_tdiv,pos c (by omega)]
def Qs(i:Nat): 0<pw i:=Int.pow_pos (by decide)
def Qt(b:Int){i:Nat}(h:i<63): iI b (i+1)=2*iI b i+(iI b (i+1)).tmod 2:=by
 have e:iI b i=(iI b (i+1)).tdiv 2:=by
  unfold iI;rw[abC h,ZV b (Qs _)]
 rw[e];exact(Int.mul_tdiv_add_tmod _ 2).symm
def ZW(b:Int): iI b 63=b:=by
 show b.tdiv 1=b;exact Int.tdiv_one b
def XE{b:Int}(h:dJ b)(hb:b≠ -9223372036854775808): iI b 0=0:=by
 unfold dJ at h;show b.tdiv 9223372036854775808=0;rcases Int.le_total 0 b with h0|h0
 ·exact Int.tdiv_eq_zero_of_lt h0 (by omega)
 ·obtain⟨c,rfl⟩:∃ c,b = -c:=⟨-b,by omega⟩;rw[Int.neg_tdiv,Int.tdiv_eq_zero_of_lt (by omega) (by omega)];rfl
def uX(b:Int)(i:Nat): (0<=iI b i/\iI b i<=b)\/(b<=iI b i/\iI b i<=0):=by
 have hp:=Qs i;unfold iI;generalize pw i=m at *;rcases Int.le_total 0 b with hb|hb
 ·left;exact⟨Int.tdiv_nonneg hb (by omega),Int.tdiv_le_self _ hb⟩
 ·right;obtain⟨c,rfl⟩:∃ c,b = -c:=⟨-b,by omega⟩;rw[Int.neg_tdiv];have h1:=Int.tdiv_nonneg (show 0<=c by omega) (show 0<=m by omega);have h2:=Int.tdiv_le_self m (show 0<=c by omega);omega
def Gl{a b c:Int}(h:(0<=c/\c<=b)\/(b<=c/\c<=0))(hr:dJ (a*b)): dJ (a*c):=by
 unfold dJ at *;rcases Int.le_total 0 a with ha|ha
 ·rcases h with⟨h1,h2⟩|⟨h1,h2⟩
  ·have:=Int.mul_le_mul_of_nonneg_left h2 ha;have:=Int.mul_nonneg ha h1;omega
  ·have:=Int.mul_le_mul_of_nonneg_left h1 ha;have:=Int.mul_le_mul_of_nonneg_left h2 ha;rw[Int.mul_zero]at this;omega
 ·rcases h with⟨h1,h2⟩|⟨h1,h2⟩
  ·have:=iQ ha h2;have:=iQ ha h1;rw[Int.mul_zero]at this;omega
  ·have:=iQ ha h1;have:=iQ ha h2;rw[Int.mul_zero]at this;omega
def N7(b:Int){i:Nat}(h:i<63): (0<=iI b i+iI b i/\iI b i+iI b i<=b)\/(b<=iI b i+iI b i/\iI b i+iI b i<=0):=by
 have h1:=Qt b h;have h2:=uX b (i+1);have h3:=uX b i;have h4:(iI b (i+1)).tmod 2 = -1\/(iI b (i+1)).tmod 2=0\/(iI b (i+1)).tmod 2=1:=Int.tmod_two_eq _
 have h5:0<=b->0<=(iI b (i+1)).tmod 2:=fun hb=>by
  apply Int.tmod_nonneg;omega
 have h6:b<=0->(iI b (i+1)).tmod 2<=0:=fun hb=>by
  have:=Int.tmod_nonneg (a:= -(iI b (i+1))) 2 (by omega);rw[Int.neg_tmod]at this;omega
 omega
def adq{i:Nat}(h:i<63): de .i64 (1*2 ^ (Int.toNat (62-(i:Int))).min 64)=pw (i+1):=by
 unfold pw;obtain⟨j,hj⟩:∃ j,63-(i+1)=j:=⟨_,rfl⟩;have sJ:j<63:=by omega
 rw[show (Int.toNat (62-(i:Int))).min 64=j by rw[show Int.toNat (62-(i:Int))=j by omega];exact Nat.min_eq_left (by omega),hj,Int.one_mul]
 have:(2:Int) ^ j<=2 ^ 62:=by
  have:=Nat.pow_le_pow_right (show 0<2 by decide) (show j<=62 by omega)
  exact_mod_cast this
 have:=Int.pow_pos (n:=2) (m:=j) (by decide);exact sK (by omega) (by omega)
def abD{b:Int}(h:dJ b)(i:Nat): dJ (iI b i):=by
 have:=uX b i;unfold dJ at *;omega
def XF(a b:Int)(ha:dJ a)(hb:dJ b): aF aD 242 [I a,I b] (.bJ [I (numOf (ew (a*b))),I (fH (ew (a*b)))]):=by
 by_cases h0:a=0\/b=0
 ·have e:a*b=0:=by rcases h0 with rfl|rfl<;>simp
  rw[e,lN (by decide)];refine aK xu ?_;intro Q aq au aA;rcases h0 with rfl|rfl
  all_goals
   repeat' first|refine ak ?_|refine aj ?_ ?_<;>intro hw<;>try omega|fail
   all_goals first|exact bt rfl rfl|exact aP
 have ha0:¬ a=0:=fun h=>h0 (.inl h);have hb0:¬ b=0:=fun h=>h0 (.inr h);clear h0;by_cases hm:b = -9223372036854775808
 ·subst hm;have c1:aF aD 93 [I 0,I 0] (.bJ [I 0,I 0]):=vA 0 0 (by unfold dJ;decide) (by unfold dJ;decide);have c2:=Sk a ha ha0;generalize ew (a * -9223372036854775808)=r at *;generalize numOf r=x at *;generalize fH r=y at *;refine aK xu ?_;intro Q aq au aA;repeat' first|simp (disch:=omega) only[go_sem,aq,au,aA,decide_eq_false ha0]|refine ak ?_|refine aj ?_ ?_<;>intro hw<;>try omega|fail
  ·exact hw.elim
  with_reducible refine aX [4,5,6,7,8,9,10,11,18,19,20,21,22,23,24,25,26,27,28,29,30,31,32,33,34,35,36,37,38,39,40,41,42,43,44,45,46,47,48,49,50,51,52,53,54,55,56,57,58,59,60,61,62,63,64,65] (fun q:Nat × List bE=>[(6,I 0),(7,I 62)]) (fun q=>q.2) (fun q=>True) (fun q=>0) (0,[]) ?_ ?_ ?_ ?_
  ·trivial
  ·rfl
  ·exact at_
  rintro⟨i,τ⟩ r h1;have hs:de .i64 (1*2 ^ (Int.toNat 62).min 64)=4611686018427387904:=by decide
  have hq:(de .i64 ((-9223372036854775808:Int).tdiv 4611686018427387904)).tmod 2=0:=by decide
  repeat' first|simp (disch:=omega) only[go_sem,aq,au,aA,hs,hq]|refine ak ?_|refine cW c1 ?_|refine cW c2 ?_|refine aj ?_ ?_<;>intro hw<;>try omega|fail
  all_goals first|exact bt rfl rfl|exact hw.elim|exact aP
 have hr:=fun i:Nat=>fun h:dJ (a*b)=>Gl (uX b i) h;have vX:=fun(i:Nat) (hi:i<63)=>fun h:dJ (a*b)=>Gl (N7 b hi) h;have hend:=ZW b;have TC:=XE hb hm;have hstep:=fun(i:Nat) (hi:i<63)=>Qt b hi;have hbr:=fun i=>abD hb i;have hIn:dJ (a*b)->numOf (ew (a*b))=a*b/\fH (ew (a*b))=0:=fun h=>by rw[lN h];exact⟨rfl,rfl⟩
 have hOut:¬ dJ (a*b)->numOf (ew (a*b))=0/\fH (ew (a*b))=15:=fun h=>by rw[lU h];exact⟨rfl,rfl⟩
 obtain⟨x,hx⟩:∃ x,numOf (ew (a*b))=x:=⟨_,rfl⟩;obtain⟨y,hy⟩:∃ y,fH (ew (a*b))=y:=⟨_,rfl⟩;rw[hx,hy]at hIn hOut;rw[hx,hy];clear hx hy;refine aK xu ?_;intro Q aq au aA;repeat' first|simp (disch:=omega) only[go_sem,aq,au,aA,decide_eq_false ha0,decide_eq_false hb0]|refine ak ?_|refine aj ?_ ?_<;>intro hw<;>try omega|fail
 with_reducible refine aX [4,5,6,7,8,9,10,11,18,19,20,21,22,23,24,25,26,27,28,29,30,31,32,33,34,35,36,37,38,39,40,41,42,43,44,45,46,47,48,49,50,51,52,53,54,55,56,57,58,59,60,61,62,63,64,65] (fun q:Nat × List bE=>[(6,I (a*iI b q.1)),(7,I (62-(q.1:Int)))]) (fun q=>q.2) (fun q=>q.1<=63/\dJ (a*iI b q.1)) (fun q=>63-q.1) (0,[]) ?_ ?_ ?_ ?_
 ·exact⟨by simp,by rw[TC,Int.mul_zero];unfold dJ;decide⟩
 ·rfl
 ·rw[TC,Int.mul_zero];exact at_
 rintro⟨i,τ⟩ r ⟨h1,h2⟩;dsimp only at h1 h2;by_cases hi:i<63
 ·have h5:=hr (i+1);have h6:=vX i hi;have h7:=hstep i hi;have h8:=hbr (i+1);clear hr vX hstep hbr hend TC;have hsh:=adq hi;have hq:de .i64 (b.tdiv (pw (i+1)))=iI b (i+1):=sK h8.1 h8.2;have hpp:=Qs (i+1);obtain⟨p,hp⟩:∃ p,pw (i+1)=p:=⟨_,rfl⟩;obtain⟨d,hd⟩:∃ d,(iI b (i+1)).tmod 2=d:=⟨_,rfl⟩;have hd3:d = -1\/d=0\/d=1:=hd ▸ Int.tmod_two_eq _;obtain⟨n,hn⟩:∃ n,iI b (i+1)=n:=⟨_,rfl⟩;obtain⟨m,hM⟩:∃ m,iI b i=m:=⟨_,rfl⟩;rw[hd,hn,hM]at h7;rw[hn]at hd hq h5;rw[hp]at hsh hq hpp;rw[hM]at h6 h2;rw[hM];have e6:a*(m+m)=a*m+a*m:=Int.mul_add _ _ _;have e5:a*n=a*m+a*m+a*d:=by rw[h7,Int.mul_add];rw[<-e6];congr 2;omega
  rw[e6]at h6;obtain⟨t,ht⟩:∃ t,a*m=t:=⟨_,rfl⟩;rw[ht]at h6 e5 h2;have c1:=vA t t h2 h2;obtain⟨u,hu⟩:∃ u,t+t=u:=⟨_,rfl⟩;rw[hu]at c1 h6 e5;rw[ht];by_cases ho:dJ u
  ·rw[lN ho]at c1;have c1:aF aD 93 [I t,I t] (.bJ [I u,I 0]):=c1;rcases hd3 with rfl|rfl|rfl
   ·have c2:=ED u a ho ha;have e5:a*n=u-a:=by rw[e5];omega
    rw[e5]at h5;by_cases pV:dJ (u-a)
    ·rw[lN pV]at c2;have c2:aF aD 241 [I u,I a] (.bJ [I (u-a),I 0]):=c2;clear hIn hOut;repeat' first|simp (disch:=omega) only[go_sem,aq,au,aA,hsh,hq,hd]|refine ak ?_|refine cW c1 ?_|refine cW c2 ?_|refine aj ?_ ?_<;>intro hw<;>try omega|fail
     all_goals first
      | exact aP
      | (refine ⟨(i + 1, τ), ⟨by dsimp only; omega, ?_⟩, by dsimp only; omega, by first | rfl | (simp [go_sem]; done), bK, ?_⟩
         ·show dJ (a*iI b (i+1));rw[hn,e5];exact pV
         ·show At [(6,I (a*iI b (i+1))),(7,I (62-((i+1:Nat):Int)))] _;rw[hn,e5,show 62-((i+1:Nat):Int)=62-(i:Int)-1 by omega];simp (disch:=omega) only[l7,kO,and_true,go_sem,aq,au,aA,Int.natCast_add,Int.cast_ofNat_Int]<;>(try trivial)<;>(try omega)<;>(try (repeat (first|trivial|(refine And.intro ?_ ?_)|(congr 1;omega)))))
      | skip
    ·rw[lU pV]at c2;have c2:aF aD 241 [I u,I a] (.bJ [I 0,I 15]):=c2;obtain⟨rfl,rfl⟩:=hOut fun h=>pV (h5 h);clear hIn hOut;repeat' first|simp (disch:=omega) only[go_sem,aq,au,aA,hsh,hq,hd]|refine ak ?_|refine cW c1 ?_|refine cW c2 ?_|refine aj ?_ ?_<;>intro hw<;>try omega|fail
     all_goals first|exact bt rfl rfl|exact aP|skip
   ·have e5:a*n=u:=by rw[e5,Int.mul_zero];omega
    clear hIn hOut;repeat' first|simp (disch:=omega) only[go_sem,aq,au,aA,hsh,hq,hd]|refine ak ?_|refine cW c1 ?_|refine aj ?_ ?_<;>intro hw<;>try omega|fail
    all_goals first
     | exact aP
     | (refine ⟨(i + 1, τ), ⟨by dsimp only; omega, ?_⟩, by dsimp only; omega, by first | rfl | (simp [go_sem]; done), bK, ?_⟩
        ·show dJ (a*iI b (i+1));rw[hn,e5];exact ho
        ·show At [(6,I (a*iI b (i+1))),(7,I (62-((i+1:Nat):Int)))] _;rw[hn,e5,show 62-((i+1:Nat):Int)=62-(i:Int)-1 by omega];simp (disch:=omega) only[l7,kO,and_true,go_sem,aq,au,aA,Int.natCast_add,Int.cast_ofNat_Int]<;>(try trivial)<;>(try omega)<;>(try (repeat (first|trivial|(refine And.intro ?_ ?_)|(congr 1;omega)))))
     | skip
   ·have c2:=vA u a ho ha;have e5:a*n=u+a:=by rw[e5,Int.mul_one]
    rw[e5]at h5;by_cases pV:dJ (u+a)
    ·rw[lN pV]at c2;have c2:aF aD 93 [I u,I a] (.bJ [I (u+a),I 0]):=c2;clear hIn hOut;repeat' first|simp (disch:=omega) only[go_sem,aq,au,aA,hsh,hq,hd]|refine ak ?_|refine cW c1 ?_|refine cW c2 ?_|refine aj ?_ ?_<;>intro hw<;>try omega|fail
     all_goals first
      | exact aP
      | (refine ⟨(i + 1, τ), ⟨by dsimp only; omega, ?_⟩, by dsimp only; omega, by first | rfl | (simp [go_sem]; done), bK, ?_⟩
         ·show dJ (a*iI b (i+1));rw[hn,e5];exact pV
         ·show At [(6,I (a*iI b (i+1))),(7,I (62-((i+1:Nat):Int)))] _;rw[hn,e5,show 62-((i+1:Nat):Int)=62-(i:Int)-1 by omega];simp (disch:=omega) only[l7,kO,and_true,go_sem,aq,au,aA,Int.natCast_add,Int.cast_ofNat_Int]<;>(try trivial)<;>(try omega)<;>(try (repeat (first|trivial|(refine And.intro ?_ ?_)|(congr 1;omega)))))
      | skip
    ·rw[lU pV]at c2;have c2:aF aD 93 [I u,I a] (.bJ [I 0,I 15]):=c2;obtain⟨rfl,rfl⟩:=hOut fun h=>pV (h5 h);clear hIn hOut;repeat' first|simp (disch:=omega) only[go_sem,aq,au,aA,hsh,hq,hd]|refine ak ?_|refine cW c1 ?_|refine cW c2 ?_|refine aj ?_ ?_<;>intro hw<;>try omega|fail
     all_goals first|exact bt rfl rfl|exact aP|skip
  ·rw[lU ho]at c1;have c1:aF aD 93 [I t,I t] (.bJ [I 0,I 15]):=c1;obtain⟨rfl,rfl⟩:=hOut fun h=>ho (h6 h);clear hIn hOut;repeat' first|refine ak ?_|refine cW c1 ?_|refine aj ?_ ?_<;>intro hw<;>try omega|fail
   all_goals first|exact bt rfl rfl|exact aP|skip
 ·obtain rfl:i=63:=by omega
  clear hr vX hstep hbr TC;rw[hend]at h2 ⊢;obtain⟨rfl,rfl⟩:=hIn h2;repeat' first|refine ak ?_|refine aj ?_ ?_<;>intro hw<;>try omega|fail
  all_goals first|exact bt rfl rfl|exact aP|skip
end Go.Proofs.YthakfmmgnjpmdaaGreat
namespace Go.Proofs.YthakfmmgnjpmdaaGreat
open Go.AM
set_option maxRecDepth 4000
def MN: ∀ a b:aS,Lib.compareBytes a b=if Op.bytesLess a b=true then -1 else if a=b then 0 else 1
 | [],[]=>rfl
 | [],_::_=>by simp[Lib.compareBytes,Op.bytesLess]
 | _::_,[]=>by simp[Lib.compareBytes,Op.bytesLess]
 | x :: r, y :: t => by
   simp only[Lib.compareBytes,Op.bytesLess,MN r t,bO,decide_eq_true_eq,aC,beq_iff_eq,List.cons.injEq];by_cases h1:x<y
   ·simp[h1]
   ·by_cases h2:y<x
    ·have h3:x≠y:=fun e=>by rw[e]at h2;exact absurd h2 (UInt8.lt_irrefl _)
     simp[h1,h2,h3]
    ·have h3:x=y:=UInt8.le_antisymm (UInt8.not_lt.1 h2) (UInt8.not_lt.1 h1);simp[h3]
def EE(a b:aH): e7 a b=if(decide (a.kind<b.kind) ||(decide (a.kind=b.kind) && (decide (a.n<b.n) ||(decide (a.n=b.n) && Op.bytesLess a.s b.s))))=true then -1 else if a=b then 0 else 1:=by
 obtain⟨k,n,s⟩:=a;obtain⟨k',n',s'⟩:=b;simp only[e7,iW,MN,aH.mk.injEq,bO,decide_eq_true_eq,aC];by_cases h1:k<k'
 ·simp[h1]
 by_cases h2:k'<k
 ·have:¬ k=k':=by omega
  simp[h1,h2,this]
 obtain rfl:k=k':=by omega
 by_cases h3:n<n'
 ·simp[h3]
 by_cases h4:n'<n
 ·have:¬ n=n':=by omega
  simp[h3,h4,this]
 obtain rfl:n=n':=by omega
 simp
def aev{k n k' n' m:Int}{s s':aS}(hL:e7 ⟨k,n,s⟩ ⟨k',n',s'⟩=m)(h:k<k'\/(k=k'/\(n<n'\/(n=n'/\Op.bytesLess s s'=true)))): I (-1)=I m:=by
 rw[<-hL,EE,if_pos];simpa using h
def aew{k n k' n' m:Int}{s s':aS}(hL:e7 ⟨k,n,s⟩ ⟨k',n',s'⟩=m)(h:¬ (k<k'\/(k=k'/\(n<n'\/(n=n'/\Op.bytesLess s s'=true)))))(h2:(k==k' && n==n' && s==s')=true): I 0=I m:=by
 rw[<-hL,EE,if_neg,if_pos]
 ·simp at h2;simp[h2]
 ·simpa using h
def aex{k n k' n' m:Int}{s s':aS}(hL:e7 ⟨k,n,s⟩ ⟨k',n',s'⟩=m)(h:¬ (k<k'\/(k=k'/\(n<n'\/(n=n'/\Op.bytesLess s s'=true)))))(h2:(k==k' && n==n' && s==s')=false): I 1=I m:=by
 rw[<-hL,EE,if_neg,if_neg]
 ·simp at h2;simpa using h2
 ·simpa using h
def o8(a b:aH): aF aD 92 [bD a,bD b] (I (e7 a b)):=by
 obtain⟨k,n,s⟩:=a;obtain⟨k',n',s'⟩:=b;obtain⟨m,hL⟩:∃ m,e7 ⟨k,n,s⟩ ⟨k',n',s'⟩=m:=⟨_,rfl⟩;rw[hL];simp only[bD];refine aK Hg ?_;intro Q aq au aA;dsimp (config:= { zeta:=true }) only;repeat' first|refine ak ?_|refine aj ?_ ?_<;>intro hw<;>try omega|fail
 all_goals first
  | exact aN (aev hL (by clear hL aq au aA;simp[*];try omega)) rfl
  | exact aN (aew hL (by clear hL aq au aA;simp[*];try omega) hw) rfl
  | exact aN (aex hL (by clear hL aq au aA;simp[*];try omega) hw) rfl
  | skip
def TM{l:List aH}{i:Nat}(hi:i<l.length)(h:bp (l.getD i default)=false): l.all bp=false:=by
 rw[List.all_eq_false];exact⟨_,aO hi,by rw[h];simp⟩
def XG{l:List aH}(h:∀ k,k<l.length->bp (l.getD k default)=true): l.all bp=true:=by
 rw[bg];intro v hv;obtain⟨k,hk,rfl⟩:=bT hv;have:=h k hk;rwa[aB,aE hk]at this
def MO(l:List aH)(qA:l.length<=2 ^ 60)(h:∀ w ∈ l,og w): aF aD 147 [aL l] (.bool (qw l)):=by
 unfold qw;obtain⟨E,hE⟩:∃ E,l.all bp=E:=⟨_,rfl⟩;rw[hE];simp only[aL];refine aK wg ?_;intro Q aq au aA;repeat' first|refine ak ?_|refine aj ?_ ?_<;>intro hw<;>try omega|fail
 with_reducible refine aX [2,3,4,5,6,7,8,9,10,11,12,13,14,15] (fun q:Nat=>[(3,I q)]) (fun _=>[]) (fun q=>q<=l.length/\ ∀ k,k<q->bp (l.getD k default)=true) (fun q=>l.length-q) (0) ?_ ?_ ?_ ?_
 ·simp
 ·rfl
 ·exact at_
 rintro i r ⟨g1,g2⟩;by_cases hi:i<l.length
 ·have hv:=(h _ (aO hi)).2;have hne:=fun h=>TM hi h;have dD:=fun he=>bx (q:=fun k=>bp (l.getD k default)=true) g2 (i:=i) he;obtain⟨v,xY⟩:∃ v,l.getD i default=v:=⟨_,rfl⟩;rw[xY]at hv hne dD;have h3:=pB v.kind v.n v.s (by omega);have ev:bp ⟨v.kind,v.n,v.s⟩=bp v:=rfl;rw[ev]at h3;generalize bp v=b at *;repeat' first|simp (disch:=omega) only[go_sem,aq,au,aA,xY]|refine ak ?_|refine aj ?_ ?_<;>intro hw<;>try omega|fail
  all_goals first
   | exact aP
   |(exact aN (by rw[<-hE,hne (by simp_all)]) rfl)
   | (refine ⟨i + 1, ?_, ?_, by first | rfl | (simp [go_sem]; done), bK, at_⟩ <;> (try dsimp only)
      ·exact⟨by omega,dD (by simp_all)⟩
      ·omega)
 ·repeat' first|refine ak ?_|refine aj ?_ ?_<;>intro hw<;>try omega|fail
  exact aN (by rw[<-hE,XG (fun k hk=>g2 k (by omega))]) rfl
def zp(b:Bool): aF aD 201 [.bool b] (bD (dL b)):=by
 cases b
 all_goals
  refine aK K8 ?_;intro Q aq au aA;repeat' first|refine ak ?_|refine aj ?_ ?_<;>intro hw<;>try omega|fail
  exact aN rfl rfl
def valOf: g_->aH
 | .ok v=>v
 | .err _=>v0
def nM(cs:List bQ)(row:List aH)(e:Int): List AV:=[aY cs,aL row,I e]
def d_(cs:List bQ)(row:List aH)(e:Int): AV.bG (nM cs row e)=true:=by simp[nM,AV.cQ,AV.bG]
def rP(cs:List bQ)(row:List aH)(n:FuncId)(args:List AV)(r:g_): Prop:=br aD n 0 args (nM cs row 0) (nM cs row (fH r)) (bD (valOf r))
def tP(cs:List bQ)(row:List aH)(e:Int): rP cs row 199 [I e] (.err e):=by
 unfold rP;refine br.bM (CY.go ?_) rfl (d_ _ _ _);unfold cj;intro Q aq au aA;simp only[nM,aY,aL];repeat' first|refine ak ?_|refine aj ?_ ?_<;>intro hw<;>try omega|fail
 exact bZ (View.eqv rfl rfl) (bn.eqv rfl (d_ _ _ _))
def EF(cs:List bQ)(row:List aH)(op a b:Int)(ha:dJ a)(hb:dJ b): rP cs row 200 [I op,I a,I b] (mb op a b):=by
 have hn:=Gi op a b;have cf:=tP cs row;have cA:=vA a b ha hb;have cS:=ED a b ha hb;have cM:=XF a b ha hb;have cD:=XD a b ha hb;have hu:mb op a b=if op=4 then ew (a+b)else if op=5 then ew (a-b)else if op=6 then ew (a*b)else pK a b:=rfl
 clear ha hb;unfold rP at *;by_cases h4:op=4
 ·rw[if_pos h4]at hu;rw[hu]at hn ⊢;subst h4;generalize ew (a+b)=r at *;cases r with
  | ok v =>
    have hv:v=⟨1,v.n,[]⟩:=hn;obtain⟨n,Qu⟩:∃ n,v.n=n:=⟨_,rfl⟩;rw[Qu]at hv;subst hv;refine br.bM (fY.go ?_) rfl (d_ _ _ _);unfold cj;intro Q aq au aA;simp only[nM,aY,aL,numOf,fH,valOf,bD]at *;repeat' first|refine ak ?_|refine bh (cf _) ?_|refine aj ?_ ?_<;>intro hw<;>try omega|fail
    all_goals first
     | exact bZ (View.eqv rfl rfl) (bn.eqv rfl (d_ cs row 0))
     | exact aP
  | err e =>
    have he:e≠0:=hn;have cf:=cf e;refine br.bM (fY.go ?_) rfl (d_ _ _ _);unfold cj;intro Q aq au aA;simp only[nM,aY,aL,numOf,fH,valOf,bD]at *;repeat' first|refine ak ?_|refine bh cf ?_|refine aj ?_ ?_<;>intro hw<;>try omega|fail
    all_goals first
     | exact bZ (View.eqv rfl rfl) (bn.eqv rfl (d_ cs row e))
     | exact aP
 rw[if_neg h4]at hu;by_cases h5:op=5
 ·rw[if_pos h5]at hu;rw[hu]at hn ⊢;subst h5;generalize ew (a-b)=r at *;cases r with
  | ok v =>
    have hv:v=⟨1,v.n,[]⟩:=hn;obtain⟨n,Qu⟩:∃ n,v.n=n:=⟨_,rfl⟩;rw[Qu]at hv;subst hv;refine br.bM (fY.go ?_) rfl (d_ _ _ _);unfold cj;intro Q aq au aA;simp only[nM,aY,aL,numOf,fH,valOf,bD]at *;repeat' first|refine ak ?_|refine bh (cf _) ?_|refine aj ?_ ?_<;>intro hw<;>try omega|fail
    all_goals first
     | exact bZ (View.eqv rfl rfl) (bn.eqv rfl (d_ cs row 0))
     | exact aP
  | err e =>
    have he:e≠0:=hn;have cf:=cf e;refine br.bM (fY.go ?_) rfl (d_ _ _ _);unfold cj;intro Q aq au aA;simp only[nM,aY,aL,numOf,fH,valOf,bD]at *;repeat' first|refine ak ?_|refine bh cf ?_|refine aj ?_ ?_<;>intro hw<;>try omega|fail
    all_goals first
     | exact bZ (View.eqv rfl rfl) (bn.eqv rfl (d_ cs row e))
     | exact aP
 rw[if_neg h5]at hu;by_cases h6:op=6
 ·rw[if_pos h6]at hu;rw[hu]at hn ⊢;subst h6;generalize ew (a*b)=r at *;cases r with
  | ok v =>
    have hv:v=⟨1,v.n,[]⟩:=hn;obtain⟨n,Qu⟩:∃ n,v.n=n:=⟨_,rfl⟩;rw[Qu]at hv;subst hv;refine br.bM (fY.go ?_) rfl (d_ _ _ _);unfold cj;intro Q aq au aA;simp only[nM,aY,aL,numOf,fH,valOf,bD]at *;repeat' first|refine ak ?_|refine bh (cf _) ?_|refine aj ?_ ?_<;>intro hw<;>try omega|fail
    all_goals first
     | exact bZ (View.eqv rfl rfl) (bn.eqv rfl (d_ cs row 0))
     | exact aP
  | err e =>
    have he:e≠0:=hn;have cf:=cf e;refine br.bM (fY.go ?_) rfl (d_ _ _ _);unfold cj;intro Q aq au aA;simp only[nM,aY,aL,numOf,fH,valOf,bD]at *;repeat' first|refine ak ?_|refine bh cf ?_|refine aj ?_ ?_<;>intro hw<;>try omega|fail
    all_goals first
     | exact bZ (View.eqv rfl rfl) (bn.eqv rfl (d_ cs row e))
     | exact aP
 rw[if_neg h6]at hu;rw[hu]at hn ⊢;generalize pK a b=r at *;cases r with
 | ok v =>
   have hv:v=⟨1,v.n,[]⟩:=hn;obtain⟨n,Qu⟩:∃ n,v.n=n:=⟨_,rfl⟩;rw[Qu]at hv;subst hv;refine br.bM (fY.go ?_) rfl (d_ _ _ _);unfold cj;intro Q aq au aA;simp only[nM,aY,aL,numOf,fH,valOf,bD]at *;repeat' first|refine ak ?_|refine bh (cf _) ?_|refine aj ?_ ?_<;>intro hw<;>try omega|fail
   all_goals first
    | exact bZ (View.eqv rfl rfl) (bn.eqv rfl (d_ cs row 0))
    | exact aP
 | err e =>
   have he:e≠0:=hn;have cf:=cf e;refine br.bM (fY.go ?_) rfl (d_ _ _ _);unfold cj;intro Q aq au aA;simp only[nM,aY,aL,numOf,fH,valOf,bD]at *;repeat' first|refine ak ?_|refine bh cf ?_|refine aj ?_ ?_<;>intro hw<;>try omega|fail
   all_goals first
    | exact bZ (View.eqv rfl rfl) (bn.eqv rfl (d_ cs row e))
    | exact aP
