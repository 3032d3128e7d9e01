/- Part. -/
import Derived.Test.YthakfmmgnjpmdaaGreatDoorW33
set_option linter.all false
set_option maxHeartbeats 2000000
namespace Go.Proofs.YthakfmmgnjpmdaaGreatDoor
open Go.AM
set_option maxRecDepth 4000
section
variable {P:Program}
def abl(v:AV){K:FuncId->List AV->Prop}(_:Tg K): Prop:=match v with
 | .fn (.func n) first cap=>K n (first++cap)
 | _=>False
def afu(P:Program)(QD:FuncId->List AV->AQ)(x:AX)(rest:cY)(e:Env)(σ : ae): Prop:=abl (x.ev e) (.mk:Tg fun n args=>iJ P rest (QD n args) e σ)
def TI(n:FuncId)(first cap:List AV)(K:FuncId->List AV->Prop): abl (.fn (.func n) first cap) (.mk:Tg K)=K n (first++cap):=_root_.id rfl
def TJ(QD:FuncId->List AV->AQ)(x:AX)(rest:cY)(e:Env)(σ : ae): afu P QD x rest e σ = abl (x.ev e) (.mk:Tg fun n args=>iJ P rest (QD n args) e σ):=_root_.id rfl
def xM(Q:AQ)(QD:FuncId->List AV->AQ)(a:cY)(d:sv)(e:Env)(σ : ae): sv.wp P Q QD (.seq a d) e σ = iJ P a (mo (sv.wp P Q QD d) Q) e σ:=_root_.id rfl
def TL(Q:AQ)(QD:FuncId->List AV->AQ)(ops:List cH)(x:AX)(rest:cY)(e:Env)(σ : ae): sv.wp P Q QD (.dfr ops x rest) e σ = eU P (mo (afu P QD x rest) Q) ops e σ:=by
 show eU P (mo _ Q) ops e σ = eU P (mo _ Q) ops e σ
 congr 2
def abm(T:TypeId)(ok:Bool)(z v:AV){K:AV->Prop}(_:Tg K): Prop:=xV T ok z v K
@[go_sem ↓] def ajI (T:TypeId) (ok:Bool) (z:AV) (x:AX) (e:Env) (σ : ae) (K Kp:AV->ae->Prop):bg.run P (.ex (.Od T ok z) [x]) e σ K Kp=abm T ok z (x.ev e) (.mk:Tg fun v=>K v σ):=_root_.id rfl
@[go_sem] def ahr (T:TypeId) (z v:AV) (K:AV->Prop):abm T false z (.lq T v) (.mk:Tg K)=K v:=by simp[abm,xV]
def dZ.adx {f : FuncId} {fn : Func} {h : Hints} {df : N8} {args : List AV} {σ : ae} {R : Out → ae → Prop} (hf : P.funcs[f]? = some fn) (hn : (fn.name == "runtime.NumGoroutine") = false) (hc : zp P h fn = some df) (hl : args.length ≤ df.nt)
    (hw : ∀ (Q : AQ) (QD : FuncId -> List AV -> AQ), (∀ e σ, Q .ret e σ = lK e σ df.results fun vs => R (.ret (oneOf vs)) σ) -> (∀ n az e σ, QD n az .ret e σ = uz P n az none σ fun σ' => lK e σ' df.results fun vs => R (.ret (oneOf vs)) σ') ->
      (∀ n az v e σ,QD n az (.panic v) e σ = uz P n az (some v) σ fun σ'=>lK e σ' df.results fun vs=>R (.ret (oneOf vs)) σ')->df.body.wp P Q QD (kC args) σ):dZ P f args σ R :=
 dZ.afs hf hn hc hl (hw _ _ (fun _ _=>rfl) (fun _ _ _ _=>rfl) (fun _ _ _ _ _=>rfl))
end
def HG: cY:= .seq (.region [⟨.mv (.t 2),(some 4),none⟩,⟨.qV true .i (.t 4) (.c .kj),(some 5),none⟩])<|
 .cond (.t 5) (.draw [⟨.build [(.int .i64 0),(.int .i64 0),(.str [])] [],(some 6),none⟩,⟨.mv (.t 2),(some 7),none⟩,⟨.ex (.Od 29 false (.int .i64 0)) [(.t 7)],(some 8),none⟩,⟨.store 3 (.t 0) (.t 6),none,none⟩,⟨.store 1 (.t 1) (.t 8),none,none⟩] []) (.skip)
def ED: Ci:=⟨9,3,[(.t 3,some 2)],HG⟩
def EE: HF Tryz.prog {} Tryz.f113=some ED:=by kernel_rfl
def EF: sv:= .seq (.region [⟨.box (.t 0),(some 3),none⟩,⟨.alloc none [(.int .i64 0),(.int .i64 0),(.str [])],(some 6),none⟩,⟨.alloc none [(.int .i64 0)],(some 7),none⟩])<|
 .seq (.seq (.region [⟨.load true 6 (.t 3),(some 10),none⟩,⟨.call false (.c (.fn (.func 112) [] [])) [(.t 10)],(some 11),none⟩,⟨.bin .neq (.t 11) (.c (.int .i64 0)),(some 12),none⟩,⟨.mv (.t 12),(some 13),none⟩,⟨.mv (.t 1),(some 14),some (13,false)⟩,⟨.len false (.t 14),(some 15),some (13,false)⟩,⟨.mv (.t 2),(some 16),some (13,false)⟩,⟨.len false (.t 16),(some 17),some (13,false)⟩,⟨.bin .neq (.t 15) (.t 17),(some 18),some (13,false)⟩,⟨.pick (.t 13) (.c (.bool true)) (.t 18),(some 19),none⟩])<|
 .cond (.t 19) (.seq (.region [⟨.build [(.int .i64 0),(.int .i64 0),(.str [])] [],(some 20),none⟩,⟨.store 3 (.t 6) (.t 20),none,none⟩,⟨.store 1 (.t 7) (.c (.int .i64 2)),none,none⟩])<|
 .ret) (.skip))<|
 .seq (.seq (.region [⟨.mv (.t 2),(some 21),none⟩,⟨.len false (.t 21),(some 22),none⟩,⟨.mv (.c (.int .i64 0)),(some 23),none⟩])<|
 .block 0 (.loop (.seq (.region [⟨.bin .lss (.t 23) (.t 22),(some 24),none⟩])<|
 .seq (.cond (.t 24) (.skip) (.exit 0))<|
 .seq (.block 1 (.seq (.region [⟨.jT ⟨true,3⟩ none (.t 21) (.t 23),(some 25),none⟩,⟨.load true 3 (.t 25),(some 26),none⟩,⟨.alloc none [(.int .i64 0),(.int .i64 0),(.str [])],(some 9),none⟩,⟨.store 3 (.t 9) (.t 26),none,none⟩])<|
 .seq (.region [⟨.load true 3 (.t 9),(some 27),none⟩,⟨.call false (.c (.fn (.func 83) [] [])) [(.t 27)],(some 28),none⟩,⟨.bin .neq (.t 28) (.c (.int .i64 0)),(some 29),none⟩])<|
 .cond (.t 29) (.seq (.region [⟨.build [(.int .i64 0),(.int .i64 0),(.str [])] [],(some 30),none⟩,⟨.store 3 (.t 6) (.t 30),none,none⟩,⟨.store 1 (.t 7) (.c (.int .i64 2)),none,none⟩])<|
 .ret) (.skip)))<|
 .region [⟨.bin .add (.t 23) (.c (.int .i64 1)),(some 31),none⟩,⟨.mv (.t 31),(some 23),none⟩])))<|
 .dfr [⟨.rH (.func 113) [] [(.t 6),(.t 7)],(some 32),none⟩] (.t 32)<|
 .seq (.region [⟨.mv (.t 1),(some 33),none⟩,⟨.mv (.t 2),(some 34),none⟩,⟨.build [.aA,.aA] [(0,1,(.t 33)),(1,1,(.t 34))],(some 35),none⟩,⟨.load true 6 (.t 3),(some 36),none⟩,⟨.call false (.c (.fn (.func 114) [] [])) [(.t 35),(.t 36)],(some 37),none⟩,⟨.store 3 (.t 6) (.t 37),none,none⟩,⟨.store 1 (.t 7) (.c (.int .i64 0)),none,none⟩])<|
 .ret
def ady: N8:=⟨38,[.cell 6 true 3,.cell 7 false 1],EF⟩
def VQ: zp Tryz.prog {} Tryz.f72=some ady:=by kernel_rfl
def HI{σ : ae}{R:ae->Prop}{k l:Nat}(h:R σ): uz aH 113 [.ref k 0,.ref l 0] none σ R:=by
 refine uz.of_wp Tryz.func113 (by kernel_rfl) EE (iC rfl) ?_;unfold Ci.wp;simp only[ED,KS];obtain⟨Q,hQ⟩:∃ Q:AQ,Q=KU R:=⟨_,rfl⟩;have aC:∀ e σ,Q .normal e σ = R σ:=fun e σ=>by rw[hQ];rfl
 have aB:=aC;have aD:=aC;rw[<-hQ];unfold HG;simp (disch:=omega) only[go_sem,aC,Option.getD_none,qa,oX];exact h
def HJ{σ : ae}{R:ae->Prop}{k l:Nat}{x y z w:AV}{e:Int}(hk : σ[k]? = some (.cells [x,y,z]))(hl:(σ.set k (.cells [I 0,I 0,.str []]))[l]? = some (.cells [w]))(h:R ((σ.set k (.cells [I 0,I 0,.str []])).set l (.cells [I e]))): uz aH 113 [.ref k 0,.ref l 0] (some (qP e)) σ R:=by
 refine uz.of_wp Tryz.func113 (by kernel_rfl) EE (iC rfl) ?_;unfold Ci.wp;simp only[ED,KS];obtain⟨Q,hQ⟩:∃ Q:AQ,Q=KU R:=⟨_,rfl⟩;have aC:∀ e σ,Q .normal e σ = R σ:=fun e σ=>by rw[hQ];rfl
 have aB:=aC;have aD:=aC;rw[<-hQ];unfold HG;simp (disch:=omega) only[go_sem,aC,bw,qa,oX,qP];repeat' first|simp (disch:=omega) only[go_sem,aB,aC,aD,hk,hl]|refine au ?_|refine aq ?_ ?_<;>intro hw<;>try omega|fail
 exact h
def zX: iW->AV
 | .ok v=> .bH [bX v,I 0]
 | .err e=> .bH [bX v0,I e]
def Bb(v:aL): zX (.ok v) = .bH [bX v,I 0]:=rfl
def sO(e:Int): zX (.err e) = .bH [bX v0,I e]:=rfl
def Ck{x:Expr}{cs:List cN}{row:List aL}{r:AV} (h:∀ (Q:AQ) (QD:FuncId->List AV->AQ),(∀ e σ,Q .ret e σ = lK e σ [.cell 6 true 3,.cell 7 false 1] fun vs=> ∃ r0,Out.ret (oneOf vs) = .ret r0/\View σ r0 r) ->
 (∀ n az e σ,QD n az .ret e σ = uz aH n az none σ fun σ'=>lK e σ' [.cell 6 true 3,.cell 7 false 1] fun vs=> ∃ r0,Out.ret (oneOf vs) = .ret r0/\View σ' r0 r) ->
 (∀ n az v e σ, QD n az (.panic v) e σ = uz aH n az (some v) σ fun σ' => lK e σ' [.cell 6 true 3, .cell 7 false 1] fun vs => ∃ r0, Out.ret (oneOf vs) = .ret r0 /\ View σ' r0 r) -> sv.wp Tryz.prog Q QD EF (kC [aT x, bV cs, aW row]) []) :
    aM aH 72 [aT x,bV cs,aW row] r :=
 aM.UL (dZ.adx Tryz.func72 (by kernel_rfl) VQ (iC rfl) h) (by simp)
def ME{x:Expr}{cs:List cN}{row:List aL}(h:¬ (cq x=true/\cs.length=row.length/\yz row=true)): jx x cs row = .err 2:=by
 unfold jx;rw[if_neg (by simpa[aj,and_assoc]using h)]
def VT{x:Expr}{cs:List cN}{row:List aL}(h1:cq x=true)(h2:cs.length=row.length)(h3:yz row=true): jx x cs row=rY cs row x:=by
 unfold jx;rw[if_pos (by simp[h1,h2,h3])]
def EG(x:Expr)(cs:List cN)(row:List aL)(hx:ig x)(hz:fW x<=2 ^ 60)(Es:cs.length<=2 ^ 60)(hr:row.length<=2 ^ 40)(hrow:∀ w ∈ row,tC w): aM aH 72 [aT x,bV cs,aW row] (zX (jx x cs row)):=by
 have c1:=ym x hx hz;by_cases h1:cq x=true/\cs.length=row.length
 case neg =>
  rw[ME (fun h=>h1 ⟨h.1,h.2.1⟩),sO];refine Ck fun Q QD aB hDr hDp=>?_;have aC:=aB;have aD:=aB;unfold EF;rw[bq]at c1 ⊢;simp only[bV,aW];cases x7:cq x with
  | true =>
    have hl:cs.length≠row.length:=fun h=>h1 ⟨x7,h⟩;simp only[x7,ie,if_true]at c1;repeat' first|simp (disch:=omega) only[go_sem,aB,aC,aD,xM]|refine au ?_|refine aq ?_ ?_<;>intro hw<;>try omega|fail
    all_goals first|exact bx rfl rfl|exact a_
  | false =>
    simp only[x7,ie,aG,if_false]at c1;repeat' first|simp (disch:=omega) only[go_sem,aB,aC,aD,xM]|refine au ?_|refine aq ?_ ?_<;>intro hw<;>try omega|fail
    all_goals first|exact bx rfl rfl|exact a_
 obtain⟨x7,hl⟩:=h1;simp only[x7,ie,if_true]at c1;have cv:=fun i (hi:i<row.length)=>jM (row.getD i default).kind (row.getD i default).n (row.getD i default).s (hrow _ (bn hi)).1.1 (hrow _ (bn hi)).1.2;cases Ai:yz row with
 | false =>
   rw[ME (fun h=>by rw[h.2.2]at Ai;cases Ai),sO]
   obtain⟨j,hj,hb⟩:∃ j,j<row.length/\br (row.getD j default)=false:=by
    unfold yz at Ai;rw[List.all_eq_false]at Ai;obtain⟨v,hv,hn⟩:=Ai;obtain⟨j,hj,rfl⟩:=bP hv;exact⟨j,hj,by rw[ai,aF hj];simpa using hn⟩
   refine Ck fun Q QD aB hDr hDp=>?_;have aC:=aB;have aD:=aB;unfold EF;rw[bq]at c1 ⊢;simp only[bV,aW];repeat' first|simp (disch:=omega) only[go_sem,aB,aC,aD,xM]|refine au ?_|refine aq ?_ ?_<;>intro hw<;>try omega|fail
   with_reducible refine bE [9,23,24,25,26,27,28,29,30,31] (fun q:Nat × List bj=>[(23,I q.1)]) (fun q=> .cells [I x.op,I x.v.kind,I x.v.n,.str x.v.s,.str x.s,.aN false EX (x.l.map aT)]:: .cells [I 0,I 0,.str []]:: .cells [I 0]::q.2) (fun q=>q.1<=j) (fun q=>row.length-q.1) (0,[]) ?_ ?_ ?_ ?_
   ·simp
   ·rfl
   ·exact at_
   rintro⟨i,τ⟩ r h2;dsimp only at h2;have hi:i<row.length:=by omega
   have c:=cv i hi;have hij:i=j->br (row.getD i default)=false:=fun e=>by rw[e];exact hb
   obtain⟨v,hv⟩:∃ v,row.getD i default=v:=⟨_,rfl⟩;rw[hv]at c hij;have ev:br ⟨v.kind,v.n,v.s⟩=br v:=rfl;rw[ev]at c;cases gG:br v with
   | true =>
     have hne:i≠j:=fun e=>by rw[hij e]at gG;cases gG
     simp only[gG,ie,if_true]at c;repeat' first|simp (disch:=omega) only[go_sem,aB,aC,aD,hv]|refine au ?_|refine eZ c ?_|refine aq ?_ ?_<;>intro hw<;>try omega|fail
     refine⟨(i+1,τ++[.cells [I v.kind,I v.n,.str v.s]]),?_,?_,by first|rfl|(simp[go_sem];done),cZ,at_⟩
     ·dsimp only;omega
     ·dsimp only;omega
   | false =>
     simp only[gG,ie,aG,if_false]at c;repeat' first|simp (disch:=omega) only[go_sem,aB,aC,aD,hv]|refine au ?_|refine eZ c ?_|refine aq ?_ ?_<;>intro hw<;>try omega|fail
     exact bx rfl rfl
 | true =>
   rw[VT x7 hl Ai];have hg:∀ w ∈ row,gk w:=fun w hw=>⟨aV.1 Ai w hw,hrow w hw⟩;have eH:=Jq cs row hl Es hg x ⟨x7,hx,hz⟩;generalize rY cs row x=r at *;refine Ck fun Q QD aB hDr hDp=>?_;have aC:=aB;have aD:=aB;unfold EF;simp only[qQ]at eH;rw[bq]at c1 eH ⊢;simp only[bV,aW]at eH ⊢;repeat' first|simp (disch:=omega) only[go_sem,aB,aC,aD,xM]|refine au ?_|refine aq ?_ ?_<;>intro hw<;>try omega|fail
   with_reducible refine bE [9,23,24,25,26,27,28,29,30,31] (fun q:Nat × List bj=>[(23,I q.1)]) (fun q=> .cells [I x.op,I x.v.kind,I x.v.n,.str x.v.s,.str x.s,.aN false EX (x.l.map aT)]:: .cells [I 0,I 0,.str []]:: .cells [I 0]::q.2) (fun q=>q.1<=row.length) (fun q=>row.length-q.1) (0,[]) ?_ ?_ ?_ ?_
   ·simp
   ·rfl
   ·exact at_
   rintro⟨i,τ⟩ r' h2;dsimp only at h2;by_cases hi:i<row.length
   ·have c:=cv i hi;have gG:=(hg _ (bn hi)).1;obtain⟨v,hv⟩:∃ v,row.getD i default=v:=⟨_,rfl⟩;rw[hv]at c gG;have ev:br ⟨v.kind,v.n,v.s⟩=br v:=rfl;rw[ev]at c;simp only[gG,ie,if_true]at c;repeat' first|simp (disch:=omega) only[go_sem,aB,aC,aD,hv]|refine au ?_|refine eZ c ?_|refine aq ?_ ?_<;>intro hw<;>try omega|fail
    refine⟨(i+1,τ++[.cells [I v.kind,I v.n,.str v.s]]),?_,?_,by first|rfl|(simp[go_sem];done),cZ,at_⟩
    ·dsimp only;omega
    ·dsimp only;omega
   ·cases r with
    | ok v =>
      have eH:aM aH 114 _ (bX v):=eH;rw[Bb]at *;simp only[bX]at eH;repeat' first|simp (disch:=omega) only[go_sem,aB,aC,aD,xM,TL,TJ,TI,hDr,hDp]|refine au ?_|with_reducible refine HI ?_|refine aq ?_ ?_<;>intro hw<;>try omega|fail
      exact bx rfl rfl
    | err e =>
      have eH:cQ aH 114 _ (.panic (qP e)):=eH;rw[sO]at *;repeat' first|simp (disch:=omega) only[go_sem,aB,aC,aD,xM,TL,TJ,TI,hDr,hDp]|refine au ?_|refine A4 eH ?_|with_reducible refine HJ rfl rfl ?_|refine aq ?_ ?_<;>intro hw<;>try omega|fail
      exact bx rfl rfl
end Go.Proofs.YthakfmmgnjpmdaaGreatDoor
namespace Go.Proofs.YthakfmmgnjpmdaaGreatDoor
open Go.AM
set_option maxRecDepth 4000
end Go.Proofs.YthakfmmgnjpmdaaGreatDoor
namespace Go.Proofs.YthakfmmgnjpmdaaGreatDoor
open Go.AM
set_option maxRecDepth 4000
def adz{l:List aL}{i:Nat}(hi:i<l.length)(h:br (l.getD i default)=false): l.all br=false:=by
 rw[List.all_eq_false];exact⟨_,bn hi,by rw[h];simp⟩
def afv{l:List aL}(h:∀ k,k<l.length->br (l.getD k default)=true): l.all br=true:=by
 rw[aV];intro v hv;obtain⟨k,hk,rfl⟩:=bP hv;have:=h k hk;rwa[ai,aF hk]at this
def valOf: iW->aL
 | .ok v=>v
 | .err _=>v0
end Go.Proofs.YthakfmmgnjpmdaaGreatDoor
namespace Go.Proofs.YthakfmmgnjpmdaaGreatDoor
open Go.AM
set_option maxRecDepth 4000
end Go.Proofs.YthakfmmgnjpmdaaGreatDoor
namespace Go.Proofs.YthakfmmgnjpmdaaGreatDoor
open Go.AM
set_option maxRecDepth 4000
def Bc{e:Int}(h:(iW.err e).good): e≠0:=by
 have h:e=2\/e=5\/e=13\/e=14\/e=15\/e=16:=h;omega
def gi(a:aL): bX a = .agg [I a.kind,I a.n,.str a.s]:=rfl
end Go.Proofs.YthakfmmgnjpmdaaGreatDoor
namespace Go.Proofs.YthakfmmgnjpmdaaGreatDoor
open Go.AM
set_option maxRecDepth 4000
end Go.Proofs.YthakfmmgnjpmdaaGreatDoor
namespace Go.Proofs.YthakfmmgnjpmdaaGreatDoor
open Go.AM
set_option maxRecDepth 4000
def uA{σ : ae}{x y B:Bool}(h:B=y)(hx:x=y): ∃ r0,Out.ret (oneOf [AV.bool x])=Out.ret r0/\View σ r0 (AV.bool B):=by
 subst h;subst hx;exact aU rfl rfl
end Go.Proofs.YthakfmmgnjpmdaaGreatDoor
namespace Go.Proofs.YthakfmmgnjpmdaaGreatDoor
open Go.AM
set_option maxRecDepth 4000
def VU{c:Cell}{v:aL}{cs:List cN}{row:List aL}(h:¬ (gP c=true/\br v=true/\cs.length=row.length/\yz row=true)): mX c v cs row=(false,2):=by
 unfold mX;rw[if_neg];intro h2;simp only[aj,decide_eq_true_eq]at h2;exact h ⟨h2.1.1.1,h2.1.1.2,h2.1.2,h2.2⟩
def Sd{c:Cell}{v:aL}{cs:List cN}{row:List aL}(h1:gP c=true)(h2:br v=true)(h3:cs.length=row.length)(h4:yz row=true): mX c v cs row=uv cs row v c.any c.neg c.tests:=by
 unfold mX;rw[if_pos (by simp[h1,h2,h3,h4])]
section
variable {α : Type} (τ : List α) (x y z w : α)
def ap3: τ++[x]++[y]++[z] = τ++[x,y,z]:=by simp
def YE: τ++[x]++[y] = τ++[x,y]:=by simp
def ake: (τ++[x]++[y]++[z])[τ.length+1]? = some y:=by rw[ap3,bp (by omega)];simp
def afw: (τ++[x]++[y])[τ.length]? = some x:=by rw[YE];simp
def aiR: (τ++[x]++[y])[τ.length+1]? = some y:=by rw[YE,bp (by omega)];simp
def aiS: (τ++[x]++[y]).set (τ.length+1) w = τ++[x]++[w]:=by rw[YE,YE,fL _ _ (by omega),show τ.length+1 - τ.length=1 by omega];rfl
end
def MG(p:Bool × Int): AV:= .bH [.bool p.1,I p.2]
def r9{σ : ae}{b:Bool}{e:Int}{p:Bool × Int}(h:p=(b,e)): ∃ r0,Out.ret (oneOf [AV.bool b,I e])=Out.ret r0/\View σ r0 (MG p):=by
 subst h;exact bx rfl rfl
end Go.Proofs.YthakfmmgnjpmdaaGreatDoor
namespace Go.Proofs.YthakfmmgnjpmdaaGreatDoor
open Go.AM
set_option maxRecDepth 4000
def Be(l:List aL)(v:aL)(hl:l.length<=2 ^ 60): aM aH 206 [aW l,bX v] (.bool (l.any fun x=>x==v)):=by
 have c:=qM l v hl;rw[<-vq];generalize kr _ l=i at *;simp only[aW,gi]at c ⊢;refine aR yh ?_;intro Q aB aC aD;repeat' first|refine au ?_|refine eZ c ?_|refine aq ?_ ?_<;>intro hw<;>try omega|fail
 all_goals exact aU rfl rfl
def VW{v:aL}(h:br v=true): (v==v0)=dB v:=by
 unfold dB;rw[cG,beq_iff_eq,decide_eq_true_eq];exact⟨fun e=>by rw[e];rfl,fun e=>ado h e⟩
def zq(t:Test)(a b:aL): List aL:=if t.kind=6 then [a,b]else [a]
def Se(t:Test)(v a b:aL)(ha:br a=true)(hb:br b=true)(h6:¬ t.kind=6->b=a)(hk6:1<=t.kind/\t.kind<=6): aM aH 182 [dA t,bX v,aW (zq t a b)] (.bool (ur t v a b)):=by
 have c0:=Be (zq t a b) v0 (by unfold zq;split<;>simp)
 have B7:((zq t a b).any fun x=>x==v0)=(dB a || dB b):=by
  unfold zq;split
  ·simp[VW ha,VW hb]
  ·rename_i h;rw[h6 h];simp[VW ha]
 rw[B7]at c0;have c1:=nq v a;have c2:=nq v b;have hD:=A7 v a;obtain⟨B,hB⟩:∃ B,ur t v a b=B:=⟨_,rfl⟩;rw[hB];obtain⟨m1,h1⟩:∃ m,iM v a=m:=⟨_,rfl⟩;obtain⟨m2,h2⟩:∃ m,iM v b=m:=⟨_,rfl⟩;rw[h1]at c1;rw[h2]at c2;obtain⟨N,hN⟩:∃ N,(dB a || dB b)=N:=⟨_,rfl⟩;rw[hN]at c0;clear ha hb B7;obtain⟨k,ta,tb,lo,hi⟩:=t;unfold zq at *;dsimp only at *;by_cases hk:k=6
 ·rw[if_pos hk]at *;simp only[dA,aW,bf,cJ,gi v,gi a,gi b,gi v0]at c0 c1 c2 ⊢;have e0:AV.agg [I v0.kind,I v0.n,.str v0.s]=AV.agg [I 0,I 0,.str []]:=rfl;rw[e0]at c0;refine aR Az ?_;intro Q aB aC aD;repeat' first|simp (disch:=omega) only[go_sem,aB,aC,aD,Int.reduceToNat]|refine au ?_|refine eZ c0 ?_|refine aq ?_ ?_<;>intro hw<;>try omega|fail
  all_goals first
   |(refine uA (hB.symm) ?_;unfold ur;rw[h1,h2,hD,Bool.or_assoc,hN];unfold dB;clear c0 c1 c2 hB hD hN aB aC aD;simp_all;done)
   | (refine uA (hB.symm) ?_; unfold ur; rw [h1, h2, hD, Bool.or_assoc, hN]; unfold dB; have h9 : decide (0 < m1) = false := decide_eq_false (by omega)
      rw[h9];clear h9 c0 c1 c2 hB hD hN h1 h2 aB aC aD;simp_all;done)
   | exact a_
   | skip
 ·have hba:=h6 hk;subst hba;rw[if_neg hk]at *;simp only[dA,aW,bf,cJ,gi v,gi b,gi v0]at c0 c1 c2 ⊢;have e0:AV.agg [I v0.kind,I v0.n,.str v0.s]=AV.agg [I 0,I 0,.str []]:=rfl;rw[e0]at c0;clear h6;refine aR Az ?_;intro Q aB aC aD;repeat' first|simp (disch:=omega) only[go_sem,aB,aC,aD,Int.reduceToNat]|refine au ?_|refine eZ c0 ?_|refine aq ?_ ?_<;>intro hw<;>try omega|fail
  all_goals first
   |(refine uA (hB.symm) ?_;unfold ur;rw[h1,hD,Bool.or_assoc,hN];unfold dB;clear c0 c1 c2 hB hD hN aB aC aD;simp_all;done)
   | exact a_
   | skip
end Go.Proofs.YthakfmmgnjpmdaaGreatDoor
namespace Go.Proofs.YthakfmmgnjpmdaaGreatDoor
open Go.AM
set_option maxRecDepth 4000
def HK(c:Cell)(v:aL)(cs:List cN)(row:List aL): Bool:=gP c && br v && decide (cs.length=row.length) && yz row
def TM(b:Bool): (ie b=0)↔b=true:=by cases b<;>simp[ie]
def oU{σ : ae}{x y:Int}(h:y=x): ∃ r0,Out.ret (oneOf [I x])=Out.ret r0/\View σ r0 (I y):=by
 subst h;exact aU rfl rfl
def abn(c:Cell)(v:aL)(cs:List cN)(row:List aL)(hc:oA c)(hv:tC v)(Es:cs.length<=2 ^ 60)(hr:row.length<=2 ^ 40)(hrow:∀ w ∈ row,tC w): aM aH 150 [dG c,bX v,bV cs,aW row] (I (if HK c v cs row=true then 0 else 2)):=by
 have c1:=xu c hc.ok;have c2:aM aH 83 [.agg [I v.kind,I v.n,.str v.s]] (I (ie (br v))):=jM v.kind v.n v.s hv.1.1 hv.1.2;have cv:=fun k (hk:k<row.length)=>(show aM aH 83 [.agg [I (row.getD k default).kind,I (row.getD k default).n,.str (row.getD k default).s]] (I (ie (br (row.getD k default)))) from jM _ _ _ (hrow _ (bn hk)).1.1 (hrow _ (bn hk)).1.2);clear hc hv hrow;obtain⟨R,hR⟩:∃ R,HK c v cs row=R:=⟨_,rfl⟩;rw[hR];by_cases h1:gP c=true/\br v=true/\cs.length=row.length
 case neg =>
  have e:R=false:=by
   rw[<-hR];unfold HK;cases h:(gP c && br v && decide (cs.length=row.length))with
   | false=>rfl
   | true=>simp only[aj,decide_eq_true_eq]at h;exact absurd ⟨h.1.1,h.1.2,h.2⟩ h1
  rw[e,if_neg (by decide)];have e1:=TM (gP c);have e2:=TM (br v);have h1:¬ (ie (gP c)=0/\ie (br v)=0/\cs.length=row.length):=fun h=>h1 ⟨e1.1 h.1,e2.1 h.2.1,h.2.2⟩;clear e1 e2 cv hR;generalize ie (gP c)=x1 at *;generalize ie (br v)=x2 at *;simp only[dG,jj,gi,bV,aW]at c1 c2 ⊢;refine aR F7 ?_;intro Q aB aC aD;repeat' first|refine au ?_|refine aq ?_ ?_<;>intro hw<;>try omega|fail
  all_goals first
   | exact oU rfl
   |(exfalso;exact h1 ⟨by omega,by omega,by omega⟩)
   | skip
 obtain⟨hrc,PY,hl⟩:=h1;have L2:yz row=R:=by rw[<-hR];unfold HK;simp[hrc,PY,hl]
 rw[hrc]at c1;rw[PY]at c2;have z:ie true=0:=rfl;rw[z]at c1 c2;clear hR z;simp only[dG,jj,gi,bV,aW]at c1 c2 ⊢;refine aR F7 ?_;intro Q aB aC aD;repeat' first|refine au ?_|refine aq ?_ ?_<;>intro hw<;>try omega|fail
 with_reducible refine bE [8,10,28,29,30,31,32,33,34,35] (fun q:Nat × List bj=>[(28,I q.1)]) (fun q=> .cells [.bool c.any,.bool c.neg,.aN false ES (c.tests.map dA)]:: .cells [I v.kind,I v.n,.str v.s]::q.2) (fun q=>q.1<=row.length/\ ∀ k,k<q.1->br (row.getD k default)=true) (fun q=>row.length-q.1) (0,[]) ?_ ?_ ?_ ?_
 ·simp
 ·rfl
 ·exact at_
 rintro⟨i,τ⟩ r ⟨g1,g2⟩;dsimp only at g1 g2;by_cases hi:i<row.length
 ·have c3:=cv i hi;have hne:=fun h=>adz hi h;have dV:=fun he=>bQ (q:=fun k=>br (row.getD k default)=true) g2 (i:=i) he;obtain⟨w,rG⟩:∃ w,row.getD i default=w:=⟨_,rfl⟩;rw[rG]at c3 hne dV;clear cv;cases hb:br w with
  | true =>
    have dV:=dV hb;rw[hb]at c3;have z:ie true=0:=rfl;rw[z]at c3;clear hne;repeat' first|simp (disch:=omega) only[go_sem,aB,aC,aD,rG]|refine au ?_|refine aq ?_ ?_<;>intro hw<;>try omega|fail
    all_goals first
     | exact a_
     |(refine⟨(i+1,τ++[.cells [I w.kind,I w.n,.str w.s]]),⟨by dsimp only;omega,dV⟩,by dsimp only;omega,by first|rfl|(simp[go_sem];done),cZ,at_⟩)
     | skip
  | false =>
    have e:R=false:=by rw[<-L2];exact hne hb
    rw[hb]at c3;have z:ie false=2:=rfl;rw[z]at c3;clear dV hne;repeat' first|simp (disch:=omega) only[go_sem,aB,aC,aD,rG]|refine au ?_|refine aq ?_ ?_<;>intro hw<;>try omega|fail
    all_goals first
     | exact a_
     | exact oU (by rw[e];rfl)
     | skip
 ·have e:R=true:=by rw[<-L2];exact afv fun k hk=>g2 k (by omega)
  clear cv;repeat' first|refine au ?_|refine aq ?_ ?_<;>intro hw<;>try omega|fail
  all_goals first
   | exact oU (by rw[e];rfl)
   | exact a_
   | skip
end Go.Proofs.YthakfmmgnjpmdaaGreatDoor
namespace Go.Proofs.YthakfmmgnjpmdaaGreatDoor
open Go.AM
set_option maxRecDepth 4000
def EH{α : Type}[Inhabited α]{p : α->Bool}{l:List α}{i:Nat}(hi:i<l.length)(h:p (l.getD i default)=false): l.all p=false:=by
 cases hq:l.all p with
 | false=>rfl
 | true=>rw[List.all_eq_true]at hq;rw[hq _ (bn hi)]at h;cases h
def EI{α : Type}[Inhabited α]{p : α->Bool}{l:List α}(h:∀ k,k<l.length->p (l.getD k default)=true): l.all p=true:=by
 rw[aV];intro x hx;obtain⟨i,hi,rfl⟩:=bP hx;have:=h i hi;rwa[ai,aF hi,bw]at this
def HL(t:Test)(v:aL)(o:List aL × Int): Bool × Int :=
 if o.2≠0 then(false,o.2)else if o.1.all (fun w=>n6 t v.kind w.kind)then (ur t v (o.1.getD 0 default) (o.1.getD (o.1.length-1) default),0)else (false,14)
def EJ{cs:List cN}{row:List aL}{x:Expr}{r:List Expr}{acc:List aL}{e:Int}(h:jx x cs row = .err e): jc cs row (x::r) acc=([],e):=by simp only[jc,h]
def Cl{cs:List cN}{row:List aL}{x:Expr}{r:List Expr}{acc:List aL}{v:aL}(h:jx x cs row = .ok v): jc cs row (x::r) acc=jc cs row r (acc++[v]):=by simp only[jc,h]
def EK{cs:List cN}{row:List aL}{acc:List aL}: jc cs row [] acc=(acc,0):=rfl
def Qs{t:Test}{v:aL}{l:List aL}{e:Int}(h:e≠0): HL t v (l,e)=(false,e):=by unfold HL;exact if_pos h
def KV{t:Test}{v:aL}{l:List aL}: HL t v (l,0)=if l.all (fun w=>n6 t v.kind w.kind)then (ur t v (l.getD 0 default) (l.getD (l.length-1) default),0)else (false,14):=by unfold HL;exact if_neg (by simp)
def afx{cs:List cN}{row:List aL}(v:aL)(t:Test)(ga:(jx t.a cs row).good)(gb:(jx t.b cs row).good): uu cs row v t=HL t v (jc cs row (po t) []):=by
 unfold uu po;cases ha:jx t.a cs row with
 | err e =>
   rw[ha]at ga;have he:=Bc ga;dsimp only;split<;>rw[EJ ha,Qs he]
 | ok a =>
   dsimp only;by_cases h6:t.kind=6
   ·rw[if_pos h6,if_pos h6,Cl ha];cases hb:jx t.b cs row with
    | err e =>
      rw[hb]at gb;have he:=Bc gb;dsimp only;rw[EJ hb,Qs he]
    | ok b =>
      dsimp only;rw[Cl hb,EK,KV];simp[yA]
   ·rw[if_neg h6,if_neg h6,Cl ha,EK,KV];simp[yA]
def abo(t:Test)(v:aL)(cs:List cN)(row:List aL)(ht:uj t)(hk6:1<=t.kind/\t.kind<=6)(Es:cs.length<=2 ^ 60)(hr:row.length<=2 ^ 40)(hrow:∀ w ∈ row,tC w): aM aH 151 [dA t,bX v,bV cs,aW row] (MG (uu cs row v t)):=by
 have gA:=oQ (cs:=cs) hrow ht.1.1;have gB:=oQ (cs:=cs) hrow ht.2.1;rw[afx v t gA gB];have cP:=Jd t
 have hps:(po t).length<=2/\ ∀ x ∈ po t,aM aH 72 [aT x,bV cs,aW row] (zX (jx x cs row))/\(jx x cs row).good:=by
  have a:=EG t.a cs row ht.1.1 (by have:=ht.1.2;omega) Es hr hrow;have b:=EG t.b cs row ht.2.1 (by have:=ht.2.2;omega) Es hr hrow;unfold po;split
  ·exact⟨by simp,fun x hx=>by rcases List.mem_cons.1 hx with rfl|hx;exact⟨a,gA⟩;rcases List.mem_cons.1 hx with rfl|hx;exact⟨b,gB⟩;cases hx⟩
  ·exact⟨by simp,fun x hx=>by rcases List.mem_cons.1 hx with rfl|hx;exact⟨a,gA⟩;cases hx⟩
 have hT:(po t).length=if t.kind=6 then 2 else 1:=by unfold po;split<;>rfl
 obtain⟨LP,eH⟩:=hps;have hf:=fun x=>Eb t v.kind x;have Ix:=fun a b ha hb h6=>Se t v a b ha hb h6 hk6;clear gA gB ht hk6 hrow;generalize po t=ps at *;obtain⟨R,hR⟩:∃ R,jc cs row ps []=R:=⟨_,rfl⟩;rw[hR];obtain⟨E,hE⟩:∃ E,HL t v R=E:=⟨_,rfl⟩;rw[hE];simp only[dA,dQ,bV,aW,gi v]at cP hf Ix ⊢;refine aR Rv ?_;intro Q aB aC aD;repeat' first|refine au ?_|refine aq ?_ ?_<;>intro hw<;>try omega|fail
 with_reducible refine bE [8,9,10,12,13,14,20,21,22,23,24,25,26,27,28,29,30,31,32,33,34,35,36,37,38] (fun q:List aL × List bj=>[(10,.own EV 2 q.1.length 0 q.1.length),(20,I q.1.length)]) (fun q=> .cells [I t.kind,I t.a.op,I t.a.v.kind,I t.a.v.n,.str t.a.v.s,.str t.a.s,.aN false EX (t.a.l.map aT),I t.b.op,I t.b.v.kind,I t.b.v.n,.str t.b.v.s,.str t.b.s,.aN false EX (t.b.l.map aT),.bool t.lo,.bool t.hi]:: .cells [I v.kind,I v.n,.str v.s]:: .vec EV (q.1.map bX)::q.2) (fun q=>q.1.length<=ps.length/\(∀ w ∈ q.1,gk w)/\jc cs row (ps.drop q.1.length) q.1=R) (fun q=>ps.length-q.1.length) ([],[]) ?_ ?_ ?_ ?_
 ·exact⟨by simp,by simp,by simpa using hR⟩
 ·rfl
 ·exact at_
 rintro⟨L,τ⟩ r ⟨h1,h2,h3⟩;dsimp only at h1 h2 h3;clear hR;by_cases hi:L.length<ps.length
 ·have hx:=eH _ (bn hi);rw[jW hi]at h3;obtain⟨x,hx0⟩:∃ x,ps.getD L.length default=x:=⟨_,rfl⟩;rw[hx0]at hx h3;obtain⟨cA,gA⟩:=hx;simp only[jc]at h3;generalize jx x cs row=ra at *;rw[bq]at cA;simp only[bV,aW]at cA;cases ra with
  | err e =>
    have he:=Bc gA;rw[sO]at cA;dsimp only at h3;simp only[gi]at cA;have YF:E=(false,e):=by rw[<-hE,<-h3];unfold HL;exact if_pos he
    repeat' first|simp (disch:=omega) only[go_sem,aB,aC,aD,hx0]|refine au ?_|refine aq ?_ ?_<;>intro hw<;>try omega|fail
    all_goals first|exact r9 YF|exact a_|skip
  | ok a =>
    rw[Bb]at cA;dsimp only at h3;simp only[gi]at cA;repeat' first|simp (disch:=omega) only[go_sem,aB,aC,aD,hx0]|refine au ?_|refine aq ?_ ?_<;>intro hw<;>try omega|fail
    all_goals first
     | (refine ⟨(L ++ [a], τ ++ [.cells [I x.op, I x.v.kind, I x.v.n, .str x.v.s, .str x.s, .aN false EX (x.l.map aT)]] ++ [.cells [I a.kind, I a.n, .str a.s]]), ⟨by dsimp only; simp only [List.length_append, List.length_cons, List.length_nil]; omega, fun w hw => ?_, by dsimp only; simp only [List.length_append, List.length_cons, List.length_nil]; exact h3⟩, by dsimp only; simp only [List.length_append, List.length_cons, List.length_nil]; omega, by simp [go_sem], cZ, at_⟩
        rcases List.mem_append.1 hw with hw|hw
        ·exact h2 w hw
        ·rcases List.mem_cons.1 hw with rfl|hw
         ·exact gA
         ·cases hw)
     | exact a_
     | skip
 ·rw[bK (by omega)]at h3;have hlen:L.length=ps.length:=by omega
  have h3:R=(L,0):=h3.symm;rw[h3,KV]at hE
  have Ed:L=zq t (L.getD 0 default) (L.getD (L.length-1) default):=by
   rw[hT]at hlen;unfold zq;by_cases h6:t.kind=6
   ·rw[if_pos h6]at hlen ⊢
    match L,hlen with
    | [a,b],_=>rfl
   ·rw[if_neg h6]at hlen ⊢
    match L,hlen with
    | [a],_=>rfl
  have Ms:0<L.length:=by rw[hlen,hT];split<;>omega
  have cp:=Ix (L.getD 0 default) (L.getD (L.length-1) default) (h2 _ (bn (by omega))).1 (h2 _ (bn (by omega))).1 (fun h6=>by
   have:L.length=1:=by rw[hlen,hT,if_neg h6]
   rw[this])
  rw[<-Ed]at cp;generalize ur t v (L.getD 0 default) (L.getD (L.length-1) default)=B at *
  have hno:∀ i,i<L.length->n6 t v.kind (L.getD i default).kind=false->E=(false,14):=fun i hi h=>by
   rw[<-hE,EH hi h];rfl
  have hyes:(∀ i,i<L.length->n6 t v.kind (L.getD i default).kind=true)->E=(B,0):=fun h=>by
   rw[<-hE,EI h];rfl
  clear hE eH Ix Ed h3 hT;repeat' first|refine au ?_|refine aq ?_ ?_<;>intro hw<;>try omega|fail
  with_reducible refine bE [8,9,16,41,42,43,44,45,46,47,48,49,50,51,52] (fun q:Nat × List bj=>[(41,I q.1)]) (fun q=> .cells [I t.kind,I t.a.op,I t.a.v.kind,I t.a.v.n,.str t.a.v.s,.str t.a.s,.aN false EX (t.a.l.map aT),I t.b.op,I t.b.v.kind,I t.b.v.n,.str t.b.v.s,.str t.b.s,.aN false EX (t.b.l.map aT),.bool t.lo,.bool t.hi]:: .cells [I v.kind,I v.n,.str v.s]:: .vec EV (L.map bX)::q.2) (fun q=>q.1<=L.length/\ ∀ k,k<q.1->n6 t v.kind (L.getD k default).kind=true) (fun q=>L.length-q.1) (0,τ) ?_ ?_ ?_ ?_
  ·simp
  ·rfl
  ·exact at_
  rintro⟨i,kM⟩ r' ⟨g1,g2⟩;dsimp only at g1 g2;by_cases hi:i<L.length
  ·have f:=hf (L.getD i default).kind;have hn:=hno i hi;have dV:=bQ (q:=fun k=>n6 t v.kind (L.getD k default).kind=true) g2 (i:=i);obtain⟨w,rG⟩:∃ w,L.getD i default=w:=⟨_,rfl⟩;rw[rG]at f hn dV;clear hno hyes hf;cases hb:n6 t v.kind w.kind with
   | false =>
     rw[hb]at f;have hn:=hn hb;clear dV;repeat' first|simp (disch:=omega) only[go_sem,aB,aC,aD,rG]|refine au ?_|refine aq ?_ ?_<;>intro hw<;>try omega|fail
     all_goals first|exact r9 hn|exact a_|skip
   | true =>
     rw[hb]at f;have dV:=dV hb;clear hn;repeat' first|simp (disch:=omega) only[go_sem,aB,aC,aD,rG]|refine au ?_|refine aq ?_ ?_<;>intro hw<;>try omega|fail
     all_goals first
      |(refine⟨(i+1,kM++[.cells [I w.kind,I w.n,.str w.s]]),⟨by dsimp only;omega,dV⟩,by dsimp only;omega,by first|rfl|(simp[go_sem];done),cZ,at_⟩)
      | exact a_
      | skip
  ·have hE:=hyes fun k hk=>g2 k (by omega);clear hno hyes hf;repeat' first|refine au ?_|refine F9 cp ?_|refine aq ?_ ?_<;>intro hw<;>try omega|fail
   all_goals first|exact r9 hE|exact a_|skip
end Go.Proofs.YthakfmmgnjpmdaaGreatDoor
namespace Go.Proofs.YthakfmmgnjpmdaaGreatDoor
open Go.AM
set_option maxRecDepth 4000
def VX{c:Cell}{t:Test}(h:gP c=true)(ht:t ∈ c.tests): 1<=t.kind/\t.kind<=6:=by
 unfold gP at h;split at h
 ·simp only[aj,decide_eq_true_eq]at h;rw[List.length_eq_zero_iff.1 h.2]at ht;cases ht
 ·simp only[aj,cy,iQ]at h;have:=h.2 t ht;simp only[cy,Bool.not_eq_false]at this;unfold jH at this;split at this
  ·omega
  ·simp only[aj,decide_eq_true_eq]at this;omega
def VY(c:Cell)(v:aL)(cs:List cN)(row:List aL)(hc:oA c)(hv:tC v)(Es:cs.length<=2 ^ 60)(hr:row.length<=2 ^ 40)(hrow:∀ w ∈ row,tC w): aM aH 111 [dG c,bX v,bV cs,aW row] (MG (mX c v cs row)):=by
 have c1:=abn c v cs row hc hv Es hr hrow;by_cases h1:HK c v cs row=true
 case neg =>
  rw[if_neg h1]at c1;rw[VU (by unfold HK at h1;simpa[Bool.and_eq_true,and_assoc]using h1)];simp only[dG,jj,gi v,bV,aW]at c1 ⊢;refine aR CK ?_;intro Q aB aC aD;repeat' first|refine au ?_|refine aq ?_ ?_<;>intro hw<;>try omega|fail
  all_goals first|exact r9 rfl|exact a_|skip
 rw[if_pos h1]at c1;have h2:gP c=true/\br v=true/\cs.length=row.length/\yz row=true:=by unfold HK at h1;simpa[Bool.and_eq_true,and_assoc]using h1
 rw[Sd h2.1 h2.2.1 h2.2.2.1 h2.2.2.2]
 have hA:∀ k,k<c.tests.length->aM aH 151 [dA (c.tests.getD k default),bX v,bV cs,aW row] (MG (uu cs row v (c.tests.getD k default))):=fun k hk=>by
  have ht:=hc.2 _ (bn hk);exact abo _ v cs row ht (VX h2.1 (bn hk)) Es hr hrow
 have hlen:=hc.1;clear hc hrow h1 h2;obtain⟨any,neg,L⟩:=c;dsimp only at *;obtain⟨R,hR⟩:∃ R,uv cs row v any neg L=R:=⟨_,rfl⟩;rw[hR];simp only[dG,jj,bV,aW,gi v]at c1 hA ⊢;refine aR CK ?_;intro Q aB aC aD;repeat' first|refine au ?_|refine aq ?_ ?_<;>intro hw<;>try omega|fail
 with_reducible refine bE [8,9,12,13,14,26,27,28,29,30,31,32,33,34,35,36,37,38,39,40,41,42,43,44,45,46,47] (fun q:Nat × List bj=>[(26,I q.1)]) (fun q=> .cells [.bool any,.bool neg,.aN false ES (L.map dA)]:: .cells [I v.kind,I v.n,.str v.s]::q.2) (fun q=>q.1<=L.length/\uv cs row v any neg (L.drop q.1)=R) (fun q=>L.length-q.1) (0,[]) ?_ ?_ ?_ ?_
 ·exact⟨by simp,by rw[gK];exact hR⟩
 ·rfl
 ·exact at_
 rintro⟨i,τ⟩ r ⟨g1,g2⟩;dsimp only at g1 g2;clear hR;by_cases hi:i<L.length
 ·have cA:=hA i hi;clear hA;rw[jW hi]at g2;obtain⟨t,ht⟩:∃ t,L.getD i default=t:=⟨_,rfl⟩;rw[ht]at cA g2;have hT:(if(uu cs row v t).2≠0 then(false,(uu cs row v t).2)else if(uu cs row v t).1=true then(!neg,0)else uv cs row v any neg (L.drop (i+1)))=R:=g2;clear g2;generalize uu cs row v t=p at *;obtain⟨p1,p2⟩:=p;dsimp only at hT;simp only[dA,dQ,MG]at cA;by_cases he:p2=0
  ·subst he;rw[if_neg (by decide)]at hT;cases p1 with
   | true =>
     rw[if_pos rfl]at hT;repeat' first|simp (disch:=omega) only[go_sem,aB,aC,aD,ht]|refine au ?_|refine aq ?_ ?_<;>intro hw<;>try omega|fail
     all_goals first|exact r9 hT.symm|exact a_|skip
   | false =>
     rw[if_neg (by decide)]at hT;repeat' first|simp (disch:=omega) only[go_sem,aB,aC,aD,ht]|refine au ?_|refine aq ?_ ?_<;>intro hw<;>try omega|fail
     all_goals first
      |(refine⟨(i+1,τ++[.cells [I t.kind,I t.a.op,I t.a.v.kind,I t.a.v.n,.str t.a.v.s,.str t.a.s,.aN false EX (t.a.l.map aT),I t.b.op,I t.b.v.kind,I t.b.v.n,.str t.b.v.s,.str t.b.s,.aN false EX (t.b.l.map aT),.bool t.lo,.bool t.hi]]),⟨by dsimp only;omega,hT⟩,by dsimp only;omega,by first|rfl|(simp[go_sem];done),cZ,at_⟩)
      | exact a_
      | skip
  ·rw[if_pos he]at hT;repeat' first|simp (disch:=omega) only[go_sem,aB,aC,aD,ht]|refine au ?_|refine aq ?_ ?_<;>intro hw<;>try omega|fail
   all_goals first|exact r9 hT.symm|exact a_|skip
 ·rw[bK (by omega)]at g2;have g2:(any || neg,0)=R:=g2;repeat' first|refine au ?_|refine aq ?_ ?_<;>intro hw<;>try omega|fail
  all_goals first
   | exact r9 (g2.symm.trans (by simp_all))
   | exact a_
   | skip
