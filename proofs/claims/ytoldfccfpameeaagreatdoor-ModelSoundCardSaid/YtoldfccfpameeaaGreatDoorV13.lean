/- Part. -/
import Derived.Test.YtoldfccfpameeaaGreatDoorV12
set_option linter.all false
set_option maxHeartbeats 4000000
namespace Go.Proofs.YtoldfccfpameeaaGreatDoor
open Go.AM
set_option maxRecDepth 4000
section
variable {P:Program}
def adU(v:AV){K:FuncId->List AV->Prop}(_:Tg K): Prop:=match v with
 | .fn (.func n) first cap=>K n (first++cap)
 | _=>False
def aif(P:Program)(QD:FuncId->List AV->AQ)(x:AX)(rest:dI)(e:Env)(σ : ai): Prop:=adU (x.ev e) (.mk:Tg fun n args=>jF P rest (QD n args) e σ)
def Wt(n:FuncId)(first cap:List AV)(K:FuncId->List AV->Prop): adU (.fn (.func n) first cap) (.mk:Tg K)=K n (first++cap):=_root_.id rfl
def Wu(QD:FuncId->List AV->AQ)(x:AX)(rest:dI)(e:Env)(σ : ai): aif P QD x rest e σ = adU (x.ev e) (.mk:Tg fun n args=>jF P rest (QD n args) e σ):=_root_.id rfl
def yw(Q:AQ)(QD:FuncId->List AV->AQ)(a:dI)(d:tG)(e:Env)(σ : ai): tG.wp P Q QD (.seq a d) e σ = jF P a (mD (tG.wp P Q QD d) Q) e σ:=_root_.id rfl
def Wv(Q:AQ)(QD:FuncId->List AV->AQ)(ops:List cW)(x:AX)(rest:dI)(e:Env)(σ : ai): tG.wp P Q QD (.dfr ops x rest) e σ = fh P (mD (aif P QD x rest) Q) ops e σ:=by
 show fh P (mD _ Q) ops e σ = fh P (mD _ Q) ops e σ
 congr 2
def adV(T:TypeId)(ok:Bool)(z v:AV){K:AV->Prop}(_:Tg K): Prop:=yJ T ok z v K
@[go_sem ↓] def anw (T:TypeId) (ok:Bool) (z:AV) (x:AX) (e:Env) (σ : ai) (K Kp:AV->ai->Prop):bA.run P (.ex (.QU T ok z) [x]) e σ K Kp=adV T ok z (x.ev e) (.mk:Tg fun v=>K v σ):=_root_.id rfl
@[go_sem] def akJ (T:TypeId) (z v:AV) (K:AV->Prop):adV T false z (.kR T v) (.mk:Tg K)=K v:=by simp[adV,yJ]
def cK.af8 {f : FuncId} {fn : Func} {h : Hints} {df : QG} {args : List AV} {σ : ai} {R : Out → ai → Prop} (hf : P.funcs[f]? = some fn) (hn : (fn.name == "runtime.NumGoroutine") = false) (hc : Ar P h fn = some df) (hl : args.length ≤ df.nt)
    (hw : ∀ (Q : AQ) (QD : FuncId -> List AV -> AQ), (∀ e σ, Q .ret e σ = mh e σ df.results fun vs => R (.ret (oneOf vs)) σ) -> (∀ n az e σ, QD n az .ret e σ = uS P n az none σ fun σ' => mh e σ' df.results fun vs => R (.ret (oneOf vs)) σ') ->
      (∀ n az v e σ,QD n az (.panic v) e σ = uS P n az (some v) σ fun σ'=>mh e σ' df.results fun vs=>R (.ret (oneOf vs)) σ')->df.body.wp P Q QD (kU args) σ):cK P f args σ R :=
 cK.aie hf hn hc hl (hw _ _ (fun _ _=>rfl) (fun _ _ _ _=>rfl) (fun _ _ _ _ _=>rfl))
end
def JJ: dI:= .seq (.region [⟨.mv (.t 2),(some 4),none⟩,⟨.pH true .i (.t 4) (.c .jR),(some 5),none⟩])<|
 .cond (.t 5) (.draw [⟨.build [(.int .i64 0),(.int .i64 0),(.str [])] [],(some 6),none⟩,⟨.mv (.t 2),(some 7),none⟩,⟨.ex (.QU 27 false (.int .i64 0)) [(.t 7)],(some 8),none⟩,⟨.store 3 (.t 0) (.t 6),none,none⟩,⟨.store 1 (.t 1) (.t 8),none,none⟩] []) (.skip)
def Gn: DC:=⟨9,3,[(.t 3,some 2)],JJ⟩
def Gp: JI Tryz.prog {} Tryz.f189=some Gn:=iQ
def Gq: tG:= .seq (.region [⟨.box (.t 0),(some 3),none⟩,⟨.alloc none [(.int .i64 0),(.int .i64 0),(.str [])],(some 6),none⟩,⟨.alloc none [(.int .i64 0)],(some 7),none⟩])<|
 .seq (.seq (.region [⟨.load true 6 (.t 3),(some 10),none⟩,⟨.call false (.c (.fn (.func 188) [] [])) [(.t 10)],(some 11),none⟩,⟨.bin .neq (.t 11) (.c (.int .i64 0)),(some 12),none⟩,⟨.mv (.t 12),(some 13),none⟩,⟨.mv (.t 1),(some 14),some (13,false)⟩,⟨.len false (.t 14),(some 15),some (13,false)⟩,⟨.mv (.t 2),(some 16),some (13,false)⟩,⟨.len false (.t 16),(some 17),some (13,false)⟩,⟨.bin .neq (.t 15) (.t 17),(some 18),some (13,false)⟩,⟨.pick (.t 13) (.c (.bool true)) (.t 18),(some 19),none⟩])<|
 .cond (.t 19) (.seq (.region [⟨.build [(.int .i64 0),(.int .i64 0),(.str [])] [],(some 20),none⟩,⟨.store 3 (.t 6) (.t 20),none,none⟩,⟨.store 1 (.t 7) (.c (.int .i64 2)),none,none⟩])<|
 .ret) (.skip))<|
 .seq (.seq (.region [⟨.mv (.t 2),(some 21),none⟩,⟨.len false (.t 21),(some 22),none⟩,⟨.mv (.c (.int .i64 0)),(some 23),none⟩])<|
 .block 0 (.loop (.seq (.region [⟨.bin .lss (.t 23) (.t 22),(some 24),none⟩])<|
 .seq (.cond (.t 24) (.skip) (.exit 0))<|
 .seq (.block 1 (.seq (.region [⟨.ff ⟨true,3⟩ none (.t 21) (.t 23),(some 25),none⟩,⟨.load true 3 (.t 25),(some 26),none⟩,⟨.alloc none [(.int .i64 0),(.int .i64 0),(.str [])],(some 9),none⟩,⟨.store 3 (.t 9) (.t 26),none,none⟩])<|
 .seq (.region [⟨.load true 3 (.t 9),(some 27),none⟩,⟨.call false (.c (.fn (.func 136) [] [])) [(.t 27)],(some 28),none⟩,⟨.bin .neq (.t 28) (.c (.int .i64 0)),(some 29),none⟩])<|
 .cond (.t 29) (.seq (.region [⟨.build [(.int .i64 0),(.int .i64 0),(.str [])] [],(some 30),none⟩,⟨.store 3 (.t 6) (.t 30),none,none⟩,⟨.store 1 (.t 7) (.c (.int .i64 2)),none,none⟩])<|
 .ret) (.skip)))<|
 .region [⟨.bin .add (.t 23) (.c (.int .i64 1)),(some 31),none⟩,⟨.mv (.t 31),(some 23),none⟩])))<|
 .dfr [⟨.tJ (.func 189) [] [(.t 6),(.t 7)],(some 32),none⟩] (.t 32)<|
 .seq (.region [⟨.mv (.t 1),(some 33),none⟩,⟨.mv (.t 2),(some 34),none⟩,⟨.build [.aU,.aU] [(0,1,(.t 33)),(1,1,(.t 34))],(some 35),none⟩,⟨.load true 6 (.t 3),(some 36),none⟩,⟨.call false (.c (.fn (.func 190) [] [])) [(.t 35),(.t 36)],(some 37),none⟩,⟨.store 3 (.t 6) (.t 37),none,none⟩,⟨.store 1 (.t 7) (.c (.int .i64 0)),none,none⟩])<|
 .ret
def af9: QG:=⟨38,[.cell 6 true 3,.cell 7 false 1],Gq⟩
def Yu: Ar Tryz.prog {} Tryz.f144=some af9:=iQ
def JK{σ : ai}{R:ai->Prop}{k l:Nat}(h:R σ): uS aI 189 [.ref k 0,.ref l 0] none σ R:=by
 refine uS.of_wp Tryz.func189 iQ Gp (Nat.le_of_ble_eq_true rfl) ?_;unfold DC.wp;simp only[Gn,Nk];obtain⟨Q,hQ⟩:∃ Q:AQ,Q=Nl R:=⟨_,rfl⟩;have aK:∀ e σ,Q .normal e σ = R σ:=fun e σ=>by rw[hQ];rfl
 have aJ:=aK;have aL:=aK;rw[<-hQ];unfold JJ;simp (disch:=omega) only[go_sem,aK,Option.getD_none,pG,p8];exact h
def JL{σ : ai}{R:ai->Prop}{k l:Nat}{x y z w:AV}{e:Int}(hk : σ[k]? = some (.cells [x,y,z]))(hl:(σ.set k (.cells [I 0,I 0,.str []]))[l]? = some (.cells [w]))(h:R ((σ.set k (.cells [I 0,I 0,.str []])).set l (.cells [I e]))): uS aI 189 [.ref k 0,.ref l 0] (some (rJ e)) σ R:=by
 refine uS.of_wp Tryz.func189 iQ Gp (Nat.le_of_ble_eq_true rfl) ?_;unfold DC.wp;simp only[Gn,Nk];obtain⟨Q,hQ⟩:∃ Q:AQ,Q=Nl R:=⟨_,rfl⟩;have aK:∀ e σ,Q .normal e σ = R σ:=fun e σ=>by rw[hQ];rfl
 have aJ:=aK;have aL:=aK;rw[<-hQ];unfold JJ;simp (disch:=omega) only[go_sem,aK,bO,pG,p8,rJ];repeat' first|refine cB (zA hk hl) ?_|refine aC ?_|refine aB ?_ ?_<;>intro hw<;>try omega|fail
 exact h
def Bp: jG->AV
 | .ok v=> .bR [cR v,I 0]
 | .err e=> .bR [cR v0,I e]
def Cn(v:aW): Bp (.ok v) = .bR [cR v,I 0]:=rfl
def tT(e:Int): Bp (.err e) = .bR [cR v0,I e]:=rfl
def DG{x:Expr}{cs:List cJ}{row:List aW}{r:AV} (h:∀ (Q:AQ) (QD:FuncId->List AV->AQ),(∀ e σ,Q .ret e σ = mh e σ [.cell 6 true 3,.cell 7 false 1] fun vs=> ∃ r0,Out.ret (oneOf vs) = .ret r0/\View σ r0 r) ->
 (∀ n az e σ,QD n az .ret e σ = uS aI n az none σ fun σ'=>mh e σ' [.cell 6 true 3,.cell 7 false 1] fun vs=> ∃ r0,Out.ret (oneOf vs) = .ret r0/\View σ' r0 r) ->
 (∀ n az v e σ, QD n az (.panic v) e σ = uS aI n az (some v) σ fun σ' => mh e σ' [.cell 6 true 3, .cell 7 false 1] fun vs => ∃ r0, Out.ret (oneOf vs) = .ret r0 /\ View σ' r0 r) -> tG.wp Tryz.prog Q QD Gq (kU [bt x, b_ cs, br row]) []) :
    aQ aI 144 [bt x,b_ cs,br row] r :=
 aQ.Xw (cK.af8 Tryz.func144 iQ Yu (Nat.le_of_ble_eq_true rfl) h) aR
def OZ{x:Expr}{cs:List cJ}{row:List aW}(h:¬ (dY x=true/\cs.length=row.length/\zf row=true)): j0 x cs row = .err 2:=by
 unfold j0;rw[aj (by simpa[aD,and_assoc]using h)]
def Yv{x:Expr}{cs:List cJ}{row:List aW}(h1:dY x=true)(h2:cs.length=row.length)(h3:zf row=true): j0 x cs row=s4 cs row x:=by
 unfold j0;rw[au (by simp[h1,h2,h3])]
def Gr(x:Expr)(cs:List cJ)(row:List aW)(hx:jj x)(hz:gM x<=2 ^ 60)(Gd:cs.length<=2 ^ 60)(hr:row.length<=2 ^ 40)(hrow:∀ w ∈ row,ug w): aQ aI 144 [bt x,b_ cs,br row] (Bp (j0 x cs row)):=by
 have c1:=y5 x hx hz;by_cases h1:dY x=true/\cs.length=row.length
 case neg =>
  rw[OZ (fun h=>h1 ⟨h.1,h.2.1⟩),tT];refine DG fun Q QD aJ hDr hDp=>?_;have aK:=aJ;have aL:=aJ;unfold Gq;rw[bK]at c1 ⊢;simp only[b_,br];cases yP:dY x with
  | true =>
    have hl:cs.length≠row.length:=fun h=>h1 ⟨yP,h⟩;simp only[yP,ji,if_true]at c1;repeat' first|simp (disch:=omega) only[go_sem,aJ,aK,aL,yw]|refine aC ?_|refine aB ?_ ?_<;>intro hw<;>try omega|fail
    all_goals first|exact cg rfl rfl|exact bI
  | false =>
    simp only[yP,ji,aP,if_false]at c1;repeat' first|simp (disch:=omega) only[go_sem,aJ,aK,aL,yw]|refine aC ?_|refine aB ?_ ?_<;>intro hw<;>try omega|fail
    all_goals first|exact cg rfl rfl|exact bI
 obtain⟨yP,hl⟩:=h1;simp only[yP,ji,if_true]at c1;have cv:=fun i (hi:i<row.length)=>lR (row.getD i default).kind (row.getD i default).n (row.getD i default).s (hrow _ (bx hi)).1.1 (hrow _ (bx hi)).1.2;cases BG:zf row with
 | false =>
   rw[OZ (fun h=>by rw[h.2.2]at BG;cases BG),tT]
   obtain⟨j,hj,hb⟩:∃ j,j<row.length/\bZ (row.getD j default)=false:=by
    unfold zf at BG;rw[g_]at BG;obtain⟨v,hv,hn⟩:=BG;obtain⟨j,hj,rfl⟩:=bP hv;exact⟨j,hj,by rw[aq,aG hj];simpa using hn⟩
   refine DG fun Q QD aJ hDr hDp=>?_;have aK:=aJ;have aL:=aJ;unfold Gq;rw[bK]at c1 ⊢;simp only[b_,br];repeat' first|simp (disch:=omega) only[go_sem,aJ,aK,aL,yw]|refine aC ?_|refine aB ?_ ?_<;>intro hw<;>try omega|fail
   with_reducible refine bG [9,1,23,9] (fun q:Nat × List aX=>[(23,I q.1)]) (fun q=> .cells [I x.op,I x.v.kind,I x.v.n,.str x.v.s,.str x.s,.aS false EX (x.l.map bt)]:: .cells [I 0,I 0,.str []]:: .cells [I 0]::q.2) (fun q=>q.1<=j) (fun q=>row.length-q.1) (0,[]) ?_ ?_ ?_ ?_
   ·simp
   ·rfl
   ·exact at_
   rintro⟨i,τ⟩ r h2;dsimp only at h2;have hi:i<row.length:=ae;have c:=cv i hi;have hij:i=j->bZ (row.getD i default)=false:=fun e=>by rw[e];exact hb
   obtain⟨v,hv⟩:=cq (row.getD i default);rw[hv]at c hij;have ev:bZ ⟨v.kind,v.n,v.s⟩=bZ v:=rfl;rw[ev]at c;cases iE:bZ v with
   | true =>
     have hne:i≠j:=fun e=>by rw[hij e]at iE;cases iE
     simp only[iE,ji,if_true]at c;repeat' first|refine cB hv ?_|refine aC ?_|refine eS c ?_|refine aB ?_ ?_<;>intro hw<;>try omega|fail
     refine⟨(i+1,τ++[.cells [I v.kind,I v.n,.str v.s]]),?_,?_,by first|rfl|(simp[go_sem];done),c8,at_⟩
     ·dsimp only;omega
     dsimp only;omega
   | false =>
     simp only[iE,ji,aP,if_false]at c;repeat' first|refine cB hv ?_|refine aC ?_|refine eS c ?_|refine aB ?_ ?_<;>intro hw<;>try omega|fail
     exact cg rfl rfl
 | true =>
   rw[Yv yP hl BG];have hg:∀ w ∈ row,iw w:=fun w hw=>⟨aZ.1 BG w hw,hrow w hw⟩;have fc:=LH cs row hl Gd hg x ⟨yP,hx,hz⟩;generalize s4 cs row x=r at *;refine DG fun Q QD aJ hDr hDp=>?_;have aK:=aJ;have aL:=aJ;unfold Gq;simp only[rL]at fc;rw[bK]at c1 fc ⊢;simp only[b_,br]at fc ⊢;repeat' first|simp (disch:=omega) only[go_sem,aJ,aK,aL,yw]|refine aC ?_|refine aB ?_ ?_<;>intro hw<;>try omega|fail
   with_reducible refine bG [9,1,23,9] (fun q:Nat × List aX=>[(23,I q.1)]) (fun q=> .cells [I x.op,I x.v.kind,I x.v.n,.str x.v.s,.str x.s,.aS false EX (x.l.map bt)]:: .cells [I 0,I 0,.str []]:: .cells [I 0]::q.2) (fun q=>q.1<=row.length) (fun q=>row.length-q.1) (0,[]) ?_ ?_ ?_ ?_
   ·simp
   ·rfl
   ·exact at_
   rintro⟨i,τ⟩ r' h2;dsimp only at h2;by_cases hi:i<row.length
   ·have c:=cv i hi;have iE:=(hg _ (bx hi)).1;obtain⟨v,hv⟩:=cq (row.getD i default);rw[hv]at c iE;have ev:bZ ⟨v.kind,v.n,v.s⟩=bZ v:=rfl;rw[ev]at c;simp only[iE,ji,if_true]at c;repeat' first|refine cB hv ?_|refine aC ?_|refine eS c ?_|refine aB ?_ ?_<;>intro hw<;>try omega|fail
    refine⟨(i+1,τ++[.cells [I v.kind,I v.n,.str v.s]]),?_,?_,by first|rfl|(simp[go_sem];done),c8,at_⟩
    ·dsimp only;omega
    dsimp only;omega
   ·cases r with
    | ok v =>
      have fc:aQ aI 190 _ (cR v):=fc;rw[Cn]at *;simp only[cR]at fc;repeat' first|simp (disch:=omega) only[go_sem,aJ,aK,aL,yw,Wv,Wu,Wt,hDr,hDp]|refine aC ?_|with_reducible refine JK ?_|refine aB ?_ ?_<;>intro hw<;>try omega|fail
      exact cg rfl rfl
    | err e =>
      have fc:dA aI 190 _ (.panic (rJ e)):=fc;rw[tT]at *;repeat' first|simp (disch:=omega) only[go_sem,aJ,aK,aL,yw,Wv,Wu,Wt,hDr,hDp]|refine aC ?_|refine Cf fc ?_|with_reducible refine JL rfl rfl ?_|refine aB ?_ ?_<;>intro hw<;>try omega|fail
      exact cg rfl rfl
def af_{l:List aW}{i:Nat}(hi:i<l.length)(h:bZ (l.getD i default)=false): l.all bZ=false:=by
 rw[g_];exact⟨_,bx hi,by rw[h];simp⟩
def aih{l:List aW}(h:∀ k,k<l.length->bZ (l.getD k default)=true): l.all bZ=true:=by
 rw[aZ];intro v hv;obtain⟨k,hk,rfl⟩:=bP hv;have:=h k hk;rwa[aq,aG hk]at this
def valOf: jG->aW
 | .ok v=>v
 | .err _=>v0
def Co{e:Int}(h:(jG.err e).good): e≠0:=by
 have h:e=2\/e=5\/e=13\/e=14\/e=15\/e=16:=h;omega
def iq(a:aW): cR a = .agg [I a.kind,I a.n,.str a.s]:=rfl
def DH{σ : ai}{x y B:Bool}(h:B=y)(hx:x=y): ∃ r0,Out.ret (oneOf [AV.bool x])=Out.ret r0/\View σ r0 (AV.bool B):=by
 subst h;subst hx;exact a_ rfl rfl
def Yw{c:Cell}{v:aW}{cs:List cJ}{row:List aW}(h:¬ (jJ c=true/\bZ v=true/\cs.length=row.length/\zf row=true)): nF c v cs row=(false,2):=by
 unfold nF;rw[aj];intro h2;simp only[aD,aM]at h2;exact h ⟨h2.1.1.1,h2.1.1.2,h2.1.2,h2.2⟩
def UZ{c:Cell}{v:aW}{cs:List cJ}{row:List aW}(h1:jJ c=true)(h2:bZ v=true)(h3:cs.length=row.length)(h4:zf row=true): nF c v cs row=uO cs row v c.any c.neg c.tests:=by
 unfold nF;rw[au (by simp[h1,h2,h3,h4])]
section
variable {α : Type} (τ : List α) (x y z w : α)
def ap3: τ++[x]++[y]++[z] = τ++[x,y,z]:=aR
def ap2: τ++[x]++[y] = τ++[x,y]:=aR
def aoe: (τ++[x]++[y]++[z])[τ.length+1]? = some y:=by rw[ap3,bq ae];simp
def aii: (τ++[x]++[y])[τ.length]? = some x:=by rw[ap2];simp
def amf: (τ++[x]++[y])[τ.length+1]? = some y:=by rw[ap2,bq ae];simp
def amg: (τ++[x]++[y]).set (τ.length+1) w = τ++[x]++[w]:=by rw[ap2,ap2,dV _ _ ae,show τ.length+1 - τ.length=1 by omega];rfl
end
def O1(p:Bool × Int): AV:= .bR [.bool p.1,I p.2]
def s_{σ : ai}{b:Bool}{e:Int}{p:Bool × Int}(h:p=(b,e)): ∃ r0,Out.ret (oneOf [AV.bool b,I e])=Out.ret r0/\View σ r0 (O1 p):=by
 subst h;exact cg rfl rfl
def Cp(l:List aW)(v:aW)(hl:l.length<=2 ^ 60): aQ aI 282 [br l,cR v] (.bool (l.any fun x=>x==v)):=by
 have c:=rF l v hl;rw[<-vS];generalize kP _ l=i at *;simp only[br,iq]at c ⊢;refine aY yV ?_;intro Q aJ aK aL;repeat' first|refine aC ?_|refine eS c ?_|refine aB ?_ ?_<;>intro hw<;>try omega|fail
 all_goals exact a_ rfl rfl
def Yx{v:aW}(h:bZ v=true): (v==v0)=ek v:=by
 unfold ek;rw[cQ,beq_iff_eq,aM];exact⟨fun e=>by rw[e];rfl,fun e=>af0 h e⟩
def As(t:Test)(a b:aW): List aW:=if t.kind=6 then [a,b]else [a]
def U0(t:Test)(v a b:aW)(ha:bZ a=true)(hb:bZ b=true)(h6:¬ t.kind=6->b=a)(hk6:1<=t.kind/\t.kind<=6): aQ aI 258 [dR t,cR v,br (As t a b)] (.bool (uM t v a b)):=by
 have c0:=Cp (As t a b) v0 (by unfold As;split<;>simp)
 have JA:((As t a b).any fun x=>x==v0)=(ek a || ek b):=by
  unfold As;split
  ·simp[Yx ha,Yx hb]
  rename_i h;rw[h6 h];simp[Yx ha]
 rw[JA]at c0;have c1:=nR v a;have c2:=nR v b;have hD:=Ci v a;obtain⟨B,hB⟩:=cq (uM t v a b);rw[hB];obtain⟨m1,h1⟩:∃ m,jr v a=m:=⟨_,rfl⟩;obtain⟨m2,h2⟩:∃ m,jr v b=m:=⟨_,rfl⟩;rw[h1]at c1;rw[h2]at c2;obtain⟨N,hN⟩:=cq ((ek a || ek b));rw[hN]at c0;clear ha hb JA;obtain⟨k,ta,tb,lo,hi⟩:=t;unfold As at *;dsimp only at *;by_cases hk:k=6
 ·rw[au hk]at *;simp only[dR,br,bB,cY,iq v,iq a,iq b,iq v0]at c0 c1 c2 ⊢;have e0:AV.agg [I v0.kind,I v0.n,.str v0.s]=AV.agg [I 0,I 0,.str []]:=rfl;rw[e0]at c0;refine aY BN ?_;intro Q aJ aK aL;repeat' first|simp (disch:=omega) only[go_sem,aJ,aK,aL,Int.reduceToNat]|refine aC ?_|refine eS c0 ?_|refine aB ?_ ?_<;>intro hw<;>try omega|fail
  all_goals first
   |(refine DH (hB.symm) ?_;unfold uM;rw[h1,h2,hD,Bool.or_assoc,hN];unfold ek;clear c0 c1 c2 hB hD hN aJ aK aL;simp_all;done)
   | (refine DH (hB.symm) ?_; unfold uM; rw [h1, h2, hD, Bool.or_assoc, hN]; unfold ek; have h9 : decide (0 < m1) = false := decide_eq_false ae
      rw[h9];clear h9 c0 c1 c2 hB hD hN h1 h2 aJ aK aL;simp_all;done)
   | exact bI
   | skip
 have hba:=h6 hk;subst hba;rw[aj hk]at *;simp only[dR,br,bB,cY,iq v,iq b,iq v0]at c0 c1 c2 ⊢;have e0:AV.agg [I v0.kind,I v0.n,.str v0.s]=AV.agg [I 0,I 0,.str []]:=rfl;rw[e0]at c0;clear h6;refine aY BN ?_;intro Q aJ aK aL;repeat' first|simp (disch:=omega) only[go_sem,aJ,aK,aL,Int.reduceToNat]|refine aC ?_|refine eS c0 ?_|refine aB ?_ ?_<;>intro hw<;>try omega|fail
 all_goals first
  |(refine DH (hB.symm) ?_;unfold uM;rw[h1,hD,Bool.or_assoc,hN];unfold ek;clear c0 c1 c2 hB hD hN aJ aK aL;simp_all;done)
  | exact bI
  | skip
def JM(c:Cell)(v:aW)(cs:List cJ)(row:List aW): Bool:=jJ c && bZ v && decide (cs.length=row.length) && zf row
def Ww(b:Bool): (ji b=0)↔b=true:=by cases b<;>simp[ji]
def pZ{σ : ai}{x y:Int}(h:y=x): ∃ r0,Out.ret (oneOf [I x])=Out.ret r0/\View σ r0 (I y):=by
 subst h;exact a_ rfl rfl
def adW(c:Cell)(v:aW)(cs:List cJ)(row:List aW)(hc:pS c)(hv:ug v)(Gd:cs.length<=2 ^ 60)(hr:row.length<=2 ^ 40)(hrow:∀ w ∈ row,ug w): aQ aI 226 [ei c,cR v,b_ cs,br row] (I (if JM c v cs row=true then 0 else 2)):=by
 have c1:=ya c hc.ok;have c2:aQ aI 136 [.agg [I v.kind,I v.n,.str v.s]] (I (ji (bZ v))):=lR v.kind v.n v.s hv.1.1 hv.1.2;have cv:=fun k (hk:k<row.length)=>(show aQ aI 136 [.agg [I (row.getD k default).kind,I (row.getD k default).n,.str (row.getD k default).s]] (I (ji (bZ (row.getD k default)))) from lR _ _ _ (hrow _ (bx hk)).1.1 (hrow _ (bx hk)).1.2);clear hc hv hrow;obtain⟨R,hR⟩:=cq (JM c v cs row);rw[hR];by_cases h1:jJ c=true/\bZ v=true/\cs.length=row.length
 case neg =>
  have e:R=false:=by
   rw[<-hR];unfold JM;cases h:(jJ c && bZ v && decide (cs.length=row.length))with
   | false=>rfl
   | true=>simp only[aD,aM]at h;exact absurd ⟨h.1.1,h.1.2,h.2⟩ h1
  rw[e,aj da];have e1:=Ww (jJ c);have e2:=Ww (bZ v);have h1:¬ (ji (jJ c)=0/\ji (bZ v)=0/\cs.length=row.length):=fun h=>h1 ⟨e1.1 h.1,e2.1 h.2.1,h.2.2⟩;clear e1 e2 cv hR;generalize ji (jJ c)=x1 at *;generalize ji (bZ v)=x2 at *;simp only[ei,jt,iq,b_,br]at c1 c2 ⊢;refine aY HX ?_;intro Q aJ aK aL;repeat' first|refine aC ?_|refine aB ?_ ?_<;>intro hw<;>try omega|fail
  all_goals first
   | exact pZ rfl
   |(exfalso;exact h1 ⟨ae,ae,ae⟩)
   | skip
 obtain⟨hrc,SD,hl⟩:=h1;have D4:zf row=R:=by rw[<-hR];unfold JM;simp[hrc,SD,hl]
 rw[hrc]at c1;rw[SD]at c2;have z:ji true=0:=rfl;rw[z]at c1 c2;clear hR z;simp only[ei,jt,iq,b_,br]at c1 c2 ⊢;refine aY HX ?_;intro Q aJ aK aL;repeat' first|refine aC ?_|refine aB ?_ ?_<;>intro hw<;>try omega|fail
 with_reducible refine bG [8,1,10,1,28,8] (fun q:Nat × List aX=>[(28,I q.1)]) (fun q=> .cells [.bool c.any,.bool c.neg,.aS false ES (c.tests.map dR)]:: .cells [I v.kind,I v.n,.str v.s]::q.2) (fun q=>q.1<=row.length/\ ∀ k,k<q.1->bZ (row.getD k default)=true) (fun q=>row.length-q.1) (0,[]) ?_ ?_ ?_ ?_
 ·simp
 ·rfl
 ·exact at_
 rintro⟨i,τ⟩ r ⟨g1,g2⟩;dsimp only at g1 g2;by_cases hi:i<row.length
 ·have c3:=cv i hi;have hne:=fun h=>af_ hi h;have eF:=fun he=>cn (q:=fun k=>bZ (row.getD k default)=true) g2 (i:=i) he;obtain⟨w,sD⟩:=cq (row.getD i default);rw[sD]at c3 hne eF;clear cv;cases hb:bZ w with
  | true =>
    have eF:=eF hb;rw[hb]at c3;have z:ji true=0:=rfl;rw[z]at c3;clear hne;repeat' first|refine cB sD ?_|refine aC ?_|refine aB ?_ ?_<;>intro hw<;>try omega|fail
    all_goals first
     | exact bI
     |(refine⟨(i+1,τ++[.cells [I w.kind,I w.n,.str w.s]]),⟨by dsimp only;omega,eF⟩,by dsimp only;omega,by first|rfl|(simp[go_sem];done),c8,at_⟩)
     | skip
  | false =>
    have e:R=false:=by rw[<-D4];exact hne hb
    rw[hb]at c3;have z:ji false=2:=rfl;rw[z]at c3;clear eF hne;repeat' first|refine cB sD ?_|refine aC ?_|refine aB ?_ ?_<;>intro hw<;>try omega|fail
    all_goals first
     | exact bI
     | exact pZ (by rw[e];rfl)
     | skip
 have e:R=true:=by rw[<-D4];exact aih fun k hk=>g2 k ae
 clear cv;repeat' first|refine aC ?_|refine aB ?_ ?_<;>intro hw<;>try omega|fail
 all_goals first
  | exact pZ (by rw[e];rfl)
  | exact bI
  | skip
def JN(t:Test)(v:aW)(o:List aW × Int): Bool × Int :=
 if o.2≠0 then(false,o.2)else if o.1.all (fun w=>oP t v.kind w.kind)then (uM t v (o.1.getD 0 default) (o.1.getD (o.1.length-1) default),0)else (false,14)
def Gs{cs:List cJ}{row:List aW}{x:Expr}{r:List Expr}{acc:List aW}{e:Int}(h:j0 x cs row = .err e): jM cs row (x::r) acc=([],e):=by simp only[jM,h]
def DI{cs:List cJ}{row:List aW}{x:Expr}{r:List Expr}{acc:List aW}{v:aW}(h:j0 x cs row = .ok v): jM cs row (x::r) acc=jM cs row r (acc++[v]):=by simp only[jM,h]
def Gt{cs:List cJ}{row:List aW}{acc:List aW}: jM cs row [] acc=(acc,0):=rfl
def Ti{t:Test}{v:aW}{l:List aW}{e:Int}(h:e≠0): JN t v (l,e)=(false,e):=by unfold JN;exact if_pos h
def Nn{t:Test}{v:aW}{l:List aW}: JN t v (l,0)=if l.all (fun w=>oP t v.kind w.kind)then (uM t v (l.getD 0 default) (l.getD (l.length-1) default),0)else (false,14):=by unfold JN;exact if_neg aR
def aij{cs:List cJ}{row:List aW}(v:aW)(t:Test)(ga:(j0 t.a cs row).good)(gb:(j0 t.b cs row).good): uN cs row v t=JN t v (jM cs row (qf t) []):=by
 unfold uN qf;cases ha:j0 t.a cs row with
 | err e =>
   rw[ha]at ga;have he:=Co ga;dsimp only;split<;>rw[Gs ha,Ti he]
 | ok a =>
   dsimp only;by_cases h6:t.kind=6
   ·rw[au h6,au h6,DI ha];cases hb:j0 t.b cs row with
    | err e =>
      rw[hb]at gb;have he:=Co gb;dsimp only;rw[Gs hb,Ti he]
    | ok b =>
      dsimp only;rw[DI hb,Gt,Nn];simp[zg]
   rw[aj h6,aj h6,DI ha,Gt,Nn];simp[zg]
def adX(t:Test)(v:aW)(cs:List cJ)(row:List aW)(ht:zb t)(hk6:1<=t.kind/\t.kind<=6)(Gd:cs.length<=2 ^ 60)(hr:row.length<=2 ^ 40)(hrow:∀ w ∈ row,ug w): aQ aI 227 [dR t,cR v,b_ cs,br row] (O1 (uN cs row v t)):=by
 have gA:=pV (cs:=cs) hrow ht.1.1;have gB:=pV (cs:=cs) hrow ht.2.1;rw[aij v t gA gB];have cP:=Li t
 have hps:(qf t).length<=2/\ ∀ x ∈ qf t,aQ aI 144 [bt x,b_ cs,br row] (Bp (j0 x cs row))/\(j0 x cs row).good:=by
  have a:=Gr t.a cs row ht.1.1 (by have:=ht.1.2;omega) Gd hr hrow;have b:=Gr t.b cs row ht.2.1 (by have:=ht.2.2;omega) Gd hr hrow;unfold qf;split
  ·exact⟨aR,fun x hx=>by rcases List.mem_cons.1 hx with rfl|hx;exact⟨a,gA⟩;rcases List.mem_cons.1 hx with rfl|hx;exact⟨b,gB⟩;cases hx⟩
  exact⟨aR,fun x hx=>by rcases List.mem_cons.1 hx with rfl|hx;exact⟨a,gA⟩;cases hx⟩
 have hT:(qf t).length=if t.kind=6 then 2 else 1:=by unfold qf;split<;>rfl
 obtain⟨hp2,fc⟩:=hps;have hf:=fun x=>FT t v.kind x;have KG:=fun a b ha hb h6=>U0 t v a b ha hb h6 hk6;clear gA gB ht hk6 hrow;generalize qf t=ps at *;obtain⟨R,hR⟩:=cq (jM cs row ps []);rw[hR];obtain⟨E,hE⟩:=cq (JN t v R);rw[hE];simp only[dR,eA,b_,br,iq v]at cP hf KG ⊢;refine aY Uf ?_;intro Q aJ aK aL;repeat' first|refine aC ?_|refine aB ?_ ?_<;>intro hw<;>try omega|fail
 with_reducible refine bG [8,3,12,3,20,19] (fun q:List aW × List aX=>[(10,.own EV 2 q.1.length 0 q.1.length),(20,I q.1.length)]) (fun q=> .cells [I t.kind,I t.a.op,I t.a.v.kind,I t.a.v.n,.str t.a.v.s,.str t.a.s,.aS false EX (t.a.l.map bt),I t.b.op,I t.b.v.kind,I t.b.v.n,.str t.b.v.s,.str t.b.s,.aS false EX (t.b.l.map bt),.bool t.lo,.bool t.hi]:: .cells [I v.kind,I v.n,.str v.s]:: .vec EV (q.1.map cR)::q.2) (fun q=>q.1.length<=ps.length/\(∀ w ∈ q.1,iw w)/\jM cs row (ps.drop q.1.length) q.1=R) (fun q=>ps.length-q.1.length) ([],[]) ?_ ?_ ?_ ?_
 ·exact⟨aR,aR,by simpa using hR⟩
 ·rfl
 ·exact at_
 rintro⟨L,τ⟩ r ⟨h1,h2,h3⟩;dsimp only at h1 h2 h3;clear hR;by_cases hi:L.length<ps.length
 ·have hx:=fc _ (bx hi);rw[kC hi]at h3;obtain⟨x,hx0⟩:=cq (ps.getD L.length default);rw[hx0]at hx h3;obtain⟨cA,gA⟩:=hx;simp only[jM]at h3;generalize j0 x cs row=ra at *;rw[bK]at cA;simp only[b_,br]at cA;cases ra with
  | err e =>
    have he:=Co gA;rw[tT]at cA;dsimp only at h3;simp only[iq]at cA;have hE2:E=(false,e):=by rw[<-hE,<-h3];unfold JN;exact if_pos he
    repeat' first|refine cB hx0 ?_|refine aC ?_|refine aB ?_ ?_<;>intro hw<;>try omega|fail
    all_goals first|exact s_ hE2|exact bI|skip
  | ok a =>
    rw[Cn]at cA;dsimp only at h3;simp only[iq]at cA;repeat' first|refine cB hx0 ?_|refine aC ?_|refine aB ?_ ?_<;>intro hw<;>try omega|fail
    all_goals first
     | (refine ⟨(L ++ [a], τ ++ [.cells [I x.op, I x.v.kind, I x.v.n, .str x.v.s, .str x.s, .aS false EX (x.l.map bt)]] ++ [.cells [I a.kind, I a.n, .str a.s]]), ⟨by dsimp only; simp only [List.length_append, List.length_cons, List.length_nil]; omega, fun w hw => ?_, by dsimp only; simp only [List.length_append, List.length_cons, List.length_nil]; exact h3⟩, by dsimp only; simp only [List.length_append, List.length_cons, List.length_nil]; omega, by simp [go_sem], c8, at_⟩
        rcases List.mem_append.1 hw with hw|hw
        ·exact h2 w hw
        ·rcases List.mem_cons.1 hw with rfl|hw
         ·exact gA
         ·cases hw)
     | exact bI
     | skip
 rw[cy ae]at h3;have hlen:L.length=ps.length:=ae;have h3:R=(L,0):=h3.symm;rw[h3,Nn]at hE
 have FV:L=As t (L.getD 0 default) (L.getD (L.length-1) default):=by
  rw[hT]at hlen;unfold As;by_cases h6:t.kind=6
  ·rw[au h6]at hlen ⊢
   match L,hlen with
   | [a,b],_=>rfl
  rw[aj h6]at hlen ⊢
  match L,hlen with
  | [a],_=>rfl
 have hl0:0<L.length:=by rw[hlen,hT];split<;>omega
 have cp:=KG (L.getD 0 default) (L.getD (L.length-1) default) (h2 _ (bx ae)).1 (h2 _ (bx ae)).1 (fun h6=>by
  have:L.length=1:=by rw[hlen,hT,aj h6]
  rw[this])
 rw[<-FV]at cp;generalize uM t v (L.getD 0 default) (L.getD (L.length-1) default)=B at *
 have hno:∀ i,i<L.length->oP t v.kind (L.getD i default).kind=false->E=(false,14):=fun i hi h=>by
  rw[<-hE,F5 hi h];rfl
 have hyes:(∀ i,i<L.length->oP t v.kind (L.getD i default).kind=true)->E=(B,0):=fun h=>by
  rw[<-hE,F4 h];rfl
 clear hE fc KG FV h3 hT;repeat' first|refine aC ?_|refine aB ?_ ?_<;>intro hw<;>try omega|fail
 with_reducible refine bG [8,2,16,1,41,12] (fun q:Nat × List aX=>[(41,I q.1)]) (fun q=> .cells [I t.kind,I t.a.op,I t.a.v.kind,I t.a.v.n,.str t.a.v.s,.str t.a.s,.aS false EX (t.a.l.map bt),I t.b.op,I t.b.v.kind,I t.b.v.n,.str t.b.v.s,.str t.b.s,.aS false EX (t.b.l.map bt),.bool t.lo,.bool t.hi]:: .cells [I v.kind,I v.n,.str v.s]:: .vec EV (L.map cR)::q.2) (fun q=>q.1<=L.length/\ ∀ k,k<q.1->oP t v.kind (L.getD k default).kind=true) (fun q=>L.length-q.1) (0,τ) ?_ ?_ ?_ ?_
 ·simp
 ·rfl
 ·exact at_
 rintro⟨i,k_⟩ r' ⟨g1,g2⟩;dsimp only at g1 g2;by_cases hi:i<L.length
 ·have f:=hf (L.getD i default).kind;have hn:=hno i hi;have eF:=cn (q:=fun k=>oP t v.kind (L.getD k default).kind=true) g2 (i:=i);obtain⟨w,sD⟩:=cq (L.getD i default);rw[sD]at f hn eF;clear hno hyes hf;cases hb:oP t v.kind w.kind with
  | false =>
    rw[hb]at f;have hn:=hn hb;clear eF;repeat' first|refine cB sD ?_|refine aC ?_|refine aB ?_ ?_<;>intro hw<;>try omega|fail
    all_goals first|exact s_ hn|exact bI|skip
  | true =>
    rw[hb]at f;have eF:=eF hb;clear hn;repeat' first|refine cB sD ?_|refine aC ?_|refine aB ?_ ?_<;>intro hw<;>try omega|fail
    all_goals first
     |(refine⟨(i+1,k_++[.cells [I w.kind,I w.n,.str w.s]]),⟨by dsimp only;omega,eF⟩,by dsimp only;omega,by first|rfl|(simp[go_sem];done),c8,at_⟩)
     | exact bI
     | skip
 have hE:=hyes fun k hk=>g2 k ae;clear hno hyes hf;repeat' first|refine aC ?_|refine HZ cp ?_|refine aB ?_ ?_<;>intro hw<;>try omega|fail
 all_goals first|exact s_ hE|exact bI|skip
def Yy{c:Cell}{t:Test}(h:jJ c=true)(ht:t ∈ c.tests): 1<=t.kind/\t.kind<=6:=by
 unfold jJ at h;split at h
 ·simp only[aD,aM]at h;rw[List.length_eq_zero_iff.1 h.2]at ht;cases ht
 simp only[aD,ey,List.any_eq_false]at h;have:=h.2 t ht;simp only[ey,Bool.not_eq_false]at this;unfold o8 at this;split at this
 ·omega
 simp only[aD,aM]at this;omega
def Yz(c:Cell)(v:aW)(cs:List cJ)(row:List aW)(hc:pS c)(hv:ug v)(Gd:cs.length<=2 ^ 60)(hr:row.length<=2 ^ 40)(hrow:∀ w ∈ row,ug w): aQ aI 187 [ei c,cR v,b_ cs,br row] (O1 (nF c v cs row)):=by
 have c1:=adW c v cs row hc hv Gd hr hrow;by_cases h1:JM c v cs row=true
 case neg =>
  rw[aj h1]at c1;rw[Yw (by unfold JM at h1;simpa[Bool.and_eq_true,and_assoc]using h1)];simp only[ei,jt,iq v,b_,br]at c1 ⊢;refine aY D5 ?_;intro Q aJ aK aL;repeat' first|refine aC ?_|refine aB ?_ ?_<;>intro hw<;>try omega|fail
  all_goals first|exact s_ rfl|exact bI|skip
 rw[au h1]at c1;have h2:jJ c=true/\bZ v=true/\cs.length=row.length/\zf row=true:=by unfold JM at h1;simpa[Bool.and_eq_true,and_assoc]using h1
 rw[UZ h2.1 h2.2.1 h2.2.2.1 h2.2.2.2]
 have hA:∀ k,k<c.tests.length->aQ aI 227 [dR (c.tests.getD k default),cR v,b_ cs,br row] (O1 (uN cs row v (c.tests.getD k default))):=fun k hk=>by
  have ht:=hc.2 _ (bx hk);exact adX _ v cs row ht (Yy h2.1 (bx hk)) Gd hr hrow
 have hlen:=hc.1;clear hc hrow h1 h2;obtain⟨any,neg,L⟩:=c;dsimp only at *;obtain⟨R,hR⟩:=cq (uO cs row v any neg L);rw[hR];simp only[ei,jt,b_,br,iq v]at c1 hA ⊢;refine aY D5 ?_;intro Q aJ aK aL;repeat' first|refine aC ?_|refine aB ?_ ?_<;>intro hw<;>try omega|fail
 with_reducible refine bG [8,2,12,3,26,22] (fun q:Nat × List aX=>[(26,I q.1)]) (fun q=> .cells [.bool any,.bool neg,.aS false ES (L.map dR)]:: .cells [I v.kind,I v.n,.str v.s]::q.2) (fun q=>q.1<=L.length/\uO cs row v any neg (L.drop q.1)=R) (fun q=>L.length-q.1) (0,[]) ?_ ?_ ?_ ?_
 ·exact⟨aR,by rw[eU];exact hR⟩
 ·rfl
 ·exact at_
 rintro⟨i,τ⟩ r ⟨g1,g2⟩;dsimp only at g1 g2;clear hR;by_cases hi:i<L.length
 ·have cA:=hA i hi;clear hA;rw[kC hi]at g2;obtain⟨t,ht⟩:=cq (L.getD i default);rw[ht]at cA g2;have hT:(if(uN cs row v t).2≠0 then(false,(uN cs row v t).2)else if(uN cs row v t).1=true then(!neg,0)else uO cs row v any neg (L.drop (i+1)))=R:=g2;clear g2;generalize uN cs row v t=p at *;obtain⟨p1,p2⟩:=p;dsimp only at hT;simp only[dR,eA,O1]at cA;by_cases he:p2=0
  ·subst he;rw[aj da]at hT;cases p1 with
   | true =>
     rw[au rfl]at hT;repeat' first|refine cB ht ?_|refine aC ?_|refine aB ?_ ?_<;>intro hw<;>try omega|fail
     all_goals first|exact s_ hT.symm|exact bI|skip
   | false =>
     rw[aj da]at hT;repeat' first|refine cB ht ?_|refine aC ?_|refine aB ?_ ?_<;>intro hw<;>try omega|fail
     all_goals first
      |(refine⟨(i+1,τ++[.cells [I t.kind,I t.a.op,I t.a.v.kind,I t.a.v.n,.str t.a.v.s,.str t.a.s,.aS false EX (t.a.l.map bt),I t.b.op,I t.b.v.kind,I t.b.v.n,.str t.b.v.s,.str t.b.s,.aS false EX (t.b.l.map bt),.bool t.lo,.bool t.hi]]),⟨by dsimp only;omega,hT⟩,by dsimp only;omega,by first|rfl|(simp[go_sem];done),c8,at_⟩)
      | exact bI
      | skip
  rw[au he]at hT;repeat' first|refine cB ht ?_|refine aC ?_|refine aB ?_ ?_<;>intro hw<;>try omega|fail
  all_goals first|exact s_ hT.symm|exact bI|skip
 rw[cy ae]at g2;have g2:(any || neg,0)=R:=g2;repeat' first|refine aC ?_|refine aB ?_ ?_<;>intro hw<;>try omega|fail
 all_goals first
  | exact s_ (g2.symm.trans (by simp_all))
  | exact bI
  | skip
def DJ(ins:List cJ)(row:List aW)(i:Nat): Bool:=bZ (row.getD i default) && cG (row.getD i default).kind (ins.getD i default).kind
def aa5{ins:List cJ}{row:List aW}{i:Nat}(hi:i<row.length)(h:DJ ins row i=false): mu ins row=false:=by
 unfold mu;rw[Bool.and_eq_false_iff];refine .inr ?_;rw[g_];exact⟨i,List.mem_range.2 hi,by unfold DJ at h;simpa using h⟩
def YA{ins:List cJ}{row:List aW}(hl:row.length=ins.length)(h:∀ k,k<row.length->DJ ins row k=true): mu ins row=true:=by
 unfold mu;rw[aD];exact⟨bN hl,aZ.2 fun k hk=>h k (eN.1 hk)⟩
def Ii(ins:List cJ)(row:List aW): Int:=if mu ins row then 0 else 21
def aga{ins:List cJ}{row:List aW}(h:row.length≠ins.length): Ii ins row=21:=by
 unfold Ii mu;rw[cI h];rfl
def aa6(r:Ready)(row:List aW)(hr:row.length<=2 ^ 40)(hrow:∀ w ∈ row,ug w): aQ aI 142 [lB r,br row] (I (Ii r.table.ins row)):=by
 have cv:=fun k (hk:k<row.length)=>(show aQ aI 136 [.agg [I (row.getD k default).kind,I (row.getD k default).n,.str (row.getD k default).s]] (I (ji (bZ (row.getD k default)))) from lR _ _ _ (hrow _ (bx hk)).1.1 (hrow _ (bx hk)).1.2);clear hrow;by_cases hl:row.length=r.table.ins.length
 case neg =>
  rw[aga hl];simp only[lB,b_,eL,qb,br];refine aY Fy ?_;intro Q aJ aK aL;repeat' first|refine aC ?_|refine aB ?_ ?_<;>intro hw<;>try omega|fail
  all_goals first|exact pZ rfl|exact bI|skip
 obtain⟨R,hR⟩:=cq (Ii r.table.ins row);rw[hR];have hno:∀ i,i<row.length->DJ r.table.ins row i=false->R=21:=fun i hi h=>by rw[<-hR];unfold Ii;rw[aa5 hi h];rfl
 have hyes:(∀ k,k<row.length->DJ r.table.ins row k=true)->R=0:=fun h=>by rw[<-hR];unfold Ii;rw[YA hl h];rfl
 clear hR;simp only[lB,b_,eL,qb,br];refine aY Fy ?_;intro Q aJ aK aL;repeat' first|refine aC ?_|refine aB ?_ ?_<;>intro hw<;>try omega|fail
 with_reducible refine bG [4,3,16,22] (fun q:Nat × List aX=>[(16,I q.1)]) (fun q=> .cells [.str r.table.name,.aS false EC (r.table.ins.map dU),.aS false EC (r.table.outs.map dU),I r.table.bY,I r.table.agg,.aS false ER (r.table.rules.map fZ),.aS false ER (r.lines.map mF)]::q.2) (fun q=>q.1<=row.length/\ ∀ k,k<q.1->DJ r.table.ins row k=true) (fun q=>row.length-q.1) (0,[]) ?_ ?_ ?_ ?_
 ·simp
 ·rfl
 ·exact at_
 rintro⟨i,τ⟩ u ⟨g1,g2⟩;dsimp only at g1 g2;by_cases hi:i<row.length
 ·have c1:=cv i hi;have hn:=hno i hi;have eF:=cn (q:=fun k=>DJ r.table.ins row k=true) g2 (i:=i);have hf:DJ r.table.ins row i=(bZ (row.getD i default) && cG (row.getD i default).kind (r.table.ins.getD i default).kind):=rfl;have c2:=oI (row.getD i default).kind (r.table.ins.getD i default).kind;obtain⟨w,sD⟩:=cq (row.getD i default);obtain⟨c,hc0⟩:=cq (r.table.ins.getD i default);rw[sD]at c1;rw[sD,hc0]at hf c2;generalize bZ w=b1 at *;generalize cG w.kind c.kind=b2 at *;clear cv hno hyes;cases b1 with
  | false =>
    have hn:=hn (by rw[hf];rfl);clear eF;have z:ji false=2:=rfl;rw[z]at c1;repeat' first|refine cB (zA sD hc0) ?_|refine aC ?_|refine aB ?_ ?_<;>intro hw<;>try omega|fail
    all_goals first|exact pZ hn|exact bI|skip
  | true =>
    have z:ji true=0:=rfl;rw[z]at c1;cases b2 with
    | false =>
      have hn:=hn (by rw[hf];rfl);clear eF;repeat' first|refine cB (zA sD hc0) ?_|refine aC ?_|refine aB ?_ ?_<;>intro hw<;>try omega|fail
      all_goals first|exact pZ hn|exact bI|skip
    | true =>
      have eF:=eF (by show DJ r.table.ins row i=true;rw[hf];rfl);clear hn;repeat' first|refine cB (zA sD hc0) ?_|refine aC ?_|refine aB ?_ ?_<;>intro hw<;>try omega|fail
      all_goals first
       |(refine⟨(i+1,τ++[.cells [I w.kind,I w.n,.str w.s]]),⟨by dsimp only;omega,eF⟩,by dsimp only;omega,by first|rfl|(simp[go_sem];done),c8,at_⟩)
       | exact bI
       | skip
 have:=hyes fun k hk=>g2 k ae;repeat' first|refine aC ?_|refine aB ?_ ?_<;>intro hw<;>try omega|fail
 all_goals first|exact pZ this|exact bI|skip
def sJ(n:Int): AV:=I n
def ep(l:List Int): AV:= .aS false E1 (l.map sJ)
@[simp] def amh (n:Int):(sJ n).dy=true:=rfl
def O2(l:List Int): (ep l).dy=true:=by simp only[ep,AV.dy];exact fN _ _ (fun _=>rfl)
def agb(l:List Int): AV.cE (l.map sJ)=true:=fN _ _ (fun _=>rfl)
attribute [simp] O2 agb
attribute [go_sem] sJ
structure Hl (r:Ready):Prop where
 ins:r.table.ins.length<=2 ^ 30
 outs:r.table.outs.length<=2 ^ 30
 lines:r.lines.length<=24
 line:∀ l ∈ r.lines,(l.cells.length=r.table.ins.length/\ ∀ c ∈ l.cells,pS c)/\l.outs.length=r.table.outs.length/\ ∀ x ∈ l.outs,jj x/\gM x<=2 ^ 30
def mM(row:List aW): Prop:=row.length<=2 ^ 30/\ ∀ w ∈ row,ug w
def Ij(cs:List cJ)(row:List aW)(c:Cell)(r:List Cell)(k:Nat): nG cs row (c::r) k=if(nF c (row.getD k default) cs row).2≠0\/(nF c (row.getD k default) cs row).1=false then(false,(nF c (row.getD k default) cs row).2)else nG cs row r (k+1):=rfl
def aa7(r:Ready)(hr:Hl r)(row:List aW)(hrow:mM row)(j:Nat)(hj:j<r.lines.length)(hl:r.table.ins.length<=row.length): aQ aI 143 [lB r,I j,br row] (O1 (nG r.table.ins row (r.lines.getD j default).cells 0)):=by
 have F1:=(hr.line _ (bx hj)).1;obtain⟨ln,aik⟩:=cq (r.lines.getD j default);rw[aik]at F1 ⊢;obtain⟨L,hL⟩:=cq ln.cells;rw[hL]at F1 ⊢;have hA:=fun k (hk:k<L.length)=>Yz (L.getD k default) (row.getD k default) r.table.ins row (F1.2 _ (bx hk)) (hrow.2 _ (bx ae)) (by have:=hr.ins;omega) (by have:=hrow.1;omega) hrow.2;have hlen:L.length<=row.length:=ae;have anW:L.length<=2 ^ 30:=by have:=hr.ins;omega
 have Ee:=hrow.1;clear F1 hrow hr hl;obtain⟨R,hR⟩:=cq (nG r.table.ins row L 0);rw[hR];simp only[lB,b_,eL,qb,br]at hA ⊢;refine aY RL ?_;intro Q aJ aK aL;repeat' first|refine cB (zA aik hL) ?_|refine aC ?_|refine aB ?_ ?_<;>intro hw<;>try omega|fail
 with_reducible refine bG [6,6,19,26] (fun q:Nat × List aX=>[(19,I q.1)]) (fun q=> .cells [.str r.table.name,.aS false EC (r.table.ins.map dU),.aS false EC (r.table.outs.map dU),I r.table.bY,I r.table.agg,.aS false ER (r.table.rules.map fZ),.aS false ER (r.lines.map mF)]::q.2) (fun q=>q.1<=L.length/\nG r.table.ins row (L.drop q.1) q.1=R) (fun q=>L.length-q.1) (0,[]) ?_ ?_ ?_ ?_
 ·exact⟨aR,by rw[eU];exact hR⟩
 ·rfl
 ·exact at_
 rintro⟨i,τ⟩ u ⟨g1,g2⟩;dsimp only at g1 g2;clear hR;by_cases hi:i<L.length
 ·have cA:=hA i hi;clear hA;rw[kC hi,Ij]at g2;obtain⟨c,hc0⟩:=cq (L.getD i default);obtain⟨w,sD⟩:=cq (row.getD i default);rw[hc0,sD]at g2 cA;generalize nF c w r.table.ins row=p at *;obtain⟨p1,p2⟩:=p;dsimp only at g2;simp only[ei,jt,iq,O1]at cA;by_cases he:p2=0
  ·subst he;cases p1 with
   | true =>
     rw[aj aR]at g2;repeat' first|refine cB (zA hc0 sD) ?_|refine aC ?_|refine aB ?_ ?_<;>intro hw<;>try omega|fail
     all_goals first
      |(refine⟨(i+1,τ++[.cells [.bool c.any,.bool c.neg,.aS false ES (c.tests.map dR)]]),⟨by dsimp only;omega,g2⟩,by dsimp only;omega,by first|rfl|(simp[go_sem];done),c8,at_⟩)
      | exact bI
      | skip
   | false =>
     rw[au aR]at g2;repeat' first|refine cB (zA hc0 sD) ?_|refine aC ?_|refine aB ?_ ?_<;>intro hw<;>try omega|fail
     all_goals first|exact s_ g2.symm|exact bI|skip
  rw[au (.inl he)]at g2;repeat' first|refine cB (zA hc0 sD) ?_|refine aC ?_|refine aB ?_ ?_<;>intro hw<;>try omega|fail
  all_goals first|exact s_ g2.symm|exact bI|skip
 rw[cy ae]at g2;have g2:(true,0)=R:=g2;repeat' first|refine aC ?_|refine aB ?_ ?_<;>intro hw<;>try omega|fail
 all_goals first|exact s_ g2.symm|exact bI|skip
def eRu(p:List Int × Int × Int): AV:= .bR [ep p.1,I p.2.1,I p.2.2]
def LK{σ : ai}{v:AV}{l:List Int}{n e:Int}{p:List Int × Int × Int}(h:p=(l,n,e))(hv:View σ v (ep l)): ∃ r0,Out.ret (oneOf [v,I n,I e])=Out.ret r0/\View σ r0 (eRu p):=by
 subst h;exact gN (.cons hv (.cons (.refl _ rfl) (.cons (.refl _ rfl) (.nil _))))
def ov{σ : ai}{f:Bool}{l:List Int}: View σ (.aS f E1 (l.map sJ)) (ep l):=View.weak _ _ _ aR
def uT{σ : ai}{f:Bool}{n:Int}: View σ (.aS f E1 [I n]) (ep [n]):=View.weak _ _ _ aR
def Ik (Gb : Int) (cs : List cJ) (row : List aW) (l : kF) (r : List kF) (k : Nat) (acc : List Int) : s5 Gb cs row (l :: r) k acc = if (nG cs row l.cells 0).2 ≠ 0 then ([], (k : Int), (nG cs row l.cells 0).2)
    else if(nG cs row l.cells 0).1 then(if Gb=2 then([(k:Int)],0,0)else s5 Gb cs row r (k+1) (acc++[(k:Int)]))
    else s5 Gb cs row r (k+1) acc:=rfl
def JO{ins:List cJ}{row:List aW}(h:mu ins row=true): row.length=ins.length:=by
 unfold mu at h;rw[aD,aM]at h;exact h.1
def aa8(r:Ready)(hr:Hl r)(row:List aW)(hrow:mM row): aQ aI 105 [lB r,br row] (eRu (eJ r row)):=by
 have c1:=aa6 r row (by have:=hrow.1;omega) hrow.2;unfold eJ;cases hin:mu r.table.ins row with
 | false =>
   have:Ii r.table.ins row=21:=by unfold Ii;rw[hin];rfl
   rw[this]at c1;rw[aj da];simp only[lB,b_,eL,qb,br]at c1 ⊢;refine aY Fz ?_;intro Q aJ aK aL;repeat' first|refine aC ?_|refine aB ?_ ?_<;>intro hw<;>try omega|fail
   all_goals first|exact LK rfl (.aU _)|exact bI|skip
 | true =>
 have:Ii r.table.ins row=0:=by unfold Ii;rw[hin];rfl
 rw[this]at c1;rw[au rfl];clear this;have hin:=JO hin;have cA:=fun j hj=>aa7 r hr row hrow j hj ae;have h24:=hr.lines;clear hr hrow hin;obtain⟨R,hR⟩:=cq (s5 r.table.bY r.table.ins row r.lines 0 []);rw[hR];simp only[lB,b_,eL,qb,br]at c1 cA ⊢;refine aY Fz ?_;intro Q aJ aK aL;repeat' first|refine aC ?_|refine aB ?_ ?_<;>intro hw<;>try omega|fail
 with_reducible refine bG [4,3,8,4,21,32] (fun q:Nat × List Int=>[(21,I q.1),(8,.own E1 1 q.2.length 0 q.2.length)]) (fun q=>[.cells [.str r.table.name,.aS false EC (r.table.ins.map dU),.aS false EC (r.table.outs.map dU),I r.table.bY,I r.table.agg,.aS false ER (r.table.rules.map fZ),.aS false ER (r.lines.map mF)],.vec E1 (q.2.map sJ)]) (fun q=>q.1<=r.lines.length/\q.2.length<=q.1/\s5 r.table.bY r.table.ins row (r.lines.drop q.1) q.1 q.2=R) (fun q=>r.lines.length-q.1) (0,[]) ?_ ?_ ?_ ?_
 ·exact⟨aR,aR,by rw[eU];exact hR⟩
 ·rfl
 ·exact at_
 rintro⟨i,acc⟩ u ⟨g1,g3,g2⟩;dsimp only at g1 g2 g3;clear hR;by_cases hi:i<r.lines.length
 ·have cA:=cA i hi;rw[kC hi,Ik]at g2;generalize nG r.table.ins row (r.lines.getD i default).cells 0=p at *;obtain⟨p1,p2⟩:=p;dsimp only at g2;simp only[O1]at cA;by_cases he:p2=0
  ·subst he;rw[aj aR]at g2;cases p1 with
   | true =>
     rw[au rfl]at g2;by_cases hp:r.table.bY=2
     ·rw[au hp]at g2;repeat' first|refine aC ?_|refine aB ?_ ?_<;>intro hw<;>try omega|fail
      all_goals first|exact LK g2.symm uT|exact bI|skip
     rw[aj hp]at g2;repeat' first|refine aC ?_|refine aB ?_ ?_<;>intro hw<;>try omega|fail
     all_goals first
      |(refine⟨(i+1,acc++[(i:Int)]),⟨by dsimp only;omega,by dsimp only;simp only[List.length_append,List.length_cons,List.length_nil];omega,g2⟩,by dsimp only;omega,by first|rfl|(simp[go_sem];done),c8,at_⟩)
      | exact bI
      | skip
   | false =>
     rw[aj da]at g2;repeat' first|refine aC ?_|refine aB ?_ ?_<;>intro hw<;>try omega|fail
     all_goals first
      |(refine⟨(i+1,acc),⟨by dsimp only;omega,by dsimp only;omega,g2⟩,by dsimp only;omega,by first|rfl|(simp[go_sem];done),c8,at_⟩)
      | exact bI
      | skip
  rw[au he]at g2;repeat' first|refine aC ?_|refine aB ?_ ?_<;>intro hw<;>try omega|fail
  all_goals first|exact LK g2.symm (.aU _)|exact bI|skip
 rw[cy ae]at g2;have g2:(acc,(0:Int),(0:Int))=R:=g2;clear cA;repeat' first|refine aC ?_|refine aB ?_ ?_<;>intro hw<;>try omega|fail
 all_goals first|exact LK g2.symm (by exact vw_)|exact bI|skip
def aa9(c:cJ)(v:aW)(hl:c.order.length<=2 ^ 60): aQ aI 198 [dU c,cR v] (I (kT c v)):=by
 have h:=rF c.order v hl;unfold kT;generalize kP (fun x=>x==v) c.order=i at *;obtain⟨R,hR⟩:=cq ((if i<0 then(c.order.length:Int)else i));rw[hR];simp only[br,iq,dU]at h ⊢;refine aY RM ?_;intro Q aJ aK aL;repeat' first|refine aC ?_|refine aB ?_ ?_<;>intro hw<;>try omega|fail
 all_goals first
  | exact pZ (by rw[<-hR,aj ae])
  | exact pZ (by rw[<-hR,au ae])
  | exact bI
  | skip
def mS: List cJ->List aW->List aW->Int
 | c::cs,a::r,b::t=>if j_ (kT c a) (kT c b)≠0 then j_ (kT c a) (kT c b)else mS cs r t
 | _,_,_=>0
def agc(a b:Int): (j_ a b≠0↔a≠b)/\(j_ a b<0↔a<b):=by
 unfold j_;constructor
 ·constructor
  ·intro h e;subst e;simp at h
  intro h;split
  ·decide
  split
  ·decide
  omega
 constructor
 ·intro h;split at h
  ·assumption
  split at h<;>simp at h
 intro h;rw[au h];decide
def Tj: ∀(cs:List cJ) (a b:List aW),w7 cs a b=decide (mS cs a b<0)
 | c :: cs, a :: r, b :: t => by
   have h:=agc (kT c a) (kT c b);unfold w7 mS;by_cases e:kT c a=kT c b
   ·rw[aj (by simpa using e),aj (fun h'=>h.1.1 h' e)];exact Tj cs r t
   rw[au e,au (h.1.2 e),cQ,aM,aM];exact h.2.symm
 | [],_,_=>by unfold w7 mS;rfl
 | _::_,[],_=>by unfold w7 mS;rfl
 | _::_,_::_,[]=>by unfold w7 mS;rfl
def aa_{cs:List cJ}{a b:List aW}{k:Nat}(h1:k<cs.length)(h2:k<a.length)(h3:k<b.length): mS (cs.drop k) (a.drop k) (b.drop k)=if j_ (kT (cs.getD k default) (a.getD k default)) (kT (cs.getD k default) (b.getD k default))≠0 then j_ (kT (cs.getD k default) (a.getD k default)) (kT (cs.getD k default) (b.getD k default))else mS (cs.drop (k+1)) (a.drop (k+1)) (b.drop (k+1)):=by
 rw[kC h1,kC h2,kC h3];rfl
def YB{cs:List cJ}{a b:List aW}{k:Nat}(h1:cs.length<=k): mS (cs.drop k) (a.drop k) (b.drop k)=0:=by
 rw[List.drop_of_length_le h1];unfold mS;rfl
def ez(l:List (List aW)): AV:= .aS false E1 (l.map br)
def O4(l:List (List aW)): (ez l).dy=true:=by simp only[ez,AV.dy];exact fN _ _ uc
def Tk(l:List (List aW)): AV.cE (l.map br)=true:=fN _ _ uc
attribute [simp] O4 Tk
def Gu{outs:List cJ}{rows:List (List aW)}: ∀ {l:List (List aW)} {i b:Nat},i+l.length=rows.length->b<rows.length->qi outs rows l i b<rows.length
 | [],_,_,_,h=>h
 | a :: r, i, b, hl, h => by
   unfold qi;simp only[aO]at hl;refine Gu ae ?_;split
   ·omega
   exact h
def U1(outs:List cJ)(rows:List (List aW))(a:List aW)(r:List (List aW))(i b:Nat): qi outs rows (a::r) i b=qi outs rows r (i+1) (if mS outs a (rows.getD b default)<0 then i else b):=by
 show qi outs rows r (i+1) (if w7 outs a (rows.getD b default)then i else b)=_;rw[Tj]
 congr 1
 by_cases h:mS outs a (rows.getD b default)<0
 ·rw[au h,au (by simpa using h)]
 rw[aj h,aj (by simpa using h)]
def abb(cs:List cJ)(rows:List (List aW))(hc:∀ c ∈ cs,c.order.length<=2 ^ 60)(hl:cs.length<=2 ^ 30)(hr:rows.length<=2 ^ 30)(hw:∀ a ∈ rows,a.length=cs.length): aQ aI 147 [b_ cs,ez rows] (I (qi cs rows rows 0 0)):=by
 have hp:=fun k (hk:k<cs.length) v=>aa9 (cs.getD k default) v (hc _ (bx hk));have hcm:=cmp_Compare_int;have xR:=fun i (hi:i<rows.length)=>hw _ (bx hi);clear hc hw;obtain⟨B,hB⟩:=cq (qi cs rows rows 0 0);rw[hB];simp only[b_,ez];refine aY RJ ?_;intro Q aJ aK aL;repeat' first|refine aC ?_|refine aB ?_ ?_<;>intro hw<;>try omega|fail
 with_reducible refine bG [5,5,12,36] (fun q:(Nat × Nat) × List aX=>[(5,I q.1.2),(12,I q.1.1)]) (fun q=>q.2) (fun q=>q.1.1<=rows.length/\(q.1.1<rows.length->q.1.2<rows.length)/\qi cs rows (rows.drop q.1.1) q.1.1 q.1.2=B) (fun q=>rows.length-q.1.1) ((0,0),[]) ?_ ?_ ?_ ?_
 ·exact⟨aR,fun h=>h,by simpa using hB⟩
 ·rfl
 ·exact at_
 rintro⟨⟨i,b⟩,τ⟩ u ⟨g1,g2,g3⟩;dsimp only at g1 g2 g3;clear hB;by_cases hi:i<rows.length
 ·rw[kC hi,U1]at g3;have gb:=g2 hi;have la:=xR i hi;have lb:=xR b gb;obtain⟨x,hx⟩:=cq (rows.getD i default);obtain⟨y,hy⟩:=cq (rows.getD b default);rw[hx]at la;rw[hy]at lb;rw[hx,hy]at g3;have hat:=fun k (hk:k<cs.length)=>aa_ (cs:=cs) (a:=x) (b:=y) hk ae ae;have kY:=fun k (hk:cs.length<=k)=>YB (a:=x) (b:=y) hk;have hN:mS cs x y=mS cs x y:=rfl;generalize hNe:mS cs x y=N at g3 hN;clear hN xR;repeat' first|refine cB (zA hx hy) ?_|refine aC ?_|refine aB ?_ ?_<;>intro hw<;>try omega|fail
  with_reducible refine bG [7,3,17,27] (fun q:(Nat × Int) × List aX=>[(7,I q.1.2),(17,I q.1.1)]) (fun q=>q.2) (fun q=>q.1.1<=cs.length/\(if q.1.2≠0 then q.1.2 else mS (cs.drop q.1.1) (x.drop q.1.1) (y.drop q.1.1))=N) (fun q=>cs.length-q.1.1) ((0,0),τ) ?_ ?_ ?_ ?_
  ·exact⟨aR,by simpa using hNe⟩
  ·rfl
  ·exact at_
  rintro⟨⟨k,n⟩,k_⟩ u' ⟨k1,k2⟩;dsimp only at k1 k2;clear hNe;by_cases hk:k<cs.length
  ·by_cases hn:n=0
   ·subst hn;rw[aj aR,hat k hk]at k2;have c1:=hp k hk (x.getD k default);have c2:=hp k hk (y.getD k default);obtain⟨c,hc0⟩:=cq (cs.getD k default);obtain⟨v,nk⟩:=cq (x.getD k default);obtain⟨w,sD⟩:=cq (y.getD k default);rw[hc0,nk,sD]at k2;rw[hc0,nk]at c1;rw[hc0,sD]at c2;generalize kT c v=m1 at *;generalize kT c w=m2 at *;have c3:=hcm m1 m2;generalize j_ m1 m2=m3 at *;clear hp hat kY hcm;simp only[dU,br,iq]at c1 c2;repeat' first|refine cB (zC hc0 nk sD (zA hx hy)) ?_|refine aC ?_|refine aB ?_ ?_<;>intro hw<;>try omega|fail
    all_goals first
     | exact bI
     |(refine⟨((k+1,m3),k_++[.cells [.str c.name,I c.kind,.aS false EV (c.order.map cR)]]),⟨by dsimp only;omega,k2⟩,by dsimp only;omega,by first|rfl|(simp[go_sem];done),c8,at_⟩)
     | skip
   rw[au hn]at k2;subst k2;obtain⟨c,hc0⟩:=cq (cs.getD k default);clear hp hat kY hcm;repeat' first|refine cB hc0 ?_|refine aC ?_|refine aB ?_ ?_<;>intro hw<;>try omega|fail
   all_goals first
    | exact bI
    |(refine⟨((k+1,n),k_++[.cells [.str c.name,I c.kind,.aS false EV (c.order.map cR)]]),⟨by dsimp only;omega,if_pos hn⟩,by dsimp only;omega,by first|rfl|(simp[go_sem];done),c8,at_⟩)
    | skip
  have hnN:n=N:=by
   rw[kY k ae]at k2;split at k2
   ·exact k2
   omega
  subst hnN;clear hp hat kY hcm;by_cases h0:n<0
  ·rw[au h0]at g3;repeat' first|refine aC ?_|refine aB ?_ ?_<;>intro hw<;>try omega|fail
   all_goals first
    | exact bI
    |(refine⟨((i+1,i),k_),⟨by dsimp only;omega,fun h=>hi,g3⟩,by dsimp only;omega,by first|rfl|(simp[go_sem];done),c8,at_⟩)
    | skip
  rw[aj h0]at g3;repeat' first|refine aC ?_|refine aB ?_ ?_<;>intro hw<;>try omega|fail
  all_goals first
   | exact bI
   |(refine⟨((i+1,b),k_),⟨by dsimp only;omega,fun h=>gb,g3⟩,by dsimp only;omega,by first|rfl|(simp[go_sem];done),c8,at_⟩)
   | skip
 rw[cy ae]at g3;have g3:b=B:=g3;subst g3;clear hp hcm xR;repeat' first|refine aC ?_|refine aB ?_ ?_<;>intro hw<;>try omega|fail
 all_goals first|exact pZ rfl|exact bI|skip
def agd{a b:List aW}{k:Nat}(h2:k<a.length)(h3:k<b.length): iS (a.drop k) (b.drop k)=if jr (a.getD k default) (b.getD k default)≠0 then jr (a.getD k default) (b.getD k default)else iS (a.drop (k+1)) (b.drop (k+1)):=by
 rw[kC h2,kC h3];rfl
def abd{a b:List aW}{k:Nat}(h2:k<a.length)(h3:b.length<=k): iS (a.drop k) (b.drop k)=1:=by
 rw[kC h2,cy h3];rfl
def abe{a b:List aW}{k:Nat}(h2:a.length<=k)(h3:k<b.length): iS (a.drop k) (b.drop k) = -1:=by
 rw[kC h3,cy h2];rfl
def adY{a b:List aW}{k:Nat}(h2:a.length<=k)(h3:b.length<=k): iS (a.drop k) (b.drop k)=0:=by
 rw[cy h2,cy h3];rfl
def Qk(a b:List aW)(ha:a.length<=2 ^ 30)(hb:b.length<=2 ^ 30): aQ aI 192 [br a,br b] (I (iS a b)):=by
 have c:aQ aI 193 [br a,br b,.fn (.func 194) [] []] (I (iS a b)):=by
  have hc:=fun k=>nR (a.getD k default) (b.getD k default);have hat:=fun k (hk:k<a.length) (k8:k<b.length)=>agd (a:=a) (b:=b) hk k8;have LL:=fun k (hk:k<a.length) k8=>abd (a:=a) (b:=b) hk k8;have LM:=fun k hk (k8:k<b.length)=>abe (a:=a) (b:=b) hk k8;have kY:=fun k hk k8=>adY (a:=a) (b:=b) (k:=k) hk k8;obtain⟨N,hN⟩:=cq (iS a b);rw[hN];simp only[br];refine aY wO ?_;intro Q aJ aK aL;repeat' first|refine aC ?_|refine aB ?_ ?_<;>intro hw<;>try omega|fail
  with_reducible refine bG [6,5,13,21] (fun q:Nat × List aX=>[(13,I q.1)]) (fun q=>q.2) (fun q=>q.1<=a.length/\(q.1<=b.length)/\iS (a.drop q.1) (b.drop q.1)=N) (fun q=>a.length-q.1) (0,[]) ?_ ?_ ?_ ?_
  ·exact⟨aR,aR,by simpa using hN⟩
  ·rfl
  ·exact at_
  rintro⟨i,τ⟩ u ⟨g1,g3,g2⟩;dsimp only at g1 g2 g3;clear hN;by_cases hi:i<a.length
  ·obtain⟨x,hx0⟩:=cq (a.getD i default);by_cases hj:i<b.length
   ·have c1:=hc i;rw[hat i hi hj]at g2;obtain⟨y,hy0⟩:=cq (b.getD i default);rw[hx0,hy0]at g2 c1;generalize jr x y=m at *;clear hc hat kY LL LM;simp only[iq]at c1;by_cases he:m=0
    ·rw[aj (by simpa using he)]at g2;repeat' first|refine cB (zA hx0 hy0) ?_|refine aC ?_|refine aB ?_ ?_<;>intro hw<;>try omega|fail
     all_goals first
      | exact bI
      |(refine⟨(i+1,τ++[.cells [I x.kind,I x.n,.str x.s]]++[.cells [I y.kind,I y.n,.str y.s]]),⟨by dsimp only;omega,by dsimp only;omega,g2⟩,by dsimp only;omega,by first|rfl|(simp[go_sem];done),c8,at_⟩)
      | skip
    rw[au he]at g2;subst g2;repeat' first|refine cB (zA hx0 hy0) ?_|refine aC ?_|refine aB ?_ ?_<;>intro hw<;>try omega|fail
    all_goals first|exact pZ rfl|exact bI|skip
   rw[LL i hi ae]at g2;clear hc hat kY LL LM;repeat' first|refine cB hx0 ?_|refine aC ?_|refine aB ?_ ?_<;>intro hw<;>try omega|fail
   all_goals first|exact pZ g2.symm|exact bI|skip
  by_cases hj:i<b.length
  ·rw[LM i ae hj]at g2;clear hc hat kY LL LM;repeat' first|refine aC ?_|refine aB ?_ ?_<;>intro hw<;>try omega|fail
   all_goals first|exact pZ g2.symm|exact bI|skip
  rw[kY i ae ae]at g2;clear hc hat kY LL LM;repeat' first|refine aC ?_|refine aB ?_ ?_<;>intro hw<;>try omega|fail
  all_goals first|exact pZ g2.symm|exact bI|skip
 simp only[br]at c ⊢;refine aY Jn ?_;intro Q aJ aK aL;repeat' first|refine aC ?_|refine eS c ?_|refine aB ?_ ?_<;>intro hw<;>try omega|fail
 all_goals first|exact pZ rfl|exact bI|skip
def zH (fn : FuncId) (cap : List AV) (hcap : AV.cE cap = true) (p : List aW -> Bool) (l : List (List aW)) (h : ∀ k, k < l.length -> aQ aI fn (br (l.getD k default) :: cap) (.bool (p (l.getD k default)))) (hl : l.length <= 2 ^ 62) :
    aQ aI 137 [ez l,.fn (.func fn) [] cap] (I (kP p l)):=by
 refine aY xw ?_ (by simp[AV.dy,AV.cE,hcap]);intro Q aJ aK aL;simp only[ez];repeat' first|refine aC ?_|refine aB ?_ ?_<;>intro hw<;>try omega|fail
 with_reducible refine bG [4,2,8,11] (fun i:Nat=>[(8,I i)]) (fun _=>[]) (fun i=>i<=l.length/\ ∀ k,k<i->p (l.getD k default)=false) (fun i=>l.length-i) (0) ?_ ?_ ?_ ?_
 ·simp
 ·rfl
 ·exact at_
 rintro i r ⟨hi,hp⟩;by_cases hin:i<l.length
 ·have hx:=h i hin;simp only[br]at hx;repeat' first|refine aC ?_|refine aB ?_ ?_<;>intro hw<;>try omega|fail
  ·refine a_ ?_ rfl;refine bj I ?_;exact(qz hin hp hw).symm
  refine⟨i+1,?_,?_,by first|rfl|(simp[go_sem];done),c8,at_⟩<;>(try dsimp only)
  ·exact⟨ae,cn hp hw⟩
  omega
 repeat' first|refine aC ?_|refine aB ?_ ?_<;>intro hw<;>try omega|fail
 refine a_ ?_ rfl;refine bj I ?_;exact(nu fun k hk=>hp k ae).symm
def qt (fn : FuncId) (cap : List AV) (hcap : AV.cE cap = true) (p : List aW -> Bool) (l : List (List aW)) (h : ∀ k, k < l.length -> aQ aI fn (br (l.getD k default) :: cap) (.bool (p (l.getD k default)))) (hl : l.length <= 2 ^ 62) :
    aQ aI 98 [ez l,.fn (.func fn) [] cap] (.bool (l.any p)):=by
 refine aY u_ ?_ (by simp[AV.dy,AV.cE,hcap]);intro Q aJ aK aL;have hc:=zH fn cap hcap p l h hl;repeat' first|refine aC ?_|refine aB ?_ ?_<;>intro hw<;>try omega|fail
 all_goals refine a_ ?_ rfl
 all_goals rw[<-vS]
def Tl(r:List aW)(rows:List (List aW))(h0:0<rows.length)(hr:r.length<=2 ^ 60)(hr0:(rows.getD 0 default).length<=2 ^ 60): aQ aI 196 [br r,.eY ⟨false,1⟩ (ez rows) 0] (.bool (!(fq (fun a b=>a==b) r (rows.getD 0 default)))):=by
 have c:=oq r (rows.getD 0 default) hr hr0;generalize fq (fun a b=>a==b) r (rows.getD 0 default)=B at *;obtain⟨y,hy⟩:=cq (rows.getD 0 default);rw[hy]at c;simp only[ez,br]at c ⊢;refine aY KV ?_;intro Q aJ aK aL;repeat' first|simp (disch:=omega) only[go_sem,aJ,aK,aL,hy,br]|refine aC ?_|refine eS c ?_|refine aB ?_ ?_<;>intro hw<;>try omega|fail
 all_goals first|exact DH rfl rfl|exact bI|skip
def YC(rows:List (List aW))(hr:rows.length<=2 ^ 30)(hw:∀ a ∈ rows,a.length<=2 ^ 30): aQ aI 146 [ez rows] (.bool (Cd rows)):=by
 have c:=qt 196 [.eY ⟨false,1⟩ (ez rows) 0] (by simp[AV.cE,AV.dy]) (fun r=> !(fq (fun a b=>a==b) r (rows.getD 0 default))) rows (fun k hk=>Tl _ rows ae (by have:=hw _ (bx hk);omega) (by have:=hw _ (bx (i:=0) (l:=rows) ae);omega)) ae;have hu:(rows.any fun r=> !(fq (fun a b=>a==b) r (rows.getD 0 default)))=Cd rows:=rfl;rw[hu]at c;generalize Cd rows=B at *;refine aY P7 ?_;intro Q aJ aK aL;simp only[ez]at c ⊢;repeat' first|refine aC ?_|refine HZ c ?_|refine aB ?_ ?_<;>intro hw<;>try omega|fail
 all_goals first|exact DH rfl rfl|exact bI|skip
def Il(v:aW)(r:List aW)(m:aW): qj (v::r) m=qj r (if jr v m<0 then v else m):=rfl
def LN(v:aW)(r:List aW)(m:aW): uP (v::r) m=uP r (if 0<jr v m then v else m):=rfl
def DK(m:aW)(l:List aW)(hl:l.length<=2 ^ 30): aQ aI 241 [br (m::l),.fn (.func 194) [] []] (cR (qj l m)):=by
 have hc:=nR;obtain⟨L,hL⟩:=cq (m::l);have hlen:L.length=l.length+1:=by rw[<-hL];rfl
 have h0:L.getD 0 default=m:=by rw[<-hL];rfl
 have hd:L.drop 1=l:=by rw[<-hL];rfl
 obtain⟨R,hR⟩:=cq (qj l m);rw[hR,hL];simp only[br];refine aY zF ?_;intro Q aJ aK aL;repeat' first|refine cB h0 ?_|refine aC ?_|refine aB ?_ ?_<;>intro hw<;>try omega|fail
 with_reducible refine bG [6,1,14,18] (fun q:Nat × aW=>[(6,I q.1)]) (fun q=>[.cells [I 0,I 0,.str []],.cells [I q.2.kind,I q.2.n,.str q.2.s]]) (fun q=>1<=q.1/\q.1<=L.length/\qj (L.drop q.1) q.2=R) (fun q=>L.length-q.1) (1,m) ?_ ?_ ?_ ?_
 ·exact⟨aR,by dsimp only;omega,by dsimp only;rw[hd];exact hR⟩
 ·rfl
 ·exact at_
 rintro⟨i,b⟩ u ⟨g1,g2,g3⟩;dsimp only at g1 g2 g3;by_cases hi:i<L.length
 ·rw[kC hi,Il]at g3;obtain⟨v,hv⟩:=cq (L.getD i default);rw[hv]at g3;have c:=hc v b;generalize jr v b=n at *;clear hc;simp only[iq]at c;by_cases hn:n<0
  ·rw[au hn]at g3;repeat' first|refine cB hv ?_|refine aC ?_|refine eS c ?_|refine aB ?_ ?_<;>intro hw<;>try omega|fail
   all_goals first
    | exact bI
    | (refine ⟨(i + 1, v), ?_, ?_, by first | rfl | (simp [go_sem]; done), c8, at_⟩ <;> (try dsimp only)
       ·exact⟨ae,ae,g3⟩
       ·omega)
    | skip
  rw[aj hn]at g3;repeat' first|refine cB hv ?_|refine aC ?_|refine eS c ?_|refine aB ?_ ?_<;>intro hw<;>try omega|fail
  all_goals first
   | exact bI
   | (refine ⟨(i + 1, b), ?_, ?_, by first | rfl | (simp [go_sem]; done), c8, at_⟩ <;> (try dsimp only)
      ·exact⟨ae,ae,g3⟩
      ·omega)
   | skip
 rw[cy ae]at g3;have g3:b=R:=g3;subst g3;clear hc;repeat' first|refine aC ?_|refine aB ?_ ?_<;>intro hw<;>try omega|fail
 all_goals first|exact a_ rfl rfl|exact bI|skip
def DL(m:aW)(l:List aW)(hl:l.length<=2 ^ 30): aQ aI 242 [br (m::l),.fn (.func 194) [] []] (cR (uP l m)):=by
 have hc:=nR;obtain⟨L,hL⟩:=cq (m::l);have hlen:L.length=l.length+1:=by rw[<-hL];rfl
 have h0:L.getD 0 default=m:=by rw[<-hL];rfl
 have hd:L.drop 1=l:=by rw[<-hL];rfl
 obtain⟨R,hR⟩:=cq (uP l m);rw[hR,hL];simp only[br];refine aY zE ?_;intro Q aJ aK aL;repeat' first|refine cB h0 ?_|refine aC ?_|refine aB ?_ ?_<;>intro hw<;>try omega|fail
 with_reducible refine bG [6,1,14,18] (fun q:Nat × aW=>[(6,I q.1)]) (fun q=>[.cells [I 0,I 0,.str []],.cells [I q.2.kind,I q.2.n,.str q.2.s]]) (fun q=>1<=q.1/\q.1<=L.length/\uP (L.drop q.1) q.2=R) (fun q=>L.length-q.1) (1,m) ?_ ?_ ?_ ?_
 ·exact⟨aR,by dsimp only;omega,by dsimp only;rw[hd];exact hR⟩
 ·rfl
 ·exact at_
 rintro⟨i,b⟩ u ⟨g1,g2,g3⟩;dsimp only at g1 g2 g3;by_cases hi:i<L.length
 ·rw[kC hi,LN]at g3;obtain⟨v,hv⟩:=cq (L.getD i default);rw[hv]at g3;have c:=hc v b;generalize jr v b=n at *;clear hc;simp only[iq]at c;by_cases hn:0<n
  ·rw[au hn]at g3;repeat' first|refine cB hv ?_|refine aC ?_|refine eS c ?_|refine aB ?_ ?_<;>intro hw<;>try omega|fail
   all_goals first
    | exact bI
    | (refine ⟨(i + 1, v), ?_, ?_, by first | rfl | (simp [go_sem]; done), c8, at_⟩ <;> (try dsimp only)
       ·exact⟨ae,ae,g3⟩
       ·omega)
    | skip
  rw[aj hn]at g3;repeat' first|refine cB hv ?_|refine aC ?_|refine eS c ?_|refine aB ?_ ?_<;>intro hw<;>try omega|fail
  all_goals first
   | exact bI
   | (refine ⟨(i + 1, b), ?_, ?_, by first | rfl | (simp [go_sem]; done), c8, at_⟩ <;> (try dsimp only)
      ·exact⟨ae,ae,g3⟩
      ·omega)
   | skip
 rw[cy ae]at g3;have g3:b=R:=g3;subst g3;clear hc;repeat' first|refine aC ?_|refine aB ?_ ?_<;>intro hw<;>try omega|fail
 all_goals first|exact a_ rfl rfl|exact bI|skip
def uh{σ : ai}{v:aW}{e:Int}{r:jG}(h1:valOf r=v)(h2:pX r=e): ∃ r0,Out.ret (oneOf [.agg [I v.kind,I v.n,.str v.s],I e])=Out.ret r0/\View σ r0 (Bp r):=by
 have:AV.bR [cR v,I e]=Bp r:=by
  cases r with
  | ok w=>rw[Cn];rw[<-h1,<-h2];rfl
  | err e'=>rw[tT];rw[<-h1,<-h2];rfl
 rw[<-this];exact cg rfl rfl
def Gv (v : aW) (r : List aW) (n : Int) : Bn (v :: r) n = match kq (n + v.n) with
    | .err e=> .err e
    | .ok w=>Bn r w.n:=rfl
def DM(n:Int): (kq n = .ok ⟨1,n,[]⟩/\kQ n)\/kq n = .err 15:=by
 unfold kq;split
 ·rename_i h;exact .inl ⟨rfl,h⟩
 exact .inr rfl
def age(l:List aW)(hl:l.length<=2 ^ 30)(hr:∀ v ∈ l,kQ v.n): aQ aI 240 [br l] (Bp (if l=[]then .ok v0 else Bn l 0)):=by
 have hc:=fun n (hn:kQ n) k (hk:k<l.length)=>SZ n (l.getD k default).n hn (hr _ (bx hk));clear hr;by_cases h0:l=[]
 ·subst h0;rw[au rfl];simp only[br];refine aY KU ?_;intro Q aJ aK aL;repeat' first|refine aC ?_|refine aB ?_ ?_<;>intro hw<;>try omega|fail
  all_goals first|exact uh (v:=v0) (r:= .ok v0) rfl rfl|exact bI|skip
 rw[aj h0];have hpos:0<l.length:=iR.2 h0;obtain⟨R,hR⟩:=cq (Bn l 0);rw[hR];simp only[br];refine aY KU ?_;intro Q aJ aK aL;repeat' first|refine aC ?_|refine aB ?_ ?_<;>intro hw<;>try omega|fail
 with_reducible refine bG [3,2,6,2,14,16] (fun q:(Nat × Int) × List aX=>[(4,I q.1.2),(14,I q.1.1)]) (fun q=> .cells [I 0,I 0,.str []]::q.2) (fun q=>q.1.1<=l.length/\kQ q.1.2/\Bn (l.drop q.1.1) q.1.2=R) (fun q=>l.length-q.1.1) ((0,0),[]) ?_ ?_ ?_ ?_
 ·exact⟨aR,by dsimp only;unfold kQ;omega,hR⟩
 ·rfl
 ·exact at_
 rintro⟨⟨i,n⟩,τ⟩ u ⟨g1,g2,g3⟩;dsimp only at g1 g2 g3;clear hR;by_cases hi:i<l.length
 ·rw[kC hi,Gv]at g3;have c:=hc n g2 i hi;obtain⟨v,hv⟩:=cq (l.getD i default);rw[hv]at g3 c;clear hc;rcases DM (n+v.n)with ⟨e,hrg⟩|e
  ·rw[e]at g3 c;dsimp only at g3;have e1:numOf (.ok ⟨1,n+v.n,[]⟩)=n+v.n:=rfl;have e2:pX (.ok ⟨1,n+v.n,[]⟩)=0:=rfl;rw[e1,e2]at c;repeat' first|refine cB hv ?_|refine aC ?_|refine eS c ?_|refine aB ?_ ?_<;>intro hw<;>try omega|fail
   all_goals first
    | exact bI
    |(refine⟨((i+1,n+v.n),τ++[.cells [I v.kind,I v.n,.str v.s]]),⟨by dsimp only;omega,hrg,g3⟩,by dsimp only;omega,by first|rfl|(simp[go_sem];done),c8,at_⟩)
    | skip
  rw[e]at g3 c;dsimp only at g3;subst g3;have e1:numOf (.err 15)=0:=rfl;have e2:pX (.err 15)=15:=rfl;rw[e1,e2]at c;repeat' first|refine cB hv ?_|refine aC ?_|refine eS c ?_|refine aB ?_ ?_<;>intro hw<;>try omega|fail
  all_goals first|exact uh (v:=v0) (r:= .err 15) rfl rfl|exact bI|skip
 rw[cy ae]at g3;have g3:jG.ok ⟨1,n,[]⟩=R:=g3;subst g3;clear hc;repeat' first|refine aC ?_|refine aB ?_ ?_<;>intro hw<;>try omega|fail
 all_goals first|exact uh (v:=⟨1,n,[]⟩) (r:= .ok ⟨1,n,[]⟩) rfl rfl|exact bI|skip
def U2(l:List (List aW))(a:List aW): kJ (l++[a])=kJ l++(if ek (a.getD 0 default)then []else [a.getD 0 default]):=by
 unfold kJ;rw[fH,List.filter_append]
 congr 1
 simp only[bB,cY,List.filter_cons,List.filter_nil];cases ek (a.getD 0 default)<;>rfl
def abf{α : Type}[Inhabited α]{l:List α}{k:Nat}(h:k<l.length): l.take (k+1)=l.take k++[l.getD k default]:=by
 rw[jB,aq,aG h];rfl
def YD(l:List (List aW)): (kJ l).length<=l.length:=by
 unfold kJ;exact cZ (List.length_filter_le _ _) aR
def LO{l:List (List aW)}{v:aW}(h:v ∈ kJ l): ∃ a ∈ l,v=a.getD 0 default:=by
 unfold kJ at h;obtain⟨a,ha,rfl⟩:=dG.1 (List.mem_filter.1 h).1;exact⟨a,ha,rfl⟩
def Wx(rows:List (List aW)): mL 4 rows = .ok ⟨1,rows.length,[]⟩:=by unfold mL;exact if_pos rfl
def Wy(rows:List (List aW)): mL 1 rows=if kJ rows=[]then .ok v0 else Bn (kJ rows) 0:=by
 unfold mL;rw[aj da];split
 ·rename_i h;rw[h,au rfl]
 rename_i m l h;rw[h];exact(au rfl).trans (aj aR).symm
def O5{agg:Int}{rows:List (List aW)}(h4:agg≠4)(h:kJ rows=[]): mL agg rows = .ok v0:=by
 unfold mL;rw[if_neg h4,h]
def Wz{rows:List (List aW)}{m:aW}{l:List aW}(h:kJ rows=m::l): mL 2 rows = .ok (qj l m):=by
 unfold mL;rw[if_neg da,h];rfl
def WA{agg:Int}{rows:List (List aW)}{m:aW}{l:List aW}(h4:agg≠4)(h1:agg≠1)(h2:agg≠2)(h:kJ rows=m::l): mL agg rows = .ok (uP l m):=by
 unfold mL;rw[if_neg h4,h];dsimp only;rw[if_neg h1,if_neg h2]
def adZ(v:aW): ek v=decide (v.kind=0):=rfl
def ad0(agg:Int)(rows:List (List aW))(hr:rows.length<=2 ^ 30)(hw:∀ a ∈ rows,0<a.length/\ ∀ v ∈ a,kQ v.n): aQ aI 195 [I agg,ez rows] (Bp (mL agg rows)):=by
 have hpos:=fun i (hi:i<rows.length)=>(hw _ (bx hi)).1;have Rc:=YD rows
 have cS:=age (kJ rows) ae (fun v hv=>by
  obtain⟨a,ha,rfl⟩:=LO hv;exact(hw a ha).2 _ (bx (hw a ha).1))
 rw[<-Wy]at cS
 have cL:∀ m l,kJ rows=m::l->aQ aI 241 [br (kJ rows),.fn (.func 194) [] []] (cR (qj l m)):=fun m l h=>by
  rw[h];exact DK m l (by rw[h]at Rc;simp at Rc;omega)
 have cM:∀ m l,kJ rows=m::l->aQ aI 242 [br (kJ rows),.fn (.func 194) [] []] (cR (uP l m)):=fun m l h=>by
  rw[h];exact DL m l (by rw[h]at Rc;simp at Rc;omega)
 clear hw;obtain⟨R,hR⟩:=cq (mL agg rows);rw[hR];simp only[ez];refine aY Uj ?_;intro Q aJ aK aL;repeat' first|refine aC ?_|refine aB ?_ ?_<;>intro hw<;>try omega|fail
 with_reducible refine bG [6,1,8,1,11,16] (fun q:Nat × List aW=>[(6,.own EV 1 q.2.length 0 q.2.length),(11,I q.1)]) (fun q=>[.cells [I 0,I 0,.str []],.vec EV (q.2.map cR)]) (fun q=>q.1<=rows.length/\q.2.length<=q.1/\q.2=kJ (rows.take q.1)) (fun q=>rows.length-q.1) (0,[]) ?_ ?_ ?_ ?_
 ·exact⟨aR,aR,rfl⟩
 ·rfl
 ·exact at_
 rintro⟨i,L⟩ u ⟨g1,g2,g3⟩;dsimp only at g1 g2 g3;by_cases hi:i<rows.length
 ·have hp:=hpos i hi;have hs:=U2 (rows.take i) (rows.getD i default);rw[<-abf hi,<-g3,adZ]at hs;obtain⟨a,ha⟩:=cq (rows.getD i default);rw[ha]at hp hs;obtain⟨v,hv⟩:=cq (a.getD 0 default);rw[hv]at hs;clear cS cL cM hpos Rc g3 hR;have z0:(0:Int).toNat=0:=rfl;by_cases hk:v.kind=0
  ·rw[au (by simpa using hk),bW]at hs;repeat' first|simp (disch:=omega) only[go_sem,aJ,aK,aL,ha,br,z0,hv]|refine aC ?_|refine aB ?_ ?_<;>intro hw<;>try omega|fail
   all_goals first
    | exact bI
    | (refine ⟨(i + 1, L), ?_, ?_, by first | rfl | (simp [go_sem]; done), c8, at_⟩ <;> (try dsimp only)
       ·exact⟨ae,ae,hs.symm⟩
       ·omega)
    | skip
  rw[aj (by simpa using hk)]at hs;repeat' first|simp (disch:=omega) only[go_sem,aJ,aK,aL,ha,br,z0,hv]|refine aC ?_|refine aB ?_ ?_<;>intro hw<;>try omega|fail
  all_goals first
   | exact bI
   | (refine ⟨(i + 1, L ++ [v]), ?_, ?_, by first | rfl | (simp [go_sem]; done), c8, at_⟩ <;> (try dsimp only)
      ·exact⟨ae,by simp only[aA,aO,bu];omega,hs.symm⟩
      ·omega)
   | skip
 rw[bH ae]at g3;clear hpos;have hag:agg=4->R = .ok ⟨1,rows.length,[]⟩:=fun h=>by rw[<-hR,h];exact Wx rows
 rw[<-g3]at cS cL cM Rc;have Gw:agg=1->R=mL 1 rows:=fun h=>by rw[<-hR,h]
 have kY:=fun(h4:agg≠4) (h:L=[])=>hR.symm.trans (O5 h4 (by rw[<-g3];exact h));have h2:∀ m l,L=m::l->agg=2->R = .ok (qj l m):=fun m l h h'=>by rw[<-hR,h'];exact Wz (by rw[<-g3];exact h)
 have ho:=fun m l (h:L=m::l) h4 h1 h2=>hR.symm.trans (WA h4 h1 h2 (by rw[<-g3];exact h));clear hR;simp only[br]at cS cL cM;by_cases e4:agg=4
 ·have hag:=hag e4;subst hag;subst e4;clear cS cL cM Gw kY h2 ho;repeat' first|refine aC ?_|refine aB ?_ ?_<;>intro hw<;>try omega|fail
  all_goals first|exact uh (v:=⟨1,rows.length,[]⟩) (r:= .ok ⟨1,rows.length,[]⟩) rfl rfl|exact bI|skip
 by_cases e1:agg=1
 ·have Gw:=Gw e1;rw[<-Gw]at cS;subst e1;clear cL cM kY h2 ho hag Gw;have hRr:Bp R = .bR [.agg [I (valOf R).kind,I (valOf R).n,.str (valOf R).s],I (pX R)]:=by cases R<;>rfl
  rw[hRr]at cS;repeat' first|refine aC ?_|refine HZ cS ?_|refine aB ?_ ?_<;>intro hw<;>try omega|fail
  all_goals first|exact uh (v:=valOf R) (r:=R) rfl rfl|exact bI|skip
 cases hL:L with
 | nil =>
   have kY:=kY e4 hL;subst kY;subst hL;clear cS cL cM h2 ho hag Gw;repeat' first|refine aC ?_|refine aB ?_ ?_<;>intro hw<;>try omega|fail
   all_goals first|exact uh (v:=v0) (r:= .ok v0) rfl rfl|exact bI|skip
 | cons m l =>
   have cL:=cL m l hL;have cM:=cM m l hL;have hm:(m::l).length=l.length+1:=rfl;rw[hL]at cL cM;by_cases e2:agg=2
   ·have h2:=h2 m l hL e2;subst h2;subst e2;subst hL;clear cS cM kY ho hag Gw;generalize qj l m=b at *;simp only[iq b]at cL;repeat' first|refine aC ?_|refine HZ cL ?_|refine aB ?_ ?_<;>intro hw<;>try omega|fail
    all_goals first|exact uh (v:=b) (r:= .ok b) rfl rfl|exact bI|skip
   have ho:=ho m l hL e4 e1 e2;subst ho;subst hL;clear cS cL kY h2 hag Gw;generalize uP l m=b at *;simp only[iq b]at cM;repeat' first|refine aC ?_|refine HZ cM ?_|refine aB ?_ ?_<;>intro hw<;>try omega|fail
   all_goals first|exact uh (v:=b) (r:= .ok b) rfl rfl|exact bI|skip
def LP(agg:Int): List aW->aW->jG
 | [],b=> .ok b
 | v :: r, b => if v = v0 then LP agg r b else if b = v0 then LP agg r v
   else if agg=1 then(match kq (b.n+v.n)with
    | .err e=> .err e
    | .ok w=>LP agg r w)
   else if(agg=2/\jr v b<0)\/(agg=3/\0<jr v b)then LP agg r v else LP agg r b
def aeW(a:List aW): aW:=a.getD 0 default
def ow(o:uQ): AV:= .agg [I o.err,ep o.rules,ez o.rows]
def abg(o:uQ): (ow o).dy=true:=by simp[ow,AV.dy,AV.cE]
attribute [simp] abg
def ail(rules:List Int): jG->uQ
 | .err e=>⟨e,rules,[]⟩
 | .ok v=>⟨0,rules,[[v]]⟩
def QI(agg:Int)(rules:List Int)(rows:List (List aW)): uQ:=ail rules (mL agg rows)
def aim{σ : ai}{rules:List Int}{v:aW}{o:uQ}{f f' f'':Bool}(h:o=⟨0,rules,[[v]]⟩): ∃ r0,Out.ret (oneOf [.agg [I 0,.aS f E1 (rules.map sJ),.aS f' E1 [.aS f'' EV [.agg [I v.kind,I v.n,.str v.s]]]]])=Out.ret r0∧View σ r0 (ow o):=by
 subst h;exact zZ (View.nO (.cons (.refl _ rfl) (.cons ov (.cons (View.Mw (.cons (View.weak _ _ _ rfl) (.nil _))) (.nil _)))))
def agf{σ : ai}{rules:List Int}{e:Int}{o:uQ}{f:Bool}(h:o=⟨e,rules,[]⟩): ∃ r0,Out.ret (oneOf [.agg [I e,.aS f E1 (rules.map sJ),.aU]])=Out.ret r0/\View σ r0 (ow o):=by
 subst h;exact zZ (View.nO (.cons (.refl _ rfl) (.cons ov (.cons (.aU _) (.nil _)))))
def LQ{α : Type}[Inhabited α](f : α->AV){l:List α}{b:Nat}(h:b<l.length){n:Nat}(hn:n=1): ((l.map f).drop b).take n=[f (l.getD b default)]:=by
 subst hn;rw[<-List.map_drop,kC h];rfl
def rM{σ : ai}{r0 r1:AV}{o:uQ}{e:Int}(h:I o.err=I e)(h1:View σ r0 (ep o.rules))(h2:View σ r1 (ez o.rows)): ∃ r,Out.ret (oneOf [.agg [I e,r0,r1]])=Out.ret r/\View σ r (ow o):=by
 unfold ow;rw[h];exact zZ (View.nO (.cons (.refl _ rfl) (.cons h1 (.cons h2 (.nil _)))))
def O6{σ : ai}{f:Bool}{a:List aW}: View σ (.aS f E1 [.aS false EV (a.map cR)]) (ez [a]):=View.weak _ _ _ (show AV.cE [br a]=true by simp)
end Go.Proofs.YtoldfccfpameeaaGreatDoor
namespace Go.AM
variable {P:Program} {el:El} {σ : ai} {K Kp:AV->ai->Prop} {k:IntKind} {a:Int} {l m lo n:Nat}
end Go.AM
namespace Go.Proofs.YtoldfccfpameeaaGreatDoor
open Go.AM
set_option maxRecDepth 4000
section
variable {α : Type} (τ k_:List α) (x y z w : α)
def mg0: (τ++[z]++k_)[τ.length]? = some z:=by rw[aV,bq (bf _),Nat.sub_self];rfl
def ms0: (τ++[z]++k_).set τ.length w = τ++[w]++k_:=by rw[aV,dV _ _ (bf _),Nat.sub_self,aV];rfl
def mg2: (τ++[z]++k_++[x]++[y])[τ.length]? = some z:=by
 have:=mg0 τ (k_++[x]++[y]) z;simpa[aV]using this
def ms2: (τ++[z]++k_++[x]++[y]).set τ.length w = τ++[w]++k_++[x]++[y]:=by
 have:=ms0 τ (k_++[x]++[y]) z w;simpa[aV]using this
def ml: (τ++[z]++k_).length = τ.length+1+k_.length:=by simp;omega
def lx0: (τ++[z]++k_++[x])[τ.length+1+k_.length]? = some x:=by rw[<-ml τ k_ z];simp
def lx1: (τ++[z]++k_++[x]).set (τ.length+1+k_.length) w = τ++[z]++k_++[w]:=by rw[<-ml τ k_ z,dV _ _ (bf _),Nat.sub_self];rfl
def ly0: (τ++[z]++k_++[x]++[y])[τ.length+1+k_.length]? = some x:=by rw[<-ml τ k_ z];exact aii _ _ _
def ly1: (τ++[z]++k_++[x]++[y])[τ.length+1+k_.length+1]? = some y:=by rw[<-ml τ k_ z];exact amf _ _ _
def ly2: (τ++[z]++k_++[x]++[y]).set (τ.length+1+k_.length+1) w = τ++[z]++k_++[x]++[w]:=by rw[<-ml τ k_ z];exact amg _ _ _ _
end
def LR (r : Ready) (row : List aW) (i : Int) (q : List Int) (acc : List (List aW)) : lW r row (i :: q) acc = if (jM r.table.ins row (r.lines.getD i.toNat default).outs []).2 ≠ 0 then ([], i, (jM r.table.ins row (r.lines.getD i.toNat default).outs []).2)
    else lW r row q (acc++[(jM r.table.ins row (r.lines.getD i.toNat default).outs []).1]):=rfl
def ajV(o1 o2:aX)(T:List (List aW) × Int × Int)(o:Out)(s:ai): Prop :=
 (T.2.2≠0/\o = .ret (.bR [.aU,I T.2.1,I T.2.2])/\ ∃ τ,s=o1::o2:: τ)\/(T.2.2=0/\o = .ret (.bR [tS 3 T.1,I 0,I 0])/\ ∃ o3 τ,s=o1::o2::o3::kr T.1:: τ)
def ad1 (r : Ready) (hr : Hl r) (row : List aW) (hrow : mM row) (rules : List Int) (V8 : ∀ i ∈ rules, 0 <= i /\ i.toNat < r.lines.length) (h24 : rules.length <= 24) (o1 o2 : aX) :
    cK aI 106 [lB r,ep rules,br row] [o1,o2] (ajV o1 o2 (lW r row rules [])):=by
 have hz:=fun i (hi:i<rules.length)=>V8 _ (bx hi);have fc:=fun j (hj:j<r.lines.length) k (hk:k<(r.lines.getD j default).outs.length)=>(show aQ aI 144 [bt ((r.lines.getD j default).outs.getD k default),b_ r.table.ins,br row] (Bp (j0 ((r.lines.getD j default).outs.getD k default) r.table.ins row))/\(j0 ((r.lines.getD j default).outs.getD k default) r.table.ins row).good from⟨Gr _ r.table.ins row ((hr.line _ (bx hj)).2.2 _ (bx hk)).1 (by have:=((hr.line _ (bx hj)).2.2 _ (bx hk)).2;omega) (by have:=hr.ins;omega) (by have:=hrow.1;omega) hrow.2,pV hrow.2 ((hr.line _ (bx hj)).2.2 _ (bx hk)).1⟩);have D_:=fun j (hj:j<r.lines.length)=>(hr.line _ (bx hj)).2.1;have ami:=hr.outs;clear V8 hr hrow;obtain⟨T,hT⟩:=cq (lW r row rules []);rw[hT];simp only[lB,b_,eL,qb,br,ep];refine Uk.go ?_;unfold dO;intro Q aJ aK aL;repeat' first|refine aC ?_|refine aB ?_ ?_<;>intro hw<;>try omega|fail
 with_reducible refine bG [6,4,11,2,14,3,19,38] (fun q:(Nat × List (List aW)) × List aX=>[(9,.own E1 3 q.1.2.length 0 q.1.2.length),(19,I q.1.1)]) (fun q=>o1::o2:: .cells [.str r.table.name,.aS false EC (r.table.ins.map dU),.aS false EC (r.table.outs.map dU),I r.table.bY,I r.table.agg,.aS false ER (r.table.rules.map fZ),.aS false ER (r.lines.map mF)]:: .vec E1 (q.1.2.map br)::q.2) (fun q=>q.1.1<=rules.length/\q.1.2.length=q.1.1/\lW r row (rules.drop q.1.1) q.1.2=T) (fun q=>rules.length-q.1.1) ((0,[]),[]) ?_ ?_ ?_ ?_
 ·exact⟨aR,rfl,hT⟩
 ·rfl
 ·exact at_
 rintro⟨⟨i,rows⟩,τ⟩ u ⟨g1,g2,g4⟩;dsimp only at g1 g2 g4;clear hT;by_cases hi:i<rules.length
 ·have hz:=hz i hi;rw[kC hi,LR]at g4;obtain⟨z,hz0⟩:=cq (rules.getD i default);rw[hz0]at hz g4;obtain⟨j,rfl⟩:∃ j:Nat,z=j:=⟨z.toNat,ae⟩;have hj:j<r.lines.length:=ae;have fc:=fc j hj;have D_:=D_ j hj;rw[show ((j:Int)).toNat=j from rfl]at g4;obtain⟨ln,F1⟩:=cq (r.lines.getD j default);rw[F1]at fc D_ g4;obtain⟨ps,hps⟩:=cq ln.outs;rw[hps]at fc D_ g4;have qK:ps.length<=2 ^ 30:=ae;obtain⟨P,hP⟩:=cq (jM r.table.ins row ps []);rw[hP]at g4;repeat' first|refine cB (zB hz0 F1 hps) ?_|refine aC ?_|refine aB ?_ ?_<;>intro hw<;>try omega|fail
  with_reducible refine bG [6,3,12,1,14,3,30,22] (fun q:List aW × List aX=>[(12,.own EV (τ.length+4) q.1.length 0 q.1.length),(30,I q.1.length)]) (fun q=>o1::o2:: .cells [.str r.table.name,.aS false EC (r.table.ins.map dU),.aS false EC (r.table.outs.map dU),I r.table.bY,I r.table.agg,.aS false ER (r.table.rules.map fZ),.aS false ER (r.lines.map mF)]:: .vec E1 (rows.map br)::(τ++[.vec EV (q.1.map cR)]++q.2)) (fun q=>q.1.length<=ps.length/\jM r.table.ins row (ps.drop q.1.length) q.1=P) (fun q=>ps.length-q.1.length) ([],[]) ?_ ?_ ?_ ?_
  ·exact⟨aR,by simpa using hP⟩
  ·simp
  ·exact at_
  rintro⟨L,k_⟩ u' ⟨k1,k2⟩;dsimp only at k1 k2;clear hP;by_cases hk:L.length<ps.length
  ·have hx:=fc _ hk;rw[kC hk]at k2;obtain⟨x,hx0⟩:=cq (ps.getD L.length default);rw[hx0]at hx k2;obtain⟨cA,gA⟩:=hx;simp only[jM]at k2;clear fc D_;generalize j0 x r.table.ins row=ra at *;rw[bK]at cA;simp only[b_,br]at cA;cases ra with
   | err e =>
     rw[tT]at cA;have he:=Co gA;dsimp only at k2;simp only[iq]at cA;subst k2;rw[au he]at g4;repeat' first|simp (disch:=omega) only[go_sem,aJ,aK,aL,hx0,mg0,ms0,mg2,ms2,lx0,lx1,ly0,ly1,ly2]|refine aC ?_|refine aB ?_ ?_<;>intro hw<;>try omega|fail
     all_goals first
      | exact bI
      | exact .inl (by rw[<-g4];exact⟨he,rfl,_,rfl⟩)
      | skip
   | ok a =>
     rw[Cn]at cA;dsimp only at k2;simp only[iq]at cA;repeat' first|simp (disch:=omega) only[go_sem,aJ,aK,aL,hx0,mg0,ms0,mg2,ms2,lx0,lx1,ly0,ly1,ly2]|refine aC ?_|refine aB ?_ ?_<;>intro hw<;>try omega|fail
     all_goals first
      | exact bI
      |(refine⟨(L++[a],k_++[.cells [I x.op,I x.v.kind,I x.v.n,.str x.v.s,.str x.s,.aS false EX (x.l.map bt)]]++[.cells [I a.kind,I a.n,.str a.s]]),⟨by dsimp only;simp only[List.length_append,List.length_cons,List.length_nil];omega,by dsimp only;simp only[List.length_append,List.length_cons,List.length_nil];exact k2⟩,by dsimp only;simp only[List.length_append,List.length_cons,List.length_nil];omega,by simp[go_sem],c8,at_⟩)
      | skip
  rw[cy ae]at k2;have k2:P=(L,0):=k2.symm;subst k2;rw[aj aR]at g4;clear fc;repeat' first|simp (disch:=omega) only[go_sem,aJ,aK,aL,mg0,ms0,mg2,ms2]|refine aC ?_|refine aB ?_ ?_<;>intro hw<;>try omega|fail
  all_goals first
   | exact bI
   |(refine⟨((i+1,rows++[L]),τ++[.dead]++k_),⟨by dsimp only;omega,by dsimp only;simp only[List.length_append,List.length_cons,List.length_nil];omega,g4⟩,by dsimp only;omega,by simp[go_sem,br],c8,at_⟩)
   | skip
 rw[cy ae]at g4;have g4:T=(rows,0,0):=g4.symm;subst g4;clear fc D_ hz;repeat' first|refine aC ?_|refine aB ?_ ?_<;>intro hw<;>try omega|fail
 all_goals first
  | exact bI
  | exact .inr ⟨rfl,rfl,_,_,rfl⟩
  | skip
def Tm: ∀ {l:List aW} {n e:Int},Bn l n = .err e->e=15
 | [],_,_,h=>by cases h
 | v :: r, n, e, h => by
   rw[Gv]at h;rcases DM (n+v.n)with ⟨e1,_⟩|e1
   ·rw[e1]at h;exact Tm h
   rw[e1]at h;cases h;rfl
def O7{agg:Int}{rows:List (List aW)}{e:Int}(h:mL agg rows = .err e): e=15:=by
 unfold mL at h;split at h
 ·cases h
 split at h
 ·cases h
 split at h
 ·exact Tm h
 split at h<;>cases h
def U3(agg:Int)(ha:agg≠0)(rules:List Int)(rows:List (List aW))(hr:rows.length<=2 ^ 30)(hw:∀ a ∈ rows,0<a.length/\ ∀ v ∈ a,kQ v.n): aQ aI 145 [I agg,ep rules,ez rows] (ow (QI agg rules rows)):=by
 have c:=ad0 agg rows hr hw;have he:=fun e=>O7 (agg:=agg) (rows:=rows) (e:=e);unfold QI;generalize mL agg rows=R at *;obtain⟨O,hO⟩:=cq (ail rules R);rw[hO];simp only[ep,ez]at c ⊢;cases R with
 | ok v =>
   rw[Cn,iq]at c;refine aY vH ?_;intro Q aJ aK aL;repeat' first|refine aC ?_|refine eS c ?_|refine aB ?_ ?_<;>intro hw<;>try omega|fail
   all_goals first|exact aim hO.symm|exact bI|skip
 | err e =>
   have he:=he e rfl;subst he;rw[tT,iq]at c;refine aY vH ?_;intro Q aJ aK aL;repeat' first|refine aC ?_|refine eS c ?_|refine aB ?_ ?_<;>intro hw<;>try omega|fail
   all_goals first|exact agf hO.symm|exact bI|skip
def ad2{rows:List (List aW)}: List.take (if 1<(rows.length:Int)then (1:Int)else (rows.length:Int)).toNat (rows.map br)=(rows.take 1).map br:=by
 rw[List.map_take];split
 ·rfl
 rename_i h;have:rows.length<=1:=ae;rw[bH aR,bH (by simpa using this)]
def Au{σ : ai}{f:Bool}{l:List (List aW)}: View σ (.aS f E1 (l.map br)) (ez l):=View.weak _ _ _ (Tk _)
def YE(t:Table)(hp:¬ (t.bY=5/\t.agg=0))(rules:List Int)(rows:List (List aW))(ho:t.outs.length<=2 ^ 30)(ho0:0<t.outs.length)(hc:∀ c ∈ t.outs,c.order.length<=2 ^ 60)(hr:rows.length<=2 ^ 30)(hlen:rules.length=rows.length)(hw:∀ a ∈ rows,a.length=t.outs.length/\ ∀ v ∈ a,kQ v.n): aQ aI 107 [dP t,ep rules,ez rows] (ow (nQ t rules rows)):=by
 have cC:=fun ha=>U3 t.agg ha rules rows hr (fun a h=>⟨by have:=(hw a h).1;omega,(hw a h).2⟩);have cU:=YC rows hr (fun a h=>by have:=(hw a h).1;omega);have cF:=abb t.outs rows hc ho hr (fun a h=>(hw a h).1);have hF:=fun(h0:0<rows.length)=>Gu (outs:=t.outs) (rows:=rows) (l:=rows) (i:=0) (b:=0) ae h0;clear hc hw;obtain⟨O,hO⟩:=cq (nQ t rules rows);rw[hO];unfold nQ at hO;by_cases hp5:t.bY=5
 ·have ha:t.agg≠0:=fun h=>hp ⟨hp5,h⟩;have cC:=cC ha;rw[au hp5,aj ha]at hO
  have e:QI t.agg rules rows=O:=by
   rw[<-hO];unfold QI;cases mL t.agg rows<;>rfl
  rw[e]at cC;clear cU cF hF;simp only[dP,fU,b_,eL,ep,ez,ow]at cC ⊢;refine aY kN ?_;intro Q aJ aK aL;repeat' first|refine aC ?_|refine aB ?_ ?_<;>intro hw<;>try omega|fail
  all_goals first|exact rM (o:=O) rfl ov Au|exact bI|skip
 clear cC hp;rw[aj hp5]at hO;by_cases hp4:t.bY=4
 ·rw[au hp4]at hO;generalize Cd rows=B at *;clear cF hF;simp only[dP,fU,b_,eL,ep,ez]at cU ⊢;cases B with
  | true =>
    rw[au rfl]at hO;subst hO;refine aY kN ?_;intro Q aJ aK aL;repeat' first|refine aC ?_|refine aB ?_ ?_<;>intro hw<;>try omega|fail
    all_goals first|exact rM (o:=⟨20,rules,[]⟩) rfl ov (.aU _)|exact bI|skip
  | false =>
    rw[aj da]at hO;subst hO;refine aY kN ?_;intro Q aJ aK aL;repeat' first|simp (disch:=omega) only[go_sem,aJ,aK,aL,ad2]|refine aC ?_|refine aB ?_ ?_<;>intro hw<;>try omega|fail
    all_goals first|exact rM (o:=⟨0,rules,rows.take 1⟩) rfl ov Au|exact bI|skip
 rw[aj hp4]at hO;clear cU;by_cases hp6:t.bY=6
 ·rw[au hp6]at hO;subst hO;clear cF hF;simp only[dP,fU,b_,eL,ep,ez];refine aY kN ?_;intro Q aJ aK aL;repeat' first|refine aC ?_|refine aB ?_ ?_<;>intro hw<;>try omega|fail
  all_goals first|exact rM (o:=⟨0,rules,rows⟩) rfl ov Au|exact bI|skip
 rw[aj hp6]at hO;generalize qi t.outs rows rows 0 0=b at *;by_cases h0:rules=[]
 ·rw[au h0]at hO;subst hO;have hl0:rows.length=0:=by rw[<-hlen,h0];rfl
  have Rw:rules.length=0:=by rw[h0];rfl
  clear hF;by_cases Rr:t.bY=3
  ·simp only[dP,fU,b_,eL,ep,ez]at cF ⊢;refine aY kN ?_;intro Q aJ aK aL;repeat' first|refine aC ?_|refine aB ?_ ?_<;>intro hw<;>try omega|fail
   all_goals first|exact rM (o:=⟨0,[],[]⟩) rfl (.aU _) (.aU _)|exact bI|skip
  clear cF;simp only[dP,fU,b_,eL,ep,ez];refine aY kN ?_;intro Q aJ aK aL;repeat' first|refine aC ?_|refine aB ?_ ?_<;>intro hw<;>try omega|fail
  all_goals first|exact rM (o:=⟨0,[],[]⟩) rfl (.aU _) (.aU _)|exact bI|skip
 rw[aj h0]at hO;have hl0:0<rules.length:=iR.2 h0;have hb:=hF ae;clear hF;by_cases Rr:t.bY=3
 ·rw[au Rr]at hO;subst hO;have s1:=LQ sJ (l:=rules) (b:=b) ae (n:=b+1-b) ae;have s2:=LQ br (l:=rows) (b:=b) ae (n:=b+1-b) ae;simp only[dP,fU,b_,eL,ep,ez]at cF ⊢;refine aY kN ?_;intro Q aJ aK aL;repeat' first|refine cB (zA s1 s2) ?_|refine aC ?_|refine aB ?_ ?_<;>intro hw<;>try omega|fail
  all_goals first|exact rM (o:=⟨0,[rules.getD b default],[rows.getD b default]⟩) rfl uT O6|exact bI|skip
 rw[aj Rr]at hO;subst hO;clear cF;have s1:(rules.map sJ).take (((0:Int)+1).toNat-0)=[sJ (rules.getD 0 default)]:=LQ sJ (l:=rules) (b:=0) ae rfl;have s2:(rows.map br).take (((0:Int)+1).toNat-0)=[br (rows.getD 0 default)]:=LQ br (l:=rows) (b:=0) ae rfl;simp only[dP,fU,b_,eL,ep,ez];refine aY kN ?_;intro Q aJ aK aL;repeat' first|refine cB (zA s1 s2) ?_|refine aC ?_|refine aB ?_ ?_<;>intro hw<;>try omega|fail
 all_goals first|exact rM (o:=⟨0,[rules.getD 0 default],[rows.getD 0 default]⟩) rfl uT O6|exact bI|skip
section
variable {σ : ai} {k:Nat} {o:aX}
def kl(h : σ[k]? = some o): k < σ.length:=(aE.1 h).1
def ks1(h : σ[k]? = some o)(v x:aX): (σ++[x]).set k v = σ.set k v++[x]:=by rw[iM _ _ (kl h)]
def kg1(h : σ[k]? = some o)(x:aX): (σ++[x])[k]? = some o:=by rw[aH (kl h)];exact h
def kt1(v x:aX): (σ.set k v++[x])[σ.length]? = some x:=by
 have:(σ.set k v).length = σ.length:=dM;rw[<-this];simp
def ku1(v x y:aX): (σ.set k v++[x]).set σ.length y = σ.set k v++[y]:=by
 have:(σ.set k v).length = σ.length:=dM;rw[<-this,dV _ _ (bf _),Nat.sub_self];rfl
def ks2(h : σ[k]? = some o)(v x y:aX): (σ++[x]++[y]).set k v = σ.set k v++[x]++[y]:=by rw[aV,iM _ _ (kl h),aV]
def kl2(v x:aX): (σ.set k v++[x]).length = σ.length+1:=aR
def kg3(v x y z:aX): (σ.set k v++[x]++[y]++[z])[σ.length+1]? = some y:=by rw[<-kl2 (k:=k) v x];exact aii _ _ _
def ku3(v x y z w:aX): (σ.set k v++[x]++[y]++[z]).set (σ.length+1) w = σ.set k v++[x]++[w]++[z]:=by
 rw[<-kl2 (k:=k) v x,ap2,dV _ _ (bf _),Nat.sub_self,aV _ [w] [z]];rfl
end
def JQ (rules : List Int) (L : List Row) (hl : L.length < 40) (hw : ∀ a ∈ L, a.length <= 2 ^ 30) (σ : ai) (k : Nat) (iz : σ[k]? = some (kr L)) :
    cK aI 145 [I 0,ep rules,tS k L] σ fun o s=>o = .ret (.agg [I 0,ep rules,tS k L])/\ ∃ c,s = σ.set k (kr (eR L))++[c]:=by
 have h:=Yt 192 L (fun x hx y hy=>Qk x y (hw x hx) (hw y hy)) hl;obtain⟨M,hM⟩:=cq (eR L);rw[hM]at h ⊢;have s1:=ks1 iz;have g1:=kg1 iz;have t1:=fun v x=>kt1 (σ:=σ) (k:=k) v x;have u1:=fun v x y=>ku1 (σ:=σ) (k:=k) v x y;simp only[ep];refine vH.go ?_;unfold dO;intro Q aJ aK aL;repeat' first|refine cB (zC g1 s1 t1 u1) ?_|refine aC ?_|with_reducible refine Wn h (g1 _) ?_|refine aB ?_ ?_<;>intro hw<;>try omega|fail
 all_goals first|exact⟨rfl,_,rfl⟩|exact bI|skip
def LS (t : Table) (hp : t.bY = 5) (ha : t.agg = 0) (rules : List Int) (L : List Row) (hl : L.length < 40) (hw : ∀ a ∈ L, a.length <= 2 ^ 30) (σ : ai) (k : Nat) (iz : σ[k]? = some (kr L)) :
    cK aI 107 [dP t,ep rules,tS k L] σ fun o s=>o = .ret (.agg [I 0,ep rules,tS k L])/\ ∃ τ,s = σ.set k (kr (eR L))++ τ:=by
 have hc:=fun(b c:aX)=>JQ rules L hl hw (σ++[b]++[c]) k (by
  rw[aV,aH (kl iz)];exact iz)
 have hk:=kl iz;obtain⟨M,hM⟩:=cq (eR L);rw[hM]at hc ⊢;simp only[dP,fU,b_,eL,ep]at hc ⊢;refine kN.go ?_;unfold dO;intro Q aJ aK aL;repeat' first|refine cB (zA hp ha) ?_|refine aC ?_|with_reducible refine bS ((hc _ _)) ?_|refine aB ?_ ?_<;>intro hw<;>try omega|fail
 rintro o s' ⟨rfl,c,rfl⟩;have s2:=ks2 iz;have g3:=fun v x y z=>kg3 (σ:=σ) (k:=k) v x y z;have u3:=fun v x y z w=>ku3 (σ:=σ) (k:=k) v x y z w;rw[s2];clear hc;repeat' first|refine cB (zA g3 u3) ?_|refine aC ?_|refine aB ?_ ?_<;>intro hw<;>try omega|fail
 all_goals first|exact⟨rfl,_,by rw[aV,aV]⟩|exact bI|skip
end Go.Proofs.YtoldfccfpameeaaGreatDoor
namespace Go.AM
variable {P:Program}
def View.live{σ σ':ai}(hs:∀ (l:Nat) o,σ[l]? = some o->o.live=true->σ'[l]? = some o){a b:AV}(h:View σ a b): View σ' a b:=by
 induction h with
 | refl a h=>exact .refl a h
 | aU el=>exact .aU el
 | weak f el xs h=>exact .weak f el xs h
 | aS f el xs ys hl _ ih=>exact .aS f el xs ys hl ih
 | own T el l lo n xs ys hl hy hn _ ih=>exact .own T el l lo n xs ys (hs _ _ hl rfl) hy hn ih
 | agg cs ds hl _ ih=>exact .agg cs ds hl ih
 | bR cs ds hl _ ih=>exact .bR cs ds hl ih
 | cell l v hl h hp=>exact .cell l v (hs _ _ hl rfl) h hp
 | cells l n cs hl hn hp=>exact .cells l n cs (hs _ _ hl rfl) hn hp
 | yS l n cs ds hl hn hd h ih=>exact .yS l n cs ds (hs _ _ hl rfl) hn hd ih
 | nT a l o hl ho h=>exact .nT a l o (hs _ _ hl ho) ho h
 | fn f az bs cs ds hl _ hl' _ ih qH=>exact .fn f az bs cs ds hl ih hl' qH
def YF(q:Nat)(o:aX): ai:=List.replicate q .dead++[o]
def abh{q:Nat}{o:aX}(l:Nat)(o':aX)(h:(YF q o)[l]? = some o')(hl:o'.live=true): l=q/\o'=o:=by
 unfold YF at h;by_cases h1:l<q
 ·rw[aH (by simpa using h1)]at h;simp[List.getElem?_replicate,h1]at h;subst h;cases hl
 rw[bq (by simpa using ja h1)]at h;simp only[gi]at h
 have:l-q=0:=by
  apply Nat.eq_zero_of_not_pos;intro hp;rw[List.getElem?_eq_none (by simp;omega)]at h;cases h
 rw[this]at h;simp at h;exact⟨ae,h.symm⟩
def aQ.freeze {f : FuncId} {az bz : List AV} {r : AV} {σ : ai} {q : Nat} {o : aX} (h : aQ P f bz r) (hq : σ[q]? = some o) (ho : o.live = true) (hv : cN (YF q o) az bz) (hr : r.dy = true) :
    cK P f az σ fun out s=>out = .ret r/\s = σ.set q .dead:=by
 refine⟨(h []).1,fun g w vs hR hlen hvs=>?_⟩;have hqn:q<g.n:=by rw[<-hR.len];exact(aE.1 hq).1
 have Tn:Live σ q:=⟨o,hq,ho⟩
 let I:Nat->Prop:=fun b=>g.fE b\/g.base q=some b
 have hlt:∀ b,I b->b<w.heap.size:=fun b hb=>by
  rcases hb with hb|hb
  ·exact hR.lt b hb
  exact hR.kS Tn hb
 let O8:ai:=σ.zipIdx.map fun x=>if x.2=q then x.1 else .dead
 have Tp:∀ (l:Nat) o',O8[l]? = some o'->o'.live=true->l=q/\σ[l]? = some o':=fun l o' hl hlv=>by
  simp only[O8,gZ,List.getElem?_zipIdx,Option.map_map]at hl;obtain⟨x,hx,nM⟩:=bg.1 hl;simp at nM;split at nM
  ·rename_i e;subst nM;exact⟨e,hx⟩
  subst nM;cases hlv
 have ain:O8.length = σ.length:=by simp[O8]
 have ajW:O8[q]? = some o:=by
  simp only[O8,gZ,List.getElem?_zipIdx,Option.map_map];rw[hq];simp
 have hRq:Rel g w O8:=by
  refine⟨by rw[ain];exact hR.len,hR.lt,fun l o' ho'=>?_,fun l l' b hl hl'=>?_,fun l b hl=>?_,hR.glob⟩
  ·by_cases hlv:o'.live=true
   ·exact hR.ok l o' (Tp l o' ho' hlv).2
   ·cases o'<;>simp[aX.live]at hlv;trivial
  ·obtain⟨o1,h1,h2⟩:=hl;obtain⟨o2,h3,h4⟩:=hl';exact hR.inj l l' b ⟨o1,(Tp l o1 h1 h2).2,h2⟩ ⟨o2,(Tp l' o2 h3 h4).2,h4⟩
  obtain⟨o1,h1,h2⟩:=hl;exact hR.p7 l b ⟨o1,(Tp l o1 h1 h2).2,h2⟩
 have C4:∀ {x y:AV},View (YF q o) x y->View O8 x y:=fun hxy=>hxy.live (fun l o' hl hlv=>by
  obtain⟨rfl,rfl⟩:=abh l o' hl hlv;exact ajW)
 refine((h []).2 (aN.bare I) w vs (Rel.bare hlt ⟨fun b hb=> .inl (hR.glob.1 b hb),hR.glob.2⟩) (hv.1 ▸ hlen) (fun i hi=>?_)).mono ?_
 ·refine(C4 (hv.2 i (hv.1 ▸ hi))).vr (g':=aN.bare I) hRq (fun b hb=> .inl hb) (fun b hb=>?_) (hvs i (hv.1 ▸ hi));obtain⟨l,⟨o1,h1,h2⟩,hb⟩:=hb;obtain⟨rfl,_⟩:=Tp l o1 h1 h2;exact .inr hb
 rintro e w' ⟨out,g',σ',jf,hE,hO,rfl,rfl⟩;have hfr:∀ b,b<w.heap.size->w'.heap[b]? = w.heap[b]?:=fun b hb=>hE.frame b hb jn
 let g2:aN:= { g with fE:=fun b=>I b\/(w.heap.size<=b/\b<w'.heap.size) }
 have hm:kD g w g2 w':=⟨fun b hb=>⟨.inl (.inl hb),hfr b (hR.lt b hb)⟩,bf _,fun _ _=>⟨bf _,fun _=>⟨rfl,rfl,rfl⟩⟩⟩
 have sE:∀ (l:Nat) o',(σ.set q .dead)[l]? = some o'->o'.live=true->l≠q/\σ[l]? = some o':=fun l o' hl hlv=>by
  by_cases e:l=q
  ·subst e;rw[bw (aE.1 hq).1]at hl;cases hl;cases hlv
  rw[aF (Ne.symm e)]at hl;exact⟨e,hl⟩
 have D4:Rel g2 w' (σ.set q .dead):=by
  refine⟨by simp[g2,hR.len],fun b hb=>?_,fun l o' ho'=>?_,fun l l' b hl hl'=>?_,fun l b hl hb hi=>?_,hR.glob.mono hm.fE⟩
  ·rcases hb with hb|hb
   ·exact c7 (hlt b hb) hE.size
   exact hb.2
  ·by_cases hlv:o'.live=true
   ·obtain⟨_,h2⟩:=sE l o' ho' hlv;have hl:l<g.n:=by rw[<-hR.len];exact(aE.1 h2).1
    exact(hR.ok l o' h2).step hm hl rfl (fun b hb=>hfr b (hR.kS ⟨o',h2,hlv⟩ hb))
   ·cases o'<;>simp[aX.live]at hlv;trivial
  ·obtain⟨o1,h1,h2⟩:=hl;obtain⟨o2,h3,h4⟩:=hl';exact hR.inj l l' b ⟨o1,(sE l o1 h1 h2).2,h2⟩ ⟨o2,(sE l' o2 h3 h4).2,h4⟩
  obtain⟨o1,h1,h2⟩:=hl;obtain⟨hne,h3⟩:=sE l o1 h1 h2;rcases hi with(hi|hi)|hi
  ·exact hR.p7 l b ⟨o1,h3,h2⟩ hb hi
  ·exact hne (hR.inj l q b ⟨o1,h3,h2⟩ Tn hb hi)
  have:=hR.kS ⟨o1,h3,h2⟩ hb;omega
 refine⟨.ret r,g2,_,D4,⟨hm,hE.size,hE.os,hE.tape,hE.output,fun b hb _=>hfr b hb,fun b hb hi=>?_,fun b hb ht=>?_⟩,?_,rfl,rfl⟩
 ·rcases hi with(hi|hi)|hi
  ·exact .inl hi
  ·exact .inr ⟨q,Tn,hi⟩
  omega
 ·obtain⟨l,⟨o1,h1,h2⟩,iE⟩:=ht;exact⟨l,⟨o1,(sE l o1 h1 h2).2,h2⟩,iE⟩
 ·cases e with
  | returned v =>
    refine VR.dy (g:=g') (g':=g2) (fun b hb=>⟨?_,rfl⟩) hO hr;by_cases Ea:b<w.heap.size
    ·rcases hE.qS b Ea hb with h3|h3
     ·exact .inl h3
     exact absurd h3 jn
    exact .inr ⟨ae,jf.lt b hb⟩
  | panicked c=>exact hO.elim
  | outgrown=>exact hO.elim
