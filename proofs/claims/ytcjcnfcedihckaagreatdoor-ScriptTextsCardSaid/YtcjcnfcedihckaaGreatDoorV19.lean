/- Part. -/
import Derived.Test.YtcjcnfcedihckaaGreatDoorV18
set_option linter.all false
namespace Go.Proofs.YtcjcnfcedihckaaGreatDoor
open Go.AM
set_option maxRecDepth 4000
structure yh where
 op:Int
 sign:aG
 level:Int
deriving Inhabited,DecidableEq
def MG(b:yh): AV:= .agg [I b.op,.str b.sign,I b.level]
attribute [go_sem] MG
def gj: List yh:=[⟨4,[43],4⟩,⟨5,[45],4⟩,⟨6,[42],5⟩,⟨7,[47],5⟩,⟨8,[61],3⟩,⟨9,[33,61],3⟩,⟨10,[60],3⟩,⟨11,[60,61],3⟩,⟨12,[62],3⟩,⟨13,[62,61],3⟩,⟨14,[97,110,100],2⟩,⟨15,[111,114],1⟩]
def cJ(op:Int): yh:=(gj.find? fun b=>b.op==op).getD ⟨0,[],0⟩
def jr(op:Int): Int:=if op=1\/op=2 then 0 else if op=3 then 1 else if op=16 then 3 else if 0<(cJ op).level then 2 else -1
def cP(op:Int): Int:=if op=16 then 0 else if op=3 then 6 else if op=1\/op=2 then 7 else(cJ op).level
def uI(op:Int)(h:op<4\/15<op): cJ op=⟨0,[],0⟩:=by
 have:gj.find? (fun b=>b.op==op)=none:=by
  rw[dy];intro b hb;simp only[gj,List.mem_cons,List.not_mem_nil,or_false]at hb;rcases hb with rfl|rfl|rfl|rfl|rfl|rfl|rfl|rfl|rfl|rfl|rfl|rfl<;>(simp only[beq_iff_eq];omega)
 simp[cJ,this]
def Gx(op:Int)(h1:4<=op)(h2:op<=15): (cJ op).sign≠[]/\0<(cJ op).level:=by
 have:op=4\/op=5\/op=6\/op=7\/op=8\/op=9\/op=10\/op=11\/op=12\/op=13\/op=14\/op=15:=by omega
 rcases this with rfl|rfl|rfl|rfl|rfl|rfl|rfl|rfl|rfl|rfl|rfl|rfl<;>decide
def Ru(op:Int): (cJ op).sign=[]↔¬ 0<(cJ op).level:=by
 by_cases h:4<=op/\op<=15
 ·have:=Gx op h.1 h.2;simp[this.1];omega
 ·rw[uI op (by omega)];simp
def wO: aH aE 241 [] (.aF false ⟨true,3⟩ (gj.map MG)):=by
 refine aJ Bx ?_;intro Q au aA aB;repeat' first|refine aq ?_|refine ak ?_ ?_<;>intro hw<;>try omega|fail
 all_goals exact eT (View.weak _ _ _ (by simp))
def xu(op:Int): aH aE 199 [I op] (MG (cJ op)):=by
 refine aJ IG ?_;intro Q au aA aB;have hl:gj.length=12:=rfl;repeat' first|refine aq ?_|refine d_ wO ?_|refine ak ?_ ?_<;>intro hw<;>try omega|fail
 with_reducible refine bn [4,7,8,9,10,11,12,13,14,15,16] (fun p:Nat × List bx=>[(7,I p.1)]) (fun p=> .cells [I 0,.str [],I 0]::p.2) (fun p=>p.1<=12/\ ∀ k,k<p.1->((gj.getD k default).op==op)=false) (fun p=>12-p.1) (0,[]) ?_ ?_ ?_ ?_
 ·simp
 ·rfl
 ·exact at_
 rintro⟨i,τ⟩ r ⟨h1,h2⟩;dsimp only at h1 h2;by_cases hi:i<12
 ·repeat' first|refine aq ?_|refine ak ?_ ?_<;>intro hw<;>try omega|fail
  ·refine aL ?_ rfl
   have:cJ op=gj.getD i default:=by
    unfold cJ;rw[qL (p:=fun b:yh=>b.op==op) hi h2 (by simpa using hw)];rfl
   rw[this];try rfl
  ·refine⟨(i+1,τ++[.cells [I (gj.getD i default).op,.str (gj.getD i default).sign,I (gj.getD i default).level]]),?_,?_,by first|rfl|(simp[go_sem];done),bL,at_⟩<;>(try dsimp only)
   ·exact⟨by omega,aY h2 (by simpa using hw)⟩
   ·omega
 ·repeat' first|refine aq ?_|refine ak ?_ ?_<;>intro hw<;>try omega|fail
  refine aL ?_ rfl
  have:cJ op=⟨0,[],0⟩:=by
   unfold cJ;rw[qy (p:=fun b:yh=>b.op==op) (fun k hk=>h2 k (by omega))];rfl
  rw[this];try rfl
def zk(op:Int): aH aE 220 [I op] (.str (cJ op).sign):=by
 refine aJ K8 ?_;intro Q au aA aB;repeat' first|refine aq ?_|refine ak ?_ ?_<;>intro hw<;>try omega|fail
 all_goals refine aL ?_ rfl
 all_goals (try subst op)
 all_goals first|rfl|(rw[uI op (by omega)])
def Dw(op:Int): aH aE 219 [I op] (I (cP op)):=by
 refine aJ IJ ?_;intro Q au aA aB;repeat' first|refine aq ?_|refine ak ?_ ?_<;>intro hw<;>try omega|fail
 all_goals refine aL ?_ rfl
 all_goals (try subst op)
 all_goals (refine congrArg I ?_)
 all_goals first|rfl|decide|skip
 by_cases Tz:op=16
 ·subst Tz;rfl
 ·unfold cP;rw[if_neg Tz,if_neg (by assumption),if_neg (by omega),uI op (by omega)]
def MH(op:Int): aH aE 195 [I op] (I (jr op)):=by
 refine aJ Gl ?_;intro Q au aA aB;repeat' first|refine aq ?_|refine d_ (xu _) ?_|refine ak ?_ ?_<;>intro hw<;>try omega|fail
 all_goals refine aL ?_ rfl
 all_goals (refine congrArg I ?_;unfold jr)
 all_goals first|(simp_all;done)
def OH(op:Int): aH aE 218 [I op] (I (jr op)):=by
 refine aJ II ?_;intro Q au aA aB;repeat' first|refine aq ?_|refine d_ (zk _) ?_|refine ak ?_ ?_<;>intro hw<;>try omega|fail
 all_goals refine aL ?_ rfl
 all_goals (refine congrArg I ?_;unfold jr)
 all_goals (try rw[Ru]at hw)
 all_goals first|(simp_all;done)|(rw[if_neg (by omega),if_neg (by omega),if_neg (by omega),if_pos (by omega)])|(rw[if_neg (by omega),if_neg (by omega),if_neg (by omega),if_neg (by omega)])
mutual
def iP: Expr->Nat
 | .mk _ _ _ l=>jL l+1
def jL: List Expr->Nat
 | []=>0
 | x::r=>Nat.max (iP x) (jL r)
end
mutual
def ew: Expr->Nat
 | .mk _ _ _ l=>lq l+1
def lq: List Expr->Nat
 | []=>0
 | x::r=>ew x+lq r
end
def sR(l:List Expr): l.length<=lq l:=by
 induction l with
 | nil=>simp[lq]
 | cons x r ih=>cases x;simp only[lq,ew,List.length_cons];omega
def qM{l:List Expr}{x:Expr}(h:x ∈ l): ew x<=lq l:=by
 induction l with
 | nil=>cases h
 | cons y r ih =>
   simp only[lq];rcases List.mem_cons.1 h with rfl|h
   ·omega
   ·have:=ih h;omega
def X0: ∀ x,iP x<=ew x:=by
 intro x
 induction x using Expr.ind with
 | h op v s l ih =>
   simp only[iP,ew]
   have:jL l<=lq l:=by
    clear op v s
    induction l with
    | nil=>simp[jL]
    | cons y r SL =>
      simp only[jL,lq];have h1:=ih y (by simp);have h2:=SL (fun z hz=>ih z (cE _ hz));exact Nat.max_le.2 ⟨by omega,by omega⟩
   omega
def Rv(l:List Expr)(x:Expr): jL (l++[x])=Nat.max (jL l) (iP x):=by
 induction l with
 | nil=>simp only[dB,jL];exact Nat.max_comm _ _
 | cons y r ih=>simp only[cF,jL,ih];exact(Nat.max_assoc _ _ _).symm
def take_succ{α : Type}[Inhabited α]{l:List α}{k:Nat}(h:k<l.length): l.take (k+1)=l.take k++[l.getD k default]:=by
 rw[List.take_succ_eq_append_getElem h,aj,aK h];rfl
def zl{l:List Expr}{k:Nat}(h:k<l.length): jL (l.take (k+1))=Nat.max (jL (l.take k)) (iP (l.getD k default)):=by
 rw[take_succ h,Rv]
def zm(l:List Expr)(k:Nat): jL (l.take k)<=lq l:=by
 have:∀ l:List Expr,jL l<=lq l:=fun l=>by
  have:=X0 (.mk 0 default [] l);simp only[iP,ew]at this;omega
 refine bY (this _) ?_
 induction l generalizing k with
 | nil=>simp[lq]
 | cons x r ih => cases k with
   | zero=>simp[lq]
   | succ k=>simp only[List.take_succ_cons,lq];have:=ih k;omega
def xw(x:Expr)(hx:ew x<=2 ^ 60): aH aE 157 [aI x] (I (iP x)):=by
 induction x using Expr.ind with
 | h op v s l ih =>
   simp only[ew]at hx;have hlen:=sR l
   have ZW:∀ k,k<l.length->aH aE 157 [aI (l.getD k default)] (I (iP (l.getD k default))):=fun k hk =>
    ih _ (aV hk) (by have:=qM (aV hk);omega)
   refine aJ Iz ?_;intro Q au aA aB;repeat' first|refine aq ?_|refine ak ?_ ?_<;>intro hw<;>try omega|fail
   with_reducible refine bn [3,5,9,10,11,12,13,14,15,16,17] (fun p:Nat × List bx=>[(9,I p.1),(3,I (jL (l.take p.1)))]) (fun p=> .cells [I op,I v.kind,I v.n,.str v.s,.str s,.aF false EX (l.map aI)]::p.2) (fun p=>p.1<=l.length) (fun p=>l.length-p.1) (0,[]) ?_ ?_ ?_ ?_
   ·simp
   ·rfl
   ·exact at_
   rintro⟨i,τ⟩ r h1;dsimp only at h1;by_cases hi:i<l.length
   ·have hy:=ZW i hi
    have hmax:(if((jL (l.take i):Nat):Int)<((iP (l.getD i default):Nat):Int)then ((iP (l.getD i default):Nat):Int)else ((jL (l.take i):Nat):Int))=((jL (l.take (i+1)):Nat):Int):=by
     rw[zl hi];show _=((max (jL (l.take i)) (iP (l.getD i default)):Nat):Int);by_cases hm:jL (l.take i)<=iP (l.getD i default)
     ·rw[Nat.max_eq_right hm];split<;>omega
     ·rw[Nat.max_eq_left (by omega)];split<;>omega
    rw[aO]at hy;repeat' first|simp (disch:=omega) only[go_sem,au,aA,aB,hmax]|refine aq ?_|refine ak ?_ ?_<;>intro hw<;>try omega|fail
    refine⟨(i+1,τ++[.cells [I (l.getD i default).op,I (l.getD i default).v.kind,I (l.getD i default).v.n,.str (l.getD i default).v.s,.str (l.getD i default).s,.aF false EX ((l.getD i default).l.map aI)]]),?_,?_,by first|rfl|(simp[go_sem];done),bL,at_⟩<;>(try dsimp only)
    ·omega
    ·omega
   ·have h3:=zm l l.length;rw[List.take_length]at h3;have h2:l.take i=l:=aT (by omega);have h4:=zm l i;rw[h2]at h4;repeat' first|simp (disch:=omega) only[go_sem,au,aA,aB,h2]|refine aq ?_|refine ak ?_ ?_<;>intro hw<;>try omega|fail
    refine aL ?_ rfl;refine congrArg I ?_;simp only[iP];omega
def zn(x:Expr)(hx:ew x<=2 ^ 60): aH aE 175 [aI x] (I (iP x)):=by
 induction x using Expr.ind with
 | h op v s l ih =>
   simp only[ew]at hx;have hlen:=sR l
   have ZW:∀ k,k<l.length->aH aE 175 [aI (l.getD k default)] (I (iP (l.getD k default))):=fun k hk =>
    ih _ (aV hk) (by have:=qM (aV hk);omega)
   refine aJ KZ ?_;intro Q au aA aB;repeat' first|refine aq ?_|refine ak ?_ ?_<;>intro hw<;>try omega|fail
   with_reducible refine bn [3,4,5,6,7,8,9,10,11,12,13,14,15,16,17,18,19,20,21,22] (fun p:Nat × List bx=>[(4,I p.1),(3,I (jL (l.take p.1)))]) (fun p=> .cells [I op,I v.kind,I v.n,.str v.s,.str s,.aF false EX (l.map aI)]::p.2) (fun p=>p.1<=l.length) (fun p=>l.length-p.1) (0,[]) ?_ ?_ ?_ ?_
   ·simp
   ·rfl
   ·exact at_
   rintro⟨i,τ⟩ r h1;dsimp only at h1;have h4:=zm l i;by_cases hi:i<l.length
   ·have hy:=ZW i hi;rw[aO]at hy;repeat' first|refine aq ?_|refine ak ?_ ?_<;>intro hw<;>try omega|fail
    ·have e:jL (l.take (i+1))=iP (l.getD i default):=by rw[zl hi];exact Nat.max_eq_right (by omega)
     refine⟨(i+1,τ),?_,?_,by first|rfl|(simp[go_sem];done),bL,at_⟩<;>(try dsimp only)
     ·omega
     ·omega
    ·have e:jL (l.take (i+1))=jL (l.take i):=by rw[zl hi];exact Nat.max_eq_left (by omega)
     refine⟨(i+1,τ),?_,?_,by first|rfl|(simp[go_sem];done),bL,at_⟩<;>(try dsimp only)
     ·omega
     ·omega
   ·have h3:=zm l l.length;rw[List.take_length]at h3;have h2:l.take i=l:=aT (by omega);rw[h2]at h4;repeat' first|simp (disch:=omega) only[go_sem,au,aA,aB,h2]|refine aq ?_|refine ak ?_ ?_<;>intro hw<;>try omega|fail
    refine aL ?_ rfl;refine congrArg I ?_;simp only[iP];omega
def fL{α β : Type}(p : α-> β->Bool): List α->List β->Bool
 | [],[]=>true
 | x::r,y::t=>p x y && fL p r t
 | _,_=>false
def lQ{α β : Type}{p : α-> β->Bool}: ∀ {l:List α} {m:List β},l.length≠m.length->fL p l m=false
 | [],[],h=>absurd rfl h
 | [],_::_,_=>rfl
 | _::_,[],_=>rfl
 | x::r,y::t,h=>by simp only[fL];rw[lQ (by simpa using h),dJ]
def nH{α β : Type}[Inhabited α][Inhabited β]{p : α-> β->Bool}: ∀ {l:List α} {m:List β} {i:Nat},i<l.length->p (l.getD i default) (m.getD i default)=false->i<m.length->fL p l m=false
 | x::r,y::t,0,_,h,_=>by simp only[bR]at h;simp only[fL,h,dA]
 | x :: r, y :: t, i + 1, h1, h, h2 => by
   simp only[fm]at h;simp only[fL];rw[nH (i:=i) (by simpa using h1) h (by simpa using h2),dJ]
def lR{α β : Type}[Inhabited α][Inhabited β]{p : α-> β->Bool}: ∀ {l:List α} {m:List β},l.length=m.length->(∀ k,k<l.length->p (l.getD k default) (m.getD k default)=true)->fL p l m=true
 | [],[],_,_=>rfl
 | x :: r, y :: t, h, hp => by
   have h0:=hp 0 (by simp);simp only[bR]at h0;simp only[fL,h0,c_];exact lR (by simpa using h) (fun k hk=>by have:=hp (k+1) (by simpa using hk);simpa only[fm]using this)
@[go_sem] def aeV {α : Type} (τ : List α) (c d : α):(τ++[c]++[d])[τ.length+1]? = some d:=by simp
@[go_sem] def aeW {α : Type} (τ : List α) (c d : α):(τ++[c]++[d])[τ.length]? = some c:=by simp
@[go_sem] def aeY {α : Type} (τ : List α) (c d e : α):(τ++[c]++[d]).set (τ.length+1) e = τ++[c]++[e]:=by simp
def yj (fn : FuncId) (cap : List AV) (hcap : AV.bX cap = true) (p : Expr -> Expr -> Bool) (l m : List Expr)
    (h:∀ k,k<l.length->k<m.length->aH aE fn (aI (l.getD k default)::aI (m.getD k default)::cap) (.bool (p (l.getD k default) (m.getD k default)))) (hl:l.length<=2 ^ 62) (hm:m.length<=2 ^ 62) :
    aH aE 271 [cg l,cg m,.fn (.func fn) [] cap] (.bool (fL p l m)):=by
 refine aJ vJ ?_ (by simp[AV.dh,AV.bX,hcap,o8]);intro Q au aA aB;repeat' first|refine aq ?_|refine ak ?_ ?_<;>intro hw<;>try omega|fail
 ·refine aL ?_ rfl;rw[lQ (by omega)]
 have kG:l.length=m.length:=by omega
 with_reducible refine bn [6,7,8,9,17,18,19,20,21,22,23,24,25,26,27,28,29,30,31] (fun p:Nat × List bx=>[(17,I p.1)]) (fun p=>p.2) (fun q=>q.1<=l.length/\ ∀ k,k<q.1->p (l.getD k default) (m.getD k default)=true) (fun p=>l.length-p.1) (0,[]) ?_ ?_ ?_ ?_
 ·simp
 ·rfl
 ·exact at_
 rintro⟨i,τ⟩ r ⟨h1,h2⟩;dsimp only at h1 h2;by_cases hi:i<l.length
 ·have hy:=h i hi (by omega);rw[aO,aO]at hy;repeat' first|refine aq ?_|refine ak ?_ ?_<;>intro hw<;>try omega|fail
  ·refine aL ?_ rfl;rw[nH hi hw (by omega)]
  ·refine⟨(i+1,τ++[.cells [I (l.getD i default).op,I (l.getD i default).v.kind,I (l.getD i default).v.n,.str (l.getD i default).v.s,.str (l.getD i default).s,.aF false EX ((l.getD i default).l.map aI)]]++[.cells [I (m.getD i default).op,I (m.getD i default).v.kind,I (m.getD i default).v.n,.str (m.getD i default).v.s,.str (m.getD i default).s,.aF false EX ((m.getD i default).l.map aI)]]),?_,?_,by first|rfl|(simp[go_sem];done),bL,at_⟩<;>(try dsimp only)
   ·exact⟨by omega,aY h2 hw⟩
   ·omega
 ·repeat' first|refine aq ?_|refine ak ?_ ?_<;>intro hw<;>try omega|fail
  refine aL ?_ rfl;rw[lR kG (fun k hk=>h2 k (by omega))]
mutual
def n6: Expr->Expr->Bool
 | .mk o v s l,y=>decide (o=y.op) && decide (v=y.v) && decide (s=y.s) && LC l y.l
def LC: List Expr->List Expr->Bool
 | [],[]=>true
 | x::r,y::t=>n6 x y && LC r t
 | _,_=>false
end
def EO: ∀(l m:List Expr),LC l m=fL n6 l m
 | [],[]=>rfl
 | [],_::_=>rfl
 | _::_,[]=>rfl
 | x::r,y::t=>by simp only[LC,fL,EO r t]
mutual
def Dx: Expr->Prop
 | .mk _ _ _ l=>l.length<=2 ^ 60/\TA l
def TA: List Expr->Prop
 | []=>True
 | x::r=>Dx x/\TA r
end
def CZ{l:List Expr}{x:Expr}(h:TA l)(hx:x ∈ l): Dx x:=by
 induction l with
 | nil=>cases hx
 | cons y r ih =>
   simp only[TA]at h;rcases List.mem_cons.1 hx with rfl|hx
   ·exact h.1
   ·exact ih h.2 hx
def ZX{l:List Expr}(h:∀ x ∈ l,Dx x): TA l:=by
 induction l with
 | nil=>trivial
 | cons y r ih=>exact⟨h y (by simp),ih (fun x hx=>h x (cE _ hx))⟩
def Gy(x:Expr): ew x<=2 ^ 60->Dx x:=by
 induction x using Expr.ind with
 | h op v s l ih =>
   intro h;simp only[ew]at h;have hl:=sR l;exact⟨by omega,ZX (fun y hy=>ih y hy (by have:=qM hy;omega))⟩
def OI(x:Expr): ∀ y:Expr,Dx x->Dx y->aH aE 238 [aI x,aI y] (.bool (n6 x y)):=by
 induction x using Expr.ind with
 | h op v s l ih =>
   rintro⟨op',v',s',m⟩ hx hy;simp only[Dx]at hx hy;obtain⟨hl,Am⟩:=hx;obtain⟨hm,SM⟩:=hy;have hc:=yj 238 [] rfl n6 l m (fun k h1 h2=>ih _ (aV h1) _ (CZ Am (aV h1)) (CZ SM (aV h2))) (by omega) (by omega);rw[<-EO]at hc;simp only[cg]at hc;obtain⟨vk,vn,vs⟩:=v;obtain⟨TC,TD,vs'⟩:=v';refine aJ IN ?_;intro Q au aA aB;repeat' first|refine aq ?_|refine ak ?_ ?_<;>intro hw<;>try omega|fail
   all_goals refine aL ?_ rfl
   all_goals (refine congrArg AV.bool ?_;simp only[n6,Expr.op,Expr.v,Expr.s,Expr.l])
   all_goals (rw[aS];simp_all)
def Rw(x:Expr): ∀ y:Expr,Dx x->Dx y->aH aE 255 [aI x,aI y] (.bool (n6 x y)):=by
 induction x using Expr.ind with
 | h op v s l ih =>
   rintro⟨op',v',s',m⟩ hx hy;simp only[Dx]at hx hy;obtain⟨hl,Am⟩:=hx;obtain⟨hm,SM⟩:=hy;have hc:∀ k,k<l.length->k<m.length->_:=fun k h1 h2=>ih _ (aV h1) (m.getD k default) (CZ Am (aV h1)) (CZ SM (aV h2));obtain⟨vk,vn,vs⟩:=v;obtain⟨TC,TD,vs'⟩:=v'
   have hs:n6 (.mk op ⟨vk,vn,vs⟩ s l) (.mk op' ⟨TC,TD,vs'⟩ s' m)=(decide (op=op') && decide ((⟨vk,vn,vs⟩:eu)=⟨TC,TD,vs'⟩) && decide (s=s') && fL n6 l m):=by
    rw[<-EO];rfl
   rw[hs];refine aJ La ?_;intro Q au aA aB;repeat' first|refine aq ?_|refine ak ?_ ?_<;>intro hw<;>try omega|fail
   ·refine aL ?_ rfl;rw[lQ (by omega),dJ]
   ·have kG:l.length=m.length:=by omega
    with_reducible refine bn [4,5,34,35,36,37,38,39,40,41,42,43,44,45,46,47,48,49,50,51,52] (fun i:Nat=>[(5,I i)]) (fun _=>[.cells [I op,I vk,I vn,.str vs,.str s,.aF false EX (l.map aI)],.cells [I op',I TC,I TD,.str vs',.str s',.aF false EX (m.map aI)]]) (fun i=>i<=l.length/\ ∀ k,k<i->n6 (l.getD k default) (m.getD k default)=true) (fun i=>l.length-i) 0 ?_ ?_ ?_ ?_
    ·simp
    ·rfl
    ·exact at_
    rintro i r ⟨h1,h2⟩;by_cases hi:i<l.length
    ·have hy:=hc i hi (by omega);rw[aO,aO]at hy;repeat' first|refine aq ?_|refine ak ?_ ?_<;>intro hw<;>try omega|fail
     ·refine aL ?_ rfl;rw[nH hi hw (by omega),dJ]
     ·refine⟨i+1,?_,?_,by first|rfl|(simp[go_sem];done),bL,at_⟩<;>(try dsimp only)
      ·exact⟨by omega,aY h2 hw⟩
      ·omega
    ·repeat' first|refine aq ?_|refine ak ?_ ?_<;>intro hw<;>try omega|fail
     refine aL ?_ rfl;rw[lR kG (fun k hk=>h2 k (by omega))];simp_all
   ·refine aL ?_ rfl;rw[decide_eq_false (by assumption:¬ s=s'),dJ,dA]
   ·refine aL ?_ rfl;refine congrArg AV.bool ?_;have:decide ((⟨vk,vn,vs⟩:eu)=⟨TC,TD,vs'⟩)=false:=by simp_all
    rw[this,dJ,dA,dA]
   ·refine aL ?_ rfl;rw[decide_eq_false (by assumption:¬ op=op'),dA,dA,dA]
def yl (fn : FuncId) (cap : List AV) (hcap : AV.bX cap = true) (p : Expr -> Bool) (l : List Expr) (h : ∀ k, k < l.length -> aH aE fn (aI (l.getD k default) :: cap) (.bool (p (l.getD k default)))) (hl : l.length <= 2 ^ 62) :
    aH aE 240 [cg l,.fn (.func fn) [] cap] (I (gN p l)):=by
 refine aJ vH ?_ (by simp[AV.dh,AV.bX,hcap,o8]);intro Q au aA aB;repeat' first|refine aq ?_|refine ak ?_ ?_<;>intro hw<;>try omega|fail
 with_reducible refine bn [4,5,8,9,10,11,12,13,14,15,16,17,18] (fun i:Nat=>[(8,I i)]) (fun _=>[]) (fun i=>i<=l.length/\ ∀ k,k<i->p (l.getD k default)=false) (fun i=>l.length-i) (0) ?_ ?_ ?_ ?_
 ·simp
 ·rfl
 ·exact at_
 ·rintro i r ⟨hi,hp⟩;by_cases hin:i<l.length
  ·have hx:=h i hin;rw[aO]at hx;repeat' first|refine aq ?_|refine ak ?_ ?_<;>intro hw<;>try omega|fail
   ·refine aL ?_ rfl;refine congrArg I ?_;exact(lP hin hp hw).symm
   ·refine⟨i+1,?_,?_,by first|rfl|(simp[go_sem];done),bL,at_⟩<;>(try dsimp only)
    ·exact⟨by omega,aY hp hw⟩
    ·omega
  ·repeat' first|refine aq ?_|refine ak ?_ ?_<;>intro hw<;>try omega|fail
   refine aL ?_ rfl;refine congrArg I ?_;exact(kT fun k hk=>hp k (by omega)).symm
def zo{α : Type}[Inhabited α](p : α->Bool)(l:List α): decide (0<=gN p l)=l.any p:=by
 rcases qx p l with⟨h1,h2⟩|⟨i,h1,h2,h3⟩
 ·rw[h1,show decide ((0:Int)<= -1)=false from(by decide)];symm;rw[fS];exact dy.1 h2
 ·rw[h2,decide_eq_true (by omega)];symm;rw[List.any_eq_true];exact⟨_,aV h1,eL h3⟩
def vP (fn : FuncId) (cap : List AV) (hcap : AV.bX cap = true) (p : Expr -> Bool) (l : List Expr) (h : ∀ k, k < l.length -> aH aE fn (aI (l.getD k default) :: cap) (.bool (p (l.getD k default)))) (hl : l.length <= 2 ^ 62) :
    aH aE 196 [cg l,.fn (.func fn) [] cap] (.bool (l.any p)):=by
 refine aJ tM ?_ (by simp[AV.dh,AV.bX,hcap,o8]);intro Q au aA aB;have hc:=yl fn cap hcap p l h hl;simp only[cg]at hc;repeat' first|refine aq ?_|refine ak ?_ ?_<;>intro hw<;>try omega|fail
 all_goals refine aL ?_ rfl
 all_goals rw[<-zo]
def v0: eu:=⟨0,0,[]⟩
mutual
def cq: Expr->Bool
 | .mk op v s l => decide ((l.length : Int) = jr op) &&
    (if op=1 then decide (s=[]) && bT v && (decide (v.kind≠1) || decide (0<=v.n))
     else if op=2 then decide (v=v0) && fc s
     else decide (v=v0) && decide (s=[]) && ov l)
def ov: List Expr->Bool
 | []=>true
 | x::r=>cq x && ov r
end
def rH(l:List Expr): ov l = !(l.any fun x=> !(cq x)):=by
 induction l with
 | nil=>rfl
 | cons x r ih=>simp[ov,ih]
mutual
def gV: Expr->Prop
 | .mk _ v s l=>s.length<=2 ^ 62/\v.s.length<=2 ^ 62/\ -9223372036854775808<=v.n/\v.n<=9223372036854775807/\Dy l
def Dy: List Expr->Prop
 | []=>True
 | x::r=>gV x/\Dy r
end
def u9{l:List Expr}{x:Expr}(h:Dy l)(hx:x ∈ l): gV x:=by
 induction l with
 | nil=>cases hx
 | cons y r ih =>
   simp only[Dy]at h;rcases List.mem_cons.1 hx with rfl|hx
   ·exact h.1
   ·exact ih h.2 hx
def IW(x:Expr)(h:aH aE 156 [aI x] (.bool (cq x))): aH aE 197 [aI x] (.bool (!(cq x))):=by
 refine aJ Dh ?_;intro Q au aA aB;rw[aO]at h ⊢;repeat' first|refine aq ?_|refine ak ?_ ?_<;>intro hw<;>try omega|fail
 all_goals refine aL ?_ rfl
 all_goals simp_all
def BO(x:Expr): gV x->ew x<=2 ^ 60->aH aE 156 [aI x] (.bool (cq x)):=by
 induction x using Expr.ind with
 | h op v s l ih =>
   intro hx hz;simp only[ew]at hz;simp only[gV]at hx;obtain⟨o1,o2,o3,o4,o5⟩:=hx;have hl:=sR l;have hc:=vP 197 [] rfl (fun x=> !(cq x)) l (fun k h1=>IW _ (ih _ (aV h1) (u9 o5 (aV h1)) (by have:=qM (aV h1);omega))) (by omega);simp only[cg]at hc;obtain⟨vk,vn,vs⟩:=v;refine aJ Gj ?_;intro Q au aA aB;repeat' first|refine aq ?_|refine d_ (MH _) ?_|refine d_ (pW _ _ _ o3 o4) ?_|refine d_ (vM _ o1) ?_|refine ak ?_ ?_<;>intro hw<;>try omega|fail
   all_goals refine aL ?_ rfl
   all_goals (refine congrArg AV.bool ?_;simp only[cq,rH])
   all_goals (rw[aS];simp_all[v0,mw])
def BP(x:Expr)(hx:gV x)(hz:ew x<=2 ^ 60): aH aE 269 [aI x] (I (mw (cq x))):=by
 refine aJ Gq ?_;intro Q au aA aB;have h:=BO x hx hz;rw[aO]at h ⊢;repeat' first|refine aq ?_|refine ak ?_ ?_<;>intro hw<;>try omega|fail
 all_goals refine aL ?_ rfl
 all_goals simp_all[mw]
def TE{l:List Expr}{i:Nat}(hi:i<l.length)(h:cq (l.getD i default)=false): ov l=false:=by
 rw[rH,vO hi (by rw[h];rfl)];rfl
def Rx{l:List Expr}(h:∀ k,k<l.length->cq (l.getD k default)=true): ov l=true:=by
 rw[rH,sO (fun k hk=>by rw[h k hk];rfl)];rfl
def xx(x:Expr): gV x->ew x<=2 ^ 60->aH aE 174 [aI x] (.bool (cq x)):=by
 induction x using Expr.ind with
 | h op v s l ih =>
   intro hx hz;simp only[ew]at hz;simp only[gV]at hx;obtain⟨o1,o2,o3,o4,o5⟩:=hx;have hl:=sR l;have hc:∀ k,k<l.length->_:=fun k h1=>ih _ (aV h1) (u9 o5 (aV h1)) (by have:=qM (aV h1);omega);obtain⟨vk,vn,vs⟩:=v;refine aJ IC ?_;intro Q au aA aB;repeat' first|refine aq ?_|refine d_ (OH _) ?_|refine d_ (xq _ _ _ o2) ?_|refine d_ (rG _ o1) ?_|refine ak ?_ ?_<;>intro hw<;>try omega|fail
   all_goals try (refine aL ?_ rfl;refine congrArg AV.bool ?_;simp only[cq];rw[aS];simp_all[v0];done)
   with_reducible refine bn [2,3,46,47,48,49,50,51,52,53,54,55,56,57,58,59] (fun i:Nat=>[(3,I i)]) (fun _=>[.cells [I op,I vk,I vn,.str vs,.str s,.aF false EX (l.map aI)]]) (fun i=>i<=l.length/\ ∀ k,k<i->cq (l.getD k default)=true) (fun i=>l.length-i) 0 ?_ ?_ ?_ ?_
   ·simp
   ·rfl
   ·exact at_
   ·rintro i r ⟨h1,h2⟩;by_cases hi:i<l.length
    ·have hy:=hc i hi;rw[aO]at hy;repeat' first|refine aq ?_|refine ak ?_ ?_<;>intro hw<;>try omega|fail
     ·refine aL ?_ rfl;refine congrArg AV.bool ?_;simp only[cq];rw[TE hi (by assumption)];simp_all
     ·refine⟨i+1,?_,?_,by first|rfl|(simp[go_sem];done),bL,at_⟩<;>(try dsimp only)
      ·exact⟨by omega,aY h2 hw⟩
      ·omega
    ·repeat' first|refine aq ?_|refine ak ?_ ?_<;>intro hw<;>try omega|fail
     all_goals refine aL ?_ rfl
     all_goals refine congrArg AV.bool ?_
     all_goals simp only[cq]
     all_goals rw[Rx (fun k hk=>h2 k (by omega))]
     all_goals (rw[aS];simp_all[v0])
def cu {v r : AV} {mS ds : List AV} {τ : ae} (hv : View (.dead :: τ) v r) (hd : bf (.dead :: τ) mS ds) :
    ∃ r0 zY vB,Out.ret (oneOf [v])=Out.ret r0/\bx.cells mS:: τ = bx.cells zY::vB/\View (.dead::vB) r0 r/\bf (.dead::vB) zY ds:=⟨_,_,_,rfl,rfl,hv,hd⟩
def x0: Expr:= .mk 0 v0 [] []
def BQ(T:List Tok)(p:Nat)(b:Bool): Tok:=if b then default else T.getD p default
def iC(T:List Tok)(p:Nat)(k:Int)(s:aG): Bool:=decide (p<T.length) && (decide ((T.getD p default).kind=k) && decide ((T.getD p default).s=s))
def dW(T:List Tok)(p:Nat)(b:Bool)(k:Int)(s:aG): Bool:= !b && iC T p k s
def j8(x:yh): Int:=if x.level<3 then 1 else 4
def pX(T:List Tok)(p:Nat)(b:Bool)(lvl:Int): Option yh:=gj.find? fun x=>x.level==lvl && dW T p b (j8 x) x.sign
def J1(T:List Tok)(p:Nat)(b:Bool)(lvl:Int): Nat:=if(pX T p b lvl).isSome then p+1 else p
def BR(o:Option yh): Int:=match o with
 | some x=>x.op
 | none=>0
def bf.eqv{σ : ae}{a b:List AV}(h:a=b)(hp:AV.bX b=true): bf σ a b:=by subst h;exact bf.refl hp
def pg(s:aG): Option eu:=if s=[110,117,108,108]then some v0 else if s=[102,97,108,115,101]then some ⟨3,0,[]⟩else if s=[116,114,117,101]then some ⟨3,1,[]⟩else none
structure RS where
 x:Expr
 p:Nat
 bad:Bool
deriving Inhabited
def bH(T:List Tok)(p:Nat)(b:Bool): List AV:=[.aF false ET (T.map jU),I p,.bool b]
attribute [go_sem] bH
def aQ(T:List Tok)(p:Nat)(b:Bool): AV.bX (bH T p b)=true:=by simp[bH,AV.dh,AV.bX,Gt]
def my{α : Type}[Inhabited α]{l:List α}{i:Nat}(h:l.length<=i): l.getD i default=default:=by
 rw[aj,List.getElem?_eq_none h];rfl
def Ry: (default:Tok)=⟨0,[],0,0⟩:=rfl
def X1(T:List Tok)(p:Nat)(b:Bool)(k:Int)(s:aG)(hk:k≠0): dW T p b k s=(decide ((BQ T p b).kind=k) && decide ((BQ T p b).s=s)):=by
 unfold dW BQ iC;cases b with
 | true=>simp[Ry];intro h;exact absurd h.symm hk
 | false =>
   by_cases hp:p<T.length
   ·simp[hp]
   ·rw[my (by omega)];simp[hp,Ry];intro h;exact absurd h.symm hk
def Gz(T:List Tok)(p:Nat)(b:Bool): bC aE 319 0 [] (bH T p b) (bH T p b) (jU (BQ T p b)):=by
 refine bC.cC (zg.go ?_) rfl (aQ _ _ _);unfold dS;intro Q au aA aB;cases b with
 | true =>
   repeat' first|refine aq ?_|refine ak ?_ ?_<;>intro hw<;>try omega|fail
   exact cu (View.eqv rfl rfl) (bf.refl (aQ T p true))
 | false =>
   by_cases hp:p<T.length
   ·repeat' first|refine aq ?_|refine ak ?_ ?_<;>intro hw<;>try omega|fail
    refine cu (View.eqv ?_ rfl) (bf.refl (aQ T p false));simp only[BQ];rfl
   ·repeat' first|refine aq ?_|refine ak ?_ ?_<;>intro hw<;>try omega|fail
    refine cu (View.eqv ?_ rfl) (bf.refl (aQ T p false));simp only[BQ];rw[my (by omega)];rfl
def nI(T:List Tok)(p:Nat)(b:Bool)(k:Int)(s:aG): Nat:=if dW T p b k s then p+1 else p
def BS(T:List Tok)(p:Nat)(b:Bool)(k:Int)(s:aG)(hk:k≠0)(hp:p<=2 ^ 61): bC aE 310 0 [I k,.str s] (bH T p b) (bH T (nI T p b k s) b) (.bool (dW T p b k s)):=by
 have hn:=Gz T p b;unfold nI;rw[X1 T p b k s hk];generalize BQ T p b=t at hn ⊢;obtain⟨tk,ts,tn,tp⟩:=t;simp only[bH,jU]at hn;refine bC.cC (AJ.go ?_) rfl (aQ _ _ _);unfold dS;intro Q au aA aB;repeat' first|refine aq ?_|refine bw hn ?_|refine ak ?_ ?_<;>intro hw<;>try omega|fail
 all_goals first
  |(refine cu (View.eqv ?_ rfl) (bf.eqv ?_ (aQ _ _ _))<;>simp_all[bH];done)
def xy(T:List Tok)(p:Nat)(b:Bool)(k:Int)(s:aG)(hk:k≠0)(hp:p<=2 ^ 61): bC aE 320 0 [I k,.str s] (bH T p b) (bH T (nI T p b k s) (b || !(dW T p b k s))) (.bJ []):=by
 have hn:=BS T p b k s hk hp;generalize dW T p b k s=o at hn ⊢;simp only[bH]at hn;refine bC.cC (ye.go ?_) rfl (aQ _ _ _);unfold dS;intro Q au aA aB;cases o
 ·repeat' first|refine aq ?_|refine bw hn ?_|refine ak ?_ ?_<;>intro hw<;>try omega|fail
  refine ri rfl (bf.eqv ?_ (aQ _ _ _));simp[bH]
 ·repeat' first|refine aq ?_|refine bw hn ?_|refine ak ?_ ?_<;>intro hw<;>try omega|fail
  refine ri rfl (bf.eqv ?_ (aQ _ _ _));simp[bH]
def MI(s:aG): aH aE 321 [.str s] (.bJ [eR ((pg s).getD v0),.bool (pg s).isSome]):=by
 refine aJ IS ?_;intro Q au aA aB;repeat' first|refine aq ?_|refine ak ?_ ?_<;>intro hw<;>try omega|fail
 all_goals refine bp ?_ rfl
 all_goals simp_all[pg,eR,v0]
def Ao(T:List Tok)(p:Nat)(b:Bool)(lvl:Int)(hp:p<=2 ^ 61): bC aE 313 0 [I lvl] (bH T p b) (bH T (J1 T p b lvl) b) (I (BR (pX T p b lvl))):=by
 refine bC.cC (wo.go ?_) rfl (aQ _ _ _);unfold dS;intro Q au aA aB;have hl:gj.length=12:=rfl;have ho:=fun k s (hk:k≠0)=>BS T p b k s hk hp;simp only[bH]at ho;repeat' first|refine aq ?_|refine d_ wO ?_|refine ak ?_ ?_<;>intro hw<;>try omega|fail
 with_reducible refine bn [4,6,7,10,11,12,13,14,15,16,17,18,19,20,21,22,23,24,25,26,27,28,29,30] (fun q:Nat × List bx=>[(10,I q.1)]) (fun q=> .cells [.aF false ET (T.map jU),I p,.bool b]::q.2) (fun q=>q.1<=12/\ ∀ k,k<q.1->((gj.getD k default).level==lvl && dW T p b (j8 (gj.getD k default)) (gj.getD k default).sign)=false) (fun q=>12-q.1) (0,[]) ?_ ?_ ?_ ?_
 ·simp
 ·rfl
 ·exact at_
 rintro⟨i,τ⟩ r ⟨h1,h2⟩;dsimp only at h1 h2;by_cases hi:i<12
 ·obtain⟨x,hx⟩:∃ x,gj.getD i default=x:=⟨_,rfl⟩
  have hyes:(x.level==lvl && dW T p b (j8 x) x.sign)=true->pX T p b lvl=some x:=fun h=>by
   unfold pX;rw[qL (p:=fun y:yh=>y.level==lvl && dW T p b (j8 y) y.sign) hi h2 (by rw[hx];exact h),hx]
  have IX:(x.level==lvl && dW T p b (j8 x) x.sign)=false-> ∀ k,k<i+1->((gj.getD k default).level==lvl && dW T p b (j8 (gj.getD k default)) (gj.getD k default).sign)=false:=fun h=>aY h2 (by rw[hx];exact h);have i_:(x.level<3/\j8 x=1)\/(¬ x.level<3/\j8 x=4):=by unfold j8;split<;>simp_all
  clear h2;rcases i_ with⟨hlv,TF⟩|⟨hlv,TF⟩;all_goals rw[TF]at hyes IX
  all_goals (
   repeat' first|simp (disch:=omega) only[go_sem,au,aA,aB,hx]|refine aq ?_|with_reducible refine H_ (ho 1 _ (by decide)) rfl ?_|with_reducible refine Ia (ho 1 _ (by decide)) rfl ?_|with_reducible refine Ib (ho 1 _ (by decide)) rfl ?_|with_reducible refine H_ (ho 4 _ (by decide)) rfl ?_|with_reducible refine Ia (ho 4 _ (by decide)) rfl ?_|with_reducible refine Ib (ho 4 _ (by decide)) rfl ?_|refine ak ?_ ?_<;>intro hw<;>try omega|fail
   ·rename_i _ hlq;have hy:=hyes (by rw[hlq,hw];simp);refine cu (View.eqv ?_ rfl) (bf.eqv ?_ (aQ _ _ _))
    ·rw[hy];rfl
    ·simp[bH,J1,hy,nI,hw]
   ·rename_i hlq;refine⟨(i+1,τ++[.cells [I x.op,.str x.sign,I x.level]]),?_,?_,?_,bL,at_⟩<;>(try dsimp only)
    ·exact⟨by omega,IX (by rw[hw];simp)⟩
    ·omega
    ·simp[nI,hw]
   ·refine⟨(i+1,τ++[.cells [I x.op,.str x.sign,I x.level]]),?_,?_,?_,bL,at_⟩<;>(try dsimp only)
    ·exact⟨by omega,IX (by rw[beq_eq_false_iff_ne.2 hw];rfl)⟩
    ·omega)
 ·have hno : pX T p b lvl = none := by
   unfold pX;rw[qy (p:=fun y:yh=>y.level==lvl && dW T p b (j8 y) y.sign) (fun k hk=>h2 k (by omega))]
  repeat' first|refine aq ?_|refine ak ?_ ?_<;>intro hw<;>try omega|fail
  refine cu (View.eqv ?_ rfl) (bf.eqv ?_ (aQ _ _ _))<;>simp_all[bH,BR,J1]
def gW(T:List Tok)(r:RS)(k:Int)(s:aG): RS:=⟨r.x,nI T r.p r.bad k s,r.bad || !(dW T r.p r.bad k s)⟩
def nJ(rd:Nat->Nat->RS)(lvl p:Nat)(b:Bool): RS:=if b then⟨x0,p,true⟩else rd lvl p
def sS(v:eu)(p:Nat): RS:=⟨.mk 1 v [] [],p,false⟩
def iQ(rd:Nat->Nat->RS)(T:List Tok)(p:Nat): RS :=
 if iC T p 4 [40]then gW T (rd 0 (p+1)) 4 [41]
 else if(T.getD p default).kind=2 then sS ⟨1,(T.getD p default).n,[]⟩ (p+1)
 else if(T.getD p default).kind=3 then sS ⟨2,0,(T.getD p default).s⟩ (p+1)
 else if(T.getD p default).kind=1 then
  (match pg (T.getD p default).s with
  | some v=>sS v (p+1)
  | none=>if fc (T.getD p default).s then⟨.mk 2 v0 (T.getD p default).s [],p+1,false⟩else ⟨x0,p,true⟩)
 else⟨x0,p,true⟩
def thenS: aG:=[116,104,101,110]
def wP: aG:=[101,108,115,101]
def jw(rd:Nat->Nat->RS)(T:List Tok)(p:Nat): RS:=gW T (rd 0 p) 1 thenS
def ow(rd:Nat->Nat->RS)(T:List Tok)(p:Nat): RS:=gW T (nJ rd 0 (jw rd T p).p (jw rd T p).bad) 1 wP
def vQ(rd:Nat->Nat->RS)(T:List Tok)(p:Nat): RS:=nJ rd 0 (ow rd T p).p (ow rd T p).bad
def ym(rd:Nat->Nat->RS)(T:List Tok)(p:Nat): RS:=⟨.mk 16 v0 [] [(jw rd T p).x,(ow rd T p).x,(vQ rd T p).x],(vQ rd T p).p,(vQ rd T p).bad⟩
def bN(T:List Tok): Nat->Option Expr->Nat->Nat->RS
 | 0,_,_,p=>⟨x0,p,true⟩
 | f + 1, none, lvl, p =>
   if lvl=0 then(if iC T p 1 [105,102]then ym (fun l q=>bN T f none l q) T (p+1)else bN T f none 1 p)
   else if lvl=6/\iC T p 4 [45]=true then⟨.mk 3 v0 [] [(bN T f none 6 (p+1)).x],(bN T f none 6 (p+1)).p,(bN T f none 6 (p+1)).bad⟩
   else if 6<=lvl then iQ (fun l q=>bN T f none l q) T p
   else if(bN T f none (lvl+1) p).bad then bN T f none (lvl+1) p
   else bN T f (some (bN T f none (lvl+1) p).x) lvl (bN T f none (lvl+1) p).p
 | f + 1, some x, lvl, p =>
   match pX T p false lvl with
   | none=>⟨x,p,false⟩
   | some o =>
     if lvl=3\/(bN T f none (lvl+1) (p+1)).bad=true then⟨.mk o.op v0 [] [x,(bN T f none (lvl+1) (p+1)).x],(bN T f none (lvl+1) (p+1)).p,(bN T f none (lvl+1) (p+1)).bad⟩
     else bN T f (some (.mk o.op v0 [] [x,(bN T f none (lvl+1) (p+1)).x])) lvl (bN T f none (lvl+1) (p+1)).p
def jM{T:List Tok}{p:Nat}{k:Int}{s:aG}(h:iC T p k s=true): p<T.length:=by
 simp only[iC,aD,decide_eq_true_eq]at h;exact h.1
def jN{T:List Tok}{p:Nat}{b:Bool}{k:Int}{s:aG}(h:dW T p b k s=true): p<T.length/\b=false:=by
 simp only[dW,aD,bW]at h;exact⟨jM h.2,h.1⟩
def yn{T:List Tok}{p:Nat}{b:Bool}{lvl:Int}{o:yh}(h:pX T p b lvl=some o): p<T.length/\b=false/\o ∈ gj/\o.level=lvl:=by
 have h1:=eL h;simp only[aD,beq_iff_eq]at h1;exact⟨(jN h1.2).1,(jN h1.2).2,fx h,h1.1⟩
def je(n p:Nat)(r:RS): Prop:=p<=r.p/\r.p<=n/\(r.bad=false->p<r.p)
def tP{T:List Tok}{p:Nat}{r:RS}(k:Int)(s:aG)(h:je T.length p r): je T.length p (gW T r k s):=by
 obtain⟨h1,h2,h3⟩:=h;unfold gW je nI;dsimp only;by_cases ho:dW T r.p r.bad k s=true
 ·have:=jN ho;have h4:=h3 this.2;rw[if_pos ho];refine⟨by omega,by omega,fun _=>by omega⟩
 ·rw[if_neg ho];refine⟨h1,h2,fun h=>?_⟩;simp only[Bool.not_eq_true]at ho;rw[ho]at h;simp at h
def zp{T:List Tok}{rd:Nat->Nat->RS}(hrd:∀ l q,q<=T.length->je T.length q (rd l q)){l q:Nat}{b:Bool}(hq:q<=T.length): je T.length q (nJ rd l q b):=by
 unfold nJ;split
 ·exact⟨Nat.le_refl _,hq,fun h=>by cases h⟩
 ·exact hrd l q hq
def je.from{n p q:Nat}{r:RS}(h:je n q r)(hpq:p<=q): je n p r:=⟨bY hpq h.1,h.2.1,fun hb=>Nat.lt_of_le_of_lt hpq (h.2.2 hb)⟩
def vR{T:List Tok}{rd:Nat->Nat->RS}(hrd:∀ l q,q<=T.length->je T.length q (rd l q)){p:Nat}(hp:p<=T.length): je T.length p (jw rd T p):=tP _ _ (hrd 0 p hp)
def vS{T:List Tok}{rd:Nat->Nat->RS}(hrd:∀ l q,q<=T.length->je T.length q (rd l q)){p:Nat}(hp:p<=T.length): je T.length (jw rd T p).p (ow rd T p):=tP _ _ (zp hrd (vR hrd hp).2.1)
def VM{T:List Tok}{rd:Nat->Nat->RS}(hrd:∀ l q,q<=T.length->je T.length q (rd l q)){p:Nat}(hp:p<=T.length): je T.length (ow rd T p).p (vQ rd T p):=zp hrd (vS hrd hp).2.1
def TG{T:List Tok}{rd:Nat->Nat->RS}(hrd:∀ l q,q<=T.length->je T.length q (rd l q)){p:Nat}(hp:p<=T.length): je T.length p (iQ rd T p):=by
 have stay:∀ x,je T.length p ⟨x,p,true⟩:=fun x=>⟨Nat.le_refl _,hp,fun h=>by cases h⟩;have k0:¬ p<T.length->(T.getD p default).kind=0:=fun h=>by rw[my (by omega)];rfl
 have step:(T.getD p default).kind≠0-> ∀ x,je T.length p ⟨x,p+1,false⟩:=fun hk x=>by
  have:p<T.length:=by
   by_cases h:p<T.length
   ·exact h
   ·exact absurd (k0 h) hk
  exact⟨Nat.le_succ _,this,fun _=>Nat.lt_succ_self _⟩
 unfold iQ;split
 ·rename_i h;exact tP _ _ ((hrd 0 (p+1) (jM h)).from (Nat.le_succ _))
 ·split
  ·exact step (by omega) _
  ·split
   ·exact step (by omega) _
   ·split
    ·split
     ·exact step (by omega) _
     ·split
      ·exact step (by omega) _
      ·exact stay _
    ·exact stay _
def mO(T:List Tok)(f:Nat): ∀(m:Option Expr) (lvl p:Nat),p<=T.length->(m=none->je T.length p (bN T f m lvl p))/\p<=(bN T f m lvl p).p/\(bN T f m lvl p).p<=T.length:=by
 induction f with
 | zero =>
   intro m lvl p hp;simp only[bN];exact⟨fun _=>⟨Nat.le_refl _,hp,fun h=>by cases h⟩,Nat.le_refl _,hp⟩
 | succ f ih =>
   intro m lvl p hp;have hrd:∀ l q,q<=T.length->je T.length q (bN T f none l q):=fun l q hq=>(ih none l q hq).1 rfl;cases m with
   | none =>
     have:je T.length p (bN T (f+1) none lvl p):=by
      simp only[bN];split
      ·split
       ·rename_i h;have h1:=jM h;have a:=vR hrd (p:=p+1) h1;have b:=vS hrd (p:=p+1) h1;have c:=VM hrd (p:=p+1) h1;exact(show je T.length (ow (fun l q=>bN T f none l q) T (p+1)).p (ym (fun l q=>bN T f none l q) T (p+1)) from⟨c.1,c.2.1,c.2.2⟩).from (bY (Nat.le_succ _) (bY a.1 b.1))
       ·exact hrd 1 p hp
      ·split
       ·rename_i h;have h1:=jM h.2;have c:=hrd 6 (p+1) h1;exact(show je T.length (p+1) ⟨_,_,_⟩ from⟨c.1,c.2.1,c.2.2⟩).from (Nat.le_succ _)
       ·split
        ·exact TG hrd hp
        ·split
         ·exact hrd _ _ hp
         ·rename_i hb;have a:=hrd (lvl+1) p hp;have b:=ih (some (bN T f none (lvl+1) p).x) lvl _ a.2.1;have:=a.2.2 (by simpa using hb);exact⟨by omega,b.2.2,fun _=>by omega⟩
     exact⟨fun _=>this,this.1,this.2.1⟩
   | some x =>
     refine⟨fun h=>(by cases h),?_⟩;simp only[bN];split
     ·exact⟨Nat.le_refl _,hp⟩
     ·rename_i o ho;have h1:=(yn ho).1;have a:=hrd (lvl+1) (p+1) h1;split
      ·exact⟨by have:=a.1;dsimp only;omega,a.2.1⟩
      ·have b:=ih (some (.mk o.op v0 [] [x,(bN T f none (lvl+1) (p+1)).x])) lvl _ a.2.1;exact⟨by have:=a.1;omega,b.2.2⟩
