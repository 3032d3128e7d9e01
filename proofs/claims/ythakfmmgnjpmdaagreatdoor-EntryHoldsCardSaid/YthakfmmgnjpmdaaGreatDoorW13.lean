/- Part. -/
import Derived.Test.YthakfmmgnjpmdaaGreatDoorW12
import Derived.IntWalk
set_option linter.all false
namespace Go.AM
variable {P:Program}
universe u
inductive Tg {α : Sort u} (K : α):Type where
 | mk
def j8(v:AV){K:AV->Prop}(_:Tg K): Prop:=K v
def vF(σ : ae){K:ae->Prop}(_:Tg K): Prop:=K σ
@[go_sem] def ahL (v:AV) (K:AV->Prop):j8 v (.mk:Tg K)=K v:=_root_.id rfl
@[go_sem] def ahM (v:ae) (K:ae->Prop):vF v (.mk:Tg K)=K v:=_root_.id rfl
def req(p:Prop){K:Prop}(_:Tg K): Prop:=p/\(p->K)
@[go_sem] def ahN (K:Prop):req True (.mk:Tg K)=K:=by simp[req]
def eT(p K:Prop): (p/\K)=req p (.mk:Tg K):=by simp only[req];exact propext ⟨fun h=>⟨h.1,fun _=>h.2⟩,fun h=>⟨h.1,h.2 h.1⟩⟩
@[go_sem ↓] def aj9 (e:Env) (n:Nat):AX.ev e (.t n)=e n:=_root_.id rfl
@[go_sem ↓] def aj_ (e:Env) (a:AV):AX.ev e (.c a)=a:=_root_.id rfl
def Iy(c:Bool){a b:AV}(_:Tg (a,b)): AV:=if c then a else b
@[go_sem] def ai1 (a b:AV):Iy true (.mk:Tg (a,b))=a:=_root_.id rfl
@[go_sem] def ai2 (a b:AV):Iy false (.mk:Tg (a,b))=b:=_root_.id rfl
@[go_sem ↓] def ai3 (e : Env) (d : Nat) (v : AV) (n : Nat) : upd e (some d) v n = Iy (n == d) (.mk : Tg (v, e n)) := by
  simp only[upd,Iy,beq_iff_eq]
@[go_sem ↓] def ahO (e:Env) (v:AV):upd e none v=e:=_root_.id rfl
@[go_sem] def agc (a:AV) (az:List AV):kC (a::az) 0=a:=_root_.id rfl
@[go_sem] def agd (a:AV) (az:List AV) (n:Nat):kC (a::az) (n+1)=kC az n:=_root_.id rfl
def BA(v:AV){T E:Prop}(_:Tg (T,E)): Prop :=
 match v with
 | .bool t=>(t=true->T)/\(t=false->E)
 | _=>False
@[go_sem] def age (T E:Prop):BA (.bool true) (.mk:Tg (T,E))=T:=by simp[BA]
@[go_sem] def afL (T E:Prop):BA (.bool false) (.mk:Tg (T,E))=E:=by simp[BA]
def acK{t:Bool}{T E:Prop}(h:t=true->T)(h':t=false->E): BA (.bool t) (.mk:Tg (T,E)):=⟨h,h'⟩
@[go_sem ↓] def ahP (Q:AQ) (e:Env) (σ : ae):iJ P .skip Q e σ = Q .normal e σ:=_root_.id rfl
@[go_sem ↓] def agf (ops:List cH) (Q:AQ) (e:Env) (σ : ae):iJ P (.region ops) Q e σ = eU P Q ops e σ:=_root_.id rfl
@[go_sem ↓] def ahQ (ops:List cH) (jX:List (AX × AX)) (Q:AQ) (e:Env) (σ : ae):iJ P (.draw ops jX) Q e σ = eU P (j6 jX Q) ops e σ:=_root_.id rfl
@[go_sem ↓] def ai4 (a b:cY) (Q:AQ) (e:Env) (σ : ae):iJ P (.seq a b) Q e σ = iJ P a (mo (iJ P b Q) Q) e σ:=_root_.id rfl
@[go_sem ↓] def ahR (c:AX) (a b:cY) (Q:AQ) (e:Env) (σ : ae):iJ P (.cond c a b) Q e σ = BA (c.ev e) (.mk:Tg (iJ P a Q e σ,iJ P b Q e σ)):=_root_.id rfl
@[go_sem ↓] def agS (id:Nat) (c:cY) (Q:AQ) (e:Env) (σ : ae):iJ P (.block id c) Q e σ = iJ P c (tP id Q) e σ:=_root_.id rfl
@[go_sem ↓] def ahS (id:Nat) (Q:AQ) (e:Env) (σ : ae):iJ P (.exit id) Q e σ = Q (.exit id) e σ:=_root_.id rfl
@[go_sem ↓] def ai5 (Q:AQ) (e:Env) (σ : ae):iJ P .ret Q e σ = Q .ret e σ:=_root_.id rfl
@[go_sem ↓] def agT (l:Nat) (Q:AQ) (e:Env) (σ : ae):iJ P (.label l) Q e σ = Q .normal e σ:=_root_.id rfl
@[go_sem ↓] def ahT (l:Nat) (Q:AQ) (e:Env) (σ : ae):iJ P (.goto l) Q e σ = Q (.goto l) e σ:=_root_.id rfl
def ab5{c:cY}{Q:AQ}{e:Env}{σ : ae}(P:Program)(_:Tg (c,Q,e,σ)): Prop:=ab3 (iJ P c) Q e σ
@[go_sem ↓] def ahU (c:cY) (Q:AQ) (e:Env) (σ : ae):iJ P (.loop c) Q e σ = ab5 P (.mk:Tg (c,Q,e,σ)):=_root_.id rfl
def OQ{l:Nat}{c r:cY}{Q:AQ}{e:Env}{σ : ae}(P:Program)(_:Tg (l,c,r,Q,e,σ)): Prop:=W_ l (iJ P c) (iJ P r) Q e σ
@[go_sem ↓] def agU (l:Nat) (c r:cY) (Q:AQ) (e:Env) (σ : ae):iJ P (.scope l c r) Q e σ = OQ P (.mk:Tg (l,c,r,Q,e,σ)):=_root_.id rfl
@[go_sem ↓] def aem (K:Env->ae->Prop) (Q:AQ) (e:Env) (σ : ae):mo K Q .normal e σ = K e σ:=_root_.id rfl
@[go_sem ↓] def agh (K:Env->ae->Prop) (Q:AQ) (i:Nat) (e:Env) (σ : ae):mo K Q (.exit i) e σ = Q (.exit i) e σ:=_root_.id rfl
@[go_sem ↓] def agV (K:Env->ae->Prop) (Q:AQ) (e:Env) (σ : ae):mo K Q .ret e σ = Q .ret e σ:=_root_.id rfl
@[go_sem ↓] def agi (K:Env->ae->Prop) (Q:AQ) (l:Nat) (e:Env) (σ : ae):mo K Q (.goto l) e σ = Q (.goto l) e σ:=_root_.id rfl
@[go_sem ↓] def afM (K:Env->ae->Prop) (Q:AQ) (v:AV) (e:Env) (σ : ae):mo K Q (.panic v) e σ = Q (.panic v) e σ:=_root_.id rfl
@[go_sem ↓] def adT (id:Nat) (Q:AQ) (e:Env) (σ : ae):tP id Q .normal e σ = Q .normal e σ:=_root_.id rfl
@[go_sem ↓] def agj (id:Nat) (Q:AQ) (e:Env) (σ : ae):tP id Q .ret e σ = Q .ret e σ:=_root_.id rfl
@[go_sem ↓] def aen (id:Nat) (Q:AQ) (v:AV) (e:Env) (σ : ae):tP id Q (.panic v) e σ = Q (.panic v) e σ:=_root_.id rfl
def Fm(c:Bool){T E:Prop}(_:Tg (T,E)): Prop:=if c then T else E
@[go_sem] def ai6 (T E:Prop):Fm true (.mk:Tg (T,E))=T:=by simp[Fm]
@[go_sem] def ai7 (T E:Prop):Fm false (.mk:Tg (T,E))=E:=by simp[Fm]
@[go_sem ↓] def afN (id i : Nat) (Q : AQ) (e : Env) (σ : ae) : tP id Q (.exit i) e σ = Fm (i == id) (.mk : Tg (Q .normal e σ, Q (.exit i) e σ)) := by
  simp only[tP,Fm,beq_iff_eq]
@[go_sem ↓] def aeo (jX:List (AX × AX)) (Q:AQ) (e:Env) (σ : ae):j6 jX Q .normal e σ = req (qy jX e) (.mk:Tg (Q .normal e σ)):=eT _ _
@[go_sem ↓] def afO (Q:AQ) (v:AV) (e:Env) (σ : ae):j6 [] Q (.panic v) e σ = Q (.panic v) e σ:=_root_.id rfl
@[go_sem ↓] def aep (Q:AQ) (v:AV) (e:Env) (σ : ae):j6 [(.c .jB,.c .jB)] Q (.panic v) e σ = ∀ e',Q (.panic v) e' σ:=_root_.id rfl
@[go_sem ↓] def agk (Q:AQ) (e:Env) (σ : ae):eU P Q [] e σ = Q .normal e σ:=_root_.id rfl
@[go_sem ↓] def afP (Q:AQ) (o:bg) (d:Option Nat) (r:List cH) (e:Env) (σ : ae) :
 eU P Q (⟨o,d,none⟩::r) e σ = o.run P e σ (fun v σ'=>j8 v (.mk:Tg fun v=>vF σ' (.mk:Tg fun σ'=>eU P Q r (upd e d v) σ'))) (fun v σ'=>Q (.panic v) e σ'):=rfl
def nB(v:AV)(b:Bool){T E U:Prop}(_:Tg (T,E,U)): Prop :=
 match v with
 | .bool t=>(t=b->T)/\(t = !b->E)
 | .bH []=>U
 | _=>False
@[go_sem] def agW (T E U:Prop):nB (.bool true) true (.mk:Tg (T,E,U))=T:=by simp[nB]
@[go_sem] def agX (T E U:Prop):nB (.bool false) false (.mk:Tg (T,E,U))=T:=by simp[nB]
@[go_sem] def agY (T E U:Prop):nB (.bool true) false (.mk:Tg (T,E,U))=E:=by simp[nB]
@[go_sem] def agZ (T E U:Prop):nB (.bool false) true (.mk:Tg (T,E,U))=E:=by simp[nB]
@[go_sem] def ahV (b:Bool) (T E U:Prop):nB (.bH []) b (.mk:Tg (T,E,U))=U:=by simp[nB]
def ZS{t b:Bool}{T E U:Prop}(h:t=b->T)(h':t = !b->E): nB (.bool t) b (.mk:Tg (T,E,U)):=⟨h,h'⟩
@[go_sem ↓] def aeq (Q:AQ) (o:bg) (d:Option Nat) (k:Nat) (b:Bool) (r:List cH) (e:Env) (σ : ae) :
 eU P Q (⟨o,d,some (k,b)⟩::r) e σ = nB (e k) b (.mk:Tg (o.run P (upd e (some k) (.bool b)) σ (fun v σ'=>j8 v (.mk:Tg fun v=>vF σ' (.mk:Tg fun σ'=>eU P Q r (upd (upd e (some k) (.bool b)) d v) σ'))) (fun v σ'=>Q (.panic v) (upd e (some k) (.bool b)) σ'),
  eU P Q r (upd (upd e (some k) (.bool (!b))) d (.bH [])) σ,eU P Q r (upd e d (.bH [])) σ)):=by
  simp only[eU,nB,j8,vF];cases e k<;>rfl
section
variable (e:Env) (σ : ae) (K Kp:AV->ae->Prop)
@[go_sem ↓] def ajJ (x:AX):bg.run P (.mv x) e σ K Kp=K (x.ev e) σ:=_root_.id rfl
@[go_sem ↓] def ag0 (cs:List AV):bg.run P (.alloc none cs) e σ K Kp=K (.ref σ.length 0) (σ++[.cells cs]):=_root_.id rfl
@[go_sem ↓] def agl (T:TypeId) (cs:List AV):bg.run P (.alloc (some T) cs) e σ K Kp=K (.ref σ.length 0) (σ++[.bM (some T) cs]):=_root_.id rfl
@[go_sem ↓] def ag1 (el:El):bg.run P (.kK el) e σ K Kp=K (.own el σ.length 0 0 0) (σ++[.vec el []]):=_root_.id rfl
def ab6(T:TypeId)(v:AV)(σ : ae){K:AV->ae->Prop}(_:Tg K): Prop:=v.cells.all AV.scalar=true/\K (.ref σ.length 0) (σ++[.bM (some T) v.cells])
@[go_sem ↓] def ahW (T:TypeId) (x:AX):bg.run P (.xU T x) e σ K Kp=ab6 T (x.ev e) σ (.mk:Tg K):=_root_.id rfl
@[go_sem] def ahX (T:TypeId) (v:AV) (K:AV->ae->Prop):ab6 T v σ (.mk:Tg K)=req (v.cells.all AV.scalar=true) (.mk:Tg (K (.ref σ.length 0) (σ++[.bM (some T) v.cells]))):=eT _ _
@[go_sem ↓] def ag2 (t:TypeId) (x:AX):bg.run P (.vy t x) e σ K Kp=K (.lq t (x.ev e)) σ:=_root_.id rfl
@[go_sem ↓] def ahY (f:Fn) (a b:List AX):bg.run P (.rH f a b) e σ K Kp=K (.fn f (a.map (AX.ev e)) (b.map (AX.ev e))) σ:=_root_.id rfl
def xU(v:AV)(σ : ae){K:AV->ae->Prop}(_:Tg K): Prop:=v.cells.all AV.scalar=true/\K (.ref σ.length 0) (σ++[.cells v.cells])
@[go_sem ↓] def ai8 (x:AX):bg.run P (.box x) e σ K Kp=xU (x.ev e) σ (.mk:Tg K):=_root_.id rfl
def UH(c a b:AV){K:AV->Prop}(_:Tg K): Prop:=match c with | .bool t=>K (if t then a else b)|_=>False
@[go_sem ↓] def ahZ (c a b : AX) : bg.run P (.pick c a b) e σ K Kp = UH (c.ev e) (a.ev e) (b.ev e) (.mk : Tg fun v => K v σ) := by
  simp only[bg.run,UH];rfl
def loadT(σ : ae)(ag:Bool)(n:Nat)(p:AV){K:AV->Prop}(_:Tg K): Prop:=iS σ ag n p K
def storeT(σ : ae)(n:Nat)(p v:AV){K:ae->Prop}(_:Tg K): Prop:=oc σ n p v K
def iT(op:BinOp)(x y:AV){K:AV->Prop}(_:Tg K): Prop:=kp op x y K
def unT(op:UnOp)(x:AV){K:AV->Prop}(_:Tg K): Prop:=C_ op x K
@[go_sem ↓] def run_load (ag:Bool) (n:Nat) (x:AX):bg.run P (.load ag n x) e σ K Kp=loadT σ ag n (x.ev e) (.mk:Tg fun v=>K v σ):=_root_.id rfl
@[go_sem ↓] def run_store (n:Nat) (x v:AX):bg.run P (.store n x v) e σ K Kp=storeT σ n (x.ev e) (v.ev e) (.mk:Tg fun σ'=>K (.bH []) σ'):=_root_.id rfl
@[go_sem ↓] def ai9 (op:BinOp) (x y:AX):bg.run P (.bin op x y) e σ K Kp=iT op (x.ev e) (y.ev e) (.mk:Tg fun v=>K v σ):=_root_.id rfl
@[go_sem ↓] def ajK (op:UnOp) (x:AX):bg.run P (.un op x) e σ K Kp=unT op (x.ev e) (.mk:Tg fun v=>K v σ):=_root_.id rfl
def Ka (s : Bool) (x : AV) {K : AV -> Prop} (_ : Tg K) : Prop := match s, x with
    | true,.str s=>K (.int .i64 s.length)
    | false,.aA=>K (.int .i64 0)
    | false,.aN _ _ xs=>K (.int .i64 xs.length)
    | false,.own _ _ _ _ n=>K (.int .i64 n)
    | _,_=>False
@[go_sem ↓] def ai_ (s : Bool) (x : AX) : bg.run P (.len s x) e σ K Kp = Ka s (x.ev e) (.mk : Tg fun v => K v σ) := by
  simp only[bg.run,Ka];rfl
def ZU(x:AV)(i:Nat){K:AV->Prop}(_:Tg K): Prop:=match x with | .bH vs=>i<vs.length/\K (vs.getD i .undef)|_=>False
@[go_sem ↓] def aja (x : AX) (i : Nat) : bg.run P (.ext x i) e σ K Kp = ZU (x.ev e) i (.mk : Tg fun v => K v σ) := by
  simp only[bg.run,ZU];rfl
def BD(op:Bool)(x:AV)(xs:List AV){K:AV->Prop}(_:Tg K): Prop:=sk op x xs K
@[go_sem ↓] def ajb (x:AX) (xs:List AX):bg.run P (.min x xs) e σ K Kp=BD true (x.ev e) (xs.map (AX.ev e)) (.mk:Tg fun v=>K v σ):=_root_.id rfl
@[go_sem ↓] def ajc (x:AX) (xs:List AX):bg.run P (.max x xs) e σ K Kp=BD false (x.ev e) (xs.map (AX.ev e)) (.mk:Tg fun v=>K v σ):=_root_.id rfl
def OR(K Kp:AV->ae->Prop): Out->ae->Prop
 | .ret r,σ=>K r σ
 | .panic r,σ=>Kp r σ
def Fo (P : Program) (q : Bool) (f : AV) (args : List AV) (σ : ae) {K Kp : AV -> ae -> Prop} (_ : Tg (K, Kp)) : Prop := match f with
    | .fn (.func n) first cap =>
      if q then ∃ r,(∀ τ,yX P n (first++args++cap) (σ++ τ) r)/\K r σ
      else dZ P n (first++args++cap) σ (OR K Kp)
    | .rM l=>if q then False else tH P l args σ (OR K Kp)
    | _=>False
@[go_sem ↓] def ah0 (q : Bool) (f : AX) (args : List AX) : bg.run P (.call q f args) e σ K Kp = Fo P q (f.ev e) (args.map (AX.ev e)) σ (.mk : Tg (K, Kp)) := by
  simp only[bg.run,Fo];rfl
def N2(P:Program)(n:FuncId)(args:List AV)(σ : ae){K Kp:AV->ae->Prop}(_:Tg (K,Kp)): Prop :=
 ∃ o,(∀ s,dZ P n args s fun o' s'=>o'=o/\s'=s)/\pcK (fun r=>K r σ) (fun v=> ∀ s,Kp v s) o
@[go_sem ↓] def ajL (n:FuncId) (args:List AX):bg.run P (.ex (.pc n) args) e σ K Kp=N2 P n (args.map (AX.ev e)) σ (.mk:Tg (K,Kp)):=_root_.id rfl
def Dx{n:Int}(h : -9223372036854775808<=n)(h':n<=9223372036854775807): dF .i64 n=n:=IntWalk.i64_in n ⟨h,h'⟩
@[go_sem] def ajM (a b:AV) (K:AV->Prop):UH (.bool true) a b (.mk:Tg K)=j8 a (.mk:Tg K):=_root_.id rfl
@[go_sem] def ajN (a b:AV) (K:AV->Prop):UH (.bool false) a b (.mk:Tg K)=j8 b (.mk:Tg K):=_root_.id rfl
@[go_sem] def ajd (v:AV) (K:AV->ae->Prop):xU v σ (.mk:Tg K)=req (v.cells.all AV.scalar=true) (.mk:Tg (K (.ref σ.length 0) (σ++[.cells v.cells]))):=eT _ _
variable (k:IntKind) (a b:Int) (s t:List UInt8) (p q:Bool) (K:AV->Prop)
@[go_sem] def ah1:iT .add (.int k a) (.int k b) (.mk:Tg K)=K (.int k (dF k (a+b))):=by simp[iT,kp]
@[go_sem] def ah2:iT .sub (.int k a) (.int k b) (.mk:Tg K)=K (.int k (dF k (a-b))):=by simp[iT,kp]
@[go_sem] def ah3:iT .mul (.int k a) (.int k b) (.mk:Tg K)=K (.int k (dF k (a*b))):=by simp[iT,kp]
@[go_sem] def ah4:iT .quo (.int k a) (.int k b) (.mk:Tg K)=req (b≠0) (.mk:Tg (K (.int k (dF k (a.tdiv b))))):=by rw[<-eT];simp[iT,kp]
@[go_sem] def ah5:iT .eql (.int k a) (.int k b) (.mk:Tg K)=K (.bool (a==b)):=by simp[iT,kp]
@[go_sem] def ah6:iT .neq (.int k a) (.int k b) (.mk:Tg K)=K (.bool (!(a==b))):=by simp[iT,kp]
@[go_sem] def ah7:iT .lss (.int k a) (.int k b) (.mk:Tg K)=K (.bool (decide (a<b))):=by simp[iT,kp]
@[go_sem] def ah8:iT .leq (.int k a) (.int k b) (.mk:Tg K)=K (.bool (decide (a<=b))):=by simp[iT,kp]
@[go_sem] def ah9:iT .gtr (.int k a) (.int k b) (.mk:Tg K)=K (.bool (decide (b<a))):=by simp[iT,kp]
@[go_sem] def ah_:iT .geq (.int k a) (.int k b) (.mk:Tg K)=K (.bool (decide (b<=a))):=by simp[iT,kp]
@[go_sem] def ag3:iT .add (.str s) (.str t) (.mk:Tg K)=req (((s.length+t.length:Nat):Int)<=IntKind.i64.max) (.mk:Tg (K (.str (s++t)))):=by rw[<-eT];simp[iT,kp]
@[go_sem] def ag4:iT .eql (.str s) (.str t) (.mk:Tg K)=K (.bool (s==t)):=by simp[iT,kp]
@[go_sem] def ag5:iT .neq (.str s) (.str t) (.mk:Tg K)=K (.bool (!(s==t))):=by simp[iT,kp]
@[go_sem] def aje:unT .not (.bool p) (.mk:Tg K)=K (.bool (!p)):=_root_.id rfl
@[go_sem] def ajO:Ka true (.str s) (.mk:Tg K)=K (.int .i64 s.length):=_root_.id rfl
@[go_sem] def ag6:Ka false .aA (.mk:Tg K)=K (.int .i64 0):=_root_.id rfl
@[go_sem] def aia (f:Bool) (el:El) (xs:List AV):Ka false (.aN f el xs) (.mk:Tg K)=K (.int .i64 xs.length):=_root_.id rfl
@[go_sem] def aib (el:El) (l m lo n:Nat):Ka false (.own el l m lo n) (.mk:Tg K)=K (.int .i64 n):=_root_.id rfl
@[go_sem] def aic (vs:List AV) (i:Nat):ZU (.bH vs) i (.mk:Tg K)=req (i<vs.length) (.mk:Tg (K (vs.getD i .undef))):=eT _ _
@[go_sem] def ag7 (op:Bool) (x:AV):BD op x [] (.mk:Tg K)=K x:=_root_.id rfl
@[go_sem] def ajf (ys:List AV):BD true (.int k a) (.int k b::ys) (.mk:Tg K)=BD true (.int k (if b<a then b else a)) ys (.mk:Tg K):=_root_.id rfl
@[go_sem] def ajg (ys:List AV):BD false (.int k a) (.int k b::ys) (.mk:Tg K)=BD false (.int k (if a<b then b else a)) ys (.mk:Tg K):=_root_.id rfl
@[go_sem ↓] def aid (K:List AV->Prop):lK e σ [] K=K []:=_root_.id rfl
@[go_sem ↓] def aie (t:Nat) (r:List pV) (K:List AV->Prop):lK e σ (.tmp t::r) K=lK e σ r fun vs=>K (e t::vs):=_root_.id rfl
end
end Go.AM
namespace Go.AM
variable {P:Program}
section
variable (e:Env) (σ : ae) (K Kp:AV->ae->Prop)
def BE(o:Option bj)(off:Nat)(ag:Bool)(n:Nat){K:AV->Prop}(_:Tg K): Prop:=match o with
 | some (.bM _ cs)=>off+n<=cs.length/\(ag=false->n=1)/\K (if ag then .agg ((cs.drop off).take n)else cs.getD off .undef)
 | _=>False
@[go_sem] def ag8 (ag:Bool) (n l off:Nat) (K:AV->Prop):loadT σ ag n (.ref l off) (.mk:Tg K)=BE (σ[l]?) off ag n (.mk:Tg K):=_root_.id rfl
@[go_sem] def ajh (cs : List AV) (off n : Nat) (K : AV -> Prop) : BE (some (.cells cs)) off false n (.mk : Tg K) = req (off + n <= cs.length /\ n = 1) (.mk : Tg (K (cs.getD off .undef))) := by
  rw[<-eT];simp[BE,and_assoc]
@[go_sem] def aji (cs : List AV) (off n : Nat) (K : AV -> Prop) : BE (some (.cells cs)) off true n (.mk : Tg K) = req (off + n <= cs.length) (.mk : Tg (K (.agg ((cs.drop off).take n)))) := by
  rw[<-eT];simp[BE]
@[go_sem] def aif (T : TypeId) (cs : List AV) (off n : Nat) (K : AV -> Prop) : BE (some (.bM (some T) cs)) off false n (.mk : Tg K) = req (off + n <= cs.length /\ n = 1) (.mk : Tg (K (cs.getD off .undef))) := by
  rw[<-eT];simp[BE,and_assoc]
def Dy(σ : ae)(l:Nat)(o:Option bj)(off n:Nat)(v:AV){K:ae->Prop}(_:Tg K): Prop:=v.cells.length=n/\v.cells.all AV.scalar=true/\match o with
 | some (.bM T cs)=>off+n<=cs.length/\K (σ.set l (.bM T (ff cs off v.cells)))
 | _=>False
@[go_sem] def agm (n l off:Nat) (v:AV) (K:ae->Prop):storeT σ n (.ref l off) v (.mk:Tg K)=Dy σ l (σ[l]?) off n v (.mk:Tg K):=_root_.id rfl
@[go_sem] def aih (l : Nat) (cs : List AV) (off n : Nat) (v : AV) (K : ae -> Prop) : Dy σ l (some (.cells cs)) off n v (.mk : Tg K) = req (v.cells.length = n /\ v.cells.all AV.scalar = true /\ off + n <= cs.length) (.mk : Tg (K (σ.set l (.cells (ff cs off v.cells))))) := by
  rw[<-eT];simp[Dy,and_assoc]
@[go_sem] def ag9 (l : Nat) (T : TypeId) (cs : List AV) (off n : Nat) (v : AV) (K : ae -> Prop) : Dy σ l (some (.bM (some T) cs)) off n v (.mk : Tg K) = req (v.cells.length = n /\ v.cells.all AV.scalar = true /\ off + n <= cs.length) (.mk : Tg (K (σ.set l (.bM (some T) (ff cs off v.cells))))) := by
  rw[<-eT];simp[Dy,and_assoc]
def eW(P:Program)(o:bg)(σ : ae){K Kp:AV->ae->Prop}(_:Tg (K,Kp)): Prop:=o.run P (fun _=> .undef) σ K Kp
@[go_sem ↓] def ag_ (off:Nat) (x:AX):bg.run P (.qU off x) e σ K Kp=eW P (.qU off (.c (x.ev e))) σ (.mk:Tg (K,Kp)):=_root_.id rfl
@[go_sem ↓] def aha (x:AX):bg.run P (.sj x) e σ K Kp=eW P (.sj (.c (x.ev e))) σ (.mk:Tg (K,Kp)):=_root_.id rfl
@[go_sem ↓] def ahb (ag:Bool) (off n:Nat) (x:AX):bg.run P (.field ag off n x) e σ K Kp=eW P (.field ag off n (.c (x.ev e))) σ (.mk:Tg (K,Kp)):=_root_.id rfl
@[go_sem ↓] def ahc (el:El) (arr:Option Nat) (x i:AX):bg.run P (.jT el arr x i) e σ K Kp=eW P (.jT el arr (.c (x.ev e)) (.c (i.ev e))) σ (.mk:Tg (K,Kp)):=_root_.id rfl
@[go_sem ↓] def aii (x i:AX):bg.run P (.nR x i) e σ K Kp=eW P (.nR (.c (x.ev e)) (.c (i.ev e))) σ (.mk:Tg (K,Kp)):=_root_.id rfl
@[go_sem ↓] def aij (el:El) (n:Nat) (x i:AX):bg.run P (.zB el n x i) e σ K Kp=eW P (.zB el n (.c (x.ev e)) (.c (i.ev e))) σ (.mk:Tg (K,Kp)):=_root_.id rfl
@[go_sem ↓] def aik (k:IntKind) (x:AX):bg.run P (.ko k x) e σ K Kp=eW P (.ko k (.c (x.ev e))) σ (.mk:Tg (K,Kp)):=_root_.id rfl
@[go_sem ↓] def ajj (x:AX):bg.run P (.C9 x) e σ K Kp=eW P (.C9 (.c (x.ev e))) σ (.mk:Tg (K,Kp)):=_root_.id rfl
@[go_sem ↓] def afQ (el:El) (z:AV) (x i:AX):bg.run P (.pK el z x i) e σ K Kp=eW P (.pK el z (.c (x.ev e)) (.c (i.ev e))) σ (.mk:Tg (K,Kp)):=_root_.id rfl
@[go_sem ↓] def ahd (x:AX):bg.run P (.panic x) e σ K Kp=eW P (.panic (.c (x.ev e))) σ (.mk:Tg (K,Kp)):=_root_.id rfl
@[go_sem] def ail (T:TypeId) (v:AV):eW P (.panic (.c (.lq T v))) σ (.mk:Tg (K,Kp))=Kp (.lq T v) σ:=_root_.id rfl
@[go_sem ↓] def ajk (T:Option TypeId) (el:El) (x i:AX):bg.run P (.app T el x i) e σ K Kp=eW P (.app T el (.c (x.ev e)) (.c (i.ev e))) σ (.mk:Tg (K,Kp)):=_root_.id rfl
@[go_sem ↓] def ajl (ng ag:Bool) (ks:List Kd) (x i:AX):bg.run P (.mN ng ag ks x i) e σ K Kp=eW P (.mN ng ag ks (.c (x.ev e)) (.c (i.ev e))) σ (.mk:Tg (K,Kp)):=_root_.id rfl
@[go_sem ↓] def ahe (ng:Bool) (k:NK) (x i:AX):bg.run P (.qV ng k x i) e σ K Kp=eW P (.qV ng k (.c (x.ev e)) (.c (i.ev e))) σ (.mk:Tg (K,Kp)):=_root_.id rfl
@[go_sem ↓] def ajm (el:El) (x:AX):bg.run P (.Cx el x) e σ K Kp=eW P (.Cx el (.c (x.ev e))) σ (.mk:Tg (K,Kp)):=_root_.id rfl
@[go_sem ↓] def aim (T:TypeId) (x i:AX):bg.run P (.xS T x i) e σ K Kp=eW P (.xS T (.c (x.ev e)) (.c (i.ev e))) σ (.mk:Tg (K,Kp)):=_root_.id rfl
@[go_sem ↓] def ajn (x:AX):bg.run P (.HX x) e σ K Kp=eW P (.HX (.c (x.ev e))) σ (.mk:Tg (K,Kp)):=_root_.id rfl
@[go_sem ↓] def ajo (u:TypeId) (x:AX):bg.run P (.HY u x) e σ K Kp=eW P (.HY u (.c (x.ev e))) σ (.mk:Tg (K,Kp)):=_root_.id rfl
@[go_sem ↓] def ajp (ng:Bool) (x i:AX):bg.run P (.FW ng x i) e σ K Kp=eW P (.FW ng (.c (x.ev e)) (.c (i.ev e))) σ (.mk:Tg (K,Kp)):=_root_.id rfl
def cO(e:Env): Option AX->Option AX
 | none=>none
 | some x=>some (.c (x.ev e))
@[go_sem] def ajq:cO e none=none:=_root_.id rfl
@[go_sem] def ajr (x:AX):cO e (some x)=some (.c (x.ev e)):=_root_.id rfl
@[go_sem ↓] def ajs (x : AX) (lo hi : Option AX) : bg.run P (.uK x lo hi) e σ K Kp = eW P (.uK (.c (x.ev e)) (cO e lo) (cO e hi)) σ (.mk : Tg (K, Kp)) := by
  cases lo<;>cases hi<;>rfl
@[go_sem ↓] def ajt (el : El) (x : AX) (lo hi : Option AX) : bg.run P (.uL el x lo hi) e σ K Kp = eW P (.uL el (.c (x.ev e)) (cO e lo) (cO e hi)) σ (.mk : Tg (K, Kp)) := by
  cases lo<;>cases hi<;>rfl
variable (k k':IntKind) (a b:Int) (s t:List UInt8) (el:El) (xs cs:List AV) (l m lo n off i:Nat) (f:Bool)
@[go_sem] def aer:eW P (.qU off (.c (.ref l i))) σ (.mk:Tg (K,Kp))=K (.ref l (i+off)) σ:=_root_.id rfl
@[go_sem] def adU (x:AV):eW P (.qU off (.c (.eK el x i))) σ (.mk:Tg (K,Kp))=K (.eK el x (i+off)) σ:=_root_.id rfl
@[go_sem] def aes:eW P (.sj (.c (.ref l i))) σ (.mk:Tg (K,Kp))=K (.ref l i) σ:=_root_.id rfl
@[go_sem] def agn : eW P (.field false off n (.c (.agg cs))) σ (.mk : Tg (K, Kp)) = req (off + n <= cs.length /\ n = 1) (.mk : Tg (K (cs.getD off .undef) σ)) := by
  rw[<-eT];simp[eW,bg.run,AX.ev,and_assoc]
@[go_sem] def aeu : eW P (.jT el none (.c (.aN f el xs)) (.c (.int k a))) σ (.mk : Tg (K, Kp)) = req (0 <= a /\ a < xs.length) (.mk : Tg (K (.eK el (xs.getD a.toNat .undef) 0) σ)) := by
  rw[<-eT];simp[eW,bg.run,AX.ev,and_assoc]
@[go_sem] def aju : eW P (.nR (.c (.str s)) (.c (.int k a))) σ (.mk : Tg (K, Kp)) = req (0 <= a /\ a < s.length) (.mk : Tg (K (.int .u8 (s.getD a.toNat 0).toNat) σ)) := by
  rw[<-eT];simp[eW,bg.run,AX.ev,and_assoc]
@[go_sem] def ajv:eW P (.ko k (.c (.int k' a))) σ (.mk:Tg (K,Kp))=K (.int k (dF k a)) σ:=_root_.id rfl
def toNat_le{a:Int}{n:Nat}(h:0<=a): (a<=((n:Nat):Int))=(a.toNat<=n):=by simp only[eq_iff_iff];omega
@[go_sem] def ahf : eW P (.uK (.c (.str s)) none (some (.c (.int k' b)))) σ (.mk : Tg (K, Kp)) = req (0 <= b /\ b <= s.length) (.mk : Tg (K (.str (s.take b.toNat)) σ)) := by
  rw[<-eT];simp only[eW,bg.run,AX.ev,bound,Option.map,and_assoc,gK,Nat.sub_zero]
@[go_sem] def ahg : eW P (.uK (.c (.str s)) (some (.c (.int k a))) none) σ (.mk : Tg (K, Kp)) = req (0 <= a /\ a <= s.length) (.mk : Tg (K (.str (s.drop a.toNat)) σ)) := by
  rw[<-eT];simp only[eW,bg.run,AX.ev,bound,Option.map,and_assoc];have:(s.drop a.toNat).take (s.length-a.toNat)=s.drop a.toNat:=b_ (by simp);rw[this]
def qf(P:Program)(n:FuncId)(args:List AV)(σ : ae){K Kp:AV->ae->Prop}(_:Tg (K,Kp)): Prop:=dZ P n args σ (OR K Kp)
def BG(P:Program)(n:FuncId)(args:List AV)(σ : ae){K Kp:AV->ae->Prop}(_:Tg (K,Kp)): Prop:= ∃ r,(∀ τ,yX P n args (σ++ τ) r)/\K r σ
@[go_sem] def ajw (n : FuncId) (first args cap : List AV) : Fo P false (.fn (.func n) first cap) args σ (.mk : Tg (K, Kp)) = qf P n (first ++ args ++ cap) σ (.mk : Tg (K, Kp)) := by
  simp[Fo,qf]
@[go_sem] def ajx (n : FuncId) (first args cap : List AV) : Fo P true (.fn (.func n) first cap) args σ (.mk : Tg (K, Kp)) = BG P n (first ++ args ++ cap) σ (.mk : Tg (K, Kp)) := by
  simp[Fo,BG]
def SP{n:FuncId}{args:List AV}{σ : ae}{K Kp:AV->ae->Prop}{r:AV}(h:∀ σ,yX P n args σ r)(hk:j8 r (.mk:Tg fun r=>K r σ)): qf P n args σ (.mk:Tg (K,Kp)) :=
 (h σ).mono fun o s ⟨h1,h2⟩=>by subst h1;subst h2;exact hk
def SQ{n:FuncId}{args:List AV}{σ : ae}{K Kp:AV->ae->Prop}{r:AV}(h:∀ σ,yX P n args σ r)(hk:j8 r (.mk:Tg fun r=>K r σ)): BG P n args σ (.mk:Tg (K,Kp)):=⟨r,fun τ=>h _,hk⟩
def cI{n:FuncId}{args:List AV}{σ : ae}{K Kp:AV->ae->Prop}{R:Out->ae->Prop}(h:dZ P n args σ R)(hk:∀ o s,R o s->OR K Kp o s): qf P n args σ (.mk:Tg (K,Kp)):=h.mono hk
def Dz: List AV->List (Nat × Nat × AV)->(List AV->Prop)->Prop
 | z,[],K=>K z
 | z,(off,n,v)::r,K=>v.cells.length=n/\v.cells.all AV.scalar=true/\off+n<=z.length/\Dz (ff z off v.cells) r K
def DA(z:List AV)(ps:List (Nat × Nat × AV)){K:List AV->Prop}(_:Tg K): Prop:=Dz z ps K
def LZ(e:Env)(K:List AV->Prop): ∀(ps:List (Nat × Nat × AX)) (z:List AV),mO z e ps K=Dz z (ps.map fun p=>(p.1,p.2.1,p.2.2.ev e)) K
 | [],z=>rfl
 |(off,n,x)::r,z=>by simp only[mO,Dz,bf,LZ e K r]
@[go_sem ↓] def run_build (z:List AV) (ps:List (Nat × Nat × AX)):bg.run P (.build z ps) e σ K Kp=DA z (ps.map fun p=>(p.1,p.2.1,p.2.2.ev e)) (.mk:Tg fun cs=>K (.agg cs) σ):=LZ e _ ps z
@[go_sem] def ago (z:List AV) (K:List AV->Prop):DA z [] (.mk:Tg K)=K z:=_root_.id rfl
@[go_sem] def afR (z : List AV) (off n : Nat) (v : AV) (r : List (Nat × Nat × AV)) (K : List AV -> Prop) : DA z ((off, n, v) :: r) (.mk : Tg K) = req (v.cells.length = n /\ v.cells.all AV.scalar = true /\ off + n <= z.length) (.mk : Tg (DA (ff z off v.cells) r (.mk : Tg K))) := by
  rw[<-eT];simp only[DA,Dz,and_assoc]
def Aj(el:El): List AV->List (Nat × AV)->(List AV->Prop)->Prop
 | z,[],K=>K z
 | z,(i,v)::r,K=>v.fits el=true/\i<z.length/\Aj el (z.set i v) r K
def Ak(el:El)(z:List AV)(ps:List (Nat × AV)){K:List AV->Prop}(_:Tg K): Prop:=Aj el z ps K
def Iz(el:El)(e:Env)(K:List AV->Prop): ∀(ps:List (Nat × AX)) (z:List AV),lT el z e ps K=Aj el z (ps.map fun p=>(p.1,p.2.ev e)) K
 | [],z=>rfl
 |(i,x)::r,z=>by simp only[lT,Aj,bf,Iz el e K r]
@[go_sem ↓] def aev (el:El) (z:AV) (n:Nat) (ps:List (Nat × AX)):bg.run P (.mc false el z n ps) e σ K Kp=Ak el (List.replicate n z) (ps.map fun p=>(p.1,p.2.ev e)) (.mk:Tg fun xs=>K (.aN true el xs) σ):=Iz el e _ ps _
@[go_sem] def afS (z:List AV) (K:List AV->Prop):Ak el z [] (.mk:Tg K)=K z:=_root_.id rfl
@[go_sem] def aew (z : List AV) (i : Nat) (v : AV) (r : List (Nat × AV)) (K : List AV -> Prop) : Ak el z ((i, v) :: r) (.mk : Tg K) = req (v.fits el = true /\ i < z.length) (.mk : Tg (Ak el (z.set i v) r (.mk : Tg K))) := by
  rw[<-eT];simp only[Ak,Aj,and_assoc]
def xj(c:Bool)(el:El)(x:AV)(off:Nat)(ag:Bool)(n:Nat){K:AV->Prop}(_:Tg K): Prop:=c=(off==0 && n==el.sz && ag==el.ag)/\partOf el x off ag n K
@[go_sem] def agp (ag : Bool) (n : Nat) (el : El) (x : AV) (off : Nat) (K : AV -> Prop) : loadT σ ag n (.eK el x off) (.mk : Tg K) = xj (off == 0 && n == el.sz && ag == el.ag) el x off ag n (.mk : Tg K) := by
  simp only[xj,true_and];rfl
@[go_sem] def ajy (ag : Bool) (n : Nat) (x : AV) (K : AV -> Prop) : xj true ⟨ag, n⟩ x 0 ag n (.mk : Tg K) = K x := by
  simp[xj,partOf]
@[go_sem] def acL (el : El) (off n : Nat) (cs : List AV) (K : AV -> Prop) (h : (off == 0 && n == el.sz && false == el.ag) = false) : xj false el (.agg cs) off false n (.mk : Tg K) = req (off + n <= el.sz /\ n = 1) (.mk : Tg (K (cs.getD off .undef))) := by
  have hn:¬ (off=0/\n=el.sz/\false=el.ag):=by rintro⟨h1,h2,h3⟩;subst h1;subst h2;rw[<-h3]at h;simp at h
  rw[<-eT];simp only[xj,partOf,if_neg hn,h,true_and];simp only[aG,if_false,forall_const,eq_iff_iff];exact⟨fun⟨h1,h2,h3⟩=>⟨⟨h1,h3⟩,h2⟩,fun⟨⟨h1,h3⟩,h2⟩=>⟨h1,h2,h3⟩⟩
def DB(σ : ae)(T:Option TypeId)(el:El)(o:Option bj)(l m lo n:Nat)(ys:List AV){K:AV->ae->Prop}(_:Tg K): Prop:=match o with
 | some (.cj T' aY xs) => (T' = none \/ T' = T) /\ aY = el /\ m = xs.length /\ lo = 0 /\ n = xs.length /\ gN (xs.length + ys.length) el /\
    K (.own el l (xs.length+ys.length) 0 (xs.length+ys.length)) (σ.set l (.cj T' el (xs++ys)))
 | _=>False
@[go_sem] def agq (T : Option TypeId) (ys : List AV) : eW P (.app T el (.c (.own el l m lo n)) (.c (.aN f el ys))) σ (.mk : Tg (K, Kp)) = req (ys.all (fun a => a.fits el) = true) (.mk : Tg (DB σ T el (σ[l]?) l m lo n ys (.mk : Tg K))) := by
  rw[<-eT];simp only[eW,bg.run,AX.ev,pU,gj,DB,true_and];rfl
@[go_sem] def ajz (T : Option TypeId) (xs ys : List AV) : DB σ T el (some (.vec el xs)) l m lo n ys (.mk : Tg K) = req (m = xs.length /\ lo = 0 /\ n = xs.length /\ gN (xs.length + ys.length) el) (.mk : Tg (K (.own el l (xs.length + ys.length) 0 (xs.length + ys.length)) (σ.set l (.vec el (xs ++ ys))))) := by
  rw[<-eT];simp only[DB,true_and,true_or,and_assoc]
@[go_sem] def ain (t : TypeId) (xs ys : List AV) : DB σ (some t) el (some (.cj (some t) el xs)) l m lo n ys (.mk : Tg K) = req (m = xs.length /\ lo = 0 /\ n = xs.length /\ gN (xs.length + ys.length) el) (.mk : Tg (K (.own el l (xs.length + ys.length) 0 (xs.length + ys.length)) (σ.set l (.cj (some t) el (xs ++ ys))))) := by
  rw[<-eT];simp only[DB,true_and,or_true,and_assoc]
def ZV(σ : ae)(x:AV){K:AV->ae->Prop}(_:Tg K): Prop:=xW σ x K
def UI(σ : ae)(el:El)(o:Option bj)(l m lo n:Nat){K:AV->ae->Prop}(_:Tg K): Prop:=match o with
 | some (.cj _ aZ xs)=>aZ=el/\m=xs.length/\lo+n<=m/\K (.aN false el ((xs.drop lo).take n)) (σ.set l .dead)
 | _=>False
@[go_sem ↓] def ajA (x:AX) (e:Env):bg.run P (.ex .Wx [x]) e σ K Kp=ZV σ (x.ev e) (.mk:Tg K):=_root_.id rfl
@[go_sem] def aio : ZV σ (.own el l m lo n) (.mk : Tg K) = UI σ el (σ[l]?) l m lo n (.mk : Tg K) := by
  simp only[ZV,xW,UI];rfl
@[go_sem] def ajB (T : Option TypeId) (xs : List AV) : UI σ el (some (.cj T el xs)) l m 0 n (.mk : Tg K) = req (m = xs.length /\ n <= m) (.mk : Tg (K (.aN false el (xs.take n)) (σ.set l .dead))) := by
  rw[<-eT];simp only[UI,true_and,gK,bF,and_assoc]
@[go_sem] def aex {α : Type} (f : α->AV) (L:List α):(L.map f).take L.length=L.map f:=by rw[<-List.length_map (f:=f),List.take_length]
@[go_sem] def afT (y : AV) (ys : List AV) : eW P (.app none el (.c .aA) (.c (.aN f el (y :: ys)))) σ (.mk : Tg (K, Kp)) = req ((y :: ys).all (fun a => a.fits el) = true /\ gN (y :: ys).length el) (.mk : Tg (K (.own el σ.length (y :: ys).length 0 (y :: ys).length) (σ ++ [.vec el (y :: ys)]))) := by
  rw[<-eT];simp only[eW,bg.run,AX.ev,pU,gj,true_and,List.length_cons,Nat.add_eq_zero_iff,Nat.one_ne_zero,and_false,if_false,and_assoc]
@[go_sem] def aey (t : TypeId) (y : AV) (ys : List AV) : eW P (.app (some t) el (.c .aA) (.c (.aN f el (y :: ys)))) σ (.mk : Tg (K, Kp)) = req ((y :: ys).all (fun a => a.fits el) = true /\ gN (y :: ys).length el) (.mk : Tg (K (.own el σ.length (y :: ys).length 0 (y :: ys).length) (σ ++ [.cj (some t) el (y :: ys)]))) := by
  rw[<-eT];simp only[eW,bg.run,AX.ev,pU,gj,true_and,List.length_cons,Nat.add_eq_zero_iff,Nat.one_ne_zero,and_false,if_false,and_assoc]
def UJ{T:Option TypeId}{xs:List AV}(h : σ[l]? = some (.cj T el xs))(hm:m=xs.length)(hn:0<n)(hk:K (.fm el l m lo 0) σ): eW P (.Cx el (.c (.own el l m lo n))) σ (.mk:Tg (K,Kp)):=by
 simp only[eW,bg.run,AX.ev,h];exact⟨trivial,trivial,hm,hn,hk⟩
def Rn(T:TypeId): eW P (.xS T (.c .jA) (.c (.int .i64 0))) σ (.mk:Tg (K,Kp))=K (.str []) σ:=by
 simp[eW,bg.run,AX.ev]
def Ro {T : TypeId} {xs : List AV} (s : List UInt8) (h : σ[l]? = some (.cj (some T) ⟨false, 1⟩ xs)) (hm : m = xs.length) (hx : xs = s.map fun b => .int .u8 b.toNat) (h0 : s ≠ []) (h2 : s.length <= 2 ^ 62) (ha : a = (s.length : Int)) (hk : K (.str s) (σ.set l .dead)) :
    eW P (.xS T (.c (.fm ⟨false,1⟩ l m 0 0)) (.c (.int .i64 a))) σ (.mk:Tg (K,Kp)):=by
 subst hx;subst ha;have h1:0<s.length:=ik.2 h0;simp only[eW,bg.run,AX.ev,h];refine⟨trivial,trivial,trivial,trivial,hm,by omega,by simp,by simpa using h2,s,?_,hk⟩;rw[b_ (by simp)]
def aez{T:Option TypeId}(h : σ[l]? = some (.bM T cs))(hlt:off<cs.length)(hk:K (.ref l off) σ): eW P (.HX (.c (.ref l off))) σ (.mk:Tg (K,Kp)):=by
 simp only[eW,bg.run,AX.ev,h];exact⟨hlt,hk⟩
def aeA{T u:TypeId}(h : σ[l]? = some (.bM (some T) cs))(hlt:liesAt P P.depth T (cs.length / P.cellsOf T) off u 1=true)(hk:K (.ref l off) σ): eW P (.HY u (.c (.ref l off))) σ (.mk:Tg (K,Kp)):=by
 simp only[eW,bg.run,AX.ev,h];exact⟨hlt,hk⟩
def aeB{T:Option TypeId}(ng:Bool)(h : σ[l]? = some (.bM T cs))(hk:K (.bool ng.not) σ): eW P (.FW ng (.c (.ref l off)) (.c (.ref l off))) σ (.mk:Tg (K,Kp)):=by
 simp only[eW,bg.run,AX.ev,h];exact⟨trivial,trivial,hk⟩
def Xn (P : Program) (g : FuncId) (v : AV) (σ : ae) {K : AV → ae → Prop} (_ : Tg K) : Prop := (∃ fn, P.funcs[g]? = some fn ∧ (fn.name == "runtime.NumGoroutine") = false ∧ fn.body.isNone = true ∧ Extern.findNext fn = none ∧ Extern.find fn = some Extern.AbiNoEscape.same) ∧ K v σ
@[go_sem ↓] def ahh (g:FuncId) (x:AX):bg.run P (.Fb g x) e σ K Kp=Xn P g (x.ev e) σ (.mk:Tg K):=_root_.id rfl
def ZW(ng:Bool)(k:NK)(x y:AV): eW P (.qV ng k (.c x) (.c y)) σ (.mk:Tg (K,Kp))=(match qa k x y with|some b=>K (.bool (if ng then !b else b)) σ | none=>False):=rfl
def ZX(ng:Bool)(ks:List Kd)(xs ys:List AV): eW P (.mN ng true ks (.c (.agg xs)) (.c (.agg ys))) σ (.mk:Tg (K,Kp))=(match iB ks xs ys with|some b=>K (.bool (if ng then !b else b)) σ | none=>False):=rfl
def ZY(ng:Bool)(ks:List Kd)(x y:AV): eW P (.mN ng false ks (.c x) (.c y)) σ (.mk:Tg (K,Kp))=(match iB ks [x] [y]with|some b=>K (.bool (if ng then !b else b)) σ | none=>False):=rfl
@[go_sem] def agr (z : AV) : eW P (.pK el z (.c (.int .i64 a)) (.c (.int .i64 b))) σ (.mk : Tg (K, Kp)) = req (z.fits el = true /\ 0 <= a /\ a <= b /\ b * (el.sz + 1) <= 2 ^ 40) (.mk : Tg (K (.own el σ.length a.toNat 0 a.toNat) (σ ++ [.vec el (List.replicate a.toNat z)]))) := by
  rw[<-eT];simp only[eW,bg.run,AX.ev,and_assoc]
@[go_sem] def adV (xs : List AV) : eW P (.uL el (.c (.aN f el xs)) (some (.c (.int k a))) (some (.c (.int k' b)))) σ (.mk : Tg (K, Kp)) = req ((0 <= b /\ b <= xs.length) /\ 0 <= a /\ a <= b) (.mk : Tg (K (.aN false el ((xs.drop a.toNat).take (b.toNat - a.toNat))) σ)) := by
  rw[<-eT];simp only[eW,bg.run,AX.ev,bound,Option.map,and_assoc,true_and,eq_iff_iff];constructor
  ·rintro⟨h1,h2,h3,h4,h5⟩;exact⟨h1,h2,h3,by omega,h5⟩
  ·rintro⟨h1,h2,h3,h4,h5⟩;exact⟨h1,h2,h3,by omega,h5⟩
@[go_sem] def adW (xs : List AV) : eW P (.uL el (.c (.aN f el xs)) none (some (.c (.int k' b)))) σ (.mk : Tg (K, Kp)) = req (0 <= b /\ b <= xs.length) (.mk : Tg (K (.aN false el (xs.take b.toNat)) σ)) := by
  rw[<-eT];simp only[eW,bg.run,AX.ev,bound,Option.map,and_assoc,true_and,gK,Nat.sub_zero]
end
end Go.AM
namespace Go.AM
variable {P:Program}
def L0(ms:List Nat)(r e:Env): Env:=fun t=>if ms.contains t then r t else e t
def puts: List (Nat × AV)->Env->Env
 | [],e=>e
 |(d,v)::l,e=>upd (puts l e) (some d) v
@[go_sem ↓] def ZZ (e:Env):puts [] e=e:=_root_.id rfl
@[go_sem ↓] def Xo (d:Nat) (v:AV) (l:List (Nat × AV)) (e:Env):puts ((d,v)::l) e=upd (puts l e) (some d) v:=_root_.id rfl
@[go_sem ↓] def ajC (ms:List Nat) (r e:Env) (t:Nat):L0 ms r e t=Iy (ms.contains t) (.mk:Tg (r t,e t)):=_root_.id rfl
def DC(ms:List Nat)(e e':Env): Prop:= ∀ t,ms.contains t=false->e' t=e t
def acM(ms:List Nat)(r e:Env): DC ms e (L0 ms r e):=fun t h=>by simp only[L0,h];rfl
def acN{ms:List Nat}{e e':Env}{d:Nat}{v:AV}(hd:ms.contains d=true)(h:DC ms e e'): DC ms e (upd e' (some d) v):=fun t ht=>by
 simp only[upd];split
 ·rename_i e1;subst e1;rw[hd]at ht;cases ht
 ·exact h t ht
def At(l:List (Nat × AV))(e:Env): Prop:= ∀ p ∈ l,e p.1=p.2
@[go_sem] def qA (e:Env):At [] e=True:=by simp[At]
@[go_sem] def og (d:Nat) (v:AV) (l:List (Nat × AV)) (e:Env):At ((d,v)::l) e=(e d=v/\At l e):=by simp[At]
def SR{ms:List Nat}{e e':Env}(ho:DC ms e e'): ∀(l:List (Nat × AV)),At l e'->puts l (L0 ms e' e)=e'
 | [], _ => by
   funext t
   simp only[puts,L0];split
   ·rfl
   ·rename_i h;exact(ho t (by simpa using h)).symm
 | (d, v) :: l, h => by
   simp only[puts];rw[SR ho l (fun p hp=>h p (bJ _ hp))];exact upd_same (h (d,v) (by simp))
def pN{Q Q':AQ}(h:∀ ex e σ,Q ex e σ->Q' ex e σ): ∀(l:List cH) (e:Env) (σ : ae),eU P Q l e σ->eU P Q' l e σ
 | [],e,σ,hh=>h _ _ _ hh
 |⟨o,d,none⟩::r,e,σ,hh=>sE (fun v s=>pN h r _ _) (fun v s=>h _ _ _) hh
 | ⟨o, d, some (k, b)⟩ :: r, e, σ, hh => by
   simp only[eU]at hh ⊢;split at hh
   ·exact⟨fun ht=>sE (fun v s=>pN h r _ _) (fun v s=>h _ _ _) (hh.1 ht),fun ht=>pN h r _ _ (hh.2 ht)⟩
   ·exact pN h r _ _ hh
   ·exact hh
def IA{K K':Env->ae->Prop}{Q Q':AQ}(hk:∀ e σ,K e σ->K' e σ)(h:∀ ex e σ,Q ex e σ->Q' ex e σ): ∀ ex e σ,mo K Q ex e σ->mo K' Q' ex e σ
 | .normal,_,_=>hk _ _
 | .exit _,_,_=>h _ _ _
 | .goto _,_,_=>h _ _ _
 | .ret,_,_=>h _ _ _
 | .panic _,_,_=>h _ _ _
def Xp{nt:Nat}{ps:List Nat}{ca cb:Code}{f:AV}{a b:AQ->Env->ae->Prop}{Q Q':AQ}(h:∀ ex e σ,Q ex e σ->Q' ex e σ)(e:Env)(σ : ae): OB P nt ps ca cb f a b Q e σ->OB P nt ps ca cb f a b Q' e σ:=by
 unfold OB;split
 ·refine fun hh o ho hy=>(hh o ho hy).mono fun out s hq=>?_;cases out with
  | ret r =>
    obtain⟨st,pe,h1,h2,h3⟩:=hq;refine⟨st,pe,h1,h2,?_⟩;split at h3<;>first|exact h _ _ _ h3|exact h3
  | panic v=>exact h _ _ _ hq
 ·exact id
def UK{jX:List (AX × AX)}{Q Q':AQ}(h:∀ ex e σ,Q ex e σ->Q' ex e σ): ∀ ex e σ,j6 jX Q ex e σ->j6 jX Q' ex e σ:=fun ex e σ hq=>by
 cases ex with
 | normal=>exact⟨hq.1,h _ _ _ hq.2⟩
 | panic v =>
   simp only[j6]at hq ⊢;split at hq
   ·rename_i hf;rw[if_pos hf];exact fun e'=>h _ _ _ (hq e')
   ·rename_i hf;rw[if_neg hf];exact h _ _ _ hq
 | _=>exact h _ _ _ hq
def BH{c:cY}: ∀ {Q Q':AQ},(∀ ex e σ,Q ex e σ->Q' ex e σ)-> ∀(e:Env) (σ : ae),iJ P c Q e σ->iJ P c Q' e σ:=by
 induction c with
 | skip=>exact fun h e σ=>h _ _ _
 | region ops=>exact fun h e σ=>pN h ops e σ
 | draw ops jX=>exact fun h e σ=>pN (UK h) ops e σ
 | seq a b Ir Iu=>exact fun h e σ=>Ir (IA (fun e σ=>Iu h e σ) h) e σ
 | cond c a b Ir Iu =>
   intro Q Q' h e σ hh;simp only[iJ]at hh ⊢;split at hh
   ·exact⟨fun ht=>Ir h _ _ (hh.1 ht),fun ht=>Iu h _ _ (hh.2 ht)⟩
   ·exact hh
 | block id c ih =>
   intro Q Q' h e σ;refine ih (fun ex e σ hq=>?_) e σ;cases ex<;>try exact h _ _ _ hq
   simp only[tP]at hq ⊢;split at hq
   ·rename_i e1;rw[if_pos e1];exact h _ _ _ hq
   ·rename_i e1;rw[if_neg e1];exact h _ _ _ hq
 | loop c ih =>
   rintro Q Q' h e σ ⟨I,hI,hr⟩;exact⟨I,hI,fun n e σ hi=>ih (IA (fun _ _ h=>h) h) _ _ (hr n e σ hi)⟩
 | exit id=>exact fun h e σ=>h _ _ _
 | ret=>exact fun h e σ=>h _ _ _
 | scope l c r L1 ihr =>
   rintro Q Q' h e σ ⟨J,h1,h2⟩
   have hj:∀ (J:Env->ae->Prop) ex e σ,tQ l J Q ex e σ->tQ l J Q' ex e σ:=fun J ex e σ hq=>by
    cases ex<;>first|exact h _ _ _ hq|exact hq
   exact⟨J,L1 (hj _) _ _ h1,fun n e σ hi=>ihr (hj _) _ _ (h2 n e σ hi)⟩
 | stop=>exact fun h e σ hh=>hh
 | p8 f nt ps ca cb a b _ _=>exact fun h e σ=>Xp h e σ
 | label l=>exact fun h e σ=>h _ _ _
 | goto l=>exact fun h e σ=>h _ _ _
def aeC{α : Type}(ms:List Nat)(cs : α->List (Nat × AV))(S : α->ae)(A : α->Prop)(μ : α->Nat)(e:Env)(x : α)(e':Env)(σ':ae): Prop :=
 ∃ x',A x'/\ μ x' < μ x/\σ'=S x'/\DC ms e e'/\At (cs x') e'
def bE {c : cY} {Q : AQ} {e : Env} {σ : ae} {α : Type} (ms : List Nat) (cs : α -> List (Nat × AV)) (S : α -> ae) (A : α -> Prop) (μ : α -> Nat) (x0 : α) (h0 : A x0) (gO : σ = S x0) (bR : At (cs x0) e)
    (hr:∀ x r,A x->iJ P c (mo (aeC ms cs S A μ e x) Q) (puts (cs x) (L0 ms r e)) (S x)):ab5 P (.mk:Tg (c,Q,e,σ)):=by
 refine⟨fun n e' σ'=> ∃ x,A x/\DC ms e e'/\At (cs x) e'/\σ'=S x/\ μ x=n,⟨_,x0,h0,fun _ _=>rfl,bR,gO,rfl⟩,?_⟩;rintro n e' σ' ⟨x1,a1,o1,t1,rfl,rfl⟩;have h:=hr x1 e' a1;rw[SR o1 _ t1]at h;refine BH (fun ex e2 σ2 hq=>?_) _ _ h;cases ex<;>try exact hq
 obtain⟨x',a',hm,hs,ho,ht⟩:=hq;exact⟨_,hm,x',a',ho,ht,hs,rfl⟩
