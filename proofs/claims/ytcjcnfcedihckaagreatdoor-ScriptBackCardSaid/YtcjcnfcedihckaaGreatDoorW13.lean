/- Part. -/
import Derived.Test.YtcjcnfcedihckaaGreatDoorW12
import Derived.IntWalk
set_option linter.all false
namespace Go.AM
variable {P:Program}
universe u
inductive Tg {α : Sort u} (K : α):Type where
 | mk
def kD(v:AV){K:AV->Prop}(_:Tg K): Prop:=K v
def zG(σ : ae){K:ae->Prop}(_:Tg K): Prop:=K σ
@[go_sem] def aem (v:AV) (K:AV->Prop):kD v (.mk:Tg K)=K v:=_root_.id rfl
@[go_sem] def aen (v:ae) (K:ae->Prop):zG v (.mk:Tg K)=K v:=_root_.id rfl
def req(p:Prop){K:Prop}(_:Tg K): Prop:=p/\(p->K)
@[go_sem] def aeo (K:Prop):req True (.mk:Tg K)=K:=by simp[req]
def dU(p K:Prop): (p/\K)=req p (.mk:Tg K):=by simp only[req];exact propext ⟨fun h=>⟨h.1,fun _=>h.2⟩,fun h=>⟨h.1,h.2 h.1⟩⟩
@[go_sem ↓] def agx (e:Env) (n:Nat):AX.ev e (.t n)=e n:=_root_.id rfl
@[go_sem ↓] def agy (e:Env) (a:AV):AX.ev e (.c a)=a:=_root_.id rfl
def Ga(c:Bool){a b:AV}(_:Tg (a,b)): AV:=if c then a else b
@[go_sem] def afs (a b:AV):Ga true (.mk:Tg (a,b))=a:=_root_.id rfl
@[go_sem] def afu (a b:AV):Ga false (.mk:Tg (a,b))=b:=_root_.id rfl
@[go_sem ↓] def afv (e : Env) (d : Nat) (v : AV) (n : Nat) : eX e (some d) v n = Ga (n == d) (.mk : Tg (v, e n)) := by
  simp only[eX,Ga,beq_iff_eq]
@[go_sem ↓] def aep (e:Env) (v:AV):eX e none v=e:=_root_.id rfl
@[go_sem] def acP (a:AV) (az:List AV):sy (a::az) 0=a:=_root_.id rfl
@[go_sem] def acQ (a:AV) (az:List AV) (n:Nat):sy (a::az) (n+1)=sy az n:=_root_.id rfl
def zH(v:AV){T E:Prop}(_:Tg (T,E)): Prop :=
 match v with
 | .bool t=>(t=true->T)/\(t=false->E)
 | _=>False
@[go_sem] def acR (T E:Prop):zH (.bool true) (.mk:Tg (T,E))=T:=by simp[zH]
@[go_sem] def acm (T E:Prop):zH (.bool false) (.mk:Tg (T,E))=E:=by simp[zH]
def Zf{t:Bool}{T E:Prop}(h:t=true->T)(h':t=false->E): zH (.bool t) (.mk:Tg (T,E)):=⟨h,h'⟩
@[go_sem ↓] def aeq (Q:AQ) (e:Env) (σ : ae):i_ P .skip Q e σ = Q .normal e σ:=_root_.id rfl
@[go_sem ↓] def acS (ops:List cK) (Q:AQ) (e:Env) (σ : ae):i_ P (.region ops) Q e σ = eT P Q ops e σ:=_root_.id rfl
@[go_sem ↓] def aer (ops:List cK) (jn:List (AX × AX)) (Q:AQ) (e:Env) (σ : ae):i_ P (.draw ops jn) Q e σ = eT P (jM jn Q) ops e σ:=_root_.id rfl
@[go_sem ↓] def afw (a b:de) (Q:AQ) (e:Env) (σ : ae):i_ P (.seq a b) Q e σ = i_ P a (sn (i_ P b Q) Q) e σ:=_root_.id rfl
@[go_sem ↓] def aes (c:AX) (a b:de) (Q:AQ) (e:Env) (σ : ae):i_ P (.cond c a b) Q e σ = zH (c.ev e) (.mk:Tg (i_ P a Q e σ,i_ P b Q e σ)):=_root_.id rfl
@[go_sem ↓] def adu (id:Nat) (c:de) (Q:AQ) (e:Env) (σ : ae):i_ P (.block id c) Q e σ = i_ P c (sr id Q) e σ:=_root_.id rfl
@[go_sem ↓] def aeu (id:Nat) (Q:AQ) (e:Env) (σ : ae):i_ P (.exit id) Q e σ = Q (.exit id) e σ:=_root_.id rfl
@[go_sem ↓] def afx (Q:AQ) (e:Env) (σ : ae):i_ P .ret Q e σ = Q .ret e σ:=_root_.id rfl
@[go_sem ↓] def adw (l:Nat) (Q:AQ) (e:Env) (σ : ae):i_ P (.label l) Q e σ = Q .normal e σ:=_root_.id rfl
@[go_sem ↓] def aev (l:Nat) (Q:AQ) (e:Env) (σ : ae):i_ P (.goto l) Q e σ = Q (.goto l) e σ:=_root_.id rfl
def Yz{c:de}{Q:AQ}{e:Env}{σ : ae}(P:Program)(_:Tg (c,Q,e,σ)): Prop:=Yr (i_ P c) Q e σ
@[go_sem ↓] def aew (c:de) (Q:AQ) (e:Env) (σ : ae):i_ P (.loop c) Q e σ = Yz P (.mk:Tg (c,Q,e,σ)):=_root_.id rfl
def L9{l:Nat}{c r:de}{Q:AQ}{e:Env}{σ : ae}(P:Program)(_:Tg (l,c,r,Q,e,σ)): Prop:=TI l (i_ P c) (i_ P r) Q e σ
@[go_sem ↓] def adx (l:Nat) (c r:de) (Q:AQ) (e:Env) (σ : ae):i_ P (.scope l c r) Q e σ = L9 P (.mk:Tg (l,c,r,Q,e,σ)):=_root_.id rfl
@[go_sem ↓] def aaP (K:Env->ae->Prop) (Q:AQ) (e:Env) (σ : ae):sn K Q .normal e σ = K e σ:=_root_.id rfl
@[go_sem ↓] def acT (K:Env->ae->Prop) (Q:AQ) (i:Nat) (e:Env) (σ : ae):sn K Q (.exit i) e σ = Q (.exit i) e σ:=_root_.id rfl
@[go_sem ↓] def ady (K:Env->ae->Prop) (Q:AQ) (e:Env) (σ : ae):sn K Q .ret e σ = Q .ret e σ:=_root_.id rfl
@[go_sem ↓] def acU (K:Env->ae->Prop) (Q:AQ) (l:Nat) (e:Env) (σ : ae):sn K Q (.goto l) e σ = Q (.goto l) e σ:=_root_.id rfl
@[go_sem ↓] def acn (K:Env->ae->Prop) (Q:AQ) (v:AV) (e:Env) (σ : ae):sn K Q (.panic v) e σ = Q (.panic v) e σ:=_root_.id rfl
@[go_sem ↓] def aal (id:Nat) (Q:AQ) (e:Env) (σ : ae):sr id Q .normal e σ = Q .normal e σ:=_root_.id rfl
@[go_sem ↓] def acV (id:Nat) (Q:AQ) (e:Env) (σ : ae):sr id Q .ret e σ = Q .ret e σ:=_root_.id rfl
@[go_sem ↓] def aaQ (id:Nat) (Q:AQ) (v:AV) (e:Env) (σ : ae):sr id Q (.panic v) e σ = Q (.panic v) e σ:=_root_.id rfl
def Di(c:Bool){T E:Prop}(_:Tg (T,E)): Prop:=if c then T else E
@[go_sem] def afy (T E:Prop):Di true (.mk:Tg (T,E))=T:=by simp[Di]
@[go_sem] def afz (T E:Prop):Di false (.mk:Tg (T,E))=E:=by simp[Di]
@[go_sem ↓] def aco (id i : Nat) (Q : AQ) (e : Env) (σ : ae) : sr id Q (.exit i) e σ = Di (i == id) (.mk : Tg (Q .normal e σ, Q (.exit i) e σ)) := by
  simp only[sr,Di,beq_iff_eq]
@[go_sem ↓] def aaR (jn:List (AX × AX)) (Q:AQ) (e:Env) (σ : ae):jM jn Q .normal e σ = req (oY jn e) (.mk:Tg (Q .normal e σ)):=dU _ _
@[go_sem ↓] def acp (Q:AQ) (v:AV) (e:Env) (σ : ae):jM [] Q (.panic v) e σ = Q (.panic v) e σ:=_root_.id rfl
@[go_sem ↓] def acW (Q:AQ) (e:Env) (σ : ae):eT P Q [] e σ = Q .normal e σ:=_root_.id rfl
@[go_sem ↓] def acq (Q:AQ) (o:bp) (d:Option Nat) (r:List cK) (e:Env) (σ : ae) :
 eT P Q (⟨o,d,none⟩::r) e σ = o.run P e σ (fun v σ'=>kD v (.mk:Tg fun v=>zG σ' (.mk:Tg fun σ'=>eT P Q r (eX e d v) σ'))) (fun v σ'=>Q (.panic v) e σ'):=rfl
def mG(v:AV)(b:Bool){T E U:Prop}(_:Tg (T,E,U)): Prop :=
 match v with
 | .bool t=>(t=b->T)/\(t = !b->E)
 | .bO []=>U
 | _=>False
@[go_sem] def adz (T E U:Prop):mG (.bool true) true (.mk:Tg (T,E,U))=T:=by simp[mG]
@[go_sem] def adA (T E U:Prop):mG (.bool false) false (.mk:Tg (T,E,U))=T:=by simp[mG]
@[go_sem] def adB (T E U:Prop):mG (.bool true) false (.mk:Tg (T,E,U))=E:=by simp[mG]
@[go_sem] def adC (T E U:Prop):mG (.bool false) true (.mk:Tg (T,E,U))=E:=by simp[mG]
@[go_sem] def aex (b:Bool) (T E U:Prop):mG (.bO []) b (.mk:Tg (T,E,U))=U:=by simp[mG]
def WH{t b:Bool}{T E U:Prop}(h:t=b->T)(h':t = !b->E): mG (.bool t) b (.mk:Tg (T,E,U)):=⟨h,h'⟩
@[go_sem ↓] def aaS (Q:AQ) (o:bp) (d:Option Nat) (k:Nat) (b:Bool) (r:List cK) (e:Env) (σ : ae) :
 eT P Q (⟨o,d,some (k,b)⟩::r) e σ = mG (e k) b (.mk:Tg (o.run P (eX e (some k) (.bool b)) σ (fun v σ'=>kD v (.mk:Tg fun v=>zG σ' (.mk:Tg fun σ'=>eT P Q r (eX (eX e (some k) (.bool b)) d v) σ'))) (fun v σ'=>Q (.panic v) (eX e (some k) (.bool b)) σ'),
  eT P Q r (eX (eX e (some k) (.bool (!b))) d (.bO [])) σ,eT P Q r (eX e d (.bO [])) σ)):=by
  simp only[eT,mG,kD,zG];cases e k<;>rfl
section
variable (e:Env) (σ : ae) (K Kp:AV->ae->Prop)
@[go_sem ↓] def af8 (x:AX):bp.run P (.mv x) e σ K Kp=K (x.ev e) σ:=_root_.id rfl
@[go_sem ↓] def adD (cs:List AV):bp.run P (.alloc none cs) e σ K Kp=K (.ref σ.length 0) (σ++[.cells cs]):=_root_.id rfl
@[go_sem ↓] def acX (T:TypeId) (cs:List AV):bp.run P (.alloc (some T) cs) e σ K Kp=K (.ref σ.length 0) (σ++[.bW (some T) cs]):=_root_.id rfl
@[go_sem ↓] def adE (el:El):bp.run P (.lB el) e σ K Kp=K (.own el σ.length 0 0 0) (σ++[.vec el []]):=_root_.id rfl
def YA(T:TypeId)(v:AV)(σ : ae){K:AV->ae->Prop}(_:Tg K): Prop:=v.cells.all AV.scalar=true/\K (.ref σ.length 0) (σ++[.bW (some T) v.cells])
@[go_sem ↓] def aey (T:TypeId) (x:AX):bp.run P (.wq T x) e σ K Kp=YA T (x.ev e) σ (.mk:Tg K):=_root_.id rfl
@[go_sem] def aez (T:TypeId) (v:AV) (K:AV->ae->Prop):YA T v σ (.mk:Tg K)=req (v.cells.all AV.scalar=true) (.mk:Tg (K (.ref σ.length 0) (σ++[.bW (some T) v.cells]))):=dU _ _
@[go_sem ↓] def aeA (f:Fn) (a b:List AX):bp.run P (.wm f a b) e σ K Kp=K (.fn f (a.map (AX.ev e)) (b.map (AX.ev e))) σ:=_root_.id rfl
def wq(v:AV)(σ : ae){K:AV->ae->Prop}(_:Tg K): Prop:=v.cells.all AV.scalar=true/\K (.ref σ.length 0) (σ++[.cells v.cells])
@[go_sem ↓] def afA (x:AX):bp.run P (.box x) e σ K Kp=wq (x.ev e) σ (.mk:Tg K):=_root_.id rfl
def Rr(c a b:AV){K:AV->Prop}(_:Tg K): Prop:=match c with | .bool t=>K (if t then a else b)|_=>False
@[go_sem ↓] def aeB (c a b : AX) : bp.run P (.pick c a b) e σ K Kp = Rr (c.ev e) (a.ev e) (b.ev e) (.mk : Tg fun v => K v σ) := by
  simp only[bp.run,Rr];rfl
def loadT(σ : ae)(ag:Bool)(n:Nat)(p:AV){K:AV->Prop}(_:Tg K): Prop:=ik σ ag n p K
def storeT(σ : ae)(n:Nat)(p v:AV){K:ae->Prop}(_:Tg K): Prop:=nC σ n p v K
def iq(op:BinOp)(x y:AV){K:AV->Prop}(_:Tg K): Prop:=jD op x y K
def unT(op:UnOp)(x:AV){K:AV->Prop}(_:Tg K): Prop:=Bm op x K
@[go_sem ↓] def run_load (ag:Bool) (n:Nat) (x:AX):bp.run P (.load ag n x) e σ K Kp=loadT σ ag n (x.ev e) (.mk:Tg fun v=>K v σ):=_root_.id rfl
@[go_sem ↓] def run_store (n:Nat) (x v:AX):bp.run P (.store n x v) e σ K Kp=storeT σ n (x.ev e) (v.ev e) (.mk:Tg fun σ'=>K (.bO []) σ'):=_root_.id rfl
@[go_sem ↓] def afB (op:BinOp) (x y:AX):bp.run P (.bin op x y) e σ K Kp=iq op (x.ev e) (y.ev e) (.mk:Tg fun v=>K v σ):=_root_.id rfl
@[go_sem ↓] def af9 (op:UnOp) (x:AX):bp.run P (.un op x) e σ K Kp=unT op (x.ev e) (.mk:Tg fun v=>K v σ):=_root_.id rfl
def HM (s : Bool) (x : AV) {K : AV -> Prop} (_ : Tg K) : Prop := match s, x with
    | true,.str s=>K (.int .i64 s.length)
    | false,.au=>K (.int .i64 0)
    | false,.aO _ _ xs=>K (.int .i64 xs.length)
    | false,.own _ _ _ _ n=>K (.int .i64 n)
    | _,_=>False
@[go_sem ↓] def afC (s : Bool) (x : AX) : bp.run P (.len s x) e σ K Kp = HM s (x.ev e) (.mk : Tg fun v => K v σ) := by
  simp only[bp.run,HM];rfl
def WI(x:AV)(i:Nat){K:AV->Prop}(_:Tg K): Prop:=match x with | .bO vs=>i<vs.length/\K (vs.getD i .undef)|_=>False
@[go_sem ↓] def afD (x : AX) (i : Nat) : bp.run P (.ext x i) e σ K Kp = WI (x.ev e) i (.mk : Tg fun v => K v σ) := by
  simp only[bp.run,WI];rfl
def zI(op:Bool)(x:AV)(xs:List AV){K:AV->Prop}(_:Tg K): Prop:=qS op x xs K
@[go_sem ↓] def afE (x:AX) (xs:List AX):bp.run P (.min x xs) e σ K Kp=zI true (x.ev e) (xs.map (AX.ev e)) (.mk:Tg fun v=>K v σ):=_root_.id rfl
@[go_sem ↓] def afF (x:AX) (xs:List AX):bp.run P (.max x xs) e σ K Kp=zI false (x.ev e) (xs.map (AX.ev e)) (.mk:Tg fun v=>K v σ):=_root_.id rfl
def L_(K Kp:AV->ae->Prop): Out->ae->Prop
 | .ret r,σ=>K r σ
 | .panic r,σ=>Kp r σ
def Dj (P : Program) (q : Bool) (f : AV) (args : List AV) (σ : ae) {K Kp : AV -> ae -> Prop} (_ : Tg (K, Kp)) : Prop := match f with
    | .fn (.func n) first cap =>
      if q then ∃ r,(∀ τ,xn P n (first++args++cap) (σ++ τ) r)/\K r σ
      else cN P n (first++args++cap) σ (L_ K Kp)
    | .qv l=>if q then False else rY P l args σ (L_ K Kp)
    | _=>False
@[go_sem ↓] def aeC (q : Bool) (f : AX) (args : List AX) : bp.run P (.call q f args) e σ K Kp = Dj P q (f.ev e) (args.map (AX.ev e)) σ (.mk : Tg (K, Kp)) := by
  simp only[bp.run,Dj];rfl
def JC{n:Int}(h : -9223372036854775808<=n)(h':n<=9223372036854775807): fE .i64 n=n:=IntWalk.i64_in n ⟨h,h'⟩
@[go_sem] def af_ (a b:AV) (K:AV->Prop):Rr (.bool true) a b (.mk:Tg K)=kD a (.mk:Tg K):=_root_.id rfl
@[go_sem] def aga (a b:AV) (K:AV->Prop):Rr (.bool false) a b (.mk:Tg K)=kD b (.mk:Tg K):=_root_.id rfl
@[go_sem] def afG (v:AV) (K:AV->ae->Prop):wq v σ (.mk:Tg K)=req (v.cells.all AV.scalar=true) (.mk:Tg (K (.ref σ.length 0) (σ++[.cells v.cells]))):=dU _ _
variable (k:IntKind) (a b:Int) (s t:List UInt8) (p q:Bool) (K:AV->Prop)
@[go_sem] def aeD:iq .add (.int k a) (.int k b) (.mk:Tg K)=K (.int k (fE k (a+b))):=by simp[iq,jD]
@[go_sem] def aeE:iq .sub (.int k a) (.int k b) (.mk:Tg K)=K (.int k (fE k (a-b))):=by simp[iq,jD]
@[go_sem] def aeF:iq .mul (.int k a) (.int k b) (.mk:Tg K)=K (.int k (fE k (a*b))):=by simp[iq,jD]
@[go_sem] def aeG:iq .quo (.int k a) (.int k b) (.mk:Tg K)=req (b≠0) (.mk:Tg (K (.int k (fE k (a.tdiv b))))):=by rw[<-dU];simp[iq,jD]
@[go_sem] def aeH:iq .eql (.int k a) (.int k b) (.mk:Tg K)=K (.bool (a==b)):=by simp[iq,jD]
@[go_sem] def aeI:iq .neq (.int k a) (.int k b) (.mk:Tg K)=K (.bool (!(a==b))):=by simp[iq,jD]
@[go_sem] def aeJ:iq .lss (.int k a) (.int k b) (.mk:Tg K)=K (.bool (decide (a<b))):=by simp[iq,jD]
@[go_sem] def aeK:iq .leq (.int k a) (.int k b) (.mk:Tg K)=K (.bool (decide (a<=b))):=by simp[iq,jD]
@[go_sem] def aeL:iq .gtr (.int k a) (.int k b) (.mk:Tg K)=K (.bool (decide (b<a))):=by simp[iq,jD]
@[go_sem] def aeM:iq .geq (.int k a) (.int k b) (.mk:Tg K)=K (.bool (decide (b<=a))):=by simp[iq,jD]
@[go_sem] def adF:iq .add (.str s) (.str t) (.mk:Tg K)=req (((s.length+t.length:Nat):Int)<=IntKind.i64.max) (.mk:Tg (K (.str (s++t)))):=by rw[<-dU];simp[iq,jD]
@[go_sem] def adG:iq .eql (.str s) (.str t) (.mk:Tg K)=K (.bool (s==t)):=by simp[iq,jD]
@[go_sem] def adH:iq .neq (.str s) (.str t) (.mk:Tg K)=K (.bool (!(s==t))):=by simp[iq,jD]
@[go_sem] def afH:unT .not (.bool p) (.mk:Tg K)=K (.bool (!p)):=_root_.id rfl
@[go_sem] def agb:HM true (.str s) (.mk:Tg K)=K (.int .i64 s.length):=_root_.id rfl
@[go_sem] def adI:HM false .au (.mk:Tg K)=K (.int .i64 0):=_root_.id rfl
@[go_sem] def aeN (f:Bool) (el:El) (xs:List AV):HM false (.aO f el xs) (.mk:Tg K)=K (.int .i64 xs.length):=_root_.id rfl
@[go_sem] def aeO (el:El) (l m lo n:Nat):HM false (.own el l m lo n) (.mk:Tg K)=K (.int .i64 n):=_root_.id rfl
@[go_sem] def aeP (vs:List AV) (i:Nat):WI (.bO vs) i (.mk:Tg K)=req (i<vs.length) (.mk:Tg (K (vs.getD i .undef))):=dU _ _
@[go_sem] def adJ (op:Bool) (x:AV):zI op x [] (.mk:Tg K)=K x:=_root_.id rfl
@[go_sem] def afI (ys:List AV):zI true (.int k a) (.int k b::ys) (.mk:Tg K)=zI true (.int k (if b<a then b else a)) ys (.mk:Tg K):=_root_.id rfl
@[go_sem] def afJ (ys:List AV):zI false (.int k a) (.int k b::ys) (.mk:Tg K)=zI false (.int k (if a<b then b else a)) ys (.mk:Tg K):=_root_.id rfl
@[go_sem ↓] def aeQ (K:List AV->Prop):qf e σ [] K=K []:=_root_.id rfl
@[go_sem ↓] def aeR (t:Nat) (r:List sx) (K:List AV->Prop):qf e σ (.tmp t::r) K=qf e σ r fun vs=>K (e t::vs):=_root_.id rfl
end
end Go.AM
namespace Go.AM
variable {P:Program}
section
variable (e:Env) (σ : ae) (K Kp:AV->ae->Prop)
def zJ(o:Option aY)(off:Nat)(ag:Bool)(n:Nat){K:AV->Prop}(_:Tg K): Prop:=match o with
 | some (.bW _ cs)=>off+n<=cs.length/\(ag=false->n=1)/\K (if ag then .agg ((cs.drop off).take n)else cs.getD off .undef)
 | _=>False
@[go_sem] def adK (ag:Bool) (n l off:Nat) (K:AV->Prop):loadT σ ag n (.ref l off) (.mk:Tg K)=zJ (σ[l]?) off ag n (.mk:Tg K):=_root_.id rfl
@[go_sem] def afK (cs : List AV) (off n : Nat) (K : AV -> Prop) : zJ (some (.cells cs)) off false n (.mk : Tg K) = req (off + n <= cs.length /\ n = 1) (.mk : Tg (K (cs.getD off .undef))) := by
  rw[<-dU];simp[zJ,and_assoc]
@[go_sem] def afL (cs : List AV) (off n : Nat) (K : AV -> Prop) : zJ (some (.cells cs)) off true n (.mk : Tg K) = req (off + n <= cs.length) (.mk : Tg (K (.agg ((cs.drop off).take n)))) := by
  rw[<-dU];simp[zJ]
@[go_sem] def aeS (T : TypeId) (cs : List AV) (off n : Nat) (K : AV -> Prop) : zJ (some (.bW (some T) cs)) off false n (.mk : Tg K) = req (off + n <= cs.length /\ n = 1) (.mk : Tg (K (cs.getD off .undef))) := by
  rw[<-dU];simp[zJ,and_assoc]
def BL(σ : ae)(l:Nat)(o:Option aY)(off n:Nat)(v:AV){K:ae->Prop}(_:Tg K): Prop:=v.cells.length=n/\v.cells.all AV.scalar=true/\match o with
 | some (.bW T cs)=>off+n<=cs.length/\K (σ.set l (.bW T (ew cs off v.cells)))
 | _=>False
@[go_sem] def acY (n l off:Nat) (v:AV) (K:ae->Prop):storeT σ n (.ref l off) v (.mk:Tg K)=BL σ l (σ[l]?) off n v (.mk:Tg K):=_root_.id rfl
@[go_sem] def aeT (l : Nat) (cs : List AV) (off n : Nat) (v : AV) (K : ae -> Prop) : BL σ l (some (.cells cs)) off n v (.mk : Tg K) = req (v.cells.length = n /\ v.cells.all AV.scalar = true /\ off + n <= cs.length) (.mk : Tg (K (σ.set l (.cells (ew cs off v.cells))))) := by
  rw[<-dU];simp[BL,and_assoc]
@[go_sem] def adL (l : Nat) (T : TypeId) (cs : List AV) (off n : Nat) (v : AV) (K : ae -> Prop) : BL σ l (some (.bW (some T) cs)) off n v (.mk : Tg K) = req (v.cells.length = n /\ v.cells.all AV.scalar = true /\ off + n <= cs.length) (.mk : Tg (K (σ.set l (.bW (some T) (ew cs off v.cells))))) := by
  rw[<-dU];simp[BL,and_assoc]
def d_(P:Program)(o:bp)(σ : ae){K Kp:AV->ae->Prop}(_:Tg (K,Kp)): Prop:=o.run P (fun _=> .undef) σ K Kp
@[go_sem ↓] def adM (off:Nat) (x:AX):bp.run P (.oM off x) e σ K Kp=d_ P (.oM off (.c (x.ev e))) σ (.mk:Tg (K,Kp)):=_root_.id rfl
@[go_sem ↓] def adN (x:AX):bp.run P (.pK x) e σ K Kp=d_ P (.pK (.c (x.ev e))) σ (.mk:Tg (K,Kp)):=_root_.id rfl
@[go_sem ↓] def adO (ag:Bool) (off n:Nat) (x:AX):bp.run P (.field ag off n x) e σ K Kp=d_ P (.field ag off n (.c (x.ev e))) σ (.mk:Tg (K,Kp)):=_root_.id rfl
@[go_sem ↓] def adP (el:El) (arr:Option Nat) (x i:AX):bp.run P (.f_ el arr x i) e σ K Kp=d_ P (.f_ el arr (.c (x.ev e)) (.c (i.ev e))) σ (.mk:Tg (K,Kp)):=_root_.id rfl
@[go_sem ↓] def aeU (x i:AX):bp.run P (.lC x i) e σ K Kp=d_ P (.lC (.c (x.ev e)) (.c (i.ev e))) σ (.mk:Tg (K,Kp)):=_root_.id rfl
@[go_sem ↓] def aeV (el:El) (n:Nat) (x i:AX):bp.run P (.yd el n x i) e σ K Kp=d_ P (.yd el n (.c (x.ev e)) (.c (i.ev e))) σ (.mk:Tg (K,Kp)):=_root_.id rfl
@[go_sem ↓] def aeW (k:IntKind) (x:AX):bp.run P (.qZ k x) e σ K Kp=d_ P (.qZ k (.c (x.ev e))) σ (.mk:Tg (K,Kp)):=_root_.id rfl
@[go_sem ↓] def afM (x:AX):bp.run P (.Bl x) e σ K Kp=d_ P (.Bl (.c (x.ev e))) σ (.mk:Tg (K,Kp)):=_root_.id rfl
@[go_sem ↓] def acr (el:El) (z:AV) (x i:AX):bp.run P (.nB el z x i) e σ K Kp=d_ P (.nB el z (.c (x.ev e)) (.c (i.ev e))) σ (.mk:Tg (K,Kp)):=_root_.id rfl
@[go_sem ↓] def PK (T:Option TypeId) (el:El) (x i:AX):bp.run P (.app T el x i) e σ K Kp=d_ P (.app T el (.c (x.ev e)) (.c (i.ev e))) σ (.mk:Tg (K,Kp)):=_root_.id rfl
@[go_sem ↓] def afN (ng ag:Bool) (ks:List Kd) (x i:AX):bp.run P (.rG ng ag ks x i) e σ K Kp=d_ P (.rG ng ag ks (.c (x.ev e)) (.c (i.ev e))) σ (.mk:Tg (K,Kp)):=_root_.id rfl
@[go_sem ↓] def adQ (ng:Bool) (k:NK) (x i:AX):bp.run P (.pL ng k x i) e σ K Kp=d_ P (.pL ng k (.c (x.ev e)) (.c (i.ev e))) σ (.mk:Tg (K,Kp)):=_root_.id rfl
@[go_sem ↓] def afO (el:El) (x:AX):bp.run P (.AG el x) e σ K Kp=d_ P (.AG el (.c (x.ev e))) σ (.mk:Tg (K,Kp)):=_root_.id rfl
@[go_sem ↓] def aeX (T:TypeId) (x i:AX):bp.run P (.wo T x i) e σ K Kp=d_ P (.wo T (.c (x.ev e)) (.c (i.ev e))) σ (.mk:Tg (K,Kp)):=_root_.id rfl
@[go_sem ↓] def afP (x:AX):bp.run P (.FH x) e σ K Kp=d_ P (.FH (.c (x.ev e))) σ (.mk:Tg (K,Kp)):=_root_.id rfl
@[go_sem ↓] def afQ (u:TypeId) (x:AX):bp.run P (.FI u x) e σ K Kp=d_ P (.FI u (.c (x.ev e))) σ (.mk:Tg (K,Kp)):=_root_.id rfl
@[go_sem ↓] def afR (ng:Bool) (x i:AX):bp.run P (.DM ng x i) e σ K Kp=d_ P (.DM ng (.c (x.ev e)) (.c (i.ev e))) σ (.mk:Tg (K,Kp)):=_root_.id rfl
def cO(e:Env): Option AX->Option AX
 | none=>none
 | some x=>some (.c (x.ev e))
@[go_sem] def afS:cO e none=none:=_root_.id rfl
@[go_sem] def afT (x:AX):cO e (some x)=some (.c (x.ev e)):=_root_.id rfl
@[go_sem ↓] def afU (x : AX) (lo hi : Option AX) : bp.run P (.p7 x lo hi) e σ K Kp = d_ P (.p7 (.c (x.ev e)) (cO e lo) (cO e hi)) σ (.mk : Tg (K, Kp)) := by
  cases lo<;>cases hi<;>rfl
@[go_sem ↓] def afV (el : El) (x : AX) (lo hi : Option AX) : bp.run P (.uz el x lo hi) e σ K Kp = d_ P (.uz el (.c (x.ev e)) (cO e lo) (cO e hi)) σ (.mk : Tg (K, Kp)) := by
  cases lo<;>cases hi<;>rfl
variable (k k':IntKind) (a b:Int) (s t:List UInt8) (el:El) (xs cs:List AV) (l m lo n off i:Nat) (f:Bool)
@[go_sem] def aaT:d_ P (.oM off (.c (.ref l i))) σ (.mk:Tg (K,Kp))=K (.ref l (i+off)) σ:=_root_.id rfl
@[go_sem] def aam (x:AV):d_ P (.oM off (.c (.dO el x i))) σ (.mk:Tg (K,Kp))=K (.dO el x (i+off)) σ:=_root_.id rfl
@[go_sem] def aan (j:Nat):d_ P (.oM off (.c (.eD el l m j i))) σ (.mk:Tg (K,Kp))=K (.eD el l m j (i+off)) σ:=_root_.id rfl
@[go_sem] def aaU:d_ P (.pK (.c (.ref l i))) σ (.mk:Tg (K,Kp))=K (.ref l i) σ:=_root_.id rfl
@[go_sem] def acZ : d_ P (.field false off n (.c (.agg cs))) σ (.mk : Tg (K, Kp)) = req (off + n <= cs.length /\ n = 1) (.mk : Tg (K (cs.getD off .undef) σ)) := by
  rw[<-dU];simp[d_,bp.run,AX.ev,and_assoc]
@[go_sem] def aaV : d_ P (.f_ el none (.c (.aO f el xs)) (.c (.int k a))) σ (.mk : Tg (K, Kp)) = req (0 <= a /\ a < xs.length) (.mk : Tg (K (.dO el (xs.getD a.toNat .undef) 0) σ)) := by
  rw[<-dU];simp[d_,bp.run,AX.ev,and_assoc]
@[go_sem] def afW : d_ P (.lC (.c (.str s)) (.c (.int k a))) σ (.mk : Tg (K, Kp)) = req (0 <= a /\ a < s.length) (.mk : Tg (K (.int .u8 (s.getD a.toNat 0).toNat) σ)) := by
  rw[<-dU];simp[d_,bp.run,AX.ev,and_assoc]
@[go_sem] def afX:d_ P (.qZ k (.c (.int k' a))) σ (.mk:Tg (K,Kp))=K (.int k (fE k a)) σ:=_root_.id rfl
def toNat_le{a:Int}{n:Nat}(h:0<=a): (a<=((n:Nat):Int))=(a.toNat<=n):=by simp only[eq_iff_iff];omega
@[go_sem] def adR : d_ P (.p7 (.c (.str s)) (some (.c (.int k a))) (some (.c (.int k' b)))) σ (.mk : Tg (K, Kp)) = req ((0 <= b /\ b <= s.length) /\ 0 <= a /\ a <= b) (.mk : Tg (K (.str ((s.drop a.toNat).take (b.toNat - a.toNat))) σ)) := by
  rw[<-dU];simp only[d_,bp.run,AX.ev,bound,Option.map,and_assoc,eq_iff_iff];constructor
  ·rintro⟨h1,h2,h3,h4,h5⟩;exact⟨h1,h2,h3,by omega,h5⟩
  ·rintro⟨h1,h2,h3,h4,h5⟩;exact⟨h1,h2,h3,by omega,h5⟩
@[go_sem] def adS : d_ P (.p7 (.c (.str s)) none (some (.c (.int k' b)))) σ (.mk : Tg (K, Kp)) = req (0 <= b /\ b <= s.length) (.mk : Tg (K (.str (s.take b.toNat)) σ)) := by
  rw[<-dU];simp only[d_,bp.run,AX.ev,bound,Option.map,and_assoc,List.drop_zero,Nat.sub_zero]
@[go_sem] def adT : d_ P (.p7 (.c (.str s)) (some (.c (.int k a))) none) σ (.mk : Tg (K, Kp)) = req (0 <= a /\ a <= s.length) (.mk : Tg (K (.str (s.drop a.toNat)) σ)) := by
  rw[<-dU];simp only[d_,bp.run,AX.ev,bound,Option.map,and_assoc];have:(s.drop a.toNat).take (s.length-a.toNat)=s.drop a.toNat:=bw (by simp);rw[this]
def pP(P:Program)(n:FuncId)(args:List AV)(σ : ae){K Kp:AV->ae->Prop}(_:Tg (K,Kp)): Prop:=cN P n args σ (L_ K Kp)
def zK(P:Program)(n:FuncId)(args:List AV)(σ : ae){K Kp:AV->ae->Prop}(_:Tg (K,Kp)): Prop:= ∃ r,(∀ τ,xn P n args (σ++ τ) r)/\K r σ
@[go_sem] def afY (n : FuncId) (first args cap : List AV) : Dj P false (.fn (.func n) first cap) args σ (.mk : Tg (K, Kp)) = pP P n (first ++ args ++ cap) σ (.mk : Tg (K, Kp)) := by
  simp[Dj,pP]
@[go_sem] def afZ (n : FuncId) (first args cap : List AV) : Dj P true (.fn (.func n) first cap) args σ (.mk : Tg (K, Kp)) = zK P n (first ++ args ++ cap) σ (.mk : Tg (K, Kp)) := by
  simp[Dj,zK]
def PL{n:FuncId}{args:List AV}{σ : ae}{K Kp:AV->ae->Prop}{r:AV}(h:∀ σ,xn P n args σ r)(hk:kD r (.mk:Tg fun r=>K r σ)): pP P n args σ (.mk:Tg (K,Kp)) :=
 (h σ).mono fun o s ⟨h1,h2⟩=>by subst h1;subst h2;exact hk
def PN{n:FuncId}{args:List AV}{σ : ae}{K Kp:AV->ae->Prop}{r:AV}(h:∀ σ,xn P n args σ r)(hk:kD r (.mk:Tg fun r=>K r σ)): zK P n args σ (.mk:Tg (K,Kp)):=⟨r,fun τ=>h _,hk⟩
def cz{n:FuncId}{args:List AV}{σ : ae}{K Kp:AV->ae->Prop}{R:Out->ae->Prop}(h:cN P n args σ R)(hk:∀ o s,R o s->L_ K Kp o s): pP P n args σ (.mk:Tg (K,Kp)):=h.mono hk
def BM: List AV->List (Nat × Nat × AV)->(List AV->Prop)->Prop
 | z,[],K=>K z
 | z,(off,n,v)::r,K=>v.cells.length=n/\v.cells.all AV.scalar=true/\off+n<=z.length/\BM (ew z off v.cells) r K
def BN(z:List AV)(ps:List (Nat × Nat × AV)){K:List AV->Prop}(_:Tg K): Prop:=BM z ps K
def JD(e:Env)(K:List AV->Prop): ∀(ps:List (Nat × Nat × AX)) (z:List AV),lW z e ps K=BM z (ps.map fun p=>(p.1,p.2.1,p.2.2.ev e)) K
 | [],z=>rfl
 |(off,n,x)::r,z=>by simp only[lW,BM,aZ,JD e K r]
@[go_sem ↓] def run_build (z:List AV) (ps:List (Nat × Nat × AX)):bp.run P (.build z ps) e σ K Kp=BN z (ps.map fun p=>(p.1,p.2.1,p.2.2.ev e)) (.mk:Tg fun cs=>K (.agg cs) σ):=JD e _ ps z
@[go_sem] def ac0 (z:List AV) (K:List AV->Prop):BN z [] (.mk:Tg K)=K z:=_root_.id rfl
@[go_sem] def acs (z : List AV) (off n : Nat) (v : AV) (r : List (Nat × Nat × AV)) (K : List AV -> Prop) : BN z ((off, n, v) :: r) (.mk : Tg K) = req (v.cells.length = n /\ v.cells.all AV.scalar = true /\ off + n <= z.length) (.mk : Tg (BN (ew z off v.cells) r (.mk : Tg K))) := by
  rw[<-dU];simp only[BN,BM,and_assoc]
def yI(el:El): List AV->List (Nat × AV)->(List AV->Prop)->Prop
 | z,[],K=>K z
 | z,(i,v)::r,K=>v.fits el=true/\i<z.length/\yI el (z.set i v) r K
def wc(el:El)(z:List AV)(ps:List (Nat × AV)){K:List AV->Prop}(_:Tg K): Prop:=yI el z ps K
def zL(el:El)(e:Env)(K:List AV->Prop): ∀(ps:List (Nat × AX)) (z:List AV),kT el z e ps K=yI el z (ps.map fun p=>(p.1,p.2.ev e)) K
 | [],z=>rfl
 |(i,x)::r,z=>by simp only[kT,yI,aZ,zL el e K r]
@[go_sem ↓] def aaW (el:El) (z:AV) (n:Nat) (ps:List (Nat × AX)):bp.run P (.jF false el z n ps) e σ K Kp=wc el (List.replicate n z) (ps.map fun p=>(p.1,p.2.ev e)) (.mk:Tg fun xs=>K (.aO true el xs) σ):=zL el e _ ps _
@[go_sem ↓] def aaX (el:El) (z:AV) (n:Nat) (ps:List (Nat × AX)):bp.run P (.jF true el z n ps) e σ K Kp=wc el (List.replicate n z) (ps.map fun p=>(p.1,p.2.ev e)) (.mk:Tg fun xs=>K (.own el σ.length n 0 n) (σ++[.vec el xs])):=zL el e _ ps _
@[go_sem] def acu (z:List AV) (K:List AV->Prop):wc el z [] (.mk:Tg K)=K z:=_root_.id rfl
@[go_sem] def aaY (z : List AV) (i : Nat) (v : AV) (r : List (Nat × AV)) (K : List AV -> Prop) : wc el z ((i, v) :: r) (.mk : Tg K) = req (v.fits el = true /\ i < z.length) (.mk : Tg (wc el (z.set i v) r (.mk : Tg K))) := by
  rw[<-dU];simp only[wc,yI,and_assoc]
def uj(c:Bool)(el:El)(x:AV)(off:Nat)(ag:Bool)(n:Nat){K:AV->Prop}(_:Tg K): Prop:=c=(off==0 && n==el.sz && ag==el.ag)/\partOf el x off ag n K
@[go_sem] def ac1 (ag : Bool) (n : Nat) (el : El) (x : AV) (off : Nat) (K : AV -> Prop) : loadT σ ag n (.dO el x off) (.mk : Tg K) = uj (off == 0 && n == el.sz && ag == el.ag) el x off ag n (.mk : Tg K) := by
  simp only[uj,true_and];rfl
@[go_sem] def af0 (ag : Bool) (n : Nat) (x : AV) (K : AV -> Prop) : uj true ⟨ag, n⟩ x 0 ag n (.mk : Tg K) = K x := by
  simp[uj,partOf]
@[go_sem] def Zg (el : El) (off n : Nat) (cs : List AV) (K : AV -> Prop) (h : (off == 0 && n == el.sz && false == el.ag) = false) : uj false el (.agg cs) off false n (.mk : Tg K) = req (off + n <= el.sz /\ n = 1) (.mk : Tg (K (cs.getD off .undef))) := by
  have hn:¬ (off=0/\n=el.sz/\false=el.ag):=by rintro⟨h1,h2,h3⟩;subst h1;subst h2;rw[<-h3]at h;simp at h
  rw[<-dU];simp only[uj,partOf,if_neg hn,h,true_and];simp only[aB,if_false,forall_const,eq_iff_iff];exact⟨fun⟨h1,h2,h3⟩=>⟨⟨h1,h3⟩,h2⟩,fun⟨⟨h1,h3⟩,h2⟩=>⟨h1,h2,h3⟩⟩
def BO(σ : ae)(T:Option TypeId)(el:El)(o:Option aY)(l m lo n:Nat)(ys:List AV){K:AV->ae->Prop}(_:Tg K): Prop:=match o with
 | some (.cy T' bg xs) => (T' = none \/ T' = T) /\ bg = el /\ m = xs.length /\ lo = 0 /\ n = xs.length /\ fJ (xs.length + ys.length) el /\
    K (.own el l (xs.length+ys.length) 0 (xs.length+ys.length)) (σ.set l (.cy T' el (xs++ys)))
 | _=>False
@[go_sem] def ac2 (T : Option TypeId) (ys : List AV) : d_ P (.app T el (.c (.own el l m lo n)) (.c (.aO f el ys))) σ (.mk : Tg (K, Kp)) = req (ys.all (fun a => a.fits el) = true) (.mk : Tg (BO σ T el (σ[l]?) l m lo n ys (.mk : Tg K))) := by
  rw[<-dU];simp only[d_,bp.run,AX.ev,oF,fM,BO,true_and];rfl
@[go_sem] def af1 (T : Option TypeId) (xs ys : List AV) : BO σ T el (some (.vec el xs)) l m lo n ys (.mk : Tg K) = req (m = xs.length /\ lo = 0 /\ n = xs.length /\ fJ (xs.length + ys.length) el) (.mk : Tg (K (.own el l (xs.length + ys.length) 0 (xs.length + ys.length)) (σ.set l (.vec el (xs ++ ys))))) := by
  rw[<-dU];simp only[BO,true_and,true_or,and_assoc]
@[go_sem] def aeY (t : TypeId) (xs ys : List AV) : BO σ (some t) el (some (.cy (some t) el xs)) l m lo n ys (.mk : Tg K) = req (m = xs.length /\ lo = 0 /\ n = xs.length /\ fJ (xs.length + ys.length) el) (.mk : Tg (K (.own el l (xs.length + ys.length) 0 (xs.length + ys.length)) (σ.set l (.cy (some t) el (xs ++ ys))))) := by
  rw[<-dU];simp only[BO,true_and,or_true,and_assoc]
@[go_sem] def acv (y : AV) (ys : List AV) : d_ P (.app none el (.c .au) (.c (.aO f el (y :: ys)))) σ (.mk : Tg (K, Kp)) = req ((y :: ys).all (fun a => a.fits el) = true /\ fJ (y :: ys).length el) (.mk : Tg (K (.own el σ.length (y :: ys).length 0 (y :: ys).length) (σ ++ [.vec el (y :: ys)]))) := by
  rw[<-dU];simp only[d_,bp.run,AX.ev,oF,fM,true_and,List.length_cons,Nat.add_eq_zero_iff,Nat.one_ne_zero,and_false,if_false,and_assoc]
@[go_sem] def aaZ (t : TypeId) (y : AV) (ys : List AV) : d_ P (.app (some t) el (.c .au) (.c (.aO f el (y :: ys)))) σ (.mk : Tg (K, Kp)) = req ((y :: ys).all (fun a => a.fits el) = true /\ fJ (y :: ys).length el) (.mk : Tg (K (.own el σ.length (y :: ys).length 0 (y :: ys).length) (σ ++ [.cy (some t) el (y :: ys)]))) := by
  rw[<-dU];simp only[d_,bp.run,AX.ev,oF,fM,true_and,List.length_cons,Nat.add_eq_zero_iff,Nat.one_ne_zero,and_false,if_false,and_assoc]
def Rs{T:Option TypeId}{xs:List AV}(h : σ[l]? = some (.cy T el xs))(hm:m=xs.length)(hn:0<n)(hk:K (.eD el l m lo 0) σ): d_ P (.AG el (.c (.own el l m lo n))) σ (.mk:Tg (K,Kp)):=by
 simp only[d_,bp.run,AX.ev,h];exact⟨trivial,trivial,hm,hn,hk⟩
def Om(T:TypeId): d_ P (.wo T (.c .iM) (.c (.int .i64 0))) σ (.mk:Tg (K,Kp))=K (.str []) σ:=by
 simp[d_,bp.run,AX.ev]
def On {T : TypeId} {xs : List AV} (s : List UInt8) (h : σ[l]? = some (.cy (some T) ⟨false, 1⟩ xs)) (hm : m = xs.length) (hx : xs = s.map fun b => .int .u8 b.toNat) (h0 : s ≠ []) (h2 : s.length <= 2 ^ 62) (ha : a = (s.length : Int)) (hk : K (.str s) (σ.set l .dead)) :
    d_ P (.wo T (.c (.eD ⟨false,1⟩ l m 0 0)) (.c (.int .i64 a))) σ (.mk:Tg (K,Kp)):=by
 subst hx;subst ha;have h1:0<s.length:=List.length_pos_iff.2 h0;simp only[d_,bp.run,AX.ev,h];refine⟨trivial,trivial,trivial,trivial,hm,by omega,by simp,by simpa using h2,s,?_,hk⟩;rw[bw (by simp)]
def aa0{T:Option TypeId}(h : σ[l]? = some (.bW T cs))(hlt:off<cs.length)(hk:K (.ref l off) σ): d_ P (.FH (.c (.ref l off))) σ (.mk:Tg (K,Kp)):=by
 simp only[d_,bp.run,AX.ev,h];exact⟨hlt,hk⟩
def aa1{T u:TypeId}(h : σ[l]? = some (.bW (some T) cs))(hlt:liesAt P P.depth T (cs.length / P.cellsOf T) off u 1=true)(hk:K (.ref l off) σ): d_ P (.FI u (.c (.ref l off))) σ (.mk:Tg (K,Kp)):=by
 simp only[d_,bp.run,AX.ev,h];exact⟨hlt,hk⟩
def aa2{T:Option TypeId}(ng:Bool)(h : σ[l]? = some (.bW T cs))(hk:K (.bool ng.not) σ): d_ P (.DM ng (.c (.ref l off)) (.c (.ref l off))) σ (.mk:Tg (K,Kp)):=by
 simp only[d_,bp.run,AX.ev,h];exact⟨trivial,trivial,hk⟩
def T5 (P : Program) (g : FuncId) (v : AV) (σ : ae) {K : AV → ae → Prop} (_ : Tg K) : Prop := (∃ fn, P.funcs[g]? = some fn ∧ (fn.name == "runtime.NumGoroutine") = false ∧ fn.body.isNone = true ∧ Extern.findNext fn = none ∧ Extern.find fn = some Extern.AbiNoEscape.same) ∧ K v σ
@[go_sem ↓] def adU (g:FuncId) (x:AX):bp.run P (.C_ g x) e σ K Kp=T5 P g (x.ev e) σ (.mk:Tg K):=_root_.id rfl
def WJ(ng:Bool)(k:NK)(x y:AV): d_ P (.pL ng k (.c x) (.c y)) σ (.mk:Tg (K,Kp))=(match nk k x y with|some b=>K (.bool (if ng then !b else b)) σ | none=>False):=rfl
def WK(ng:Bool)(ks:List Kd)(xs ys:List AV): d_ P (.rG ng true ks (.c (.agg xs)) (.c (.agg ys))) σ (.mk:Tg (K,Kp))=(match ij ks xs ys with|some b=>K (.bool (if ng then !b else b)) σ | none=>False):=rfl
@[go_sem] def ac3 (z : AV) : d_ P (.nB el z (.c (.int .i64 a)) (.c (.int .i64 b))) σ (.mk : Tg (K, Kp)) = req (z.fits el = true /\ 0 <= a /\ a <= b /\ b * (el.sz + 1) <= 2 ^ 40) (.mk : Tg (K (.own el σ.length a.toNat 0 a.toNat) (σ ++ [.vec el (List.replicate a.toNat z)]))) := by
  rw[<-dU];simp only[d_,bp.run,AX.ev,and_assoc]
@[go_sem] def aao (xs : List AV) : d_ P (.uz el (.c (.aO f el xs)) none (some (.c (.int k' b)))) σ (.mk : Tg (K, Kp)) = req (0 <= b /\ b <= xs.length) (.mk : Tg (K (.aO false el (xs.take b.toNat)) σ)) := by
  rw[<-dU];simp only[d_,bp.run,AX.ev,bound,Option.map,and_assoc,true_and,List.drop_zero,Nat.sub_zero]
end
end Go.AM
namespace Go.AM
variable {P:Program}
def JE(ms:List Nat)(r e:Env): Env:=fun t=>if ms.contains t then r t else e t
def puts: List (Nat × AV)->Env->Env
 | [],e=>e
 |(d,v)::l,e=>eX (puts l e) (some d) v
@[go_sem ↓] def WL (e:Env):puts [] e=e:=_root_.id rfl
@[go_sem ↓] def T6 (d:Nat) (v:AV) (l:List (Nat × AV)) (e:Env):puts ((d,v)::l) e=eX (puts l e) (some d) v:=_root_.id rfl
@[go_sem ↓] def af2 (ms:List Nat) (r e:Env) (t:Nat):JE ms r e t=Ga (ms.contains t) (.mk:Tg (r t,e t)):=_root_.id rfl
def BP(ms:List Nat)(e e':Env): Prop:= ∀ t,ms.contains t=false->e' t=e t
def Zh(ms:List Nat)(r e:Env): BP ms e (JE ms r e):=fun t h=>by simp only[JE,h];rfl
def Zi{ms:List Nat}{e e':Env}{d:Nat}{v:AV}(hd:ms.contains d=true)(h:BP ms e e'): BP ms e (eX e' (some d) v):=fun t ht=>by
 simp only[eX];split
 ·rename_i e1;subst e1;rw[hd]at ht;cases ht
 ·exact h t ht
def At(l:List (Nat × AV))(e:Env): Prop:= ∀ p ∈ l,e p.1=p.2
@[go_sem] def jY (e:Env):At [] e=True:=by simp[At]
@[go_sem] def jb (d:Nat) (v:AV) (l:List (Nat × AV)) (e:Env):At ((d,v)::l) e=(e d=v/\At l e):=by simp[At]
def PO{ms:List Nat}{e e':Env}(ho:BP ms e e'): ∀(l:List (Nat × AV)),At l e'->puts l (JE ms e' e)=e'
 | [], _ => by
   funext t
   simp only[puts,JE];split
   ·rfl
   ·rename_i h;exact(ho t (by simpa using h)).symm
 | (d, v) :: l, h => by
   simp only[puts];rw[PO ho l (fun p hp=>h p (bF _ hp))];exact mV (h (d,v) (by simp))
def oC{Q Q':AQ}(h:∀ ex e σ,Q ex e σ->Q' ex e σ): ∀(l:List cK) (e:Env) (σ : ae),eT P Q l e σ->eT P Q' l e σ
 | [],e,σ,hh=>h _ _ _ hh
 |⟨o,d,none⟩::r,e,σ,hh=>q9 (fun v s=>oC h r _ _) (fun v s=>h _ _ _) hh
 | ⟨o, d, some (k, b)⟩ :: r, e, σ, hh => by
   simp only[eT]at hh ⊢;split at hh
   ·exact⟨fun ht=>q9 (fun v s=>oC h r _ _) (fun v s=>h _ _ _) (hh.1 ht),fun ht=>oC h r _ _ (hh.2 ht)⟩
   ·exact oC h r _ _ hh
   ·exact hh
def Gb{K K':Env->ae->Prop}{Q Q':AQ}(hk:∀ e σ,K e σ->K' e σ)(h:∀ ex e σ,Q ex e σ->Q' ex e σ): ∀ ex e σ,sn K Q ex e σ->sn K' Q' ex e σ
 | .normal,_,_=>hk _ _
 | .exit _,_,_=>h _ _ _
 | .goto _,_,_=>h _ _ _
 | .ret,_,_=>h _ _ _
 | .panic _,_,_=>h _ _ _
def T7{nt:Nat}{ps:List Nat}{ca cb:Code}{f:AV}{a b:AQ->Env->ae->Prop}{Q Q':AQ}(h:∀ ex e σ,Q ex e σ->Q' ex e σ)(e:Env)(σ : ae): LU P nt ps ca cb f a b Q e σ->LU P nt ps ca cb f a b Q' e σ:=by
 unfold LU;split
 ·refine fun hh o ho hy=>(hh o ho hy).mono fun out s hq=>?_;cases out with
  | ret r =>
    obtain⟨st,pe,h1,h2,h3⟩:=hq;refine⟨st,pe,h1,h2,?_⟩;split at h3<;>first|exact h _ _ _ h3|exact h3
  | panic v=>exact h _ _ _ hq
 ·exact id
def Rt{jn:List (AX × AX)}{Q Q':AQ}(h:∀ ex e σ,Q ex e σ->Q' ex e σ): ∀ ex e σ,jM jn Q ex e σ->jM jn Q' ex e σ:=fun ex e σ hq=>by
 cases ex with
 | normal=>exact⟨hq.1,h _ _ _ hq.2⟩
 | panic v =>
   simp only[jM]at hq ⊢;split at hq
   ·rename_i hf;rw[if_pos hf];exact fun e'=>h _ _ _ (hq e')
   ·rename_i hf;rw[if_neg hf];exact h _ _ _ hq
 | _=>exact h _ _ _ hq
def zM{c:de}: ∀ {Q Q':AQ},(∀ ex e σ,Q ex e σ->Q' ex e σ)-> ∀(e:Env) (σ : ae),i_ P c Q e σ->i_ P c Q' e σ:=by
 induction c with
 | skip=>exact fun h e σ=>h _ _ _
 | region ops=>exact fun h e σ=>oC h ops e σ
 | draw ops jn=>exact fun h e σ=>oC (Rt h) ops e σ
 | seq a b F6 F7=>exact fun h e σ=>F6 (Gb (fun e σ=>F7 h e σ) h) e σ
 | cond c a b F6 F7 =>
   intro Q Q' h e σ hh;simp only[i_]at hh ⊢;split at hh
   ·exact⟨fun ht=>F6 h _ _ (hh.1 ht),fun ht=>F7 h _ _ (hh.2 ht)⟩
   ·exact hh
 | block id c ih =>
   intro Q Q' h e σ;refine ih (fun ex e σ hq=>?_) e σ;cases ex<;>try exact h _ _ _ hq
   simp only[sr]at hq ⊢;split at hq
   ·rename_i e1;rw[if_pos e1];exact h _ _ _ hq
   ·rename_i e1;rw[if_neg e1];exact h _ _ _ hq
 | loop c ih =>
   rintro Q Q' h e σ ⟨I,hI,hr⟩;exact⟨I,hI,fun n e σ hi=>ih (Gb (fun _ _ h=>h) h) _ _ (hr n e σ hi)⟩
 | exit id=>exact fun h e σ=>h _ _ _
 | ret=>exact fun h e σ=>h _ _ _
 | scope l c r JF ihr =>
   rintro Q Q' h e σ ⟨J,h1,h2⟩
   have hj:∀ (J:Env->ae->Prop) ex e σ,sv l J Q ex e σ->sv l J Q' ex e σ:=fun J ex e σ hq=>by
    cases ex<;>first|exact h _ _ _ hq|exact hq
   exact⟨J,JF (hj _) _ _ h1,fun n e σ hi=>ihr (hj _) _ _ (h2 n e σ hi)⟩
 | stop=>exact fun h e σ hh=>hh
 | iE f nt ps ca cb a b _ _=>exact fun h e σ=>T7 h e σ
 | label l=>exact fun h e σ=>h _ _ _
 | goto l=>exact fun h e σ=>h _ _ _
def aa3{α : Type}(ms:List Nat)(cs : α->List (Nat × AV))(S : α->ae)(A : α->Prop)(μ : α->Nat)(e:Env)(x : α)(e':Env)(σ':ae): Prop :=
 ∃ x',A x'/\ μ x' < μ x/\σ'=S x'/\BP ms e e'/\At (cs x') e'
def bZ {c : de} {Q : AQ} {e : Env} {σ : ae} {α : Type} (ms : List Nat) (cs : α -> List (Nat × AV)) (S : α -> ae) (A : α -> Prop) (μ : α -> Nat) (x0 : α) (h0 : A x0) (yJ : σ = S x0) (oZ : At (cs x0) e)
    (hr:∀ x r,A x->i_ P c (sn (aa3 ms cs S A μ e x) Q) (puts (cs x) (JE ms r e)) (S x)):Yz P (.mk:Tg (c,Q,e,σ)):=by
 refine⟨fun n e' σ'=> ∃ x,A x/\BP ms e e'/\At (cs x) e'/\σ'=S x/\ μ x=n,⟨_,x0,h0,fun _ _=>rfl,oZ,yJ,rfl⟩,?_⟩;rintro n e' σ' ⟨x1,a1,o1,t1,rfl,rfl⟩;have h:=hr x1 e' a1;rw[PO o1 _ t1]at h;refine zM (fun ex e2 σ2 hq=>?_) _ _ h;cases ex<;>try exact hq
 obtain⟨x',a',hm,hs,ho,ht⟩:=hq;exact⟨_,hm,x',a',ho,ht,hs,rfl⟩
