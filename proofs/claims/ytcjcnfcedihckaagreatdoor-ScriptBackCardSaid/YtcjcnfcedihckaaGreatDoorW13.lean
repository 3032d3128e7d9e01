/- Part. -/
import Derived.Test.YtcjcnfcedihckaaGreatDoorW12
import Derived.IntWalk
set_option linter.all false
namespace Go.AM
variable {P:Program}
universe u
inductive Tg {α : Sort u} (K : α):Type where
 | mk
def kR(v:AV){K:AV->Prop}(_:Tg K): Prop:=K v
def Af(σ : ae){K:ae->Prop}(_:Tg K): Prop:=K σ
@[go_sem] def afA (v:AV) (K:AV->Prop):kR v (.mk:Tg K)=K v:=_root_.id rfl
@[go_sem] def afB (v:ae) (K:ae->Prop):Af v (.mk:Tg K)=K v:=_root_.id rfl
def req(p:Prop){K:Prop}(_:Tg K): Prop:=p/\(p->K)
@[go_sem] def afC (K:Prop):req True (.mk:Tg K)=K:=by simp[req]
def dV(p K:Prop): (p/\K)=req p (.mk:Tg K):=by simp only[req];exact propext ⟨fun h=>⟨h.1,fun _=>h.2⟩,fun h=>⟨h.1,h.2 h.1⟩⟩
@[go_sem ↓] def ahN (e:Env) (n:Nat):AX.ev e (.t n)=e n:=_root_.id rfl
@[go_sem ↓] def ahO (e:Env) (a:AV):AX.ev e (.c a)=a:=_root_.id rfl
def GX(c:Bool){a b:AV}(_:Tg (a,b)): AV:=if c then a else b
@[go_sem] def agJ (a b:AV):GX true (.mk:Tg (a,b))=a:=_root_.id rfl
@[go_sem] def agK (a b:AV):GX false (.mk:Tg (a,b))=b:=_root_.id rfl
@[go_sem ↓] def agL (e : Env) (d : Nat) (v : AV) (n : Nat) : fm e (some d) v n = GX (n == d) (.mk : Tg (v, e n)) := by
  simp only[fm,GX,beq_iff_eq]
@[go_sem ↓] def afD (e:Env) (v:AV):fm e none v=e:=_root_.id rfl
@[go_sem] def ad3 (a:AV) (az:List AV):s4 (a::az) 0=a:=_root_.id rfl
@[go_sem] def ad4 (a:AV) (az:List AV) (n:Nat):s4 (a::az) (n+1)=s4 az n:=_root_.id rfl
def Ag(v:AV){T E:Prop}(_:Tg (T,E)): Prop :=
 match v with
 | .bool t=>(t=true->T)/\(t=false->E)
 | _=>False
@[go_sem] def ad5 (T E:Prop):Ag (.bool true) (.mk:Tg (T,E))=T:=by simp[Ag]
@[go_sem] def adB (T E:Prop):Ag (.bool false) (.mk:Tg (T,E))=E:=by simp[Ag]
def aas{t:Bool}{T E:Prop}(h:t=true->T)(h':t=false->E): Ag (.bool t) (.mk:Tg (T,E)):=⟨h,h'⟩
@[go_sem ↓] def afE (Q:AQ) (e:Env) (σ : ae):jm P .skip Q e σ = Q .normal e σ:=_root_.id rfl
@[go_sem ↓] def ad6 (ops:List cL) (Q:AQ) (e:Env) (σ : ae):jm P (.region ops) Q e σ = ff P Q ops e σ:=_root_.id rfl
@[go_sem ↓] def afF (ops:List cL) (jK:List (AX × AX)) (Q:AQ) (e:Env) (σ : ae):jm P (.draw ops jK) Q e σ = ff P (j4 jK Q) ops e σ:=_root_.id rfl
@[go_sem ↓] def agM (a b:dy) (Q:AQ) (e:Env) (σ : ae):jm P (.seq a b) Q e σ = jm P a (sV (jm P b Q) Q) e σ:=_root_.id rfl
@[go_sem ↓] def afG (c:AX) (a b:dy) (Q:AQ) (e:Env) (σ : ae):jm P (.cond c a b) Q e σ = Ag (c.ev e) (.mk:Tg (jm P a Q e σ,jm P b Q e σ)):=_root_.id rfl
@[go_sem ↓] def aeI (id:Nat) (c:dy) (Q:AQ) (e:Env) (σ : ae):jm P (.block id c) Q e σ = jm P c (sW id Q) e σ:=_root_.id rfl
@[go_sem ↓] def afH (id:Nat) (Q:AQ) (e:Env) (σ : ae):jm P (.exit id) Q e σ = Q (.exit id) e σ:=_root_.id rfl
@[go_sem ↓] def agN (Q:AQ) (e:Env) (σ : ae):jm P .ret Q e σ = Q .ret e σ:=_root_.id rfl
@[go_sem ↓] def aeJ (l:Nat) (Q:AQ) (e:Env) (σ : ae):jm P (.label l) Q e σ = Q .normal e σ:=_root_.id rfl
@[go_sem ↓] def afI (l:Nat) (Q:AQ) (e:Env) (σ : ae):jm P (.goto l) Q e σ = Q (.goto l) e σ:=_root_.id rfl
def ZI{c:dy}{Q:AQ}{e:Env}{σ : ae}(P:Program)(_:Tg (c,Q,e,σ)): Prop:=Zz (jm P c) Q e σ
@[go_sem ↓] def afJ (c:dy) (Q:AQ) (e:Env) (σ : ae):jm P (.loop c) Q e σ = ZI P (.mk:Tg (c,Q,e,σ)):=_root_.id rfl
def Nk{l:Nat}{c r:dy}{Q:AQ}{e:Env}{σ : ae}(P:Program)(_:Tg (l,c,r,Q,e,σ)): Prop:=UZ l (jm P c) (jm P r) Q e σ
@[go_sem ↓] def aeK (l:Nat) (c r:dy) (Q:AQ) (e:Env) (σ : ae):jm P (.scope l c r) Q e σ = Nk P (.mk:Tg (l,c,r,Q,e,σ)):=_root_.id rfl
@[go_sem ↓] def ab0 (K:Env->ae->Prop) (Q:AQ) (e:Env) (σ : ae):sV K Q .normal e σ = K e σ:=_root_.id rfl
@[go_sem ↓] def ad7 (K:Env->ae->Prop) (Q:AQ) (i:Nat) (e:Env) (σ : ae):sV K Q (.exit i) e σ = Q (.exit i) e σ:=_root_.id rfl
@[go_sem ↓] def aeL (K:Env->ae->Prop) (Q:AQ) (e:Env) (σ : ae):sV K Q .ret e σ = Q .ret e σ:=_root_.id rfl
@[go_sem ↓] def ad8 (K:Env->ae->Prop) (Q:AQ) (l:Nat) (e:Env) (σ : ae):sV K Q (.goto l) e σ = Q (.goto l) e σ:=_root_.id rfl
@[go_sem ↓] def adC (K:Env->ae->Prop) (Q:AQ) (v:AV) (e:Env) (σ : ae):sV K Q (.panic v) e σ = Q (.panic v) e σ:=_root_.id rfl
@[go_sem ↓] def abw (id:Nat) (Q:AQ) (e:Env) (σ : ae):sW id Q .normal e σ = Q .normal e σ:=_root_.id rfl
@[go_sem ↓] def ad9 (id:Nat) (Q:AQ) (e:Env) (σ : ae):sW id Q .ret e σ = Q .ret e σ:=_root_.id rfl
@[go_sem ↓] def ab1 (id:Nat) (Q:AQ) (v:AV) (e:Env) (σ : ae):sW id Q (.panic v) e σ = Q (.panic v) e σ:=_root_.id rfl
def DV(c:Bool){T E:Prop}(_:Tg (T,E)): Prop:=if c then T else E
@[go_sem] def agO (T E:Prop):DV true (.mk:Tg (T,E))=T:=by simp[DV]
@[go_sem] def agP (T E:Prop):DV false (.mk:Tg (T,E))=E:=by simp[DV]
@[go_sem ↓] def adD (id i : Nat) (Q : AQ) (e : Env) (σ : ae) : sW id Q (.exit i) e σ = DV (i == id) (.mk : Tg (Q .normal e σ, Q (.exit i) e σ)) := by
  simp only[sW,DV,beq_iff_eq]
@[go_sem ↓] def ab2 (jK:List (AX × AX)) (Q:AQ) (e:Env) (σ : ae):j4 jK Q .normal e σ = req (pK jK e) (.mk:Tg (Q .normal e σ)):=dV _ _
@[go_sem ↓] def adE (Q:AQ) (v:AV) (e:Env) (σ : ae):j4 [] Q (.panic v) e σ = Q (.panic v) e σ:=_root_.id rfl
@[go_sem ↓] def ad_ (Q:AQ) (e:Env) (σ : ae):ff P Q [] e σ = Q .normal e σ:=_root_.id rfl
@[go_sem ↓] def adF (Q:AQ) (o:br) (d:Option Nat) (r:List cL) (e:Env) (σ : ae) :
 ff P Q (⟨o,d,none⟩::r) e σ = o.run P e σ (fun v σ'=>kR v (.mk:Tg fun v=>Af σ' (.mk:Tg fun σ'=>ff P Q r (fm e d v) σ'))) (fun v σ'=>Q (.panic v) e σ'):=rfl
def mU(v:AV)(b:Bool){T E U:Prop}(_:Tg (T,E,U)): Prop :=
 match v with
 | .bool t=>(t=b->T)/\(t = !b->E)
 | .bU []=>U
 | _=>False
@[go_sem] def aeM (T E U:Prop):mU (.bool true) true (.mk:Tg (T,E,U))=T:=by simp[mU]
@[go_sem] def aeN (T E U:Prop):mU (.bool false) false (.mk:Tg (T,E,U))=T:=by simp[mU]
@[go_sem] def aeO (T E U:Prop):mU (.bool true) false (.mk:Tg (T,E,U))=E:=by simp[mU]
@[go_sem] def aeP (T E U:Prop):mU (.bool false) true (.mk:Tg (T,E,U))=E:=by simp[mU]
@[go_sem] def afK (b:Bool) (T E U:Prop):mU (.bU []) b (.mk:Tg (T,E,U))=U:=by simp[mU]
def XQ{t b:Bool}{T E U:Prop}(h:t=b->T)(h':t = !b->E): mU (.bool t) b (.mk:Tg (T,E,U)):=⟨h,h'⟩
@[go_sem ↓] def ab3 (Q:AQ) (o:br) (d:Option Nat) (k:Nat) (b:Bool) (r:List cL) (e:Env) (σ : ae) :
 ff P Q (⟨o,d,some (k,b)⟩::r) e σ = mU (e k) b (.mk:Tg (o.run P (fm e (some k) (.bool b)) σ (fun v σ'=>kR v (.mk:Tg fun v=>Af σ' (.mk:Tg fun σ'=>ff P Q r (fm (fm e (some k) (.bool b)) d v) σ'))) (fun v σ'=>Q (.panic v) (fm e (some k) (.bool b)) σ'),
  ff P Q r (fm (fm e (some k) (.bool (!b))) d (.bU [])) σ,ff P Q r (fm e d (.bU [])) σ)):=by
  simp only[ff,mU,kR,Af];cases e k<;>rfl
section
variable (e:Env) (σ : ae) (K Kp:AV->ae->Prop)
@[go_sem ↓] def ahn (x:AX):br.run P (.mv x) e σ K Kp=K (x.ev e) σ:=_root_.id rfl
@[go_sem ↓] def aeQ (cs:List AV):br.run P (.alloc none cs) e σ K Kp=K (.ref σ.length 0) (σ++[.cells cs]):=_root_.id rfl
@[go_sem ↓] def aea (T:TypeId) (cs:List AV):br.run P (.alloc (some T) cs) e σ K Kp=K (.ref σ.length 0) (σ++[.cg (some T) cs]):=_root_.id rfl
@[go_sem ↓] def aeR (el:El):br.run P (.lp el) e σ K Kp=K (.own el σ.length 0 0 0) (σ++[.vec el []]):=_root_.id rfl
def ZJ(T:TypeId)(v:AV)(σ : ae){K:AV->ae->Prop}(_:Tg K): Prop:=v.cells.all AV.scalar=true/\K (.ref σ.length 0) (σ++[.cg (some T) v.cells])
@[go_sem ↓] def afL (T:TypeId) (x:AX):br.run P (.wU T x) e σ K Kp=ZJ T (x.ev e) σ (.mk:Tg K):=_root_.id rfl
@[go_sem] def afM (T:TypeId) (v:AV) (K:AV->ae->Prop):ZJ T v σ (.mk:Tg K)=req (v.cells.all AV.scalar=true) (.mk:Tg (K (.ref σ.length 0) (σ++[.cg (some T) v.cells]))):=dV _ _
@[go_sem ↓] def afN (f:Fn) (a b:List AX):br.run P (.wS f a b) e σ K Kp=K (.fn f (a.map (AX.ev e)) (b.map (AX.ev e))) σ:=_root_.id rfl
def wU(v:AV)(σ : ae){K:AV->ae->Prop}(_:Tg K): Prop:=v.cells.all AV.scalar=true/\K (.ref σ.length 0) (σ++[.cells v.cells])
@[go_sem ↓] def agQ (x:AX):br.run P (.box x) e σ K Kp=wU (x.ev e) σ (.mk:Tg K):=_root_.id rfl
def SE(c a b:AV){K:AV->Prop}(_:Tg K): Prop:=match c with | .bool t=>K (if t then a else b)|_=>False
@[go_sem ↓] def afO (c a b : AX) : br.run P (.pick c a b) e σ K Kp = SE (c.ev e) (a.ev e) (b.ev e) (.mk : Tg fun v => K v σ) := by
  simp only[br.run,SE];rfl
def loadT(σ : ae)(ag:Bool)(n:Nat)(p:AV){K:AV->Prop}(_:Tg K): Prop:=iI σ ag n p K
def storeT(σ : ae)(n:Nat)(p v:AV){K:ae->Prop}(_:Tg K): Prop:=nT σ n p v K
def ig(op:BinOp)(x y:AV){K:AV->Prop}(_:Tg K): Prop:=jJ op x y K
def unT(op:UnOp)(x:AV){K:AV->Prop}(_:Tg K): Prop:=BV op x K
@[go_sem ↓] def run_load (ag:Bool) (n:Nat) (x:AX):br.run P (.load ag n x) e σ K Kp=loadT σ ag n (x.ev e) (.mk:Tg fun v=>K v σ):=_root_.id rfl
@[go_sem ↓] def run_store (n:Nat) (x v:AX):br.run P (.store n x v) e σ K Kp=storeT σ n (x.ev e) (v.ev e) (.mk:Tg fun σ'=>K (.bU []) σ'):=_root_.id rfl
@[go_sem ↓] def agR (op:BinOp) (x y:AX):br.run P (.bin op x y) e σ K Kp=ig op (x.ev e) (y.ev e) (.mk:Tg fun v=>K v σ):=_root_.id rfl
@[go_sem ↓] def aho (op:UnOp) (x:AX):br.run P (.un op x) e σ K Kp=unT op (x.ev e) (.mk:Tg fun v=>K v σ):=_root_.id rfl
def I3 (s : Bool) (x : AV) {K : AV -> Prop} (_ : Tg K) : Prop := match s, x with
    | true,.str s=>K (.int .i64 s.length)
    | false,.au=>K (.int .i64 0)
    | false,.aO _ _ xs=>K (.int .i64 xs.length)
    | false,.own _ _ _ _ n=>K (.int .i64 n)
    | _,_=>False
@[go_sem ↓] def agS (s : Bool) (x : AX) : br.run P (.len s x) e σ K Kp = I3 s (x.ev e) (.mk : Tg fun v => K v σ) := by
  simp only[br.run,I3];rfl
def XR(x:AV)(i:Nat){K:AV->Prop}(_:Tg K): Prop:=match x with | .bU vs=>i<vs.length/\K (vs.getD i .undef)|_=>False
@[go_sem ↓] def agT (x : AX) (i : Nat) : br.run P (.ext x i) e σ K Kp = XR (x.ev e) i (.mk : Tg fun v => K v σ) := by
  simp only[br.run,XR];rfl
def Ah(op:Bool)(x:AV)(xs:List AV){K:AV->Prop}(_:Tg K): Prop:=rE op x xs K
@[go_sem ↓] def agU (x:AX) (xs:List AX):br.run P (.min x xs) e σ K Kp=Ah true (x.ev e) (xs.map (AX.ev e)) (.mk:Tg fun v=>K v σ):=_root_.id rfl
@[go_sem ↓] def agV (x:AX) (xs:List AX):br.run P (.max x xs) e σ K Kp=Ah false (x.ev e) (xs.map (AX.ev e)) (.mk:Tg fun v=>K v σ):=_root_.id rfl
def Nl(K Kp:AV->ae->Prop): Out->ae->Prop
 | .ret r,σ=>K r σ
 | .panic r,σ=>Kp r σ
def DW (P : Program) (q : Bool) (f : AV) (args : List AV) (σ : ae) {K Kp : AV -> ae -> Prop} (_ : Tg (K, Kp)) : Prop := match f with
    | .fn (.func n) first cap =>
      if q then ∃ r,(∀ τ,xU P n (first++args++cap) (σ++ τ) r)/\K r σ
      else cR P n (first++args++cap) σ (Nl K Kp)
    | .qS l=>if q then False else sM P l args σ (Nl K Kp)
    | _=>False
@[go_sem ↓] def afP (q : Bool) (f : AX) (args : List AX) : br.run P (.call q f args) e σ K Kp = DW P q (f.ev e) (args.map (AX.ev e)) σ (.mk : Tg (K, Kp)) := by
  simp only[br.run,DW];rfl
def x7{n:Int}(h : -9223372036854775808<=n)(h':n<=9223372036854775807): eK .i64 n=n:=IntWalk.i64_in n ⟨h,h'⟩
@[go_sem] def ahp (a b:AV) (K:AV->Prop):SE (.bool true) a b (.mk:Tg K)=kR a (.mk:Tg K):=_root_.id rfl
@[go_sem] def ahq (a b:AV) (K:AV->Prop):SE (.bool false) a b (.mk:Tg K)=kR b (.mk:Tg K):=_root_.id rfl
@[go_sem] def agW (v:AV) (K:AV->ae->Prop):wU v σ (.mk:Tg K)=req (v.cells.all AV.scalar=true) (.mk:Tg (K (.ref σ.length 0) (σ++[.cells v.cells]))):=dV _ _
variable (k:IntKind) (a b:Int) (s t:List UInt8) (p q:Bool) (K:AV->Prop)
@[go_sem] def afQ:ig .add (.int k a) (.int k b) (.mk:Tg K)=K (.int k (eK k (a+b))):=by simp[ig,jJ]
@[go_sem] def afR:ig .sub (.int k a) (.int k b) (.mk:Tg K)=K (.int k (eK k (a-b))):=by simp[ig,jJ]
@[go_sem] def afS:ig .mul (.int k a) (.int k b) (.mk:Tg K)=K (.int k (eK k (a*b))):=by simp[ig,jJ]
@[go_sem] def afT:ig .quo (.int k a) (.int k b) (.mk:Tg K)=req (b≠0) (.mk:Tg (K (.int k (eK k (a.tdiv b))))):=by rw[<-dV];simp[ig,jJ]
@[go_sem] def afU:ig .rem (.int k a) (.int k b) (.mk:Tg K)=req (b≠0) (.mk:Tg (K (.int k (a.tmod b)))):=by rw[<-dV];simp[ig,jJ]
@[go_sem] def afV:ig .eql (.int k a) (.int k b) (.mk:Tg K)=K (.bool (a==b)):=by simp[ig,jJ]
@[go_sem] def afW:ig .neq (.int k a) (.int k b) (.mk:Tg K)=K (.bool (!(a==b))):=by simp[ig,jJ]
@[go_sem] def afX:ig .lss (.int k a) (.int k b) (.mk:Tg K)=K (.bool (decide (a<b))):=by simp[ig,jJ]
@[go_sem] def afY:ig .leq (.int k a) (.int k b) (.mk:Tg K)=K (.bool (decide (a<=b))):=by simp[ig,jJ]
@[go_sem] def afZ:ig .gtr (.int k a) (.int k b) (.mk:Tg K)=K (.bool (decide (b<a))):=by simp[ig,jJ]
@[go_sem] def af0:ig .geq (.int k a) (.int k b) (.mk:Tg K)=K (.bool (decide (b<=a))):=by simp[ig,jJ]
@[go_sem] def aeS:ig .add (.str s) (.str t) (.mk:Tg K)=req (((s.length+t.length:Nat):Int)<=IntKind.i64.max) (.mk:Tg (K (.str (s++t)))):=by rw[<-dV];simp[ig,jJ]
@[go_sem] def aeT:ig .eql (.str s) (.str t) (.mk:Tg K)=K (.bool (s==t)):=by simp[ig,jJ]
@[go_sem] def aeU:ig .neq (.str s) (.str t) (.mk:Tg K)=K (.bool (!(s==t))):=by simp[ig,jJ]
@[go_sem] def agX:unT .not (.bool p) (.mk:Tg K)=K (.bool (!p)):=_root_.id rfl
@[go_sem] def ahr:I3 true (.str s) (.mk:Tg K)=K (.int .i64 s.length):=_root_.id rfl
@[go_sem] def aeV:I3 false .au (.mk:Tg K)=K (.int .i64 0):=_root_.id rfl
@[go_sem] def af1 (f:Bool) (el:El) (xs:List AV):I3 false (.aO f el xs) (.mk:Tg K)=K (.int .i64 xs.length):=_root_.id rfl
@[go_sem] def af2 (el:El) (l m lo n:Nat):I3 false (.own el l m lo n) (.mk:Tg K)=K (.int .i64 n):=_root_.id rfl
@[go_sem] def af3 (vs:List AV) (i:Nat):XR (.bU vs) i (.mk:Tg K)=req (i<vs.length) (.mk:Tg (K (vs.getD i .undef))):=dV _ _
@[go_sem] def aeW (op:Bool) (x:AV):Ah op x [] (.mk:Tg K)=K x:=_root_.id rfl
@[go_sem] def agY (ys:List AV):Ah true (.int k a) (.int k b::ys) (.mk:Tg K)=Ah true (.int k (if b<a then b else a)) ys (.mk:Tg K):=_root_.id rfl
@[go_sem] def agZ (ys:List AV):Ah false (.int k a) (.int k b::ys) (.mk:Tg K)=Ah false (.int k (if a<b then b else a)) ys (.mk:Tg K):=_root_.id rfl
@[go_sem ↓] def af4 (K:List AV->Prop):qI e σ [] K=K []:=_root_.id rfl
@[go_sem ↓] def af5 (t:Nat) (r:List sZ) (K:List AV->Prop):qI e σ (.tmp t::r) K=qI e σ r fun vs=>K (e t::vs):=_root_.id rfl
end
end Go.AM
namespace Go.AM
variable {P:Program}
section
variable (e:Env) (σ : ae) (K Kp:AV->ae->Prop)
def Ai(o:Option aZ)(off:Nat)(ag:Bool)(n:Nat){K:AV->Prop}(_:Tg K): Prop:=match o with
 | some (.cg _ cs)=>off+n<=cs.length/\(ag=false->n=1)/\K (if ag then .agg ((cs.drop off).take n)else cs.getD off .undef)
 | _=>False
@[go_sem] def aeX (ag:Bool) (n l off:Nat) (K:AV->Prop):loadT σ ag n (.ref l off) (.mk:Tg K)=Ai (σ[l]?) off ag n (.mk:Tg K):=_root_.id rfl
@[go_sem] def ag0 (cs : List AV) (off n : Nat) (K : AV -> Prop) : Ai (some (.cells cs)) off false n (.mk : Tg K) = req (off + n <= cs.length /\ n = 1) (.mk : Tg (K (cs.getD off .undef))) := by
  rw[<-dV];simp[Ai,and_assoc]
@[go_sem] def ag1 (cs : List AV) (off n : Nat) (K : AV -> Prop) : Ai (some (.cells cs)) off true n (.mk : Tg K) = req (off + n <= cs.length) (.mk : Tg (K (.agg ((cs.drop off).take n)))) := by
  rw[<-dV];simp[Ai]
@[go_sem] def af6 (T : TypeId) (cs : List AV) (off n : Nat) (K : AV -> Prop) : Ai (some (.cg (some T) cs)) off false n (.mk : Tg K) = req (off + n <= cs.length /\ n = 1) (.mk : Tg (K (cs.getD off .undef))) := by
  rw[<-dV];simp[Ai,and_assoc]
def Ch(σ : ae)(l:Nat)(o:Option aZ)(off n:Nat)(v:AV){K:ae->Prop}(_:Tg K): Prop:=v.cells.length=n/\v.cells.all AV.scalar=true/\match o with
 | some (.cg T cs)=>off+n<=cs.length/\K (σ.set l (.cg T (eE cs off v.cells)))
 | _=>False
@[go_sem] def aeb (n l off:Nat) (v:AV) (K:ae->Prop):storeT σ n (.ref l off) v (.mk:Tg K)=Ch σ l (σ[l]?) off n v (.mk:Tg K):=_root_.id rfl
@[go_sem] def af7 (l : Nat) (cs : List AV) (off n : Nat) (v : AV) (K : ae -> Prop) : Ch σ l (some (.cells cs)) off n v (.mk : Tg K) = req (v.cells.length = n /\ v.cells.all AV.scalar = true /\ off + n <= cs.length) (.mk : Tg (K (σ.set l (.cells (eE cs off v.cells))))) := by
  rw[<-dV];simp[Ch,and_assoc]
@[go_sem] def aeY (l : Nat) (T : TypeId) (cs : List AV) (off n : Nat) (v : AV) (K : ae -> Prop) : Ch σ l (some (.cg (some T) cs)) off n v (.mk : Tg K) = req (v.cells.length = n /\ v.cells.all AV.scalar = true /\ off + n <= cs.length) (.mk : Tg (K (σ.set l (.cg (some T) (eE cs off v.cells))))) := by
  rw[<-dV];simp[Ch,and_assoc]
def d_(P:Program)(o:br)(σ : ae){K Kp:AV->ae->Prop}(_:Tg (K,Kp)): Prop:=o.run P (fun _=> .undef) σ K Kp
@[go_sem ↓] def aeZ (off:Nat) (x:AX):br.run P (.po off x) e σ K Kp=d_ P (.po off (.c (x.ev e))) σ (.mk:Tg (K,Kp)):=_root_.id rfl
@[go_sem ↓] def ae0 (x:AX):br.run P (.qd x) e σ K Kp=d_ P (.qd (.c (x.ev e))) σ (.mk:Tg (K,Kp)):=_root_.id rfl
@[go_sem ↓] def ae1 (ag:Bool) (off n:Nat) (x:AX):br.run P (.field ag off n x) e σ K Kp=d_ P (.field ag off n (.c (x.ev e))) σ (.mk:Tg (K,Kp)):=_root_.id rfl
@[go_sem ↓] def ae2 (el:El) (arr:Option Nat) (x i:AX):br.run P (.gG el arr x i) e σ K Kp=d_ P (.gG el arr (.c (x.ev e)) (.c (i.ev e))) σ (.mk:Tg (K,Kp)):=_root_.id rfl
@[go_sem ↓] def af8 (x i:AX):br.run P (.j_ x i) e σ K Kp=d_ P (.j_ (.c (x.ev e)) (.c (i.ev e))) σ (.mk:Tg (K,Kp)):=_root_.id rfl
@[go_sem ↓] def af9 (el:El) (n:Nat) (x i:AX):br.run P (.yJ el n x i) e σ K Kp=d_ P (.yJ el n (.c (x.ev e)) (.c (i.ev e))) σ (.mk:Tg (K,Kp)):=_root_.id rfl
@[go_sem ↓] def af_ (k:IntKind) (x:AX):br.run P (.nw k x) e σ K Kp=d_ P (.nw k (.c (x.ev e))) σ (.mk:Tg (K,Kp)):=_root_.id rfl
@[go_sem ↓] def ag2 (x:AX):br.run P (.uZ x) e σ K Kp=d_ P (.uZ (.c (x.ev e))) σ (.mk:Tg (K,Kp)):=_root_.id rfl
@[go_sem ↓] def adG (el:El) (z:AV) (x i:AX):br.run P (.nS el z x i) e σ K Kp=d_ P (.nS el z (.c (x.ev e)) (.c (i.ev e))) σ (.mk:Tg (K,Kp)):=_root_.id rfl
@[go_sem ↓] def I4 (T:Option TypeId) (el:El) (x i:AX):br.run P (.app T el x i) e σ K Kp=d_ P (.app T el (.c (x.ev e)) (.c (i.ev e))) σ (.mk:Tg (K,Kp)):=_root_.id rfl
@[go_sem ↓] def ag3 (ng ag:Bool) (ks:List Kd) (x i:AX):br.run P (.r_ ng ag ks x i) e σ K Kp=d_ P (.r_ ng ag ks (.c (x.ev e)) (.c (i.ev e))) σ (.mk:Tg (K,Kp)):=_root_.id rfl
@[go_sem ↓] def ae3 (ng:Bool) (k:NK) (x i:AX):br.run P (.qf ng k x i) e σ K Kp=d_ P (.qf ng k (.c (x.ev e)) (.c (i.ev e))) σ (.mk:Tg (K,Kp)):=_root_.id rfl
@[go_sem ↓] def ag4 (el:El) (x:AX):br.run P (.Bf el x) e σ K Kp=d_ P (.Bf el (.c (x.ev e))) σ (.mk:Tg (K,Kp)):=_root_.id rfl
@[go_sem ↓] def aga (T:TypeId) (x i:AX):br.run P (.wT T x i) e σ K Kp=d_ P (.wT T (.c (x.ev e)) (.c (i.ev e))) σ (.mk:Tg (K,Kp)):=_root_.id rfl
@[go_sem ↓] def ag5 (x:AX):br.run P (.Gt x) e σ K Kp=d_ P (.Gt (.c (x.ev e))) σ (.mk:Tg (K,Kp)):=_root_.id rfl
@[go_sem ↓] def ag6 (u:TypeId) (x:AX):br.run P (.Gu u x) e σ K Kp=d_ P (.Gu u (.c (x.ev e))) σ (.mk:Tg (K,Kp)):=_root_.id rfl
@[go_sem ↓] def ag7 (ng:Bool) (x i:AX):br.run P (.Es ng x i) e σ K Kp=d_ P (.Es ng (.c (x.ev e)) (.c (i.ev e))) σ (.mk:Tg (K,Kp)):=_root_.id rfl
def cO(e:Env): Option AX->Option AX
 | none=>none
 | some x=>some (.c (x.ev e))
@[go_sem] def ag8:cO e none=none:=_root_.id rfl
@[go_sem] def ag9 (x:AX):cO e (some x)=some (.c (x.ev e)):=_root_.id rfl
@[go_sem ↓] def ag_ (x : AX) (lo hi : Option AX) : br.run P (.pH x lo hi) e σ K Kp = d_ P (.pH (.c (x.ev e)) (cO e lo) (cO e hi)) σ (.mk : Tg (K, Kp)) := by
  cases lo<;>cases hi<;>rfl
@[go_sem ↓] def aha (el : El) (x : AX) (lo hi : Option AX) : br.run P (.tS el x lo hi) e σ K Kp = d_ P (.tS el (.c (x.ev e)) (cO e lo) (cO e hi)) σ (.mk : Tg (K, Kp)) := by
  cases lo<;>cases hi<;>rfl
variable (k k':IntKind) (a b:Int) (s t:List UInt8) (el:El) (xs cs:List AV) (l m lo n off i:Nat) (f:Bool)
@[go_sem] def ab4:d_ P (.po off (.c (.ref l i))) σ (.mk:Tg (K,Kp))=K (.ref l (i+off)) σ:=_root_.id rfl
@[go_sem] def abx (x:AV):d_ P (.po off (.c (.dY el x i))) σ (.mk:Tg (K,Kp))=K (.dY el x (i+off)) σ:=_root_.id rfl
@[go_sem] def aby (j:Nat):d_ P (.po off (.c (.eJ el l m j i))) σ (.mk:Tg (K,Kp))=K (.eJ el l m j (i+off)) σ:=_root_.id rfl
@[go_sem] def ab5:d_ P (.qd (.c (.ref l i))) σ (.mk:Tg (K,Kp))=K (.ref l i) σ:=_root_.id rfl
@[go_sem] def aec : d_ P (.field false off n (.c (.agg cs))) σ (.mk : Tg (K, Kp)) = req (off + n <= cs.length /\ n = 1) (.mk : Tg (K (cs.getD off .undef) σ)) := by
  rw[<-dV];simp[d_,br.run,AX.ev,and_assoc]
@[go_sem] def ab6 : d_ P (.gG el none (.c (.aO f el xs)) (.c (.int k a))) σ (.mk : Tg (K, Kp)) = req (0 <= a /\ a < xs.length) (.mk : Tg (K (.dY el (xs.getD a.toNat .undef) 0) σ)) := by
  rw[<-dV];simp[d_,br.run,AX.ev,and_assoc]
@[go_sem] def ahb : d_ P (.j_ (.c (.str s)) (.c (.int k a))) σ (.mk : Tg (K, Kp)) = req (0 <= a /\ a < s.length) (.mk : Tg (K (.int .u8 (s.getD a.toNat 0).toNat) σ)) := by
  rw[<-dV];simp[d_,br.run,AX.ev,and_assoc]
@[go_sem] def ahc:d_ P (.nw k (.c (.int k' a))) σ (.mk:Tg (K,Kp))=K (.int k (eK k a)) σ:=_root_.id rfl
def toNat_le{a:Int}{n:Nat}(h:0<=a): (a<=((n:Nat):Int))=(a.toNat<=n):=by simp only[eq_iff_iff];omega
@[go_sem] def ae4 : d_ P (.pH (.c (.str s)) (some (.c (.int k a))) (some (.c (.int k' b)))) σ (.mk : Tg (K, Kp)) = req ((0 <= b /\ b <= s.length) /\ 0 <= a /\ a <= b) (.mk : Tg (K (.str ((s.drop a.toNat).take (b.toNat - a.toNat))) σ)) := by
  rw[<-dV];simp only[d_,br.run,AX.ev,bound,Option.map,and_assoc,eq_iff_iff];constructor
  ·rintro⟨h1,h2,h3,h4,h5⟩;exact⟨h1,h2,h3,by omega,h5⟩
  ·rintro⟨h1,h2,h3,h4,h5⟩;exact⟨h1,h2,h3,by omega,h5⟩
@[go_sem] def ae5 : d_ P (.pH (.c (.str s)) none (some (.c (.int k' b)))) σ (.mk : Tg (K, Kp)) = req (0 <= b /\ b <= s.length) (.mk : Tg (K (.str (s.take b.toNat)) σ)) := by
  rw[<-dV];simp only[d_,br.run,AX.ev,bound,Option.map,and_assoc,List.drop_zero,Nat.sub_zero]
@[go_sem] def ae6 : d_ P (.pH (.c (.str s)) (some (.c (.int k a))) none) σ (.mk : Tg (K, Kp)) = req (0 <= a /\ a <= s.length) (.mk : Tg (K (.str (s.drop a.toNat)) σ)) := by
  rw[<-dV];simp only[d_,br.run,AX.ev,bound,Option.map,and_assoc];have:(s.drop a.toNat).take (s.length-a.toNat)=s.drop a.toNat:=bp (by simp);rw[this]
def qj(P:Program)(n:FuncId)(args:List AV)(σ : ae){K Kp:AV->ae->Prop}(_:Tg (K,Kp)): Prop:=cR P n args σ (Nl K Kp)
def Aj(P:Program)(n:FuncId)(args:List AV)(σ : ae){K Kp:AV->ae->Prop}(_:Tg (K,Kp)): Prop:= ∃ r,(∀ τ,xU P n args (σ++ τ) r)/\K r σ
@[go_sem] def ahd (n : FuncId) (first args cap : List AV) : DW P false (.fn (.func n) first cap) args σ (.mk : Tg (K, Kp)) = qj P n (first ++ args ++ cap) σ (.mk : Tg (K, Kp)) := by
  simp[DW,qj]
@[go_sem] def ahe (n : FuncId) (first args cap : List AV) : DW P true (.fn (.func n) first cap) args σ (.mk : Tg (K, Kp)) = Aj P n (first ++ args ++ cap) σ (.mk : Tg (K, Kp)) := by
  simp[DW,Aj]
def Q7{n:FuncId}{args:List AV}{σ : ae}{K Kp:AV->ae->Prop}{r:AV}(h:∀ σ,xU P n args σ r)(hk:kR r (.mk:Tg fun r=>K r σ)): qj P n args σ (.mk:Tg (K,Kp)) :=
 (h σ).mono fun o s ⟨h1,h2⟩=>by subst h1;subst h2;exact hk
def Q8{n:FuncId}{args:List AV}{σ : ae}{K Kp:AV->ae->Prop}{r:AV}(h:∀ σ,xU P n args σ r)(hk:kR r (.mk:Tg fun r=>K r σ)): Aj P n args σ (.mk:Tg (K,Kp)):=⟨r,fun τ=>h _,hk⟩
def cA{n:FuncId}{args:List AV}{σ : ae}{K Kp:AV->ae->Prop}{R:Out->ae->Prop}(h:cR P n args σ R)(hk:∀ o s,R o s->Nl K Kp o s): qj P n args σ (.mk:Tg (K,Kp)):=h.mono hk
def Ci: List AV->List (Nat × Nat × AV)->(List AV->Prop)->Prop
 | z,[],K=>K z
 | z,(off,n,v)::r,K=>v.cells.length=n/\v.cells.all AV.scalar=true/\off+n<=z.length/\Ci (eE z off v.cells) r K
def Cj(z:List AV)(ps:List (Nat × Nat × AV)){K:List AV->Prop}(_:Tg K): Prop:=Ci z ps K
def KL(e:Env)(K:List AV->Prop): ∀(ps:List (Nat × Nat × AX)) (z:List AV),mu z e ps K=Ci z (ps.map fun p=>(p.1,p.2.1,p.2.2.ev e)) K
 | [],z=>rfl
 |(off,n,x)::r,z=>by simp only[mu,Ci,aU,KL e K r]
@[go_sem ↓] def run_build (z:List AV) (ps:List (Nat × Nat × AX)):br.run P (.build z ps) e σ K Kp=Cj z (ps.map fun p=>(p.1,p.2.1,p.2.2.ev e)) (.mk:Tg fun cs=>K (.agg cs) σ):=KL e _ ps z
@[go_sem] def aed (z:List AV) (K:List AV->Prop):Cj z [] (.mk:Tg K)=K z:=_root_.id rfl
@[go_sem] def adH (z : List AV) (off n : Nat) (v : AV) (r : List (Nat × Nat × AV)) (K : List AV -> Prop) : Cj z ((off, n, v) :: r) (.mk : Tg K) = req (v.cells.length = n /\ v.cells.all AV.scalar = true /\ off + n <= z.length) (.mk : Tg (Cj (eE z off v.cells) r (.mk : Tg K))) := by
  rw[<-dV];simp only[Cj,Ci,and_assoc]
def zc(el:El): List AV->List (Nat × AV)->(List AV->Prop)->Prop
 | z,[],K=>K z
 | z,(i,v)::r,K=>v.fits el=true/\i<z.length/\zc el (z.set i v) r K
def wN(el:El)(z:List AV)(ps:List (Nat × AV)){K:List AV->Prop}(_:Tg K): Prop:=zc el z ps K
def Ak(el:El)(e:Env)(K:List AV->Prop): ∀(ps:List (Nat × AX)) (z:List AV),lz el z e ps K=zc el z (ps.map fun p=>(p.1,p.2.ev e)) K
 | [],z=>rfl
 |(i,x)::r,z=>by simp only[lz,zc,aU,Ak el e K r]
@[go_sem ↓] def ab7 (el:El) (z:AV) (n:Nat) (ps:List (Nat × AX)):br.run P (.jI false el z n ps) e σ K Kp=wN el (List.replicate n z) (ps.map fun p=>(p.1,p.2.ev e)) (.mk:Tg fun xs=>K (.aO true el xs) σ):=Ak el e _ ps _
@[go_sem ↓] def ab8 (el:El) (z:AV) (n:Nat) (ps:List (Nat × AX)):br.run P (.jI true el z n ps) e σ K Kp=wN el (List.replicate n z) (ps.map fun p=>(p.1,p.2.ev e)) (.mk:Tg fun xs=>K (.own el σ.length n 0 n) (σ++[.vec el xs])):=Ak el e _ ps _
@[go_sem] def adI (z:List AV) (K:List AV->Prop):wN el z [] (.mk:Tg K)=K z:=_root_.id rfl
@[go_sem] def ab9 (z : List AV) (i : Nat) (v : AV) (r : List (Nat × AV)) (K : List AV -> Prop) : wN el z ((i, v) :: r) (.mk : Tg K) = req (v.fits el = true /\ i < z.length) (.mk : Tg (wN el (z.set i v) r (.mk : Tg K))) := by
  rw[<-dV];simp only[wN,zc,and_assoc]
def uQ(c:Bool)(el:El)(x:AV)(off:Nat)(ag:Bool)(n:Nat){K:AV->Prop}(_:Tg K): Prop:=c=(off==0 && n==el.sz && ag==el.ag)/\partOf el x off ag n K
@[go_sem] def aee (ag : Bool) (n : Nat) (el : El) (x : AV) (off : Nat) (K : AV -> Prop) : loadT σ ag n (.dY el x off) (.mk : Tg K) = uQ (off == 0 && n == el.sz && ag == el.ag) el x off ag n (.mk : Tg K) := by
  simp only[uQ,true_and];rfl
@[go_sem] def ahf (ag : Bool) (n : Nat) (x : AV) (K : AV -> Prop) : uQ true ⟨ag, n⟩ x 0 ag n (.mk : Tg K) = K x := by
  simp[uQ,partOf]
@[go_sem] def aat (el : El) (off n : Nat) (cs : List AV) (K : AV -> Prop) (h : (off == 0 && n == el.sz && false == el.ag) = false) : uQ false el (.agg cs) off false n (.mk : Tg K) = req (off + n <= el.sz /\ n = 1) (.mk : Tg (K (cs.getD off .undef))) := by
  have hn:¬ (off=0/\n=el.sz/\false=el.ag):=by rintro⟨h1,h2,h3⟩;subst h1;subst h2;rw[<-h3]at h;simp at h
  rw[<-dV];simp only[uQ,partOf,if_neg hn,h,true_and];simp only[aB,if_false,forall_const,eq_iff_iff];exact⟨fun⟨h1,h2,h3⟩=>⟨⟨h1,h3⟩,h2⟩,fun⟨⟨h1,h3⟩,h2⟩=>⟨h1,h2,h3⟩⟩
def Ck(σ : ae)(T:Option TypeId)(el:El)(o:Option aZ)(l m lo n:Nat)(ys:List AV){K:AV->ae->Prop}(_:Tg K): Prop:=match o with
 | some (.cz T' bj xs) => (T' = none \/ T' = T) /\ bj = el /\ m = xs.length /\ lo = 0 /\ n = xs.length /\ fR (xs.length + ys.length) el /\
    K (.own el l (xs.length+ys.length) 0 (xs.length+ys.length)) (σ.set l (.cz T' el (xs++ys)))
 | _=>False
@[go_sem] def aef (T : Option TypeId) (ys : List AV) : d_ P (.app T el (.c (.own el l m lo n)) (.c (.aO f el ys))) σ (.mk : Tg (K, Kp)) = req (ys.all (fun a => a.fits el) = true) (.mk : Tg (Ck σ T el (σ[l]?) l m lo n ys (.mk : Tg K))) := by
  rw[<-dV];simp only[d_,br.run,AX.ev,oY,fP,Ck,true_and];rfl
@[go_sem] def ahg (T : Option TypeId) (xs ys : List AV) : Ck σ T el (some (.vec el xs)) l m lo n ys (.mk : Tg K) = req (m = xs.length /\ lo = 0 /\ n = xs.length /\ fR (xs.length + ys.length) el) (.mk : Tg (K (.own el l (xs.length + ys.length) 0 (xs.length + ys.length)) (σ.set l (.vec el (xs ++ ys))))) := by
  rw[<-dV];simp only[Ck,true_and,true_or,and_assoc]
@[go_sem] def agb (t : TypeId) (xs ys : List AV) : Ck σ (some t) el (some (.cz (some t) el xs)) l m lo n ys (.mk : Tg K) = req (m = xs.length /\ lo = 0 /\ n = xs.length /\ fR (xs.length + ys.length) el) (.mk : Tg (K (.own el l (xs.length + ys.length) 0 (xs.length + ys.length)) (σ.set l (.cz (some t) el (xs ++ ys))))) := by
  rw[<-dV];simp only[Ck,true_and,or_true,and_assoc]
@[go_sem] def adJ (y : AV) (ys : List AV) : d_ P (.app none el (.c .au) (.c (.aO f el (y :: ys)))) σ (.mk : Tg (K, Kp)) = req ((y :: ys).all (fun a => a.fits el) = true /\ fR (y :: ys).length el) (.mk : Tg (K (.own el σ.length (y :: ys).length 0 (y :: ys).length) (σ ++ [.vec el (y :: ys)]))) := by
  rw[<-dV];simp only[d_,br.run,AX.ev,oY,fP,true_and,List.length_cons,Nat.add_eq_zero_iff,Nat.one_ne_zero,and_false,if_false,and_assoc]
@[go_sem] def acd (t : TypeId) (y : AV) (ys : List AV) : d_ P (.app (some t) el (.c .au) (.c (.aO f el (y :: ys)))) σ (.mk : Tg (K, Kp)) = req ((y :: ys).all (fun a => a.fits el) = true /\ fR (y :: ys).length el) (.mk : Tg (K (.own el σ.length (y :: ys).length 0 (y :: ys).length) (σ ++ [.cz (some t) el (y :: ys)]))) := by
  rw[<-dV];simp only[d_,br.run,AX.ev,oY,fP,true_and,List.length_cons,Nat.add_eq_zero_iff,Nat.one_ne_zero,and_false,if_false,and_assoc]
def SG{T:Option TypeId}{xs:List AV}(h : σ[l]? = some (.cz T el xs))(hm:m=xs.length)(hn:0<n)(hk:K (.eJ el l m lo 0) σ): d_ P (.Bf el (.c (.own el l m lo n))) σ (.mk:Tg (K,Kp)):=by
 simp only[d_,br.run,AX.ev,h];exact⟨trivial,trivial,hm,hn,hk⟩
def PA(T:TypeId): d_ P (.wT T (.c .iX) (.c (.int .i64 0))) σ (.mk:Tg (K,Kp))=K (.str []) σ:=by
 simp[d_,br.run,AX.ev]
def PB {T : TypeId} {xs : List AV} (s : List UInt8) (h : σ[l]? = some (.cz (some T) ⟨false, 1⟩ xs)) (hm : m = xs.length) (hx : xs = s.map fun b => .int .u8 b.toNat) (h0 : s ≠ []) (h2 : s.length <= 2 ^ 62) (ha : a = (s.length : Int)) (hk : K (.str s) (σ.set l .dead)) :
    d_ P (.wT T (.c (.eJ ⟨false,1⟩ l m 0 0)) (.c (.int .i64 a))) σ (.mk:Tg (K,Kp)):=by
 subst hx;subst ha;have h1:0<s.length:=List.length_pos_iff.2 h0;simp only[d_,br.run,AX.ev,h];refine⟨trivial,trivial,trivial,trivial,hm,by omega,by simp,by simpa using h2,s,?_,hk⟩;rw[bp (by simp)]
def ace{T:Option TypeId}(h : σ[l]? = some (.cg T cs))(hlt:off<cs.length)(hk:K (.ref l off) σ): d_ P (.Gt (.c (.ref l off))) σ (.mk:Tg (K,Kp)):=by
 simp only[d_,br.run,AX.ev,h];exact⟨hlt,hk⟩
def acf{T u:TypeId}(h : σ[l]? = some (.cg (some T) cs))(hlt:liesAt P P.depth T (cs.length / P.cellsOf T) off u 1=true)(hk:K (.ref l off) σ): d_ P (.Gu u (.c (.ref l off))) σ (.mk:Tg (K,Kp)):=by
 simp only[d_,br.run,AX.ev,h];exact⟨hlt,hk⟩
def acg{T:Option TypeId}(ng:Bool)(h : σ[l]? = some (.cg T cs))(hk:K (.bool ng.not) σ): d_ P (.Es ng (.c (.ref l off)) (.c (.ref l off))) σ (.mk:Tg (K,Kp)):=by
 simp only[d_,br.run,AX.ev,h];exact⟨trivial,trivial,hk⟩
def Vf (P : Program) (g : FuncId) (v : AV) (σ : ae) {K : AV → ae → Prop} (_ : Tg K) : Prop := (∃ fn, P.funcs[g]? = some fn ∧ (fn.name == "runtime.NumGoroutine") = false ∧ fn.body.isNone = true ∧ Extern.findNext fn = none ∧ Extern.find fn = some Extern.AbiNoEscape.same) ∧ K v σ
@[go_sem ↓] def ae7 (g:FuncId) (x:AX):br.run P (.DL g x) e σ K Kp=Vf P g (x.ev e) σ (.mk:Tg K):=_root_.id rfl
def XS(ng:Bool)(k:NK)(x y:AV): d_ P (.qf ng k (.c x) (.c y)) σ (.mk:Tg (K,Kp))=(match om k x y with|some b=>K (.bool (if ng then !b else b)) σ | none=>False):=rfl
def XT(ng:Bool)(ks:List Kd)(xs ys:List AV): d_ P (.r_ ng true ks (.c (.agg xs)) (.c (.agg ys))) σ (.mk:Tg (K,Kp))=(match iH ks xs ys with|some b=>K (.bool (if ng then !b else b)) σ | none=>False):=rfl
@[go_sem] def aeg (z : AV) : d_ P (.nS el z (.c (.int .i64 a)) (.c (.int .i64 b))) σ (.mk : Tg (K, Kp)) = req (z.fits el = true /\ 0 <= a /\ a <= b /\ b * (el.sz + 1) <= 2 ^ 40) (.mk : Tg (K (.own el σ.length a.toNat 0 a.toNat) (σ ++ [.vec el (List.replicate a.toNat z)]))) := by
  rw[<-dV];simp only[d_,br.run,AX.ev,and_assoc]
@[go_sem] def abz (xs : List AV) : d_ P (.tS el (.c (.aO f el xs)) none (some (.c (.int k' b)))) σ (.mk : Tg (K, Kp)) = req (0 <= b /\ b <= xs.length) (.mk : Tg (K (.aO false el (xs.take b.toNat)) σ)) := by
  rw[<-dV];simp only[d_,br.run,AX.ev,bound,Option.map,and_assoc,true_and,List.drop_zero,Nat.sub_zero]
end
end Go.AM
namespace Go.AM
variable {P:Program}
def KM(ms:List Nat)(r e:Env): Env:=fun t=>if ms.contains t then r t else e t
def puts: List (Nat × AV)->Env->Env
 | [],e=>e
 |(d,v)::l,e=>fm (puts l e) (some d) v
@[go_sem ↓] def XU (e:Env):puts [] e=e:=_root_.id rfl
@[go_sem ↓] def Vg (d:Nat) (v:AV) (l:List (Nat × AV)) (e:Env):puts ((d,v)::l) e=fm (puts l e) (some d) v:=_root_.id rfl
@[go_sem ↓] def ahh (ms:List Nat) (r e:Env) (t:Nat):KM ms r e t=GX (ms.contains t) (.mk:Tg (r t,e t)):=_root_.id rfl
def Cl(ms:List Nat)(e e':Env): Prop:= ∀ t,ms.contains t=false->e' t=e t
def aau(ms:List Nat)(r e:Env): Cl ms e (KM ms r e):=fun t h=>by simp only[KM,h];rfl
def aav{ms:List Nat}{e e':Env}{d:Nat}{v:AV}(hd:ms.contains d=true)(h:Cl ms e e'): Cl ms e (fm e' (some d) v):=fun t ht=>by
 simp only[fm];split
 ·rename_i e1;subst e1;rw[hd]at ht;cases ht
 ·exact h t ht
def At(l:List (Nat × AV))(e:Env): Prop:= ∀ p ∈ l,e p.1=p.2
@[go_sem] def iS (e:Env):At [] e=True:=by simp[At]
@[go_sem] def gC (d:Nat) (v:AV) (l:List (Nat × AV)) (e:Env):At ((d,v)::l) e=(e d=v/\At l e):=by simp[At]
def Q9{ms:List Nat}{e e':Env}(ho:Cl ms e e'): ∀(l:List (Nat × AV)),At l e'->puts l (KM ms e' e)=e'
 | [], _ => by
   funext t
   simp only[puts,KM];split
   ·rfl
   ·rename_i h;exact(ho t (by simpa using h)).symm
 | (d, v) :: l, h => by
   simp only[puts];rw[Q9 ho l (fun p hp=>h p (bI _ hp))];exact nB (h (d,v) (by simp))
def oV{Q Q':AQ}(h:∀ ex e σ,Q ex e σ->Q' ex e σ): ∀(l:List cL) (e:Env) (σ : ae),ff P Q l e σ->ff P Q' l e σ
 | [],e,σ,hh=>h _ _ _ hh
 |⟨o,d,none⟩::r,e,σ,hh=>rM (fun v s=>oV h r _ _) (fun v s=>h _ _ _) hh
 | ⟨o, d, some (k, b)⟩ :: r, e, σ, hh => by
   simp only[ff]at hh ⊢;split at hh
   ·exact⟨fun ht=>rM (fun v s=>oV h r _ _) (fun v s=>h _ _ _) (hh.1 ht),fun ht=>oV h r _ _ (hh.2 ht)⟩
   ·exact oV h r _ _ hh
   ·exact hh
def GY{K K':Env->ae->Prop}{Q Q':AQ}(hk:∀ e σ,K e σ->K' e σ)(h:∀ ex e σ,Q ex e σ->Q' ex e σ): ∀ ex e σ,sV K Q ex e σ->sV K' Q' ex e σ
 | .normal,_,_=>hk _ _
 | .exit _,_,_=>h _ _ _
 | .goto _,_,_=>h _ _ _
 | .ret,_,_=>h _ _ _
 | .panic _,_,_=>h _ _ _
def Vh{nt:Nat}{ps:List Nat}{ca cb:Code}{f:AV}{a b:AQ->Env->ae->Prop}{Q Q':AQ}(h:∀ ex e σ,Q ex e σ->Q' ex e σ)(e:Env)(σ : ae): M6 P nt ps ca cb f a b Q e σ->M6 P nt ps ca cb f a b Q' e σ:=by
 unfold M6;split
 ·refine fun hh o ho hy=>(hh o ho hy).mono fun out s hq=>?_;cases out with
  | ret r =>
    obtain⟨st,pe,h1,h2,h3⟩:=hq;refine⟨st,pe,h1,h2,?_⟩;split at h3<;>first|exact h _ _ _ h3|exact h3
  | panic v=>exact h _ _ _ hq
 ·exact id
def SH{jK:List (AX × AX)}{Q Q':AQ}(h:∀ ex e σ,Q ex e σ->Q' ex e σ): ∀ ex e σ,j4 jK Q ex e σ->j4 jK Q' ex e σ:=fun ex e σ hq=>by
 cases ex with
 | normal=>exact⟨hq.1,h _ _ _ hq.2⟩
 | panic v =>
   simp only[j4]at hq ⊢;split at hq
   ·rename_i hf;rw[if_pos hf];exact fun e'=>h _ _ _ (hq e')
   ·rename_i hf;rw[if_neg hf];exact h _ _ _ hq
 | _=>exact h _ _ _ hq
def Al{c:dy}: ∀ {Q Q':AQ},(∀ ex e σ,Q ex e σ->Q' ex e σ)-> ∀(e:Env) (σ : ae),jm P c Q e σ->jm P c Q' e σ:=by
 induction c with
 | skip=>exact fun h e σ=>h _ _ _
 | region ops=>exact fun h e σ=>oV h ops e σ
 | draw ops jK=>exact fun h e σ=>oV (SH h) ops e σ
 | seq a b GS GU=>exact fun h e σ=>GS (GY (fun e σ=>GU h e σ) h) e σ
 | cond c a b GS GU =>
   intro Q Q' h e σ hh;simp only[jm]at hh ⊢;split at hh
   ·exact⟨fun ht=>GS h _ _ (hh.1 ht),fun ht=>GU h _ _ (hh.2 ht)⟩
   ·exact hh
 | block id c ih =>
   intro Q Q' h e σ;refine ih (fun ex e σ hq=>?_) e σ;cases ex<;>try exact h _ _ _ hq
   simp only[sW]at hq ⊢;split at hq
   ·rename_i e1;rw[if_pos e1];exact h _ _ _ hq
   ·rename_i e1;rw[if_neg e1];exact h _ _ _ hq
 | loop c ih =>
   rintro Q Q' h e σ ⟨I,hI,hr⟩;exact⟨I,hI,fun n e σ hi=>ih (GY (fun _ _ h=>h) h) _ _ (hr n e σ hi)⟩
 | exit id=>exact fun h e σ=>h _ _ _
 | ret=>exact fun h e σ=>h _ _ _
 | scope l c r KN ihr =>
   rintro Q Q' h e σ ⟨J,h1,h2⟩
   have hj:∀ (J:Env->ae->Prop) ex e σ,sX l J Q ex e σ->sX l J Q' ex e σ:=fun J ex e σ hq=>by
    cases ex<;>first|exact h _ _ _ hq|exact hq
   exact⟨J,KN (hj _) _ _ h1,fun n e σ hi=>ihr (hj _) _ _ (h2 n e σ hi)⟩
 | stop=>exact fun h e σ hh=>hh
 | iu f nt ps ca cb a b _ _=>exact fun h e σ=>Vh h e σ
 | label l=>exact fun h e σ=>h _ _ _
 | goto l=>exact fun h e σ=>h _ _ _
def ach{α : Type}(ms:List Nat)(cs : α->List (Nat × AV))(S : α->ae)(A : α->Prop)(μ : α->Nat)(e:Env)(x : α)(e':Env)(σ':ae): Prop :=
 ∃ x',A x'/\ μ x' < μ x/\σ'=S x'/\Cl ms e e'/\At (cs x') e'
def bX {c : dy} {Q : AQ} {e : Env} {σ : ae} {α : Type} (ms : List Nat) (cs : α -> List (Nat × AV)) (S : α -> ae) (A : α -> Prop) (μ : α -> Nat) (x0 : α) (h0 : A x0) (zd : σ = S x0) (pL : At (cs x0) e)
    (hr:∀ x r,A x->jm P c (sV (ach ms cs S A μ e x) Q) (puts (cs x) (KM ms r e)) (S x)):ZI P (.mk:Tg (c,Q,e,σ)):=by
 refine⟨fun n e' σ'=> ∃ x,A x/\Cl ms e e'/\At (cs x) e'/\σ'=S x/\ μ x=n,⟨_,x0,h0,fun _ _=>rfl,pL,zd,rfl⟩,?_⟩;rintro n e' σ' ⟨x1,a1,o1,t1,rfl,rfl⟩;have h:=hr x1 e' a1;rw[Q9 o1 _ t1]at h;refine Al (fun ex e2 σ2 hq=>?_) _ _ h;cases ex<;>try exact hq
 obtain⟨x',a',hm,hs,ho,ht⟩:=hq;exact⟨_,hm,x',a',ho,ht,hs,rfl⟩
