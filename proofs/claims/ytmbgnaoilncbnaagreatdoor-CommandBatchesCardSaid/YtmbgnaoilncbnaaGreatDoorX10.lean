/- Part. -/
import Derived.Test.YtmbgnaoilncbnaaGreatDoorX09
import Derived.IntWalk
set_option linter.all false
namespace Go.AM
variable {P:Program}
universe u
inductive Tg {α : Sort u} (K : α):Type where
 | mk
def jk(v:AV){K:AV->Prop}(_:Tg K): Prop:=K v
def vH(σ : aj){K:aj->Prop}(_:Tg K): Prop:=K σ
def ahd(v:List AV){K:List AV->Prop}(_:Tg K): Prop:=K v
def ahe(v:Option aX){K:Option aX->Prop}(_:Tg K): Prop:=K v
@[go_sem] def ai0 (v:AV) (K:AV->Prop):jk v (.mk:Tg K)=K v:=_root_.id rfl
@[go_sem] def ai1 (v:aj) (K:aj->Prop):vH v (.mk:Tg K)=K v:=_root_.id rfl
@[go_sem] def ai2 (v:List AV) (K:List AV->Prop):ahd v (.mk:Tg K)=K v:=_root_.id rfl
@[go_sem] def ai3 (v:Option aX) (K:Option aX->Prop):ahe v (.mk:Tg K)=K v:=_root_.id rfl
def req(p:Prop){K:Prop}(_:Tg K): Prop:=p/\(p->K)
@[go_sem] def ai4 (K:Prop):req True (.mk:Tg K)=K:=by simp[req]
def b_(p K:Prop): (p/\K)=req p (.mk:Tg K):=by simp only[req];exact propext ⟨fun h=>⟨h.1,fun _=>h.2⟩,fun h=>⟨h.1,h.2 h.1⟩⟩
@[go_sem ↓] def alw (e:Env) (n:Nat):AX.ev e (.t n)=e n:=_root_.id rfl
@[go_sem ↓] def alx (e:Env) (a:AV):AX.ev e (.c a)=a:=_root_.id rfl
def PI(c:Bool){a b:AV}(_:Tg (a,b)): AV:=if c then a else b
@[go_sem] def akc (a b:AV):PI true (.mk:Tg (a,b))=a:=_root_.id rfl
@[go_sem] def akd (a b:AV):PI false (.mk:Tg (a,b))=b:=_root_.id rfl
@[go_sem ↓] def ake (e : Env) (d : Nat) (v : AV) (n : Nat) : fC e (some d) v n = PI (n == d) (.mk : Tg (v, e n)) := by
  simp only[fC,PI,beq_iff_eq]
@[go_sem ↓] def ai5 (e:Env) (v:AV):fC e none v=e:=_root_.id rfl
@[go_sem] def ahf (a:AV) (az:List AV):zz (a::az) 0=a:=_root_.id rfl
@[go_sem] def ahg (a:AV) (az:List AV) (n:Nat):zz (a::az) (n+1)=zz az n:=_root_.id rfl
def Hp(v:AV){T E:Prop}(_:Tg (T,E)): Prop :=
 match v with
 | .bool t=>(t=true->T)/\(t=false->E)
 | _=>False
@[go_sem] def ahh (T E:Prop):Hp (.bool true) (.mk:Tg (T,E))=T:=by simp[Hp]
@[go_sem] def agF (T E:Prop):Hp (.bool false) (.mk:Tg (T,E))=E:=by simp[Hp]
def aek{t:Bool}{T E:Prop}(h:t=true->T)(h':t=false->E): Hp (.bool t) (.mk:Tg (T,E)):=⟨h,h'⟩
@[go_sem ↓] def ai6 (Q:AQ) (e:Env) (σ : aj):iH P .skip Q e σ = Q .normal e σ:=_root_.id rfl
@[go_sem ↓] def ahi (ops:List c_) (Q:AQ) (e:Env) (σ : aj):iH P (.region ops) Q e σ = fc P Q ops e σ:=_root_.id rfl
@[go_sem ↓] def ai7 (ops:List c_) (lY:List (AX × AX)) (Q:AQ) (e:Env) (σ : aj):iH P (.draw ops lY) Q e σ = fc P (qw lY Q) ops e σ:=_root_.id rfl
@[go_sem ↓] def akf (a b:aI) (Q:AQ) (e:Env) (σ : aj):iH P (.seq a b) Q e σ = iH P a (w8 (iH P b Q) Q) e σ:=_root_.id rfl
@[go_sem ↓] def ai8 (c:AX) (a b:aI) (Q:AQ) (e:Env) (σ : aj):iH P (.cond c a b) Q e σ = Hp (c.ev e) (.mk:Tg (iH P a Q e σ,iH P b Q e σ)):=_root_.id rfl
@[go_sem ↓] def ahY (id:Nat) (c:aI) (Q:AQ) (e:Env) (σ : aj):iH P (.block id c) Q e σ = iH P c (uV id Q) e σ:=_root_.id rfl
@[go_sem ↓] def ai9 (id:Nat) (Q:AQ) (e:Env) (σ : aj):iH P (.exit id) Q e σ = Q (.exit id) e σ:=_root_.id rfl
@[go_sem ↓] def akg (Q:AQ) (e:Env) (σ : aj):iH P .ret Q e σ = Q .ret e σ:=_root_.id rfl
@[go_sem ↓] def ahZ (l:Nat) (Q:AQ) (e:Env) (σ : aj):iH P (.label l) Q e σ = Q .normal e σ:=_root_.id rfl
@[go_sem ↓] def ai_ (l:Nat) (Q:AQ) (e:Env) (σ : aj):iH P (.goto l) Q e σ = Q (.goto l) e σ:=_root_.id rfl
def ad5{c:aI}{Q:AQ}{e:Env}{σ : aj}(P:Program)(_:Tg (c,Q,e,σ)): Prop:=ad2 (iH P c) Q e σ
@[go_sem ↓] def aja (c:aI) (Q:AQ) (e:Env) (σ : aj):iH P (.loop c) Q e σ = ad5 P (.mk:Tg (c,Q,e,σ)):=_root_.id rfl
def VA{l:Nat}{c r:aI}{Q:AQ}{e:Env}{σ : aj}(P:Program)(_:Tg (l,c,r,Q,e,σ)): Prop:=abl l (iH P c) (iH P r) Q e σ
@[go_sem ↓] def ah0 (l:Nat) (c r:aI) (Q:AQ) (e:Env) (σ : aj):iH P (.scope l c r) Q e σ = VA P (.mk:Tg (l,c,r,Q,e,σ)):=_root_.id rfl
def ajb{nt:Nat}{ps:List Nat}{a b:aI}{Q:AQ}{e:Env}{σ : aj}(P:Program)(f:AV)(_:Tg (nt,ps,a,b,Q,e,σ)): Prop:=RF P nt ps f (iH P a) (iH P b) Q e σ
@[go_sem ↓] def akh (f:AX) (nt:Nat) (ps:List Nat) (a b:aI) (Q:AQ) (e:Env) (σ : aj):iH P (.jG f nt ps a b) Q e σ = ajb P (f.ev e) (.mk:Tg (nt,ps,a,b,Q,e,σ)):=_root_.id rfl
@[go_sem ↓] def afl (K:Env->aj->Prop) (Q:AQ) (e:Env) (σ : aj):w8 K Q .normal e σ = K e σ:=_root_.id rfl
@[go_sem ↓] def ahj (K:Env->aj->Prop) (Q:AQ) (i:Nat) (e:Env) (σ : aj):w8 K Q (.exit i) e σ = Q (.exit i) e σ:=_root_.id rfl
@[go_sem ↓] def ah1 (K:Env->aj->Prop) (Q:AQ) (e:Env) (σ : aj):w8 K Q .ret e σ = Q .ret e σ:=_root_.id rfl
@[go_sem ↓] def ahk (K:Env->aj->Prop) (Q:AQ) (l:Nat) (e:Env) (σ : aj):w8 K Q (.goto l) e σ = Q (.goto l) e σ:=_root_.id rfl
@[go_sem ↓] def agG (K:Env->aj->Prop) (Q:AQ) (v:AV) (e:Env) (σ : aj):w8 K Q (.panic v) e σ = Q (.panic v) e σ:=_root_.id rfl
@[go_sem ↓] def aeY (id:Nat) (Q:AQ) (e:Env) (σ : aj):uV id Q .normal e σ = Q .normal e σ:=_root_.id rfl
@[go_sem ↓] def ahl (id:Nat) (Q:AQ) (e:Env) (σ : aj):uV id Q .ret e σ = Q .ret e σ:=_root_.id rfl
@[go_sem ↓] def agH (id l:Nat) (Q:AQ) (e:Env) (σ : aj):uV id Q (.goto l) e σ = Q (.goto l) e σ:=_root_.id rfl
@[go_sem ↓] def afm (id:Nat) (Q:AQ) (v:AV) (e:Env) (σ : aj):uV id Q (.panic v) e σ = Q (.panic v) e σ:=_root_.id rfl
def Mk(c:Bool){T E:Prop}(_:Tg (T,E)): Prop:=if c then T else E
@[go_sem] def aki (T E:Prop):Mk true (.mk:Tg (T,E))=T:=by simp[Mk]
@[go_sem] def akj (T E:Prop):Mk false (.mk:Tg (T,E))=E:=by simp[Mk]
@[go_sem ↓] def agI (id i : Nat) (Q : AQ) (e : Env) (σ : aj) : uV id Q (.exit i) e σ = Mk (i == id) (.mk : Tg (Q .normal e σ, Q (.exit i) e σ)) := by
  simp only[uV,Mk,beq_iff_eq]
@[go_sem ↓] def afn (lY:List (AX × AX)) (Q:AQ) (e:Env) (σ : aj):qw lY Q .normal e σ = req (sK lY e) (.mk:Tg (Q .normal e σ)):=b_ _ _
@[go_sem ↓] def agJ (lY:List (AX × AX)) (Q:AQ) (v:AV) (e:Env) (σ : aj):qw lY Q (.panic v) e σ = Q (.panic v) e σ:=_root_.id rfl
@[go_sem ↓] def ahm (Q:AQ) (e:Env) (σ : aj):fc P Q [] e σ = Q .normal e σ:=_root_.id rfl
@[go_sem ↓] def agK (Q:AQ) (o:bp) (d:Option Nat) (r:List c_) (e:Env) (σ : aj) :
 fc P Q (⟨o,d,none⟩::r) e σ = o.run P e σ (fun v σ'=>jk v (.mk:Tg fun v=>vH σ' (.mk:Tg fun σ'=>fc P Q r (fC e d v) σ'))) (fun v σ'=>Q (.panic v) e σ'):=rfl
def oE(v:AV)(b:Bool){T E U:Prop}(_:Tg (T,E,U)): Prop :=
 match v with
 | .bool t=>(t=b->T)/\(t = !b->E)
 | .bX []=>U
 | _=>False
@[go_sem] def ah2 (T E U:Prop):oE (.bool true) true (.mk:Tg (T,E,U))=T:=by simp[oE]
@[go_sem] def ah3 (T E U:Prop):oE (.bool false) false (.mk:Tg (T,E,U))=T:=by simp[oE]
@[go_sem] def ah4 (T E U:Prop):oE (.bool true) false (.mk:Tg (T,E,U))=E:=by simp[oE]
@[go_sem] def ah5 (T E U:Prop):oE (.bool false) true (.mk:Tg (T,E,U))=E:=by simp[oE]
@[go_sem] def ajc (b:Bool) (T E U:Prop):oE (.bX []) b (.mk:Tg (T,E,U))=U:=by simp[oE]
def acN{t b:Bool}{T E U:Prop}(h:t=b->T)(h':t = !b->E): oE (.bool t) b (.mk:Tg (T,E,U)):=⟨h,h'⟩
@[go_sem ↓] def afo (Q:AQ) (o:bp) (d:Option Nat) (k:Nat) (b:Bool) (r:List c_) (e:Env) (σ : aj) :
 fc P Q (⟨o,d,some (k,b)⟩::r) e σ = oE (e k) b (.mk:Tg (o.run P (fC e (some k) (.bool b)) σ (fun v σ'=>jk v (.mk:Tg fun v=>vH σ' (.mk:Tg fun σ'=>fc P Q r (fC (fC e (some k) (.bool b)) d v) σ'))) (fun v σ'=>Q (.panic v) (fC e (some k) (.bool b)) σ'),
  fc P Q r (fC (fC e (some k) (.bool (!b))) d (.bX [])) σ,fc P Q r (fC e d (.bX [])) σ)):=by
  simp only[fc,oE,jk,vH];cases e k<;>rfl
section
variable (e:Env) (σ : aj) (K Kp:AV->aj->Prop)
@[go_sem ↓] def akY (x:AX):bp.run P (.mv x) e σ K Kp=K (x.ev e) σ:=_root_.id rfl
@[go_sem ↓] def ah6 (cs:List AV):bp.run P (.alloc none cs) e σ K Kp=K (.ref σ.length 0) (σ++[.cells cs]):=_root_.id rfl
@[go_sem ↓] def ahn (T:TypeId) (cs:List AV):bp.run P (.alloc (some T) cs) e σ K Kp=K (.ref σ.length 0) (σ++[.bF (some T) cs]):=_root_.id rfl
@[go_sem ↓] def ah7 (el:El):bp.run P (.iZ el) e σ K Kp=K (.own el σ.length 0 0 0) (σ++[.vec el []]):=_root_.id rfl
def ad6(T:TypeId)(v:AV)(σ : aj){K:AV->aj->Prop}(_:Tg K): Prop:=v.cells.all AV.scalar=true/\K (.ref σ.length 0) (σ++[.bF (some T) v.cells])
@[go_sem ↓] def ajd (T:TypeId) (x:AX):bp.run P (.Cx T x) e σ K Kp=ad6 T (x.ev e) σ (.mk:Tg K):=_root_.id rfl
@[go_sem] def aje (T:TypeId) (v:AV) (K:AV->aj->Prop):ad6 T v σ (.mk:Tg K)=req (v.cells.all AV.scalar=true) (.mk:Tg (K (.ref σ.length 0) (σ++[.bF (some T) v.cells]))):=b_ _ _
@[go_sem ↓] def ajf:bp.run P .hold e σ K Kp=K (.ref σ.length 0) (σ++[.lM]):=_root_.id rfl
def N5(v:AV)(σ : aj)(T:Option TypeId)(cs:List AV){K:AV->aj->Prop}(_:Tg K): Prop:=match v with
 | .ref n 0 => match σ[n]? with
   | some .lM=>K (.ref n 0) (σ.set n (.bF T cs))
   | _=>False
 | _=>False
@[go_sem ↓] def agL (k:Nat) (T:Option TypeId) (cs:List AV):bp.run P (.kY k T cs) e σ K Kp=N5 (e k) σ T cs (.mk:Tg K):=_root_.id rfl
def VB(v:AV)(σ : aj)(T:Option TypeId)(el:El)(x y:AV){K:AV->aj->Prop}(_:Tg K): Prop:=match v with
 | .ref n 0 => match σ[n]? with
   | some .lM => match G_ el y with
     | some ys=>G9 el x=true/\ys.all (fun a=>a.fits el)=true/\fS ys.length el/\K (.own el n ys.length 0 ys.length) (σ.set n (.cn T el ys))
     | none=>False
   | _=>False
 | _=>False
@[go_sem ↓] def ah8 (k:Nat) (T:Option TypeId) (el:El) (x y:AX):bp.run P (.qv k T el x y) e σ K Kp=VB (e k) σ T el (x.ev e) (y.ev e) (.mk:Tg K):=_root_.id rfl
def F0(o:Option aX)(n:Nat)(σ : aj)(T:Option TypeId)(el:El)(x y:AV){K:AV->aj->Prop}(_:Tg K): Prop:=match o with
 | some .lM => match G_ el y with
   | some ys=>G9 el x=true/\ys.all (fun a=>a.fits el)=true/\fS ys.length el/\K (.own el n ys.length 0 ys.length) (σ.set n (.cn T el ys))
   | none=>False
 | _=>False
@[go_sem] def aho (n : Nat) (T : Option TypeId) (el : El) (x y : AV) : VB (.ref n 0) σ T el x y (.mk : Tg K) = F0 (σ[n]?) n σ T el x y (.mk : Tg K) := by
  simp only[VB,F0]
@[go_sem] def ahp (n : Nat) (T : Option TypeId) (el : El) (f : Bool) (x : AV) (ys : List AV) : F0 (some .lM) n σ T el x (.aK f el ys) (.mk : Tg K) = req (G9 el x = true /\ ys.all (fun a => a.fits el) = true /\ fS ys.length el) (.mk : Tg (K (.own el n ys.length 0 ys.length) (σ.set n (.cn T el ys)))) := by
  rw[<-b_];simp only[F0,G_,if_true,and_assoc]
@[go_sem] def agM (n : Nat) (T : Option TypeId) (el : El) (x : AV) : F0 (some .lM) n σ T el x .ae (.mk : Tg K) = req (G9 el x = true /\ fS 0 el) (.mk : Tg (K (.own el n 0 0 0) (σ.set n (.cn T el [])))) := by
  rw[<-b_];simp[F0,G_,and_assoc]
def N6(o:Option aX)(n:Nat)(σ : aj)(T:Option TypeId)(cs:List AV){K:AV->aj->Prop}(_:Tg K): Prop:=match o with
 | some .lM=>K (.ref n 0) (σ.set n (.bF T cs))
 | _=>False
@[go_sem] def afp (n : Nat) (T : Option TypeId) (cs : List AV) : N5 (.ref n 0) σ T cs (.mk : Tg K) = N6 (σ[n]?) n σ T cs (.mk : Tg K) := by
  simp only[N5,N6]
@[go_sem] def agN (n:Nat) (T:Option TypeId) (cs:List AV):N6 (some .lM) n σ T cs (.mk:Tg K)=K (.ref n 0) (σ.set n (.bF T cs)):=_root_.id rfl
@[go_sem ↓] def ah9 (t:TypeId) (x:AX):bp.run P (.G8 t x) e σ K Kp=K (.qc t (x.ev e)) σ:=_root_.id rfl
@[go_sem ↓] def ajg (f:Fn) (a b:List AX):bp.run P (.qu f a b) e σ K Kp=K (.fn f (a.map (AX.ev e)) (b.map (AX.ev e))) σ:=_root_.id rfl
def Cx(v:AV)(σ : aj){K:AV->aj->Prop}(_:Tg K): Prop:=v.cells.all AV.scalar=true/\K (.ref σ.length 0) (σ++[.cells v.cells])
@[go_sem ↓] def akk (x:AX):bp.run P (.box x) e σ K Kp=Cx (x.ev e) σ (.mk:Tg K):=_root_.id rfl
def ZU(c a b:AV){K:AV->Prop}(_:Tg K): Prop:=match c with | .bool t=>K (if t then a else b)|_=>False
@[go_sem ↓] def ajh (c a b : AX) : bp.run P (.pick c a b) e σ K Kp = ZU (c.ev e) (a.ev e) (b.ev e) (.mk : Tg fun v => K v σ) := by
  simp only[bp.run,ZU];rfl
def loadT(σ : aj)(ag:Bool)(n:Nat)(p:AV){K:AV->Prop}(_:Tg K): Prop:=nJ σ ag n p K
def storeT(σ : aj)(n:Nat)(p v:AV){K:aj->Prop}(_:Tg K): Prop:=sG σ n p v K
def fG(op:BinOp)(x y:AV){K:AV->Prop}(_:Tg K): Prop:=iV op x y K
def unT(op:UnOp)(x:AV){K:AV->Prop}(_:Tg K): Prop:=JX op x K
@[go_sem ↓] def run_load (ag:Bool) (n:Nat) (x:AX):bp.run P (.load ag n x) e σ K Kp=loadT σ ag n (x.ev e) (.mk:Tg fun v=>K v σ):=_root_.id rfl
@[go_sem ↓] def run_store (n:Nat) (x v:AX):bp.run P (.store n x v) e σ K Kp=storeT σ n (x.ev e) (v.ev e) (.mk:Tg fun σ'=>K (.bX []) σ'):=_root_.id rfl
@[go_sem ↓] def akl (op:BinOp) (x y:AX):bp.run P (.bin op x y) e σ K Kp=fG op (x.ev e) (y.ev e) (.mk:Tg fun v=>K v σ):=_root_.id rfl
@[go_sem ↓] def akZ (op:UnOp) (x:AX):bp.run P (.un op x) e σ K Kp=unT op (x.ev e) (.mk:Tg fun v=>K v σ):=_root_.id rfl
def Ke (s : Bool) (x : AV) {K : AV -> Prop} (_ : Tg K) : Prop := match s, x with
    | true,.str s=>K (.int .i64 s.length)
    | false,.ae=>K (.int .i64 0)
    | false,.aK _ _ xs=>K (.int .i64 xs.length)
    | false,.own _ _ _ _ n=>K (.int .i64 n)
    | _,_=>False
@[go_sem ↓] def akm (s : Bool) (x : AX) : bp.run P (.len s x) e σ K Kp = Ke s (x.ev e) (.mk : Tg fun v => K v σ) := by
  simp only[bp.run,Ke];rfl
def acO(x:AV)(i:Nat){K:AV->Prop}(_:Tg K): Prop:=match x with | .bX vs=>i<vs.length/\K (vs.getD i .undef)|_=>False
@[go_sem ↓] def akn (x : AX) (i : Nat) : bp.run P (.ext x i) e σ K Kp = acO (x.ev e) i (.mk : Tg fun v => K v σ) := by
  simp only[bp.run,acO];rfl
def Hq(op:Bool)(x:AV)(xs:List AV){K:AV->Prop}(_:Tg K): Prop:=vF op x xs K
@[go_sem ↓] def ako (x:AX) (xs:List AX):bp.run P (.min x xs) e σ K Kp=Hq true (x.ev e) (xs.map (AX.ev e)) (.mk:Tg fun v=>K v σ):=_root_.id rfl
@[go_sem ↓] def akp (x:AX) (xs:List AX):bp.run P (.max x xs) e σ K Kp=Hq false (x.ev e) (xs.map (AX.ev e)) (.mk:Tg fun v=>K v σ):=_root_.id rfl
def RH(K Kp:AV->aj->Prop): Out->aj->Prop
 | .ret r,σ=>K r σ
 | .panic r,σ=>Kp r σ
def Ml (P : Program) (q : Bool) (f : AV) (args : List AV) (σ : aj) {K Kp : AV -> aj -> Prop} (_ : Tg (K, Kp)) : Prop := match f with
    | .fn (.func n) first cap =>
      if q then ∃ r,(∀ τ,Eg P n (first++args++cap) (σ++ τ) r)/\K r σ
      else f_ P n (first++args++cap) σ (RH K Kp)
    | .ux l=>if q then False else wW P l args σ (RH K Kp)
    | _=>False
@[go_sem ↓] def aji (q : Bool) (f : AX) (args : List AX) : bp.run P (.call q f args) e σ K Kp = Ml P q (f.ev e) (args.map (AX.ev e)) σ (.mk : Tg (K, Kp)) := by
  simp only[bp.run,Ml];rfl
def Eo{n:Int}(h : -9223372036854775808<=n)(h':n<=9223372036854775807): cR .i64 n=n:=IntWalk.i64_in n ⟨h,h'⟩
@[go_sem] def ak0 (a b:AV) (K:AV->Prop):ZU (.bool true) a b (.mk:Tg K)=jk a (.mk:Tg K):=_root_.id rfl
@[go_sem] def ak1 (a b:AV) (K:AV->Prop):ZU (.bool false) a b (.mk:Tg K)=jk b (.mk:Tg K):=_root_.id rfl
@[go_sem] def akq (v:AV) (K:AV->aj->Prop):Cx v σ (.mk:Tg K)=req (v.cells.all AV.scalar=true) (.mk:Tg (K (.ref σ.length 0) (σ++[.cells v.cells]))):=b_ _ _
variable (k:IntKind) (a b:Int) (s t:List UInt8) (p q:Bool) (K:AV->Prop)
@[go_sem] def ajj:fG .add (.int k a) (.int k b) (.mk:Tg K)=K (.int k (cR k (a+b))):=by simp[fG,iV]
@[go_sem] def ajk:fG .sub (.int k a) (.int k b) (.mk:Tg K)=K (.int k (cR k (a-b))):=by simp[fG,iV]
@[go_sem] def ajl:fG .mul (.int k a) (.int k b) (.mk:Tg K)=K (.int k (cR k (a*b))):=by simp[fG,iV]
@[go_sem] def ajm:fG .quo (.int k a) (.int k b) (.mk:Tg K)=req (b≠0) (.mk:Tg (K (.int k (cR k (a.tdiv b))))):=by rw[<-b_];simp[fG,iV]
@[go_sem] def ajn:fG .rem (.int k a) (.int k b) (.mk:Tg K)=req (b≠0) (.mk:Tg (K (.int k (a.tmod b)))):=by rw[<-b_];simp[fG,iV]
@[go_sem] def ajo:fG .eql (.int k a) (.int k b) (.mk:Tg K)=K (.bool (a==b)):=by simp[fG,iV]
@[go_sem] def ajp:fG .neq (.int k a) (.int k b) (.mk:Tg K)=K (.bool (!(a==b))):=by simp[fG,iV]
@[go_sem] def ajq:fG .lss (.int k a) (.int k b) (.mk:Tg K)=K (.bool (decide (a<b))):=by simp[fG,iV]
@[go_sem] def ajr:fG .leq (.int k a) (.int k b) (.mk:Tg K)=K (.bool (decide (a<=b))):=by simp[fG,iV]
@[go_sem] def ajs:fG .gtr (.int k a) (.int k b) (.mk:Tg K)=K (.bool (decide (b<a))):=by simp[fG,iV]
@[go_sem] def ajt:fG .geq (.int k a) (.int k b) (.mk:Tg K)=K (.bool (decide (b<=a))):=by simp[fG,iV]
@[go_sem] def ah_:fG .add (.str s) (.str t) (.mk:Tg K)=req (((s.length+t.length:Nat):Int)<=IntKind.i64.max) (.mk:Tg (K (.str (s++t)))):=by rw[<-b_];simp[fG,iV]
@[go_sem] def aia:fG .eql (.str s) (.str t) (.mk:Tg K)=K (.bool (s==t)):=by simp[fG,iV]
@[go_sem] def aib:fG .neq (.str s) (.str t) (.mk:Tg K)=K (.bool (!(s==t))):=by simp[fG,iV]
@[go_sem] def akr:unT .not (.bool p) (.mk:Tg K)=K (.bool (!p)):=_root_.id rfl
@[go_sem] def ak2:Ke true (.str s) (.mk:Tg K)=K (.int .i64 s.length):=_root_.id rfl
@[go_sem] def S9:Ke false .ae (.mk:Tg K)=K (.int .i64 0):=_root_.id rfl
@[go_sem] def aju (f:Bool) (el:El) (xs:List AV):Ke false (.aK f el xs) (.mk:Tg K)=K (.int .i64 xs.length):=_root_.id rfl
@[go_sem] def VC (el:El) (l m lo n:Nat):Ke false (.own el l m lo n) (.mk:Tg K)=K (.int .i64 n):=_root_.id rfl
@[go_sem] def ajv (vs:List AV) (i:Nat):acO (.bX vs) i (.mk:Tg K)=req (i<vs.length) (.mk:Tg (K (vs.getD i .undef))):=b_ _ _
@[go_sem] def aic (op:Bool) (x:AV):Hq op x [] (.mk:Tg K)=K x:=_root_.id rfl
@[go_sem] def aks (ys:List AV):Hq true (.int k a) (.int k b::ys) (.mk:Tg K)=Hq true (.int k (if b<a then b else a)) ys (.mk:Tg K):=_root_.id rfl
@[go_sem] def akt (ys:List AV):Hq false (.int k a) (.int k b::ys) (.mk:Tg K)=Hq false (.int k (if a<b then b else a)) ys (.mk:Tg K):=_root_.id rfl
@[go_sem ↓] def ajw (rs:List w9) (R:Out->aj->Prop):Vz rs R .ret e σ = uM e σ rs fun vs=>R (.ret (oneOf vs)) σ:=_root_.id rfl
@[go_sem ↓] def agO (rs:List w9) (R:Out->aj->Prop):Vz rs R .normal e σ = uM e σ rs fun vs=>R (.ret (oneOf vs)) σ:=_root_.id rfl
@[go_sem ↓] def ajx (K:List AV->Prop):uM e σ [] K=K []:=_root_.id rfl
@[go_sem ↓] def ajy (t:Nat) (r:List w9) (K:List AV->Prop):uM e σ (.tmp t::r) K=uM e σ r fun vs=>K (e t::vs):=_root_.id rfl
end
end Go.AM
namespace Go.AM
variable {P:Program}
section
variable (e:Env) (σ : aj) (K Kp:AV->aj->Prop)
def BP(o:Option aX)(off:Nat)(ag:Bool)(n:Nat){K:AV->Prop}(_:Tg K): Prop:=match o with
 | some (.bF _ cs)=>off+n<=cs.length/\(ag=false->n=1)/\K (if ag then .agg ((cs.drop off).take n)else cs.getD off .undef)
 | _=>False
@[go_sem] def aid (ag:Bool) (n l off:Nat) (K:AV->Prop):loadT σ ag n (.ref l off) (.mk:Tg K)=BP (σ[l]?) off ag n (.mk:Tg K):=_root_.id rfl
@[go_sem] def aku (cs : List AV) (off n : Nat) (K : AV -> Prop) : BP (some (.cells cs)) off false n (.mk : Tg K) = req (off + n <= cs.length /\ n = 1) (.mk : Tg (K (cs.getD off .undef))) := by
  rw[<-b_];simp[BP,and_assoc]
@[go_sem] def akv (cs : List AV) (off n : Nat) (K : AV -> Prop) : BP (some (.cells cs)) off true n (.mk : Tg K) = req (off + n <= cs.length) (.mk : Tg (K (.agg ((cs.drop off).take n)))) := by
  rw[<-b_];simp[BP]
@[go_sem] def ajz (T : TypeId) (cs : List AV) (off n : Nat) (K : AV -> Prop) : BP (some (.bF (some T) cs)) off false n (.mk : Tg K) = req (off + n <= cs.length /\ n = 1) (.mk : Tg (K (cs.getD off .undef))) := by
  rw[<-b_];simp[BP,and_assoc]
@[go_sem] def ajA (T : TypeId) (cs : List AV) (off n : Nat) (K : AV -> Prop) : BP (some (.bF (some T) cs)) off true n (.mk : Tg K) = req (off + n <= cs.length) (.mk : Tg (K (.agg ((cs.drop off).take n)))) := by
  rw[<-b_];simp[BP]
def Kf(σ : aj)(l:Nat)(o:Option aX)(off n:Nat)(v:AV){K:aj->Prop}(_:Tg K): Prop:=v.cells.length=n/\v.cells.all AV.scalar=true/\match o with
 | some (.bF T cs)=>off+n<=cs.length/\K (σ.set l (.bF T (fE cs off v.cells)))
 | _=>False
@[go_sem] def ahq (n l off:Nat) (v:AV) (K:aj->Prop):storeT σ n (.ref l off) v (.mk:Tg K)=Kf σ l (σ[l]?) off n v (.mk:Tg K):=_root_.id rfl
@[go_sem] def ajB (l : Nat) (cs : List AV) (off n : Nat) (v : AV) (K : aj -> Prop) : Kf σ l (some (.cells cs)) off n v (.mk : Tg K) = req (v.cells.length = n /\ v.cells.all AV.scalar = true /\ off + n <= cs.length) (.mk : Tg (K (σ.set l (.cells (fE cs off v.cells))))) := by
  rw[<-b_];simp[Kf,and_assoc]
@[go_sem] def aie (l : Nat) (T : TypeId) (cs : List AV) (off n : Nat) (v : AV) (K : aj -> Prop) : Kf σ l (some (.bF (some T) cs)) off n v (.mk : Tg K) = req (v.cells.length = n /\ v.cells.all AV.scalar = true /\ off + n <= cs.length) (.mk : Tg (K (σ.set l (.bF (some T) (fE cs off v.cells))))) := by
  rw[<-b_];simp[Kf,and_assoc]
def cP(P:Program)(o:bp)(σ : aj){K Kp:AV->aj->Prop}(_:Tg (K,Kp)): Prop:=o.run P (fun _=> .undef) σ K Kp
@[go_sem ↓] def aif (off:Nat) (x:AX):bp.run P (.gS off x) e σ K Kp=cP P (.gS off (.c (x.ev e))) σ (.mk:Tg (K,Kp)):=_root_.id rfl
@[go_sem ↓] def aih (x:AX):bp.run P (.lD x) e σ K Kp=cP P (.lD (.c (x.ev e))) σ (.mk:Tg (K,Kp)):=_root_.id rfl
@[go_sem ↓] def aii (ag:Bool) (off n:Nat) (x:AX):bp.run P (.field ag off n x) e σ K Kp=cP P (.field ag off n (.c (x.ev e))) σ (.mk:Tg (K,Kp)):=_root_.id rfl
@[go_sem ↓] def aij (el:El) (arr:Option Nat) (x i:AX):bp.run P (.cz el arr x i) e σ K Kp=cP P (.cz el arr (.c (x.ev e)) (.c (i.ev e))) σ (.mk:Tg (K,Kp)):=_root_.id rfl
@[go_sem ↓] def ajC (x i:AX):bp.run P (.gL x i) e σ K Kp=cP P (.gL (.c (x.ev e)) (.c (i.ev e))) σ (.mk:Tg (K,Kp)):=_root_.id rfl
@[go_sem ↓] def ajD (el:El) (n:Nat) (x i:AX):bp.run P (.Cv el n x i) e σ K Kp=cP P (.Cv el n (.c (x.ev e)) (.c (i.ev e))) σ (.mk:Tg (K,Kp)):=_root_.id rfl
@[go_sem ↓] def ajE (k:IntKind) (x:AX):bp.run P (.jP k x) e σ K Kp=cP P (.jP k (.c (x.ev e))) σ (.mk:Tg (K,Kp)):=_root_.id rfl
@[go_sem ↓] def akw (x:AX):bp.run P (.Po x) e σ K Kp=cP P (.Po (.c (x.ev e))) σ (.mk:Tg (K,Kp)):=_root_.id rfl
@[go_sem ↓] def akx (x:AX):bp.run P (.MW x) e σ K Kp=cP P (.MW (.c (x.ev e))) σ (.mk:Tg (K,Kp)):=_root_.id rfl
@[go_sem ↓] def aky (x:AX):bp.run P (.wX x) e σ K Kp=cP P (.wX (.c (x.ev e))) σ (.mk:Tg (K,Kp)):=_root_.id rfl
@[go_sem ↓] def agP (el:El) (z:AV) (x i:AX):bp.run P (.rG el z x i) e σ K Kp=cP P (.rG el z (.c (x.ev e)) (.c (i.ev e))) σ (.mk:Tg (K,Kp)):=_root_.id rfl
@[go_sem ↓] def aik (x:AX):bp.run P (.panic x) e σ K Kp=cP P (.panic (.c (x.ev e))) σ (.mk:Tg (K,Kp)):=_root_.id rfl
@[go_sem ↓] def akz (T:Option TypeId) (el:El) (x i:AX):bp.run P (.app T el x i) e σ K Kp=cP P (.app T el (.c (x.ev e)) (.c (i.ev e))) σ (.mk:Tg (K,Kp)):=_root_.id rfl
@[go_sem ↓] def akA (ng ag:Bool) (ks:List Kd) (x i:AX):bp.run P (.qd ng ag ks x i) e σ K Kp=cP P (.qd ng ag ks (.c (x.ev e)) (.c (i.ev e))) σ (.mk:Tg (K,Kp)):=_root_.id rfl
@[go_sem ↓] def ail (ng:Bool) (k:NK) (x i:AX):bp.run P (.vE ng k x i) e σ K Kp=cP P (.vE ng k (.c (x.ev e)) (.c (i.ev e))) σ (.mk:Tg (K,Kp)):=_root_.id rfl
@[go_sem ↓] def akB (el:El) (x:AX):bp.run P (.IB el x) e σ K Kp=cP P (.IB el (.c (x.ev e))) σ (.mk:Tg (K,Kp)):=_root_.id rfl
@[go_sem ↓] def ajF (T:TypeId) (x i:AX):bp.run P (.Cw T x i) e σ K Kp=cP P (.Cw T (.c (x.ev e)) (.c (i.ev e))) σ (.mk:Tg (K,Kp)):=_root_.id rfl
@[go_sem ↓] def akC (x:AX):bp.run P (.Pp x) e σ K Kp=cP P (.Pp (.c (x.ev e))) σ (.mk:Tg (K,Kp)):=_root_.id rfl
@[go_sem ↓] def akD (u:TypeId) (x:AX):bp.run P (.Pq u x) e σ K Kp=cP P (.Pq u (.c (x.ev e))) σ (.mk:Tg (K,Kp)):=_root_.id rfl
@[go_sem ↓] def akE (ng:Bool) (x i:AX):bp.run P (.MX ng x i) e σ K Kp=cP P (.MX ng (.c (x.ev e)) (.c (i.ev e))) σ (.mk:Tg (K,Kp)):=_root_.id rfl
def cO(e:Env): Option AX->Option AX
 | none=>none
 | some x=>some (.c (x.ev e))
@[go_sem] def akF:cO e none=none:=_root_.id rfl
@[go_sem] def akG (x:AX):cO e (some x)=some (.c (x.ev e)):=_root_.id rfl
@[go_sem ↓] def akH (x : AX) (lo hi : Option AX) : bp.run P (.pG x lo hi) e σ K Kp = cP P (.pG (.c (x.ev e)) (cO e lo) (cO e hi)) σ (.mk : Tg (K, Kp)) := by
  cases lo<;>cases hi<;>rfl
@[go_sem ↓] def akI (el : El) (x : AX) (lo hi : Option AX) : bp.run P (.yq el x lo hi) e σ K Kp = cP P (.yq el (.c (x.ev e)) (cO e lo) (cO e hi)) σ (.mk : Tg (K, Kp)) := by
  cases lo<;>cases hi<;>rfl
variable (k k':IntKind) (a b:Int) (s t:List UInt8) (el:El) (xs cs:List AV) (l m lo n off i:Nat) (f:Bool)
@[go_sem] def afq:cP P (.gS off (.c (.ref l i))) σ (.mk:Tg (K,Kp))=K (.ref l (i+off)) σ:=_root_.id rfl
@[go_sem] def aeZ (x:AV):cP P (.gS off (.c (.fR el x i))) σ (.mk:Tg (K,Kp))=K (.fR el x (i+off)) σ:=_root_.id rfl
@[go_sem] def ae0 (j:Nat):cP P (.gS off (.c (.fg el l m j i))) σ (.mk:Tg (K,Kp))=K (.fg el l m j (i+off)) σ:=_root_.id rfl
@[go_sem] def afr:cP P (.lD (.c (.ref l i))) σ (.mk:Tg (K,Kp))=K (.ref l i) σ:=_root_.id rfl
@[go_sem] def afs:cP P (.lD (.c (.ux l))) σ (.mk:Tg (K,Kp))=K (.ux l) σ:=_root_.id rfl
@[go_sem] def agQ (g:FuncId) (xs ys:List AV):cP P (.lD (.c (.fn (.func g) xs ys))) σ (.mk:Tg (K,Kp))=K (.fn (.func g) xs ys) σ:=_root_.id rfl
@[go_sem] def ahr : cP P (.field false off n (.c (.agg cs))) σ (.mk : Tg (K, Kp)) = req (off + n <= cs.length /\ n = 1) (.mk : Tg (K (cs.getD off .undef) σ)) := by
  rw[<-b_];simp[cP,bp.run,AX.ev,and_assoc]
@[go_sem] def ahs : cP P (.field true off n (.c (.agg cs))) σ (.mk : Tg (K, Kp)) = req (off + n <= cs.length) (.mk : Tg (K (.agg ((cs.drop off).take n)) σ)) := by
  rw[<-b_];simp[cP,bp.run,AX.ev]
@[go_sem] def afu : cP P (.cz el none (.c (.aK f el xs)) (.c (.int k a))) σ (.mk : Tg (K, Kp)) = req (0 <= a /\ a < xs.length) (.mk : Tg (K (.fR el (xs.getD a.toNat .undef) 0) σ)) := by
  rw[<-b_];simp[cP,bp.run,AX.ev,and_assoc]
@[go_sem] def akJ : cP P (.gL (.c (.str s)) (.c (.int k a))) σ (.mk : Tg (K, Kp)) = req (0 <= a /\ a < s.length) (.mk : Tg (K (.int .u8 (s.getD a.toNat 0).toNat) σ)) := by
  rw[<-b_];simp[cP,bp.run,AX.ev,and_assoc]
@[go_sem] def akK:cP P (.jP k (.c (.int k' a))) σ (.mk:Tg (K,Kp))=K (.int k (cR k a)) σ:=_root_.id rfl
@[go_sem] def ak3:cP P (.Po (.c (.str s))) σ (.mk:Tg (K,Kp))=K (.str s) σ:=_root_.id rfl
def toNat_le{a:Int}{n:Nat}(h:0<=a): (a<=((n:Nat):Int))=(a.toNat<=n):=by simp only[eq_iff_iff];omega
@[go_sem] def aim : cP P (.pG (.c (.str s)) (some (.c (.int k a))) (some (.c (.int k' b)))) σ (.mk : Tg (K, Kp)) = req ((0 <= b /\ b <= s.length) /\ 0 <= a /\ a <= b) (.mk : Tg (K (.str ((s.drop a.toNat).take (b.toNat - a.toNat))) σ)) := by
  rw[<-b_];simp only[cP,bp.run,AX.ev,bound,Option.map,and_assoc,eq_iff_iff];constructor
  ·rintro⟨h1,h2,h3,h4,h5⟩;exact⟨h1,h2,h3,by omega,h5⟩
  ·rintro⟨h1,h2,h3,h4,h5⟩;exact⟨h1,h2,h3,by omega,h5⟩
@[go_sem] def ain : cP P (.pG (.c (.str s)) none (some (.c (.int k' b)))) σ (.mk : Tg (K, Kp)) = req (0 <= b /\ b <= s.length) (.mk : Tg (K (.str (s.take b.toNat)) σ)) := by
  rw[<-b_];simp only[cP,bp.run,AX.ev,bound,Option.map,and_assoc,List.drop_zero,Nat.sub_zero]
@[go_sem] def aio : cP P (.pG (.c (.str s)) (some (.c (.int k a))) none) σ (.mk : Tg (K, Kp)) = req (0 <= a /\ a <= s.length) (.mk : Tg (K (.str (s.drop a.toNat)) σ)) := by
  rw[<-b_];simp only[cP,bp.run,AX.ev,bound,Option.map,and_assoc];have:(s.drop a.toNat).take (s.length-a.toNat)=s.drop a.toNat:=br (by simp);rw[this]
def oF(P:Program)(n:FuncId)(args:List AV)(σ : aj){K Kp:AV->aj->Prop}(_:Tg (K,Kp)): Prop:=f_ P n args σ (RH K Kp)
def Hr(P:Program)(n:FuncId)(args:List AV)(σ : aj){K Kp:AV->aj->Prop}(_:Tg (K,Kp)): Prop:= ∃ r,(∀ τ,Eg P n args (σ++ τ) r)/\K r σ
@[go_sem] def akL (n : FuncId) (first args cap : List AV) : Ml P false (.fn (.func n) first cap) args σ (.mk : Tg (K, Kp)) = oF P n (first ++ args ++ cap) σ (.mk : Tg (K, Kp)) := by
  simp[Ml,oF]
@[go_sem] def akM (n : FuncId) (first args cap : List AV) : Ml P true (.fn (.func n) first cap) args σ (.mk : Tg (K, Kp)) = Hr P n (first ++ args ++ cap) σ (.mk : Tg (K, Kp)) := by
  simp[Ml,Hr]
def YL{n:FuncId}{args:List AV}{σ : aj}{K Kp:AV->aj->Prop}{r:AV}(h:∀ σ,Eg P n args σ r)(hk:jk r (.mk:Tg fun r=>K r σ)): oF P n args σ (.mk:Tg (K,Kp)) :=
 (h σ).mono fun o s ⟨h1,h2⟩=>by subst h1;subst h2;exact hk
def YM{n:FuncId}{args:List AV}{σ : aj}{K Kp:AV->aj->Prop}{r:AV}(h:∀ σ,Eg P n args σ r)(hk:jk r (.mk:Tg fun r=>K r σ)): Hr P n args σ (.mk:Tg (K,Kp)):=⟨r,fun τ=>h _,hk⟩
def cF{n:FuncId}{args:List AV}{σ : aj}{K Kp:AV->aj->Prop}{R:Out->aj->Prop}(h:f_ P n args σ R)(hk:∀ o s,R o s->RH K Kp o s): oF P n args σ (.mk:Tg (K,Kp)):=h.mono hk
def Kg: List AV->List (Nat × Nat × AV)->(List AV->Prop)->Prop
 | z,[],K=>K z
 | z,(off,n,v)::r,K=>v.cells.length=n/\v.cells.all AV.scalar=true/\off+n<=z.length/\Kg (fE z off v.cells) r K
def Kh(z:List AV)(ps:List (Nat × Nat × AV)){K:List AV->Prop}(_:Tg K): Prop:=Kg z ps K
def S_(e:Env)(K:List AV->Prop): ∀(ps:List (Nat × Nat × AX)) (z:List AV),nu z e ps K=Kg z (ps.map fun p=>(p.1,p.2.1,p.2.2.ev e)) K
 | [],z=>rfl
 |(off,n,x)::r,z=>by simp only[nu,Kg,bu,S_ e K r]
@[go_sem ↓] def run_build (z:List AV) (ps:List (Nat × Nat × AX)):bp.run P (.build z ps) e σ K Kp=Kh z (ps.map fun p=>(p.1,p.2.1,p.2.2.ev e)) (.mk:Tg fun cs=>K (.agg cs) σ):=S_ e _ ps z
@[go_sem] def aht (z:List AV) (K:List AV->Prop):Kh z [] (.mk:Tg K)=K z:=_root_.id rfl
@[go_sem] def agR (z : List AV) (off n : Nat) (v : AV) (r : List (Nat × Nat × AV)) (K : List AV -> Prop) : Kh z ((off, n, v) :: r) (.mk : Tg K) = req (v.cells.length = n /\ v.cells.all AV.scalar = true /\ off + n <= z.length) (.mk : Tg (Kh (fE z off v.cells) r (.mk : Tg K))) := by
  rw[<-b_];simp only[Kh,Kg,and_assoc]
def F1(el:El): List AV->List (Nat × AV)->(List AV->Prop)->Prop
 | z,[],K=>K z
 | z,(i,v)::r,K=>v.fits el=true/\i<z.length/\F1 el (z.set i v) r K
def Cl(el:El)(z:List AV)(ps:List (Nat × AV)){K:List AV->Prop}(_:Tg K): Prop:=F1 el z ps K
def Ht(el:El)(e:Env)(K:List AV->Prop): ∀(ps:List (Nat × AX)) (z:List AV),lX el z e ps K=F1 el z (ps.map fun p=>(p.1,p.2.ev e)) K
 | [],z=>rfl
 |(i,x)::r,z=>by simp only[lX,F1,bu,Ht el e K r]
@[go_sem ↓] def afv (el:El) (z:AV) (n:Nat) (ps:List (Nat × AX)):bp.run P (.bK false el z n ps) e σ K Kp=Cl el (List.replicate n z) (ps.map fun p=>(p.1,p.2.ev e)) (.mk:Tg fun xs=>K (.aK true el xs) σ):=Ht el e _ ps _
@[go_sem ↓] def afw (el:El) (z:AV) (n:Nat) (ps:List (Nat × AX)):bp.run P (.bK true el z n ps) e σ K Kp=Cl el (List.replicate n z) (ps.map fun p=>(p.1,p.2.ev e)) (.mk:Tg fun xs=>K (.own el σ.length n 0 n) (σ++[.vec el xs])):=Ht el e _ ps _
@[go_sem] def agS (z:List AV) (K:List AV->Prop):Cl el z [] (.mk:Tg K)=K z:=_root_.id rfl
@[go_sem] def afx (z : List AV) (i : Nat) (v : AV) (r : List (Nat × AV)) (K : List AV -> Prop) : Cl el z ((i, v) :: r) (.mk : Tg K) = req (v.fits el = true /\ i < z.length) (.mk : Tg (Cl el (z.set i v) r (.mk : Tg K))) := by
  rw[<-b_];simp only[Cl,F1,and_assoc]
def vI(c:Bool)(el:El)(x:AV)(off:Nat)(ag:Bool)(n:Nat){K:AV->Prop}(_:Tg K): Prop:=c=(off==0 && n==el.sz && ag==el.ag)/\partOf el x off ag n K
@[go_sem] def ahu (ag : Bool) (n : Nat) (el : El) (x : AV) (off : Nat) (K : AV -> Prop) : loadT σ ag n (.fR el x off) (.mk : Tg K) = vI (off == 0 && n == el.sz && ag == el.ag) el x off ag n (.mk : Tg K) := by
  simp only[vI,true_and];rfl
@[go_sem] def akN (ag : Bool) (n : Nat) (x : AV) (K : AV -> Prop) : vI true ⟨ag, n⟩ x 0 ag n (.mk : Tg K) = K x := by
  simp[vI,partOf]
@[go_sem] def ael (el : El) (off n : Nat) (cs : List AV) (K : AV -> Prop) (h : (off == 0 && n == el.sz && false == el.ag) = false) : vI false el (.agg cs) off false n (.mk : Tg K) = req (off + n <= el.sz /\ n = 1) (.mk : Tg (K (cs.getD off .undef))) := by
  have hn:¬ (off=0/\n=el.sz/\false=el.ag):=by rintro⟨h1,h2,h3⟩;subst h1;subst h2;rw[<-h3]at h;simp at h
  rw[<-b_];simp only[vI,partOf,if_neg hn,h,true_and];simp only[Bool.false_eq_true,if_false,forall_const,eq_iff_iff];exact⟨fun⟨h1,h2,h3⟩=>⟨⟨h1,h3⟩,h2⟩,fun⟨⟨h1,h3⟩,h2⟩=>⟨h1,h2,h3⟩⟩
def Ki(σ : aj)(T:Option TypeId)(el:El)(o:Option aX)(l m lo n:Nat)(ys:List AV){K:AV->aj->Prop}(_:Tg K): Prop:=match o with
 | some (.cn T' dM xs) => (T' = none \/ T' = T) /\ dM = el /\ m = xs.length /\ lo = 0 /\ n = xs.length /\ fS (xs.length + ys.length) el /\
    K (.own el l (xs.length+ys.length) 0 (xs.length+ys.length)) (σ.set l (.cn T' el (xs++ys)))
 | _=>False
@[go_sem] def ahv (T : Option TypeId) (ys : List AV) : cP P (.app T el (.c (.own el l m lo n)) (.c (.aK f el ys))) σ (.mk : Tg (K, Kp)) = req (ys.all (fun a => a.fits el) = true) (.mk : Tg (Ki σ T el (σ[l]?) l m lo n ys (.mk : Tg K))) := by
  rw[<-b_];simp only[cP,bp.run,AX.ev,uL,iA,Ki,true_and];rfl
@[go_sem] def akO (T : Option TypeId) (xs ys : List AV) : Ki σ T el (some (.vec el xs)) l m lo n ys (.mk : Tg K) = req (m = xs.length /\ lo = 0 /\ n = xs.length /\ fS (xs.length + ys.length) el) (.mk : Tg (K (.own el l (xs.length + ys.length) 0 (xs.length + ys.length)) (σ.set l (.vec el (xs ++ ys))))) := by
  rw[<-b_];simp only[Ki,true_and,true_or,and_assoc]
@[go_sem] def ajG (t : TypeId) (xs ys : List AV) : Ki σ (some t) el (some (.cn (some t) el xs)) l m lo n ys (.mk : Tg K) = req (m = xs.length /\ lo = 0 /\ n = xs.length /\ fS (xs.length + ys.length) el) (.mk : Tg (K (.own el l (xs.length + ys.length) 0 (xs.length + ys.length)) (σ.set l (.cn (some t) el (xs ++ ys))))) := by
  rw[<-b_];simp only[Ki,true_and,or_true,and_assoc]
@[go_sem] def agT (y : AV) (ys : List AV) : cP P (.app none el (.c .ae) (.c (.aK f el (y :: ys)))) σ (.mk : Tg (K, Kp)) = req ((y :: ys).all (fun a => a.fits el) = true /\ fS (y :: ys).length el) (.mk : Tg (K (.own el σ.length (y :: ys).length 0 (y :: ys).length) (σ ++ [.vec el (y :: ys)]))) := by
  rw[<-b_];simp only[cP,bp.run,AX.ev,uL,iA,true_and,List.length_cons,Nat.add_eq_zero_iff,Nat.one_ne_zero,and_false,if_false,and_assoc]
@[go_sem] def afy (t : TypeId) (y : AV) (ys : List AV) : cP P (.app (some t) el (.c .ae) (.c (.aK f el (y :: ys)))) σ (.mk : Tg (K, Kp)) = req ((y :: ys).all (fun a => a.fits el) = true /\ fS (y :: ys).length el) (.mk : Tg (K (.own el σ.length (y :: ys).length 0 (y :: ys).length) (σ ++ [.cn (some t) el (y :: ys)]))) := by
  rw[<-b_];simp only[cP,bp.run,AX.ev,uL,iA,true_and,List.length_cons,Nat.add_eq_zero_iff,Nat.one_ne_zero,and_false,if_false,and_assoc]
@[go_sem] def agU (xs : List AV) (y : AV) (ys : List AV) (f' : Bool) : cP P (.app none el (.c (.aK true el xs)) (.c (.aK f' el (y :: ys)))) σ (.mk : Tg (K, Kp)) = req ((y :: ys).all (fun a => a.fits el) = true /\ fS (xs.length + (y :: ys).length) el) (.mk : Tg (K (.own el σ.length (xs.length + (y :: ys).length) 0 (xs.length + (y :: ys).length)) (σ ++ [.vec el (xs ++ y :: ys)]))) := by
  rw[<-b_];simp only[cP,bp.run,AX.ev,uL,iA,true_and,List.length_cons,Nat.add_eq_zero_iff,Nat.one_ne_zero,and_false,if_false,and_assoc]
def ZV{T:Option TypeId}{xs:List AV}(h : σ[l]? = some (.cn T el xs))(hm:m=xs.length)(hn:0<n)(hk:K (.fg el l m lo 0) σ): cP P (.IB el (.c (.own el l m lo n))) σ (.mk:Tg (K,Kp)):=by
 simp only[cP,bp.run,AX.ev,h];exact⟨trivial,trivial,hm,hn,hk⟩
def Xx(T:TypeId): cP P (.Cw T (.c .iN) (.c (.int .i64 0))) σ (.mk:Tg (K,Kp))=K (.str []) σ:=by
 simp[cP,bp.run,AX.ev]
def Xy {T : TypeId} {xs : List AV} (s : List UInt8) (h : σ[l]? = some (.cn (some T) ⟨false, 1⟩ xs)) (hm : m = xs.length) (hx : xs = s.map fun b => .int .u8 b.toNat) (h0 : s ≠ []) (h2 : s.length <= 2 ^ 62) (ha : a = (s.length : Int)) (hk : K (.str s) (σ.set l .dead)) :
    cP P (.Cw T (.c (.fg ⟨false,1⟩ l m 0 0)) (.c (.int .i64 a))) σ (.mk:Tg (K,Kp)):=by
 subst hx;subst ha;have h1:0<s.length:=List.length_pos_iff.2 h0;simp only[cP,bp.run,AX.ev,h];refine⟨trivial,trivial,trivial,trivial,hm,by omega,by simp,by simpa using h2,s,?_,hk⟩;rw[br (by simp)]
def afz{T:Option TypeId}(h : σ[l]? = some (.bF T cs))(hlt:off<cs.length)(hk:K (.ref l off) σ): cP P (.Pp (.c (.ref l off))) σ (.mk:Tg (K,Kp)):=by
 simp only[cP,bp.run,AX.ev,h];exact⟨hlt,hk⟩
def afA{T u:TypeId}(h : σ[l]? = some (.bF (some T) cs))(hlt:liesAt P P.depth T (cs.length / P.cellsOf T) off u 1=true)(hk:K (.ref l off) σ): cP P (.Pq u (.c (.ref l off))) σ (.mk:Tg (K,Kp)):=by
 simp only[cP,bp.run,AX.ev,h];exact⟨hlt,hk⟩
def afB{T:Option TypeId}(ng:Bool)(h : σ[l]? = some (.bF T cs))(hk:K (.bool ng.not) σ): cP P (.MX ng (.c (.ref l off)) (.c (.ref l off))) σ (.mk:Tg (K,Kp)):=by
 simp only[cP,bp.run,AX.ev,h];exact⟨trivial,trivial,hk⟩
def abv (P : Program) (g : FuncId) (v : AV) (σ : aj) {K : AV → aj → Prop} (_ : Tg K) : Prop := (∃ fn, P.funcs[g]? = some fn ∧ (fn.name == "runtime.NumGoroutine") = false ∧ fn.body.isNone = true ∧ Extern.findNext fn = none ∧ Extern.find fn = some Extern.AbiNoEscape.same) ∧ K v σ
@[go_sem ↓] def aip (g:FuncId) (x:AX):bp.run P (.Mg g x) e σ K Kp=abv P g (x.ev e) σ (.mk:Tg K):=_root_.id rfl
def acP(ng:Bool)(k:NK)(x y:AV): cP P (.vE ng k (.c x) (.c y)) σ (.mk:Tg (K,Kp))=(match tR k x y with|some b=>K (.bool (if ng then !b else b)) σ | none=>False):=rfl
def acQ(ng:Bool)(ks:List Kd)(xs ys:List AV): cP P (.qd ng true ks (.c (.agg xs)) (.c (.agg ys))) σ (.mk:Tg (K,Kp))=(match iz ks xs ys with|some b=>K (.bool (if ng then !b else b)) σ | none=>False):=rfl
def acR(ng:Bool)(ks:List Kd)(x y:AV): cP P (.qd ng false ks (.c x) (.c y)) σ (.mk:Tg (K,Kp))=(match iz ks [x] [y]with|some b=>K (.bool (if ng then !b else b)) σ | none=>False):=rfl
@[go_sem] def ak4 : cP P (.MW (.c (.str s))) σ (.mk : Tg (K, Kp)) = req (s.length <= 2 ^ 40) (.mk : Tg (K (.own ⟨false, 1⟩ σ.length s.length 0 s.length) (σ ++ [.vec ⟨false, 1⟩ (s.map fun b => .int .u8 b.toNat)]))) := by
  rw[<-b_];rfl
@[go_sem] def ahw (z : AV) : cP P (.rG el z (.c (.int .i64 a)) (.c (.int .i64 b))) σ (.mk : Tg (K, Kp)) = req (z.fits el = true /\ 0 <= a /\ a <= b /\ b * (el.sz + 1) <= 2 ^ 40) (.mk : Tg (K (.own el σ.length a.toNat 0 a.toNat) (σ ++ [.vec el (List.replicate a.toNat z)]))) := by
  rw[<-b_];simp only[cP,bp.run,AX.ev,and_assoc]
@[go_sem] def ae1 (xs : List AV) : cP P (.yq el (.c (.aK f el xs)) (some (.c (.int k a))) (some (.c (.int k' b)))) σ (.mk : Tg (K, Kp)) = req ((0 <= b /\ b <= xs.length) /\ 0 <= a /\ a <= b) (.mk : Tg (K (.aK false el ((xs.drop a.toNat).take (b.toNat - a.toNat))) σ)) := by
  rw[<-b_];simp only[cP,bp.run,AX.ev,bound,Option.map,and_assoc,true_and,eq_iff_iff];constructor
  ·rintro⟨h1,h2,h3,h4,h5⟩;exact⟨h1,h2,h3,by omega,h5⟩
  ·rintro⟨h1,h2,h3,h4,h5⟩;exact⟨h1,h2,h3,by omega,h5⟩
@[go_sem] def ae2 (xs : List AV) : cP P (.yq el (.c (.aK f el xs)) none (some (.c (.int k' b)))) σ (.mk : Tg (K, Kp)) = req (0 <= b /\ b <= xs.length) (.mk : Tg (K (.aK false el (xs.take b.toNat)) σ)) := by
  rw[<-b_];simp only[cP,bp.run,AX.ev,bound,Option.map,and_assoc,true_and,List.drop_zero,Nat.sub_zero]
@[go_sem] def ae3 (xs : List AV) : cP P (.yq el (.c (.aK f el xs)) (some (.c (.int k a))) none) σ (.mk : Tg (K, Kp)) = req (0 <= a /\ a <= xs.length) (.mk : Tg (K (.aK false el (xs.drop a.toNat)) σ)) := by
  rw[<-b_];simp only[cP,bp.run,AX.ev,bound,Option.map,and_assoc,true_and];have:(xs.drop a.toNat).take (xs.length-a.toNat)=xs.drop a.toNat:=br (by simp);rw[this]
end
end Go.AM
