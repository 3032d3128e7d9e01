/- Part of a proof: see Root. -/
import Derived.Test.YtmbgnaoilncbnaaGreatDoorZ09
import Derived.IntWalk
set_option linter.unnecessarySimpa false
set_option linter.unusedSimpArgs false
set_option linter.unusedVariables false
namespace Go.AM
variable {P:Program}
universe u
inductive Tg {α : Sort u} (K : α):Type where
 | mk
def kg(v:AV){K:AV→Prop}(_:Tg K): Prop:=K v
def DM(σ : ai){K:ai→Prop}(_:Tg K): Prop:=K σ
def adw(v:List AV){K:List AV→Prop}(_:Tg K): Prop:=K v
def adx(v:Option aR){K:Option aR→Prop}(_:Tg K): Prop:=K v
@[go_sem] theorem afi (v:AV) (K:AV→Prop):kg v (.mk:Tg K)=K v:=_root_.id rfl
@[go_sem] theorem afj (v:ai) (K:ai→Prop):DM v (.mk:Tg K)=K v:=_root_.id rfl
@[go_sem] theorem afk (v:List AV) (K:List AV→Prop):adw v (.mk:Tg K)=K v:=_root_.id rfl
@[go_sem] theorem afl (v:Option aR) (K:Option aR→Prop):adx v (.mk:Tg K)=K v:=_root_.id rfl
def req(p:Prop){K:Prop}(_:Tg K): Prop:=p∧(p→K)
@[go_sem] theorem afm (K:Prop):req True (.mk:Tg K)=K:=by simp[req]
theorem bK(p K:Prop): (p∧K)=req p (.mk:Tg K):=by simp only[req];exact propext ⟨fun h=>⟨h.1,fun _=>h.2⟩,fun h=>⟨h.1,h.2 h.1⟩⟩
@[go_sem ↓] theorem ahL (e:Env) (n:Nat):AX.ev e (.t n)=e n:=_root_.id rfl
@[go_sem ↓] theorem ahM (e:Env) (a:AV):AX.ev e (.c a)=a:=_root_.id rfl
def Lo(c:Bool){a b:AV}(_:Tg (a,b)): AV:=if c then a else b
@[go_sem] theorem agv (a b:AV):Lo true (.mk:Tg (a,b))=a:=_root_.id rfl
@[go_sem] theorem agw (a b:AV):Lo false (.mk:Tg (a,b))=b:=_root_.id rfl
@[go_sem ↓] theorem agx (e : Env) (d : Nat) (v : AV) (n : Nat) : dJ e (some d) v n = Lo (n == d) (.mk : Tg (v, e n)) := by
  simp only[dJ,Lo,beq_iff_eq]
@[go_sem ↓] theorem afn (e:Env) (v:AV):dJ e none v=e:=_root_.id rfl
@[go_sem] theorem ady (a:AV) (az:List AV):wB (a::az) 0=a:=_root_.id rfl
@[go_sem] theorem adz (a:AV) (az:List AV) (n:Nat):wB (a::az) (n+1)=wB az n:=_root_.id rfl
def DN(v:AV){T E:Prop}(_:Tg (T,E)): Prop :=
 match v with
 | .bool t=>(t=true→T)∧(t=false→E)
 | _=>False
@[go_sem] theorem adA (T E:Prop):DN (.bool true) (.mk:Tg (T,E))=T:=by simp[DN]
@[go_sem] theorem acV (T E:Prop):DN (.bool false) (.mk:Tg (T,E))=E:=by simp[DN]
theorem aau{t:Bool}{T E:Prop}(h:t=true→T)(h':t=false→E): DN (.bool t) (.mk:Tg (T,E)):=⟨h,h'⟩
@[go_sem ↓] theorem afo (Q:AQ) (e:Env) (σ : ai):fH P .skip Q e σ = Q .normal e σ:=_root_.id rfl
@[go_sem ↓] theorem adB (ops:List cq) (Q:AQ) (e:Env) (σ : ai):fH P (.region ops) Q e σ = dA P Q ops e σ:=_root_.id rfl
@[go_sem ↓] theorem afp (ops:List cq) (jK:List (AX × AX)) (Q:AQ) (e:Env) (σ : ai):fH P (.draw ops jK) Q e σ = dA P (ny jK Q) ops e σ:=_root_.id rfl
@[go_sem ↓] theorem agy (a b:aI) (Q:AQ) (e:Env) (σ : ai):fH P (.seq a b) Q e σ = fH P a (tL (fH P b Q) Q) e σ:=_root_.id rfl
@[go_sem ↓] theorem afq (c:AX) (a b:aI) (Q:AQ) (e:Env) (σ : ai):fH P (.cond c a b) Q e σ = DN (c.ev e) (.mk:Tg (fH P a Q e σ,fH P b Q e σ)):=_root_.id rfl
@[go_sem ↓] theorem aeh (id:Nat) (c:aI) (Q:AQ) (e:Env) (σ : ai):fH P (.block id c) Q e σ = fH P c (rF id Q) e σ:=_root_.id rfl
@[go_sem ↓] theorem afr (id:Nat) (Q:AQ) (e:Env) (σ : ai):fH P (.exit id) Q e σ = Q (.exit id) e σ:=_root_.id rfl
@[go_sem ↓] theorem agz (Q:AQ) (e:Env) (σ : ai):fH P .ret Q e σ = Q .ret e σ:=_root_.id rfl
@[go_sem ↓] theorem aei (l:Nat) (Q:AQ) (e:Env) (σ : ai):fH P (.label l) Q e σ = Q .normal e σ:=_root_.id rfl
@[go_sem ↓] theorem afs (l:Nat) (Q:AQ) (e:Env) (σ : ai):fH P (.goto l) Q e σ = Q (.goto l) e σ:=_root_.id rfl
def aad{c:aI}{Q:AQ}{e:Env}{σ : ai}(P:Program)(_:Tg (c,Q,e,σ)): Prop:=Z9 (fH P c) Q e σ
@[go_sem ↓] theorem afu (c:aI) (Q:AQ) (e:Env) (σ : ai):fH P (.loop c) Q e σ = aad P (.mk:Tg (c,Q,e,σ)):=_root_.id rfl
def Rj{l:Nat}{c r:aI}{Q:AQ}{e:Env}{σ : ai}(P:Program)(_:Tg (l,c,r,Q,e,σ)): Prop:=Xa l (fH P c) (fH P r) Q e σ
@[go_sem ↓] theorem aej (l:Nat) (c r:aI) (Q:AQ) (e:Env) (σ : ai):fH P (.scope l c r) Q e σ = Rj P (.mk:Tg (l,c,r,Q,e,σ)):=_root_.id rfl
def afv{nt:Nat}{ps:List Nat}{a b:aI}{Q:AQ}{e:Env}{σ : ai}(P:Program)(f:AV)(_:Tg (nt,ps,a,b,Q,e,σ)): Prop:=Nr P nt ps f (fH P a) (fH P b) Q e σ
@[go_sem ↓] theorem agA (f:AX) (nt:Nat) (ps:List Nat) (a b:aI) (Q:AQ) (e:Env) (σ : ai):fH P (.mC f nt ps a b) Q e σ = afv P (f.ev e) (.mk:Tg (nt,ps,a,b,Q,e,σ)):=_root_.id rfl
@[go_sem ↓] theorem abz (K:Env→ai→Prop) (Q:AQ) (e:Env) (σ : ai):tL K Q .normal e σ = K e σ:=_root_.id rfl
@[go_sem ↓] theorem adC (K:Env→ai→Prop) (Q:AQ) (i:Nat) (e:Env) (σ : ai):tL K Q (.exit i) e σ = Q (.exit i) e σ:=_root_.id rfl
@[go_sem ↓] theorem aek (K:Env→ai→Prop) (Q:AQ) (e:Env) (σ : ai):tL K Q .ret e σ = Q .ret e σ:=_root_.id rfl
@[go_sem ↓] theorem adD (K:Env→ai→Prop) (Q:AQ) (l:Nat) (e:Env) (σ : ai):tL K Q (.goto l) e σ = Q (.goto l) e σ:=_root_.id rfl
@[go_sem ↓] theorem acW (K:Env→ai→Prop) (Q:AQ) (v:AV) (e:Env) (σ : ai):tL K Q (.panic v) e σ = Q (.panic v) e σ:=_root_.id rfl
@[go_sem ↓] theorem aa_ (id:Nat) (Q:AQ) (e:Env) (σ : ai):rF id Q .normal e σ = Q .normal e σ:=_root_.id rfl
@[go_sem ↓] theorem adE (id:Nat) (Q:AQ) (e:Env) (σ : ai):rF id Q .ret e σ = Q .ret e σ:=_root_.id rfl
@[go_sem ↓] theorem acX (id l:Nat) (Q:AQ) (e:Env) (σ : ai):rF id Q (.goto l) e σ = Q (.goto l) e σ:=_root_.id rfl
@[go_sem ↓] theorem abA (id:Nat) (Q:AQ) (v:AV) (e:Env) (σ : ai):rF id Q (.panic v) e σ = Q (.panic v) e σ:=_root_.id rfl
def Iw(c:Bool){T E:Prop}(_:Tg (T,E)): Prop:=if c then T else E
@[go_sem] theorem agB (T E:Prop):Iw true (.mk:Tg (T,E))=T:=by simp[Iw]
@[go_sem] theorem agC (T E:Prop):Iw false (.mk:Tg (T,E))=E:=by simp[Iw]
@[go_sem ↓] theorem acY (id i : Nat) (Q : AQ) (e : Env) (σ : ai) : rF id Q (.exit i) e σ = Iw (i == id) (.mk : Tg (Q .normal e σ, Q (.exit i) e σ)) := by
  simp only[rF,Iw,beq_iff_eq]
@[go_sem ↓] theorem abB (jK:List (AX × AX)) (Q:AQ) (e:Env) (σ : ai):ny jK Q .normal e σ = req (pD jK e) (.mk:Tg (Q .normal e σ)):=bK _ _
@[go_sem ↓] theorem acZ (jK:List (AX × AX)) (Q:AQ) (v:AV) (e:Env) (σ : ai):ny jK Q (.panic v) e σ = Q (.panic v) e σ:=_root_.id rfl
@[go_sem ↓] theorem adF (Q:AQ) (e:Env) (σ : ai):dA P Q [] e σ = Q .normal e σ:=_root_.id rfl
@[go_sem ↓] theorem ac0 (Q:AQ) (o:aX) (d:Option Nat) (r:List cq) (e:Env) (σ : ai) :
 dA P Q (⟨o,d,none⟩::r) e σ = o.run P e σ (fun v σ'=>kg v (.mk:Tg fun v=>DM σ' (.mk:Tg fun σ'=>dA P Q r (dJ e d v) σ'))) (fun v σ'=>Q (.panic v) e σ'):=rfl
def lW(v:AV)(b:Bool){T E U:Prop}(_:Tg (T,E,U)): Prop :=
 match v with
 | .bool t=>(t=b→T)∧(t = !b→E)
 | .bJ []=>U
 | _=>False
@[go_sem] theorem ael (T E U:Prop):lW (.bool true) true (.mk:Tg (T,E,U))=T:=by simp[lW]
@[go_sem] theorem aem (T E U:Prop):lW (.bool false) false (.mk:Tg (T,E,U))=T:=by simp[lW]
@[go_sem] theorem aen (T E U:Prop):lW (.bool true) false (.mk:Tg (T,E,U))=E:=by simp[lW]
@[go_sem] theorem aeo (T E U:Prop):lW (.bool false) true (.mk:Tg (T,E,U))=E:=by simp[lW]
@[go_sem] theorem afw (b:Bool) (T E U:Prop):lW (.bJ []) b (.mk:Tg (T,E,U))=U:=by simp[lW]
theorem YM{t b:Bool}{T E U:Prop}(h:t=b→T)(h':t = !b→E): lW (.bool t) b (.mk:Tg (T,E,U)):=⟨h,h'⟩
@[go_sem ↓] theorem abC (Q:AQ) (o:aX) (d:Option Nat) (k:Nat) (b:Bool) (r:List cq) (e:Env) (σ : ai) :
 dA P Q (⟨o,d,some (k,b)⟩::r) e σ = lW (e k) b (.mk:Tg (o.run P (dJ e (some k) (.bool b)) σ (fun v σ'=>kg v (.mk:Tg fun v=>DM σ' (.mk:Tg fun σ'=>dA P Q r (dJ (dJ e (some k) (.bool b)) d v) σ'))) (fun v σ'=>Q (.panic v) (dJ e (some k) (.bool b)) σ'),
  dA P Q r (dJ (dJ e (some k) (.bool (!b))) d (.bJ [])) σ,dA P Q r (dJ e d (.bJ [])) σ)):=by
  simp only[dA,lW,kg,DM]
  cases e k<;>rfl
section
variable (e:Env) (σ : ai) (K Kp:AV→ai→Prop)
@[go_sem ↓] theorem ahg (x:AX):aX.run P (.mv x) e σ K Kp=K (x.ev e) σ:=_root_.id rfl
@[go_sem ↓] theorem aep (cs:List AV):aX.run P (.alloc none cs) e σ K Kp=K (.ref σ.length 0) (σ++[.cells cs]):=_root_.id rfl
@[go_sem ↓] theorem adG (T:TypeId) (cs:List AV):aX.run P (.alloc (some T) cs) e σ K Kp=K (.ref σ.length 0) (σ++[.bj (some T) cs]):=_root_.id rfl
@[go_sem ↓] theorem aeq (el:El):aX.run P (.iB el) e σ K Kp=K (.own el σ.length 0 0 0) (σ++[.vec el []]):=_root_.id rfl
def aae(T:TypeId)(v:AV)(σ : ai){K:AV→ai→Prop}(_:Tg K): Prop:=v.cells.all AV.scalar=true∧K (.ref σ.length 0) (σ++[.bj (some T) v.cells])
@[go_sem ↓] theorem afx (T:TypeId) (x:AX):aX.run P (.zi T x) e σ K Kp=aae T (x.ev e) σ (.mk:Tg K):=_root_.id rfl
@[go_sem] theorem afy (T:TypeId) (v:AV) (K:AV→ai→Prop):aae T v σ (.mk:Tg K)=req (v.cells.all AV.scalar=true) (.mk:Tg (K (.ref σ.length 0) (σ++[.bj (some T) v.cells]))):=bK _ _
@[go_sem ↓] theorem afz:aX.run P .hold e σ K Kp=K (.ref σ.length 0) (σ++[.jz]):=_root_.id rfl
def J3(v:AV)(σ : ai)(T:Option TypeId)(cs:List AV){K:AV→ai→Prop}(_:Tg K): Prop:=match v with
 | .ref n 0 => match σ[n]? with
   | some .jz=>K (.ref n 0) (σ.set n (.bj T cs))
   | _=>False
 | _=>False
@[go_sem ↓] theorem ac1 (k:Nat) (T:Option TypeId) (cs:List AV):aX.run P (.jb k T cs) e σ K Kp=J3 (e k) σ T cs (.mk:Tg K):=_root_.id rfl
def Rk(v:AV)(σ : ai)(T:Option TypeId)(el:El)(x y:AV){K:AV→ai→Prop}(_:Tg K): Prop:=match v with
 | .ref n 0 => match σ[n]? with
   | some .jz => match DC el y with
     | some ys=>DB el x=true∧ys.all (fun a=>a.fits el)=true∧dX ys.length el∧K (.own el n ys.length 0 ys.length) (σ.set n (.bM T el ys))
     | none=>False
   | _=>False
 | _=>False
@[go_sem ↓] theorem aer (k:Nat) (T:Option TypeId) (el:El) (x y:AX):aX.run P (.nx k T el x y) e σ K Kp=Rk (e k) σ T el (x.ev e) (y.ev e) (.mk:Tg K):=_root_.id rfl
def Cx(o:Option aR)(n:Nat)(σ : ai)(T:Option TypeId)(el:El)(x y:AV){K:AV→ai→Prop}(_:Tg K): Prop:=match o with
 | some .jz => match DC el y with
   | some ys=>DB el x=true∧ys.all (fun a=>a.fits el)=true∧dX ys.length el∧K (.own el n ys.length 0 ys.length) (σ.set n (.bM T el ys))
   | none=>False
 | _=>False
@[go_sem] theorem adH (n : Nat) (T : Option TypeId) (el : El) (x y : AV) : Rk (.ref n 0) σ T el x y (.mk : Tg K) = Cx (σ[n]?) n σ T el x y (.mk : Tg K) := by
  simp only[Rk,Cx]
@[go_sem] theorem adI (n : Nat) (T : Option TypeId) (el : El) (f : Bool) (x : AV) (ys : List AV) : Cx (some .jz) n σ T el x (.aG f el ys) (.mk : Tg K) = req (DB el x = true ∧ ys.all (fun a => a.fits el) = true ∧ dX ys.length el) (.mk : Tg (K (.own el n ys.length 0 ys.length) (σ.set n (.bM T el ys)))) := by
  rw[← bK];simp only[Cx,DC,if_true,and_assoc]
@[go_sem] theorem ac2 (n : Nat) (T : Option TypeId) (el : El) (x : AV) : Cx (some .jz) n σ T el x .ae (.mk : Tg K) = req (DB el x = true ∧ dX 0 el) (.mk : Tg (K (.own el n 0 0 0) (σ.set n (.bM T el [])))) := by
  rw[← bK];simp[Cx,DC,and_assoc]
def J4(o:Option aR)(n:Nat)(σ : ai)(T:Option TypeId)(cs:List AV){K:AV→ai→Prop}(_:Tg K): Prop:=match o with
 | some .jz=>K (.ref n 0) (σ.set n (.bj T cs))
 | _=>False
@[go_sem] theorem abD (n : Nat) (T : Option TypeId) (cs : List AV) : J3 (.ref n 0) σ T cs (.mk : Tg K) = J4 (σ[n]?) n σ T cs (.mk : Tg K) := by
  simp only[J3,J4]
@[go_sem] theorem ac3 (n:Nat) (T:Option TypeId) (cs:List AV):J4 (some .jz) n σ T cs (.mk:Tg K)=K (.ref n 0) (σ.set n (.bj T cs)):=_root_.id rfl
@[go_sem ↓] theorem aes (t:TypeId) (x:AX):aX.run P (.DA t x) e σ K Kp=K (.nh t (x.ev e)) σ:=_root_.id rfl
@[go_sem ↓] theorem afA (f:Fn) (a b:List AX):aX.run P (.vy f a b) e σ K Kp=K (.fn f (a.map (AX.ev e)) (b.map (AX.ev e))) σ:=_root_.id rfl
def zi(v:AV)(σ : ai){K:AV→ai→Prop}(_:Tg K): Prop:=v.cells.all AV.scalar=true∧K (.ref σ.length 0) (σ++[.cells v.cells])
@[go_sem ↓] theorem agD (x:AX):aX.run P (.box x) e σ K Kp=zi (x.ev e) σ (.mk:Tg K):=_root_.id rfl
def Vv(c a b:AV){K:AV→Prop}(_:Tg K): Prop:=match c with | .bool t=>K (if t then a else b)|_=>False
@[go_sem ↓] theorem afB (c a b : AX) : aX.run P (.pick c a b) e σ K Kp = Vv (c.ev e) (a.ev e) (b.ev e) (.mk : Tg fun v => K v σ) := by
  simp only[aX.run,Vv];rfl
def loadT(σ : ai)(ag:Bool)(n:Nat)(p:AV){K:AV→Prop}(_:Tg K): Prop:=lf σ ag n p K
def storeT(σ : ai)(n:Nat)(p v:AV){K:ai→Prop}(_:Tg K): Prop:=pq σ n p v K
def dP(op:BinOp)(x y:AV){K:AV→Prop}(_:Tg K): Prop:=fT op x y K
def unT(op:UnOp)(x:AV){K:AV→Prop}(_:Tg K): Prop:=F8 op x K
@[go_sem ↓] theorem run_load (ag:Bool) (n:Nat) (x:AX):aX.run P (.load ag n x) e σ K Kp=loadT σ ag n (x.ev e) (.mk:Tg fun v=>K v σ):=_root_.id rfl
@[go_sem ↓] theorem run_store (n:Nat) (x v:AX):aX.run P (.store n x v) e σ K Kp=storeT σ n (x.ev e) (v.ev e) (.mk:Tg fun σ'=>K (.bJ []) σ'):=_root_.id rfl
@[go_sem ↓] theorem agE (op:BinOp) (x y:AX):aX.run P (.bin op x y) e σ K Kp=dP op (x.ev e) (y.ev e) (.mk:Tg fun v=>K v σ):=_root_.id rfl
@[go_sem ↓] theorem ahh (op:UnOp) (x:AX):aX.run P (.un op x) e σ K Kp=unT op (x.ev e) (.mk:Tg fun v=>K v σ):=_root_.id rfl
def Gq (s : Bool) (x : AV) {K : AV → Prop} (_ : Tg K) : Prop := match s, x with
    | true,.str s=>K (.int .i64 s.length)
    | false,.ae=>K (.int .i64 0)
    | false,.aG _ _ xs=>K (.int .i64 xs.length)
    | false,.own _ _ _ _ n=>K (.int .i64 n)
    | _,_=>False
@[go_sem ↓] theorem agF (s : Bool) (x : AX) : aX.run P (.len s x) e σ K Kp = Gq s (x.ev e) (.mk : Tg fun v => K v σ) := by
  simp only[aX.run,Gq];rfl
def YN(x:AV)(i:Nat){K:AV→Prop}(_:Tg K): Prop:=match x with | .bJ vs=>i<vs.length∧K (vs.getD i .undef)|_=>False
@[go_sem ↓] theorem agG (x : AX) (i : Nat) : aX.run P (.ext x i) e σ K Kp = YN (x.ev e) i (.mk : Tg fun v => K v σ) := by
  simp only[aX.run,YN];rfl
def DO(op:Bool)(x:AV)(xs:List AV){K:AV→Prop}(_:Tg K): Prop:=r8 op x xs K
@[go_sem ↓] theorem agH (x:AX) (xs:List AX):aX.run P (.min x xs) e σ K Kp=DO true (x.ev e) (xs.map (AX.ev e)) (.mk:Tg fun v=>K v σ):=_root_.id rfl
@[go_sem ↓] theorem agI (x:AX) (xs:List AX):aX.run P (.max x xs) e σ K Kp=DO false (x.ev e) (xs.map (AX.ev e)) (.mk:Tg fun v=>K v σ):=_root_.id rfl
def Nt(K Kp:AV→ai→Prop): Out→ai→Prop
 | .ret r,σ=>K r σ
 | .panic r,σ=>Kp r σ
def Ix (P : Program) (q : Bool) (f : AV) (args : List AV) (σ : ai) {K Kp : AV → ai → Prop} (_ : Tg (K, Kp)) : Prop := match f with
    | .fn (.func n) first cap =>
      if q then ∃ r,(∀ τ,A6 P n (first++args++cap) (σ++ τ) r)∧K r σ
      else ef P n (first++args++cap) σ (Nt K Kp)
    | .qS l=>if q then False else tG P l args σ (Nt K Kp)
    | _=>False
@[go_sem ↓] theorem afC (q : Bool) (f : AX) (args : List AX) : aX.run P (.call q f args) e σ K Kp = Ix P q (f.ev e) (args.map (AX.ev e)) σ (.mk : Tg (K, Kp)) := by
  simp only[aX.run,Ix];rfl
theorem aj{n:Int}(h : -9223372036854775808≤n)(h':n≤9223372036854775807): cg .i64 n=n:=IntWalk.i64_in n ⟨h,h'⟩
@[go_sem] theorem ahi (a b:AV) (K:AV→Prop):Vv (.bool true) a b (.mk:Tg K)=kg a (.mk:Tg K):=_root_.id rfl
@[go_sem] theorem ahj (a b:AV) (K:AV→Prop):Vv (.bool false) a b (.mk:Tg K)=kg b (.mk:Tg K):=_root_.id rfl
@[go_sem] theorem agJ (v:AV) (K:AV→ai→Prop):zi v σ (.mk:Tg K)=req (v.cells.all AV.scalar=true) (.mk:Tg (K (.ref σ.length 0) (σ++[.cells v.cells]))):=bK _ _
variable (k:IntKind) (a b:Int) (s t:List UInt8) (p q:Bool) (K:AV→Prop)
@[go_sem] theorem afD:dP .add (.int k a) (.int k b) (.mk:Tg K)=K (.int k (cg k (a+b))):=by simp[dP,fT]
@[go_sem] theorem afE:dP .sub (.int k a) (.int k b) (.mk:Tg K)=K (.int k (cg k (a-b))):=by simp[dP,fT]
@[go_sem] theorem afF:dP .mul (.int k a) (.int k b) (.mk:Tg K)=K (.int k (cg k (a*b))):=by simp[dP,fT]
@[go_sem] theorem afG:dP .quo (.int k a) (.int k b) (.mk:Tg K)=req (b≠0) (.mk:Tg (K (.int k (cg k (a.tdiv b))))):=by rw[← bK];simp[dP,fT]
@[go_sem] theorem afH:dP .rem (.int k a) (.int k b) (.mk:Tg K)=req (b≠0) (.mk:Tg (K (.int k (a.tmod b)))):=by rw[← bK];simp[dP,fT]
@[go_sem] theorem afI:dP .eql (.int k a) (.int k b) (.mk:Tg K)=K (.bool (a==b)):=by simp[dP,fT]
@[go_sem] theorem afJ:dP .neq (.int k a) (.int k b) (.mk:Tg K)=K (.bool (!(a==b))):=by simp[dP,fT]
@[go_sem] theorem afK:dP .lss (.int k a) (.int k b) (.mk:Tg K)=K (.bool (decide (a<b))):=by simp[dP,fT]
@[go_sem] theorem afL:dP .leq (.int k a) (.int k b) (.mk:Tg K)=K (.bool (decide (a≤b))):=by simp[dP,fT]
@[go_sem] theorem afM:dP .gtr (.int k a) (.int k b) (.mk:Tg K)=K (.bool (decide (b<a))):=by simp[dP,fT]
@[go_sem] theorem afN:dP .geq (.int k a) (.int k b) (.mk:Tg K)=K (.bool (decide (b≤a))):=by simp[dP,fT]
@[go_sem] theorem aet:dP .add (.str s) (.str t) (.mk:Tg K)=req (((s.length+t.length:Nat):Int)≤IntKind.i64.max) (.mk:Tg (K (.str (s++t)))):=by rw[← bK];simp[dP,fT]
@[go_sem] theorem aeu:dP .eql (.str s) (.str t) (.mk:Tg K)=K (.bool (s==t)):=by simp[dP,fT]
@[go_sem] theorem aev:dP .neq (.str s) (.str t) (.mk:Tg K)=K (.bool (!(s==t))):=by simp[dP,fT]
@[go_sem] theorem agK:unT .not (.bool p) (.mk:Tg K)=K (.bool (!p)):=_root_.id rfl
@[go_sem] theorem ahk:Gq true (.str s) (.mk:Tg K)=K (.int .i64 s.length):=_root_.id rfl
@[go_sem] theorem OS:Gq false .ae (.mk:Tg K)=K (.int .i64 0):=_root_.id rfl
@[go_sem] theorem afO (f:Bool) (el:El) (xs:List AV):Gq false (.aG f el xs) (.mk:Tg K)=K (.int .i64 xs.length):=_root_.id rfl
@[go_sem] theorem Rl (el:El) (l m lo n:Nat):Gq false (.own el l m lo n) (.mk:Tg K)=K (.int .i64 n):=_root_.id rfl
@[go_sem] theorem afP (vs:List AV) (i:Nat):YN (.bJ vs) i (.mk:Tg K)=req (i<vs.length) (.mk:Tg (K (vs.getD i .undef))):=bK _ _
@[go_sem] theorem aew (op:Bool) (x:AV):DO op x [] (.mk:Tg K)=K x:=_root_.id rfl
@[go_sem] theorem agL (ys:List AV):DO true (.int k a) (.int k b::ys) (.mk:Tg K)=DO true (.int k (if b<a then b else a)) ys (.mk:Tg K):=_root_.id rfl
@[go_sem] theorem agM (ys:List AV):DO false (.int k a) (.int k b::ys) (.mk:Tg K)=DO false (.int k (if a<b then b else a)) ys (.mk:Tg K):=_root_.id rfl
@[go_sem ↓] theorem afQ (rs:List tM) (R:Out→ai→Prop):Ri rs R .ret e σ = ri e σ rs fun vs=>R (.ret (oneOf vs)) σ:=_root_.id rfl
@[go_sem ↓] theorem ac4 (rs:List tM) (R:Out→ai→Prop):Ri rs R .normal e σ = ri e σ rs fun vs=>R (.ret (oneOf vs)) σ:=_root_.id rfl
@[go_sem ↓] theorem afR (K:List AV→Prop):ri e σ [] K=K []:=_root_.id rfl
@[go_sem ↓] theorem afS (t:Nat) (r:List tM) (K:List AV→Prop):ri e σ (.tmp t::r) K=ri e σ r fun vs=>K (e t::vs):=_root_.id rfl
end
end Go.AM
namespace Go.AM
variable {P:Program}
section
variable (e:Env) (σ : ai) (K Kp:AV→ai→Prop)
def yH(o:Option aR)(off:Nat)(ag:Bool)(n:Nat){K:AV→Prop}(_:Tg K): Prop:=match o with
 | some (.bj _ cs)=>off+n≤cs.length∧(ag=false→n=1)∧K (if ag then .agg ((cs.drop off).take n)else cs.getD off .undef)
 | _=>False
@[go_sem] theorem aex (ag:Bool) (n l off:Nat) (K:AV→Prop):loadT σ ag n (.ref l off) (.mk:Tg K)=yH (σ[l]?) off ag n (.mk:Tg K):=_root_.id rfl
@[go_sem] theorem agN (cs : List AV) (off n : Nat) (K : AV → Prop) : yH (some (.cells cs)) off false n (.mk : Tg K) = req (off + n ≤ cs.length ∧ n = 1) (.mk : Tg (K (cs.getD off .undef))) := by
  rw[← bK];simp[yH,and_assoc]
@[go_sem] theorem agO (cs : List AV) (off n : Nat) (K : AV → Prop) : yH (some (.cells cs)) off true n (.mk : Tg K) = req (off + n ≤ cs.length) (.mk : Tg (K (.agg ((cs.drop off).take n)))) := by
  rw[← bK];simp[yH]
@[go_sem] theorem afT (T : TypeId) (cs : List AV) (off n : Nat) (K : AV → Prop) : yH (some (.bj (some T) cs)) off false n (.mk : Tg K) = req (off + n ≤ cs.length ∧ n = 1) (.mk : Tg (K (cs.getD off .undef))) := by
  rw[← bK];simp[yH,and_assoc]
@[go_sem] theorem afU (T : TypeId) (cs : List AV) (off n : Nat) (K : AV → Prop) : yH (some (.bj (some T) cs)) off true n (.mk : Tg K) = req (off + n ≤ cs.length) (.mk : Tg (K (.agg ((cs.drop off).take n)))) := by
  rw[← bK];simp[yH]
def Gr(σ : ai)(l:Nat)(o:Option aR)(off n:Nat)(v:AV){K:ai→Prop}(_:Tg K): Prop:=v.cells.length=n∧v.cells.all AV.scalar=true∧match o with
 | some (.bj T cs)=>off+n≤cs.length∧K (σ.set l (.bj T (dM cs off v.cells)))
 | _=>False
@[go_sem] theorem adJ (n l off:Nat) (v:AV) (K:ai→Prop):storeT σ n (.ref l off) v (.mk:Tg K)=Gr σ l (σ[l]?) off n v (.mk:Tg K):=_root_.id rfl
@[go_sem] theorem afV (l : Nat) (cs : List AV) (off n : Nat) (v : AV) (K : ai → Prop) : Gr σ l (some (.cells cs)) off n v (.mk : Tg K) = req (v.cells.length = n ∧ v.cells.all AV.scalar = true ∧ off + n ≤ cs.length) (.mk : Tg (K (σ.set l (.cells (dM cs off v.cells))))) := by
  rw[← bK];simp[Gr,and_assoc]
@[go_sem] theorem aey (l : Nat) (T : TypeId) (cs : List AV) (off n : Nat) (v : AV) (K : ai → Prop) : Gr σ l (some (.bj (some T) cs)) off n v (.mk : Tg K) = req (v.cells.length = n ∧ v.cells.all AV.scalar = true ∧ off + n ≤ cs.length) (.mk : Tg (K (σ.set l (.bj (some T) (dM cs off v.cells))))) := by
  rw[← bK];simp[Gr,and_assoc]
def b_(P:Program)(o:aX)(σ : ai){K Kp:AV→ai→Prop}(_:Tg (K,Kp)): Prop:=o.run P (fun _=> .undef) σ K Kp
@[go_sem ↓] theorem aez (off:Nat) (x:AX):aX.run P (.eV off x) e σ K Kp=b_ P (.eV off (.c (x.ev e))) σ (.mk:Tg (K,Kp)):=_root_.id rfl
@[go_sem ↓] theorem aeA (x:AX):aX.run P (.jn x) e σ K Kp=b_ P (.jn (.c (x.ev e))) σ (.mk:Tg (K,Kp)):=_root_.id rfl
@[go_sem ↓] theorem aeB (ag:Bool) (off n:Nat) (x:AX):aX.run P (.field ag off n x) e σ K Kp=b_ P (.field ag off n (.c (x.ev e))) σ (.mk:Tg (K,Kp)):=_root_.id rfl
@[go_sem ↓] theorem aeC (el:El) (arr:Option Nat) (x i:AX):aX.run P (.bQ el arr x i) e σ K Kp=b_ P (.bQ el arr (.c (x.ev e)) (.c (i.ev e))) σ (.mk:Tg (K,Kp)):=_root_.id rfl
@[go_sem ↓] theorem afW (x i:AX):aX.run P (.eJ x i) e σ K Kp=b_ P (.eJ (.c (x.ev e)) (.c (i.ev e))) σ (.mk:Tg (K,Kp)):=_root_.id rfl
@[go_sem ↓] theorem afX (el:El) (n:Nat) (x i:AX):aX.run P (.zg el n x i) e σ K Kp=b_ P (.zg el n (.c (x.ev e)) (.c (i.ev e))) σ (.mk:Tg (K,Kp)):=_root_.id rfl
@[go_sem ↓] theorem afY (k:IntKind) (x:AX):aX.run P (.gW k x) e σ K Kp=b_ P (.gW k (.c (x.ev e))) σ (.mk:Tg (K,Kp)):=_root_.id rfl
@[go_sem ↓] theorem agP (x:AX):aX.run P (.K4 x) e σ K Kp=b_ P (.K4 (.c (x.ev e))) σ (.mk:Tg (K,Kp)):=_root_.id rfl
@[go_sem ↓] theorem agQ (x:AX):aX.run P (.K5 x) e σ K Kp=b_ P (.K5 (.c (x.ev e))) σ (.mk:Tg (K,Kp)):=_root_.id rfl
@[go_sem ↓] theorem agR (x:AX):aX.run P (.uV x) e σ K Kp=b_ P (.uV (.c (x.ev e))) σ (.mk:Tg (K,Kp)):=_root_.id rfl
@[go_sem ↓] theorem ac5 (el:El) (z:AV) (x i:AX):aX.run P (.oh el z x i) e σ K Kp=b_ P (.oh el z (.c (x.ev e)) (.c (i.ev e))) σ (.mk:Tg (K,Kp)):=_root_.id rfl
@[go_sem ↓] theorem aeD (x:AX):aX.run P (.panic x) e σ K Kp=b_ P (.panic (.c (x.ev e))) σ (.mk:Tg (K,Kp)):=_root_.id rfl
@[go_sem ↓] theorem agS (T:Option TypeId) (el:El) (x i:AX):aX.run P (.app T el x i) e σ K Kp=b_ P (.app T el (.c (x.ev e)) (.c (i.ev e))) σ (.mk:Tg (K,Kp)):=_root_.id rfl
@[go_sem ↓] theorem agT (ng ag:Bool) (ks:List Kd) (x i:AX):aX.run P (.ni ng ag ks x i) e σ K Kp=b_ P (.ni ng ag ks (.c (x.ev e)) (.c (i.ev e))) σ (.mk:Tg (K,Kp)):=_root_.id rfl
@[go_sem ↓] theorem aeE (ng:Bool) (k:NK) (x i:AX):aX.run P (.r7 ng k x i) e σ K Kp=b_ P (.r7 ng k (.c (x.ev e)) (.c (i.ev e))) σ (.mk:Tg (K,Kp)):=_root_.id rfl
@[go_sem ↓] theorem agU (el:El) (x:AX):aX.run P (.EO el x) e σ K Kp=b_ P (.EO el (.c (x.ev e))) σ (.mk:Tg (K,Kp)):=_root_.id rfl
@[go_sem ↓] theorem afZ (T:TypeId) (x i:AX):aX.run P (.zh T x i) e σ K Kp=b_ P (.zh T (.c (x.ev e)) (.c (i.ev e))) σ (.mk:Tg (K,Kp)):=_root_.id rfl
@[go_sem ↓] theorem agV (x:AX):aX.run P (.K6 x) e σ K Kp=b_ P (.K6 (.c (x.ev e))) σ (.mk:Tg (K,Kp)):=_root_.id rfl
@[go_sem ↓] theorem agW (u:TypeId) (x:AX):aX.run P (.K7 u x) e σ K Kp=b_ P (.K7 u (.c (x.ev e))) σ (.mk:Tg (K,Kp)):=_root_.id rfl
@[go_sem ↓] theorem agX (ng:Bool) (x i:AX):aX.run P (.I6 ng x i) e σ K Kp=b_ P (.I6 ng (.c (x.ev e)) (.c (i.ev e))) σ (.mk:Tg (K,Kp)):=_root_.id rfl
def cO(e:Env): Option AX→Option AX
 | none=>none
 | some x=>some (.c (x.ev e))
@[go_sem] theorem agY:cO e none=none:=_root_.id rfl
@[go_sem] theorem agZ (x:AX):cO e (some x)=some (.c (x.ev e)):=_root_.id rfl
@[go_sem ↓] theorem ag0 (x : AX) (lo hi : Option AX) : aX.run P (.mK x lo hi) e σ K Kp = b_ P (.mK (.c (x.ev e)) (cO e lo) (cO e hi)) σ (.mk : Tg (K, Kp)) := by
  cases lo<;>cases hi<;>rfl
@[go_sem ↓] theorem ag1 (el : El) (x : AX) (lo hi : Option AX) : aX.run P (.uW el x lo hi) e σ K Kp = b_ P (.uW el (.c (x.ev e)) (cO e lo) (cO e hi)) σ (.mk : Tg (K, Kp)) := by
  cases lo<;>cases hi<;>rfl
variable (k k':IntKind) (a b:Int) (s t:List UInt8) (el:El) (xs cs:List AV) (l m lo n off i:Nat) (f:Bool)
@[go_sem] theorem abE:b_ P (.eV off (.c (.ref l i))) σ (.mk:Tg (K,Kp))=K (.ref l (i+off)) σ:=_root_.id rfl
@[go_sem] theorem abb (x:AV):b_ P (.eV off (.c (.dW el x i))) σ (.mk:Tg (K,Kp))=K (.dW el x (i+off)) σ:=_root_.id rfl
@[go_sem] theorem abd (j:Nat):b_ P (.eV off (.c (.dD el l m j i))) σ (.mk:Tg (K,Kp))=K (.dD el l m j (i+off)) σ:=_root_.id rfl
@[go_sem] theorem abF:b_ P (.jn (.c (.ref l i))) σ (.mk:Tg (K,Kp))=K (.ref l i) σ:=_root_.id rfl
@[go_sem] theorem abG:b_ P (.jn (.c (.qS l))) σ (.mk:Tg (K,Kp))=K (.qS l) σ:=_root_.id rfl
@[go_sem] theorem ac6 (g:FuncId) (xs ys:List AV):b_ P (.jn (.c (.fn (.func g) xs ys))) σ (.mk:Tg (K,Kp))=K (.fn (.func g) xs ys) σ:=_root_.id rfl
@[go_sem] theorem adK : b_ P (.field false off n (.c (.agg cs))) σ (.mk : Tg (K, Kp)) = req (off + n ≤ cs.length ∧ n = 1) (.mk : Tg (K (cs.getD off .undef) σ)) := by
  rw[← bK];simp[b_,aX.run,AX.ev,and_assoc]
@[go_sem] theorem adL : b_ P (.field true off n (.c (.agg cs))) σ (.mk : Tg (K, Kp)) = req (off + n ≤ cs.length) (.mk : Tg (K (.agg ((cs.drop off).take n)) σ)) := by
  rw[← bK];simp[b_,aX.run,AX.ev]
@[go_sem] theorem abH : b_ P (.bQ el none (.c (.aG f el xs)) (.c (.int k a))) σ (.mk : Tg (K, Kp)) = req (0 ≤ a ∧ a < xs.length) (.mk : Tg (K (.dW el (xs.getD a.toNat .undef) 0) σ)) := by
  rw[← bK];simp[b_,aX.run,AX.ev,and_assoc]
@[go_sem] theorem ag2 : b_ P (.eJ (.c (.str s)) (.c (.int k a))) σ (.mk : Tg (K, Kp)) = req (0 ≤ a ∧ a < s.length) (.mk : Tg (K (.int .u8 (s.getD a.toNat 0).toNat) σ)) := by
  rw[← bK];simp[b_,aX.run,AX.ev,and_assoc]
@[go_sem] theorem ag3:b_ P (.gW k (.c (.int k' a))) σ (.mk:Tg (K,Kp))=K (.int k (cg k a)) σ:=_root_.id rfl
@[go_sem] theorem ahl:b_ P (.K4 (.c (.str s))) σ (.mk:Tg (K,Kp))=K (.str s) σ:=_root_.id rfl
theorem toNat_le{a:Int}{n:Nat}(h:0≤a): (a≤((n:Nat):Int))=(a.toNat≤n):=by simp only[eq_iff_iff];omega
@[go_sem] theorem aeF : b_ P (.mK (.c (.str s)) (some (.c (.int k a))) (some (.c (.int k' b)))) σ (.mk : Tg (K, Kp)) = req ((0 ≤ b ∧ b ≤ s.length) ∧ 0 ≤ a ∧ a ≤ b) (.mk : Tg (K (.str ((s.drop a.toNat).take (b.toNat - a.toNat))) σ)) := by
  rw[← bK];simp only[b_,aX.run,AX.ev,bound,Option.map,and_assoc,eq_iff_iff]
  constructor
  ·rintro⟨h1,h2,h3,h4,h5⟩;exact⟨h1,h2,h3,by omega,h5⟩
  ·rintro⟨h1,h2,h3,h4,h5⟩;exact⟨h1,h2,h3,by omega,h5⟩
@[go_sem] theorem aeG : b_ P (.mK (.c (.str s)) none (some (.c (.int k' b)))) σ (.mk : Tg (K, Kp)) = req (0 ≤ b ∧ b ≤ s.length) (.mk : Tg (K (.str (s.take b.toNat)) σ)) := by
  rw[← bK];simp only[b_,aX.run,AX.ev,bound,Option.map,and_assoc,List.drop_zero,Nat.sub_zero]
@[go_sem] theorem aeH : b_ P (.mK (.c (.str s)) (some (.c (.int k a))) none) σ (.mk : Tg (K, Kp)) = req (0 ≤ a ∧ a ≤ s.length) (.mk : Tg (K (.str (s.drop a.toNat)) σ)) := by
  rw[← bK];simp only[b_,aX.run,AX.ev,bound,Option.map,and_assoc]
  have:(s.drop a.toNat).take (s.length-a.toNat)=s.drop a.toNat:=List.take_of_length_le (by simp)
  rw[this]
def yI(P:Program)(n:FuncId)(args:List AV)(σ : ai){K Kp:AV→ai→Prop}(_:Tg (K,Kp)): Prop:=ef P n args σ (Nt K Kp)
def DP(P:Program)(n:FuncId)(args:List AV)(σ : ai){K Kp:AV→ai→Prop}(_:Tg (K,Kp)): Prop:= ∃ r,(∀ τ,A6 P n args (σ++ τ) r)∧K r σ
@[go_sem] theorem ag4 (n : FuncId) (first args cap : List AV) : Ix P false (.fn (.func n) first cap) args σ (.mk : Tg (K, Kp)) = yI P n (first ++ args ++ cap) σ (.mk : Tg (K, Kp)) := by
  simp[Ix,yI]
@[go_sem] theorem ag5 (n : FuncId) (first args cap : List AV) : Ix P true (.fn (.func n) first cap) args σ (.mk : Tg (K, Kp)) = DP P n (first ++ args ++ cap) σ (.mk : Tg (K, Kp)) := by
  simp[Ix,DP]
theorem Uu{n:FuncId}{args:List AV}{σ : ai}{K Kp:AV→ai→Prop}{r:AV}(h:∀ σ,A6 P n args σ r)(hk:kg r (.mk:Tg fun r=>K r σ)): yI P n args σ (.mk:Tg (K,Kp)) :=
 (h σ).mono fun o s ⟨h1,h2⟩=>by subst h1;subst h2;exact hk
theorem Uv{n:FuncId}{args:List AV}{σ : ai}{K Kp:AV→ai→Prop}{r:AV}(h:∀ σ,A6 P n args σ r)(hk:kg r (.mk:Tg fun r=>K r σ)): DP P n args σ (.mk:Tg (K,Kp)):=⟨r,fun τ=>h _,hk⟩
theorem bT{n:FuncId}{args:List AV}{σ : ai}{K Kp:AV→ai→Prop}{R:Out→ai→Prop}(h:ef P n args σ R)(hk:∀ o s,R o s→Nt K Kp o s): yI P n args σ (.mk:Tg (K,Kp)):=h.mono hk
def Gs: List AV→List (Nat × Nat × AV)→(List AV→Prop)→Prop
 | z,[],K=>K z
 | z,(off,n,v)::r,K=>v.cells.length=n∧v.cells.all AV.scalar=true∧off+n≤z.length∧Gs (dM z off v.cells) r K
def Gt(z:List AV)(ps:List (Nat × Nat × AV)){K:List AV→Prop}(_:Tg K): Prop:=Gs z ps K
theorem OU(e:Env)(K:List AV→Prop): ∀(ps:List (Nat × Nat × AX)) (z:List AV),kP z e ps K=Gs z (ps.map fun p=>(p.1,p.2.1,p.2.2.ev e)) K
 | [],z=>rfl
 |(off,n,x)::r,z=>by simp only[kP,Gs,List.map_cons,OU e K r]
@[go_sem ↓] theorem run_build (z:List AV) (ps:List (Nat × Nat × AX)):aX.run P (.build z ps) e σ K Kp=Gt z (ps.map fun p=>(p.1,p.2.1,p.2.2.ev e)) (.mk:Tg fun cs=>K (.agg cs) σ):=OU e _ ps z
@[go_sem] theorem adM (z:List AV) (K:List AV→Prop):Gt z [] (.mk:Tg K)=K z:=_root_.id rfl
@[go_sem] theorem ac7 (z : List AV) (off n : Nat) (v : AV) (r : List (Nat × Nat × AV)) (K : List AV → Prop) : Gt z ((off, n, v) :: r) (.mk : Tg K) = req (v.cells.length = n ∧ v.cells.all AV.scalar = true ∧ off + n ≤ z.length) (.mk : Tg (Gt (dM z off v.cells) r (.mk : Tg K))) := by
  rw[← bK];simp only[Gt,Gs,and_assoc]
def Cy(el:El): List AV→List (Nat × AV)→(List AV→Prop)→Prop
 | z,[],K=>K z
 | z,(i,v)::r,K=>v.fits el=true∧i<z.length∧Cy el (z.set i v) r K
def y7(el:El)(z:List AV)(ps:List (Nat × AV)){K:List AV→Prop}(_:Tg K): Prop:=Cy el z ps K
theorem DQ(el:El)(e:Env)(K:List AV→Prop): ∀(ps:List (Nat × AX)) (z:List AV),jJ el z e ps K=Cy el z (ps.map fun p=>(p.1,p.2.ev e)) K
 | [],z=>rfl
 |(i,x)::r,z=>by simp only[jJ,Cy,List.map_cons,DQ el e K r]
@[go_sem ↓] theorem abI (el:El) (z:AV) (n:Nat) (ps:List (Nat × AX)):aX.run P (.bD false el z n ps) e σ K Kp=y7 el (List.replicate n z) (ps.map fun p=>(p.1,p.2.ev e)) (.mk:Tg fun xs=>K (.aG true el xs) σ):=DQ el e _ ps _
@[go_sem ↓] theorem abJ (el:El) (z:AV) (n:Nat) (ps:List (Nat × AX)):aX.run P (.bD true el z n ps) e σ K Kp=y7 el (List.replicate n z) (ps.map fun p=>(p.1,p.2.ev e)) (.mk:Tg fun xs=>K (.own el σ.length n 0 n) (σ++[.vec el xs])):=DQ el e _ ps _
@[go_sem] theorem ac8 (z:List AV) (K:List AV→Prop):y7 el z [] (.mk:Tg K)=K z:=_root_.id rfl
@[go_sem] theorem abK (z : List AV) (i : Nat) (v : AV) (r : List (Nat × AV)) (K : List AV → Prop) : y7 el z ((i, v) :: r) (.mk : Tg K) = req (v.fits el = true ∧ i < z.length) (.mk : Tg (y7 el (z.set i v) r (.mk : Tg K))) := by
  rw[← bK];simp only[y7,Cy,and_assoc]
def r_(c:Bool)(el:El)(x:AV)(off:Nat)(ag:Bool)(n:Nat){K:AV→Prop}(_:Tg K): Prop:=c=(off==0 && n==el.sz && ag==el.ag)∧partOf el x off ag n K
@[go_sem] theorem adN (ag : Bool) (n : Nat) (el : El) (x : AV) (off : Nat) (K : AV → Prop) : loadT σ ag n (.dW el x off) (.mk : Tg K) = r_ (off == 0 && n == el.sz && ag == el.ag) el x off ag n (.mk : Tg K) := by
  simp only[r_,true_and];rfl
@[go_sem] theorem ag6 (ag : Bool) (n : Nat) (x : AV) (K : AV → Prop) : r_ true ⟨ag, n⟩ x 0 ag n (.mk : Tg K) = K x := by
  simp[r_,partOf]
@[go_sem] theorem aav (el : El) (off n : Nat) (cs : List AV) (K : AV → Prop) (h : (off == 0 && n == el.sz && false == el.ag) = false) : r_ false el (.agg cs) off false n (.mk : Tg K) = req (off + n ≤ el.sz ∧ n = 1) (.mk : Tg (K (cs.getD off .undef))) := by
  have hn:¬ (off=0∧n=el.sz∧false=el.ag):=by rintro⟨h1,h2,h3⟩;subst h1;subst h2;rw[← h3]at h;simp at h
  rw[← bK];simp only[r_,partOf,if_neg hn,h,true_and]
  simp only[Bool.false_eq_true,if_false,forall_const,eq_iff_iff]
  exact⟨fun⟨h1,h2,h3⟩=>⟨⟨h1,h3⟩,h2⟩,fun⟨⟨h1,h3⟩,h2⟩=>⟨h1,h2,h3⟩⟩
def Gu(σ : ai)(T:Option TypeId)(el:El)(o:Option aR)(l m lo n:Nat)(ys:List AV){K:AV→ai→Prop}(_:Tg K): Prop:=match o with
 | some (.bM T' cL xs) => (T' = none ∨ T' = T) ∧ cL = el ∧ m = xs.length ∧ lo = 0 ∧ n = xs.length ∧ dX (xs.length + ys.length) el ∧
    K (.own el l (xs.length+ys.length) 0 (xs.length+ys.length)) (σ.set l (.bM T' el (xs++ys)))
 | _=>False
@[go_sem] theorem adO (T : Option TypeId) (ys : List AV) : b_ P (.app T el (.c (.own el l m lo n)) (.c (.aG f el ys))) σ (.mk : Tg (K, Kp)) = req (ys.all (fun a => a.fits el) = true) (.mk : Tg (Gu σ T el (σ[l]?) l m lo n ys (.mk : Tg K))) := by
  rw[← bK];simp only[b_,aX.run,AX.ev,rh,fy,Gu,true_and];rfl
@[go_sem] theorem ag7 (T : Option TypeId) (xs ys : List AV) : Gu σ T el (some (.vec el xs)) l m lo n ys (.mk : Tg K) = req (m = xs.length ∧ lo = 0 ∧ n = xs.length ∧ dX (xs.length + ys.length) el) (.mk : Tg (K (.own el l (xs.length + ys.length) 0 (xs.length + ys.length)) (σ.set l (.vec el (xs ++ ys))))) := by
  rw[← bK];simp only[Gu,true_and,true_or,and_assoc]
@[go_sem] theorem af0 (t : TypeId) (xs ys : List AV) : Gu σ (some t) el (some (.bM (some t) el xs)) l m lo n ys (.mk : Tg K) = req (m = xs.length ∧ lo = 0 ∧ n = xs.length ∧ dX (xs.length + ys.length) el) (.mk : Tg (K (.own el l (xs.length + ys.length) 0 (xs.length + ys.length)) (σ.set l (.bM (some t) el (xs ++ ys))))) := by
  rw[← bK];simp only[Gu,true_and,or_true,and_assoc]
@[go_sem] theorem ac9 (y : AV) (ys : List AV) : b_ P (.app none el (.c .ae) (.c (.aG f el (y :: ys)))) σ (.mk : Tg (K, Kp)) = req ((y :: ys).all (fun a => a.fits el) = true ∧ dX (y :: ys).length el) (.mk : Tg (K (.own el σ.length (y :: ys).length 0 (y :: ys).length) (σ ++ [.vec el (y :: ys)]))) := by
  rw[← bK]
  simp only[b_,aX.run,AX.ev,rh,fy,true_and,List.length_cons,Nat.add_eq_zero_iff,Nat.one_ne_zero,and_false,if_false,and_assoc]
@[go_sem] theorem abL (t : TypeId) (y : AV) (ys : List AV) : b_ P (.app (some t) el (.c .ae) (.c (.aG f el (y :: ys)))) σ (.mk : Tg (K, Kp)) = req ((y :: ys).all (fun a => a.fits el) = true ∧ dX (y :: ys).length el) (.mk : Tg (K (.own el σ.length (y :: ys).length 0 (y :: ys).length) (σ ++ [.bM (some t) el (y :: ys)]))) := by
  rw[← bK]
  simp only[b_,aX.run,AX.ev,rh,fy,true_and,List.length_cons,Nat.add_eq_zero_iff,Nat.one_ne_zero,and_false,if_false,and_assoc]
@[go_sem] theorem ac_ (xs : List AV) (y : AV) (ys : List AV) (f' : Bool) : b_ P (.app none el (.c (.aG true el xs)) (.c (.aG f' el (y :: ys)))) σ (.mk : Tg (K, Kp)) = req ((y :: ys).all (fun a => a.fits el) = true ∧ dX (xs.length + (y :: ys).length) el) (.mk : Tg (K (.own el σ.length (xs.length + (y :: ys).length) 0 (xs.length + (y :: ys).length)) (σ ++ [.vec el (xs ++ y :: ys)]))) := by
  rw[← bK]
  simp only[b_,aX.run,AX.ev,rh,fy,true_and,List.length_cons,Nat.add_eq_zero_iff,Nat.one_ne_zero,and_false,if_false,and_assoc]
theorem Vw{T:Option TypeId}{xs:List AV}(h : σ[l]? = some (.bM T el xs))(hm:m=xs.length)(hn:0<n)(hk:K (.dD el l m lo 0) σ): b_ P (.EO el (.c (.own el l m lo n))) σ (.mk:Tg (K,Kp)):=by
 simp only[b_,aX.run,AX.ev,h];exact⟨trivial,trivial,hm,hn,hk⟩
theorem Ti(T:TypeId): b_ P (.zh T (.c .fM) (.c (.int .i64 0))) σ (.mk:Tg (K,Kp))=K (.str []) σ:=by
 simp[b_,aX.run,AX.ev]
theorem Tj{T:TypeId}{xs:List AV}(s:List UInt8)(h : σ[l]? = some (.bM (some T) ⟨false,1⟩ xs))(hm:m=xs.length)(hx:xs=s.map fun b=> .int .u8 b.toNat)(h0:s≠[])(h2:s.length≤2 ^ 62)(ha:a=(s.length:Int))(hk:K (.str s) (σ.set l .dead)):
 b_ P (.zh T (.c (.dD ⟨false,1⟩ l m 0 0)) (.c (.int .i64 a))) σ (.mk:Tg (K,Kp)):=by
 subst hx;subst ha
 have h1:0<s.length:=List.length_pos_iff.2 h0
 simp only[b_,aX.run,AX.ev,h]
 refine⟨trivial,trivial,trivial,trivial,hm,by omega,by simp,by simpa using h2,s,?_,hk⟩
 rw[List.take_of_length_le (by simp)]
theorem abM{T:Option TypeId}(h : σ[l]? = some (.bj T cs))(hlt:off<cs.length)(hk:K (.ref l off) σ): b_ P (.K6 (.c (.ref l off))) σ (.mk:Tg (K,Kp)):=by
 simp only[b_,aX.run,AX.ev,h];exact⟨hlt,hk⟩
theorem abN{T u:TypeId}(h : σ[l]? = some (.bj (some T) cs))(hlt:liesAt P P.depth T (cs.length / P.cellsOf T) off u 1=true)(hk:K (.ref l off) σ): b_ P (.K7 u (.c (.ref l off))) σ (.mk:Tg (K,Kp)):=by
 simp only[b_,aX.run,AX.ev,h];exact⟨hlt,hk⟩
theorem abO{T:Option TypeId}(ng:Bool)(h : σ[l]? = some (.bj T cs))(hk:K (.bool ng.not) σ): b_ P (.I6 ng (.c (.ref l off)) (.c (.ref l off))) σ (.mk:Tg (K,Kp)):=by
 simp only[b_,aX.run,AX.ev,h];exact⟨trivial,trivial,hk⟩
def Xm (P : Program) (g : FuncId) (v : AV) (σ : ai) {K : AV → ai → Prop} (_ : Tg K) : Prop := (∃ fn, P.funcs[g]? = some fn ∧ (fn.name == "runtime.NumGoroutine") = false ∧ fn.body.isNone = true ∧ Extern.findNext fn = none ∧ Extern.find fn = some Extern.AbiNoEscape.same) ∧ K v σ
@[go_sem ↓] theorem aeI (g:FuncId) (x:AX):aX.run P (.Ir g x) e σ K Kp=Xm P g (x.ev e) σ (.mk:Tg K):=_root_.id rfl
theorem YO(ng:Bool)(k:NK)(x y:AV): b_ P (.r7 ng k (.c x) (.c y)) σ (.mk:Tg (K,Kp))=(match qu k x y with|some b=>K (.bool (if ng then !b else b)) σ | none=>False):=rfl
theorem YP(ng:Bool)(ks:List Kd)(xs ys:List AV): b_ P (.ni ng true ks (.c (.agg xs)) (.c (.agg ys))) σ (.mk:Tg (K,Kp))=(match fx ks xs ys with|some b=>K (.bool (if ng then !b else b)) σ | none=>False):=rfl
theorem YQ(ng:Bool)(ks:List Kd)(x y:AV): b_ P (.ni ng false ks (.c x) (.c y)) σ (.mk:Tg (K,Kp))=(match fx ks [x] [y]with|some b=>K (.bool (if ng then !b else b)) σ | none=>False):=rfl
@[go_sem] theorem ahm : b_ P (.K5 (.c (.str s))) σ (.mk : Tg (K, Kp)) = req (s.length ≤ 2 ^ 40) (.mk : Tg (K (.own ⟨false, 1⟩ σ.length s.length 0 s.length) (σ ++ [.vec ⟨false, 1⟩ (s.map fun b => .int .u8 b.toNat)]))) := by
  rw[← bK];rfl
@[go_sem] theorem adP (z : AV) : b_ P (.oh el z (.c (.int .i64 a)) (.c (.int .i64 b))) σ (.mk : Tg (K, Kp)) = req (z.fits el = true ∧ 0 ≤ a ∧ a ≤ b ∧ b * (el.sz + 1) ≤ 2 ^ 40) (.mk : Tg (K (.own el σ.length a.toNat 0 a.toNat) (σ ++ [.vec el (List.replicate a.toNat z)]))) := by
  rw[← bK];simp only[b_,aX.run,AX.ev,and_assoc]
@[go_sem] theorem abe (xs : List AV) : b_ P (.uW el (.c (.aG f el xs)) (some (.c (.int k a))) (some (.c (.int k' b)))) σ (.mk : Tg (K, Kp)) = req ((0 ≤ b ∧ b ≤ xs.length) ∧ 0 ≤ a ∧ a ≤ b) (.mk : Tg (K (.aG false el ((xs.drop a.toNat).take (b.toNat - a.toNat))) σ)) := by
  rw[← bK];simp only[b_,aX.run,AX.ev,bound,Option.map,and_assoc,true_and,eq_iff_iff]
  constructor
  ·rintro⟨h1,h2,h3,h4,h5⟩;exact⟨h1,h2,h3,by omega,h5⟩
  ·rintro⟨h1,h2,h3,h4,h5⟩;exact⟨h1,h2,h3,by omega,h5⟩
@[go_sem] theorem abf (xs : List AV) : b_ P (.uW el (.c (.aG f el xs)) none (some (.c (.int k' b)))) σ (.mk : Tg (K, Kp)) = req (0 ≤ b ∧ b ≤ xs.length) (.mk : Tg (K (.aG false el (xs.take b.toNat)) σ)) := by
  rw[← bK];simp only[b_,aX.run,AX.ev,bound,Option.map,and_assoc,true_and,List.drop_zero,Nat.sub_zero]
@[go_sem] theorem abg (xs : List AV) : b_ P (.uW el (.c (.aG f el xs)) (some (.c (.int k a))) none) σ (.mk : Tg (K, Kp)) = req (0 ≤ a ∧ a ≤ xs.length) (.mk : Tg (K (.aG false el (xs.drop a.toNat)) σ)) := by
  rw[← bK];simp only[b_,aX.run,AX.ev,bound,Option.map,and_assoc,true_and]
  have:(xs.drop a.toNat).take (xs.length-a.toNat)=xs.drop a.toNat:=List.take_of_length_le (by simp)
  rw[this]
end
end Go.AM
