/- Part. -/
import Derived.Test.YtoldfccfpameeaaGreatDoorX04
import Derived.Test.YtoldfccfpameeaaGreatDoorChecked
import Derived.KernelRfl
set_option linter.all false
namespace Go.AM
variable {P:Program}
section
variable (e:Env) (σ : ai) (K Kp:AV->ai->Prop)
def Dn(o:Option aY)(off:Nat)(ag:Bool)(n:Nat){K:AV->Prop}(_:Tg K): Prop:=match o with
 | some (.bY _ cs)=>off+n<=cs.length/\(ag=false->n=1)/\K (if ag then .agg ((cs.drop off).take n)else cs.getD off .undef)
 | _=>False
@[go_sem] def ak0 (ag:Bool) (n l off:Nat) (K:AV->Prop):loadT σ ag n (.ref l off) (.mk:Tg K)=Dn (σ[l]?) off ag n (.mk:Tg K):=_root_.id rfl
@[go_sem] def anJ (cs : List AV) (off n : Nat) (K : AV -> Prop) : Dn (some (.cells cs)) off false n (.mk : Tg K) = req (off + n <= cs.length /\ n = 1) (.mk : Tg (K (cs.getD off .undef))) := by
  rw[<-dK];simp[Dn,and_assoc]
@[go_sem] def anK (cs : List AV) (off n : Nat) (K : AV -> Prop) : Dn (some (.cells cs)) off true n (.mk : Tg K) = req (off + n <= cs.length) (.mk : Tg (K (.agg ((cs.drop off).take n)))) := by
  rw[<-dK];simp[Dn]
@[go_sem] def ame (T : TypeId) (cs : List AV) (off n : Nat) (K : AV -> Prop) : Dn (some (.bY (some T) cs)) off false n (.mk : Tg K) = req (off + n <= cs.length /\ n = 1) (.mk : Tg (K (cs.getD off .undef))) := by
  rw[<-dK];simp[Dn,and_assoc]
def FL(σ : ai)(l:Nat)(o:Option aY)(off n:Nat)(v:AV){K:ai->Prop}(_:Tg K): Prop:=v.cells.length=n/\v.cells.all AV.scalar=true/\match o with
 | some (.bY T cs)=>off+n<=cs.length/\K (σ.set l (.bY T (fM cs off v.cells)))
 | _=>False
@[go_sem] def aj4 (n l off:Nat) (v:AV) (K:ai->Prop):storeT σ n (.ref l off) v (.mk:Tg K)=FL σ l (σ[l]?) off n v (.mk:Tg K):=_root_.id rfl
@[go_sem] def amf (l : Nat) (cs : List AV) (off n : Nat) (v : AV) (K : ai -> Prop) : FL σ l (some (.cells cs)) off n v (.mk : Tg K) = req (v.cells.length = n /\ v.cells.all AV.scalar = true /\ off + n <= cs.length) (.mk : Tg (K (σ.set l (.cells (fM cs off v.cells))))) := by
  rw[<-dK];simp[FL,and_assoc]
@[go_sem] def ak1 (l : Nat) (T : TypeId) (cs : List AV) (off n : Nat) (v : AV) (K : ai -> Prop) : FL σ l (some (.bY (some T) cs)) off n v (.mk : Tg K) = req (v.cells.length = n /\ v.cells.all AV.scalar = true /\ off + n <= cs.length) (.mk : Tg (K (σ.set l (.bY (some T) (fM cs off v.cells))))) := by
  rw[<-dK];simp[FL,and_assoc]
def eG(P:Program)(o:bx)(σ : ai){K Kp:AV->ai->Prop}(_:Tg (K,Kp)): Prop:=o.run P (fun _=> .undef) σ K Kp
@[go_sem ↓] def ak2 (off:Nat) (x:AX):bx.run P (.rT off x) e σ K Kp=eG P (.rT off (.c (x.ev e))) σ (.mk:Tg (K,Kp)):=_root_.id rfl
@[go_sem ↓] def ak3 (x:AX):bx.run P (.tG x) e σ K Kp=eG P (.tG (.c (x.ev e))) σ (.mk:Tg (K,Kp)):=_root_.id rfl
@[go_sem ↓] def ak4 (ag:Bool) (off n:Nat) (x:AX):bx.run P (.field ag off n x) e σ K Kp=eG P (.field ag off n (.c (x.ev e))) σ (.mk:Tg (K,Kp)):=_root_.id rfl
@[go_sem ↓] def ak5 (el:El) (arr:Option Nat) (x i:AX):bx.run P (.fA el arr x i) e σ K Kp=eG P (.fA el arr (.c (x.ev e)) (.c (i.ev e))) σ (.mk:Tg (K,Kp)):=_root_.id rfl
@[go_sem ↓] def amg (x i:AX):bx.run P (.oW x i) e σ K Kp=eG P (.oW (.c (x.ev e)) (.c (i.ev e))) σ (.mk:Tg (K,Kp)):=_root_.id rfl
@[go_sem ↓] def amh (el:El) (n:Nat) (x i:AX):bx.run P (.yZ el n x i) e σ K Kp=eG P (.yZ el n (.c (x.ev e)) (.c (i.ev e))) σ (.mk:Tg (K,Kp)):=_root_.id rfl
@[go_sem ↓] def ami (k:IntKind) (x:AX):bx.run P (.jX k x) e σ K Kp=eG P (.jX k (.c (x.ev e))) σ (.mk:Tg (K,Kp)):=_root_.id rfl
@[go_sem ↓] def anL (x:AX):bx.run P (.yX x) e σ K Kp=eG P (.yX (.c (x.ev e))) σ (.mk:Tg (K,Kp)):=_root_.id rfl
@[go_sem ↓] def ajq (el:El) (z:AV) (x i:AX):bx.run P (.oX el z x i) e σ K Kp=eG P (.oX el z (.c (x.ev e)) (.c (i.ev e))) σ (.mk:Tg (K,Kp)):=_root_.id rfl
@[go_sem ↓] def ak6 (x:AX):bx.run P (.panic x) e σ K Kp=eG P (.panic (.c (x.ev e))) σ (.mk:Tg (K,Kp)):=_root_.id rfl
@[go_sem] def amj (T:TypeId) (v:AV):eG P (.panic (.c (.kZ T v))) σ (.mk:Tg (K,Kp))=Kp (.kZ T v) σ:=_root_.id rfl
@[go_sem ↓] def anM (T:Option TypeId) (el:El) (x i:AX):bx.run P (.app T el x i) e σ K Kp=eG P (.app T el (.c (x.ev e)) (.c (i.ev e))) σ (.mk:Tg (K,Kp)):=_root_.id rfl
@[go_sem ↓] def anN (ng ag:Bool) (ks:List Kd) (x i:AX):bx.run P (.nw ng ag ks x i) e σ K Kp=eG P (.nw ng ag ks (.c (x.ev e)) (.c (i.ev e))) σ (.mk:Tg (K,Kp)):=_root_.id rfl
@[go_sem ↓] def ak7 (ng:Bool) (k:NK) (x i:AX):bx.run P (.n_ ng k x i) e σ K Kp=eG P (.n_ ng k (.c (x.ev e)) (.c (i.ev e))) σ (.mk:Tg (K,Kp)):=_root_.id rfl
@[go_sem ↓] def anO (el:El) (x:AX):bx.run P (.Ep el x) e σ K Kp=eG P (.Ep el (.c (x.ev e))) σ (.mk:Tg (K,Kp)):=_root_.id rfl
@[go_sem ↓] def amk (T:TypeId) (x i:AX):bx.run P (.y3 T x i) e σ K Kp=eG P (.y3 T (.c (x.ev e)) (.c (i.ev e))) σ (.mk:Tg (K,Kp)):=_root_.id rfl
@[go_sem ↓] def anP (x:AX):bx.run P (.KX x) e σ K Kp=eG P (.KX (.c (x.ev e))) σ (.mk:Tg (K,Kp)):=_root_.id rfl
@[go_sem ↓] def anQ (u:TypeId) (x:AX):bx.run P (.KY u x) e σ K Kp=eG P (.KY u (.c (x.ev e))) σ (.mk:Tg (K,Kp)):=_root_.id rfl
@[go_sem ↓] def anR (ng:Bool) (x i:AX):bx.run P (.Il ng x i) e σ K Kp=eG P (.Il ng (.c (x.ev e)) (.c (i.ev e))) σ (.mk:Tg (K,Kp)):=_root_.id rfl
def cO(e:Env): Option AX->Option AX
 | none=>none
 | some x=>some (.c (x.ev e))
@[go_sem] def anS:cO e none=none:=_root_.id rfl
@[go_sem] def anT (x:AX):cO e (some x)=some (.c (x.ev e)):=_root_.id rfl
@[go_sem ↓] def anU (x : AX) (lo hi : Option AX) : bx.run P (.yY x lo hi) e σ K Kp = eG P (.yY (.c (x.ev e)) (cO e lo) (cO e hi)) σ (.mk : Tg (K, Kp)) := by
  cases lo<;>cases hi<;>rfl
@[go_sem ↓] def anV (el : El) (x : AX) (lo hi : Option AX) : bx.run P (.pC el x lo hi) e σ K Kp = eG P (.pC el (.c (x.ev e)) (cO e lo) (cO e hi)) σ (.mk : Tg (K, Kp)) := by
  cases lo<;>cases hi<;>rfl
variable (k k':IntKind) (a b:Int) (s t:List UInt8) (el:El) (xs cs:List AV) (l m lo n off i:Nat) (f:Bool)
@[go_sem] def ahJ:eG P (.rT off (.c (.ref l i))) σ (.mk:Tg (K,Kp))=K (.ref l (i+off)) σ:=_root_.id rfl
@[go_sem] def ag9 (x:AV):eG P (.rT off (.c (.fh el x i))) σ (.mk:Tg (K,Kp))=K (.fh el x (i+off)) σ:=_root_.id rfl
@[go_sem] def ahK:eG P (.tG (.c (.ref l i))) σ (.mk:Tg (K,Kp))=K (.ref l i) σ:=_root_.id rfl
@[go_sem] def aj5 : eG P (.field false off n (.c (.agg cs))) σ (.mk : Tg (K, Kp)) = req (off + n <= cs.length /\ n = 1) (.mk : Tg (K (cs.getD off .undef) σ)) := by
  rw[<-dK];simp[eG,bx.run,AX.ev,and_assoc]
@[go_sem] def ahL : eG P (.fA el none (.c (.aR f el xs)) (.c (.int k a))) σ (.mk : Tg (K, Kp)) = req (0 <= a /\ a < xs.length) (.mk : Tg (K (.fh el (xs.getD a.toNat .undef) 0) σ)) := by
  rw[<-dK];simp[eG,bx.run,AX.ev,and_assoc]
@[go_sem] def anW : eG P (.oW (.c (.str s)) (.c (.int k a))) σ (.mk : Tg (K, Kp)) = req (0 <= a /\ a < s.length) (.mk : Tg (K (.int .u8 (s.getD a.toNat 0).toNat) σ)) := by
  rw[<-dK];simp[eG,bx.run,AX.ev,and_assoc]
@[go_sem] def anX:eG P (.jX k (.c (.int k' a))) σ (.mk:Tg (K,Kp))=K (.int k (dw k a)) σ:=_root_.id rfl
def toNat_le{a:Int}{n:Nat}(h:0<=a): (a<=((n:Nat):Int))=(a.toNat<=n):=by simp only[eq_iff_iff];omega
@[go_sem] def ak8 : eG P (.yY (.c (.str s)) none (some (.c (.int k' b)))) σ (.mk : Tg (K, Kp)) = req (0 <= b /\ b <= s.length) (.mk : Tg (K (.str (s.take b.toNat)) σ)) := by
  rw[<-dK];simp only[eG,bx.run,AX.ev,bound,Option.map,and_assoc,eO,Nat.sub_zero]
@[go_sem] def ak9 : eG P (.yY (.c (.str s)) (some (.c (.int k a))) none) σ (.mk : Tg (K, Kp)) = req (0 <= a /\ a <= s.length) (.mk : Tg (K (.str (s.drop a.toNat)) σ)) := by
  rw[<-dK];simp only[eG,bx.run,AX.ev,bound,Option.map,and_assoc];have:(s.drop a.toNat).take (s.length-a.toNat)=s.drop a.toNat:=bG aQ;rw[this]
def oQ(P:Program)(n:FuncId)(args:List AV)(σ : ai){K Kp:AV->ai->Prop}(_:Tg (K,Kp)): Prop:=cE P n args σ (Nh K Kp)
def Al(P:Program)(n:FuncId)(args:List AV)(σ : ai){K Kp:AV->ai->Prop}(_:Tg (K,Kp)): Prop:= ∃ r,(∀ τ,kq P n args (σ++ τ) r)/\K r σ
@[go_sem] def anY (n : FuncId) (first args cap : List AV) : HF P false (.fn (.func n) first cap) args σ (.mk : Tg (K, Kp)) = oQ P n (first ++ args ++ cap) σ (.mk : Tg (K, Kp)) := by
  simp[HF,oQ]
@[go_sem] def anZ (n : FuncId) (first args cap : List AV) : HF P true (.fn (.func n) first cap) args σ (.mk : Tg (K, Kp)) = Al P n (first ++ args ++ cap) σ (.mk : Tg (K, Kp)) := by
  simp[HF,Al]
def Wo{n:FuncId}{args:List AV}{σ : ai}{K Kp:AV->ai->Prop}{r:AV}(h:∀ σ,kq P n args σ r)(hk:jS r (.mk:Tg fun r=>K r σ)): oQ P n args σ (.mk:Tg (K,Kp)) :=
 (h σ).mono fun o s ⟨h1,h2⟩=>by subst h1;subst h2;exact hk
def Wp{n:FuncId}{args:List AV}{σ : ai}{K Kp:AV->ai->Prop}{r:AV}(h:∀ σ,kq P n args σ r)(hk:jS r (.mk:Tg fun r=>K r σ)): Al P n args σ (.mk:Tg (K,Kp)):=⟨r,fun τ=>h _,hk⟩
def bP{n:FuncId}{args:List AV}{σ : ai}{K Kp:AV->ai->Prop}{R:Out->ai->Prop}(h:cE P n args σ R)(hk:∀ o s,R o s->Nh K Kp o s): oQ P n args σ (.mk:Tg (K,Kp)):=h.mono hk
def FM: List AV->List (Nat × Nat × AV)->(List AV->Prop)->Prop
 | z,[],K=>K z
 | z,(off,n,v)::r,K=>v.cells.length=n/\v.cells.all AV.scalar=true/\off+n<=z.length/\FM (fM z off v.cells) r K
def FN(z:List AV)(ps:List (Nat × Nat × AV)){K:List AV->Prop}(_:Tg K): Prop:=FM z ps K
def O6(e:Env)(K:List AV->Prop): ∀(ps:List (Nat × Nat × AX)) (z:List AV),nD z e ps K=FM z (ps.map fun p=>(p.1,p.2.1,p.2.2.ev e)) K
 | [],z=>rfl
 |(off,n,x)::r,z=>by simp only[nD,FM,bB,O6 e K r]
@[go_sem ↓] def run_build (z:List AV) (ps:List (Nat × Nat × AX)):bx.run P (.build z ps) e σ K Kp=FN z (ps.map fun p=>(p.1,p.2.1,p.2.2.ev e)) (.mk:Tg fun cs=>K (.agg cs) σ):=O6 e _ ps z
@[go_sem] def aj6 (z:List AV) (K:List AV->Prop):FN z [] (.mk:Tg K)=K z:=_root_.id rfl
@[go_sem] def ajr (z : List AV) (off n : Nat) (v : AV) (r : List (Nat × Nat × AV)) (K : List AV -> Prop) : FN z ((off, n, v) :: r) (.mk : Tg K) = req (v.cells.length = n /\ v.cells.all AV.scalar = true /\ off + n <= z.length) (.mk : Tg (FN (fM z off v.cells) r (.mk : Tg K))) := by
  rw[<-dK];simp only[FN,FM,and_assoc]
def BZ(el:El): List AV->List (Nat × AV)->(List AV->Prop)->Prop
 | z,[],K=>K z
 | z,(i,v)::r,K=>v.fits el=true/\i<z.length/\BZ el (z.set i v) r K
def B0(el:El)(z:List AV)(ps:List (Nat × AV)){K:List AV->Prop}(_:Tg K): Prop:=BZ el z ps K
def Lz(el:El)(e:Env)(K:List AV->Prop): ∀(ps:List (Nat × AX)) (z:List AV),mI el z e ps K=BZ el z (ps.map fun p=>(p.1,p.2.ev e)) K
 | [],z=>rfl
 |(i,x)::r,z=>by simp only[mI,BZ,bB,Lz el e K r]
@[go_sem ↓] def ahN (el:El) (z:AV) (n:Nat) (ps:List (Nat × AX)):bx.run P (.mj false el z n ps) e σ K Kp=B0 el (List.replicate n z) (ps.map fun p=>(p.1,p.2.ev e)) (.mk:Tg fun xs=>K (.aR true el xs) σ):=Lz el e _ ps _
@[go_sem] def ajs (z:List AV) (K:List AV->Prop):B0 el z [] (.mk:Tg K)=K z:=_root_.id rfl
@[go_sem] def ahO (z : List AV) (i : Nat) (v : AV) (r : List (Nat × AV)) (K : List AV -> Prop) : B0 el z ((i, v) :: r) (.mk : Tg K) = req (v.fits el = true /\ i < z.length) (.mk : Tg (B0 el (z.set i v) r (.mk : Tg K))) := by
  rw[<-dK];simp only[B0,BZ,and_assoc]
def tL(c:Bool)(el:El)(x:AV)(off:Nat)(ag:Bool)(n:Nat){K:AV->Prop}(_:Tg K): Prop:=c=(off==0 && n==el.sz && ag==el.ag)/\partOf el x off ag n K
@[go_sem] def aj7 (ag : Bool) (n : Nat) (el : El) (x : AV) (off : Nat) (K : AV -> Prop) : loadT σ ag n (.fh el x off) (.mk : Tg K) = tL (off == 0 && n == el.sz && ag == el.ag) el x off ag n (.mk : Tg K) := by
  simp only[tL,true_and];rfl
@[go_sem] def an0 (ag : Bool) (n : Nat) (x : AV) (K : AV -> Prop) : tL true ⟨ag, n⟩ x 0 ag n (.mk : Tg K) = K x := by
  simp[tL,partOf]
@[go_sem] def afW (el : El) (off n : Nat) (cs : List AV) (K : AV -> Prop) (h : (off == 0 && n == el.sz && false == el.ag) = false) : tL false el (.agg cs) off false n (.mk : Tg K) = req (off + n <= el.sz /\ n = 1) (.mk : Tg (K (cs.getD off .undef))) := by
  have hn:¬ (off=0/\n=el.sz/\false=el.ag):=by rintro⟨h1,h2,h3⟩;subst h1;subst h2;rw[<-h3]at h;simp at h
  rw[<-dK];simp only[tL,partOf,aj hn,h,true_and];simp only[aP,if_false,forall_const,eq_iff_iff];exact⟨fun⟨h1,h2,h3⟩=>⟨⟨h1,h3⟩,h2⟩,fun⟨⟨h1,h3⟩,h2⟩=>⟨h1,h2,h3⟩⟩
def FO(σ : ai)(T:Option TypeId)(el:El)(o:Option aY)(l m lo n:Nat)(ys:List AV){K:AV->ai->Prop}(_:Tg K): Prop:=match o with
 | some (.dn T' bN xs) => (T' = none \/ T' = T) /\ bN = el /\ m = xs.length /\ lo = 0 /\ n = xs.length /\ gH (xs.length + ys.length) el /\
    K (.own el l (xs.length+ys.length) 0 (xs.length+ys.length)) (σ.set l (.dn T' el (xs++ys)))
 | _=>False
@[go_sem] def aj8 (T : Option TypeId) (ys : List AV) : eG P (.app T el (.c (.own el l m lo n)) (.c (.aR f el ys))) σ (.mk : Tg (K, Kp)) = req (ys.all (fun a => a.fits el) = true) (.mk : Tg (FO σ T el (σ[l]?) l m lo n ys (.mk : Tg K))) := by
  rw[<-dK];simp only[eG,bx.run,AX.ev,oY,gN,FO,true_and];rfl
@[go_sem] def afX (T : Option TypeId) (xs ys : List AV) : FO σ T el (some (.vec el xs)) l m lo n ys (.mk : Tg K) = req (m = xs.length /\ lo = 0 /\ n = xs.length /\ gH (xs.length + ys.length) el) (.mk : Tg (K (.own el l (xs.length + ys.length) 0 (xs.length + ys.length)) (σ.set l (.vec el (xs ++ ys))))) := by
  rw[<-dK];simp only[FO,true_and,true_or,and_assoc]
@[go_sem] def aml (t : TypeId) (xs ys : List AV) : FO σ (some t) el (some (.dn (some t) el xs)) l m lo n ys (.mk : Tg K) = req (m = xs.length /\ lo = 0 /\ n = xs.length /\ gH (xs.length + ys.length) el) (.mk : Tg (K (.own el l (xs.length + ys.length) 0 (xs.length + ys.length)) (σ.set l (.dn (some t) el (xs ++ ys))))) := by
  rw[<-dK];simp only[FO,true_and,or_true,and_assoc]
def ac2(σ : ai)(x:AV){K:AV->ai->Prop}(_:Tg K): Prop:=y6 σ x K
def X_(σ : ai)(el:El)(o:Option aY)(l m lo n:Nat){K:AV->ai->Prop}(_:Tg K): Prop:=match o with
 | some (.dn _ bD xs)=>bD=el/\m=xs.length/\lo+n<=m/\K (.aR false el ((xs.drop lo).take n)) (σ.set l .dead)
 | _=>False
@[go_sem ↓] def an1 (x:AX) (e:Env):bx.run P (.ex .ZU [x]) e σ K Kp=ac2 σ (x.ev e) (.mk:Tg K):=_root_.id rfl
@[go_sem] def amm : ac2 σ (.own el l m lo n) (.mk : Tg K) = X_ σ el (σ[l]?) l m lo n (.mk : Tg K) := by
  simp only[ac2,y6,X_];rfl
@[go_sem] def an2 (T : Option TypeId) (xs : List AV) : X_ σ el (some (.dn T el xs)) l m 0 n (.mk : Tg K) = req (m = xs.length /\ n <= m) (.mk : Tg (K (.aR false el (xs.take n)) (σ.set l .dead))) := by
  rw[<-dK];simp only[X_,true_and,eO,bL,and_assoc]
@[go_sem] def ahP {α : Type} (f : α->AV) (L:List α):(L.map f).take L.length=L.map f:=by rw[<-cZ (f:=f),fZ]
@[go_sem] def ajt (y : AV) (ys : List AV) : eG P (.app none el (.c .aV) (.c (.aR f el (y :: ys)))) σ (.mk : Tg (K, Kp)) = req ((y :: ys).all (fun a => a.fits el) = true /\ gH (y :: ys).length el) (.mk : Tg (K (.own el σ.length (y :: ys).length 0 (y :: ys).length) (σ ++ [.vec el (y :: ys)]))) := by
  rw[<-dK];simp only[eG,bx.run,AX.ev,oY,gN,true_and,aO,Nat.add_eq_zero_iff,Nat.one_ne_zero,and_false,if_false,and_assoc]
@[go_sem] def ahQ (t : TypeId) (y : AV) (ys : List AV) : eG P (.app (some t) el (.c .aV) (.c (.aR f el (y :: ys)))) σ (.mk : Tg (K, Kp)) = req ((y :: ys).all (fun a => a.fits el) = true /\ gH (y :: ys).length el) (.mk : Tg (K (.own el σ.length (y :: ys).length 0 (y :: ys).length) (σ ++ [.dn (some t) el (y :: ys)]))) := by
  rw[<-dK];simp only[eG,bx.run,AX.ev,oY,gN,true_and,aO,Nat.add_eq_zero_iff,Nat.one_ne_zero,and_false,if_false,and_assoc]
@[go_sem] def aju (xs : List AV) (y : AV) (ys : List AV) (f' : Bool) : eG P (.app none el (.c (.aR true el xs)) (.c (.aR f' el (y :: ys)))) σ (.mk : Tg (K, Kp)) = req ((y :: ys).all (fun a => a.fits el) = true /\ gH (xs.length + (y :: ys).length) el) (.mk : Tg (K (.own el σ.length (xs.length + (y :: ys).length) 0 (xs.length + (y :: ys).length)) (σ ++ [.vec el (xs ++ y :: ys)]))) := by
  rw[<-dK];simp only[eG,bx.run,AX.ev,oY,gN,true_and,aO,Nat.add_eq_zero_iff,Nat.one_ne_zero,and_false,if_false,and_assoc]
def Ya{T:Option TypeId}{xs:List AV}(h : σ[l]? = some (.dn T el xs))(hm:m=xs.length)(hn:0<n)(hk:K (.fG el l m lo 0) σ): eG P (.Ep el (.c (.own el l m lo n))) σ (.mk:Tg (K,Kp)):=by
 simp only[eG,bx.run,AX.ev,h];exact⟨trivial,trivial,hm,hn,hk⟩
def UM(T:TypeId): eG P (.y3 T (.c .gO) (.c (.int .i64 0))) σ (.mk:Tg (K,Kp))=K (.str []) σ:=by
 simp[eG,bx.run,AX.ev]
def UN {T : TypeId} {xs : List AV} (s : List UInt8) (h : σ[l]? = some (.dn (some T) ⟨false, 1⟩ xs)) (hm : m = xs.length) (hx : xs = s.map fun b => .int .u8 b.toNat) (h0 : s ≠ []) (h2 : s.length <= 2^62) (ha : a = (s.length : Int)) (hk : K (.str s) (σ.set l .dead)) :
    eG P (.y3 T (.c (.fG ⟨false,1⟩ l m 0 0)) (.c (.int .i64 a))) σ (.mk:Tg (K,Kp)):=by
 subst hx;subst ha;have h1:0<s.length:=iR.2 h0;simp only[eG,bx.run,AX.ev,h];refine⟨trivial,trivial,trivial,trivial,hm,ae,aQ,by simpa using h2,s,?_,hk⟩;rw[bG aQ]
def ahR{T:Option TypeId}(h : σ[l]? = some (.bY T cs))(hlt:off<cs.length)(hk:K (.ref l off) σ): eG P (.KX (.c (.ref l off))) σ (.mk:Tg (K,Kp)):=by
 simp only[eG,bx.run,AX.ev,h];exact⟨hlt,hk⟩
def ahS{T u:TypeId}(h : σ[l]? = some (.bY (some T) cs))(hlt:liesAt P P.depth T (cs.length / P.cellsOf T) off u 1=true)(hk:K (.ref l off) σ): eG P (.KY u (.c (.ref l off))) σ (.mk:Tg (K,Kp)):=by
 simp only[eG,bx.run,AX.ev,h];exact⟨hlt,hk⟩
def ahT{T:Option TypeId}(ng:Bool)(h : σ[l]? = some (.bY T cs))(hk:K (.bool ng.not) σ): eG P (.Il ng (.c (.ref l off)) (.c (.ref l off))) σ (.mk:Tg (K,Kp)):=by
 simp only[eG,bx.run,AX.ev,h];exact⟨trivial,trivial,hk⟩
def aaA (P : Program) (g : FuncId) (v : AV) (σ : ai) {K : AV → ai → Prop} (_ : Tg K) : Prop := (∃ fn, P.funcs[g]? = some fn ∧ (fn.name == "runtime.NumGoroutine") = false ∧ fn.body.isNone = true ∧ Extern.findNext fn = none ∧ Extern.find fn = some Extern.AbiNoEscape.same) ∧ K v σ
@[go_sem ↓] def ak_ (g:FuncId) (x:AX):bx.run P (.Hu g x) e σ K Kp=aaA P g (x.ev e) σ (.mk:Tg K):=_root_.id rfl
def ac3(ng:Bool)(k:NK)(x y:AV): eG P (.n_ ng k (.c x) (.c y)) σ (.mk:Tg (K,Kp))=(match pH k x y with|some b=>K (.bool (if ng then !b else b)) σ | none=>False):=rfl
def ac4(ng:Bool)(ks:List Kd)(xs ys:List AV): eG P (.nw ng true ks (.c (.agg xs)) (.c (.agg ys))) σ (.mk:Tg (K,Kp))=(match jc ks xs ys with|some b=>K (.bool (if ng then !b else b)) σ | none=>False):=rfl
def ac5(ng:Bool)(ks:List Kd)(x y:AV): eG P (.nw ng false ks (.c x) (.c y)) σ (.mk:Tg (K,Kp))=(match jc ks [x] [y]with|some b=>K (.bool (if ng then !b else b)) σ | none=>False):=rfl
@[go_sem] def aj9 (z : AV) : eG P (.oX el z (.c (.int .i64 a)) (.c (.int .i64 b))) σ (.mk : Tg (K, Kp)) = req (z.fits el = true /\ 0 <= a /\ a <= b /\ b * (el.sz + 1) <= 2^40) (.mk : Tg (K (.own el σ.length a.toNat 0 a.toNat) (σ ++ [.vec el (List.replicate a.toNat z)]))) := by
  rw[<-dK];simp only[eG,bx.run,AX.ev,and_assoc]
@[go_sem] def ag_ (xs : List AV) : eG P (.pC el (.c (.aR f el xs)) (some (.c (.int k a))) (some (.c (.int k' b)))) σ (.mk : Tg (K, Kp)) = req ((0 <= b /\ b <= xs.length) /\ 0 <= a /\ a <= b) (.mk : Tg (K (.aR false el ((xs.drop a.toNat).take (b.toNat - a.toNat))) σ)) := by
  rw[<-dK];simp only[eG,bx.run,AX.ev,bound,Option.map,and_assoc,true_and,eq_iff_iff];constructor
  ·rintro⟨h1,h2,h3,h4,h5⟩;exact⟨h1,h2,h3,ae,h5⟩
  rintro⟨h1,h2,h3,h4,h5⟩;exact⟨h1,h2,h3,ae,h5⟩
@[go_sem] def aha (xs : List AV) : eG P (.pC el (.c (.aR f el xs)) none (some (.c (.int k' b)))) σ (.mk : Tg (K, Kp)) = req (0 <= b /\ b <= xs.length) (.mk : Tg (K (.aR false el (xs.take b.toNat)) σ)) := by
  rw[<-dK];simp only[eG,bx.run,AX.ev,bound,Option.map,and_assoc,true_and,eO,Nat.sub_zero]
@[go_sem] def ahb (xs : List AV) : eG P (.pC el (.c (.aR f el xs)) (some (.c (.int k a))) none) σ (.mk : Tg (K, Kp)) = req (0 <= a /\ a <= xs.length) (.mk : Tg (K (.aR false el (xs.drop a.toNat)) σ)) := by
  rw[<-dK];simp only[eG,bx.run,AX.ev,bound,Option.map,and_assoc,true_and];have:(xs.drop a.toNat).take (xs.length-a.toNat)=xs.drop a.toNat:=bG aQ;rw[this]
end
end Go.AM
namespace Go.AM
variable {P:Program}
def LA(ms:List Nat)(r e:Env): Env:=fun t=>if ms.contains t then r t else e t
def puts: List (Nat × AV)->Env->Env
 | [],e=>e
 |(d,v)::l,e=>eV (puts l e) (some d) v
@[go_sem ↓] def ac6 (e:Env):puts [] e=e:=_root_.id rfl
@[go_sem ↓] def aaB (d:Nat) (v:AV) (l:List (Nat × AV)) (e:Env):puts ((d,v)::l) e=eV (puts l e) (some d) v:=_root_.id rfl
@[go_sem ↓] def an3 (ms:List Nat) (r e:Env) (t:Nat):LA ms r e t=Lw (ms.contains t) (.mk:Tg (r t,e t)):=_root_.id rfl
def FP(ms:List Nat)(e e':Env): Prop:= ∀ t,ms.contains t=false->e' t=e t
def afY(ms:List Nat)(r e:Env): FP ms e (LA ms r e):=fun t h=>by simp only[LA,h];rfl
def afZ{ms:List Nat}{e e':Env}{d:Nat}{v:AV}(hd:ms.contains d=true)(h:FP ms e e'): FP ms e (eV e' (some d) v):=fun t ht=>by
 simp only[eV];split
 ·rename_i e1;subst e1;rw[hd]at ht;cases ht
 exact h t ht
def At(l:List (Nat × AV))(e:Env): Prop:= ∀ p ∈ l,e p.1=p.2
@[go_sem] def ahU (e:Env):At [] e=True:=by simp[At]
@[go_sem] def af0 (d:Nat) (v:AV) (l:List (Nat × AV)) (e:Env):At ((d,v)::l) e=(e d=v/\At l e):=by simp[At]
def Wq{ms:List Nat}{e e':Env}(ho:FP ms e e'): ∀(l:List (Nat × AV)),At l e'->puts l (LA ms e' e)=e'
 | [], _ => by
   funext t
   simp only[puts,LA];split
   ·rfl
   rename_i h;exact(ho t (by simpa using h)).symm
 | (d, v) :: l, h => by
   simp only[puts];rw[Wq ho l (fun p hp=>h p (dz _ hp))];exact oK (h (d,v) aQ)
def qF{Q Q':AQ}(h:∀ ex e σ,Q ex e σ->Q' ex e σ): ∀(l:List c_) (e:Env) (σ : ai),fD P Q l e σ->fD P Q' l e σ
 | [],e,σ,hh=>h _ _ _ hh
 |⟨o,d,none⟩::r,e,σ,hh=>tW (fun v s=>qF h r _ _) (fun v s=>h _ _ _) hh
 | ⟨o, d, some (k, b)⟩ :: r, e, σ, hh => by
   simp only[fD]at hh |-;split at hh
   ·exact⟨fun ht=>tW (fun v s=>qF h r _ _) (fun v s=>h _ _ _) (hh.1 ht),fun ht=>qF h r _ _ (hh.2 ht)⟩
   ·exact qF h r _ _ hh
   exact hh
def LB{K K':Env->ai->Prop}{Q Q':AQ}(hk:∀ e σ,K e σ->K' e σ)(h:∀ ex e σ,Q ex e σ->Q' ex e σ): ∀ ex e σ,mK K Q ex e σ->mK K' Q' ex e σ
 | .normal,_,_=>hk _ _
 | .exit _,_,_=>h _ _ _
 | .goto _,_,_=>h _ _ _
 | .ret,_,_=>h _ _ _
 | .panic _,_,_=>h _ _ _
def aaC{nt:Nat}{ps:List Nat}{ca cb:Code}{f:AV}{a b:AQ->Env->ai->Prop}{Q Q':AQ}(h:∀ ex e σ,Q ex e σ->Q' ex e σ)(e:Env)(σ : ai): XZ P nt ps ca cb f a b Q e σ->XZ P nt ps ca cb f a b Q' e σ:=by
 unfold XZ;split
 ·refine fun hh o ho hy=>(hh o ho hy).mono fun out s hq=>?_;cases out with
  | ret r =>
    obtain⟨st,pe,h1,h2,h3⟩:=hq;refine⟨st,pe,h1,h2,?_⟩;split at h3<;>first|exact h _ _ _ h3|exact h3
  | panic v=>exact h _ _ _ hq
 exact id
def Yb{kp:List (AX × AX)}{Q Q':AQ}(h:∀ ex e σ,Q ex e σ->Q' ex e σ): ∀ ex e σ,jI kp Q ex e σ->jI kp Q' ex e σ:=fun ex e σ hq=>by
 cases ex with
 | normal=>exact⟨hq.1,h _ _ _ hq.2⟩
 | panic v =>
   simp only[jI]at hq |-;split at hq
   ·rename_i hf;rw[au hf];exact fun e'=>h _ _ _ (hq e')
   rename_i hf;rw[aj hf];exact h _ _ _ hq
 | _=>exact h _ _ _ hq
def Dp{c:dL}: ∀ {Q Q':AQ},(∀ ex e σ,Q ex e σ->Q' ex e σ)-> ∀(e:Env) (σ : ai),jD P c Q e σ->jD P c Q' e σ:=by
 induction c with
 | skip=>exact fun h e σ=>h _ _ _
 | region ops=>exact fun h e σ=>qF h ops e σ
 | draw ops kp=>exact fun h e σ=>qF (Yb h) ops e σ
 | seq a b iha ihb=>exact fun h e σ=>iha (LB (fun e σ=>ihb h e σ) h) e σ
 | cond c a b iha ihb =>
   intro Q Q' h e σ hh;simp only[jD]at hh |-;split at hh
   ·exact⟨fun ht=>iha h _ _ (hh.1 ht),fun ht=>ihb h _ _ (hh.2 ht)⟩
   exact hh
 | block id c ih =>
   intro Q Q' h e σ;refine ih (fun ex e σ hq=>?_) e σ;cases ex<;>try exact h _ _ _ hq
   simp only[uI]at hq |-;split at hq
   ·rename_i e1;rw[au e1];exact h _ _ _ hq
   rename_i e1;rw[aj e1];exact h _ _ _ hq
 | loop c ih =>
   rintro Q Q' h e σ ⟨I,hI,hr⟩;exact⟨I,hI,fun n e σ hi=>ih (LB (fun _ _ h=>h) h) _ _ (hr n e σ hi)⟩
 | exit id=>exact fun h e σ=>h _ _ _
 | ret=>exact fun h e σ=>h _ _ _
 | scope l c r O7 ihr =>
   rintro Q Q' h e σ ⟨J,h1,h2⟩
   have hj:∀ (J:Env->ai->Prop) ex e σ,uJ l J Q ex e σ->uJ l J Q' ex e σ:=fun J ex e σ hq=>by
    cases ex<;>first|exact h _ _ _ hq|exact hq
   exact⟨J,O7 (hj _) _ _ h1,fun n e σ hi=>ihr (hj _) _ _ (h2 n e σ hi)⟩
 | stop=>exact fun h e σ hh=>hh
 | nM f nt ps ca cb a b _ _=>exact fun h e σ=>aaC h e σ
 | label l=>exact fun h e σ=>h _ _ _
 | goto l=>exact fun h e σ=>h _ _ _
def aaD{α : Type}(ms:List Nat)(cs : α->List (Nat × AV))(S : α->ai)(A : α->Prop)(μ : α->Nat)(e:Env)(x : α)(e':Env)(σ':ai): Prop :=
 ∃ x',A x'/\ μ x' < μ x/\σ'=S x'/\FP ms e e'/\At (cs x') e'
def ahV {c : dL} {Q : AQ} {e : Env} {σ : ai} {α : Type} (ms : List Nat) (cs : α -> List (Nat × AV)) (S : α -> ai) (A : α -> Prop) (μ : α -> Nat) (x0 : α) (h0 : A x0) (iE : σ = S x0) (hat : At (cs x0) e)
    (hr:∀ x r,A x->jD P c (mK (aaD ms cs S A μ e x) Q) (puts (cs x) (LA ms r e)) (S x)):X8 P (.mk:Tg (c,Q,e,σ)):=by
 refine⟨fun n e' σ'=> ∃ x,A x/\FP ms e e'/\At (cs x) e'/\σ'=S x/\ μ x=n,⟨_,x0,h0,fun _ _=>rfl,hat,iE,rfl⟩,?_⟩;rintro n e' σ' ⟨x1,a1,o1,t1,rfl,rfl⟩;have h:=hr x1 e' a1;rw[Wq o1 _ t1]at h;refine Dp (fun ex e2 σ2 hq=>?_) _ _ h;cases ex<;>try exact hq
 obtain⟨x',a',hm,hs,ho,ht⟩:=hq;exact⟨_,hm,x',a',ho,ht,hs,rfl⟩
def zT: Nat->Nat->List Nat->List Nat
 | 0,_,l=>l
 | n+1,a,l=>a::zT n (a+1) l
def zX: List Nat->List Nat
 | a::n::l=>zT n a (zX l)
 | _=>[]
def bE {c : dL} {Q : AQ} {e : Env} {σ : ai} {α : Type} (ps : List Nat) {ms : List Nat} (cs : α -> List (Nat × AV)) (S : α -> ai) (A : α -> Prop) (μ : α -> Nat) (x0 : α) (h0 : A x0) (iE : σ = S x0) (hat : At (cs x0) e)
    (hr:∀ x r,A x->jD P c (mK (aaD ms cs S A μ e x) Q) (puts (cs x) (LA ms r e)) (S x)) (hm:zX ps=ms:=by simp only[zX,zT,Nat.reduceAdd];rfl):X8 P (.mk:Tg (c,Q,e,σ)):=ahV ms cs S A μ x0 h0 iE hat hr
end Go.AM
namespace Go.AM
variable {P:Program}
mutual
def AV.dy: AV->Bool
 | .own .. | .ref .. | .fG .. | .mp _ | .qV _ | .mg ..=>false
 | .agg cs=>AV.cG cs
 | .bU cs=>AV.cG cs
 | .aR _ _ xs=>AV.cG xs
 | .fh _ x _=>AV.dy x
 | .fn _ a b=>AV.cG a && AV.cG b
 | .kZ _ v=>AV.dy v
 | .undef | .bool _ | .int .. | .str _ | .aV | .gO | .nQ | .jR | .iS | .nZ=>true
def AV.cG: List AV->Bool
 | []=>true
 | a::az=>AV.dy a && AV.cG az
end
def rj{l:List AV}: AV.cG l=true↔ ∀ a ∈ l,a.dy=true:=by
 induction l with
 | nil=>simp[AV.cG]
 | cons a l ih=>simp[AV.cG,ih]
def j_{l:List AV}(h:AV.cG l=true)(i:Nat): (l.getD i .undef).dy=true:=by
 rw[aq];by_cases hi:i<l.length
 ·rw[aG hi];exact rj.1 h _ (dI hi)
 rw[iD (ja hi)];rfl
def fm{α : Type}(f : α->AV)(l:List α)(h:∀ a,(f a).dy=true): AV.cG (l.map f)=true:=by
 rw[rj];intro a ha;obtain⟨x,_,rfl⟩:=cI.1 ha;exact h x
def JG{a:AV}(h:a.dy=true)(c:Nat): (a.cell c).dy=true:=by
 cases a<;>first|exact h|exact j_ h c
def VR.dy{g g':aN}{w w':World}(hi:∀ b,g.fN b->g'.fN b/\w'.heap[b]? = w.heap[b]?){a:AV}{v:Value}(h:VR g w a v): a.dy=true->VR g' w' a v:=by
 induction h with
 | undef v=>exact fun _=> .undef v
 | bool b=>exact fun _=> .bool b
 | int k n=>exact fun _=> .int k n
 | str s=>exact fun _=> .str s
 | agg cs vs hl hs _ ih=>exact fun hp=> .agg cs vs hl hs (fun i h=>ih i h (j_ hp i))
 | bU cs vs hl _ ih=>exact fun hp=> .bU cs vs hl (fun i h=>ih i h (j_ hp i))
 | aV=>exact fun _=> .aV
 | iT f el b cap hf=>exact fun _=> .iT f el b cap hf
 | aR f el xs b off cap hb hf hx ft hc _ ih =>
   intro hp;obtain⟨hi',he⟩:=hi b hb;refine .aR f el xs b off cap hi' hf hx ft (fun i c h1 h2=>?_) (fun i c h1 h2=>?_)
   ·rw[nT he];exact hc i c h1 h2
   rw[tF he];exact ih i c h1 h2 (JG (j_ hp i) c)
 | own el l m lo n v h=>exact fun hp=>by cases hp
 | ref l off v h=>exact fun hp=>by cases hp
 | fh el x off b o hb ft hc _ ih =>
   intro hp;obtain⟨hi',he⟩:=hi b hb;refine .fh el x off b o hi' ft (fun c h2=>?_) (fun c h2=>?_)
   ·rw[nT he];exact hc c h2
   rw[tF he];exact ih c h2 (JG (a:=x) hp c)
 | fG el l m i off v h=>exact fun hp=>by cases hp
 | gO=>exact fun _=> .gO
 | nQ=>exact fun _=> .nQ
 | jR=>exact fun _=> .jR
 | fn f first cap first' cap' hl hl' _ _ ih qN =>
   intro hp;simp only[AV.dy,aD]at hp;exact .fn f first cap first' cap' hl hl' (fun i h=>ih i h (j_ hp.1 i)) (fun i h=>qN i h (j_ hp.2 i))
 | kZ t a v _ ih=>exact fun hp=> .kZ t a v (ih hp)
 | iS=>exact fun _=> .iS
 | nZ v h=>exact fun _=> .nZ v h
 | mp l v h=>exact fun hp=>by cases hp
 | qV l v h=>exact fun hp=>by cases hp
 | mg el l off n v h=>exact fun hp=>by cases hp
mutual
def AV.flat: AV->Bool
 | .agg cs=>AV.Am cs
 | .bU cs=>AV.Am cs
 | .undef | .bool _ | .int .. | .str _ | .aV | .gO | .nQ | .jR | .iS | .nZ=>true
 | .aR _ _ []=>true
 | .kZ _ a=>AV.flat a
 | _=>false
def AV.Am: List AV->Bool
 | []=>true
 | a::az=>AV.flat a && AV.Am az
end
def LC{l:List AV}(h:AV.Am l=true)(i:Nat): (l.getD i .undef).flat=true:=by
 induction l generalizing i with
 | nil=>simp[AV.flat]
 | cons a l ih =>
   simp only[AV.Am,aD]at h;cases i with
   | zero=>simpa using h.1
   | succ i=>simpa using ih h.2 i
def VR.flat{g g':aN}{w w':World}{a:AV}{v:Value}(h:VR g w a v): a.flat=true->VR g' w' a v:=by
 induction h with
 | undef v=>exact fun _=> .undef v
 | bool b=>exact fun _=> .bool b
 | int k n=>exact fun _=> .int k n
 | str s=>exact fun _=> .str s
 | agg cs vs hl hs _ ih=>exact fun hp=> .agg cs vs hl hs (fun i h=>ih i h (LC hp i))
 | bU cs vs hl _ ih=>exact fun hp=> .bU cs vs hl (fun i h=>ih i h (LC hp i))
 | aV=>exact fun _=> .aV
 | iT f el b cap hf=>exact fun _=> .iT f el b cap hf
 | aR f el xs b off cap hb hf hx ft hc _ ih =>
   intro hp;cases xs with
   | nil=>exact .iT f el _ cap hf
   | cons x xs=>simp[AV.flat]at hp
 | gO=>exact fun _=> .gO
 | nQ=>exact fun _=> .nQ
 | jR=>exact fun _=> .jR
 | iS=>exact fun _=> .iS
 | nZ v h=>exact fun _=> .nZ v h
 | kZ t a v _ ih=>exact fun hp=> .kZ t a v (ih hp)
 | own|ref|fh|fG|fn|mp|qV|mg=>exact fun hp=>by simp[AV.flat]at hp
inductive View (σ : ai):AV->AV->Prop where
 | refl (a:AV) (h:a.dy=true):View σ a a
 | aV (el:El):View σ .aV (.aR false el [])
 | weak (f:Bool) (el:El) (xs:List AV) (h:AV.cG xs=true):View σ (.aR f el xs) (.aR false el xs)
 | aR (f:Bool) (el:El) (xs ys:List AV) (hl:xs.length=ys.length) (h:∀ i,i<xs.length->View σ (xs.getD i .undef) (ys.getD i .undef)):View σ (.aR f el xs) (.aR false el ys)
 | own (T : Option TypeId) (el : El) (l lo n : Nat) (xs ys : List AV) (hl : σ[l]? = some (.dn T el xs)) (hy : ys.length = n) (hn : lo + n <= xs.length)
    (h:∀ i,i<n->View σ (xs.getD (lo+i) .undef) (ys.getD i .undef)):View σ (.own el l xs.length lo n) (.aR false el ys)
 | agg (cs ds:List AV) (hl:cs.length=ds.length) (h:∀ i,i<cs.length->View σ (cs.getD i .undef) (ds.getD i .undef)):View σ (.agg cs) (.agg ds)
 | bU (cs ds:List AV) (hl:cs.length=ds.length) (h:∀ i,i<cs.length->View σ (cs.getD i .undef) (ds.getD i .undef)):View σ (.bU cs) (.bU ds)
 | cell (l:Nat) (v:AV) (hl : σ[l]? = some (.cells [v])) (hs:v.fits ⟨false,1⟩=true) (hp:v.dy=true):View σ (.ref l 0) (.fh ⟨false,1⟩ v 0)
 | cells (l n:Nat) (cs:List AV) (hl : σ[l]? = some (.cells cs)) (hn:cs.length=n) (hp:AV.cG cs=true):View σ (.ref l 0) (.fh ⟨true,n⟩ (.agg cs) 0)
 | nZ (a:AV) (l:Nat) (o:aY) (hl : σ[l]? = some o) (ho:o.live=true) (h:a.scalar=true):View σ a .nZ
 | zc (l n:Nat) (cs ds:List AV) (hl : σ[l]? = some (.cells cs)) (hn:cs.length=n) (hd:cs.length=ds.length) (h:∀ i,i<cs.length->View σ (cs.getD i .undef) (ds.getD i .undef)):View σ (.ref l 0) (.fh ⟨true,n⟩ (.agg ds) 0)
 | fn (f : Fn) (az bs cs ds : List AV) (hl : az.length = bs.length) (h : ∀ i, i < az.length -> View σ (az.getD i .undef) (bs.getD i .undef))
    (hl':cs.length=ds.length) (h':∀ i,i<cs.length->View σ (cs.getD i .undef) (ds.getD i .undef)):View σ (.fn f az cs) (.fn f bs ds)
def cY(σ : ai)(cs ds:List AV): Prop:=cs.length=ds.length/\ ∀ i,i<cs.length->View σ (cs.getD i .undef) (ds.getD i .undef)
def cY.nil(σ : ai): cY σ [] []:=⟨rfl,fun _ h=>absurd h (dm _)⟩
def cY.cons{σ : ai}{a b:AV}{cs ds:List AV}(h:View σ a b)(hs:cY σ cs ds): cY σ (a::cs) (b::ds) :=
 ⟨by simp [hs.1], fun i hi => by
   cases i with
   | zero=>simpa using h
   | succ i=>simpa using hs.2 i (by simpa using hi)⟩
def cY.refl{σ : ai}{cs:List AV}(h:AV.cG cs=true): cY σ cs cs:=⟨rfl,fun i _=> .refl _ (j_ h i)⟩
def View.nS{σ : ai}{cs ds:List AV}(h:cY σ cs ds): View σ (.agg cs) (.agg ds):= .agg cs ds h.1 h.2
def View.ac7{σ : ai}{cs ds:List AV}(h:cY σ cs ds): View σ (.bU cs) (.bU ds):= .bU cs ds h.1 h.2
def View.Ni{σ : ai}{f:Bool}{el:El}{xs ys:List AV}(h:cY σ xs ys): View σ (.aR f el xs) (.aR false el ys):= .aR f el xs ys h.1 h.2
def View.fnL{σ : ai}{f:Fn}{az bs cs ds:List AV}(h:cY σ az bs)(h':cY σ cs ds): View σ (.fn f az cs) (.fn f bs ds):= .fn f az bs cs ds h.1 h.2 h'.1 h'.2
def View.vec{σ : ai}{T:Option TypeId}{el:El}{l m n:Nat}{xs:List AV}(hl : σ[l]? = some (.dn T el xs))(hm:m=xs.length)(hn:n=xs.length)(h:AV.cG xs=true): View σ (.own el l m 0 n) (.aR false el xs):=by
 subst hm;subst hn;exact .own T el l 0 xs.length xs xs hl rfl ae (fun i _=>by rw[bL];exact .refl _ (j_ h i))
def View.amn{σ : ai}{T:Option TypeId}{el:El}{l m n:Nat}{xs ys:List AV}(hl : σ[l]? = some (.dn T el xs))(hm:m=xs.length)(hn:n=xs.length)(h:cY σ xs ys): View σ (.own el l m 0 n) (.aR false el ys):=by
 subst hm;subst hn;exact .own T el l 0 xs.length xs ys hl h.1.symm ae (fun i hi=>by rw[bL];exact h.2 i hi)
def View.scalar{σ : ai}{a b:AV}(h:View σ a b): b.scalar=a.scalar:=by
 cases h<;>first|rfl|skip
 case nZ=>rename_i h;exact h.symm
def View.fits{σ : ai}{a b:AV}(h:View σ a b)(el:El)(hf:a.fits el=true): b.fits el=true:=by
 cases h with
 | agg cs ds hl h =>
   simp only[AV.fits,aD,bf,beq_iff_eq]at hf |-;refine⟨⟨hf.1.1,by rw[<-hl];exact hf.1.2⟩,fun x hx=>?_⟩;obtain⟨i,hi,rfl⟩:=bV hx;have h1:=(h i ae).scalar;rw[aq,aq,aG hi,aG (by omega:i<cs.length)]at h1;rw[bT,bT]at h1;rw[h1];exact hf.2 _ (dI _)
 | refl=>exact hf
 | aV=>exact hf
 | weak=>exact hf
 | aR=>exact hf
 | own=>exact hf
 | bU=>exact hf
 | cell=>exact hf
 | cells=>exact hf
 | zc=>exact hf
 | nZ _ l o hl ho h=>cases a<;>first|exact hf|(simp[AV.scalar]at h;done)
 | fn=>exact hf
def View.mono{σ σ':ai}(hs:∀ (l:Nat) o,σ[l]? = some o->σ'[l]? = some o){a b:AV}(h:View σ a b): View σ' a b:=by
 induction h with
 | refl a h=>exact .refl a h
 | aV el=>exact .aV el
 | weak f el xs h=>exact .weak f el xs h
 | aR f el xs ys hl _ ih=>exact .aR f el xs ys hl ih
 | own T el l lo n xs ys hl hy hn _ ih=>exact .own T el l lo n xs ys (hs _ _ hl) hy hn ih
 | agg cs ds hl _ ih=>exact .agg cs ds hl ih
 | bU cs ds hl _ ih=>exact .bU cs ds hl ih
 | cell l v hl h hp=>exact .cell l v (hs _ _ hl) h hp
 | cells l n cs hl hn hp=>exact .cells l n cs (hs _ _ hl) hn hp
 | zc l n cs ds hl hn hd h ih=>exact .zc l n cs ds (hs _ _ hl) hn hd ih
 | nZ a l o hl ho h=>exact .nZ a l o (hs _ _ hl) ho h
 | fn f az bs cs ds hl _ hl' _ ih qN=>exact .fn f az bs cs ds hl ih hl' qN
def JH {g g' : aN} {w : World} {σ : ai} {x y : AV} {el : El} (ih : ∀ u, VR g w x u -> VR g' w y u) (h : View σ x y) (hf : x.fits el = true) (u : Nat -> Value)
    (hu:∀ k,k<el.sz->VR g w (x.cell k) (u k)) (c:Nat) (hc:c<el.sz):VR g' w (y.cell c) (u c):=by
 by_cases hx:∃ cs,x = .agg cs
 ·obtain⟨cs,rfl⟩:=hx;simp only[AV.fits,aD,beq_iff_eq]at hf
  have h1:VR g w (.agg cs) (.agg (Array.ofFn fun i:Fin cs.length=>u i)):=by
   refine .agg cs _ aQ hf.2 (fun i hi=>?_);have:=hu i ae;simpa[hi,AV.cell]using this
  have h2:=ih _ h1;generalize hq:y=q at h2
  have:∃ ds,q = .agg ds:=by
   subst hq;cases h with
   | refl=>exact⟨_,rfl⟩
   | agg _ ds=>exact⟨ds,rfl⟩
   | nZ _ _ _ _ _ h=>simp[AV.scalar]at h
  obtain⟨ds,rfl⟩:=this;cases h2 with
  | agg _ vs hl hs hh =>
    simp only[Array.size_ofFn]at hl;have:=hh c ae;have lR:c<cs.length:=ae;simpa[lR,AV.cell]using this
 have e1:x.cell c=x:=by cases x<;>first|rfl|exact absurd ⟨_,rfl⟩ hx
 have e2:y.cell c=y:=by
  cases h<;>first|rfl|(exact absurd ⟨_,rfl⟩ hx)|exact e1
 rw[e2];have:=hu c hc;rw[e1]at this;exact ih _ this
def View.vr {g g' : aN} {w : World} {σ : ai} (hR : Rel g w σ) (hi : ∀ b, g.fN b -> g'.fN b) (ht : ∀ b, mG σ g b -> g'.fN b) {a b : AV} (hv : View σ a b) :
    ∀ {v:Value},VR g w a v->VR g' w b v:=by
 have hi2:∀ b,g.fN b->g'.fN b/\w.heap[b]? = w.heap[b]?:=fun b hb=>⟨hi b hb,rfl⟩
 induction hv with
 | refl a h=>exact fun hr=>hr.dy hi2 h
 | aV el=>intro v hr;cases hr;exact .iT false el none 0 (fun h=>by cases h)
 | weak f el xs h =>
   intro v hr;cases hr with
   | iT f el b cap hf=>exact .iT false el b cap (fun h=>by cases h)
   | aR f el xs b off cap hb hf hx ft hc hh =>
     exact .aR false el xs b off cap (hi b hb) (fun h=>by cases h) hx ft hc (fun i c h1 h2=>(hh i c h1 h2).dy hi2 (JG (j_ h i) c))
 | aR f el xs ys hl h ih =>
   intro v hr;cases hr with
   | iT f el b cap hf =>
     have:ys=[]:=dA.1 hl.symm;subst this;exact .iT false el b cap (fun h=>by cases h)
   | aR f el xs b off cap hb hf hx ft hc hh =>
     rw[hl];refine .aR false el ys b off cap (hi b hb) (fun h=>by cases h) (hl ▸ hx) (fun i h1=>(h i (hl ▸ h1)).fits el (ft i (hl ▸ h1))) (fun i c h1 h2=>hc i c (hl ▸ h1) h2) (fun i c h1 h2=>?_);exact JH (fun u=>ih i (hl ▸ h1)) (h i (hl ▸ h1)) (ft i (hl ▸ h1)) (fun k=>eT w ⟨b,off+(i*el.sz+k),none⟩) (fun k hk=>hh i k (hl ▸ h1) hk) c h2
 | own T el l lo n xs ys hl hy hn h ih =>
   intro v hr;cases hr with
   | own _ _ _ _ _ _ hO =>
     obtain⟨_,_,A,cap,rfl,h4⟩:=hO;obtain⟨mF,Es,hrow⟩:=hR.ok l _ hl;by_cases V_:n=0
     ·subst V_;have:ys=[]:=dA.1 hy;subst this;exact .iT false el A cap (fun h=>by cases h)
     rcases hrow with⟨hx,_,_⟩|⟨b,vs,hb,hrow,hsz,hle,hc,_⟩
     ·subst hx;simp at hn;omega
     obtain⟨_,h6,h7⟩:=h4 mF.symm;have hlt:lo<g.cap l:=ae;have hA:=h7 hlt;rw[hb]at hA;simp only[dh]at hA;subst hA
     have hidx:∀ i c,i<n->c<el.sz->g.off l+(lo+i)*el.sz+c<vs.size:=fun i c h1 h2=>by
      rw[hsz];have:(lo+i)*el.sz+el.sz<=g.cap l*el.sz:=by rw[<-eH];exact bR _ ae
      omega
     have hoff:∀ i c,g.off l+lo*el.sz+(i*el.sz+c)=g.off l+(lo+i)*el.sz+c:=fun i c=>by rw[cu];omega
     subst hy;refine .aR false el ys b (g.off l+lo*el.sz) cap (ht b ⟨l,⟨_,hl,rfl⟩,hb⟩) (fun h=>by cases h) ae (fun i h1=>?_) (fun i c h1 h2=>?_) (fun i c h1 h2=>?_)
     ·exact(h i h1).fits el (Es (lo+i) ae)
     ·rw[hoff,hrow.cell (hidx i c h1 h2)];rfl
     rw[hoff]
     have e1:eT w ⟨b,g.off l+(lo+i)*el.sz+c,none⟩=vs.getD (g.off l+(lo+i)*el.sz+c) Go.undef:=by
      simp only[eT,hrow.cell (hidx i c h1 h2),bT]
     rw[e1];exact JH (fun u=>ih i h1) (h i h1) (Es (lo+i) ae) (fun k=>vs.getD (g.off l+(lo+i)*el.sz+k) Go.undef) (fun k hk=>hc (lo+i) k ae hk) c h2
 | agg cs ds hl h ih =>
   intro v hr;cases hr with
   | agg _ vs hl' hs hh =>
     refine .agg ds vs ae ?_ (fun i h1=>ih i ae (hh i ae));rw[bf]at hs |-;intro x hx;obtain⟨i,hi',rfl⟩:=bV hx;have h1:=(h i ae).scalar;rw[aq,aq,aG hi',aG (by omega:i<cs.length)]at h1;rw[bT,bT]at h1;rw[h1];exact hs _ (dI _)
 | bU cs ds hl h ih =>
   intro v hr;cases hr with
   | bU _ vs hl' hh=>exact .bU ds vs ae (fun i h1=>ih i ae (hh i ae))
 | cell l x hl hs hp =>
   intro v hr;cases hr with
   | ref _ _ _ hO =>
     obtain⟨_,A,rfl,h2⟩:=hO;obtain⟨mF,_,b,vs,hb,hrow,hsz,hc,_⟩:=hR.ok l _ hl;obtain⟨h3,h4⟩:=h2 mF;rw[hb]at h3;cases h3;rw[h4];have h5:(0:Nat)<vs.size:=by simpa using Nat.lt_of_lt_of_eq Nat.zero_lt_one hsz.symm
     have hcell:=hrow.cell h5;have hx:=hc 0 aQ;simp only[cH]at hx;refine .fh ⟨false,1⟩ x 0 A.block 0 (ht _ ⟨l,⟨_,hl,rfl⟩,hb⟩) hs (fun c h1=>?_) (fun c h1=>?_)
     ·have:c=0:=by have:c<1:=h1;omega
      subst this;rw[bL,hcell];rfl
     have:c=0:=by have:c<1:=h1;omega
     subst this;have e1:x.cell 0=x:=by cases x<;>first|rfl|simp[AV.fits]at hs
     simp only[bL,eT,hcell,bT,e1];exact hx.dy hi2 hp
 | cells l n cs hl hn hp =>
   intro v hr;cases hr with
   | ref _ _ _ hO =>
     obtain⟨_,A,rfl,h2⟩:=hO;obtain⟨mF,hsc,b,vs,hb,hrow,hsz,hc,_⟩:=hR.ok l _ hl;obtain⟨h3,h4⟩:=h2 mF;rw[hb]at h3;cases h3;rw[h4];refine .fh ⟨true,n⟩ (.agg cs) 0 A.block 0 (ht _ ⟨l,⟨_,hl,rfl⟩,hb⟩) (by simp[AV.fits,hn];simpa using hsc) (fun c h1=>?_) (fun c h1=>?_)
     ·have h1:c<n:=h1;rw[bL,hrow.cell ae];rfl
     have h1:c<n:=h1;simp only[bL,eT,hrow.cell (show c<vs.size by omega),bT];exact(hc c ae).dy hi2 (j_ hp c)
 | nZ a l o hl ho h=>intro v hr;exact .nZ v (hr.Hs h)
 | zc l n cs ds hl hn hd h ih =>
   intro v hr;cases hr with
   | ref _ _ _ hO =>
     obtain⟨_,A,rfl,h2⟩:=hO;obtain⟨mF,hsc,b,vs,hb,hrow,hsz,hc,_⟩:=hR.ok l _ hl;obtain⟨h3,h4⟩:=h2 mF;rw[hb]at h3;cases h3;rw[h4];refine .fh ⟨true,n⟩ (.agg ds) 0 A.block 0 (ht _ ⟨l,⟨_,hl,rfl⟩,hb⟩) ?_ (fun c h1=>?_) (fun c h1=>?_)
     ·simp only[AV.fits,fF,aD,beq_iff_eq];refine⟨ae,bf.2 fun x hx=>?_⟩;obtain⟨i,hi,rfl⟩:=bV hx;have:=(h i ae).scalar;rw[aq,aq,aG hi,aG (by omega:i<cs.length)]at this;rw[bT,bT]at this;rw[this];exact bf.1 hsc _ (dI _)
     ·have h1:c<n:=h1;rw[bL,hrow.cell ae];rfl
     have h1:c<n:=h1;simp only[bL,eT,hrow.cell (show c<vs.size by omega),bT];exact ih c ae (hc c ae)
 | fn f az bs cs ds hl h hl' h' ih qN =>
   intro v hr;cases hr with
   | fn _ _ _ first' cap' k1 k2 k3 k4=>exact .fn f bs ds first' cap' ae ae (fun i h1=>ih i ae (k3 i ae)) (fun i h1=>qN i ae (k4 i ae))
def aS(P:Program)(f:FuncId)(args:List AV)(r:AV): Prop:= ∀ σ,kq P f args σ r
def jm{g:aN}{b:Nat}: ¬ mG [] g b:=fun⟨_,⟨_,h,_⟩,_⟩=>by simp at h
def aN.uK(g:aN)(lo hi:Nat): aN:= { g with fN:=fun b=>g.fN b\/(lo<=b/\b<hi) }
def Rel.uK {g : aN} {w w' : World} {σ : ai} (h : Rel g w σ) (hsz : w.heap.size <= w'.heap.size) (hos : w'.os = w.os) (yg : w'.tape = w.tape) (hout : w'.output = w.output)
    (hf:∀ b,b<w.heap.size->w'.heap[b]? = w.heap[b]?):Rel (g.uK w.heap.size w'.heap.size) w' σ/\gE σ g w σ (g.uK w.heap.size w'.heap.size) w':=by
 have hm:kH g w (g.uK w.heap.size w'.heap.size) w':=⟨fun b hb=>⟨.inl hb,hf b (h.lt b hb)⟩,bg _,fun _ _=>⟨bg _,fun _=>⟨rfl,rfl,rfl⟩⟩⟩;refine⟨⟨h.len,fun b hb=>?_,fun l o ho=>?_,h.inj,fun l b hl hb hi=>?_,h.glob.mono hm.fN⟩,⟨hm,hsz,hos,yg,hout,fun b hb _=>hf b hb,fun b hb hi=>?_,fun b _ ht=>ht⟩⟩
 ·rcases hb with hb|hb
  ·exact di (h.lt b hb) hsz
  exact hb.2
 ·have hl:l<g.n:=by rw[<-h.len];exact(aE.1 ho).1
  by_cases hv:o.live=true
  ·exact(h.ok l o ho).step hm hl rfl (fun b hb=>hf b (h.k8 ⟨o,ho,hv⟩ hb))
  ·cases o<;>simp[aY.live]at hv;trivial
 ·rcases hi with hi|hi
  ·exact h.qc l b hl hb hi
  have:=h.k8 hl hb;omega
 rcases hi with hi|hi
 ·exact .inl hi
 omega
def aN.bare(I:Nat->Prop): aN:=⟨I,0,fun _=>0,fun _=>none,fun _=>0,fun _=>0⟩
def Rel.bare{I:Nat->Prop}{w:World}(h:∀ b,I b->b<w.heap.size)(hg:yf (aN.bare I) w): Rel (aN.bare I) w [] :=
 ⟨rfl,h,fun _ _ h=>by simp at h,fun _ _ _ ⟨_,h,_⟩=>by simp at h,fun _ _ ⟨_,h,_⟩=>by simp at h,hg⟩
def aS.Yc{f:FuncId}{args:List AV}{r:AV}(h:cE P f args [] fun o σ'=> ∃ r0,o = .ret r0/\View σ' r0 r)(hp:AV.cG args=true): aS P f args r:=by
 intro σ;refine⟨h.1,fun g w vs hR hlen hv=>?_⟩;refine(h.2 (aN.bare g.fN) w vs (Rel.bare hR.lt ⟨hR.glob.1,hR.glob.2⟩) hlen (fun i hi=>VR.dy (g:=g) (g':=aN.bare g.fN) (fun b hb=>⟨hb,rfl⟩) (hv i hi) (j_ hp i))).mono ?_;rintro e w' ⟨out,g',σ',jf,hE,hO,r0,rfl,Dq⟩;have hfr:∀ b,b<w.heap.size->w'.heap[b]? = w.heap[b]?:=fun b hb=>hE.frame b hb jm;obtain⟨h1,h2⟩:=hR.uK hE.size hE.os hE.tape hE.output hfr;refine⟨.ret r,_,σ,h1,h2,?_,rfl,rfl⟩;cases e with
 | returned v =>
   refine Dq.vr jf (fun b hb=>?_) (fun b hb=>?_) hO
   ·by_cases hlt:b<w.heap.size
    ·rcases hE.qW b hlt hb with h3|h3
     ·exact .inl h3
     exact absurd h3 jm
    exact .inr ⟨ae,jf.lt b hb⟩
   by_cases hlt:b<w.heap.size
   ·exact absurd (hE.BS b hlt hb) jm
   exact .inr ⟨ae,jf.C1 hb⟩
 | panicked c=>exact hO.elim
 | outgrown=>exact hO.elim
def aS.view{f:FuncId}{args args':List AV}{r:AV}{σ : ai}(h:aS P f args' r)(hv:cY σ args args')(hr:r.flat=true): kq P f args σ r:=by
 refine⟨(h []).1,fun g w vs hR hlen hvs=>?_⟩
 let I:Nat->Prop:=fun b=>g.fN b\/mG σ g b
 have hlt:∀ b,I b->b<w.heap.size:=fun b hb=>by
  rcases hb with hb|hb
  ·exact hR.lt b hb
  exact hR.C1 hb
 refine((h []).2 (aN.bare I) w vs (Rel.bare hlt ⟨fun b hb=> .inl (hR.glob.1 b hb),hR.glob.2⟩) (hv.1 ▸ hlen) (fun i hi=>?_)).mono ?_
 ·exact(hv.2 i (hv.1 ▸ hi)).vr (g':=aN.bare I) hR (fun b hb=> .inl hb) (fun b hb=> .inr hb) (hvs i (hv.1 ▸ hi))
 rintro e w' ⟨out,g',σ',jf,hE,hO,rfl,rfl⟩;have hfr:∀ b,b<w.heap.size->w'.heap[b]? = w.heap[b]?:=fun b hb=>hE.frame b hb jm;obtain⟨h1,h2⟩:=hR.uK hE.size hE.os hE.tape hE.output hfr;refine⟨.ret r,_,σ,h1,h2,?_,rfl,rfl⟩;cases e with
 | returned v=>exact VR.flat (a:=r) hO hr
 | panicked c=>exact hO.elim
 | outgrown=>exact hO.elim
inductive uL (σ : ai):AV->AV->Prop where
 | flat (a:AV) (h:a.flat=true):uL σ a a
 | own (T : Option TypeId) (el : El) (l lo n : Nat) (xs ys : List AV) (hl : σ[l]? = some (.dn T el xs)) (hy : ys.length = n) (hn : lo + n <= xs.length)
    (h:∀ i,i<n->uL σ (xs.getD (lo+i) .undef) (ys.getD i .undef)):uL σ (.own el l xs.length lo n) (.aR false el ys)
 | agg (cs ds:List AV) (hl:cs.length=ds.length) (h:∀ i,i<cs.length->uL σ (cs.getD i .undef) (ds.getD i .undef)):uL σ (.agg cs) (.agg ds)
 | bU (cs ds:List AV) (hl:cs.length=ds.length) (h:∀ i,i<cs.length->uL σ (cs.getD i .undef) (ds.getD i .undef)):uL σ (.bU cs) (.bU ds)
mutual
def AV.JI: ∀(a:AV),a.flat=true->a.dy=true
 | .agg cs,h=>AV.FQ cs h
 | .bU cs,h=>AV.FQ cs h
 | .undef,_ | .bool _,_ | .int ..,_ | .str _,_ | .aV,_ | .gO,_ | .nQ,_ | .jR,_ | .iS,_ | .nZ,_=>rfl
 | .aR _ _ [],_=>rfl
 | .kZ _ a,h=>AV.JI a h
 | .aR _ _ (_::_),h | .own ..,h | .ref ..,h | .fh ..,h | .fG ..,h | .fn ..,h | .mp _,h | .qV _,h | .mg ..,h=>by simp[AV.flat]at h
def AV.FQ: ∀(l:List AV),AV.Am l=true->AV.cG l=true
 | [],_=>rfl
 | a :: l, h => by
   simp only[AV.Am,aD]at h;simp only[AV.cG,aD];exact⟨AV.JI a h.1,AV.FQ l h.2⟩
end
def uL.view{σ : ai}{a b:AV}(h:uL σ a b): View σ a b:=by
 induction h with
 | flat a h=>exact .refl a (AV.JI a h)
 | own T el l lo n xs ys hl hy hn _ ih=>exact .own T el l lo n xs ys hl hy hn ih
 | agg cs ds hl _ ih=>exact .agg cs ds hl ih
 | bU cs ds hl _ ih=>exact .bU cs ds hl ih
def uL.vr{g g':aN}{w:World}{σ : ai}(hR:Rel g w σ)(ht:∀ b,mG σ g b->g'.fN b){a b:AV}(hv:uL σ a b): ∀ {v:Value},VR g w a v->VR g' w b v:=by
 induction hv with
 | flat a h=>exact fun hr=>hr.flat h
 | own T el l lo n xs ys hl hy hn h ih =>
   intro v hr;cases hr with
   | own _ _ _ _ _ _ hO =>
     obtain⟨_,_,A,cap,rfl,h4⟩:=hO;obtain⟨mF,Es,hrow⟩:=hR.ok l _ hl;by_cases V_:n=0
     ·subst V_;have:ys=[]:=dA.1 hy;subst this;exact .iT false el A cap (fun h=>by cases h)
     rcases hrow with⟨hx,_,_⟩|⟨b,vs,hb,hrow,hsz,hle,hc,_⟩
     ·subst hx;simp at hn;omega
     obtain⟨_,h6,h7⟩:=h4 mF.symm;have hlt:lo<g.cap l:=ae;have hA:=h7 hlt;rw[hb]at hA;simp only[dh]at hA;subst hA
     have hidx:∀ i c,i<n->c<el.sz->g.off l+(lo+i)*el.sz+c<vs.size:=fun i c h1 h2=>by
      rw[hsz];have:(lo+i)*el.sz+el.sz<=g.cap l*el.sz:=by rw[<-eH];exact bR _ ae
      omega
     have hoff:∀ i c,g.off l+lo*el.sz+(i*el.sz+c)=g.off l+(lo+i)*el.sz+c:=fun i c=>by rw[cu];omega
     subst hy;refine .aR false el ys b (g.off l+lo*el.sz) cap (ht b ⟨l,⟨_,hl,rfl⟩,hb⟩) (fun h=>by cases h) ae (fun i h1=>?_) (fun i c h1 h2=>?_) (fun i c h1 h2=>?_)
     ·exact(h i h1).view.fits el (Es (lo+i) ae)
     ·rw[hoff,hrow.cell (hidx i c h1 h2)];rfl
     rw[hoff]
     have e1:eT w ⟨b,g.off l+(lo+i)*el.sz+c,none⟩=vs.getD (g.off l+(lo+i)*el.sz+c) Go.undef:=by
      simp only[eT,hrow.cell (hidx i c h1 h2),bT]
     rw[e1];exact JH (fun u=>ih i h1) (h i h1).view (Es (lo+i) ae) (fun k=>vs.getD (g.off l+(lo+i)*el.sz+k) Go.undef) (fun k hk=>hc (lo+i) k ae hk) c h2
 | agg cs ds hl h ih =>
   intro v hr;cases hr with
   | agg _ vs hl' hs hh =>
     refine .agg ds vs ae ?_ (fun i h1=>ih i ae (hh i ae));rw[bf]at hs |-;intro x hx;obtain⟨i,hi',rfl⟩:=bV hx;have h1:=(h i ae).view.scalar;rw[aq,aq,aG hi',aG (by omega:i<cs.length)]at h1;rw[bT,bT]at h1;rw[h1];exact hs _ (dI _)
 | bU cs ds hl h ih =>
   intro v hr;cases hr with
   | bU _ vs hl' hh=>exact .bU ds vs ae (fun i h1=>ih i ae (hh i ae))
def View.amo{a b:AV}(h:View [] a b): a.dy=true:=by
 induction h with
 | refl a h=>exact h
 | aV=>rfl
 | weak f el xs h=>exact h
 | aR f el xs ys hl h ih =>
   refine rj.2 fun x hx=>?_;obtain⟨i,hi,rfl⟩:=bV hx;have:=ih i hi;rwa[aq,aG hi,bT]at this
 | own T el l lo n xs ys hl=>simp at hl
 | agg cs ds hl h ih =>
   refine rj.2 fun x hx=>?_;obtain⟨i,hi,rfl⟩:=bV hx;have:=ih i hi;rwa[aq,aG hi,bT]at this
 | bU cs ds hl h ih =>
   refine rj.2 fun x hx=>?_;obtain⟨i,hi,rfl⟩:=bV hx;have:=ih i hi;rwa[aq,aG hi,bT]at this
 | cell l v hl=>simp at hl
 | cells l n cs hl=>simp at hl
 | zc l n cs ds hl=>simp at hl
 | nZ a l o hl=>simp at hl
 | fn f az bs cs ds hl h hl' h' ih qN =>
   simp only[AV.dy,aD];refine⟨rj.2 fun x hx=>?_,rj.2 fun x hx=>?_⟩
   ·obtain⟨i,hi,rfl⟩:=bV hx;have:=ih i hi;rwa[aq,aG hi,bT]at this
   obtain⟨i,hi,rfl⟩:=bV hx;have:=qN i hi;rwa[aq,aG hi,bT]at this
def View.aaE{g:aN}{w:World}{a b:AV}(h:View [] a b){v:Value}(hv:VR g w a v): VR (aN.bare g.fN) w a v:=VR.dy (g:=g) (g':=aN.bare g.fN) (fun _ hb=>⟨hb,rfl⟩) hv h.amo
def aS.weak{f:FuncId}{args args':List AV}{r:AV}(h:aS P f args' r)(hv:cY [] args args'): aS P f args r:=by
 intro σ;refine⟨(h []).1,fun g w vs hR hlen hvs=>?_⟩;refine((h σ).2 g w vs hR (hv.1 ▸ hlen) (fun i hi=>?_));refine View.vr (σ:=[]) (g:=aN.bare g.fN) (g':=g) (Rel.bare hR.lt ⟨hR.glob.1,hR.glob.2⟩) (fun b hb=>hb) (fun b hb=>absurd hb jm) (hv.2 i (hv.1 ▸ hi)) ?_;exact View.aaE (hv.2 i (hv.1 ▸ hi)) (hvs i (hv.1 ▸ hi))
end Go.AM
namespace Go.AM
variable {P:Program}
def ei(P:Program)(f:FuncId)(off:Nat)(args:List AV)(cs ds:List AV)(r:AV): Prop :=
 ∀(σ : ai) (k:Nat),σ[k]? = some (.cells cs)->cE P f (.ref k off::args) σ fun o σ'=>o = .ret r/\σ' = σ.set k (.cells ds)
def uM{σ : ai}{k:Nat}{o o':aY}(h : σ[k]? = some o): (σ.set k o')[k]? = some o':=by
 have:=(aE.1 h).1;simp[this]
def ei.aaF {f : FuncId} {off : Nat} {A : Nat -> List AV} {cs ds : List AV} {r : AV} (hl : ∀ k, (A k).length = (A 0).length)
    (h:cE P f (.ref 0 off::A 0) [.cells cs] fun o σ'=> ∃ r0 sO τ,o = .ret r0/\σ' = .cells sO:: τ/\View (.dead:: τ) r0 r/\cY (.dead:: τ) sO ds)
    (hA:∀ (g g0:aN) (w:World) (k:Nat),(∀ c,g.fN c->g0.fN c/\w.heap[c]? = w.heap[c]?)->(∀ o v,VR g w (.ref k o) v->VR g0 w (.ref 0 o) v)-> ∀ i v,VR g w ((A k).getD i .undef) v->VR g0 w ((A 0).getD i .undef) v) (hc:AV.cG cs=true) :
    ∀(σ : ai) (k:Nat),σ[k]? = some (.cells cs)->cE P f (.ref k off::A k) σ fun o σ'=>o = .ret r/\σ' = σ.set k (.cells ds):=by
 intro σ k hk;refine⟨h.1,fun g w vs hR hlen hv=>?_⟩;have hkn:k<g.n:=by rw[<-hR.len];exact(aE.1 hk).1
 have iW:Live σ k:=⟨_,hk,rfl⟩;obtain⟨Na,hsc,b,us,hb,hrow,Fw,hcell,_⟩:=hR.ok k _ hk
 let g0:aN:=⟨g.fN,1,fun _=>1,fun _=>some b,fun _=>g.cap k,fun _=>g.off k⟩
 have X3:b<w.heap.size:=hrow.lt;have HB:¬ g.fN b:=hR.qc k b iW hb;have hpi:∀ c,g.fN c->g0.fN c/\w.heap[c]? = w.heap[c]?:=fun c hc=>⟨hc,rfl⟩
 have hR0:Rel g0 w [.cells cs]:=by
  refine⟨rfl,hR.lt,fun l o ho=>?_,fun l l' c hl hl' _ _=>?_,fun l c hl hc=>?_,⟨hR.glob.1,hR.glob.2⟩⟩
  ·cases l with
   | zero =>
     simp at ho;subst ho;exact⟨rfl,hsc,b,us,rfl,hrow,Fw,fun i hi=>(hcell i hi).dy hpi (j_ hc i),trivial⟩
   | succ l=>simp at ho
  ·have h1:=hl.lt;have h2:=hl'.lt;simp at h1 h2;omega
  have:c=b:=by simpa[g0]using hc.symm
  subst this;exact HB
 have ac8:∀ c,mG [.cells cs] g0 c↔c=b:=fun c=>by
  constructor
  ·rintro⟨l,_,hc⟩;simpa[g0]using hc.symm
  rintro rfl;exact⟨0,⟨_,rfl,rfl⟩,rfl⟩
 have Yd:∀ o v,VR g w (.ref k o) v->VR g0 w (.ref 0 o) v:=fun o v this=>by
  cases this with
  | ref _ _ _ hh =>
    obtain⟨_,A,e,h2⟩:=hh;refine .ref _ _ _ ⟨⟨Nat.zero_lt_one,bg _⟩,A,e,fun _=>?_⟩;have:=h2 Na;rw[hb]at this;exact this
 have mF:∀ i,i<(AV.ref 0 off::A 0).length->VR g0 w ((AV.ref 0 off::A 0).getD i .undef) (vs.getD i Go.undef):=fun i hi=>by
  have:=hv i (by simpa[hl k]using hi);cases i with
  | zero =>
    simp only[cH]at this |-;exact Yd _ _ this
  | succ i =>
    simp only[iu]at this |-;exact hA g g0 w k hpi Yd i _ this
 refine(h.2 g0 w vs hR0 (by simpa[hl k]using hlen) mF).mono ?_;rintro e w' ⟨out,g',σ',jf,hE,hO,r0,sO,τ,rfl,rfl,Dq,Sb⟩;have hfr:∀ c,c<w.heap.size->c≠b->w'.heap[c]? = w.heap[c]?:=fun c hc hne=>hE.frame c hc (fun t=>hne ((ac8 c).1 t));obtain⟨aj_,acM,b',us',hb',akb,aoQ,ahW,_⟩:=jf.ok 0 _ rfl
 have Iu:b'=b:=by
  have:=(hE.mono.ver 0 (by show 0<1;omega)).2 aj_;rw[hb']at this;simpa[g0]using this.1
 subst Iu
 let g2:aN:= { g with fN:=fun c=>g.fN c\/(w.heap.size<=c/\c<w'.heap.size) }
 have akc:∀ c,g'.fN c->g2.fN c:=fun c hc=>by
  by_cases hlt:c<w.heap.size
  ·rcases hE.qW c hlt hc with h3|h3
   ·exact .inl h3
   exfalso;have:=(ac8 c).1 h3;subst this;exact jf.qc 0 c ⟨_,rfl,rfl⟩ hb' hc
  exact .inr ⟨ae,jf.lt c hc⟩
 have hm:kH g w g2 w':=⟨fun c hc=>⟨.inl hc,hfr c (hR.lt c hc) (fun e=>HB (e ▸ hc))⟩,bg _,fun _ _=>⟨bg _,fun _=>⟨rfl,rfl,rfl⟩⟩⟩
 have aol:¬ g2.fN b':=fun hh=>by
  rcases hh with hh|hh
  ·exact HB hh
  omega
 have aaG:∀ {x y:AV},View (.dead:: τ) x y-> ∀ {v:Value},VR g' w' x v->VR g2 w' y v:=fun {x y} amq {v} Sc=>by
  have hRd:Rel g' w' (.dead:: τ):=by
   have hlen:=jf.len;refine⟨by simpa using hlen,jf.lt,fun l o ho=>?_,fun l l' c hl hl'=>?_,fun l c hl=>?_,jf.glob⟩
   ·cases l with
    | zero=>simp at ho;subst ho;trivial
    | succ l=>exact jf.ok (l+1) o (by simpa using ho)
   ·have lift : ∀ l, Live (.dead :: τ) l -> Live (.cells sO :: τ) l := fun l hl => by
     obtain⟨o,ho,hv⟩:=hl;cases l with
     | zero=>simp at ho;subst ho;cases hv
     | succ l=>exact⟨o,by simpa using ho,hv⟩
    exact jf.inj l l' c (lift l hl) (lift l' hl')
   obtain⟨o,ho,hv⟩:=hl;cases l with
   | zero=>simp at ho;subst ho;cases hv
   | succ l=>exact jf.qc (l+1) c ⟨o,by simpa using ho,hv⟩
  refine amq.vr hRd akc (fun c hc=>?_) Sc;obtain⟨l,⟨o,ho,hv⟩,hc⟩:=hc;cases l with
  | zero=>simp at ho;subst ho;cases hv
  | succ l =>
    have Iz:Live (.cells sO:: τ) (l+1):=⟨o,by simpa using ho,hv⟩;refine .inr ⟨?_,jf.k8 Iz hc⟩;apply ja;intro hlt;have:=(ac8 c).1 (hE.BS c hlt ⟨_,Iz,hc⟩);subst this;have:=jf.inj (l+1) 0 c Iz ⟨_,rfl,rfl⟩ hc hb';omega
 have hds:sO.length=ds.length:=Sb.1
 have Ev:Rel g2 w' (σ.set k (.cells ds)):=by
  refine⟨by simp[g2,hR.len],fun c hc=>?_,fun l o ho=>?_,fun l l' c hl hl'=>?_,fun l c hl hc hi=>?_,hR.glob.mono hm.fN⟩
  ·rcases hc with hc|hc
   ·exact di (hR.lt c hc) hE.size
   exact hc.2
  ·by_cases hlk:l=k
   ·subst hlk;rw[uM hk]at ho;cases ho;refine⟨Na,?_,b',us',hb,akb,ae,fun i hi=>aaG (Sb.2 i ae) (ahW i ae),trivial⟩;rw[bf]at acM |-;intro x hx;obtain⟨i,hi,rfl⟩:=bV hx;have h1:=(Sb.2 i ae).scalar;rw[aq,aq,aG hi,aG (by omega:i<sO.length)]at h1;rw[bT,bT]at h1;rw[h1];exact acM _ (dI _)
   rw[aF (Ne.symm hlk)]at ho;have hl:l<g.n:=by rw[<-hR.len];exact(aE.1 ho).1
   by_cases hvv:o.live=true
   ·exact(hR.ok l o ho).step hm hl rfl (fun c hc=>hfr c (hR.k8 ⟨o,ho,hvv⟩ hc) (fun e=>hlk (hR.inj l k c ⟨o,ho,hvv⟩ iW hc (e ▸ hb))))
   ·cases o<;>simp[aY.live]at hvv;trivial
  ·have lift : ∀ l, Live (σ.set k (.cells ds)) l -> Live σ l := fun l hl => by
    rcases lK hl with⟨rfl,_,_⟩|⟨_,hl⟩
    ·exact iW
    exact hl
   exact hR.inj l l' c (lift l hl) (lift l' hl')
  have hl':Live σ l:=by
   rcases lK hl with⟨rfl,_,_⟩|⟨_,hl⟩
   ·exact iW
   exact hl
  rcases hi with hi|hi
  ·exact hR.qc l c hl' hc hi
  have:=hR.k8 hl' hc;omega
 refine⟨.ret r,g2,_,Ev,⟨hm,hE.size,hE.os,hE.tape,hE.output,fun c hc ht=>?_,fun c hc hi=>?_,fun c hc ht=>?_⟩,?_,rfl,rfl⟩
 ·exact hfr c hc (fun e=>ht ⟨k,iW,e ▸ hb⟩)
 ·rcases hi with hi|hi
  ·exact .inl hi
  omega
 ·obtain⟨l,hl,hc2⟩:=ht;rcases lK hl with⟨rfl,_,_⟩|⟨_,hl⟩
  ·exact⟨_,iW,hc2⟩
  exact⟨l,hl,hc2⟩
 ·cases e with
  | returned v=>exact aaG Dq hO
  | panicked c=>exact hO.elim
  | outgrown=>exact hO.elim
def ei.iM {f : FuncId} {off : Nat} {args cs ds : List AV} {r : AV}
    (h:cE P f (.ref 0 off::args) [.cells cs] fun o σ'=> ∃ r0 sO τ,o = .ret r0/\σ' = .cells sO:: τ/\View (.dead:: τ) r0 r/\cY (.dead:: τ) sO ds) (hp:AV.cG args=true) (hc:AV.cG cs=true) :
    ei P f off args cs ds r:=ei.aaF (A:=fun _=>args) (fun _=>rfl) h (fun _ _ _ _ hpi _ i _ hv=>hv.dy hpi (j_ hp i)) hc
def Sd(P:Program)(f:FuncId)(cs ds:List AV)(r:AV)(F:FuncId): Prop :=
 ∀(σ : ai) (k:Nat),σ[k]? = some (.cells cs)->cE P f [.ref k 0,.fn (.func F) [.ref k 0] []] σ fun o σ'=>o = .ret r/\σ' = σ.set k (.cells ds)
def Sd.iM {f F : FuncId} {cs ds : List AV} {r : AV}
    (h:cE P f [.ref 0 0,.fn (.func F) [.ref 0 0] []] [.cells cs] fun o σ'=> ∃ r0 sO τ,o = .ret r0/\σ' = .cells sO:: τ/\View (.dead:: τ) r0 r/\cY (.dead:: τ) sO ds) (hc:AV.cG cs=true):Sd P f cs ds r F:=by
 refine ei.aaF (A:=fun k=>[.fn (.func F) [.ref k 0] []]) (fun _=>rfl) h (fun g g0 w k hpi Yd i v hv=>?_) hc;cases i with
 | succ i=>exact hv.dy hpi rfl
 | zero =>
   cases hv with
   | fn f' first cap first' cap' hl hl' h1 h2 =>
     refine .fn _ _ _ _ _ hl hl' (fun i hi=>?_) (fun i hi=>absurd hi (dm _));cases i with
     | zero=>exact Yd _ _ (h1 0 (Nat.zero_lt_one))
     | succ i=>simp at hi
section
variable {n:FuncId} {args:List AV} {σ : ai} {K Kp:AV->ai->Prop} {r:AV}
def yL(h:aS P n args r)(hk:jS r (.mk:Tg fun r=>K r σ)): oQ P n args σ (.mk:Tg (K,Kp)):=Wo h hk
def B3(h:aS P n args r)(hk:jS r (.mk:Tg fun r=>K r σ)): Al P n args σ (.mk:Tg (K,Kp)):=Wp h hk
def af1{args':List AV}(h:aS P n args' r)(hv:cY [] args args')(hk:jS r (.mk:Tg fun r=>K r σ)): oQ P n args σ (.mk:Tg (K,Kp)):=Wo (aS.weak h hv) hk
def af2{args':List AV}(h:aS P n args' r)(hv:cY [] args args')(hk:jS r (.mk:Tg fun r=>K r σ)): Al P n args σ (.mk:Tg (K,Kp)):=Wp (aS.weak h hv) hk
def yM{args':List AV}(h:aS P n args' r)(hv:cY σ args args')(hr:r.flat=true)(hk:jS r (.mk:Tg fun r=>K r σ)): oQ P n args σ (.mk:Tg (K,Kp)) :=
 (aS.view h hv hr).mono fun o s ⟨h1,h2⟩=>by subst h1;subst h2;exact hk
def af3{args':List AV}(h:aS P n args' r)(hv:cY σ args args')(hr:r.flat=true)(hk:jS r (.mk:Tg fun r=>K r σ)): Al P n args σ (.mk:Tg (K,Kp)) :=
 ⟨r, fun τ => aS.view h ⟨hv.1, fun i hi => (hv.2 i hi).mono (fun l o hl => by
   rw[aI (aE.1 hl).1];exact hl)⟩ hr,hk⟩
def amr {k : Nat} {F : FuncId} {cs ds : List AV} (h : Sd P n cs ds r F) (iE : σ[k]? = some (.cells cs)) (hk : jS r (.mk : Tg fun r => tK (σ.set k (.cells ds)) (.mk : Tg fun σ => K r σ))) :
    oQ P n [.ref k 0,.fn (.func F) [.ref k 0] []] σ (.mk:Tg (K,Kp)) :=
 (h σ k iE).mono fun o s ⟨h1,h2⟩=>by subst h1;subst h2;exact hk
def Nj {k off : Nat} {cs ds : List AV} (h : ei P n off args cs ds r) (iE : σ[k]? = some (.cells cs)) (hk : jS r (.mk : Tg fun r => tK (σ.set k (.cells ds)) (.mk : Tg fun σ => K r σ))) :
    oQ P n (.ref k off::args) σ (.mk:Tg (K,Kp)) :=
 (h σ k iE).mono fun o s ⟨h1,h2⟩=>by subst h1;subst h2;exact hk
def dF(P:Program)(f:FuncId)(args:List AV)(o:Out): Prop:= ∀ s,cE P f args s fun o' s'=>o'=o/\s'=s
def dF.ret{f:FuncId}{args:List AV}{r:AV}(h:aS P f args r): dF P f args (.ret r):=h
def Nk{n:FuncId}{args:List AV}{σ : ai}{K Kp:AV->ai->Prop}{v:AV}(h:dF P n args (.panic v))(hk:Kp v σ): oQ P n args σ (.mk:Tg (K,Kp)) :=
 (h σ).mono fun o s ⟨h1,h2⟩=>by subst h1;subst h2;exact hk
def Wr{n:FuncId}{args:List AV}{σ : ai}{K Kp:AV->ai->Prop}{r:AV}(h:aS P n args r)(hk:jS r (.mk:Tg fun r=>K r σ)): Rh P n args σ (.mk:Tg (K,Kp)):=⟨.ret r,h,hk⟩
def dF.weak{f:FuncId}{args args':List AV}{o:Out}(h:dF P f args' o)(hv:cY [] args args'): dF P f args o:=by
 intro σ;refine⟨(h []).1,fun g w vs hR hlen hvs=>?_⟩;refine((h σ).2 g w vs hR (hv.1 ▸ hlen) (fun i hi=>?_));refine View.vr (σ:=[]) (g:=aN.bare g.fN) (g':=g) (Rel.bare hR.lt ⟨hR.glob.1,hR.glob.2⟩) (fun b hb=>hb) (fun b hb=>absurd hb jm) (hv.2 i (hv.1 ▸ hi)) ?_;exact View.aaE (hv.2 i (hv.1 ▸ hi)) (hvs i (hv.1 ▸ hi))
def Nl{n:FuncId}{args:List AV}{σ : ai}{K Kp:AV->ai->Prop}{v:AV}(h:dF P n args (.panic v))(hk:∀ s,Kp v s): Rh P n args σ (.mk:Tg (K,Kp)):=⟨.panic v,h,hk⟩
end
def dF.of_nil{f:FuncId}{args:List AV}{v:AV}(h:cE P f args [] fun o _=>o = .panic v)(hp:AV.cG args=true)(hv:v.flat=true): dF P f args (.panic v):=by
 intro σ;refine⟨h.1,fun g w vs hR hlen hvs=>?_⟩;refine(h.2 (aN.bare g.fN) w vs (Rel.bare hR.lt ⟨hR.glob.1,hR.glob.2⟩) hlen (fun i hi=>VR.dy (g:=g) (g':=aN.bare g.fN) (fun b hb=>⟨hb,rfl⟩) (hvs i hi) (j_ hp i))).mono ?_;rintro e w' ⟨out,g',σ',jf,hE,hO,rfl⟩;have hfr:∀ b,b<w.heap.size->w'.heap[b]? = w.heap[b]?:=fun b hb=>hE.frame b hb jm;obtain⟨h1,h2⟩:=hR.uK hE.size hE.os hE.tape hE.output hfr;refine⟨.panic v,_,σ,h1,h2,?_,rfl,rfl⟩;cases e with
 | returned v=>exact hO.elim
 | panicked c=>obtain⟨v',hc,hr⟩:=hO;exact⟨v',hc,VR.flat hr hv⟩
 | outgrown=>exact hO.elim
def ac9(σ : ai): Out->Out->Prop
 | .ret r0,.ret r=>View σ r0 r
 | .panic v,.panic u=>v=u
 | _,_=>False
def dF.iF{f:FuncId}{args:List AV}{o:Out}(h:cE P f args [] fun o' σ'=>ac9 σ' o' o)(hp:AV.cG args=true)(hf:∀ v,o = .panic v->v.flat=true): dF P f args o:=by
 cases o with
 | ret r =>
   refine aS.Yc (h.mono fun o' σ' h=>?_) hp;cases o' with
   | ret r0=>exact⟨r0,rfl,h⟩
   | panic v=>exact h.elim
 | panic v =>
   refine dF.of_nil (h.mono fun o' σ' h=>?_) hp (hf v rfl);cases o' with
   | ret r0=>exact h.elim
   | panic u=>exact aW Out.panic h
end Go.AM
namespace Go.AM
variable {P:Program}
def Se{n:Int}(h:0<=n)(h':n<=255): dw .u8 n=n:=by
 show IntKind.wrap .u8 n=n;simp[IntKind.wrap,IntKind.bits,IntKind.signed];omega
def O8{n:Int}(h:0<=n)(h':n<18446744073709551616): dw .u64 n=n:=by
 show IntKind.wrap .u64 n=n;simp[IntKind.wrap,IntKind.bits,IntKind.signed];omega
attribute [go_sem] FK Se O8
attribute [go_sem_proc] Nat.reduceAdd Nat.reduceBEq
attribute [go_sem_proc ↓] reduceIte
def Sf{s:List UInt8}{i:Nat}(h:i<s.length): (⟨s.toArray⟩:ByteArray).get! i=s.getD i 0:=by
 simp only[ByteArray.get!];rw[getElem!_pos _ i (by simpa using h),aq,aG h];simp
def JJ(s:List UInt8)(pos:Nat): Nat:=(Utf8.decode ⟨s.toArray⟩ pos).1
def decode_ascii{s:List UInt8}{pos:Nat}(h:pos<s.length)(ha:(s.getD pos 0).toNat<128): Utf8.decode ⟨s.toArray⟩ pos=((s.getD pos 0).toNat,1):=by
 unfold Utf8.decode;simp only[eZ,Sf h];rw[au ha]
def UO{s:List UInt8}{pos:Nat}(h:pos<s.length)(ha:128<=(s.getD pos 0).toNat): 128<=JJ s pos:=by
 unfold JJ Utf8.decode;simp only[eZ,Sf h];rw[aj ae];have he:128<=Utf8.runeError:=cW;split
 ·split<;>first|assumption|exact he
 split
 ·split
  ·rename_i h2;simp only[ge_iff_le,aD,aM]at h2;exact cR ae h2.1
  exact he
 split
 ·split
  ·rename_i h2;simp only[ge_iff_le,aD,aM]at h2;exact cR ae h2.1
  exact he
 exact he
noncomputable def iX:BinOp->IntKind->Int->Int->Int:=Classical.choose (⟨od,rfl⟩:∃ f,f=od)
def oL: iX=od:=Classical.choose_spec (⟨od,rfl⟩:∃ f,f=od)
section
variable (K:AV->Prop) (k:IntKind) (a b:Int) (s t:List UInt8)
@[go_sem] def ams:jg .and (.int k a) (.int k b) (.mk:Tg K)=K (.int k (iX .and k a b)):=by rw[oL];simp[jg,kJ]
@[go_sem] def an4:jg .or (.int k a) (.int k b) (.mk:Tg K)=K (.int k (iX .or k a b)):=by rw[oL];simp[jg,kJ]
@[go_sem] def amt:jg .xor (.int k a) (.int k b) (.mk:Tg K)=K (.int k (iX .xor k a b)):=by rw[oL];simp[jg,kJ]
@[go_sem] def ajv:jg .andNot (.int k a) (.int k b) (.mk:Tg K)=K (.int k (iX .andNot k a b)):=by rw[oL];simp[jg,kJ]
@[go_sem] def amu (k':IntKind):jg .shl (.int k a) (.int k' b) (.mk:Tg K)=req (0<=b) (.mk:Tg (K (.int k (dw k (a*2 ^ (Nat.min b.toNat k.bits)))))):=by rw[<-dK];simp[jg,kJ]
@[go_sem] def amv (k':IntKind):jg .shr (.int k a) (.int k' b) (.mk:Tg K)=req (0<=b) (.mk:Tg (K (.int k (a.fdiv (2 ^ (Nat.min b.toNat k.bits)))))):=by rw[<-dK];simp[jg,kJ]
@[go_sem] def an5:unT .neg (.int k a) (.mk:Tg K)=K (.int k (dw k (0-a))):=_root_.id rfl
end
section
variable (σ : ai) (K Kp:AV->ai->Prop)
variable (k k':IntKind) (a b:Int) (s t:List UInt8) (el:El) (xs cs:List AV) (l m lo n off i:Nat) (f:Bool)
def iaO(el:El)(o:Option aY)(l m j:Nat){K:AV->Prop}(_:Tg K): Prop:=match o with
 | some (.dn _ bN xs)=>bN=el/\m=xs.length/\K (.fG el l m j 0)
 | _=>False
@[go_sem] def ahX : eG P (.fA el none (.c (.own el l m lo n)) (.c (.int k a))) σ (.mk : Tg (K, Kp)) = req (0 <= a /\ a < n) (.mk : Tg (iaO el (σ[l]?) l m (lo + a.toNat) (.mk : Tg fun v => K v σ))) := by
  rw[<-dK];simp only[eG,bx.run,AX.ev,iaO,true_and,and_assoc];rfl
@[go_sem] def aom (K : AV -> Prop) : iaO el (some (.vec el xs)) l m i (.mk : Tg K) = req (m = xs.length) (.mk : Tg (K (.fG el l m i 0))) := by
  rw[<-dK];simp[iaO]
@[go_sem] def ac_ : eG P (.fA el (some n) (.c (.ref l i)) (.c (.int k a))) σ (.mk : Tg (K, Kp)) = req (0 <= a /\ a < n) (.mk : Tg (K (.ref l (i + a.toNat * el.sz)) σ)) := by
  rw[<-dK];simp only[eG,bx.run,AX.ev,and_assoc]
@[go_sem] def ala (ln : Nat) : eG P (.yZ ⟨false, 1⟩ ln (.c (.agg cs)) (.c (.int k a))) σ (.mk : Tg (K, Kp)) = req (0 <= a /\ a < ln /\ a.toNat + 1 <= cs.length) (.mk : Tg (K (cs.getD a.toNat .undef) σ)) := by
  rw[<-dK];simp[eG,bx.run,AX.ev,and_assoc]
def ldV(el:El)(o:Option aY)(m i off:Nat)(ag:Bool)(n:Nat){K:AV->Prop}(_:Tg K): Prop:=match o with
 | some (.dn _ bD xs)=>bD=el/\m=xs.length/\i<xs.length/\partOf el (xs.getD i .undef) off ag n K
 | _=>False
@[go_sem] def akd (ag:Bool) (K:AV->Prop):loadT σ ag n (.fG el l m i off) (.mk:Tg K)=ldV el (σ[l]?) m i off ag n (.mk:Tg K):=_root_.id rfl
@[go_sem] def aon (ag : Bool) (K : AV -> Prop) : ldV el (some (.vec el xs)) m i off ag n (.mk : Tg K) = req (m = xs.length /\ i < xs.length) (.mk : Tg (tL (off == 0 && n == el.sz && ag == el.ag) el (xs.getD i .undef) off ag n (.mk : Tg K))) := by
  rw[<-dK];simp only[ldV,tL,true_and,and_assoc]
@[go_sem] def af4 (off n : Nat) (cs : List AV) (K : AV -> Prop) (h : (off == 0 && n == el.sz && true == el.ag) = false) : tL false el (.agg cs) off true n (.mk : Tg K) = req (off + n <= el.sz) (.mk : Tg (K (.agg ((cs.drop off).take n)))) := by
  have hn:¬ (off=0/\n=el.sz/\true=el.ag):=by rintro⟨h1,h2,h3⟩;subst h1;subst h2;rw[<-h3]at h;simp at h
  rw[<-dK];simp only[tL,partOf,aj hn,h,true_and];simp
def stV(σ : ai)(el:El)(l:Nat)(o:Option aY)(m i off n:Nat)(v:AV){K:ai->Prop}(_:Tg K): Prop:=v.cells.length=n/\v.cells.all AV.scalar=true/\match o with
 | some (.dn T bD xs) => bD = el /\ m = xs.length /\ i < xs.length /\ off + n <= el.sz /\ (el.ag = false -> v.fits el = true) /\
    K (σ.set l (.dn T el (xs.set i (if el.ag then .agg (fM (xs.getD i .undef).cells off v.cells)else v))))
 | _=>False
@[go_sem] def ajw (v:AV) (K:ai->Prop):storeT σ n (.fG el l m i off) v (.mk:Tg K)=stV σ el l (σ[l]?) m i off n v (.mk:Tg K):=_root_.id rfl
@[go_sem] def aoo (v : AV) (K : ai -> Prop) : stV σ el l (some (.vec el xs)) m i off n v (.mk : Tg K) = req (v.cells.length = n /\ v.cells.all AV.scalar = true /\ m = xs.length /\ i < xs.length /\ off + n <= el.sz /\ (el.ag = false -> v.fits el = true)) (.mk : Tg (K (σ.set l (.vec el (xs.set i (if el.ag then .agg (fM (xs.getD i .undef).cells off v.cells) else v)))))) := by
  rw[<-dK];simp only[stV,true_and,and_assoc]
def Ws(σ : ai)(el:El)(o:Option aY)(l m lo n:Nat)(x y:Option AV){K:AV->ai->Prop}(_:Tg K): Prop:=match o with
 | some (.dn _ bN xs)=>bN=el/\m=xs.length/\lo+n<=m/\bound y n n fun h=>bound x 0 h fun k=>K (.own el l m (lo+k) (h-k)) σ
 | _=>False
@[go_sem] def ake (x y : Option AX) : eG P (.pC el (.c (.own el l m lo n)) x y) σ (.mk : Tg (K, Kp)) = Ws σ el (σ[l]?) l m lo n (x.map (AX.ev fun _ => .undef)) (y.map (AX.ev fun _ => .undef)) (.mk : Tg K) := by
  simp only[eG,bx.run,AX.ev,Ws,true_and];rfl
@[go_sem] def aop : Ws σ el (some (.vec el xs)) l m lo n none (some (.int k' b)) (.mk : Tg K) = req (m = xs.length /\ lo + n <= m /\ 0 <= b /\ b <= n) (.mk : Tg (K (.own el l m lo b.toNat) σ)) := by
  rw[<-dK];simp only[Ws,bound,and_assoc,true_and,eZ,Nat.sub_zero]
@[go_sem] def aoq : Ws σ el (some (.vec el xs)) l m lo n (some (.int k a)) none (.mk : Tg K) = req (m = xs.length /\ lo + n <= m /\ 0 <= a /\ a <= n) (.mk : Tg (K (.own el l m (lo + a.toNat) (n - a.toNat)) σ)) := by
  rw[<-dK];simp only[Ws,bound,and_assoc,true_and]
def Sg(o:Option aY)(m lo n:Nat){K:AV->Prop}(_:Tg K): Prop:=match o with
 | some (.dn _ el xs)=>el=⟨false,1⟩/\m=xs.length/\ ∃ s:List UInt8,(xs.drop lo).take n=s.map (fun b=>AV.int .u8 b.toNat)/\K (.str s)
 | _=>False
@[go_sem] def Ye : eG P (.yX (.c (.own ⟨false, 1⟩ l m lo n))) σ (.mk : Tg (K, Kp)) = Sg (σ[l]?) m lo n (.mk : Tg fun v => K v σ) := by
  simp only[eG,bx.run,AX.ev,gN,Sg,true_and];rfl
def Yf{K:AV->Prop}{xs:List AV}{m n:Nat}(s:List UInt8)(hx:xs=s.map fun b=>AV.int .u8 b.toNat)(hm:m=xs.length)(hn:n=xs.length)(hk:K (.str s)): Sg (some (.vec ⟨false,1⟩ xs)) m 0 n (.mk:Tg K) :=
 ⟨rfl,hm,s,by rw[hn,<-hx];simp,hk⟩
@[go_sem] def ahc (t : TypeId) (c : UInt8) : eG P (.app (some t) ⟨false, 1⟩ (.c .aV) (.c (.str (c :: s)))) σ (.mk : Tg (K, Kp)) = req (gH (s.length + 1) ⟨false, 1⟩) (.mk : Tg (K (.own ⟨false, 1⟩ σ.length (s.length + 1) 0 (s.length + 1)) (σ ++ [.dn (some t) ⟨false, 1⟩ ((c :: s).map fun b => .int .u8 b.toNat)]))) := by
  rw[<-dK];have h:((c::s).map fun b=>AV.int .u8 b.toNat).all (fun a=>a.fits ⟨false,1⟩)=true:=by simp[AV.fits]
  simp only[eG,bx.run,AX.ev,oY,gN,true_and,h,cZ,aO,Nat.add_eq_zero_iff,Nat.one_ne_zero,and_false,if_false]
@[go_sem] def af5 (T : Option TypeId) : eG P (.app T ⟨false, 1⟩ (.c .aV) (.c (.str []))) σ (.mk : Tg (K, Kp)) = K .aV σ := by
  simp[eG,bx.run,AX.ev,oY,gN]
@[go_sem] def Sh (T : Option TypeId) : eG P (.app T ⟨false, 1⟩ (.c (.own ⟨false, 1⟩ l m lo n)) (.c (.str s))) σ (.mk : Tg (K, Kp)) = FO σ T ⟨false, 1⟩ (σ[l]?) l m lo n (s.map fun b => .int .u8 b.toNat) (.mk : Tg K) := by
  have:((s.map fun b=>AV.int .u8 b.toNat).all fun a=>a.fits ⟨false,1⟩)=true:=by simp[AV.fits]
  simp only[eG,bx.run,AX.ev,oY,gN,FO,true_and,this];rfl
def rq(ng:Bool)(acc:Bool)(ks:List Kd)(xs ys:List AV){K:AV->Prop}(_:Tg K): Prop:=match jc ks xs ys with
 | some c=>K (.bool (if ng then !(acc && c)else acc && c))
 | none=>False
def ada(acc:Bool)(K:AV->Prop): rq false acc [] [] [] (.mk:Tg K)=K (.bool acc):=by simp[rq,jc]
def aaH(acc:Bool)(K:AV->Prop): rq true acc [] [] [] (.mk:Tg K)=K (.bool (!acc)):=by simp[rq,jc]
def FR(ng acc c:Bool)(kd:Kd)(x y:AV)(ks:List Kd)(xs ys:List AV)(K:AV->Prop)(h:Rx kd x y=some c): rq ng acc (kd::ks) (x::xs) (y::ys) (.mk:Tg K)=rq ng (acc && c) ks xs ys (.mk:Tg K):=by
 simp only[rq,jc,h];cases jc ks xs ys<;>simp[Bool.and_assoc]
attribute [go_sem] ada aaH
@[go_sem] def aor (ng acc:Bool) (ks:List Kd) (xs ys:List AV) (K:AV->Prop):rq ng acc (.i::ks) (.int k a::xs) (.int k b::ys) (.mk:Tg K)=rq ng (acc && (a==b)) ks xs ys (.mk:Tg K):=FR _ _ _ _ _ _ _ _ _ _ (by simp[Rx])
@[go_sem] def aos (ng acc:Bool) (ks:List Kd) (xs ys:List AV) (K:AV->Prop):rq ng acc (.s::ks) (.str s::xs) (.str t::ys) (.mk:Tg K)=rq ng (acc && (s==t)) ks xs ys (.mk:Tg K):=FR _ _ _ _ _ _ _ _ _ _ rfl
@[go_sem] def aot (ng acc p q:Bool) (ks:List Kd) (xs ys:List AV) (K:AV->Prop):rq ng acc (.b::ks) (.bool p::xs) (.bool q::ys) (.mk:Tg K)=rq ng (acc && (p==q)) ks xs ys (.mk:Tg K):=FR _ _ _ _ _ _ _ _ _ _ rfl
@[go_sem] def alb (ng : Bool) (ks : List Kd) (xs ys : List AV) : eG P (.nw ng true ks (.c (.agg xs)) (.c (.agg ys))) σ (.mk : Tg (K, Kp)) = rq ng true ks xs ys (.mk : Tg fun v => K v σ) := by
  rw[ac4];simp only[rq];cases jc ks xs ys<;>simp
@[go_sem] def alc (ng : Bool) (ks : List Kd) (x y : AV) : eG P (.nw ng false ks (.c x) (.c y)) σ (.mk : Tg (K, Kp)) = rq ng true ks [x] [y] (.mk : Tg fun v => K v σ) := by
  rw[ac5];simp only[rq];cases jc ks [x] [y]<;>simp
def adb(ng:Bool)(o:Option Bool){K:AV->Prop}(_:Tg K): Prop:=match o with
 | some c=>K (.bool (if ng then !c else c))
 | none=>False
@[go_sem] def aou (c:Bool) (K:AV->Prop):adb false (some c) (.mk:Tg K)=K (.bool c):=_root_.id rfl
@[go_sem] def aov (c:Bool) (K:AV->Prop):adb true (some c) (.mk:Tg K)=K (.bool (!c)):=_root_.id rfl
@[go_sem] def ald (ng : Bool) (kn : NK) (x y : AV) : eG P (.n_ ng kn (.c x) (.c y)) σ (.mk : Tg (K, Kp)) = adb ng (pH kn x y) (.mk : Tg fun v => K v σ) := by
  rw[ac3];rfl
end
def ade{l:Nat}{c r:dL}{Q:AQ}{e:Env}{σ : ai}(h:jD P c (uJ l (fun _ _=>False) Q) e σ): R_ P (.mk:Tg (l,c,r,Q,e,σ)) :=
 ⟨fun _ _ _=>False,Dp (fun ex e σ hq=>by cases ex<;>first|exact hq|exact hq.2.elim) _ _ h,fun _ _ _ h=>h.elim⟩
@[go_sem ↓] def ale (l:Nat) (J:Env->ai->Prop) (Q:AQ) (e:Env) (σ : ai):uJ l J Q .ret e σ = Q .ret e σ:=_root_.id rfl
@[go_sem ↓] def ajx (l:Nat) (J:Env->ai->Prop) (Q:AQ) (v:AV) (e:Env) (σ : ai):uJ l J Q (.panic v) e σ = Q (.panic v) e σ:=_root_.id rfl
@[go_sem] def Qv {α : Type} (τ : List α) (c : α):(τ++[c])[τ.length]? = some c:=aQ
def adf{ms ms':List Nat}{r e e':Env}(hs:ms'.all (fun t=>ms.contains t)=true)(h:FP ms e e'): FP ms e (LA ms' r e'):=fun t ht=>by
 simp only[LA];split
 ·rename_i h1;rw[bf]at hs;have:=hs t (by simpa using h1);rw[ht]at this;cases this
 exact h t ht
@[go_sem ↓] def ahY (e:Env):q_ [] e=True:=_root_.id rfl
@[go_sem ↓] def ahd (x y:AX) (r:List (AX × AX)) (e:Env):q_ ((x,y)::r) e=(sP (x.ev e) (y.ev e)/\q_ r e):=_root_.id rfl
@[go_sem] def alf (el:El) (x:AV) (o:Nat) (q:AV):sP (.fh el x o) q=True:=by simp[sP,AV.obj]
@[go_sem] def alg (l k a b:Nat):sP (.ref l a) (.ref k b)=(l≠k):=by simp only[sP,AV.obj,Option.some.injEq];exact propext ⟨fun h e=>h l rfl e.symm,fun h x e1 e2=>h (e1.trans e2.symm)⟩
section
variable {α β : Type} (a b c : α) (l m:List α) (f : α-> β) (n:Nat)
def ahZ: (a::l)[0]? = some a:=_root_.id rfl
def ah0: (a::l)[n+1]? = l[n]?:=_root_.id rfl
def ah1: (a::l).set 0 b=b::l:=_root_.id rfl
def ah2: (a::l).set (n+1) b=a::l.set n b:=_root_.id rfl
def af6: (a::l).getD 0 b=a:=_root_.id rfl
def af7: (a::l).getD (n+1) b=l.getD n b:=_root_.id rfl
def ah3: (a::l).length=l.length+1:=_root_.id rfl
def ah4: ([]:List α).length=0:=_root_.id rfl
def af8: l.drop 0=l:=_root_.id rfl
def af9: (a::l).drop (n+1)=l.drop n:=_root_.id rfl
def af_: l.take 0=[]:=_root_.id rfl
def aga: (a::l).take (n+1)=a::l.take n:=_root_.id rfl
def ah5: (a::l).map f=f a::l.map f:=_root_.id rfl
def ah6: ([]:List α).map f=[]:=_root_.id rfl
def ah7: (a::l)++m=a::(l++m):=_root_.id rfl
def ah8: []++m=m:=_root_.id rfl
def ah9: l++[]=l:=bZ l
def ah_: List.replicate 0 a=[]:=_root_.id rfl
def aia: List.replicate (n+1) a=a::List.replicate n a:=_root_.id rfl
end
def agb(cs:List AV)(i:Nat): fM cs i []=cs:=by cases cs<;>exact _root_.id rfl
def agc(cs:List AV)(i:Nat)(a:AV)(l:List AV): fM cs i (a::l)=fM (cs.set i a) (i+1) l:=by cases cs<;>exact _root_.id rfl
def adg(cs:List AV): (AV.agg cs).cells=cs:=_root_.id rfl
def adh(k:IntKind)(n:Int): (AV.int k n).cells=[.int k n]:=_root_.id rfl
def adi(b:Bool): (AV.bool b).cells=[.bool b]:=_root_.id rfl
def adj(s:List UInt8): (AV.str s).cells=[.str s]:=_root_.id rfl
def adk(f:Bool)(el:El)(xs:List AV): (AV.aR f el xs).cells=[.aR f el xs]:=_root_.id rfl
def adl: AV.aV.cells=[.aV]:=_root_.id rfl
def adn(el:El)(l m lo n:Nat): (AV.own el l m lo n).cells=[.own el l m lo n]:=_root_.id rfl
def ado(l o:Nat): (AV.ref l o).cells=[.ref l o]:=_root_.id rfl
def aib(l o:Nat): pH .p (.ref l o) .gO=some false:=_root_.id rfl
def aic: pH .p .gO .gO=some true:=_root_.id rfl
def agd(n m:Nat)(l:List Nat): (n::l).contains m=(m==n || l.contains m):=List.contains_cons
def age(m:Nat): ([]:List Nat).contains m=false:=_root_.id rfl
def adp: (true==false)=false:=_root_.id rfl
def adq: (false==true)=false:=_root_.id rfl
def getD_map{α : Type}[Inhabited α](f : α->AV)(l:List α)(i:Nat)(h:i<l.length): (l.map f).getD i .undef=f (l.getD i default):=by
 rw[aq,aq,fP,aG h];rfl
section
variable (e:Env) (σ : ai) (K Kp:AV->ai->Prop)
def JK(x:AV)(σ : ai){K:AV->ai->Prop}(_:Tg K): Prop:=match x with
 | .str s=>K (.ref σ.length 0) (σ++[.jA s 0])
 | _=>False
@[go_sem ↓] def amw (x : AX) : bx.run P (.Jj x) e σ K Kp = JK (x.ev e) σ (.mk : Tg K) := by
  simp only[bx.run,JK];rfl
@[go_sem] def aow (s:List UInt8):JK (.str s) σ (.mk:Tg K)=K (.ref σ.length 0) (σ++[.jA s 0]):=_root_.id rfl
def Yg(x:AV)(σ : ai){K:AV->ai->Prop}(_:Tg K): Prop:=match x with
 | .ref l 0 => match σ[l]? with
   | some (.jA s pos) =>
     if pos<s.length then K (.bU [.bool true,.int .i64 pos,.int .i32 (Utf8.decode ⟨s.toArray⟩ pos).1]) (σ.set l (.jA s (pos+(Utf8.decode ⟨s.toArray⟩ pos).2)))
     else K (.bU [.bool false]) σ
   | _=>False
 | _=>False
@[go_sem ↓] def amx (x : AX) : bx.run P (.Jk x) e σ K Kp = Yg (x.ev e) σ (.mk : Tg K) := by
  simp only[bx.run,Yg];rfl
def FT (o : Option aY) (l : Nat) (σ : ai) {K : AV -> ai -> Prop} (_ : Tg K) : Prop := match o with
    | some (.jA s pos) =>
      if pos<s.length then K (.bU [.bool true,.int .i64 pos,.int .i32 (Utf8.decode ⟨s.toArray⟩ pos).1]) (σ.set l (.jA s (pos+(Utf8.decode ⟨s.toArray⟩ pos).2)))
      else K (.bU [.bool false]) σ
    | _=>False
@[go_sem] def aox (l : Nat) : Yg (.ref l 0) σ (.mk : Tg K) = FT (σ[l]?) l σ (.mk : Tg K) := by
  simp only[Yg,FT]
@[go_sem] def amy (l : Nat) (s : List UInt8) (pos : Nat) (h : s.length <= pos) : FT (some (.jA s pos)) l σ (.mk : Tg K) = K (.bU [.bool false]) σ := by
  simp only[FT];rw[aj ae]
def Wt (l : Nat) (s : List UInt8) (pos : Nat) (h : pos < s.length) : FT (some (.jA s pos)) l σ (.mk : Tg K) =
    K (.bU [.bool true,.int .i64 pos,.int .i32 (Utf8.decode ⟨s.toArray⟩ pos).1]) (σ.set l (.jA s (pos+(Utf8.decode ⟨s.toArray⟩ pos).2))):=by
 simp only[FT];rw[au h]
@[go_sem] def akf (l:Nat) (s:List UInt8) (pos:Nat) (h:pos<s.length) (ha:(s.getD pos 0).toNat<128):FT (some (.jA s pos)) l σ (.mk:Tg K) =
 K (.bU [.bool true,.int .i64 pos,.int .i32 (s.getD pos 0).toNat]) (σ.set l (.jA s (pos+1))):=by
  rw[Wt _ _ _ _ _ h,decode_ascii h ha]
@[go_sem] def alh (l:Nat) (s:List UInt8) (pos:Nat) (h:pos<s.length) (ha:128<=(s.getD pos 0).toNat):FT (some (.jA s pos)) l σ (.mk:Tg K) =
 K (.bU [.bool true,.int .i64 pos,.int .i32 (JJ s pos:Nat)]) (σ.set l (.jA s (pos+(Utf8.decode ⟨s.toArray⟩ pos).2))):=by
  rw[Wt _ _ _ _ _ h];rfl
end
def dP(P:Program)(c:dL)(rs:List pO)(args:List AV)(σ : ai)(R:Out->ai->Prop): Prop :=
 ∀ Q:AQ,(∀ e σ,Q .ret e σ = mu e σ rs fun vs=>R (.ret (oneOf vs)) σ)->(∀ e σ,Q .normal e σ = mu e σ rs fun vs=>R (.ret (oneOf vs)) σ)->(∀ v e σ,Q (.panic v) e σ = R (.panic v) σ)->jD P c Q (ld args) σ
def dP.go{c:dL}{rs:List pO}{args:List AV}{σ : ai}{R:Out->ai->Prop}(h:dP P c rs args σ R): jD P c (JE rs R) (ld args) σ :=
 h _ (fun _ _=>rfl) (fun _ _=>rfl) (fun _ _ _=>rfl)
@[go_sem ↓] def ali (e:Env) (σ : ai) (t:Nat) (ag:Bool) (n:Nat) (r:List pO) (K:List AV->Prop):mu e σ (.cell t ag n::r) K=loadT σ ag n (e t) (.mk:Tg fun v=>jS v (.mk:Tg fun v=>mu e σ r fun vs=>K (v::vs))):=_root_.id rfl
def afl{p K:Prop}(h:p)(hk:K): req p (.mk:Tg K):=⟨h,fun _=>hk⟩
def cn{σ : ai}{a b:AV}{vs rs:List AV}(h:a::b::vs=rs)(hp:AV.cG rs=true): ∃ r0,Out.ret (oneOf (a::b::vs))=Out.ret r0/\View σ r0 (.bU rs):=⟨_,rfl,by subst h;exact .refl _ hp⟩
def Ao{σ : ai}{v r:AV}(hv:View σ v r): ∃ r0,Out.ret (oneOf [v])=Out.ret r0/\View σ r0 r:=⟨_,rfl,hv⟩
def gW{σ : ai}{a b:AV}{vs rs:List AV}(hv:cY σ (a::b::vs) rs): ∃ r0,Out.ret (oneOf (a::b::vs))=Out.ret r0/\View σ r0 (.bU rs):=⟨_,rfl,View.ac7 hv⟩
def View.eqv{σ : ai}{a b:AV}(h:a=b)(hp:b.dy=true): View σ a b:=by subst h;exact .refl _ hp
def aZ{σ : ai}{v r:AV}(h:v=r)(hp:r.dy=true): ∃ r0,Out.ret (oneOf [v])=Out.ret r0/\View σ r0 r:=⟨_,rfl,.eqv h hp⟩
def LD {r : AV} {sO ds : List AV} {τ : ai} (hv : r = .bU []) (hd : cY (.dead :: τ) sO ds) :
    ∃ r0 VO Si,Out.ret (oneOf [])=Out.ret r0/\aY.cells sO:: τ = aY.cells VO::Si/\View (.dead::Si) r0 r/\cY (.dead::Si) VO ds:=⟨_,_,_,rfl,rfl,.eqv hv.symm (by subst hv;rfl),hd⟩
end Go.AM
namespace Go.AM
variable {P:Program}
@[go_sem ↓] def amA (K Kp:AV->ai->Prop) (r:AV) (σ : ai):Nh K Kp (.ret r) σ = K r σ:=_root_.id rfl
section
variable {σ : ai} {K Kp:AV->ai->Prop} {l m n lo off:Nat} {cs xs:List AV} {el:El} {T:Option TypeId}
def akg(h : σ[l]? = some (.bY T cs))(hlt:off<cs.length)(hk:K (.ref l off) σ): eG P (.KX (.c (.ref l off))) σ (.mk:Tg (K,Kp)):=ahR _ _ _ _ _ _ h hlt hk
def akh{t u:TypeId}(h : σ[l]? = some (.bY (some t) cs))(hlt:liesAt P P.depth t (cs.length / P.cellsOf t) off u 1=true)(hk:K (.ref l off) σ): eG P (.KY u (.c (.ref l off))) σ (.mk:Tg (K,Kp)):=ahS _ _ _ _ _ _ h hlt hk
def aki{ng:Bool}(h : σ[l]? = some (.bY T cs))(hk:K (.bool ng.not) σ): eG P (.Il ng (.c (.ref l off)) (.c (.ref l off))) σ (.mk:Tg (K,Kp)):=ahT _ _ _ _ _ _ ng h hk
def akj(h : σ[l]? = some (.dn T el xs))(hm:m=xs.length)(hn:0<n)(hk:K (.fG el l m lo 0) σ): eG P (.Ep el (.c (.own el l m lo n))) σ (.mk:Tg (K,Kp)):=Ya _ _ _ _ _ _ _ _ h hm hn hk
def agf(el:El): eG P (.Ep el (.c .aV)) σ (.mk:Tg (K,Kp))=K .gO σ:=_root_.id rfl
def adr(t:TypeId): eG P (.y3 t (.c .gO) (.c (.int .i64 0))) σ (.mk:Tg (K,Kp))=K (.str []) σ:=UM _ _ _ t
attribute [go_sem] agf adr
def aid {t : TypeId} {a : Int} (s : List UInt8) (h : σ[l]? = some (.dn (some t) ⟨false, 1⟩ xs)) (hm : m = xs.length) (hx : xs = s.map fun b => .int .u8 b.toNat) (h0 : s ≠ []) (h2 : s.length <= 2^62) (ha : a = (s.length : Int)) (hk : K (.str s) (σ.set l .dead)) :
    eG P (.y3 t (.c (.fG ⟨false,1⟩ l m 0 0)) (.c (.int .i64 a))) σ (.mk:Tg (K,Kp)):=UN _ _ _ _ _ _ s h hm hx h0 h2 ha hk
def agh {g : FuncId} {v : AV} (h : ∃ fn, P.funcs[g]? = some fn ∧ (fn.name == "runtime.NumGoroutine") = false ∧ fn.body.isNone = true ∧ Extern.findNext fn = none ∧ Extern.find fn = some Extern.AbiNoEscape.same) (hk : K v σ) : aaA P g v σ (.mk : Tg K) := ⟨h, hk⟩
end
@[go_sem] def amB (sz off : Nat) (cs : List AV) (K : AV -> Prop) : tL false ⟨true, sz⟩ (.agg cs) off false 1 (.mk : Tg K) = req (off + 1 <= sz) (.mk : Tg (K (cs.getD off .undef))) := by
  rw[afW _ _ _ _ _ aQ];simp[req]
section
variable {α : Type} (ρ τ : List α) (c d x : α)
@[go_sem] def an6:(ρ++c:: τ)[ρ.length]? = some c:=aQ
@[go_sem] def an7:(ρ++c::d:: τ)[ρ.length+1]? = some d:=by rw[bp ae];simp
@[go_sem] def an8:(ρ++c:: τ).set ρ.length x = ρ++x:: τ:=aQ
@[go_sem] def an9:(ρ++c::d:: τ).set (ρ.length+1) x = ρ++c::x:: τ:=by rw[dY _ _ ae];simp
end
def afm(P:Program)(n:FuncId)(args:List AV)(σ : ai){K:AV->ai->Prop}(_:Tg K): Prop:=Ht P n args σ K
def afn(P:Program)(f:AV)(args:List AV)(σ : ai){K:AV->ai->Prop}(_:Tg K): Prop:=match f with
 | .fn (.func n) [] []=>Ht P n args σ K
 | _=>False
@[go_sem ↓] def amC {e:Env} {σ : ai} {K Kp:AV->ai->Prop} (f:AX) (args:List AX):bx.run P (.tV f args) e σ K Kp=afn P (f.ev e) (args.map (AX.ev e)) σ (.mk:Tg K):=_root_.id rfl
@[go_sem] def an_ {σ : ai} {K:AV->ai->Prop} (n:FuncId) (args:List AV):afn P (.fn (.func n) [] []) args σ (.mk:Tg K)=afm P n args σ (.mk:Tg K):=_root_.id rfl
def Nn {n : FuncId} {k off : Nat} {args cs ds : List AV} {r : AV} {σ : ai} {K : AV -> ai -> Prop} (h : ei P n off args cs ds r) (iE : σ[k]? = some (.cells cs)) (hk : jS r (.mk : Tg fun r => tK (σ.set k (.cells ds)) (.mk : Tg fun σ => K r σ))) :
    afm P n (.ref k off::args) σ (.mk:Tg K):=⟨k,_,.cells ds,r,rfl,iE,trivial,h σ k iE,hk⟩
def Np {n : FuncId} {k off : Nat} {args cs : List AV} {r : AV} {σ : ai} {K Kp : AV -> ai -> Prop} (h : ei P n off args cs cs r) (iE : σ[k]? = some (.cells cs)) (hk : jS r (.mk : Tg fun r => K r σ)) :
    Al P n (.ref k off::args) σ (.mk:Tg (K,Kp)):=by
 have same:∀ s:ai,s[k]? = some (.cells cs)->s.set k (.cells cs)=s:=fun s hs=>by
  refine jy fun i=>?_;by_cases hi:k=i
  ·subst hi;rw[uM hs,hs]
  rw[aF hi]
 refine⟨r,fun τ=>?_,hk⟩;have hs:(σ++ τ)[k]? = some (.cells cs):=by rw[aI (aE.1 iE).1];exact iE
 exact(h (σ++ τ) k hs).mono fun o s ⟨h1,h2⟩=>⟨h1,h2.trans (same _ hs)⟩
attribute [go_sem] Int.tdiv_eq_ediv_of_nonneg Int.tmod_eq_emod_of_nonneg ahZ ah0 ah1 ah2 af6 af7 ah3 ah4 af8 af9 af_ aga ah5 ah6 ah7 ah8 ah9 ah_ aia agb agc adg adh adi adj adk adl adn ado aib aic agd age adp adq getD_map Bool.or_false Bool.or_true Bool.true_or Bool.false_or beq_self_eq_true Bool.and_true Bool.true_and Bool.and_false Bool.false_and Int.toNat_natCast Int.toNat_natCast_add_one Int.toNat_zero List.length_map List.length_append Nat.zero_add Bool.not_true Bool.not_false
attribute [simp] AV.fits AV.scalar AV.cells q_ sP AV.obj gH
end Go.AM
namespace Go.Proofs.YtoldfccfpameeaaGreatDoor
open Go.AM
set_option maxRecDepth 10000
end Go.Proofs.YtoldfccfpameeaaGreatDoor
namespace Go.AM.W
structure Of (P:Program) (n:FuncId) (k:Nat) (rs:List pO) (b:dL):Prop where
 go:∀ {az:List AV} {σ : ai} {R:Out->ai->Prop},dP P b rs az σ R->(hl:az.length<=k:=by simp)->cE P n az σ R
def of_ {P : Program} {n : FuncId} {fn : Func} {k : Nat} {rs : List pO} {b : dL} (h : Hints) (hf : P.funcs[n]? = some fn) (hn : (fn.name == "runtime.NumGoroutine") = false := by kernel_rfl) (hc : zb P h fn = some ⟨k, rs, b⟩ := by kernel_rfl) : Of P n k rs b := ⟨fun hw hl => cE.of_wp hf hn hc hl hw.go⟩
def of0 {P : Program} {n : FuncId} {fn : Func} {k : Nat} {rs : List pO} {b : dL} (hf : P.funcs[n]? = some fn) (hn : (fn.name == "runtime.NumGoroutine") = false := by kernel_rfl) (hc : zb P {} fn = some ⟨k, rs, b⟩ := by kernel_rfl) : Of P n k rs b := of_ {} hf hn hc
def cpN(P:Program)(n:FuncId)(h:Hints): Option X7:=match P.funcs[n]? with
 | some f => if f.name == "runtime.NumGoroutine" then none else zb P h f
 | none=>none
def bF{P:Program}{n:FuncId}{k:Nat}{rs:List pO}{b:dL}(h:Hints:= {})(hc:cpN P n h=some ⟨k,rs,b⟩:=by kernel_rfl): Of P n k rs b:=by
 unfold cpN at hc;split at hc
 ·rename_i f hf;split at hc
  ·cases hc
  rename_i hn;exact of_ h hf (by simpa using hn) hc
 ·cases hc
def _root_.Go.AM.a_{P:Program}{f:FuncId}{k:Nat}{rs:List pO}{c:dL}{az:List AV}{r:AV}(ho:Of P f k rs c)(h:∀ Q:AQ,(∀ e σ,Q .ret e σ = mu e σ rs fun vs=> ∃ r0,Out.ret (oneOf vs) = .ret r0/\View σ r0 r)->(∀ e σ,Q .normal e σ = mu e σ rs fun vs=> ∃ r0,Out.ret (oneOf vs) = .ret r0/\View σ r0 r)->(∀ v e σ,Q (.panic v) e σ = ∃ r0,Out.panic v = .ret r0/\View σ r0 r)->jD P c Q (ld az) [])(hp:AV.cG az=true:=by first|rfl|(simp;done)|(simp[AV.dy,AV.cG];done))(hl:az.length<=k:=by simp): aS P f az r:=aS.Yc (ho.go h hl) hp
abbrev t(n:Nat): AX:= .t n
abbrev gB(b:Bool)(n:Nat)(z:AV)(m:Nat)(l:List (Nat × AX))(d:Nat): c_:=⟨.mj false ⟨b,n⟩ z m l,some d,none⟩
abbrev gU(z:List AV)(l:List (Nat × Nat × AX))(d:Nat): c_:=⟨.build z l,some d,none⟩
abbrev gI(b:Bool)(n a:Nat)(k:Int)(d:Nat): c_:=⟨.fA ⟨b,n⟩ none (.t a) (.c (.int .i64 k)),some d,none⟩
abbrev gA(b:Bool)(n x y:Nat)(d:Nat): c_:=⟨.app none ⟨b,n⟩ (.t x) (.t y),some d,none⟩
abbrev gF(d:Nat): c_:=⟨.mv (.c (.bool false)),some d,none⟩
abbrev gT(d:Nat): c_:=⟨.mv (.c (.bool true)),some d,none⟩
abbrev gJ(n:Int): AX:= .c (.int .i64 n)
abbrev gS(s:List UInt8): AX:= .c (.str s)
abbrev gR(a:List c_)(n:Nat)(b:List c_)(x:dL): dL:= .seq (.seq (.region a) (.cond (.t n) (.seq (.region b) .ret) .skip)) x
abbrev gL(i:Nat)(a:List c_)(n:Nat)(x:dL): dL:= .block i (.loop (.seq (.seq (.region a) (.cond (.t n) .skip (.exit i))) x))
abbrev bC(o:bx)(d:Nat): c_:=⟨o,some d,none⟩
abbrev i6(n:Int): AV:= .int .i64 n
abbrev z0: AV:= .int .i64 0
abbrev e0: AV:= .str []
abbrev ie: List AV:=[z0,z0,e0]
abbrev jP: List AV:=[z0,z0,z0,e0,e0,.aV]
abbrev uN: List AV:=[e0,z0,.aV,z0,.aV,.aV]
abbrev uO: List AV:=[z0,e0,z0,z0,z0]
abbrev vB: List AV:=[z0,z0,e0,e0]
abbrev vC: List AV:=[z0,e0,z0]
abbrev wZ: List AV:=[.bool false,.bool false,.aV]
abbrev w5: List AV:=[e0,.aV,.aV,z0,z0,.aV]
abbrev x7: List AV:=[.aV,.aV]
abbrev ze: List AV:=[z0,.aV,.aV]
abbrev Bf: List AV:=[z0,e0,z0,z0]
abbrev Bg: List AV:=[e0,z0,.aV]
abbrev Dr: List AV:=[z0,z0,z0,z0,e0,e0,.aV,z0,z0,z0,e0,e0,.aV,.bool false,.bool false]
abbrev JL: List AV:=[e0,.aV,.aV,z0,z0,.aV,.aV]
abbrev ads: List AV:=[(.int .u32 0),(.int .u32 0),(.int .u32 0),(.int .u32 0),(.int .u32 0),(.int .u32 0),(.int .u32 0),(.int .u32 0),(.int .u32 0),(.int .u32 0),(.int .u32 0),(.int .u32 0),(.int .u32 0),(.int .u32 0),(.int .u32 0),(.int .u32 0),(.int .u32 0),(.int .u32 0),(.int .u32 0),(.int .u32 0),(.int .u32 0),(.int .u32 0),(.int .u32 0),(.int .u32 0),(.int .u32 0),(.int .u32 0),(.int .u32 0),(.int .u32 0),(.int .u32 0),(.int .u32 0),(.int .u32 0),(.int .u32 0),(.int .u32 0),(.int .u32 0),(.int .u32 0),(.int .u32 0),(.int .u32 0),(.int .u32 0),(.int .u32 0),(.int .u32 0),(.int .u32 0),(.int .u32 0),(.int .u32 0),(.int .u32 0),(.int .u32 0),(.int .u32 0),(.int .u32 0),(.int .u32 0),(.int .u32 0),(.int .u32 0),(.int .u32 0),(.int .u32 0),(.int .u32 0),(.int .u32 0),(.int .u32 0),(.int .u32 0),(.int .u32 0),(.int .u32 0),(.int .u32 0),(.int .u32 0),(.int .u32 0),(.int .u32 0),(.int .u32 0),(.int .u32 0)]
abbrev adt: List AV:=[.bool false,.bool false]
abbrev aie: List AV:=[(.int .u32 0),(.int .u32 0),(.int .u32 0),(.int .u32 0),(.int .u32 0),(.int .u32 0),(.int .u32 0),(.int .u32 0)]
abbrev R(l:List c_): dL:= .region l
abbrev r(l:List c_)(b:dL): dL:= .seq (.region l) b
abbrev q(a b:dL): dL:= .seq a b
abbrev c(n:Nat)(a b:dL): dL:= .cond (.t n) a b
abbrev k: dL:= .skip
abbrev M(a:Nat)(d:Nat): c_:=⟨.mv (.t a),some d,none⟩
abbrev MT(a:Nat)(d k:Nat): c_:=⟨.mv (.t a),some d,some (k,true)⟩
abbrev MF(a:Nat)(d k:Nat): c_:=⟨.mv (.t a),some d,some (k,false)⟩
abbrev V(a:AV)(d:Nat): c_:=⟨.mv (.c a),some d,none⟩
abbrev L(n a:Nat)(d:Nat): c_:=⟨.load true n (.t a),some d,none⟩
abbrev LT(n a:Nat)(d k:Nat): c_:=⟨.load true n (.t a),some d,some (k,true)⟩
abbrev LF(n a:Nat)(d k:Nat): c_:=⟨.load true n (.t a),some d,some (k,false)⟩
abbrev K(a:Nat)(d:Nat): c_:=⟨.load false 1 (.t a),some d,none⟩
abbrev KT(a:Nat)(d k:Nat): c_:=⟨.load false 1 (.t a),some d,some (k,true)⟩
abbrev KF(a:Nat)(d k:Nat): c_:=⟨.load false 1 (.t a),some d,some (k,false)⟩
abbrev B(o:BinOp)(a b:Nat)(d:Nat): c_:=⟨.bin o (.t a) (.t b),some d,none⟩
abbrev BT(o:BinOp)(a b:Nat)(d k:Nat): c_:=⟨.bin o (.t a) (.t b),some d,some (k,true)⟩
abbrev BF(o:BinOp)(a b:Nat)(d k:Nat): c_:=⟨.bin o (.t a) (.t b),some d,some (k,false)⟩
abbrev D(o:BinOp)(a:Nat)(b:Int)(d:Nat): c_:=⟨.bin o (.t a) (.c (.int .i64 b)),some d,none⟩
abbrev DT(o:BinOp)(a:Nat)(b:Int)(d k:Nat): c_:=⟨.bin o (.t a) (.c (.int .i64 b)),some d,some (k,true)⟩
abbrev DF(o:BinOp)(a:Nat)(b:Int)(d k:Nat): c_:=⟨.bin o (.t a) (.c (.int .i64 b)),some d,some (k,false)⟩
abbrev A(n a:Nat)(d:Nat): c_:=⟨.rT n (.t a),some d,none⟩
abbrev AT(n a:Nat)(d k:Nat): c_:=⟨.rT n (.t a),some d,some (k,true)⟩
abbrev AF(n a:Nat)(d k:Nat): c_:=⟨.rT n (.t a),some d,some (k,false)⟩
abbrev P(a b:Nat)(d:Nat): c_:=⟨.pick (.t a) (.t b) (.c (.bool false)),some d,none⟩
abbrev PT(a b:Nat)(d k:Nat): c_:=⟨.pick (.t a) (.t b) (.c (.bool false)),some d,some (k,true)⟩
abbrev PF(a b:Nat)(d k:Nat): c_:=⟨.pick (.t a) (.t b) (.c (.bool false)),some d,some (k,false)⟩
abbrev O(a b:Nat)(d:Nat): c_:=⟨.pick (.t a) (.c (.bool true)) (.t b),some d,none⟩
abbrev OT(a b:Nat)(d k:Nat): c_:=⟨.pick (.t a) (.c (.bool true)) (.t b),some d,some (k,true)⟩
abbrev S(a:Nat)(d:Nat): c_:=⟨.len true (.t a),some d,none⟩
abbrev ST(a:Nat)(d k:Nat): c_:=⟨.len true (.t a),some d,some (k,true)⟩
abbrev SF(a:Nat)(d k:Nat): c_:=⟨.len true (.t a),some d,some (k,false)⟩
abbrev N(a:Nat)(d:Nat): c_:=⟨.len false (.t a),some d,none⟩
abbrev NT(a:Nat)(d k:Nat): c_:=⟨.len false (.t a),some d,some (k,true)⟩
abbrev NF(a:Nat)(d k:Nat): c_:=⟨.len false (.t a),some d,some (k,false)⟩
abbrev I(b:Bool)(n a c:Nat)(d:Nat): c_:=⟨.fA ⟨b,n⟩ none (.t a) (.t c),some d,none⟩
abbrev IT(b:Bool)(n a c:Nat)(d k:Nat): c_:=⟨.fA ⟨b,n⟩ none (.t a) (.t c),some d,some (k,true)⟩
abbrev IF(b:Bool)(n a c:Nat)(d k:Nat): c_:=⟨.fA ⟨b,n⟩ none (.t a) (.t c),some d,some (k,false)⟩
abbrev E(a n:Nat)(d:Nat): c_:=⟨.ext (.t a) n,some d,none⟩
abbrev ET(a n:Nat)(d k:Nat): c_:=⟨.ext (.t a) n,some d,some (k,true)⟩
abbrev Z(a:Nat)(d:Nat): c_:=⟨.tG (.t a),some d,none⟩
abbrev ZT(a:Nat)(d k:Nat): c_:=⟨.tG (.t a),some d,some (k,true)⟩
abbrev ZF(a:Nat)(d k:Nat): c_:=⟨.tG (.t a),some d,some (k,false)⟩
abbrev X(a:Nat)(d:Nat): c_:=⟨.box (.t a),some d,none⟩
abbrev U(a:Nat)(d:Nat): c_:=⟨.un .not (.t a),some d,none⟩
abbrev UT(a:Nat)(d k:Nat): c_:=⟨.un .not (.t a),some d,some (k,true)⟩
abbrev UF(a:Nat)(d k:Nat): c_:=⟨.un .not (.t a),some d,some (k,false)⟩
abbrev J(l:List AV)(d:Nat): c_:=⟨.alloc none l,some d,none⟩
abbrev C(f:FuncId)(l:List AX)(d:Nat): c_:=⟨.call false (.c (.fn (.func f) [] [])) l,some d,none⟩
abbrev CT(f:FuncId)(l:List AX)(d k:Nat): c_:=⟨.call false (.c (.fn (.func f) [] [])) l,some d,some (k,true)⟩
abbrev CF(f:FuncId)(l:List AX)(d k:Nat): c_:=⟨.call false (.c (.fn (.func f) [] [])) l,some d,some (k,false)⟩
abbrev Q(f:FuncId)(l:List AX)(d:Nat): c_:=⟨.call true (.c (.fn (.func f) [] [])) l,some d,none⟩
abbrev QT(f:FuncId)(l:List AX)(d k:Nat): c_:=⟨.call true (.c (.fn (.func f) [] [])) l,some d,some (k,true)⟩
abbrev QF(f:FuncId)(l:List AX)(d k:Nat): c_:=⟨.call true (.c (.fn (.func f) [] [])) l,some d,some (k,false)⟩
abbrev W(n a b:Nat): c_:=⟨.store n (.t a) (.t b),none,none⟩
