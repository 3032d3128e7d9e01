/- Part. -/
import Derived.Test.YtoldfccfpameeaaGreatDoorV04
import Derived.Test.YtoldfccfpameeaaGreatDoorChecked
import Derived.KernelRfl
set_option linter.all false
namespace Go.AM
variable {P:Program}
section
variable (e:Env) (σ : ai) (K Kp:AV->ai->Prop)
def C1(o:Option aX)(off:Nat)(ag:Bool)(n:Nat){K:AV->Prop}(_:Tg K): Prop:=match o with
 | some (.bV _ cs)=>off+n<=cs.length/\(ag=false->n=1)/\K (if ag then .agg ((cs.drop off).take n)else cs.getD off .undef)
 | _=>False
@[go_sem] def akp (ag:Bool) (n l off:Nat) (K:AV->Prop):loadT σ ag n (.ref l off) (.mk:Tg K)=C1 (σ[l]?) off ag n (.mk:Tg K):=_root_.id rfl
@[go_sem] def am3 (cs : List AV) (off n : Nat) (K : AV -> Prop) : C1 (some (.cells cs)) off false n (.mk : Tg K) = req (off + n <= cs.length /\ n = 1) (.mk : Tg (K (cs.getD off .undef))) := by
  rw[<-dH];simp[C1,and_assoc]
@[go_sem] def am4 (cs : List AV) (off n : Nat) (K : AV -> Prop) : C1 (some (.cells cs)) off true n (.mk : Tg K) = req (off + n <= cs.length) (.mk : Tg (K (.agg ((cs.drop off).take n)))) := by
  rw[<-dH];simp[C1]
@[go_sem] def alE (T : TypeId) (cs : List AV) (off n : Nat) (K : AV -> Prop) : C1 (some (.bV (some T) cs)) off false n (.mk : Tg K) = req (off + n <= cs.length /\ n = 1) (.mk : Tg (K (cs.getD off .undef))) := by
  rw[<-dH];simp[C1,and_assoc]
def Fh(σ : ai)(l:Nat)(o:Option aX)(off n:Nat)(v:AV){K:ai->Prop}(_:Tg K): Prop:=v.cells.length=n/\v.cells.all AV.scalar=true/\match o with
 | some (.bV T cs)=>off+n<=cs.length/\K (σ.set l (.bV T (fD cs off v.cells)))
 | _=>False
@[go_sem] def aju (n l off:Nat) (v:AV) (K:ai->Prop):storeT σ n (.ref l off) v (.mk:Tg K)=Fh σ l (σ[l]?) off n v (.mk:Tg K):=_root_.id rfl
@[go_sem] def alF (l : Nat) (cs : List AV) (off n : Nat) (v : AV) (K : ai -> Prop) : Fh σ l (some (.cells cs)) off n v (.mk : Tg K) = req (v.cells.length = n /\ v.cells.all AV.scalar = true /\ off + n <= cs.length) (.mk : Tg (K (σ.set l (.cells (fD cs off v.cells))))) := by
  rw[<-dH];simp[Fh,and_assoc]
@[go_sem] def akq (l : Nat) (T : TypeId) (cs : List AV) (off n : Nat) (v : AV) (K : ai -> Prop) : Fh σ l (some (.bV (some T) cs)) off n v (.mk : Tg K) = req (v.cells.length = n /\ v.cells.all AV.scalar = true /\ off + n <= cs.length) (.mk : Tg (K (σ.set l (.bV (some T) (fD cs off v.cells))))) := by
  rw[<-dH];simp[Fh,and_assoc]
def eE(P:Program)(o:bA)(σ : ai){K Kp:AV->ai->Prop}(_:Tg (K,Kp)): Prop:=o.run P (fun _=> .undef) σ K Kp
@[go_sem ↓] def akr (off:Nat) (x:AX):bA.run P (.rP off x) e σ K Kp=eE P (.rP off (.c (x.ev e))) σ (.mk:Tg (K,Kp)):=_root_.id rfl
@[go_sem ↓] def aks (x:AX):bA.run P (.tq x) e σ K Kp=eE P (.tq (.c (x.ev e))) σ (.mk:Tg (K,Kp)):=_root_.id rfl
@[go_sem ↓] def akt (ag:Bool) (off n:Nat) (x:AX):bA.run P (.field ag off n x) e σ K Kp=eE P (.field ag off n (.c (x.ev e))) σ (.mk:Tg (K,Kp)):=_root_.id rfl
@[go_sem ↓] def aku (el:El) (arr:Option Nat) (x i:AX):bA.run P (.ff el arr x i) e σ K Kp=eE P (.ff el arr (.c (x.ev e)) (.c (i.ev e))) σ (.mk:Tg (K,Kp)):=_root_.id rfl
@[go_sem ↓] def alG (x i:AX):bA.run P (.oR x i) e σ K Kp=eE P (.oR (.c (x.ev e)) (.c (i.ev e))) σ (.mk:Tg (K,Kp)):=_root_.id rfl
@[go_sem ↓] def alH (el:El) (n:Nat) (x i:AX):bA.run P (.yG el n x i) e σ K Kp=eE P (.yG el n (.c (x.ev e)) (.c (i.ev e))) σ (.mk:Tg (K,Kp)):=_root_.id rfl
@[go_sem ↓] def alI (k:IntKind) (x:AX):bA.run P (.jW k x) e σ K Kp=eE P (.jW k (.c (x.ev e))) σ (.mk:Tg (K,Kp)):=_root_.id rfl
@[go_sem ↓] def am5 (x:AX):bA.run P (.yE x) e σ K Kp=eE P (.yE (.c (x.ev e))) σ (.mk:Tg (K,Kp)):=_root_.id rfl
@[go_sem ↓] def aiR (el:El) (z:AV) (x i:AX):bA.run P (.oS el z x i) e σ K Kp=eE P (.oS el z (.c (x.ev e)) (.c (i.ev e))) σ (.mk:Tg (K,Kp)):=_root_.id rfl
@[go_sem ↓] def akv (x:AX):bA.run P (.panic x) e σ K Kp=eE P (.panic (.c (x.ev e))) σ (.mk:Tg (K,Kp)):=_root_.id rfl
@[go_sem] def alJ (T:TypeId) (v:AV):eE P (.panic (.c (.kR T v))) σ (.mk:Tg (K,Kp))=Kp (.kR T v) σ:=_root_.id rfl
@[go_sem ↓] def am6 (T:Option TypeId) (el:El) (x i:AX):bA.run P (.app T el x i) e σ K Kp=eE P (.app T el (.c (x.ev e)) (.c (i.ev e))) σ (.mk:Tg (K,Kp)):=_root_.id rfl
@[go_sem ↓] def am7 (ng ag:Bool) (ks:List Kd) (x i:AX):bA.run P (.nK ng ag ks x i) e σ K Kp=eE P (.nK ng ag ks (.c (x.ev e)) (.c (i.ev e))) σ (.mk:Tg (K,Kp)):=_root_.id rfl
@[go_sem ↓] def akw (ng:Bool) (k:NK) (x i:AX):bA.run P (.pH ng k x i) e σ K Kp=eE P (.pH ng k (.c (x.ev e)) (.c (i.ev e))) σ (.mk:Tg (K,Kp)):=_root_.id rfl
@[go_sem ↓] def am8 (el:El) (x:AX):bA.run P (.DW el x) e σ K Kp=eE P (.DW el (.c (x.ev e))) σ (.mk:Tg (K,Kp)):=_root_.id rfl
@[go_sem ↓] def alK (T:TypeId) (x i:AX):bA.run P (.yH T x i) e σ K Kp=eE P (.yH T (.c (x.ev e)) (.c (i.ev e))) σ (.mk:Tg (K,Kp)):=_root_.id rfl
@[go_sem ↓] def am9 (x:AX):bA.run P (.J9 x) e σ K Kp=eE P (.J9 (.c (x.ev e))) σ (.mk:Tg (K,Kp)):=_root_.id rfl
@[go_sem ↓] def am_ (u:TypeId) (x:AX):bA.run P (.J_ u x) e σ K Kp=eE P (.J_ u (.c (x.ev e))) σ (.mk:Tg (K,Kp)):=_root_.id rfl
@[go_sem ↓] def ana (ng:Bool) (x i:AX):bA.run P (.HL ng x i) e σ K Kp=eE P (.HL ng (.c (x.ev e)) (.c (i.ev e))) σ (.mk:Tg (K,Kp)):=_root_.id rfl
def cO(e:Env): Option AX->Option AX
 | none=>none
 | some x=>some (.c (x.ev e))
@[go_sem] def anb:cO e none=none:=_root_.id rfl
@[go_sem] def anc (x:AX):cO e (some x)=some (.c (x.ev e)):=_root_.id rfl
@[go_sem ↓] def ane (x : AX) (lo hi : Option AX) : bA.run P (.yF x lo hi) e σ K Kp = eE P (.yF (.c (x.ev e)) (cO e lo) (cO e hi)) σ (.mk : Tg (K, Kp)) := by
  cases lo<;>cases hi<;>rfl
@[go_sem ↓] def anf (el : El) (x : AX) (lo hi : Option AX) : bA.run P (.pz el x lo hi) e σ K Kp = eE P (.pz el (.c (x.ev e)) (cO e lo) (cO e hi)) σ (.mk : Tg (K, Kp)) := by
  cases lo<;>cases hi<;>rfl
variable (k k':IntKind) (a b:Int) (s t:List UInt8) (el:El) (xs cs:List AV) (l m lo n off i:Nat) (f:Bool)
@[go_sem] def ahc:eE P (.rP off (.c (.ref l i))) σ (.mk:Tg (K,Kp))=K (.ref l (i+off)) σ:=_root_.id rfl
@[go_sem] def agC (x:AV):eE P (.rP off (.c (.eY el x i))) σ (.mk:Tg (K,Kp))=K (.eY el x (i+off)) σ:=_root_.id rfl
@[go_sem] def ahd:eE P (.tq (.c (.ref l i))) σ (.mk:Tg (K,Kp))=K (.ref l i) σ:=_root_.id rfl
@[go_sem] def ajv : eE P (.field false off n (.c (.agg cs))) σ (.mk : Tg (K, Kp)) = req (off + n <= cs.length /\ n = 1) (.mk : Tg (K (cs.getD off .undef) σ)) := by
  rw[<-dH];simp[eE,bA.run,AX.ev,and_assoc]
@[go_sem] def ahe : eE P (.ff el none (.c (.aS f el xs)) (.c (.int k a))) σ (.mk : Tg (K, Kp)) = req (0 <= a /\ a < xs.length) (.mk : Tg (K (.eY el (xs.getD a.toNat .undef) 0) σ)) := by
  rw[<-dH];simp[eE,bA.run,AX.ev,and_assoc]
@[go_sem] def ang : eE P (.oR (.c (.str s)) (.c (.int k a))) σ (.mk : Tg (K, Kp)) = req (0 <= a /\ a < s.length) (.mk : Tg (K (.int .u8 (s.getD a.toNat 0).toNat) σ)) := by
  rw[<-dH];simp[eE,bA.run,AX.ev,and_assoc]
@[go_sem] def anh:eE P (.jW k (.c (.int k' a))) σ (.mk:Tg (K,Kp))=K (.int k (di k a)) σ:=_root_.id rfl
def toNat_le{a:Int}{n:Nat}(h:0<=a): (a<=((n:Nat):Int))=(a.toNat<=n):=by simp only[eq_iff_iff];omega
@[go_sem] def akx : eE P (.yF (.c (.str s)) none (some (.c (.int k' b)))) σ (.mk : Tg (K, Kp)) = req (0 <= b /\ b <= s.length) (.mk : Tg (K (.str (s.take b.toNat)) σ)) := by
  rw[<-dH];simp only[eE,bA.run,AX.ev,bound,Option.map,and_assoc,eU,jm]
@[go_sem] def aky : eE P (.yF (.c (.str s)) (some (.c (.int k a))) none) σ (.mk : Tg (K, Kp)) = req (0 <= a /\ a <= s.length) (.mk : Tg (K (.str (s.drop a.toNat)) σ)) := by
  rw[<-dH];simp only[eE,bA.run,AX.ev,bound,Option.map,and_assoc];have:(s.drop a.toNat).take (s.length-a.toNat)=s.drop a.toNat:=bH aR;rw[this]
def pP(P:Program)(n:FuncId)(args:List AV)(σ : ai){K Kp:AV->ai->Prop}(_:Tg (K,Kp)): Prop:=cK P n args σ (Mv K Kp)
def zW(P:Program)(n:FuncId)(args:List AV)(σ : ai){K Kp:AV->ai->Prop}(_:Tg (K,Kp)): Prop:= ∃ r,(∀ τ,kK P n args (σ++ τ) r)/\K r σ
@[go_sem] def ani (n : FuncId) (first args cap : List AV) : G7 P false (.fn (.func n) first cap) args σ (.mk : Tg (K, Kp)) = pP P n (first ++ args ++ cap) σ (.mk : Tg (K, Kp)) := by
  simp[G7,pP]
@[go_sem] def anj (n : FuncId) (first args cap : List AV) : G7 P true (.fn (.func n) first cap) args σ (.mk : Tg (K, Kp)) = zW P n (first ++ args ++ cap) σ (.mk : Tg (K, Kp)) := by
  simp[G7,zW]
def VD{n:FuncId}{args:List AV}{σ : ai}{K Kp:AV->ai->Prop}{r:AV}(h:∀ σ,kK P n args σ r)(hk:kj r (.mk:Tg fun r=>K r σ)): pP P n args σ (.mk:Tg (K,Kp)) :=
 (h σ).mono fun o s ⟨h1,h2⟩=>by subst h1;subst h2;exact hk
def VE{n:FuncId}{args:List AV}{σ : ai}{K Kp:AV->ai->Prop}{r:AV}(h:∀ σ,kK P n args σ r)(hk:kj r (.mk:Tg fun r=>K r σ)): zW P n args σ (.mk:Tg (K,Kp)):=⟨r,fun τ=>h _,hk⟩
def bS{n:FuncId}{args:List AV}{σ : ai}{K Kp:AV->ai->Prop}{R:Out->ai->Prop}(h:cK P n args σ R)(hk:∀ o s,R o s->Mv K Kp o s): pP P n args σ (.mk:Tg (K,Kp)):=h.mono hk
def Fi: List AV->List (Nat × Nat × AV)->(List AV->Prop)->Prop
 | z,[],K=>K z
 | z,(off,n,v)::r,K=>v.cells.length=n/\v.cells.all AV.scalar=true/\off+n<=z.length/\Fi (fD z off v.cells) r K
def Fj(z:List AV)(ps:List (Nat × Nat × AV)){K:List AV->Prop}(_:Tg K): Prop:=Fi z ps K
def Oh(e:Env)(K:List AV->Prop): ∀(ps:List (Nat × Nat × AX)) (z:List AV),nA z e ps K=Fi z (ps.map fun p=>(p.1,p.2.1,p.2.2.ev e)) K
 | [],z=>rfl
 |(off,n,x)::r,z=>by simp only[nA,Fi,bB,Oh e K r]
@[go_sem ↓] def run_build (z:List AV) (ps:List (Nat × Nat × AX)):bA.run P (.build z ps) e σ K Kp=Fj z (ps.map fun p=>(p.1,p.2.1,p.2.2.ev e)) (.mk:Tg fun cs=>K (.agg cs) σ):=Oh e _ ps z
@[go_sem] def ajw (z:List AV) (K:List AV->Prop):Fj z [] (.mk:Tg K)=K z:=_root_.id rfl
@[go_sem] def aiS (z : List AV) (off n : Nat) (v : AV) (r : List (Nat × Nat × AV)) (K : List AV -> Prop) : Fj z ((off, n, v) :: r) (.mk : Tg K) = req (v.cells.length = n /\ v.cells.all AV.scalar = true /\ off + n <= z.length) (.mk : Tg (Fj (fD z off v.cells) r (.mk : Tg K))) := by
  rw[<-dH];simp only[Fj,Fi,and_assoc]
def BH(el:El): List AV->List (Nat × AV)->(List AV->Prop)->Prop
 | z,[],K=>K z
 | z,(i,v)::r,K=>v.fits el=true/\i<z.length/\BH el (z.set i v) r K
def BI(el:El)(z:List AV)(ps:List (Nat × AV)){K:List AV->Prop}(_:Tg K): Prop:=BH el z ps K
def KI(el:El)(e:Env)(K:List AV->Prop): ∀(ps:List (Nat × AX)) (z:List AV),mC el z e ps K=BH el z (ps.map fun p=>(p.1,p.2.ev e)) K
 | [],z=>rfl
 |(i,x)::r,z=>by simp only[mC,BH,bB,KI el e K r]
@[go_sem ↓] def ahf (el:El) (z:AV) (n:Nat) (ps:List (Nat × AX)):bA.run P (.l9 false el z n ps) e σ K Kp=BI el (List.replicate n z) (ps.map fun p=>(p.1,p.2.ev e)) (.mk:Tg fun xs=>K (.aS true el xs) σ):=KI el e _ ps _
@[go_sem] def aiT (z:List AV) (K:List AV->Prop):BI el z [] (.mk:Tg K)=K z:=_root_.id rfl
@[go_sem] def ahg (z : List AV) (i : Nat) (v : AV) (r : List (Nat × AV)) (K : List AV -> Prop) : BI el z ((i, v) :: r) (.mk : Tg K) = req (v.fits el = true /\ i < z.length) (.mk : Tg (BI el (z.set i v) r (.mk : Tg K))) := by
  rw[<-dH];simp only[BI,BH,and_assoc]
def tC(c:Bool)(el:El)(x:AV)(off:Nat)(ag:Bool)(n:Nat){K:AV->Prop}(_:Tg K): Prop:=c=(off==0 && n==el.sz && ag==el.ag)/\partOf el x off ag n K
@[go_sem] def ajx (ag : Bool) (n : Nat) (el : El) (x : AV) (off : Nat) (K : AV -> Prop) : loadT σ ag n (.eY el x off) (.mk : Tg K) = tC (off == 0 && n == el.sz && ag == el.ag) el x off ag n (.mk : Tg K) := by
  simp only[tC,true_and];rfl
@[go_sem] def ank (ag : Bool) (n : Nat) (x : AV) (K : AV -> Prop) : tC true ⟨ag, n⟩ x 0 ag n (.mk : Tg K) = K x := by
  simp[tC,partOf]
@[go_sem] def afo (el : El) (off n : Nat) (cs : List AV) (K : AV -> Prop) (h : (off == 0 && n == el.sz && false == el.ag) = false) : tC false el (.agg cs) off false n (.mk : Tg K) = req (off + n <= el.sz /\ n = 1) (.mk : Tg (K (cs.getD off .undef))) := by
  have hn:¬ (off=0/\n=el.sz/\false=el.ag):=by rintro⟨h1,h2,h3⟩;subst h1;subst h2;rw[<-h3]at h;simp at h
  rw[<-dH];simp only[tC,partOf,aj hn,h,true_and];simp only[aP,if_false,forall_const,eq_iff_iff];exact⟨fun⟨h1,h2,h3⟩=>⟨⟨h1,h3⟩,h2⟩,fun⟨⟨h1,h3⟩,h2⟩=>⟨h1,h2,h3⟩⟩
def Fk(σ : ai)(T:Option TypeId)(el:El)(o:Option aX)(l m lo n:Nat)(ys:List AV){K:AV->ai->Prop}(_:Tg K): Prop:=match o with
 | some (.dh T' bL xs) => (T' = none \/ T' = T) /\ bL = el /\ m = xs.length /\ lo = 0 /\ n = xs.length /\ gw (xs.length + ys.length) el /\
    K (.own el l (xs.length+ys.length) 0 (xs.length+ys.length)) (σ.set l (.dh T' el (xs++ys)))
 | _=>False
@[go_sem] def ajy (T : Option TypeId) (ys : List AV) : eE P (.app T el (.c (.own el l m lo n)) (.c (.aS f el ys))) σ (.mk : Tg (K, Kp)) = req (ys.all (fun a => a.fits el) = true) (.mk : Tg (Fk σ T el (σ[l]?) l m lo n ys (.mk : Tg K))) := by
  rw[<-dH];simp only[eE,bA.run,AX.ev,oT,gC,Fk,true_and];rfl
@[go_sem] def afp (T : Option TypeId) (xs ys : List AV) : Fk σ T el (some (.vec el xs)) l m lo n ys (.mk : Tg K) = req (m = xs.length /\ lo = 0 /\ n = xs.length /\ gw (xs.length + ys.length) el) (.mk : Tg (K (.own el l (xs.length + ys.length) 0 (xs.length + ys.length)) (σ.set l (.vec el (xs ++ ys))))) := by
  rw[<-dH];simp only[Fk,true_and,true_or,and_assoc]
@[go_sem] def alL (t : TypeId) (xs ys : List AV) : Fk σ (some t) el (some (.dh (some t) el xs)) l m lo n ys (.mk : Tg K) = req (m = xs.length /\ lo = 0 /\ n = xs.length /\ gw (xs.length + ys.length) el) (.mk : Tg (K (.own el l (xs.length + ys.length) 0 (xs.length + ys.length)) (σ.set l (.dh (some t) el (xs ++ ys))))) := by
  rw[<-dH];simp only[Fk,true_and,or_true,and_assoc]
def acv(σ : ai)(x:AV){K:AV->ai->Prop}(_:Tg K): Prop:=yK σ x K
def Xt(σ : ai)(el:El)(o:Option aX)(l m lo n:Nat){K:AV->ai->Prop}(_:Tg K): Prop:=match o with
 | some (.dh _ bE xs)=>bE=el/\m=xs.length/\lo+n<=m/\K (.aS false el ((xs.drop lo).take n)) (σ.set l .dead)
 | _=>False
@[go_sem ↓] def anl (x:AX) (e:Env):bA.run P (.ex .Za [x]) e σ K Kp=acv σ (x.ev e) (.mk:Tg K):=_root_.id rfl
@[go_sem] def alM : acv σ (.own el l m lo n) (.mk : Tg K) = Xt σ el (σ[l]?) l m lo n (.mk : Tg K) := by
  simp only[acv,yK,Xt];rfl
@[go_sem] def anm (T : Option TypeId) (xs : List AV) : Xt σ el (some (.dh T el xs)) l m 0 n (.mk : Tg K) = req (m = xs.length /\ n <= m) (.mk : Tg (K (.aS false el (xs.take n)) (σ.set l .dead))) := by
  rw[<-dH];simp only[Xt,true_and,eU,bJ,and_assoc]
@[go_sem] def ahh {α : Type} (f : α->AV) (L:List α):(L.map f).take L.length=L.map f:=by rw[<-dF (f:=f),gG]
@[go_sem] def aiU (y : AV) (ys : List AV) : eE P (.app none el (.c .aU) (.c (.aS f el (y :: ys)))) σ (.mk : Tg (K, Kp)) = req ((y :: ys).all (fun a => a.fits el) = true /\ gw (y :: ys).length el) (.mk : Tg (K (.own el σ.length (y :: ys).length 0 (y :: ys).length) (σ ++ [.vec el (y :: ys)]))) := by
  rw[<-dH];simp only[eE,bA.run,AX.ev,oT,gC,true_and,aO,Nat.add_eq_zero_iff,Nat.one_ne_zero,and_false,if_false,and_assoc]
@[go_sem] def ahi (t : TypeId) (y : AV) (ys : List AV) : eE P (.app (some t) el (.c .aU) (.c (.aS f el (y :: ys)))) σ (.mk : Tg (K, Kp)) = req ((y :: ys).all (fun a => a.fits el) = true /\ gw (y :: ys).length el) (.mk : Tg (K (.own el σ.length (y :: ys).length 0 (y :: ys).length) (σ ++ [.dh (some t) el (y :: ys)]))) := by
  rw[<-dH];simp only[eE,bA.run,AX.ev,oT,gC,true_and,aO,Nat.add_eq_zero_iff,Nat.one_ne_zero,and_false,if_false,and_assoc]
@[go_sem] def aiV (xs : List AV) (y : AV) (ys : List AV) (f' : Bool) : eE P (.app none el (.c (.aS true el xs)) (.c (.aS f' el (y :: ys)))) σ (.mk : Tg (K, Kp)) = req ((y :: ys).all (fun a => a.fits el) = true /\ gw (xs.length + (y :: ys).length) el) (.mk : Tg (K (.own el σ.length (xs.length + (y :: ys).length) 0 (xs.length + (y :: ys).length)) (σ ++ [.vec el (xs ++ y :: ys)]))) := by
  rw[<-dH];simp only[eE,bA.run,AX.ev,oT,gC,true_and,aO,Nat.add_eq_zero_iff,Nat.one_ne_zero,and_false,if_false,and_assoc]
def Xu{T:Option TypeId}{xs:List AV}(h : σ[l]? = some (.dh T el xs))(hm:m=xs.length)(hn:0<n)(hk:K (.fy el l m lo 0) σ): eE P (.DW el (.c (.own el l m lo n))) σ (.mk:Tg (K,Kp)):=by
 simp only[eE,bA.run,AX.ev,h];exact⟨trivial,trivial,hm,hn,hk⟩
def Uc(T:TypeId): eE P (.yH T (.c .ik) (.c (.int .i64 0))) σ (.mk:Tg (K,Kp))=K (.str []) σ:=by
 simp[eE,bA.run,AX.ev]
def Ud {T : TypeId} {xs : List AV} (s : List UInt8) (h : σ[l]? = some (.dh (some T) ⟨false, 1⟩ xs)) (hm : m = xs.length) (hx : xs = s.map fun b => .int .u8 b.toNat) (h0 : s ≠ []) (h2 : s.length <= 2 ^ 62) (ha : a = (s.length : Int)) (hk : K (.str s) (σ.set l .dead)) :
    eE P (.yH T (.c (.fy ⟨false,1⟩ l m 0 0)) (.c (.int .i64 a))) σ (.mk:Tg (K,Kp)):=by
 subst hx;subst ha;have h1:0<s.length:=iR.2 h0;simp only[eE,bA.run,AX.ev,h];refine⟨trivial,trivial,trivial,trivial,hm,ae,aR,by simpa using h2,s,?_,hk⟩;rw[bH aR]
def ahj{T:Option TypeId}(h : σ[l]? = some (.bV T cs))(hlt:off<cs.length)(hk:K (.ref l off) σ): eE P (.J9 (.c (.ref l off))) σ (.mk:Tg (K,Kp)):=by
 simp only[eE,bA.run,AX.ev,h];exact⟨hlt,hk⟩
def ahk{T u:TypeId}(h : σ[l]? = some (.bV (some T) cs))(hlt:liesAt P P.depth T (cs.length / P.cellsOf T) off u 1=true)(hk:K (.ref l off) σ): eE P (.J_ u (.c (.ref l off))) σ (.mk:Tg (K,Kp)):=by
 simp only[eE,bA.run,AX.ev,h];exact⟨hlt,hk⟩
def ahl{T:Option TypeId}(ng:Bool)(h : σ[l]? = some (.bV T cs))(hk:K (.bool ng.not) σ): eE P (.HL ng (.c (.ref l off)) (.c (.ref l off))) σ (.mk:Tg (K,Kp)):=by
 simp only[eE,bA.run,AX.ev,h];exact⟨trivial,trivial,hk⟩
def Z3 (P : Program) (g : FuncId) (v : AV) (σ : ai) {K : AV → ai → Prop} (_ : Tg K) : Prop := (∃ fn, P.funcs[g]? = some fn ∧ (fn.name == "runtime.NumGoroutine") = false ∧ fn.body.isNone = true ∧ Extern.findNext fn = none ∧ Extern.find fn = some Extern.AbiNoEscape.same) ∧ K v σ
@[go_sem ↓] def akz (g:FuncId) (x:AX):bA.run P (.GV g x) e σ K Kp=Z3 P g (x.ev e) σ (.mk:Tg K):=_root_.id rfl
def acw(ng:Bool)(k:NK)(x y:AV): eE P (.pH ng k (.c x) (.c y)) σ (.mk:Tg (K,Kp))=(match pG k x y with|some b=>K (.bool (if ng then !b else b)) σ | none=>False):=rfl
def acy(ng:Bool)(ks:List Kd)(xs ys:List AV): eE P (.nK ng true ks (.c (.agg xs)) (.c (.agg ys))) σ (.mk:Tg (K,Kp))=(match jc ks xs ys with|some b=>K (.bool (if ng then !b else b)) σ | none=>False):=rfl
def acz(ng:Bool)(ks:List Kd)(x y:AV): eE P (.nK ng false ks (.c x) (.c y)) σ (.mk:Tg (K,Kp))=(match jc ks [x] [y]with|some b=>K (.bool (if ng then !b else b)) σ | none=>False):=rfl
@[go_sem] def ajz (z : AV) : eE P (.oS el z (.c (.int .i64 a)) (.c (.int .i64 b))) σ (.mk : Tg (K, Kp)) = req (z.fits el = true /\ 0 <= a /\ a <= b /\ b * (el.sz + 1) <= 2 ^ 40) (.mk : Tg (K (.own el σ.length a.toNat 0 a.toNat) (σ ++ [.vec el (List.replicate a.toNat z)]))) := by
  rw[<-dH];simp only[eE,bA.run,AX.ev,and_assoc]
@[go_sem] def agD (xs : List AV) : eE P (.pz el (.c (.aS f el xs)) (some (.c (.int k a))) (some (.c (.int k' b)))) σ (.mk : Tg (K, Kp)) = req ((0 <= b /\ b <= xs.length) /\ 0 <= a /\ a <= b) (.mk : Tg (K (.aS false el ((xs.drop a.toNat).take (b.toNat - a.toNat))) σ)) := by
  rw[<-dH];simp only[eE,bA.run,AX.ev,bound,Option.map,and_assoc,true_and,eq_iff_iff];constructor
  ·rintro⟨h1,h2,h3,h4,h5⟩;exact⟨h1,h2,h3,ae,h5⟩
  rintro⟨h1,h2,h3,h4,h5⟩;exact⟨h1,h2,h3,ae,h5⟩
@[go_sem] def agE (xs : List AV) : eE P (.pz el (.c (.aS f el xs)) none (some (.c (.int k' b)))) σ (.mk : Tg (K, Kp)) = req (0 <= b /\ b <= xs.length) (.mk : Tg (K (.aS false el (xs.take b.toNat)) σ)) := by
  rw[<-dH];simp only[eE,bA.run,AX.ev,bound,Option.map,and_assoc,true_and,eU,jm]
@[go_sem] def agF (xs : List AV) : eE P (.pz el (.c (.aS f el xs)) (some (.c (.int k a))) none) σ (.mk : Tg (K, Kp)) = req (0 <= a /\ a <= xs.length) (.mk : Tg (K (.aS false el (xs.drop a.toNat)) σ)) := by
  rw[<-dH];simp only[eE,bA.run,AX.ev,bound,Option.map,and_assoc,true_and];have:(xs.drop a.toNat).take (xs.length-a.toNat)=xs.drop a.toNat:=bH aR;rw[this]
end
end Go.AM
namespace Go.AM
variable {P:Program}
def KJ(ms:List Nat)(r e:Env): Env:=fun t=>if ms.contains t then r t else e t
def puts: List (Nat × AV)->Env->Env
 | [],e=>e
 |(d,v)::l,e=>eP (puts l e) (some d) v
@[go_sem ↓] def acA (e:Env):puts [] e=e:=_root_.id rfl
@[go_sem ↓] def Z4 (d:Nat) (v:AV) (l:List (Nat × AV)) (e:Env):puts ((d,v)::l) e=eP (puts l e) (some d) v:=_root_.id rfl
@[go_sem ↓] def ano (ms:List Nat) (r e:Env) (t:Nat):KJ ms r e t=KH (ms.contains t) (.mk:Tg (r t,e t)):=_root_.id rfl
def Fl(ms:List Nat)(e e':Env): Prop:= ∀ t,ms.contains t=false->e' t=e t
def afq(ms:List Nat)(r e:Env): Fl ms e (KJ ms r e):=fun t h=>by simp only[KJ,h];rfl
def afr{ms:List Nat}{e e':Env}{d:Nat}{v:AV}(hd:ms.contains d=true)(h:Fl ms e e'): Fl ms e (eP e' (some d) v):=fun t ht=>by
 simp only[eP];split
 ·rename_i e1;subst e1;rw[hd]at ht;cases ht
 exact h t ht
def At(l:List (Nat × AV))(e:Env): Prop:= ∀ p ∈ l,e p.1=p.2
@[go_sem] def nC (e:Env):At [] e=True:=by simp[At]
@[go_sem] def lH (d:Nat) (v:AV) (l:List (Nat × AV)) (e:Env):At ((d,v)::l) e=(e d=v/\At l e):=by simp[At]
def VF{ms:List Nat}{e e':Env}(ho:Fl ms e e'): ∀(l:List (Nat × AV)),At l e'->puts l (KJ ms e' e)=e'
 | [], _ => by
   funext t
   simp only[puts,KJ];split
   ·rfl
   rename_i h;exact(ho t (by simpa using h)).symm
 | (d, v) :: l, h => by
   simp only[puts];rw[VF ho l (fun p hp=>h p (dm _ hp))];exact oG (h (d,v) aR)
def qx{Q Q':AQ}(h:∀ ex e σ,Q ex e σ->Q' ex e σ): ∀(l:List cW) (e:Env) (σ : ai),fh P Q l e σ->fh P Q' l e σ
 | [],e,σ,hh=>h _ _ _ hh
 |⟨o,d,none⟩::r,e,σ,hh=>tL (fun v s=>qx h r _ _) (fun v s=>h _ _ _) hh
 | ⟨o, d, some (k, b)⟩ :: r, e, σ, hh => by
   simp only[fh]at hh ⊢;split at hh
   ·exact⟨fun ht=>tL (fun v s=>qx h r _ _) (fun v s=>h _ _ _) (hh.1 ht),fun ht=>qx h r _ _ (hh.2 ht)⟩
   ·exact qx h r _ _ hh
   exact hh
def KL{K K':Env->ai->Prop}{Q Q':AQ}(hk:∀ e σ,K e σ->K' e σ)(h:∀ ex e σ,Q ex e σ->Q' ex e σ): ∀ ex e σ,mD K Q ex e σ->mD K' Q' ex e σ
 | .normal,_,_=>hk _ _
 | .exit _,_,_=>h _ _ _
 | .goto _,_,_=>h _ _ _
 | .ret,_,_=>h _ _ _
 | .panic _,_,_=>h _ _ _
def Z5{nt:Nat}{ps:List Nat}{ca cb:Code}{f:AV}{a b:AQ->Env->ai->Prop}{Q Q':AQ}(h:∀ ex e σ,Q ex e σ->Q' ex e σ)(e:Env)(σ : ai): Xj P nt ps ca cb f a b Q e σ->Xj P nt ps ca cb f a b Q' e σ:=by
 unfold Xj;split
 ·refine fun hh o ho hy=>(hh o ho hy).mono fun out s hq=>?_;cases out with
  | ret r =>
    obtain⟨st,pe,h1,h2,h3⟩:=hq;refine⟨st,pe,h1,h2,?_⟩;split at h3<;>first|exact h _ _ _ h3|exact h3
  | panic v=>exact h _ _ _ hq
 exact id
def Xv{kf:List (AX × AX)}{Q Q':AQ}(h:∀ ex e σ,Q ex e σ->Q' ex e σ): ∀ ex e σ,jK kf Q ex e σ->jK kf Q' ex e σ:=fun ex e σ hq=>by
 cases ex with
 | normal=>exact⟨hq.1,h _ _ _ hq.2⟩
 | panic v =>
   simp only[jK]at hq ⊢;split at hq
   ·rename_i hf;rw[au hf];exact fun e'=>h _ _ _ (hq e')
   rename_i hf;rw[aj hf];exact h _ _ _ hq
 | _=>exact h _ _ _ hq
def C2{c:dI}: ∀ {Q Q':AQ},(∀ ex e σ,Q ex e σ->Q' ex e σ)-> ∀(e:Env) (σ : ai),jF P c Q e σ->jF P c Q' e σ:=by
 induction c with
 | skip=>exact fun h e σ=>h _ _ _
 | region ops=>exact fun h e σ=>qx h ops e σ
 | draw ops kf=>exact fun h e σ=>qx (Xv h) ops e σ
 | seq a b ZY ZZ=>exact fun h e σ=>ZY (KL (fun e σ=>ZZ h e σ) h) e σ
 | cond c a b ZY ZZ =>
   intro Q Q' h e σ hh;simp only[jF]at hh ⊢;split at hh
   ·exact⟨fun ht=>ZY h _ _ (hh.1 ht),fun ht=>ZZ h _ _ (hh.2 ht)⟩
   exact hh
 | block id c ih =>
   intro Q Q' h e σ;refine ih (fun ex e σ hq=>?_) e σ;cases ex<;>try exact h _ _ _ hq
   simp only[uw]at hq ⊢;split at hq
   ·rename_i e1;rw[au e1];exact h _ _ _ hq
   rename_i e1;rw[aj e1];exact h _ _ _ hq
 | loop c ih =>
   rintro Q Q' h e σ ⟨I,hI,hr⟩;exact⟨I,hI,fun n e σ hi=>ih (KL (fun _ _ h=>h) h) _ _ (hr n e σ hi)⟩
 | exit id=>exact fun h e σ=>h _ _ _
 | ret=>exact fun h e σ=>h _ _ _
 | scope l c r Oi ihr =>
   rintro Q Q' h e σ ⟨J,h1,h2⟩
   have hj:∀ (J:Env->ai->Prop) ex e σ,ux l J Q ex e σ->ux l J Q' ex e σ:=fun J ex e σ hq=>by
    cases ex<;>first|exact h _ _ _ hq|exact hq
   exact⟨J,Oi (hj _) _ _ h1,fun n e σ hi=>ihr (hj _) _ _ (h2 n e σ hi)⟩
 | stop=>exact fun h e σ hh=>hh
 | pC f nt ps ca cb a b _ _=>exact fun h e σ=>Z5 h e σ
 | label l=>exact fun h e σ=>h _ _ _
 | goto l=>exact fun h e σ=>h _ _ _
def Z6{α : Type}(ms:List Nat)(cs : α->List (Nat × AV))(S : α->ai)(A : α->Prop)(μ : α->Nat)(e:Env)(x : α)(e':Env)(σ':ai): Prop :=
 ∃ x',A x'/\ μ x' < μ x/\σ'=S x'/\Fl ms e e'/\At (cs x') e'
def ahm {c : dI} {Q : AQ} {e : Env} {σ : ai} {α : Type} (ms : List Nat) (cs : α -> List (Nat × AV)) (S : α -> ai) (A : α -> Prop) (μ : α -> Nat) (x0 : α) (h0 : A x0) (iz : σ = S x0) (hat : At (cs x0) e)
    (hr:∀ x r,A x->jF P c (mD (Z6 ms cs S A μ e x) Q) (puts (cs x) (KJ ms r e)) (S x)):Xr P (.mk:Tg (c,Q,e,σ)):=by
 refine⟨fun n e' σ'=> ∃ x,A x/\Fl ms e e'/\At (cs x) e'/\σ'=S x/\ μ x=n,⟨_,x0,h0,fun _ _=>rfl,hat,iz,rfl⟩,?_⟩;rintro n e' σ' ⟨x1,a1,o1,t1,rfl,rfl⟩;have h:=hr x1 e' a1;rw[VF o1 _ t1]at h;refine C2 (fun ex e2 σ2 hq=>?_) _ _ h;cases ex<;>try exact hq
 obtain⟨x',a',hm,hs,ho,ht⟩:=hq;exact⟨_,hm,x',a',ho,ht,hs,rfl⟩
def zT: Nat->Nat->List Nat->List Nat
 | 0,_,l=>l
 | n+1,a,l=>a::zT n (a+1) l
def zX: List Nat->List Nat
 | a::n::l=>zT n a (zX l)
 | _=>[]
def bG {c : dI} {Q : AQ} {e : Env} {σ : ai} {α : Type} (ps : List Nat) {ms : List Nat} (cs : α -> List (Nat × AV)) (S : α -> ai) (A : α -> Prop) (μ : α -> Nat) (x0 : α) (h0 : A x0) (iz : σ = S x0) (hat : At (cs x0) e)
    (hr:∀ x r,A x->jF P c (mD (Z6 ms cs S A μ e x) Q) (puts (cs x) (KJ ms r e)) (S x)) (hm:zX ps=ms:=by simp only[zX,zT,Nat.reduceAdd];rfl):Xr P (.mk:Tg (c,Q,e,σ)):=ahm ms cs S A μ x0 h0 iz hat hr
end Go.AM
namespace Go.AM
variable {P:Program}
mutual
def AV.dy: AV->Bool
 | .own .. | .ref .. | .fy .. | .mp _ | .qR _ | .l7 ..=>false
 | .agg cs=>AV.cE cs
 | .bR cs=>AV.cE cs
 | .aS _ _ xs=>AV.cE xs
 | .eY _ x _=>AV.dy x
 | .fn _ a b=>AV.cE a && AV.cE b
 | .kR _ v=>AV.dy v
 | .undef | .bool _ | .int .. | .str _ | .aU | .ik | .oC | .jR | .iZ | .nT=>true
def AV.cE: List AV->Bool
 | []=>true
 | a::az=>AV.dy a && AV.cE az
end
def q9{l:List AV}: AV.cE l=true↔ ∀ a ∈ l,a.dy=true:=by
 induction l with
 | nil=>simp[AV.cE]
 | cons a l ih=>simp[AV.cE,ih]
def j6{l:List AV}(h:AV.cE l=true)(i:Nat): (l.getD i .undef).dy=true:=by
 rw[aq];by_cases hi:i<l.length
 ·rw[aG hi];exact q9.1 h _ (dK hi)
 rw[iy (ja hi)];rfl
def fN{α : Type}(f : α->AV)(l:List α)(h:∀ a,(f a).dy=true): AV.cE (l.map f)=true:=by
 rw[q9];intro a ha;obtain⟨x,_,rfl⟩:=dG.1 ha;exact h x
def I8{a:AV}(h:a.dy=true)(c:Nat): (a.cell c).dy=true:=by
 cases a<;>first|exact h|exact j6 h c
def VR.dy{g g':aN}{w w':World}(hi:∀ b,g.fE b->g'.fE b/\w'.heap[b]? = w.heap[b]?){a:AV}{v:Value}(h:VR g w a v): a.dy=true->VR g' w' a v:=by
 induction h with
 | undef v=>exact fun _=> .undef v
 | bool b=>exact fun _=> .bool b
 | int k n=>exact fun _=> .int k n
 | str s=>exact fun _=> .str s
 | agg cs vs hl hs _ ih=>exact fun hp=> .agg cs vs hl hs (fun i h=>ih i h (j6 hp i))
 | bR cs vs hl _ ih=>exact fun hp=> .bR cs vs hl (fun i h=>ih i h (j6 hp i))
 | aU=>exact fun _=> .aU
 | jd f el b cap hf=>exact fun _=> .jd f el b cap hf
 | aS f el xs b off cap hb hf hx ft hc _ ih =>
   intro hp;obtain⟨hi',he⟩:=hi b hb;refine .aS f el xs b off cap hi' hf hx ft (fun i c h1 h2=>?_) (fun i c h1 h2=>?_)
   ·rw[nP he];exact hc i c h1 h2
   rw[tj he];exact ih i c h1 h2 (I8 (j6 hp i) c)
 | own el l m lo n v h=>exact fun hp=>by cases hp
 | ref l off v h=>exact fun hp=>by cases hp
 | eY el x off b o hb ft hc _ ih =>
   intro hp;obtain⟨hi',he⟩:=hi b hb;refine .eY el x off b o hi' ft (fun c h2=>?_) (fun c h2=>?_)
   ·rw[nP he];exact hc c h2
   rw[tj he];exact ih c h2 (I8 (a:=x) hp c)
 | fy el l m i off v h=>exact fun hp=>by cases hp
 | ik=>exact fun _=> .ik
 | oC=>exact fun _=> .oC
 | jR=>exact fun _=> .jR
 | fn f first cap first' cap' hl hl' _ _ ih qH =>
   intro hp;simp only[AV.dy,aD]at hp;exact .fn f first cap first' cap' hl hl' (fun i h=>ih i h (j6 hp.1 i)) (fun i h=>qH i h (j6 hp.2 i))
 | kR t a v _ ih=>exact fun hp=> .kR t a v (ih hp)
 | iZ=>exact fun _=> .iZ
 | nT v h=>exact fun _=> .nT v h
 | mp l v h=>exact fun hp=>by cases hp
 | qR l v h=>exact fun hp=>by cases hp
 | l7 el l off n v h=>exact fun hp=>by cases hp
mutual
def AV.flat: AV->Bool
 | .agg cs=>AV.zY cs
 | .bR cs=>AV.zY cs
 | .undef | .bool _ | .int .. | .str _ | .aU | .ik | .oC | .jR | .iZ | .nT=>true
 | .aS _ _ []=>true
 | .kR _ a=>AV.flat a
 | _=>false
def AV.zY: List AV->Bool
 | []=>true
 | a::az=>AV.flat a && AV.zY az
end
def KM{l:List AV}(h:AV.zY l=true)(i:Nat): (l.getD i .undef).flat=true:=by
 induction l generalizing i with
 | nil=>simp[AV.flat]
 | cons a l ih =>
   simp only[AV.zY,aD]at h;cases i with
   | zero=>simpa using h.1
   | succ i=>simpa using ih h.2 i
def VR.flat{g g':aN}{w w':World}{a:AV}{v:Value}(h:VR g w a v): a.flat=true->VR g' w' a v:=by
 induction h with
 | undef v=>exact fun _=> .undef v
 | bool b=>exact fun _=> .bool b
 | int k n=>exact fun _=> .int k n
 | str s=>exact fun _=> .str s
 | agg cs vs hl hs _ ih=>exact fun hp=> .agg cs vs hl hs (fun i h=>ih i h (KM hp i))
 | bR cs vs hl _ ih=>exact fun hp=> .bR cs vs hl (fun i h=>ih i h (KM hp i))
 | aU=>exact fun _=> .aU
 | jd f el b cap hf=>exact fun _=> .jd f el b cap hf
 | aS f el xs b off cap hb hf hx ft hc _ ih =>
   intro hp;cases xs with
   | nil=>exact .jd f el _ cap hf
   | cons x xs=>simp[AV.flat]at hp
 | ik=>exact fun _=> .ik
 | oC=>exact fun _=> .oC
 | jR=>exact fun _=> .jR
 | iZ=>exact fun _=> .iZ
 | nT v h=>exact fun _=> .nT v h
 | kR t a v _ ih=>exact fun hp=> .kR t a v (ih hp)
 | own|ref|eY|fy|fn|mp|qR|l7=>exact fun hp=>by simp[AV.flat]at hp
inductive View (σ : ai):AV->AV->Prop where
 | refl (a:AV) (h:a.dy=true):View σ a a
 | aU (el:El):View σ .aU (.aS false el [])
 | weak (f:Bool) (el:El) (xs:List AV) (h:AV.cE xs=true):View σ (.aS f el xs) (.aS false el xs)
 | aS (f:Bool) (el:El) (xs ys:List AV) (hl:xs.length=ys.length) (h:∀ i,i<xs.length->View σ (xs.getD i .undef) (ys.getD i .undef)):View σ (.aS f el xs) (.aS false el ys)
 | own (T : Option TypeId) (el : El) (l lo n : Nat) (xs ys : List AV) (hl : σ[l]? = some (.dh T el xs)) (hy : ys.length = n) (hn : lo + n <= xs.length)
    (h:∀ i,i<n->View σ (xs.getD (lo+i) .undef) (ys.getD i .undef)):View σ (.own el l xs.length lo n) (.aS false el ys)
 | agg (cs ds:List AV) (hl:cs.length=ds.length) (h:∀ i,i<cs.length->View σ (cs.getD i .undef) (ds.getD i .undef)):View σ (.agg cs) (.agg ds)
 | bR (cs ds:List AV) (hl:cs.length=ds.length) (h:∀ i,i<cs.length->View σ (cs.getD i .undef) (ds.getD i .undef)):View σ (.bR cs) (.bR ds)
 | cell (l:Nat) (v:AV) (hl : σ[l]? = some (.cells [v])) (hs:v.fits ⟨false,1⟩=true) (hp:v.dy=true):View σ (.ref l 0) (.eY ⟨false,1⟩ v 0)
 | cells (l n:Nat) (cs:List AV) (hl : σ[l]? = some (.cells cs)) (hn:cs.length=n) (hp:AV.cE cs=true):View σ (.ref l 0) (.eY ⟨true,n⟩ (.agg cs) 0)
 | nT (a:AV) (l:Nat) (o:aX) (hl : σ[l]? = some o) (ho:o.live=true) (h:a.scalar=true):View σ a .nT
 | yS (l n:Nat) (cs ds:List AV) (hl : σ[l]? = some (.cells cs)) (hn:cs.length=n) (hd:cs.length=ds.length) (h:∀ i,i<cs.length->View σ (cs.getD i .undef) (ds.getD i .undef)):View σ (.ref l 0) (.eY ⟨true,n⟩ (.agg ds) 0)
 | fn (f : Fn) (az bs cs ds : List AV) (hl : az.length = bs.length) (h : ∀ i, i < az.length -> View σ (az.getD i .undef) (bs.getD i .undef))
    (hl':cs.length=ds.length) (h':∀ i,i<cs.length->View σ (cs.getD i .undef) (ds.getD i .undef)):View σ (.fn f az cs) (.fn f bs ds)
def cN(σ : ai)(cs ds:List AV): Prop:=cs.length=ds.length/\ ∀ i,i<cs.length->View σ (cs.getD i .undef) (ds.getD i .undef)
def cN.nil(σ : ai): cN σ [] []:=⟨rfl,fun _ h=>absurd h (c9 _)⟩
def cN.cons{σ : ai}{a b:AV}{cs ds:List AV}(h:View σ a b)(hs:cN σ cs ds): cN σ (a::cs) (b::ds) :=
 ⟨by simp [hs.1], fun i hi => by
   cases i with
   | zero=>simpa using h
   | succ i=>simpa using hs.2 i (by simpa using hi)⟩
def cN.refl{σ : ai}{cs:List AV}(h:AV.cE cs=true): cN σ cs cs:=⟨rfl,fun i _=> .refl _ (j6 h i)⟩
def View.nO{σ : ai}{cs ds:List AV}(h:cN σ cs ds): View σ (.agg cs) (.agg ds):= .agg cs ds h.1 h.2
def View.ahn{σ : ai}{cs ds:List AV}(h:cN σ cs ds): View σ (.bR cs) (.bR ds):= .bR cs ds h.1 h.2
def View.Mw{σ : ai}{f:Bool}{el:El}{xs ys:List AV}(h:cN σ xs ys): View σ (.aS f el xs) (.aS false el ys):= .aS f el xs ys h.1 h.2
def View.fnL{σ : ai}{f:Fn}{az bs cs ds:List AV}(h:cN σ az bs)(h':cN σ cs ds): View σ (.fn f az cs) (.fn f bs ds):= .fn f az bs cs ds h.1 h.2 h'.1 h'.2
def View.vec{σ : ai}{T:Option TypeId}{el:El}{l m n:Nat}{xs:List AV}(hl : σ[l]? = some (.dh T el xs))(hm:m=xs.length)(hn:n=xs.length)(h:AV.cE xs=true): View σ (.own el l m 0 n) (.aS false el xs):=by
 subst hm;subst hn;exact .own T el l 0 xs.length xs xs hl rfl ae (fun i _=>by rw[bJ];exact .refl _ (j6 h i))
def View.alN{σ : ai}{T:Option TypeId}{el:El}{l m n:Nat}{xs ys:List AV}(hl : σ[l]? = some (.dh T el xs))(hm:m=xs.length)(hn:n=xs.length)(h:cN σ xs ys): View σ (.own el l m 0 n) (.aS false el ys):=by
 subst hm;subst hn;exact .own T el l 0 xs.length xs ys hl h.1.symm ae (fun i hi=>by rw[bJ];exact h.2 i hi)
def View.scalar{σ : ai}{a b:AV}(h:View σ a b): b.scalar=a.scalar:=by
 cases h<;>first|rfl|skip
 case nT=>rename_i h;exact h.symm
def View.fits{σ : ai}{a b:AV}(h:View σ a b)(el:El)(hf:a.fits el=true): b.fits el=true:=by
 cases h with
 | agg cs ds hl h =>
   simp only[AV.fits,aD,aZ,beq_iff_eq]at hf ⊢;refine⟨⟨hf.1.1,by rw[<-hl];exact hf.1.2⟩,fun x hx=>?_⟩;obtain⟨i,hi,rfl⟩:=bP hx;have h1:=(h i ae).scalar;rw[aq,aq,aG hi,aG (by omega:i<cs.length)]at h1;rw[bO,bO]at h1;rw[h1];exact hf.2 _ (dK _)
 | refl=>exact hf
 | aU=>exact hf
 | weak=>exact hf
 | aS=>exact hf
 | own=>exact hf
 | bR=>exact hf
 | cell=>exact hf
 | cells=>exact hf
 | yS=>exact hf
 | nT _ l o hl ho h=>cases a<;>first|exact hf|(simp[AV.scalar]at h;done)
 | fn=>exact hf
def View.mono{σ σ':ai}(hs:∀ (l:Nat) o,σ[l]? = some o->σ'[l]? = some o){a b:AV}(h:View σ a b): View σ' a b:=by
 induction h with
 | refl a h=>exact .refl a h
 | aU el=>exact .aU el
 | weak f el xs h=>exact .weak f el xs h
 | aS f el xs ys hl _ ih=>exact .aS f el xs ys hl ih
 | own T el l lo n xs ys hl hy hn _ ih=>exact .own T el l lo n xs ys (hs _ _ hl) hy hn ih
 | agg cs ds hl _ ih=>exact .agg cs ds hl ih
 | bR cs ds hl _ ih=>exact .bR cs ds hl ih
 | cell l v hl h hp=>exact .cell l v (hs _ _ hl) h hp
 | cells l n cs hl hn hp=>exact .cells l n cs (hs _ _ hl) hn hp
 | yS l n cs ds hl hn hd h ih=>exact .yS l n cs ds (hs _ _ hl) hn hd ih
 | nT a l o hl ho h=>exact .nT a l o (hs _ _ hl) ho h
 | fn f az bs cs ds hl _ hl' _ ih qH=>exact .fn f az bs cs ds hl ih hl' qH
def I9 {g g' : aN} {w : World} {σ : ai} {x y : AV} {el : El} (ih : ∀ u, VR g w x u -> VR g' w y u) (h : View σ x y) (hf : x.fits el = true) (u : Nat -> Value)
    (hu:∀ k,k<el.sz->VR g w (x.cell k) (u k)) (c:Nat) (hc:c<el.sz):VR g' w (y.cell c) (u c):=by
 by_cases hx:∃ cs,x = .agg cs
 ·obtain⟨cs,rfl⟩:=hx;simp only[AV.fits,aD,beq_iff_eq]at hf
  have h1:VR g w (.agg cs) (.agg (Array.ofFn fun i:Fin cs.length=>u i)):=by
   refine .agg cs _ aR hf.2 (fun i hi=>?_);have:=hu i ae;simpa[hi,AV.cell]using this
  have h2:=ih _ h1;generalize hq:y=q at h2
  have:∃ ds,q = .agg ds:=by
   subst hq;cases h with
   | refl=>exact⟨_,rfl⟩
   | agg _ ds=>exact⟨ds,rfl⟩
   | nT _ _ _ _ _ h=>simp[AV.scalar]at h
  obtain⟨ds,rfl⟩:=this;cases h2 with
  | agg _ vs hl hs hh =>
    simp only[Array.size_ofFn]at hl;have:=hh c ae;have lM:c<cs.length:=ae;simpa[lM,AV.cell]using this
 have e1:x.cell c=x:=by cases x<;>first|rfl|exact absurd ⟨_,rfl⟩ hx
 have e2:y.cell c=y:=by
  cases h<;>first|rfl|(exact absurd ⟨_,rfl⟩ hx)|exact e1
 rw[e2];have:=hu c hc;rw[e1]at this;exact ih _ this
def View.vr {g g' : aN} {w : World} {σ : ai} (hR : Rel g w σ) (hi : ∀ b, g.fE b -> g'.fE b) (ht : ∀ b, mB σ g b -> g'.fE b) {a b : AV} (hv : View σ a b) :
    ∀ {v:Value},VR g w a v->VR g' w b v:=by
 have hi2:∀ b,g.fE b->g'.fE b/\w.heap[b]? = w.heap[b]?:=fun b hb=>⟨hi b hb,rfl⟩
 induction hv with
 | refl a h=>exact fun hr=>hr.dy hi2 h
 | aU el=>intro v hr;cases hr;exact .jd false el none 0 (fun h=>by cases h)
 | weak f el xs h =>
   intro v hr;cases hr with
   | jd f el b cap hf=>exact .jd false el b cap (fun h=>by cases h)
   | aS f el xs b off cap hb hf hx ft hc hh =>
     exact .aS false el xs b off cap (hi b hb) (fun h=>by cases h) hx ft hc (fun i c h1 h2=>(hh i c h1 h2).dy hi2 (I8 (j6 h i) c))
 | aS f el xs ys hl h ih =>
   intro v hr;cases hr with
   | jd f el b cap hf =>
     have:ys=[]:=dn.1 hl.symm;subst this;exact .jd false el b cap (fun h=>by cases h)
   | aS f el xs b off cap hb hf hx ft hc hh =>
     rw[hl];refine .aS false el ys b off cap (hi b hb) (fun h=>by cases h) (hl ▸ hx) (fun i h1=>(h i (hl ▸ h1)).fits el (ft i (hl ▸ h1))) (fun i c h1 h2=>hc i c (hl ▸ h1) h2) (fun i c h1 h2=>?_);exact I9 (fun u=>ih i (hl ▸ h1)) (h i (hl ▸ h1)) (ft i (hl ▸ h1)) (fun k=>eT w ⟨b,off+(i*el.sz+k),none⟩) (fun k hk=>hh i k (hl ▸ h1) hk) c h2
 | own T el l lo n xs ys hl hy hn h ih =>
   intro v hr;cases hr with
   | own _ _ _ _ _ _ hO =>
     obtain⟨_,_,A,cap,rfl,h4⟩:=hO;obtain⟨nk,DY,hrow⟩:=hR.ok l _ hl;by_cases Vq:n=0
     ·subst Vq;have:ys=[]:=dn.1 hy;subst this;exact .jd false el A cap (fun h=>by cases h)
     rcases hrow with⟨hx,_,_⟩|⟨b,vs,hb,hrow,hsz,hle,hc,_⟩
     ·subst hx;simp at hn;omega
     obtain⟨_,h6,h7⟩:=h4 nk.symm;have hlt:lo<g.cap l:=ae;have hA:=h7 hlt;rw[hb]at hA;simp only[c_]at hA;subst hA
     have hidx:∀ i c,i<n->c<el.sz->g.off l+(lo+i)*el.sz+c<vs.size:=fun i c h1 h2=>by
      rw[hsz];have:(lo+i)*el.sz+el.sz<=g.cap l*el.sz:=by rw[<-eG];exact bM _ ae
      omega
     have hoff:∀ i c,g.off l+lo*el.sz+(i*el.sz+c)=g.off l+(lo+i)*el.sz+c:=fun i c=>by rw[cj];omega
     subst hy;refine .aS false el ys b (g.off l+lo*el.sz) cap (ht b ⟨l,⟨_,hl,rfl⟩,hb⟩) (fun h=>by cases h) ae (fun i h1=>?_) (fun i c h1 h2=>?_) (fun i c h1 h2=>?_)
     ·exact(h i h1).fits el (DY (lo+i) ae)
     ·rw[hoff,hrow.cell (hidx i c h1 h2)];rfl
     rw[hoff]
     have e1:eT w ⟨b,g.off l+(lo+i)*el.sz+c,none⟩=vs.getD (g.off l+(lo+i)*el.sz+c) Go.undef:=by
      simp only[eT,hrow.cell (hidx i c h1 h2),bO]
     rw[e1];exact I9 (fun u=>ih i h1) (h i h1) (DY (lo+i) ae) (fun k=>vs.getD (g.off l+(lo+i)*el.sz+k) Go.undef) (fun k hk=>hc (lo+i) k ae hk) c h2
 | agg cs ds hl h ih =>
   intro v hr;cases hr with
   | agg _ vs hl' hs hh =>
     refine .agg ds vs ae ?_ (fun i h1=>ih i ae (hh i ae));rw[aZ]at hs ⊢;intro x hx;obtain⟨i,hi',rfl⟩:=bP hx;have h1:=(h i ae).scalar;rw[aq,aq,aG hi',aG (by omega:i<cs.length)]at h1;rw[bO,bO]at h1;rw[h1];exact hs _ (dK _)
 | bR cs ds hl h ih =>
   intro v hr;cases hr with
   | bR _ vs hl' hh=>exact .bR ds vs ae (fun i h1=>ih i ae (hh i ae))
 | cell l x hl hs hp =>
   intro v hr;cases hr with
   | ref _ _ _ hO =>
     obtain⟨_,A,rfl,h2⟩:=hO;obtain⟨nk,_,b,vs,hb,hrow,hsz,hc,_⟩:=hR.ok l _ hl;obtain⟨h3,h4⟩:=h2 nk;rw[hb]at h3;cases h3;rw[h4];have h5:(0:Nat)<vs.size:=by simpa using Nat.lt_of_lt_of_eq Nat.zero_lt_one hsz.symm
     have hcell:=hrow.cell h5;have hx:=hc 0 aR;simp only[de]at hx;refine .eY ⟨false,1⟩ x 0 A.block 0 (ht _ ⟨l,⟨_,hl,rfl⟩,hb⟩) hs (fun c h1=>?_) (fun c h1=>?_)
     ·have:c=0:=by have:c<1:=h1;omega
      subst this;rw[bJ,hcell];rfl
     have:c=0:=by have:c<1:=h1;omega
     subst this;have e1:x.cell 0=x:=by cases x<;>first|rfl|simp[AV.fits]at hs
     simp only[bJ,eT,hcell,bO,e1];exact hx.dy hi2 hp
 | cells l n cs hl hn hp =>
   intro v hr;cases hr with
   | ref _ _ _ hO =>
     obtain⟨_,A,rfl,h2⟩:=hO;obtain⟨nk,hsc,b,vs,hb,hrow,hsz,hc,_⟩:=hR.ok l _ hl;obtain⟨h3,h4⟩:=h2 nk;rw[hb]at h3;cases h3;rw[h4];refine .eY ⟨true,n⟩ (.agg cs) 0 A.block 0 (ht _ ⟨l,⟨_,hl,rfl⟩,hb⟩) (by simp[AV.fits,hn];simpa using hsc) (fun c h1=>?_) (fun c h1=>?_)
     ·have h1:c<n:=h1;rw[bJ,hrow.cell ae];rfl
     have h1:c<n:=h1;simp only[bJ,eT,hrow.cell (show c<vs.size by omega),bO];exact(hc c ae).dy hi2 (j6 hp c)
 | nT a l o hl ho h=>intro v hr;exact .nT v (hr.GS h)
 | yS l n cs ds hl hn hd h ih =>
   intro v hr;cases hr with
   | ref _ _ _ hO =>
     obtain⟨_,A,rfl,h2⟩:=hO;obtain⟨nk,hsc,b,vs,hb,hrow,hsz,hc,_⟩:=hR.ok l _ hl;obtain⟨h3,h4⟩:=h2 nk;rw[hb]at h3;cases h3;rw[h4];refine .eY ⟨true,n⟩ (.agg ds) 0 A.block 0 (ht _ ⟨l,⟨_,hl,rfl⟩,hb⟩) ?_ (fun c h1=>?_) (fun c h1=>?_)
     ·simp only[AV.fits,gH,aD,beq_iff_eq];refine⟨ae,aZ.2 fun x hx=>?_⟩;obtain⟨i,hi,rfl⟩:=bP hx;have:=(h i ae).scalar;rw[aq,aq,aG hi,aG (by omega:i<cs.length)]at this;rw[bO,bO]at this;rw[this];exact aZ.1 hsc _ (dK _)
     ·have h1:c<n:=h1;rw[bJ,hrow.cell ae];rfl
     have h1:c<n:=h1;simp only[bJ,eT,hrow.cell (show c<vs.size by omega),bO];exact ih c ae (hc c ae)
 | fn f az bs cs ds hl h hl' h' ih qH =>
   intro v hr;cases hr with
   | fn _ _ _ first' cap' k1 k2 k3 k4=>exact .fn f bs ds first' cap' ae ae (fun i h1=>ih i ae (k3 i ae)) (fun i h1=>qH i ae (k4 i ae))
def aQ(P:Program)(f:FuncId)(args:List AV)(r:AV): Prop:= ∀ σ,kK P f args σ r
def jn{g:aN}{b:Nat}: ¬ mB [] g b:=fun⟨_,⟨_,h,_⟩,_⟩=>by simp at h
def aN.wL(g:aN)(lo hi:Nat): aN:= { g with fE:=fun b=>g.fE b\/(lo<=b/\b<hi) }
def Rel.wL {g : aN} {w w' : World} {σ : ai} (h : Rel g w σ) (hsz : w.heap.size <= w'.heap.size) (hos : w'.os = w.os) (xU : w'.tape = w.tape) (hout : w'.output = w.output)
    (hf:∀ b,b<w.heap.size->w'.heap[b]? = w.heap[b]?):Rel (g.wL w.heap.size w'.heap.size) w' σ/\gk σ g w σ (g.wL w.heap.size w'.heap.size) w':=by
 have hm:kD g w (g.wL w.heap.size w'.heap.size) w':=⟨fun b hb=>⟨.inl hb,hf b (h.lt b hb)⟩,bf _,fun _ _=>⟨bf _,fun _=>⟨rfl,rfl,rfl⟩⟩⟩;refine⟨⟨h.len,fun b hb=>?_,fun l o ho=>?_,h.inj,fun l b hl hb hi=>?_,h.glob.mono hm.fE⟩,⟨hm,hsz,hos,xU,hout,fun b hb _=>hf b hb,fun b hb hi=>?_,fun b _ ht=>ht⟩⟩
 ·rcases hb with hb|hb
  ·exact c7 (h.lt b hb) hsz
  exact hb.2
 ·have hl:l<g.n:=by rw[<-h.len];exact(aE.1 ho).1
  by_cases hv:o.live=true
  ·exact(h.ok l o ho).step hm hl rfl (fun b hb=>hf b (h.kS ⟨o,ho,hv⟩ hb))
  ·cases o<;>simp[aX.live]at hv;trivial
 ·rcases hi with hi|hi
  ·exact h.p7 l b hl hb hi
  have:=h.kS hl hb;omega
 rcases hi with hi|hi
 ·exact .inl hi
 omega
def aN.bare(I:Nat->Prop): aN:=⟨I,0,fun _=>0,fun _=>none,fun _=>0,fun _=>0⟩
def Rel.bare{I:Nat->Prop}{w:World}(h:∀ b,I b->b<w.heap.size)(hg:xS (aN.bare I) w): Rel (aN.bare I) w [] :=
 ⟨rfl,h,fun _ _ h=>by simp at h,fun _ _ _ ⟨_,h,_⟩=>by simp at h,fun _ _ ⟨_,h,_⟩=>by simp at h,hg⟩
def aQ.Xw{f:FuncId}{args:List AV}{r:AV}(h:cK P f args [] fun o σ'=> ∃ r0,o = .ret r0/\View σ' r0 r)(hp:AV.cE args=true): aQ P f args r:=by
 intro σ;refine⟨h.1,fun g w vs hR hlen hv=>?_⟩;refine(h.2 (aN.bare g.fE) w vs (Rel.bare hR.lt ⟨hR.glob.1,hR.glob.2⟩) hlen (fun i hi=>VR.dy (g:=g) (g':=aN.bare g.fE) (fun b hb=>⟨hb,rfl⟩) (hv i hi) (j6 hp i))).mono ?_;rintro e w' ⟨out,g',σ',jf,hE,hO,r0,rfl,C4⟩;have hfr:∀ b,b<w.heap.size->w'.heap[b]? = w.heap[b]?:=fun b hb=>hE.frame b hb jn;obtain⟨h1,h2⟩:=hR.wL hE.size hE.os hE.tape hE.output hfr;refine⟨.ret r,_,σ,h1,h2,?_,rfl,rfl⟩;cases e with
 | returned v =>
   refine C4.vr jf (fun b hb=>?_) (fun b hb=>?_) hO
   ·by_cases hlt:b<w.heap.size
    ·rcases hE.qS b hlt hb with h3|h3
     ·exact .inl h3
     exact absurd h3 jn
    exact .inr ⟨ae,jf.lt b hb⟩
   by_cases hlt:b<w.heap.size
   ·exact absurd (hE.By b hlt hb) jn
   exact .inr ⟨ae,jf.Cx hb⟩
 | panicked c=>exact hO.elim
 | outgrown=>exact hO.elim
def aQ.view{f:FuncId}{args args':List AV}{r:AV}{σ : ai}(h:aQ P f args' r)(hv:cN σ args args')(hr:r.flat=true): kK P f args σ r:=by
 refine⟨(h []).1,fun g w vs hR hlen hvs=>?_⟩
 let I:Nat->Prop:=fun b=>g.fE b\/mB σ g b
 have hlt:∀ b,I b->b<w.heap.size:=fun b hb=>by
  rcases hb with hb|hb
  ·exact hR.lt b hb
  exact hR.Cx hb
 refine((h []).2 (aN.bare I) w vs (Rel.bare hlt ⟨fun b hb=> .inl (hR.glob.1 b hb),hR.glob.2⟩) (hv.1 ▸ hlen) (fun i hi=>?_)).mono ?_
 ·exact(hv.2 i (hv.1 ▸ hi)).vr (g':=aN.bare I) hR (fun b hb=> .inl hb) (fun b hb=> .inr hb) (hvs i (hv.1 ▸ hi))
 rintro e w' ⟨out,g',σ',jf,hE,hO,rfl,rfl⟩;have hfr:∀ b,b<w.heap.size->w'.heap[b]? = w.heap[b]?:=fun b hb=>hE.frame b hb jn;obtain⟨h1,h2⟩:=hR.wL hE.size hE.os hE.tape hE.output hfr;refine⟨.ret r,_,σ,h1,h2,?_,rfl,rfl⟩;cases e with
 | returned v=>exact VR.flat (a:=r) hO hr
 | panicked c=>exact hO.elim
 | outgrown=>exact hO.elim
inductive uy (σ : ai):AV->AV->Prop where
 | flat (a:AV) (h:a.flat=true):uy σ a a
 | own (T : Option TypeId) (el : El) (l lo n : Nat) (xs ys : List AV) (hl : σ[l]? = some (.dh T el xs)) (hy : ys.length = n) (hn : lo + n <= xs.length)
    (h:∀ i,i<n->uy σ (xs.getD (lo+i) .undef) (ys.getD i .undef)):uy σ (.own el l xs.length lo n) (.aS false el ys)
 | agg (cs ds:List AV) (hl:cs.length=ds.length) (h:∀ i,i<cs.length->uy σ (cs.getD i .undef) (ds.getD i .undef)):uy σ (.agg cs) (.agg ds)
 | bR (cs ds:List AV) (hl:cs.length=ds.length) (h:∀ i,i<cs.length->uy σ (cs.getD i .undef) (ds.getD i .undef)):uy σ (.bR cs) (.bR ds)
mutual
def AV.I_: ∀(a:AV),a.flat=true->a.dy=true
 | .agg cs,h=>AV.Fm cs h
 | .bR cs,h=>AV.Fm cs h
 | .undef,_ | .bool _,_ | .int ..,_ | .str _,_ | .aU,_ | .ik,_ | .oC,_ | .jR,_ | .iZ,_ | .nT,_=>rfl
 | .aS _ _ [],_=>rfl
 | .kR _ a,h=>AV.I_ a h
 | .aS _ _ (_::_),h | .own ..,h | .ref ..,h | .eY ..,h | .fy ..,h | .fn ..,h | .mp _,h | .qR _,h | .l7 ..,h=>by simp[AV.flat]at h
def AV.Fm: ∀(l:List AV),AV.zY l=true->AV.cE l=true
 | [],_=>rfl
 | a :: l, h => by
   simp only[AV.zY,aD]at h;simp only[AV.cE,aD];exact⟨AV.I_ a h.1,AV.Fm l h.2⟩
end
def uy.view{σ : ai}{a b:AV}(h:uy σ a b): View σ a b:=by
 induction h with
 | flat a h=>exact .refl a (AV.I_ a h)
 | own T el l lo n xs ys hl hy hn _ ih=>exact .own T el l lo n xs ys hl hy hn ih
 | agg cs ds hl _ ih=>exact .agg cs ds hl ih
 | bR cs ds hl _ ih=>exact .bR cs ds hl ih
def uy.vr{g g':aN}{w:World}{σ : ai}(hR:Rel g w σ)(ht:∀ b,mB σ g b->g'.fE b){a b:AV}(hv:uy σ a b): ∀ {v:Value},VR g w a v->VR g' w b v:=by
 induction hv with
 | flat a h=>exact fun hr=>hr.flat h
 | own T el l lo n xs ys hl hy hn h ih =>
   intro v hr;cases hr with
   | own _ _ _ _ _ _ hO =>
     obtain⟨_,_,A,cap,rfl,h4⟩:=hO;obtain⟨nk,DY,hrow⟩:=hR.ok l _ hl;by_cases Vq:n=0
     ·subst Vq;have:ys=[]:=dn.1 hy;subst this;exact .jd false el A cap (fun h=>by cases h)
     rcases hrow with⟨hx,_,_⟩|⟨b,vs,hb,hrow,hsz,hle,hc,_⟩
     ·subst hx;simp at hn;omega
     obtain⟨_,h6,h7⟩:=h4 nk.symm;have hlt:lo<g.cap l:=ae;have hA:=h7 hlt;rw[hb]at hA;simp only[c_]at hA;subst hA
     have hidx:∀ i c,i<n->c<el.sz->g.off l+(lo+i)*el.sz+c<vs.size:=fun i c h1 h2=>by
      rw[hsz];have:(lo+i)*el.sz+el.sz<=g.cap l*el.sz:=by rw[<-eG];exact bM _ ae
      omega
     have hoff:∀ i c,g.off l+lo*el.sz+(i*el.sz+c)=g.off l+(lo+i)*el.sz+c:=fun i c=>by rw[cj];omega
     subst hy;refine .aS false el ys b (g.off l+lo*el.sz) cap (ht b ⟨l,⟨_,hl,rfl⟩,hb⟩) (fun h=>by cases h) ae (fun i h1=>?_) (fun i c h1 h2=>?_) (fun i c h1 h2=>?_)
     ·exact(h i h1).view.fits el (DY (lo+i) ae)
     ·rw[hoff,hrow.cell (hidx i c h1 h2)];rfl
     rw[hoff]
     have e1:eT w ⟨b,g.off l+(lo+i)*el.sz+c,none⟩=vs.getD (g.off l+(lo+i)*el.sz+c) Go.undef:=by
      simp only[eT,hrow.cell (hidx i c h1 h2),bO]
     rw[e1];exact I9 (fun u=>ih i h1) (h i h1).view (DY (lo+i) ae) (fun k=>vs.getD (g.off l+(lo+i)*el.sz+k) Go.undef) (fun k hk=>hc (lo+i) k ae hk) c h2
 | agg cs ds hl h ih =>
   intro v hr;cases hr with
   | agg _ vs hl' hs hh =>
     refine .agg ds vs ae ?_ (fun i h1=>ih i ae (hh i ae));rw[aZ]at hs ⊢;intro x hx;obtain⟨i,hi',rfl⟩:=bP hx;have h1:=(h i ae).view.scalar;rw[aq,aq,aG hi',aG (by omega:i<cs.length)]at h1;rw[bO,bO]at h1;rw[h1];exact hs _ (dK _)
 | bR cs ds hl h ih =>
   intro v hr;cases hr with
   | bR _ vs hl' hh=>exact .bR ds vs ae (fun i h1=>ih i ae (hh i ae))
def View.alO{a b:AV}(h:View [] a b): a.dy=true:=by
 induction h with
 | refl a h=>exact h
 | aU=>rfl
 | weak f el xs h=>exact h
 | aS f el xs ys hl h ih =>
   refine q9.2 fun x hx=>?_;obtain⟨i,hi,rfl⟩:=bP hx;have:=ih i hi;rwa[aq,aG hi,bO]at this
 | own T el l lo n xs ys hl=>simp at hl
 | agg cs ds hl h ih =>
   refine q9.2 fun x hx=>?_;obtain⟨i,hi,rfl⟩:=bP hx;have:=ih i hi;rwa[aq,aG hi,bO]at this
 | bR cs ds hl h ih =>
   refine q9.2 fun x hx=>?_;obtain⟨i,hi,rfl⟩:=bP hx;have:=ih i hi;rwa[aq,aG hi,bO]at this
 | cell l v hl=>simp at hl
 | cells l n cs hl=>simp at hl
 | yS l n cs ds hl=>simp at hl
 | nT a l o hl=>simp at hl
 | fn f az bs cs ds hl h hl' h' ih qH =>
   simp only[AV.dy,aD];refine⟨q9.2 fun x hx=>?_,q9.2 fun x hx=>?_⟩
   ·obtain⟨i,hi,rfl⟩:=bP hx;have:=ih i hi;rwa[aq,aG hi,bO]at this
   obtain⟨i,hi,rfl⟩:=bP hx;have:=qH i hi;rwa[aq,aG hi,bO]at this
def View.Z7{g:aN}{w:World}{a b:AV}(h:View [] a b){v:Value}(hv:VR g w a v): VR (aN.bare g.fE) w a v:=VR.dy (g:=g) (g':=aN.bare g.fE) (fun _ hb=>⟨hb,rfl⟩) hv h.alO
def aQ.weak{f:FuncId}{args args':List AV}{r:AV}(h:aQ P f args' r)(hv:cN [] args args'): aQ P f args r:=by
 intro σ;refine⟨(h []).1,fun g w vs hR hlen hvs=>?_⟩;refine((h σ).2 g w vs hR (hv.1 ▸ hlen) (fun i hi=>?_));refine View.vr (σ:=[]) (g:=aN.bare g.fE) (g':=g) (Rel.bare hR.lt ⟨hR.glob.1,hR.glob.2⟩) (fun b hb=>hb) (fun b hb=>absurd hb jn) (hv.2 i (hv.1 ▸ hi)) ?_;exact View.Z7 (hv.2 i (hv.1 ▸ hi)) (hvs i (hv.1 ▸ hi))
end Go.AM
namespace Go.AM
variable {P:Program}
def dZ(P:Program)(f:FuncId)(off:Nat)(args:List AV)(cs ds:List AV)(r:AV): Prop :=
 ∀(σ : ai) (k:Nat),σ[k]? = some (.cells cs)->cK P f (.ref k off::args) σ fun o σ'=>o = .ret r/\σ' = σ.set k (.cells ds)
def uz{σ : ai}{k:Nat}{o o':aX}(h : σ[k]? = some o): (σ.set k o')[k]? = some o':=by
 have:=(aE.1 h).1;simp[this]
def dZ.Z8 {f : FuncId} {off : Nat} {A : Nat -> List AV} {cs ds : List AV} {r : AV} (hl : ∀ k, (A k).length = (A 0).length)
    (h:cK P f (.ref 0 off::A 0) [.cells cs] fun o σ'=> ∃ r0 tU τ,o = .ret r0/\σ' = .cells tU:: τ/\View (.dead:: τ) r0 r/\cN (.dead:: τ) tU ds)
    (hA:∀ (g g0:aN) (w:World) (k:Nat),(∀ c,g.fE c->g0.fE c/\w.heap[c]? = w.heap[c]?)->(∀ o v,VR g w (.ref k o) v->VR g0 w (.ref 0 o) v)-> ∀ i v,VR g w ((A k).getD i .undef) v->VR g0 w ((A 0).getD i .undef) v) (hc:AV.cE cs=true) :
    ∀(σ : ai) (k:Nat),σ[k]? = some (.cells cs)->cK P f (.ref k off::A k) σ fun o σ'=>o = .ret r/\σ' = σ.set k (.cells ds):=by
 intro σ k hk;refine⟨h.1,fun g w vs hR hlen hv=>?_⟩;have hkn:k<g.n:=by rw[<-hR.len];exact(aE.1 hk).1
 have iV:Live σ k:=⟨_,hk,rfl⟩;obtain⟨Xl,hsc,b,us,hb,hrow,Ks,hcell,_⟩:=hR.ok k _ hk
 let g0:aN:=⟨g.fE,1,fun _=>1,fun _=>some b,fun _=>g.cap k,fun _=>g.off k⟩
 have Xm:b<w.heap.size:=hrow.lt;have G2:¬ g.fE b:=hR.p7 k b iV hb;have hpi:∀ c,g.fE c->g0.fE c/\w.heap[c]? = w.heap[c]?:=fun c hc=>⟨hc,rfl⟩
 have hR0:Rel g0 w [.cells cs]:=by
  refine⟨rfl,hR.lt,fun l o ho=>?_,fun l l' c hl hl' _ _=>?_,fun l c hl hc=>?_,⟨hR.glob.1,hR.glob.2⟩⟩
  ·cases l with
   | zero =>
     simp at ho;subst ho;exact⟨rfl,hsc,b,us,rfl,hrow,Ks,fun i hi=>(hcell i hi).dy hpi (j6 hc i),trivial⟩
   | succ l=>simp at ho
  ·have h1:=hl.lt;have h2:=hl'.lt;simp at h1 h2;omega
  have:c=b:=by simpa[g0]using hc.symm
  subst this;exact G2
 have acB:∀ c,mB [.cells cs] g0 c↔c=b:=fun c=>by
  constructor
  ·rintro⟨l,_,hc⟩;simpa[g0]using hc.symm
  rintro rfl;exact⟨0,⟨_,rfl,rfl⟩,rfl⟩
 have Xx:∀ o v,VR g w (.ref k o) v->VR g0 w (.ref 0 o) v:=fun o v this=>by
  cases this with
  | ref _ _ _ hh =>
    obtain⟨_,A,e,h2⟩:=hh;refine .ref _ _ _ ⟨⟨Nat.zero_lt_one,bf _⟩,A,e,fun _=>?_⟩;have:=h2 Xl;rw[hb]at this;exact this
 have nk:∀ i,i<(AV.ref 0 off::A 0).length->VR g0 w ((AV.ref 0 off::A 0).getD i .undef) (vs.getD i Go.undef):=fun i hi=>by
  have:=hv i (by simpa[hl k]using hi);cases i with
  | zero =>
    simp only[de]at this ⊢;exact Xx _ _ this
  | succ i =>
    simp only[ie]at this ⊢;exact hA g g0 w k hpi Xx i _ this
 refine(h.2 g0 w vs hR0 (by simpa[hl k]using hlen) nk).mono ?_;rintro e w' ⟨out,g',σ',jf,hE,hO,r0,tU,τ,rfl,rfl,C4,Ru⟩;have hfr:∀ c,c<w.heap.size->c≠b->w'.heap[c]? = w.heap[c]?:=fun c hc hne=>hE.frame c hc (fun t=>hne ((acB c).1 t));obtain⟨ajA,acd,b',us',hb',ajB,aob,aho,_⟩:=jf.ok 0 _ rfl
 have Ra:b'=b:=by
  have:=(hE.mono.ver 0 (by show 0<1;omega)).2 ajA;rw[hb']at this;simpa[g0]using this.1
 subst Ra
 let g2:aN:= { g with fE:=fun c=>g.fE c\/(w.heap.size<=c/\c<w'.heap.size) }
 have ajC:∀ c,g'.fE c->g2.fE c:=fun c hc=>by
  by_cases hlt:c<w.heap.size
  ·rcases hE.qS c hlt hc with h3|h3
   ·exact .inl h3
   exfalso;have:=(acB c).1 h3;subst this;exact jf.p7 0 c ⟨_,rfl,rfl⟩ hb' hc
  exact .inr ⟨ae,jf.lt c hc⟩
 have hm:kD g w g2 w':=⟨fun c hc=>⟨.inl hc,hfr c (hR.lt c hc) (fun e=>G2 (e ▸ hc))⟩,bf _,fun _ _=>⟨bf _,fun _=>⟨rfl,rfl,rfl⟩⟩⟩
 have anH:¬ g2.fE b':=fun hh=>by
  rcases hh with hh|hh
  ·exact G2 hh
  omega
 have Z9:∀ {x y:AV},View (.dead:: τ) x y-> ∀ {v:Value},VR g' w' x v->VR g2 w' y v:=fun {x y} alP {v} Rv=>by
  have hRd:Rel g' w' (.dead:: τ):=by
   have hlen:=jf.len;refine⟨by simpa using hlen,jf.lt,fun l o ho=>?_,fun l l' c hl hl'=>?_,fun l c hl=>?_,jf.glob⟩
   ·cases l with
    | zero=>simp at ho;subst ho;trivial
    | succ l=>exact jf.ok (l+1) o (by simpa using ho)
   ·have lift : ∀ l, Live (.dead :: τ) l -> Live (.cells tU :: τ) l := fun l hl => by
     obtain⟨o,ho,hv⟩:=hl;cases l with
     | zero=>simp at ho;subst ho;cases hv
     | succ l=>exact⟨o,by simpa using ho,hv⟩
    exact jf.inj l l' c (lift l hl) (lift l' hl')
   obtain⟨o,ho,hv⟩:=hl;cases l with
   | zero=>simp at ho;subst ho;cases hv
   | succ l=>exact jf.p7 (l+1) c ⟨o,by simpa using ho,hv⟩
  refine alP.vr hRd ajC (fun c hc=>?_) Rv;obtain⟨l,⟨o,ho,hv⟩,hc⟩:=hc;cases l with
  | zero=>simp at ho;subst ho;cases hv
  | succ l =>
    have Rw:Live (.cells tU:: τ) (l+1):=⟨o,by simpa using ho,hv⟩;refine .inr ⟨?_,jf.kS Rw hc⟩;apply ja;intro hlt;have:=(acB c).1 (hE.By c hlt ⟨_,Rw,hc⟩);subst this;have:=jf.inj (l+1) 0 c Rw ⟨_,rfl,rfl⟩ hc hb';omega
 have hds:tU.length=ds.length:=Ru.1
 have D4:Rel g2 w' (σ.set k (.cells ds)):=by
  refine⟨by simp[g2,hR.len],fun c hc=>?_,fun l o ho=>?_,fun l l' c hl hl'=>?_,fun l c hl hc hi=>?_,hR.glob.mono hm.fE⟩
  ·rcases hc with hc|hc
   ·exact c7 (hR.lt c hc) hE.size
   exact hc.2
  ·by_cases hlk:l=k
   ·subst hlk;rw[uz hk]at ho;cases ho;refine⟨Xl,?_,b',us',hb,ajB,ae,fun i hi=>Z9 (Ru.2 i ae) (aho i ae),trivial⟩;rw[aZ]at acd ⊢;intro x hx;obtain⟨i,hi,rfl⟩:=bP hx;have h1:=(Ru.2 i ae).scalar;rw[aq,aq,aG hi,aG (by omega:i<tU.length)]at h1;rw[bO,bO]at h1;rw[h1];exact acd _ (dK _)
   rw[aF (Ne.symm hlk)]at ho;have hl:l<g.n:=by rw[<-hR.len];exact(aE.1 ho).1
   by_cases hvv:o.live=true
   ·exact(hR.ok l o ho).step hm hl rfl (fun c hc=>hfr c (hR.kS ⟨o,ho,hvv⟩ hc) (fun e=>hlk (hR.inj l k c ⟨o,ho,hvv⟩ iV hc (e ▸ hb))))
   ·cases o<;>simp[aX.live]at hvv;trivial
  ·have lift : ∀ l, Live (σ.set k (.cells ds)) l -> Live σ l := fun l hl => by
    rcases lE hl with⟨rfl,_,_⟩|⟨_,hl⟩
    ·exact iV
    exact hl
   exact hR.inj l l' c (lift l hl) (lift l' hl')
  have hl':Live σ l:=by
   rcases lE hl with⟨rfl,_,_⟩|⟨_,hl⟩
   ·exact iV
   exact hl
  rcases hi with hi|hi
  ·exact hR.p7 l c hl' hc hi
  have:=hR.kS hl' hc;omega
 refine⟨.ret r,g2,_,D4,⟨hm,hE.size,hE.os,hE.tape,hE.output,fun c hc ht=>?_,fun c hc hi=>?_,fun c hc ht=>?_⟩,?_,rfl,rfl⟩
 ·exact hfr c hc (fun e=>ht ⟨k,iV,e ▸ hb⟩)
 ·rcases hi with hi|hi
  ·exact .inl hi
  omega
 ·obtain⟨l,hl,hc2⟩:=ht;rcases lE hl with⟨rfl,_,_⟩|⟨_,hl⟩
  ·exact⟨_,iV,hc2⟩
  exact⟨l,hl,hc2⟩
 ·cases e with
  | returned v=>exact Z9 C4 hO
  | panicked c=>exact hO.elim
  | outgrown=>exact hO.elim
def dZ.iK {f : FuncId} {off : Nat} {args cs ds : List AV} {r : AV}
    (h:cK P f (.ref 0 off::args) [.cells cs] fun o σ'=> ∃ r0 tU τ,o = .ret r0/\σ' = .cells tU:: τ/\View (.dead:: τ) r0 r/\cN (.dead:: τ) tU ds) (hp:AV.cE args=true) (hc:AV.cE cs=true) :
    dZ P f off args cs ds r:=dZ.Z8 (A:=fun _=>args) (fun _=>rfl) h (fun _ _ _ _ hpi _ i _ hv=>hv.dy hpi (j6 hp i)) hc
def Rx(P:Program)(f:FuncId)(cs ds:List AV)(r:AV)(F:FuncId): Prop :=
 ∀(σ : ai) (k:Nat),σ[k]? = some (.cells cs)->cK P f [.ref k 0,.fn (.func F) [.ref k 0] []] σ fun o σ'=>o = .ret r/\σ' = σ.set k (.cells ds)
def Rx.iK {f F : FuncId} {cs ds : List AV} {r : AV}
    (h:cK P f [.ref 0 0,.fn (.func F) [.ref 0 0] []] [.cells cs] fun o σ'=> ∃ r0 tU τ,o = .ret r0/\σ' = .cells tU:: τ/\View (.dead:: τ) r0 r/\cN (.dead:: τ) tU ds) (hc:AV.cE cs=true):Rx P f cs ds r F:=by
 refine dZ.Z8 (A:=fun k=>[.fn (.func F) [.ref k 0] []]) (fun _=>rfl) h (fun g g0 w k hpi Xx i v hv=>?_) hc;cases i with
 | succ i=>exact hv.dy hpi rfl
 | zero =>
   cases hv with
   | fn f' first cap first' cap' hl hl' h1 h2 =>
     refine .fn _ _ _ _ _ hl hl' (fun i hi=>?_) (fun i hi=>absurd hi (c9 _));cases i with
     | zero=>exact Xx _ _ (h1 0 (Nat.zero_lt_one))
     | succ i=>simp at hi
section
variable {n:FuncId} {args:List AV} {σ : ai} {K Kp:AV->ai->Prop} {r:AV}
def yn(h:aQ P n args r)(hk:kj r (.mk:Tg fun r=>K r σ)): pP P n args σ (.mk:Tg (K,Kp)):=VD h hk
def BJ(h:aQ P n args r)(hk:kj r (.mk:Tg fun r=>K r σ)): zW P n args σ (.mk:Tg (K,Kp)):=VE h hk
def afs{args':List AV}(h:aQ P n args' r)(hv:cN [] args args')(hk:kj r (.mk:Tg fun r=>K r σ)): pP P n args σ (.mk:Tg (K,Kp)):=VD (aQ.weak h hv) hk
def afu{args':List AV}(h:aQ P n args' r)(hv:cN [] args args')(hk:kj r (.mk:Tg fun r=>K r σ)): zW P n args σ (.mk:Tg (K,Kp)):=VE (aQ.weak h hv) hk
def vD{args':List AV}(h:aQ P n args' r)(hv:cN σ args args')(hr:r.flat=true)(hk:kj r (.mk:Tg fun r=>K r σ)): pP P n args σ (.mk:Tg (K,Kp)) :=
 (aQ.view h hv hr).mono fun o s ⟨h1,h2⟩=>by subst h1;subst h2;exact hk
def afv{args':List AV}(h:aQ P n args' r)(hv:cN σ args args')(hr:r.flat=true)(hk:kj r (.mk:Tg fun r=>K r σ)): zW P n args σ (.mk:Tg (K,Kp)) :=
 ⟨r, fun τ => aQ.view h ⟨hv.1, fun i hi => (hv.2 i hi).mono (fun l o hl => by
   rw[aH (aE.1 hl).1];exact hl)⟩ hr,hk⟩
def alQ {k : Nat} {F : FuncId} {cs ds : List AV} (h : Rx P n cs ds r F) (iz : σ[k]? = some (.cells cs)) (hk : kj r (.mk : Tg fun r => wh (σ.set k (.cells ds)) (.mk : Tg fun σ => K r σ))) :
    pP P n [.ref k 0,.fn (.func F) [.ref k 0] []] σ (.mk:Tg (K,Kp)) :=
 (h σ k iz).mono fun o s ⟨h1,h2⟩=>by subst h1;subst h2;exact hk
def Mx {k off : Nat} {cs ds : List AV} (h : dZ P n off args cs ds r) (iz : σ[k]? = some (.cells cs)) (hk : kj r (.mk : Tg fun r => wh (σ.set k (.cells ds)) (.mk : Tg fun σ => K r σ))) :
    pP P n (.ref k off::args) σ (.mk:Tg (K,Kp)) :=
 (h σ k iz).mono fun o s ⟨h1,h2⟩=>by subst h1;subst h2;exact hk
def dA(P:Program)(f:FuncId)(args:List AV)(o:Out): Prop:= ∀ s,cK P f args s fun o' s'=>o'=o/\s'=s
def dA.ret{f:FuncId}{args:List AV}{r:AV}(h:aQ P f args r): dA P f args (.ret r):=h
def My{n:FuncId}{args:List AV}{σ : ai}{K Kp:AV->ai->Prop}{v:AV}(h:dA P n args (.panic v))(hk:Kp v σ): pP P n args σ (.mk:Tg (K,Kp)) :=
 (h σ).mono fun o s ⟨h1,h2⟩=>by subst h1;subst h2;exact hk
def VG{n:FuncId}{args:List AV}{σ : ai}{K Kp:AV->ai->Prop}{r:AV}(h:aQ P n args r)(hk:kj r (.mk:Tg fun r=>K r σ)): Qy P n args σ (.mk:Tg (K,Kp)):=⟨.ret r,h,hk⟩
def dA.weak{f:FuncId}{args args':List AV}{o:Out}(h:dA P f args' o)(hv:cN [] args args'): dA P f args o:=by
 intro σ;refine⟨(h []).1,fun g w vs hR hlen hvs=>?_⟩;refine((h σ).2 g w vs hR (hv.1 ▸ hlen) (fun i hi=>?_));refine View.vr (σ:=[]) (g:=aN.bare g.fE) (g':=g) (Rel.bare hR.lt ⟨hR.glob.1,hR.glob.2⟩) (fun b hb=>hb) (fun b hb=>absurd hb jn) (hv.2 i (hv.1 ▸ hi)) ?_;exact View.Z7 (hv.2 i (hv.1 ▸ hi)) (hvs i (hv.1 ▸ hi))
def Mz{n:FuncId}{args:List AV}{σ : ai}{K Kp:AV->ai->Prop}{v:AV}(h:dA P n args (.panic v))(hk:∀ s,Kp v s): Qy P n args σ (.mk:Tg (K,Kp)):=⟨.panic v,h,hk⟩
end
def dA.of_nil{f:FuncId}{args:List AV}{v:AV}(h:cK P f args [] fun o _=>o = .panic v)(hp:AV.cE args=true)(hv:v.flat=true): dA P f args (.panic v):=by
 intro σ;refine⟨h.1,fun g w vs hR hlen hvs=>?_⟩;refine(h.2 (aN.bare g.fE) w vs (Rel.bare hR.lt ⟨hR.glob.1,hR.glob.2⟩) hlen (fun i hi=>VR.dy (g:=g) (g':=aN.bare g.fE) (fun b hb=>⟨hb,rfl⟩) (hvs i hi) (j6 hp i))).mono ?_;rintro e w' ⟨out,g',σ',jf,hE,hO,rfl⟩;have hfr:∀ b,b<w.heap.size->w'.heap[b]? = w.heap[b]?:=fun b hb=>hE.frame b hb jn;obtain⟨h1,h2⟩:=hR.wL hE.size hE.os hE.tape hE.output hfr;refine⟨.panic v,_,σ,h1,h2,?_,rfl,rfl⟩;cases e with
 | returned v=>exact hO.elim
 | panicked c=>obtain⟨v',hc,hr⟩:=hO;exact⟨v',hc,VR.flat hr hv⟩
 | outgrown=>exact hO.elim
def acC(σ : ai): Out->Out->Prop
 | .ret r0,.ret r=>View σ r0 r
 | .panic v,.panic u=>v=u
 | _,_=>False
def dA.iA{f:FuncId}{args:List AV}{o:Out}(h:cK P f args [] fun o' σ'=>acC σ' o' o)(hp:AV.cE args=true)(hf:∀ v,o = .panic v->v.flat=true): dA P f args o:=by
 cases o with
 | ret r =>
   refine aQ.Xw (h.mono fun o' σ' h=>?_) hp;cases o' with
   | ret r0=>exact⟨r0,rfl,h⟩
   | panic v=>exact h.elim
 | panic v =>
   refine dA.of_nil (h.mono fun o' σ' h=>?_) hp (hf v rfl);cases o' with
   | ret r0=>exact h.elim
   | panic u=>exact bj Out.panic h
end Go.AM
namespace Go.AM
variable {P:Program}
def Ry{n:Int}(h:0<=n)(h':n<=255): di .u8 n=n:=by
 show IntKind.wrap .u8 n=n;simp[IntKind.wrap,IntKind.bits,IntKind.signed];omega
def Oj{n:Int}(h:0<=n)(h':n<18446744073709551616): di .u64 n=n:=by
 show IntKind.wrap .u64 n=n;simp[IntKind.wrap,IntKind.bits,IntKind.signed];omega
attribute [go_sem] Fg Ry Oj
attribute [go_sem_proc] Nat.reduceAdd Nat.reduceBEq
attribute [go_sem_proc ↓] reduceIte
def Rz{s:List UInt8}{i:Nat}(h:i<s.length): (⟨s.toArray⟩:ByteArray).get! i=s.getD i 0:=by
 simp only[ByteArray.get!];rw[getElem!_pos _ i (by simpa using h),aq,aG h];simp
def Ja(s:List UInt8)(pos:Nat): Nat:=(Utf8.decode ⟨s.toArray⟩ pos).1
def decode_ascii{s:List UInt8}{pos:Nat}(h:pos<s.length)(ha:(s.getD pos 0).toNat<128): Utf8.decode ⟨s.toArray⟩ pos=((s.getD pos 0).toNat,1):=by
 unfold Utf8.decode;simp only[eV,Rz h];rw[au ha]
def Ue{s:List UInt8}{pos:Nat}(h:pos<s.length)(ha:128<=(s.getD pos 0).toNat): 128<=Ja s pos:=by
 unfold Ja Utf8.decode;simp only[eV,Rz h];rw[aj ae];have he:128<=Utf8.runeError:=da;split
 ·split<;>first|assumption|exact he
 split
 ·split
  ·rename_i h2;simp only[ge_iff_le,aD,aM]at h2;exact cZ ae h2.1
  exact he
 split
 ·split
  ·rename_i h2;simp only[ge_iff_le,aD,aM]at h2;exact cZ ae h2.1
  exact he
 exact he
noncomputable def iW:BinOp->IntKind->Int->Int->Int:=Classical.choose (⟨nW,rfl⟩:∃ f,f=nW)
def oH: iW=nW:=Classical.choose_spec (⟨nW,rfl⟩:∃ f,f=nW)
section
variable (K:AV->Prop) (k:IntKind) (a b:Int) (s t:List UInt8)
@[go_sem] def alR:jg .and (.int k a) (.int k b) (.mk:Tg K)=K (.int k (iW .and k a b)):=by rw[oH];simp[jg,kE]
@[go_sem] def anp:jg .or (.int k a) (.int k b) (.mk:Tg K)=K (.int k (iW .or k a b)):=by rw[oH];simp[jg,kE]
@[go_sem] def alS:jg .xor (.int k a) (.int k b) (.mk:Tg K)=K (.int k (iW .xor k a b)):=by rw[oH];simp[jg,kE]
@[go_sem] def aiW:jg .andNot (.int k a) (.int k b) (.mk:Tg K)=K (.int k (iW .andNot k a b)):=by rw[oH];simp[jg,kE]
@[go_sem] def alT (k':IntKind):jg .shl (.int k a) (.int k' b) (.mk:Tg K)=req (0<=b) (.mk:Tg (K (.int k (di k (a*2 ^ (Nat.min b.toNat k.bits)))))):=by rw[<-dH];simp[jg,kE]
@[go_sem] def alU (k':IntKind):jg .shr (.int k a) (.int k' b) (.mk:Tg K)=req (0<=b) (.mk:Tg (K (.int k (a.fdiv (2 ^ (Nat.min b.toNat k.bits)))))):=by rw[<-dH];simp[jg,kE]
@[go_sem] def anq:unT .neg (.int k a) (.mk:Tg K)=K (.int k (di k (0-a))):=_root_.id rfl
end
section
variable (σ : ai) (K Kp:AV->ai->Prop)
variable (k k':IntKind) (a b:Int) (s t:List UInt8) (el:El) (xs cs:List AV) (l m lo n off i:Nat) (f:Bool)
def iaO(el:El)(o:Option aX)(l m j:Nat){K:AV->Prop}(_:Tg K): Prop:=match o with
 | some (.dh _ bL xs)=>bL=el/\m=xs.length/\K (.fy el l m j 0)
 | _=>False
@[go_sem] def ahp : eE P (.ff el none (.c (.own el l m lo n)) (.c (.int k a))) σ (.mk : Tg (K, Kp)) = req (0 <= a /\ a < n) (.mk : Tg (iaO el (σ[l]?) l m (lo + a.toNat) (.mk : Tg fun v => K v σ))) := by
  rw[<-dH];simp only[eE,bA.run,AX.ev,iaO,true_and,and_assoc];rfl
@[go_sem] def anI (K : AV -> Prop) : iaO el (some (.vec el xs)) l m i (.mk : Tg K) = req (m = xs.length) (.mk : Tg (K (.fy el l m i 0))) := by
  rw[<-dH];simp[iaO]
@[go_sem] def acD : eE P (.ff el (some n) (.c (.ref l i)) (.c (.int k a))) σ (.mk : Tg (K, Kp)) = req (0 <= a /\ a < n) (.mk : Tg (K (.ref l (i + a.toNat * el.sz)) σ)) := by
  rw[<-dH];simp only[eE,bA.run,AX.ev,and_assoc]
@[go_sem] def akA (ln : Nat) : eE P (.yG ⟨false, 1⟩ ln (.c (.agg cs)) (.c (.int k a))) σ (.mk : Tg (K, Kp)) = req (0 <= a /\ a < ln /\ a.toNat + 1 <= cs.length) (.mk : Tg (K (cs.getD a.toNat .undef) σ)) := by
  rw[<-dH];simp[eE,bA.run,AX.ev,and_assoc]
def ldV(el:El)(o:Option aX)(m i off:Nat)(ag:Bool)(n:Nat){K:AV->Prop}(_:Tg K): Prop:=match o with
 | some (.dh _ bE xs)=>bE=el/\m=xs.length/\i<xs.length/\partOf el (xs.getD i .undef) off ag n K
 | _=>False
@[go_sem] def ajD (ag:Bool) (K:AV->Prop):loadT σ ag n (.fy el l m i off) (.mk:Tg K)=ldV el (σ[l]?) m i off ag n (.mk:Tg K):=_root_.id rfl
@[go_sem] def anJ (ag : Bool) (K : AV -> Prop) : ldV el (some (.vec el xs)) m i off ag n (.mk : Tg K) = req (m = xs.length /\ i < xs.length) (.mk : Tg (tC (off == 0 && n == el.sz && ag == el.ag) el (xs.getD i .undef) off ag n (.mk : Tg K))) := by
  rw[<-dH];simp only[ldV,tC,true_and,and_assoc]
@[go_sem] def afw (off n : Nat) (cs : List AV) (K : AV -> Prop) (h : (off == 0 && n == el.sz && true == el.ag) = false) : tC false el (.agg cs) off true n (.mk : Tg K) = req (off + n <= el.sz) (.mk : Tg (K (.agg ((cs.drop off).take n)))) := by
  have hn:¬ (off=0/\n=el.sz/\true=el.ag):=by rintro⟨h1,h2,h3⟩;subst h1;subst h2;rw[<-h3]at h;simp at h
  rw[<-dH];simp only[tC,partOf,aj hn,h,true_and];simp
def stV(σ : ai)(el:El)(l:Nat)(o:Option aX)(m i off n:Nat)(v:AV){K:ai->Prop}(_:Tg K): Prop:=v.cells.length=n/\v.cells.all AV.scalar=true/\match o with
 | some (.dh T bE xs) => bE = el /\ m = xs.length /\ i < xs.length /\ off + n <= el.sz /\ (el.ag = false -> v.fits el = true) /\
    K (σ.set l (.dh T el (xs.set i (if el.ag then .agg (fD (xs.getD i .undef).cells off v.cells)else v))))
 | _=>False
@[go_sem] def aiX (v:AV) (K:ai->Prop):storeT σ n (.fy el l m i off) v (.mk:Tg K)=stV σ el l (σ[l]?) m i off n v (.mk:Tg K):=_root_.id rfl
@[go_sem] def anK (v : AV) (K : ai -> Prop) : stV σ el l (some (.vec el xs)) m i off n v (.mk : Tg K) = req (v.cells.length = n /\ v.cells.all AV.scalar = true /\ m = xs.length /\ i < xs.length /\ off + n <= el.sz /\ (el.ag = false -> v.fits el = true)) (.mk : Tg (K (σ.set l (.vec el (xs.set i (if el.ag then .agg (fD (xs.getD i .undef).cells off v.cells) else v)))))) := by
  rw[<-dH];simp only[stV,true_and,and_assoc]
def VH(σ : ai)(el:El)(o:Option aX)(l m lo n:Nat)(x y:Option AV){K:AV->ai->Prop}(_:Tg K): Prop:=match o with
 | some (.dh _ bL xs)=>bL=el/\m=xs.length/\lo+n<=m/\bound y n n fun h=>bound x 0 h fun k=>K (.own el l m (lo+k) (h-k)) σ
 | _=>False
@[go_sem] def ajE (x y : Option AX) : eE P (.pz el (.c (.own el l m lo n)) x y) σ (.mk : Tg (K, Kp)) = VH σ el (σ[l]?) l m lo n (x.map (AX.ev fun _ => .undef)) (y.map (AX.ev fun _ => .undef)) (.mk : Tg K) := by
  simp only[eE,bA.run,AX.ev,VH,true_and];rfl
@[go_sem] def anL : VH σ el (some (.vec el xs)) l m lo n none (some (.int k' b)) (.mk : Tg K) = req (m = xs.length /\ lo + n <= m /\ 0 <= b /\ b <= n) (.mk : Tg (K (.own el l m lo b.toNat) σ)) := by
  rw[<-dH];simp only[VH,bound,and_assoc,true_and,eV,jm]
@[go_sem] def anM : VH σ el (some (.vec el xs)) l m lo n (some (.int k a)) none (.mk : Tg K) = req (m = xs.length /\ lo + n <= m /\ 0 <= a /\ a <= n) (.mk : Tg (K (.own el l m (lo + a.toNat) (n - a.toNat)) σ)) := by
  rw[<-dH];simp only[VH,bound,and_assoc,true_and]
def RA(o:Option aX)(m lo n:Nat){K:AV->Prop}(_:Tg K): Prop:=match o with
 | some (.dh _ el xs)=>el=⟨false,1⟩/\m=xs.length/\ ∃ s:List UInt8,(xs.drop lo).take n=s.map (fun b=>AV.int .u8 b.toNat)/\K (.str s)
 | _=>False
@[go_sem] def Xy : eE P (.yE (.c (.own ⟨false, 1⟩ l m lo n))) σ (.mk : Tg (K, Kp)) = RA (σ[l]?) m lo n (.mk : Tg fun v => K v σ) := by
  simp only[eE,bA.run,AX.ev,gC,RA,true_and];rfl
def Xz{K:AV->Prop}{xs:List AV}{m n:Nat}(s:List UInt8)(hx:xs=s.map fun b=>AV.int .u8 b.toNat)(hm:m=xs.length)(hn:n=xs.length)(hk:K (.str s)): RA (some (.vec ⟨false,1⟩ xs)) m 0 n (.mk:Tg K) :=
 ⟨rfl,hm,s,by rw[hn,<-hx];simp,hk⟩
@[go_sem] def agG (t : TypeId) (c : UInt8) : eE P (.app (some t) ⟨false, 1⟩ (.c .aU) (.c (.str (c :: s)))) σ (.mk : Tg (K, Kp)) = req (gw (s.length + 1) ⟨false, 1⟩) (.mk : Tg (K (.own ⟨false, 1⟩ σ.length (s.length + 1) 0 (s.length + 1)) (σ ++ [.dh (some t) ⟨false, 1⟩ ((c :: s).map fun b => .int .u8 b.toNat)]))) := by
  rw[<-dH];have h:((c::s).map fun b=>AV.int .u8 b.toNat).all (fun a=>a.fits ⟨false,1⟩)=true:=by simp[AV.fits]
  simp only[eE,bA.run,AX.ev,oT,gC,true_and,h,dF,aO,Nat.add_eq_zero_iff,Nat.one_ne_zero,and_false,if_false]
@[go_sem] def afx (T : Option TypeId) : eE P (.app T ⟨false, 1⟩ (.c .aU) (.c (.str []))) σ (.mk : Tg (K, Kp)) = K .aU σ := by
  simp[eE,bA.run,AX.ev,oT,gC]
@[go_sem] def RB (T : Option TypeId) : eE P (.app T ⟨false, 1⟩ (.c (.own ⟨false, 1⟩ l m lo n)) (.c (.str s))) σ (.mk : Tg (K, Kp)) = Fk σ T ⟨false, 1⟩ (σ[l]?) l m lo n (s.map fun b => .int .u8 b.toNat) (.mk : Tg K) := by
  have:((s.map fun b=>AV.int .u8 b.toNat).all fun a=>a.fits ⟨false,1⟩)=true:=by simp[AV.fits]
  simp only[eE,bA.run,AX.ev,oT,gC,Fk,true_and,this];rfl
def q_(ng:Bool)(acc:Bool)(ks:List Kd)(xs ys:List AV){K:AV->Prop}(_:Tg K): Prop:=match jc ks xs ys with
 | some c=>K (.bool (if ng then !(acc && c)else acc && c))
 | none=>False
def acE(acc:Bool)(K:AV->Prop): q_ false acc [] [] [] (.mk:Tg K)=K (.bool acc):=by simp[q_,jc]
def Z_(acc:Bool)(K:AV->Prop): q_ true acc [] [] [] (.mk:Tg K)=K (.bool (!acc)):=by simp[q_,jc]
def Fo(ng acc c:Bool)(kd:Kd)(x y:AV)(ks:List Kd)(xs ys:List AV)(K:AV->Prop)(h:QO kd x y=some c): q_ ng acc (kd::ks) (x::xs) (y::ys) (.mk:Tg K)=q_ ng (acc && c) ks xs ys (.mk:Tg K):=by
 simp only[q_,jc,h];cases jc ks xs ys<;>simp[Bool.and_assoc]
attribute [go_sem] acE Z_
@[go_sem] def anN (ng acc:Bool) (ks:List Kd) (xs ys:List AV) (K:AV->Prop):q_ ng acc (.i::ks) (.int k a::xs) (.int k b::ys) (.mk:Tg K)=q_ ng (acc && (a==b)) ks xs ys (.mk:Tg K):=Fo _ _ _ _ _ _ _ _ _ _ (by simp[QO])
@[go_sem] def anO (ng acc:Bool) (ks:List Kd) (xs ys:List AV) (K:AV->Prop):q_ ng acc (.s::ks) (.str s::xs) (.str t::ys) (.mk:Tg K)=q_ ng (acc && (s==t)) ks xs ys (.mk:Tg K):=Fo _ _ _ _ _ _ _ _ _ _ rfl
@[go_sem] def anP (ng acc p q:Bool) (ks:List Kd) (xs ys:List AV) (K:AV->Prop):q_ ng acc (.b::ks) (.bool p::xs) (.bool q::ys) (.mk:Tg K)=q_ ng (acc && (p==q)) ks xs ys (.mk:Tg K):=Fo _ _ _ _ _ _ _ _ _ _ rfl
@[go_sem] def akB (ng : Bool) (ks : List Kd) (xs ys : List AV) : eE P (.nK ng true ks (.c (.agg xs)) (.c (.agg ys))) σ (.mk : Tg (K, Kp)) = q_ ng true ks xs ys (.mk : Tg fun v => K v σ) := by
  rw[acy];simp only[q_];cases jc ks xs ys<;>simp
@[go_sem] def akC (ng : Bool) (ks : List Kd) (x y : AV) : eE P (.nK ng false ks (.c x) (.c y)) σ (.mk : Tg (K, Kp)) = q_ ng true ks [x] [y] (.mk : Tg fun v => K v σ) := by
  rw[acz];simp only[q_];cases jc ks [x] [y]<;>simp
def acF(ng:Bool)(o:Option Bool){K:AV->Prop}(_:Tg K): Prop:=match o with
 | some c=>K (.bool (if ng then !c else c))
 | none=>False
@[go_sem] def anQ (c:Bool) (K:AV->Prop):acF false (some c) (.mk:Tg K)=K (.bool c):=_root_.id rfl
@[go_sem] def anR (c:Bool) (K:AV->Prop):acF true (some c) (.mk:Tg K)=K (.bool (!c)):=_root_.id rfl
@[go_sem] def akD (ng : Bool) (kn : NK) (x y : AV) : eE P (.pH ng kn (.c x) (.c y)) σ (.mk : Tg (K, Kp)) = acF ng (pG kn x y) (.mk : Tg fun v => K v σ) := by
  rw[acw];rfl
end
def acG{l:Nat}{c r:dI}{Q:AQ}{e:Env}{σ : ai}(h:jF P c (ux l (fun _ _=>False) Q) e σ): Rt P (.mk:Tg (l,c,r,Q,e,σ)) :=
 ⟨fun _ _ _=>False,C2 (fun ex e σ hq=>by cases ex<;>first|exact hq|exact hq.2.elim) _ _ h,fun _ _ _ h=>h.elim⟩
@[go_sem ↓] def akE (l:Nat) (J:Env->ai->Prop) (Q:AQ) (e:Env) (σ : ai):ux l J Q .ret e σ = Q .ret e σ:=_root_.id rfl
@[go_sem ↓] def aiY (l:Nat) (J:Env->ai->Prop) (Q:AQ) (v:AV) (e:Env) (σ : ai):ux l J Q (.panic v) e σ = Q (.panic v) e σ:=_root_.id rfl
@[go_sem] def PN {α : Type} (τ : List α) (c : α):(τ++[c])[τ.length]? = some c:=aR
def acH{ms ms':List Nat}{r e e':Env}(hs:ms'.all (fun t=>ms.contains t)=true)(h:Fl ms e e'): Fl ms e (KJ ms' r e'):=fun t ht=>by
 simp only[KJ];split
 ·rename_i h1;rw[aZ]at hs;have:=hs t (by simpa using h1);rw[ht]at this;cases this
 exact h t ht
@[go_sem ↓] def ahq (e:Env):qY [] e=True:=_root_.id rfl
@[go_sem ↓] def agH (x y:AX) (r:List (AX × AX)) (e:Env):qY ((x,y)::r) e=(sK (x.ev e) (y.ev e)/\qY r e):=_root_.id rfl
@[go_sem] def akF (el:El) (x:AV) (o:Nat) (q:AV):sK (.eY el x o) q=True:=by simp[sK,AV.obj]
@[go_sem] def akG (l k a b:Nat):sK (.ref l a) (.ref k b)=(l≠k):=by simp only[sK,AV.obj,Option.some.injEq];exact propext ⟨fun h e=>h l rfl e.symm,fun h x e1 e2=>h (e1.trans e2.symm)⟩
section
variable {α β : Type} (a b c : α) (l m:List α) (f : α-> β) (n:Nat)
def ahr: (a::l)[0]? = some a:=_root_.id rfl
def ahs: (a::l)[n+1]? = l[n]?:=_root_.id rfl
def aht: (a::l).set 0 b=b::l:=_root_.id rfl
def ahu: (a::l).set (n+1) b=a::l.set n b:=_root_.id rfl
def afy: (a::l).getD 0 b=a:=_root_.id rfl
def afz: (a::l).getD (n+1) b=l.getD n b:=_root_.id rfl
def ahv: (a::l).length=l.length+1:=_root_.id rfl
def ahw: ([]:List α).length=0:=_root_.id rfl
def afA: l.drop 0=l:=_root_.id rfl
def afB: (a::l).drop (n+1)=l.drop n:=_root_.id rfl
def afC: l.take 0=[]:=_root_.id rfl
def afD: (a::l).take (n+1)=a::l.take n:=_root_.id rfl
def ahx: (a::l).map f=f a::l.map f:=_root_.id rfl
def ahy: ([]:List α).map f=[]:=_root_.id rfl
def ahz: (a::l)++m=a::(l++m):=_root_.id rfl
def ahA: []++m=m:=_root_.id rfl
def ahB: l++[]=l:=bW l
def ahC: List.replicate 0 a=[]:=_root_.id rfl
def ahD: List.replicate (n+1) a=a::List.replicate n a:=_root_.id rfl
end
def afE(cs:List AV)(i:Nat): fD cs i []=cs:=by cases cs<;>exact _root_.id rfl
def afF(cs:List AV)(i:Nat)(a:AV)(l:List AV): fD cs i (a::l)=fD (cs.set i a) (i+1) l:=by cases cs<;>exact _root_.id rfl
def acI(cs:List AV): (AV.agg cs).cells=cs:=_root_.id rfl
def acJ(k:IntKind)(n:Int): (AV.int k n).cells=[.int k n]:=_root_.id rfl
def acK(b:Bool): (AV.bool b).cells=[.bool b]:=_root_.id rfl
def acL(s:List UInt8): (AV.str s).cells=[.str s]:=_root_.id rfl
def acM(f:Bool)(el:El)(xs:List AV): (AV.aS f el xs).cells=[.aS f el xs]:=_root_.id rfl
def acN: AV.aU.cells=[.aU]:=_root_.id rfl
def acO(el:El)(l m lo n:Nat): (AV.own el l m lo n).cells=[.own el l m lo n]:=_root_.id rfl
def acP(l o:Nat): (AV.ref l o).cells=[.ref l o]:=_root_.id rfl
def ahE(l o:Nat): pG .p (.ref l o) .ik=some false:=_root_.id rfl
def ahF: pG .p .ik .ik=some true:=_root_.id rfl
def afG(n m:Nat)(l:List Nat): (n::l).contains m=(m==n || l.contains m):=List.contains_cons
def afH(m:Nat): ([]:List Nat).contains m=false:=_root_.id rfl
def acQ: (true==false)=false:=_root_.id rfl
def acR: (false==true)=false:=_root_.id rfl
def getD_map{α : Type}[Inhabited α](f : α->AV)(l:List α)(i:Nat)(h:i<l.length): (l.map f).getD i .undef=f (l.getD i default):=by
 rw[aq,aq,gZ,aG h];rfl
section
variable (e:Env) (σ : ai) (K Kp:AV->ai->Prop)
def Jb(x:AV)(σ : ai){K:AV->ai->Prop}(_:Tg K): Prop:=match x with
 | .str s=>K (.ref σ.length 0) (σ++[.jC s 0])
 | _=>False
@[go_sem ↓] def alV (x : AX) : bA.run P (.IG x) e σ K Kp = Jb (x.ev e) σ (.mk : Tg K) := by
  simp only[bA.run,Jb];rfl
@[go_sem] def anS (s:List UInt8):Jb (.str s) σ (.mk:Tg K)=K (.ref σ.length 0) (σ++[.jC s 0]):=_root_.id rfl
def XA(x:AV)(σ : ai){K:AV->ai->Prop}(_:Tg K): Prop:=match x with
 | .ref l 0 => match σ[l]? with
   | some (.jC s pos) =>
     if pos<s.length then K (.bR [.bool true,.int .i64 pos,.int .i32 (Utf8.decode ⟨s.toArray⟩ pos).1]) (σ.set l (.jC s (pos+(Utf8.decode ⟨s.toArray⟩ pos).2)))
     else K (.bR [.bool false]) σ
   | _=>False
 | _=>False
@[go_sem ↓] def alW (x : AX) : bA.run P (.II x) e σ K Kp = XA (x.ev e) σ (.mk : Tg K) := by
  simp only[bA.run,XA];rfl
def Fp (o : Option aX) (l : Nat) (σ : ai) {K : AV -> ai -> Prop} (_ : Tg K) : Prop := match o with
    | some (.jC s pos) =>
      if pos<s.length then K (.bR [.bool true,.int .i64 pos,.int .i32 (Utf8.decode ⟨s.toArray⟩ pos).1]) (σ.set l (.jC s (pos+(Utf8.decode ⟨s.toArray⟩ pos).2)))
      else K (.bR [.bool false]) σ
    | _=>False
@[go_sem] def anT (l : Nat) : XA (.ref l 0) σ (.mk : Tg K) = Fp (σ[l]?) l σ (.mk : Tg K) := by
  simp only[XA,Fp]
@[go_sem] def alX (l : Nat) (s : List UInt8) (pos : Nat) (h : s.length <= pos) : Fp (some (.jC s pos)) l σ (.mk : Tg K) = K (.bR [.bool false]) σ := by
  simp only[Fp];rw[aj ae]
def VI (l : Nat) (s : List UInt8) (pos : Nat) (h : pos < s.length) : Fp (some (.jC s pos)) l σ (.mk : Tg K) =
    K (.bR [.bool true,.int .i64 pos,.int .i32 (Utf8.decode ⟨s.toArray⟩ pos).1]) (σ.set l (.jC s (pos+(Utf8.decode ⟨s.toArray⟩ pos).2))):=by
 simp only[Fp];rw[au h]
@[go_sem] def ajF (l:Nat) (s:List UInt8) (pos:Nat) (h:pos<s.length) (ha:(s.getD pos 0).toNat<128):Fp (some (.jC s pos)) l σ (.mk:Tg K) =
 K (.bR [.bool true,.int .i64 pos,.int .i32 (s.getD pos 0).toNat]) (σ.set l (.jC s (pos+1))):=by
  rw[VI _ _ _ _ _ h,decode_ascii h ha]
@[go_sem] def akH (l:Nat) (s:List UInt8) (pos:Nat) (h:pos<s.length) (ha:128<=(s.getD pos 0).toNat):Fp (some (.jC s pos)) l σ (.mk:Tg K) =
 K (.bR [.bool true,.int .i64 pos,.int .i32 (Ja s pos:Nat)]) (σ.set l (.jC s (pos+(Utf8.decode ⟨s.toArray⟩ pos).2))):=by
  rw[VI _ _ _ _ _ h];rfl
end
def dO(P:Program)(c:dI)(rs:List pO)(args:List AV)(σ : ai)(R:Out->ai->Prop): Prop :=
 ∀ Q:AQ,(∀ e σ,Q .ret e σ = mh e σ rs fun vs=>R (.ret (oneOf vs)) σ)->(∀ e σ,Q .normal e σ = mh e σ rs fun vs=>R (.ret (oneOf vs)) σ)->(∀ v e σ,Q (.panic v) e σ = R (.panic v) σ)->jF P c Q (kU args) σ
def dO.go{c:dI}{rs:List pO}{args:List AV}{σ : ai}{R:Out->ai->Prop}(h:dO P c rs args σ R): jF P c (I6 rs R) (kU args) σ :=
 h _ (fun _ _=>rfl) (fun _ _=>rfl) (fun _ _ _=>rfl)
@[go_sem ↓] def akI (e:Env) (σ : ai) (t:Nat) (ag:Bool) (n:Nat) (r:List pO) (K:List AV->Prop):mh e σ (.cell t ag n::r) K=loadT σ ag n (e t) (.mk:Tg fun v=>kj v (.mk:Tg fun v=>mh e σ r fun vs=>K (v::vs))):=_root_.id rfl
def aeL{p K:Prop}(h:p)(hk:K): req p (.mk:Tg K):=⟨h,fun _=>hk⟩
def cg{σ : ai}{a b:AV}{vs rs:List AV}(h:a::b::vs=rs)(hp:AV.cE rs=true): ∃ r0,Out.ret (oneOf (a::b::vs))=Out.ret r0/\View σ r0 (.bR rs):=⟨_,rfl,by subst h;exact .refl _ hp⟩
def zZ{σ : ai}{v r:AV}(hv:View σ v r): ∃ r0,Out.ret (oneOf [v])=Out.ret r0/\View σ r0 r:=⟨_,rfl,hv⟩
def gN{σ : ai}{a b:AV}{vs rs:List AV}(hv:cN σ (a::b::vs) rs): ∃ r0,Out.ret (oneOf (a::b::vs))=Out.ret r0/\View σ r0 (.bR rs):=⟨_,rfl,View.ahn hv⟩
def View.eqv{σ : ai}{a b:AV}(h:a=b)(hp:b.dy=true): View σ a b:=by subst h;exact .refl _ hp
def a_{σ : ai}{v r:AV}(h:v=r)(hp:r.dy=true): ∃ r0,Out.ret (oneOf [v])=Out.ret r0/\View σ r0 r:=⟨_,rfl,.eqv h hp⟩
def KN {r : AV} {tU ds : List AV} {τ : ai} (hv : r = .bR []) (hd : cN (.dead :: τ) tU ds) :
    ∃ r0 ds1 RC,Out.ret (oneOf [])=Out.ret r0/\aX.cells tU:: τ = aX.cells ds1::RC/\View (.dead::RC) r0 r/\cN (.dead::RC) ds1 ds:=⟨_,_,_,rfl,rfl,.eqv hv.symm (by subst hv;rfl),hd⟩
end Go.AM
namespace Go.AM
variable {P:Program}
@[go_sem ↓] def alY (K Kp:AV->ai->Prop) (r:AV) (σ : ai):Mv K Kp (.ret r) σ = K r σ:=_root_.id rfl
section
variable {σ : ai} {K Kp:AV->ai->Prop} {l m n lo off:Nat} {cs xs:List AV} {el:El} {T:Option TypeId}
def ajG(h : σ[l]? = some (.bV T cs))(hlt:off<cs.length)(hk:K (.ref l off) σ): eE P (.J9 (.c (.ref l off))) σ (.mk:Tg (K,Kp)):=ahj _ _ _ _ _ _ h hlt hk
def ajH{t u:TypeId}(h : σ[l]? = some (.bV (some t) cs))(hlt:liesAt P P.depth t (cs.length / P.cellsOf t) off u 1=true)(hk:K (.ref l off) σ): eE P (.J_ u (.c (.ref l off))) σ (.mk:Tg (K,Kp)):=ahk _ _ _ _ _ _ h hlt hk
def ajI{ng:Bool}(h : σ[l]? = some (.bV T cs))(hk:K (.bool ng.not) σ): eE P (.HL ng (.c (.ref l off)) (.c (.ref l off))) σ (.mk:Tg (K,Kp)):=ahl _ _ _ _ _ _ ng h hk
def ajJ(h : σ[l]? = some (.dh T el xs))(hm:m=xs.length)(hn:0<n)(hk:K (.fy el l m lo 0) σ): eE P (.DW el (.c (.own el l m lo n))) σ (.mk:Tg (K,Kp)):=Xu _ _ _ _ _ _ _ _ h hm hn hk
def afI(el:El): eE P (.DW el (.c .aU)) σ (.mk:Tg (K,Kp))=K .ik σ:=_root_.id rfl
def acS(t:TypeId): eE P (.yH t (.c .ik) (.c (.int .i64 0))) σ (.mk:Tg (K,Kp))=K (.str []) σ:=Uc _ _ _ t
attribute [go_sem] afI acS
def ahG {t : TypeId} {a : Int} (s : List UInt8) (h : σ[l]? = some (.dh (some t) ⟨false, 1⟩ xs)) (hm : m = xs.length) (hx : xs = s.map fun b => .int .u8 b.toNat) (h0 : s ≠ []) (h2 : s.length <= 2 ^ 62) (ha : a = (s.length : Int)) (hk : K (.str s) (σ.set l .dead)) :
    eE P (.yH t (.c (.fy ⟨false,1⟩ l m 0 0)) (.c (.int .i64 a))) σ (.mk:Tg (K,Kp)):=Ud _ _ _ _ _ _ s h hm hx h0 h2 ha hk
def afJ {g : FuncId} {v : AV} (h : ∃ fn, P.funcs[g]? = some fn ∧ (fn.name == "runtime.NumGoroutine") = false ∧ fn.body.isNone = true ∧ Extern.findNext fn = none ∧ Extern.find fn = some Extern.AbiNoEscape.same) (hk : K v σ) : Z3 P g v σ (.mk : Tg K) := ⟨h, hk⟩
end
@[go_sem] def alZ (sz off : Nat) (cs : List AV) (K : AV -> Prop) : tC false ⟨true, sz⟩ (.agg cs) off false 1 (.mk : Tg K) = req (off + 1 <= sz) (.mk : Tg (K (cs.getD off .undef))) := by
  rw[afo _ _ _ _ _ aR];simp[req]
section
variable {α : Type} (ρ τ : List α) (c d x : α)
@[go_sem] def anr:(ρ++c:: τ)[ρ.length]? = some c:=aR
@[go_sem] def ans:(ρ++c::d:: τ)[ρ.length+1]? = some d:=by rw[bq ae];simp
@[go_sem] def ant:(ρ++c:: τ).set ρ.length x = ρ++x:: τ:=aR
@[go_sem] def anu:(ρ++c::d:: τ).set (ρ.length+1) x = ρ++c::x:: τ:=by rw[dV _ _ ae];simp
end
def aeM(P:Program)(n:FuncId)(args:List AV)(σ : ai){K:AV->ai->Prop}(_:Tg K): Prop:=GU P n args σ K
def aeN(P:Program)(f:AV)(args:List AV)(σ : ai){K:AV->ai->Prop}(_:Tg K): Prop:=match f with
 | .fn (.func n) [] []=>GU P n args σ K
 | _=>False
@[go_sem ↓] def al0 {e:Env} {σ : ai} {K Kp:AV->ai->Prop} (f:AX) (args:List AX):bA.run P (.tK f args) e σ K Kp=aeN P (f.ev e) (args.map (AX.ev e)) σ (.mk:Tg K):=_root_.id rfl
@[go_sem] def anv {σ : ai} {K:AV->ai->Prop} (n:FuncId) (args:List AV):aeN P (.fn (.func n) [] []) args σ (.mk:Tg K)=aeM P n args σ (.mk:Tg K):=_root_.id rfl
def MA {n : FuncId} {k off : Nat} {args cs ds : List AV} {r : AV} {σ : ai} {K : AV -> ai -> Prop} (h : dZ P n off args cs ds r) (iz : σ[k]? = some (.cells cs)) (hk : kj r (.mk : Tg fun r => wh (σ.set k (.cells ds)) (.mk : Tg fun σ => K r σ))) :
    aeM P n (.ref k off::args) σ (.mk:Tg K):=⟨k,_,.cells ds,r,rfl,iz,trivial,h σ k iz,hk⟩
def MB {n : FuncId} {k off : Nat} {args cs : List AV} {r : AV} {σ : ai} {K Kp : AV -> ai -> Prop} (h : dZ P n off args cs cs r) (iz : σ[k]? = some (.cells cs)) (hk : kj r (.mk : Tg fun r => K r σ)) :
    zW P n (.ref k off::args) σ (.mk:Tg (K,Kp)):=by
 have same:∀ s:ai,s[k]? = some (.cells cs)->s.set k (.cells cs)=s:=fun s hs=>by
  refine jA fun i=>?_;by_cases hi:k=i
  ·subst hi;rw[uz hs,hs]
  rw[aF hi]
 refine⟨r,fun τ=>?_,hk⟩;have hs:(σ++ τ)[k]? = some (.cells cs):=by rw[aH (aE.1 iz).1];exact iz
 exact(h (σ++ τ) k hs).mono fun o s ⟨h1,h2⟩=>⟨h1,h2.trans (same _ hs)⟩
attribute [go_sem] Int.tdiv_eq_ediv_of_nonneg Int.tmod_eq_emod_of_nonneg ahr ahs aht ahu afy afz ahv ahw afA afB afC afD ahx ahy ahz ahA ahB ahC ahD afE afF acI acJ acK acL acM acN acO acP ahE ahF afG afH acQ acR getD_map Bool.or_false Bool.or_true Bool.true_or Bool.false_or beq_self_eq_true Bool.and_true Bool.true_and Bool.and_false Bool.false_and Int.toNat_natCast Int.toNat_natCast_add_one Int.toNat_zero List.length_map List.length_append Nat.zero_add Bool.not_true Bool.not_false
attribute [simp] AV.fits AV.scalar AV.cells qY sK AV.obj gw
end Go.AM
namespace Go.Proofs.YtoldfccfpameeaaGreatDoor
open Go.AM
set_option maxRecDepth 10000
end Go.Proofs.YtoldfccfpameeaaGreatDoor
namespace Go.AM.W
structure Of (P:Program) (n:FuncId) (k:Nat) (rs:List pO) (b:dI):Prop where
 go:∀ {az:List AV} {σ : ai} {R:Out->ai->Prop},dO P b rs az σ R->(hl:az.length<=k:=by simp)->cK P n az σ R
def of_ {P : Program} {n : FuncId} {fn : Func} {k : Nat} {rs : List pO} {b : dI} (h : Hints) (hf : P.funcs[n]? = some fn) (hn : (fn.name == "runtime.NumGoroutine") = false := by kernel_rfl) (hc : yQ P h fn = some ⟨k, rs, b⟩ := by kernel_rfl) : Of P n k rs b := ⟨fun hw hl => cK.of_wp hf hn hc hl hw.go⟩
def of0 {P : Program} {n : FuncId} {fn : Func} {k : Nat} {rs : List pO} {b : dI} (hf : P.funcs[n]? = some fn) (hn : (fn.name == "runtime.NumGoroutine") = false := by kernel_rfl) (hc : yQ P {} fn = some ⟨k, rs, b⟩ := by kernel_rfl) : Of P n k rs b := of_ {} hf hn hc
def cpN(P:Program)(n:FuncId)(h:Hints): Option Xq:=match P.funcs[n]? with
 | some f => if f.name == "runtime.NumGoroutine" then none else yQ P h f
 | none=>none
def bF{P:Program}{n:FuncId}{k:Nat}{rs:List pO}{b:dI}(h:Hints:= {})(hc:cpN P n h=some ⟨k,rs,b⟩:=by kernel_rfl): Of P n k rs b:=by
 unfold cpN at hc;split at hc
 ·rename_i f hf;split at hc
  ·cases hc
  rename_i hn;exact of_ h hf (by simpa using hn) hc
 ·cases hc
def _root_.Go.AM.aY{P:Program}{f:FuncId}{k:Nat}{rs:List pO}{c:dI}{az:List AV}{r:AV}(ho:Of P f k rs c)(h:∀ Q:AQ,(∀ e σ,Q .ret e σ = mh e σ rs fun vs=> ∃ r0,Out.ret (oneOf vs) = .ret r0/\View σ r0 r)->(∀ e σ,Q .normal e σ = mh e σ rs fun vs=> ∃ r0,Out.ret (oneOf vs) = .ret r0/\View σ r0 r)->(∀ v e σ,Q (.panic v) e σ = ∃ r0,Out.panic v = .ret r0/\View σ r0 r)->jF P c Q (kU az) [])(hp:AV.cE az=true:=by first|rfl|(simp;done)|(simp[AV.dy,AV.cE];done))(hl:az.length<=k:=by simp): aQ P f az r:=aQ.Xw (ho.go h hl) hp
abbrev t(n:Nat): AX:= .t n
abbrev gB(b:Bool)(n:Nat)(z:AV)(m:Nat)(l:List (Nat × AX))(d:Nat): cW:=⟨.l9 false ⟨b,n⟩ z m l,some d,none⟩
abbrev gU(z:List AV)(l:List (Nat × Nat × AX))(d:Nat): cW:=⟨.build z l,some d,none⟩
abbrev gI(b:Bool)(n a:Nat)(k:Int)(d:Nat): cW:=⟨.ff ⟨b,n⟩ none (.t a) (.c (.int .i64 k)),some d,none⟩
abbrev gA(b:Bool)(n x y:Nat)(d:Nat): cW:=⟨.app none ⟨b,n⟩ (.t x) (.t y),some d,none⟩
abbrev gF(d:Nat): cW:=⟨.mv (.c (.bool false)),some d,none⟩
abbrev gT(d:Nat): cW:=⟨.mv (.c (.bool true)),some d,none⟩
abbrev gJ(n:Int): AX:= .c (.int .i64 n)
abbrev gS(s:List UInt8): AX:= .c (.str s)
abbrev gR(a:List cW)(n:Nat)(b:List cW)(x:dI): dI:= .seq (.seq (.region a) (.cond (.t n) (.seq (.region b) .ret) .skip)) x
abbrev gL(i:Nat)(a:List cW)(n:Nat)(x:dI): dI:= .block i (.loop (.seq (.seq (.region a) (.cond (.t n) .skip (.exit i))) x))
abbrev bD(o:bA)(d:Nat): cW:=⟨o,some d,none⟩
abbrev i6(n:Int): AV:= .int .i64 n
abbrev z0: AV:= .int .i64 0
abbrev e0: AV:= .str []
abbrev gW: List AV:=[z0,z0,e0]
abbrev jQ: List AV:=[z0,z0,z0,e0,e0,.aU]
abbrev ua: List AV:=[e0,z0,.aU,z0,.aU,.aU]
abbrev uA: List AV:=[z0,e0,z0,z0,z0]
abbrev vg: List AV:=[z0,e0,z0]
abbrev wM: List AV:=[.bool false,.bool false,.aU]
abbrev wN: List AV:=[e0,.aU,.aU,z0,z0,.aU]
abbrev xL: List AV:=[.aU,.aU]
abbrev yT: List AV:=[z0,.aU,.aU]
abbrev BK: List AV:=[z0,z0,e0,e0]
abbrev AZ: List AV:=[z0,e0,z0,z0]
abbrev A0: List AV:=[e0,z0,.aU]
abbrev C5: List AV:=[z0,z0,z0,z0,e0,e0,.aU,z0,z0,z0,e0,e0,.aU,.bool false,.bool false]
abbrev Jc: List AV:=[e0,.aU,.aU,z0,z0,.aU,.aU]
abbrev acT: List AV:=[(.int .u32 0),(.int .u32 0),(.int .u32 0),(.int .u32 0),(.int .u32 0),(.int .u32 0),(.int .u32 0),(.int .u32 0),(.int .u32 0),(.int .u32 0),(.int .u32 0),(.int .u32 0),(.int .u32 0),(.int .u32 0),(.int .u32 0),(.int .u32 0),(.int .u32 0),(.int .u32 0),(.int .u32 0),(.int .u32 0),(.int .u32 0),(.int .u32 0),(.int .u32 0),(.int .u32 0),(.int .u32 0),(.int .u32 0),(.int .u32 0),(.int .u32 0),(.int .u32 0),(.int .u32 0),(.int .u32 0),(.int .u32 0),(.int .u32 0),(.int .u32 0),(.int .u32 0),(.int .u32 0),(.int .u32 0),(.int .u32 0),(.int .u32 0),(.int .u32 0),(.int .u32 0),(.int .u32 0),(.int .u32 0),(.int .u32 0),(.int .u32 0),(.int .u32 0),(.int .u32 0),(.int .u32 0),(.int .u32 0),(.int .u32 0),(.int .u32 0),(.int .u32 0),(.int .u32 0),(.int .u32 0),(.int .u32 0),(.int .u32 0),(.int .u32 0),(.int .u32 0),(.int .u32 0),(.int .u32 0),(.int .u32 0),(.int .u32 0),(.int .u32 0),(.int .u32 0)]
abbrev acU: List AV:=[.bool false,.bool false]
abbrev ahH: List AV:=[(.int .u32 0),(.int .u32 0),(.int .u32 0),(.int .u32 0),(.int .u32 0),(.int .u32 0),(.int .u32 0),(.int .u32 0)]
abbrev R(l:List cW): dI:= .region l
abbrev r(l:List cW)(b:dI): dI:= .seq (.region l) b
abbrev q(a b:dI): dI:= .seq a b
abbrev c(n:Nat)(a b:dI): dI:= .cond (.t n) a b
abbrev k: dI:= .skip
abbrev M(a:Nat)(d:Nat): cW:=⟨.mv (.t a),some d,none⟩
abbrev MT(a:Nat)(d k:Nat): cW:=⟨.mv (.t a),some d,some (k,true)⟩
abbrev MF(a:Nat)(d k:Nat): cW:=⟨.mv (.t a),some d,some (k,false)⟩
abbrev V(a:AV)(d:Nat): cW:=⟨.mv (.c a),some d,none⟩
abbrev L(n a:Nat)(d:Nat): cW:=⟨.load true n (.t a),some d,none⟩
abbrev LT(n a:Nat)(d k:Nat): cW:=⟨.load true n (.t a),some d,some (k,true)⟩
abbrev LF(n a:Nat)(d k:Nat): cW:=⟨.load true n (.t a),some d,some (k,false)⟩
abbrev K(a:Nat)(d:Nat): cW:=⟨.load false 1 (.t a),some d,none⟩
abbrev KT(a:Nat)(d k:Nat): cW:=⟨.load false 1 (.t a),some d,some (k,true)⟩
abbrev KF(a:Nat)(d k:Nat): cW:=⟨.load false 1 (.t a),some d,some (k,false)⟩
abbrev B(o:BinOp)(a b:Nat)(d:Nat): cW:=⟨.bin o (.t a) (.t b),some d,none⟩
abbrev BT(o:BinOp)(a b:Nat)(d k:Nat): cW:=⟨.bin o (.t a) (.t b),some d,some (k,true)⟩
abbrev BF(o:BinOp)(a b:Nat)(d k:Nat): cW:=⟨.bin o (.t a) (.t b),some d,some (k,false)⟩
abbrev D(o:BinOp)(a:Nat)(b:Int)(d:Nat): cW:=⟨.bin o (.t a) (.c (.int .i64 b)),some d,none⟩
abbrev DT(o:BinOp)(a:Nat)(b:Int)(d k:Nat): cW:=⟨.bin o (.t a) (.c (.int .i64 b)),some d,some (k,true)⟩
abbrev DF(o:BinOp)(a:Nat)(b:Int)(d k:Nat): cW:=⟨.bin o (.t a) (.c (.int .i64 b)),some d,some (k,false)⟩
abbrev A(n a:Nat)(d:Nat): cW:=⟨.rP n (.t a),some d,none⟩
abbrev AT(n a:Nat)(d k:Nat): cW:=⟨.rP n (.t a),some d,some (k,true)⟩
abbrev AF(n a:Nat)(d k:Nat): cW:=⟨.rP n (.t a),some d,some (k,false)⟩
abbrev P(a b:Nat)(d:Nat): cW:=⟨.pick (.t a) (.t b) (.c (.bool false)),some d,none⟩
abbrev PT(a b:Nat)(d k:Nat): cW:=⟨.pick (.t a) (.t b) (.c (.bool false)),some d,some (k,true)⟩
abbrev PF(a b:Nat)(d k:Nat): cW:=⟨.pick (.t a) (.t b) (.c (.bool false)),some d,some (k,false)⟩
abbrev O(a b:Nat)(d:Nat): cW:=⟨.pick (.t a) (.c (.bool true)) (.t b),some d,none⟩
abbrev OT(a b:Nat)(d k:Nat): cW:=⟨.pick (.t a) (.c (.bool true)) (.t b),some d,some (k,true)⟩
abbrev S(a:Nat)(d:Nat): cW:=⟨.len true (.t a),some d,none⟩
abbrev ST(a:Nat)(d k:Nat): cW:=⟨.len true (.t a),some d,some (k,true)⟩
abbrev SF(a:Nat)(d k:Nat): cW:=⟨.len true (.t a),some d,some (k,false)⟩
abbrev N(a:Nat)(d:Nat): cW:=⟨.len false (.t a),some d,none⟩
abbrev NT(a:Nat)(d k:Nat): cW:=⟨.len false (.t a),some d,some (k,true)⟩
abbrev NF(a:Nat)(d k:Nat): cW:=⟨.len false (.t a),some d,some (k,false)⟩
abbrev I(b:Bool)(n a c:Nat)(d:Nat): cW:=⟨.ff ⟨b,n⟩ none (.t a) (.t c),some d,none⟩
abbrev IT(b:Bool)(n a c:Nat)(d k:Nat): cW:=⟨.ff ⟨b,n⟩ none (.t a) (.t c),some d,some (k,true)⟩
abbrev IF(b:Bool)(n a c:Nat)(d k:Nat): cW:=⟨.ff ⟨b,n⟩ none (.t a) (.t c),some d,some (k,false)⟩
abbrev E(a n:Nat)(d:Nat): cW:=⟨.ext (.t a) n,some d,none⟩
abbrev ET(a n:Nat)(d k:Nat): cW:=⟨.ext (.t a) n,some d,some (k,true)⟩
abbrev Z(a:Nat)(d:Nat): cW:=⟨.tq (.t a),some d,none⟩
abbrev ZT(a:Nat)(d k:Nat): cW:=⟨.tq (.t a),some d,some (k,true)⟩
abbrev ZF(a:Nat)(d k:Nat): cW:=⟨.tq (.t a),some d,some (k,false)⟩
abbrev X(a:Nat)(d:Nat): cW:=⟨.box (.t a),some d,none⟩
abbrev U(a:Nat)(d:Nat): cW:=⟨.un .not (.t a),some d,none⟩
abbrev UT(a:Nat)(d k:Nat): cW:=⟨.un .not (.t a),some d,some (k,true)⟩
abbrev UF(a:Nat)(d k:Nat): cW:=⟨.un .not (.t a),some d,some (k,false)⟩
abbrev J(l:List AV)(d:Nat): cW:=⟨.alloc none l,some d,none⟩
abbrev C(f:FuncId)(l:List AX)(d:Nat): cW:=⟨.call false (.c (.fn (.func f) [] [])) l,some d,none⟩
abbrev CT(f:FuncId)(l:List AX)(d k:Nat): cW:=⟨.call false (.c (.fn (.func f) [] [])) l,some d,some (k,true)⟩
abbrev CF(f:FuncId)(l:List AX)(d k:Nat): cW:=⟨.call false (.c (.fn (.func f) [] [])) l,some d,some (k,false)⟩
abbrev Q(f:FuncId)(l:List AX)(d:Nat): cW:=⟨.call true (.c (.fn (.func f) [] [])) l,some d,none⟩
abbrev QT(f:FuncId)(l:List AX)(d k:Nat): cW:=⟨.call true (.c (.fn (.func f) [] [])) l,some d,some (k,true)⟩
abbrev QF(f:FuncId)(l:List AX)(d k:Nat): cW:=⟨.call true (.c (.fn (.func f) [] [])) l,some d,some (k,false)⟩
abbrev W(n a b:Nat): cW:=⟨.store n (.t a) (.t b),none,none⟩
