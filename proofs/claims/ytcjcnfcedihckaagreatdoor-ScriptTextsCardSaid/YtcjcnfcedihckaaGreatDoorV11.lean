/- Part. -/
import Derived.Test.YtcjcnfcedihckaaGreatDoorV10
set_option linter.all false
namespace Go.AM
variable {P:Program}
section
variable (e:Env) (σ : ae) (K Kp:AV->ae->Prop)
def y7(o:Option bx)(off:Nat)(ag:Bool)(n:Nat){K:AV->Prop}(_:Tg K): Prop:=match o with
 | some (.bM _ cs)=>off+n<=cs.length/\(ag=false->n=1)/\K (if ag then .agg ((cs.drop off).take n)else cs.getD off .undef)
 | _=>False
@[go_sem] def ab6 (ag:Bool) (n l off:Nat) (K:AV->Prop):loadT σ ag n (.ref l off) (.mk:Tg K)=y7 (σ[l]?) off ag n (.mk:Tg K):=_root_.id rfl
@[go_sem] def aef (cs : List AV) (off n : Nat) (K : AV -> Prop) : y7 (some (.cells cs)) off false n (.mk : Tg K) = req (off + n <= cs.length /\ n = 1) (.mk : Tg (K (cs.getD off .undef))) := by
  rw[<-dz];simp[y7,and_assoc]
@[go_sem] def aeg (cs : List AV) (off n : Nat) (K : AV -> Prop) : y7 (some (.cells cs)) off true n (.mk : Tg K) = req (off + n <= cs.length) (.mk : Tg (K (.agg ((cs.drop off).take n)))) := by
  rw[<-dz];simp[y7]
@[go_sem] def adk (T : TypeId) (cs : List AV) (off n : Nat) (K : AV -> Prop) : y7 (some (.bM (some T) cs)) off false n (.mk : Tg K) = req (off + n <= cs.length /\ n = 1) (.mk : Tg (K (cs.getD off .undef))) := by
  rw[<-dz];simp[y7,and_assoc]
def Bi(σ : ae)(l:Nat)(o:Option bx)(off n:Nat)(v:AV){K:ae->Prop}(_:Tg K): Prop:=v.cells.length=n/\v.cells.all AV.scalar=true/\match o with
 | some (.bM T cs)=>off+n<=cs.length/\K (σ.set l (.bM T (eK cs off v.cells)))
 | _=>False
@[go_sem] def abk (n l off:Nat) (v:AV) (K:ae->Prop):storeT σ n (.ref l off) v (.mk:Tg K)=Bi σ l (σ[l]?) off n v (.mk:Tg K):=_root_.id rfl
@[go_sem] def adl (l : Nat) (cs : List AV) (off n : Nat) (v : AV) (K : ae -> Prop) : Bi σ l (some (.cells cs)) off n v (.mk : Tg K) = req (v.cells.length = n /\ v.cells.all AV.scalar = true /\ off + n <= cs.length) (.mk : Tg (K (σ.set l (.cells (eK cs off v.cells))))) := by
  rw[<-dz];simp[Bi,and_assoc]
@[go_sem] def ab7 (l : Nat) (T : TypeId) (cs : List AV) (off n : Nat) (v : AV) (K : ae -> Prop) : Bi σ l (some (.bM (some T) cs)) off n v (.mk : Tg K) = req (v.cells.length = n /\ v.cells.all AV.scalar = true /\ off + n <= cs.length) (.mk : Tg (K (σ.set l (.bM (some T) (eK cs off v.cells))))) := by
  rw[<-dz];simp[Bi,and_assoc]
def dH(P:Program)(o:br)(σ : ae){K Kp:AV->ae->Prop}(_:Tg (K,Kp)): Prop:=o.run P (fun _=> .undef) σ K Kp
@[go_sem ↓] def ab8 (off:Nat) (x:AX):br.run P (.gQ off x) e σ K Kp=dH P (.gQ off (.c (x.ev e))) σ (.mk:Tg (K,Kp)):=_root_.id rfl
@[go_sem ↓] def ab9 (x:AX):br.run P (.kI x) e σ K Kp=dH P (.kI (.c (x.ev e))) σ (.mk:Tg (K,Kp)):=_root_.id rfl
@[go_sem ↓] def acd (ag:Bool) (off n:Nat) (x:AX):br.run P (.field ag off n x) e σ K Kp=dH P (.field ag off n (.c (x.ev e))) σ (.mk:Tg (K,Kp)):=_root_.id rfl
@[go_sem ↓] def ace (el:El) (arr:Option Nat) (x i:AX):br.run P (.eH el arr x i) e σ K Kp=dH P (.eH el arr (.c (x.ev e)) (.c (i.ev e))) σ (.mk:Tg (K,Kp)):=_root_.id rfl
@[go_sem ↓] def adn (x i:AX):br.run P (.fU x i) e σ K Kp=dH P (.fU (.c (x.ev e)) (.c (i.ev e))) σ (.mk:Tg (K,Kp)):=_root_.id rfl
@[go_sem ↓] def ado (el:El) (n:Nat) (x i:AX):br.run P (.xe el n x i) e σ K Kp=dH P (.xe el n (.c (x.ev e)) (.c (i.ev e))) σ (.mk:Tg (K,Kp)):=_root_.id rfl
@[go_sem ↓] def adp (k:IntKind) (x:AX):br.run P (.ld k x) e σ K Kp=dH P (.ld k (.c (x.ev e))) σ (.mk:Tg (K,Kp)):=_root_.id rfl
@[go_sem ↓] def aeh (x:AX):br.run P (.sj x) e σ K Kp=dH P (.sj (.c (x.ev e))) σ (.mk:Tg (K,Kp)):=_root_.id rfl
@[go_sem ↓] def aaJ (el:El) (z:AV) (x i:AX):br.run P (.mK el z x i) e σ K Kp=dH P (.mK el z (.c (x.ev e)) (.c (i.ev e))) σ (.mk:Tg (K,Kp)):=_root_.id rfl
@[go_sem ↓] def XE (T:Option TypeId) (el:El) (x i:AX):br.run P (.app T el x i) e σ K Kp=dH P (.app T el (.c (x.ev e)) (.c (i.ev e))) σ (.mk:Tg (K,Kp)):=_root_.id rfl
@[go_sem ↓] def aei (ng ag:Bool) (ks:List Kd) (x i:AX):br.run P (.oa ng ag ks x i) e σ K Kp=dH P (.oa ng ag ks (.c (x.ev e)) (.c (i.ev e))) σ (.mk:Tg (K,Kp)):=_root_.id rfl
@[go_sem ↓] def acf (ng:Bool) (k:NK) (x i:AX):br.run P (.oT ng k x i) e σ K Kp=dH P (.oT ng k (.c (x.ev e)) (.c (i.ev e))) σ (.mk:Tg (K,Kp)):=_root_.id rfl
@[go_sem ↓] def aej (el:El) (x:AX):br.run P (.zZ el x) e σ K Kp=dH P (.zZ el (.c (x.ev e))) σ (.mk:Tg (K,Kp)):=_root_.id rfl
@[go_sem ↓] def adq (T:TypeId) (x i:AX):br.run P (.vq T x i) e σ K Kp=dH P (.vq T (.c (x.ev e)) (.c (i.ev e))) σ (.mk:Tg (K,Kp)):=_root_.id rfl
@[go_sem ↓] def aek (x:AX):br.run P (.FE x) e σ K Kp=dH P (.FE (.c (x.ev e))) σ (.mk:Tg (K,Kp)):=_root_.id rfl
@[go_sem ↓] def ael (u:TypeId) (x:AX):br.run P (.FF u x) e σ K Kp=dH P (.FF u (.c (x.ev e))) σ (.mk:Tg (K,Kp)):=_root_.id rfl
@[go_sem ↓] def aem (ng:Bool) (x i:AX):br.run P (.Dl ng x i) e σ K Kp=dH P (.Dl ng (.c (x.ev e)) (.c (i.ev e))) σ (.mk:Tg (K,Kp)):=_root_.id rfl
def cO(e:Env): Option AX->Option AX
 | none=>none
 | some x=>some (.c (x.ev e))
@[go_sem] def aen:cO e none=none:=_root_.id rfl
@[go_sem] def aeo (x:AX):cO e (some x)=some (.c (x.ev e)):=_root_.id rfl
@[go_sem ↓] def aep (x : AX) (lo hi : Option AX) : br.run P (.lf x lo hi) e σ K Kp = dH P (.lf (.c (x.ev e)) (cO e lo) (cO e hi)) σ (.mk : Tg (K, Kp)) := by
  cases lo<;>cases hi<;>rfl
@[go_sem ↓] def aeq (el : El) (x : AX) (lo hi : Option AX) : br.run P (.tF el x lo hi) e σ K Kp = dH P (.tF el (.c (x.ev e)) (cO e lo) (cO e hi)) σ (.mk : Tg (K, Kp)) := by
  cases lo<;>cases hi<;>rfl
variable (k k':IntKind) (a b:Int) (s t:List UInt8) (el:El) (xs cs:List AV) (l m lo n off i:Nat) (f:Bool)
@[go_sem] def Zf:dH P (.gQ off (.c (.ref l i))) σ (.mk:Tg (K,Kp))=K (.ref l (i+off)) σ:=_root_.id rfl
@[go_sem] def Yx (x:AV):dH P (.gQ off (.c (.eA el x i))) σ (.mk:Tg (K,Kp))=K (.eA el x (i+off)) σ:=_root_.id rfl
@[go_sem] def Zg:dH P (.kI (.c (.ref l i))) σ (.mk:Tg (K,Kp))=K (.ref l i) σ:=_root_.id rfl
@[go_sem] def abl : dH P (.field false off n (.c (.agg cs))) σ (.mk : Tg (K, Kp)) = req (off + n <= cs.length /\ n = 1) (.mk : Tg (K (cs.getD off .undef) σ)) := by
  rw[<-dz];simp[dH,br.run,AX.ev,and_assoc]
@[go_sem] def Zh : dH P (.eH el none (.c (.aF f el xs)) (.c (.int k a))) σ (.mk : Tg (K, Kp)) = req (0 <= a /\ a < xs.length) (.mk : Tg (K (.eA el (xs.getD a.toNat .undef) 0) σ)) := by
  rw[<-dz];simp[dH,br.run,AX.ev,and_assoc]
@[go_sem] def aer : dH P (.fU (.c (.str s)) (.c (.int k a))) σ (.mk : Tg (K, Kp)) = req (0 <= a /\ a < s.length) (.mk : Tg (K (.int .u8 (s.getD a.toNat 0).toNat) σ)) := by
  rw[<-dz];simp[dH,br.run,AX.ev,and_assoc]
@[go_sem] def aes:dH P (.ld k (.c (.int k' a))) σ (.mk:Tg (K,Kp))=K (.int k (eS k a)) σ:=_root_.id rfl
def toNat_le{a:Int}{n:Nat}(h:0<=a): (a<=((n:Nat):Int))=(a.toNat<=n):=by simp only[eq_iff_iff];omega
@[go_sem] def acg : dH P (.lf (.c (.str s)) (some (.c (.int k a))) (some (.c (.int k' b)))) σ (.mk : Tg (K, Kp)) = req ((0 <= b /\ b <= s.length) /\ 0 <= a /\ a <= b) (.mk : Tg (K (.str ((s.drop a.toNat).take (b.toNat - a.toNat))) σ)) := by
  rw[<-dz];simp only[dH,br.run,AX.ev,bound,Option.map,and_assoc,eq_iff_iff];constructor
  ·rintro⟨h1,h2,h3,h4,h5⟩;exact⟨h1,h2,h3,by omega,h5⟩
  ·rintro⟨h1,h2,h3,h4,h5⟩;exact⟨h1,h2,h3,by omega,h5⟩
@[go_sem] def ach : dH P (.lf (.c (.str s)) none (some (.c (.int k' b)))) σ (.mk : Tg (K, Kp)) = req (0 <= b /\ b <= s.length) (.mk : Tg (K (.str (s.take b.toNat)) σ)) := by
  rw[<-dz];simp only[dH,br.run,AX.ev,bound,Option.map,and_assoc,List.drop_zero,Nat.sub_zero]
@[go_sem] def aci : dH P (.lf (.c (.str s)) (some (.c (.int k a))) none) σ (.mk : Tg (K, Kp)) = req (0 <= a /\ a <= s.length) (.mk : Tg (K (.str (s.drop a.toNat)) σ)) := by
  rw[<-dz];simp only[dH,br.run,AX.ev,bound,Option.map,and_assoc];have:(s.drop a.toNat).take (s.length-a.toNat)=s.drop a.toNat:=aT (by simp);rw[this]
def uB(P:Program)(n:FuncId)(args:List AV)(σ : ae){K Kp:AV->ae->Prop}(_:Tg (K,Kp)): Prop:=dK P n args σ (Me K Kp)
def y8(P:Program)(n:FuncId)(args:List AV)(σ : ae){K Kp:AV->ae->Prop}(_:Tg (K,Kp)): Prop:= ∃ r,(∀ τ,wB P n args (σ++ τ) r)/\K r σ
@[go_sem] def aeu (n : FuncId) (first args cap : List AV) : CY P false (.fn (.func n) first cap) args σ (.mk : Tg (K, Kp)) = uB P n (first ++ args ++ cap) σ (.mk : Tg (K, Kp)) := by
  simp[CY,uB]
@[go_sem] def aev (n : FuncId) (first args cap : List AV) : CY P true (.fn (.func n) first cap) args σ (.mk : Tg (K, Kp)) = y8 P n (first ++ args ++ cap) σ (.mk : Tg (K, Kp)) := by
  simp[CY,y8]
def PS{n:FuncId}{args:List AV}{σ : ae}{K Kp:AV->ae->Prop}{r:AV}(h:∀ σ,wB P n args σ r)(hk:kM r (.mk:Tg fun r=>K r σ)): uB P n args σ (.mk:Tg (K,Kp)) :=
 (h σ).mono fun o s ⟨h1,h2⟩=>by subst h1;subst h2;exact hk
def PU{n:FuncId}{args:List AV}{σ : ae}{K Kp:AV->ae->Prop}{r:AV}(h:∀ σ,wB P n args σ r)(hk:kM r (.mk:Tg fun r=>K r σ)): y8 P n args σ (.mk:Tg (K,Kp)):=⟨r,fun τ=>h _,hk⟩
def bU{n:FuncId}{args:List AV}{σ : ae}{K Kp:AV->ae->Prop}{R:Out->ae->Prop}(h:dK P n args σ R)(hk:∀ o s,R o s->Me K Kp o s): uB P n args σ (.mk:Tg (K,Kp)):=h.mono hk
def Bj: List AV->List (Nat × Nat × AV)->(List AV->Prop)->Prop
 | z,[],K=>K z
 | z,(off,n,v)::r,K=>v.cells.length=n/\v.cells.all AV.scalar=true/\off+n<=z.length/\Bj (eK z off v.cells) r K
def Bk(z:List AV)(ps:List (Nat × Nat × AV)){K:List AV->Prop}(_:Tg K): Prop:=Bj z ps K
def JR(e:Env)(K:List AV->Prop): ∀(ps:List (Nat × Nat × AX)) (z:List AV),lg z e ps K=Bj z (ps.map fun p=>(p.1,p.2.1,p.2.2.ev e)) K
 | [],z=>rfl
 |(off,n,x)::r,z=>by simp only[lg,Bj,aR,JR e K r]
@[go_sem ↓] def run_build (z:List AV) (ps:List (Nat × Nat × AX)):br.run P (.build z ps) e σ K Kp=Bk z (ps.map fun p=>(p.1,p.2.1,p.2.2.ev e)) (.mk:Tg fun cs=>K (.agg cs) σ):=JR e _ ps z
@[go_sem] def abm (z:List AV) (K:List AV->Prop):Bk z [] (.mk:Tg K)=K z:=_root_.id rfl
@[go_sem] def aaK (z : List AV) (off n : Nat) (v : AV) (r : List (Nat × Nat × AV)) (K : List AV -> Prop) : Bk z ((off, n, v) :: r) (.mk : Tg K) = req (v.cells.length = n /\ v.cells.all AV.scalar = true /\ off + n <= z.length) (.mk : Tg (Bk (eK z off v.cells) r (.mk : Tg K))) := by
  rw[<-dz];simp only[Bk,Bj,and_assoc]
def xV(el:El): List AV->List (Nat × AV)->(List AV->Prop)->Prop
 | z,[],K=>K z
 | z,(i,v)::r,K=>v.fits el=true/\i<z.length/\xV el (z.set i v) r K
def uZ(el:El)(z:List AV)(ps:List (Nat × AV)){K:List AV->Prop}(_:Tg K): Prop:=xV el z ps K
def y9(el:El)(e:Env)(K:List AV->Prop): ∀(ps:List (Nat × AX)) (z:List AV),kr el z e ps K=xV el z (ps.map fun p=>(p.1,p.2.ev e)) K
 | [],z=>rfl
 |(i,x)::r,z=>by simp only[kr,xV,aR,y9 el e K r]
@[go_sem ↓] def Zi (el:El) (z:AV) (n:Nat) (ps:List (Nat × AX)):br.run P (.iG false el z n ps) e σ K Kp=uZ el (List.replicate n z) (ps.map fun p=>(p.1,p.2.ev e)) (.mk:Tg fun xs=>K (.aF true el xs) σ):=y9 el e _ ps _
@[go_sem ↓] def Zj (el:El) (z:AV) (n:Nat) (ps:List (Nat × AX)):br.run P (.iG true el z n ps) e σ K Kp=uZ el (List.replicate n z) (ps.map fun p=>(p.1,p.2.ev e)) (.mk:Tg fun xs=>K (.own el σ.length n 0 n) (σ++[.vec el xs])):=y9 el e _ ps _
@[go_sem] def aaL (z:List AV) (K:List AV->Prop):uZ el z [] (.mk:Tg K)=K z:=_root_.id rfl
@[go_sem] def Zk (z : List AV) (i : Nat) (v : AV) (r : List (Nat × AV)) (K : List AV -> Prop) : uZ el z ((i, v) :: r) (.mk : Tg K) = req (v.fits el = true /\ i < z.length) (.mk : Tg (uZ el (z.set i v) r (.mk : Tg K))) := by
  rw[<-dz];simp only[uZ,xV,and_assoc]
def tj(c:Bool)(el:El)(x:AV)(off:Nat)(ag:Bool)(n:Nat){K:AV->Prop}(_:Tg K): Prop:=c=(off==0 && n==el.sz && ag==el.ag)/\partOf el x off ag n K
@[go_sem] def abn (ag : Bool) (n : Nat) (el : El) (x : AV) (off : Nat) (K : AV -> Prop) : loadT σ ag n (.eA el x off) (.mk : Tg K) = tj (off == 0 && n == el.sz && ag == el.ag) el x off ag n (.mk : Tg K) := by
  simp only[tj,true_and];rfl
@[go_sem] def aew (ag : Bool) (n : Nat) (x : AV) (K : AV -> Prop) : tj true ⟨ag, n⟩ x 0 ag n (.mk : Tg K) = K x := by
  simp[tj,partOf]
@[go_sem] def XF (el : El) (off n : Nat) (cs : List AV) (K : AV -> Prop) (h : (off == 0 && n == el.sz && false == el.ag) = false) : tj false el (.agg cs) off false n (.mk : Tg K) = req (off + n <= el.sz /\ n = 1) (.mk : Tg (K (cs.getD off .undef))) := by
  have hn:¬ (off=0/\n=el.sz/\false=el.ag):=by rintro⟨h1,h2,h3⟩;subst h1;subst h2;rw[<-h3]at h;simp at h
  rw[<-dz];simp only[tj,partOf,if_neg hn,h,true_and];simp only[Bool.false_eq_true,if_false,forall_const,eq_iff_iff];exact⟨fun⟨h1,h2,h3⟩=>⟨⟨h1,h3⟩,h2⟩,fun⟨⟨h1,h3⟩,h2⟩=>⟨h1,h2,h3⟩⟩
def Bl(σ : ae)(T:Option TypeId)(el:El)(o:Option bx)(l m lo n:Nat)(ys:List AV){K:AV->ae->Prop}(_:Tg K): Prop:=match o with
 | some (.cy T' cK xs) => (T' = none \/ T' = T) /\ cK = el /\ m = xs.length /\ lo = 0 /\ n = xs.length /\ gE (xs.length + ys.length) el /\
    K (.own el l (xs.length+ys.length) 0 (xs.length+ys.length)) (σ.set l (.cy T' el (xs++ys)))
 | _=>False
@[go_sem] def abo (T : Option TypeId) (ys : List AV) : dH P (.app T el (.c (.own el l m lo n)) (.c (.aF f el ys))) σ (.mk : Tg (K, Kp)) = req (ys.all (fun a => a.fits el) = true) (.mk : Tg (Bl σ T el (σ[l]?) l m lo n ys (.mk : Tg K))) := by
  rw[<-dz];simp only[dH,br.run,AX.ev,pH,fZ,Bl,true_and];rfl
@[go_sem] def aex (T : Option TypeId) (xs ys : List AV) : Bl σ T el (some (.vec el xs)) l m lo n ys (.mk : Tg K) = req (m = xs.length /\ lo = 0 /\ n = xs.length /\ gE (xs.length + ys.length) el) (.mk : Tg (K (.own el l (xs.length + ys.length) 0 (xs.length + ys.length)) (σ.set l (.vec el (xs ++ ys))))) := by
  rw[<-dz];simp only[Bl,true_and,true_or,and_assoc]
@[go_sem] def adr (t : TypeId) (xs ys : List AV) : Bl σ (some t) el (some (.cy (some t) el xs)) l m lo n ys (.mk : Tg K) = req (m = xs.length /\ lo = 0 /\ n = xs.length /\ gE (xs.length + ys.length) el) (.mk : Tg (K (.own el l (xs.length + ys.length) 0 (xs.length + ys.length)) (σ.set l (.cy (some t) el (xs ++ ys))))) := by
  rw[<-dz];simp only[Bl,true_and,or_true,and_assoc]
@[go_sem] def aaM (y : AV) (ys : List AV) : dH P (.app none el (.c .ai) (.c (.aF f el (y :: ys)))) σ (.mk : Tg (K, Kp)) = req ((y :: ys).all (fun a => a.fits el) = true /\ gE (y :: ys).length el) (.mk : Tg (K (.own el σ.length (y :: ys).length 0 (y :: ys).length) (σ ++ [.vec el (y :: ys)]))) := by
  rw[<-dz];simp only[dH,br.run,AX.ev,pH,fZ,true_and,List.length_cons,Nat.add_eq_zero_iff,Nat.one_ne_zero,and_false,if_false,and_assoc]
@[go_sem] def Zl (t : TypeId) (y : AV) (ys : List AV) : dH P (.app (some t) el (.c .ai) (.c (.aF f el (y :: ys)))) σ (.mk : Tg (K, Kp)) = req ((y :: ys).all (fun a => a.fits el) = true /\ gE (y :: ys).length el) (.mk : Tg (K (.own el σ.length (y :: ys).length 0 (y :: ys).length) (σ ++ [.cy (some t) el (y :: ys)]))) := by
  rw[<-dz];simp only[dH,br.run,AX.ev,pH,fZ,true_and,List.length_cons,Nat.add_eq_zero_iff,Nat.one_ne_zero,and_false,if_false,and_assoc]
def Re{T:Option TypeId}{xs:List AV}(h : σ[l]? = some (.cy T el xs))(hm:m=xs.length)(hn:0<n)(hk:K (.eG el l m lo 0) σ): dH P (.zZ el (.c (.own el l m lo n))) σ (.mk:Tg (K,Kp)):=by
 simp only[dH,br.run,AX.ev,h];exact⟨trivial,trivial,hm,hn,hk⟩
def Om(T:TypeId): dH P (.vq T (.c .iE) (.c (.int .i64 0))) σ (.mk:Tg (K,Kp))=K (.str []) σ:=by
 simp[dH,br.run,AX.ev]
def On {T : TypeId} {xs : List AV} (s : List UInt8) (h : σ[l]? = some (.cy (some T) ⟨false, 1⟩ xs)) (hm : m = xs.length) (hx : xs = s.map fun b => .int .u8 b.toNat) (h0 : s ≠ []) (h2 : s.length <= 2 ^ 62) (ha : a = (s.length : Int)) (hk : K (.str s) (σ.set l .dead)) :
    dH P (.vq T (.c (.eG ⟨false,1⟩ l m 0 0)) (.c (.int .i64 a))) σ (.mk:Tg (K,Kp)):=by
 subst hx;subst ha;have h1:0<s.length:=List.length_pos_iff.2 h0;simp only[dH,br.run,AX.ev,h];refine⟨trivial,trivial,trivial,trivial,hm,by omega,by simp,by simpa using h2,s,?_,hk⟩;rw[aT (by simp)]
def Zm{T:Option TypeId}(h : σ[l]? = some (.bM T cs))(hlt:off<cs.length)(hk:K (.ref l off) σ): dH P (.FE (.c (.ref l off))) σ (.mk:Tg (K,Kp)):=by
 simp only[dH,br.run,AX.ev,h];exact⟨hlt,hk⟩
def Zn{T u:TypeId}(h : σ[l]? = some (.bM (some T) cs))(hlt:liesAt P P.depth T (cs.length / P.cellsOf T) off u 1=true)(hk:K (.ref l off) σ): dH P (.FF u (.c (.ref l off))) σ (.mk:Tg (K,Kp)):=by
 simp only[dH,br.run,AX.ev,h];exact⟨hlt,hk⟩
def Zo{T:Option TypeId}(ng:Bool)(h : σ[l]? = some (.bM T cs))(hk:K (.bool ng.not) σ): dH P (.Dl ng (.c (.ref l off)) (.c (.ref l off))) σ (.mk:Tg (K,Kp)):=by
 simp only[dH,br.run,AX.ev,h];exact⟨trivial,trivial,hk⟩
def Tj (P : Program) (g : FuncId) (v : AV) (σ : ae) {K : AV → ae → Prop} (_ : Tg K) : Prop := (∃ fn, P.funcs[g]? = some fn ∧ (fn.name == "runtime.NumGoroutine") = false ∧ fn.body.isNone = true ∧ Extern.findNext fn = none ∧ Extern.find fn = some Extern.AbiNoEscape.same) ∧ K v σ
@[go_sem ↓] def acj (g:FuncId) (x:AX):br.run P (.CN g x) e σ K Kp=Tj P g (x.ev e) σ (.mk:Tg K):=_root_.id rfl
def Vr(ng:Bool)(k:NK)(x y:AV): dH P (.oT ng k (.c x) (.c y)) σ (.mk:Tg (K,Kp))=(match nh k x y with|some b=>K (.bool (if ng then !b else b)) σ | none=>False):=rfl
def Vs(ng:Bool)(ks:List Kd)(xs ys:List AV): dH P (.oa ng true ks (.c (.agg xs)) (.c (.agg ys))) σ (.mk:Tg (K,Kp))=(match h_ ks xs ys with|some b=>K (.bool (if ng then !b else b)) σ | none=>False):=rfl
@[go_sem] def abp (z : AV) : dH P (.mK el z (.c (.int .i64 a)) (.c (.int .i64 b))) σ (.mk : Tg (K, Kp)) = req (z.fits el = true /\ 0 <= a /\ a <= b /\ b * (el.sz + 1) <= 2 ^ 40) (.mk : Tg (K (.own el σ.length a.toNat 0 a.toNat) (σ ++ [.vec el (List.replicate a.toNat z)]))) := by
  rw[<-dz];simp only[dH,br.run,AX.ev,and_assoc]
@[go_sem] def Yy (xs : List AV) : dH P (.tF el (.c (.aF f el xs)) none (some (.c (.int k' b)))) σ (.mk : Tg (K, Kp)) = req (0 <= b /\ b <= xs.length) (.mk : Tg (K (.aF false el (xs.take b.toNat)) σ)) := by
  rw[<-dz];simp only[dH,br.run,AX.ev,bound,Option.map,and_assoc,true_and,List.drop_zero,Nat.sub_zero]
end
end Go.AM
namespace Go.AM
variable {P:Program}
def JT(ms:List Nat)(r e:Env): Env:=fun t=>if ms.contains t then r t else e t
def puts: List (Nat × AV)->Env->Env
 | [],e=>e
 |(d,v)::l,e=>eC (puts l e) (some d) v
@[go_sem ↓] def Vt (e:Env):puts [] e=e:=_root_.id rfl
@[go_sem ↓] def Tk (d:Nat) (v:AV) (l:List (Nat × AV)) (e:Env):puts ((d,v)::l) e=eC (puts l e) (some d) v:=_root_.id rfl
@[go_sem ↓] def aey (ms:List Nat) (r e:Env) (t:Nat):JT ms r e t=F4 (ms.contains t) (.mk:Tg (r t,e t)):=_root_.id rfl
def Bm(ms:List Nat)(e e':Env): Prop:= ∀ t,ms.contains t=false->e' t=e t
def XG(ms:List Nat)(r e:Env): Bm ms e (JT ms r e):=fun t h=>by simp only[JT,h];rfl
def XH{ms:List Nat}{e e':Env}{d:Nat}{v:AV}(hd:ms.contains d=true)(h:Bm ms e e'): Bm ms e (eC e' (some d) v):=fun t ht=>by
 simp only[eC];split
 ·rename_i e1;subst e1;rw[hd]at ht;cases ht
 ·exact h t ht
def At(l:List (Nat × AV))(e:Env): Prop:= ∀ p ∈ l,e p.1=p.2
@[go_sem] def dU (e:Env):At [] e=True:=by simp[At]
@[go_sem] def dm (d:Nat) (v:AV) (l:List (Nat × AV)) (e:Env):At ((d,v)::l) e=(e d=v/\At l e):=by simp[At]
def PV{ms:List Nat}{e e':Env}(ho:Bm ms e e'): ∀(l:List (Nat × AV)),At l e'->puts l (JT ms e' e)=e'
 | [], _ => by
   funext t
   simp only[puts,JT];split
   ·rfl
   ·rename_i h;exact(ho t (by simpa using h)).symm
 | (d, v) :: l, h => by
   simp only[puts];rw[PV ho l (fun p hp=>h p (cE _ hp))];exact mj (h (d,v) (by simp))
def nO{Q Q':AQ}(h:∀ ex e σ,Q ex e σ->Q' ex e σ): ∀(l:List b_) (e:Env) (σ : ae),eD P Q l e σ->eD P Q' l e σ
 | [],e,σ,hh=>h _ _ _ hh
 |⟨o,d,none⟩::r,e,σ,hh=>qp (fun v s=>nO h r _ _) (fun v s=>h _ _ _) hh
 | ⟨o, d, some (k, b)⟩ :: r, e, σ, hh => by
   simp only[eD]at hh ⊢;split at hh
   ·exact⟨fun ht=>qp (fun v s=>nO h r _ _) (fun v s=>h _ _ _) (hh.1 ht),fun ht=>nO h r _ _ (hh.2 ht)⟩
   ·exact nO h r _ _ hh
   ·exact hh
def F5{K K':Env->ae->Prop}{Q Q':AQ}(hk:∀ e σ,K e σ->K' e σ)(h:∀ ex e σ,Q ex e σ->Q' ex e σ): ∀ ex e σ,qX K Q ex e σ->qX K' Q' ex e σ
 | .normal,_,_=>hk _ _
 | .exit _,_,_=>h _ _ _
 | .goto _,_,_=>h _ _ _
 | .ret,_,_=>h _ _ _
 | .panic _,_,_=>h _ _ _
def Tl{nt:Nat}{ps:List Nat}{ca cb:Code}{f:AV}{a b:AQ->Env->ae->Prop}{Q Q':AQ}(h:∀ ex e σ,Q ex e σ->Q' ex e σ)(e:Env)(σ : ae): Q7 P nt ps ca cb f a b Q e σ->Q7 P nt ps ca cb f a b Q' e σ:=by
 unfold Q7;split
 ·refine fun hh o ho hy=>(hh o ho hy).mono fun out s hq=>?_;cases out with
  | ret r =>
    obtain⟨st,pe,h1,h2,h3⟩:=hq;refine⟨st,pe,h1,h2,?_⟩;split at h3<;>first|exact h _ _ _ h3|exact h3
  | panic v=>exact h _ _ _ hq
 ·exact id
def Rf{jo:List (AX × AX)}{Q Q':AQ}(h:∀ ex e σ,Q ex e σ->Q' ex e σ): ∀ ex e σ,jC jo Q ex e σ->jC jo Q' ex e σ:=fun ex e σ hq=>by
 cases ex with
 | normal=>exact⟨hq.1,h _ _ _ hq.2⟩
 | panic v =>
   simp only[jC]at hq ⊢;split at hq
   ·rename_i hf;rw[if_pos hf];exact fun e'=>h _ _ _ (hq e')
   ·rename_i hf;rw[if_neg hf];exact h _ _ _ hq
 | _=>exact h _ _ _ hq
def y_{c:cI}: ∀ {Q Q':AQ},(∀ ex e σ,Q ex e σ->Q' ex e σ)-> ∀(e:Env) (σ : ae),iU P c Q e σ->iU P c Q' e σ:=by
 induction c with
 | skip=>exact fun h e σ=>h _ _ _
 | region ops=>exact fun h e σ=>nO h ops e σ
 | draw ops jo=>exact fun h e σ=>nO (Rf h) ops e σ
 | seq a b Tb Tc=>exact fun h e σ=>Tb (F5 (fun e σ=>Tc h e σ) h) e σ
 | cond c a b Tb Tc =>
   intro Q Q' h e σ hh;simp only[iU]at hh ⊢;split at hh
   ·exact⟨fun ht=>Tb h _ _ (hh.1 ht),fun ht=>Tc h _ _ (hh.2 ht)⟩
   ·exact hh
 | block id c ih =>
   intro Q Q' h e σ;refine ih (fun ex e σ hq=>?_) e σ;cases ex<;>try exact h _ _ _ hq
   simp only[qY]at hq ⊢;split at hq
   ·rename_i e1;rw[if_pos e1];exact h _ _ _ hq
   ·rename_i e1;rw[if_neg e1];exact h _ _ _ hq
 | loop c ih =>
   rintro Q Q' h e σ ⟨I,hI,hr⟩;exact⟨I,hI,fun n e σ hi=>ih (F5 (fun _ _ h=>h) h) _ _ (hr n e σ hi)⟩
 | exit id=>exact fun h e σ=>h _ _ _
 | ret=>exact fun h e σ=>h _ _ _
 | scope l c r vA ihr =>
   rintro Q Q' h e σ ⟨J,h1,h2⟩
   have hj:∀ (J:Env->ae->Prop) ex e σ,qZ l J Q ex e σ->qZ l J Q' ex e σ:=fun J ex e σ hq=>by
    cases ex<;>first|exact h _ _ _ hq|exact hq
   exact⟨J,vA (hj _) _ _ h1,fun n e σ hi=>ihr (hj _) _ _ (h2 n e σ hi)⟩
 | stop=>exact fun h e σ hh=>hh
 | jv f nt ps ca cb a b _ _=>exact fun h e σ=>Tl h e σ
 | label l=>exact fun h e σ=>h _ _ _
 | goto l=>exact fun h e σ=>h _ _ _
def Zp{α : Type}(ms:List Nat)(cs : α->List (Nat × AV))(S : α->ae)(A : α->Prop)(μ : α->Nat)(e:Env)(x : α)(e':Env)(σ':ae): Prop :=
 ∃ x',A x'/\ μ x' < μ x/\σ'=S x'/\Bm ms e e'/\At (cs x') e'
def bn {c : cI} {Q : AQ} {e : Env} {σ : ae} {α : Type} (ms : List Nat) (cs : α -> List (Nat × AV)) (S : α -> ae) (A : α -> Prop) (μ : α -> Nat) (x0 : α) (h0 : A x0) (xW : σ = S x0) (mE : At (cs x0) e)
    (hr:∀ x r,A x->iU P c (qX (Zp ms cs S A μ e x) Q) (puts (cs x) (JT ms r e)) (S x)):WT P (.mk:Tg (c,Q,e,σ)):=by
 refine⟨fun n e' σ'=> ∃ x,A x/\Bm ms e e'/\At (cs x) e'/\σ'=S x/\ μ x=n,⟨_,x0,h0,fun _ _=>rfl,mE,xW,rfl⟩,?_⟩;rintro n e' σ' ⟨x1,a1,o1,t1,rfl,rfl⟩;have h:=hr x1 e' a1;rw[PV o1 _ t1]at h;refine y_ (fun ex e2 σ2 hq=>?_) _ _ h;cases ex<;>try exact hq
 obtain⟨x',a',hm,hs,ho,ht⟩:=hq;exact⟨_,hm,x',a',ho,ht,hs,rfl⟩
