/- Part. -/
import Derived.Test.YthakfmmgnjpmdaaGreatW09
set_option linter.all false
namespace Go.AM
variable {P:Program}
section
variable (e:Env) (σ : ae) (K Kp:AV->ae->Prop)
def II(o:Option bE)(off:Nat)(ag:Bool)(n:Nat){K:AV->Prop}(_:Tg K): Prop:=match o with
 | some (.jK _ cs)=>off+n<=cs.length/\(ag=false->n=1)/\K (if ag then .agg ((cs.drop off).take n)else cs.getD off .undef)
 | _=>False
@[go_sem] def aeT (ag:Bool) (n l off:Nat) (K:AV->Prop):loadT σ ag n (.ref l off) (.mk:Tg K)=II (σ[l]?) off ag n (.mk:Tg K):=_root_.id rfl
@[go_sem] def agT (cs : List AV) (off n : Nat) (K : AV -> Prop) : II (some (.cells cs)) off false n (.mk : Tg K) = req (off + n <= cs.length /\ n = 1) (.mk : Tg (K (cs.getD off .undef))) := by
  rw[<-ey];simp[II,and_assoc]
@[go_sem] def agU (cs : List AV) (off n : Nat) (K : AV -> Prop) : II (some (.cells cs)) off true n (.mk : Tg K) = req (off + n <= cs.length) (.mk : Tg (K (.agg ((cs.drop off).take n)))) := by
  rw[<-ey];simp[II]
def O_(σ : ae)(l:Nat)(o:Option bE)(off n:Nat)(v:AV){K:ae->Prop}(_:Tg K): Prop:=v.cells.length=n/\v.cells.all AV.scalar=true/\match o with
 | some (.jK T cs)=>off+n<=cs.length/\K (σ.set l (.jK T (fy cs off v.cells)))
 | _=>False
@[go_sem] def aee (n l off:Nat) (v:AV) (K:ae->Prop):storeT σ n (.ref l off) v (.mk:Tg K)=O_ σ l (σ[l]?) off n v (.mk:Tg K):=_root_.id rfl
@[go_sem] def afW (l : Nat) (cs : List AV) (off n : Nat) (v : AV) (K : ae -> Prop) : O_ σ l (some (.cells cs)) off n v (.mk : Tg K) = req (v.cells.length = n /\ v.cells.all AV.scalar = true /\ off + n <= cs.length) (.mk : Tg (K (σ.set l (.cells (fy cs off v.cells))))) := by
  rw[<-ey];simp[O_,and_assoc]
def gD(P:Program)(o:bA)(σ : ae){K Kp:AV->ae->Prop}(_:Tg (K,Kp)): Prop:=o.run P (fun _=> .undef) σ K Kp
@[go_sem ↓] def aeU (off:Nat) (x:AX):bA.run P (.iD off x) e σ K Kp=gD P (.iD off (.c (x.ev e))) σ (.mk:Tg (K,Kp)):=_root_.id rfl
@[go_sem ↓] def aeV (x:AX):bA.run P (.mc x) e σ K Kp=gD P (.mc (.c (x.ev e))) σ (.mk:Tg (K,Kp)):=_root_.id rfl
@[go_sem ↓] def aeW (ag:Bool) (off n:Nat) (x:AX):bA.run P (.field ag off n x) e σ K Kp=gD P (.field ag off n (.c (x.ev e))) σ (.mk:Tg (K,Kp)):=_root_.id rfl
@[go_sem ↓] def aeX (el:El) (arr:Option Nat) (x i:AX):bA.run P (.fh el arr x i) e σ K Kp=gD P (.fh el arr (.c (x.ev e)) (.c (i.ev e))) σ (.mk:Tg (K,Kp)):=_root_.id rfl
@[go_sem ↓] def afX (x i:AX):bA.run P (.jh x i) e σ K Kp=gD P (.jh (.c (x.ev e)) (.c (i.ev e))) σ (.mk:Tg (K,Kp)):=_root_.id rfl
@[go_sem ↓] def afY (k:IntKind) (x:AX):bA.run P (.jE k x) e σ K Kp=gD P (.jE k (.c (x.ev e))) σ (.mk:Tg (K,Kp)):=_root_.id rfl
@[go_sem ↓] def agV (x:AX):bA.run P (.Ch x) e σ K Kp=gD P (.Ch (.c (x.ev e))) σ (.mk:Tg (K,Kp)):=_root_.id rfl
@[go_sem ↓] def adK (el:El) (z:AV) (x i:AX):bA.run P (.po el z x i) e σ K Kp=gD P (.po el z (.c (x.ev e)) (.c (i.ev e))) σ (.mk:Tg (K,Kp)):=_root_.id rfl
@[go_sem ↓] def aeY (x:AX):bA.run P (.panic x) e σ K Kp=gD P (.panic (.c (x.ev e))) σ (.mk:Tg (K,Kp)):=_root_.id rfl
@[go_sem] def afZ (T:TypeId) (v:AV):gD P (.panic (.c (.k8 T v))) σ (.mk:Tg (K,Kp))=Kp (.k8 T v) σ:=_root_.id rfl
@[go_sem ↓] def agW (T:Option TypeId) (el:El) (x i:AX):bA.run P (.app T el x i) e σ K Kp=gD P (.app T el (.c (x.ev e)) (.c (i.ev e))) σ (.mk:Tg (K,Kp)):=_root_.id rfl
@[go_sem ↓] def agX (ng ag:Bool) (ks:List Kd) (x i:AX):bA.run P (.jD ng ag ks x i) e σ K Kp=gD P (.jD ng ag ks (.c (x.ev e)) (.c (i.ev e))) σ (.mk:Tg (K,Kp)):=_root_.id rfl
@[go_sem ↓] def aeZ (ng:Bool) (k:NK) (x i:AX):bA.run P (.rU ng k x i) e σ K Kp=gD P (.rU ng k (.c (x.ev e)) (.c (i.ev e))) σ (.mk:Tg (K,Kp)):=_root_.id rfl
def cO(e:Env): Option AX->Option AX
 | none=>none
 | some x=>some (.c (x.ev e))
@[go_sem] def agY:cO e none=none:=_root_.id rfl
@[go_sem] def agZ (x:AX):cO e (some x)=some (.c (x.ev e)):=_root_.id rfl
@[go_sem ↓] def ag0 (x : AX) (lo hi : Option AX) : bA.run P (.p8 x lo hi) e σ K Kp = gD P (.p8 (.c (x.ev e)) (cO e lo) (cO e hi)) σ (.mk : Tg (K, Kp)) := by
  cases lo<;>cases hi<;>rfl
@[go_sem ↓] def ag1 (el : El) (x : AX) (lo hi : Option AX) : bA.run P (.ov el x lo hi) e σ K Kp = gD P (.ov el (.c (x.ev e)) (cO e lo) (cO e hi)) σ (.mk : Tg (K, Kp)) := by
  cases lo<;>cases hi<;>rfl
variable (k k':IntKind) (a b:Int) (s t:List UInt8) (el:El) (xs cs:List AV) (l m lo n off i:Nat) (f:Bool)
@[go_sem] def acz:gD P (.iD off (.c (.ref l i))) σ (.mk:Tg (K,Kp))=K (.ref l (i+off)) σ:=_root_.id rfl
@[go_sem] def abX (x:AV):gD P (.iD off (.c (.eL el x i))) σ (.mk:Tg (K,Kp))=K (.eL el x (i+off)) σ:=_root_.id rfl
@[go_sem] def acA:gD P (.mc (.c (.ref l i))) σ (.mk:Tg (K,Kp))=K (.ref l i) σ:=_root_.id rfl
@[go_sem] def aef : gD P (.field false off n (.c (.agg cs))) σ (.mk : Tg (K, Kp)) = req (off + n <= cs.length /\ n = 1) (.mk : Tg (K (cs.getD off .undef) σ)) := by
  rw[<-ey];simp[gD,bA.run,AX.ev,and_assoc]
@[go_sem] def acB : gD P (.fh el none (.c (.aG f el xs)) (.c (.int k a))) σ (.mk : Tg (K, Kp)) = req (0 <= a /\ a < xs.length) (.mk : Tg (K (.eL el (xs.getD a.toNat .undef) 0) σ)) := by
  rw[<-ey];simp[gD,bA.run,AX.ev,and_assoc]
@[go_sem] def ag2 : gD P (.jh (.c (.str s)) (.c (.int k a))) σ (.mk : Tg (K, Kp)) = req (0 <= a /\ a < s.length) (.mk : Tg (K (.int .u8 (s.getD a.toNat 0).toNat) σ)) := by
  rw[<-ey];simp[gD,bA.run,AX.ev,and_assoc]
@[go_sem] def ag3:gD P (.jE k (.c (.int k' a))) σ (.mk:Tg (K,Kp))=K (.int k (de k a)) σ:=_root_.id rfl
def toNat_le{a:Int}{n:Nat}(h:0<=a): (a<=((n:Nat):Int))=(a.toNat<=n):=by simp only[eq_iff_iff];omega
@[go_sem] def ae0 : gD P (.p8 (.c (.str s)) (some (.c (.int k a))) (some (.c (.int k' b)))) σ (.mk : Tg (K, Kp)) = req ((0 <= b /\ b <= s.length) /\ 0 <= a /\ a <= b) (.mk : Tg (K (.str ((s.drop a.toNat).take (b.toNat - a.toNat))) σ)) := by
  rw[<-ey];simp only[gD,bA.run,AX.ev,bound,Option.map,and_assoc,eq_iff_iff];constructor
  ·rintro⟨h1,h2,h3,h4,h5⟩;exact⟨h1,h2,h3,by omega,h5⟩
  ·rintro⟨h1,h2,h3,h4,h5⟩;exact⟨h1,h2,h3,by omega,h5⟩
@[go_sem] def ae1 : gD P (.p8 (.c (.str s)) none (some (.c (.int k' b)))) σ (.mk : Tg (K, Kp)) = req (0 <= b /\ b <= s.length) (.mk : Tg (K (.str (s.take b.toNat)) σ)) := by
  rw[<-ey];simp only[gD,bA.run,AX.ev,bound,Option.map,and_assoc,e8,Nat.sub_zero]
@[go_sem] def ae2 : gD P (.p8 (.c (.str s)) (some (.c (.int k a))) none) σ (.mk : Tg (K, Kp)) = req (0 <= a /\ a <= s.length) (.mk : Tg (K (.str (s.drop a.toNat)) σ)) := by
  rw[<-ey];simp only[gD,bA.run,AX.ev,bound,Option.map,and_assoc];have:(s.drop a.toNat).take (s.length-a.toNat)=s.drop a.toNat:=bX (by simp);rw[this]
def pP(P:Program)(n:FuncId)(args:List AV)(σ : ae){K Kp:AV->ae->Prop}(_:Tg (K,Kp)): Prop:=eU P n args σ (O9 K Kp)
def Bf(P:Program)(n:FuncId)(args:List AV)(σ : ae){K Kp:AV->ae->Prop}(_:Tg (K,Kp)): Prop:= ∃ r,(∀ τ,yp P n args (σ++ τ) r)/\K r σ
@[go_sem] def ag4 (n : FuncId) (first args cap : List AV) : Fi P false (.fn (.func n) first cap) args σ (.mk : Tg (K, Kp)) = pP P n (first ++ args ++ cap) σ (.mk : Tg (K, Kp)) := by
  simp[Fi,pP]
@[go_sem] def ag5 (n : FuncId) (first args cap : List AV) : Fi P true (.fn (.func n) first cap) args σ (.mk : Tg (K, Kp)) = Bf P n (first ++ args ++ cap) σ (.mk : Tg (K, Kp)) := by
  simp[Fi,Bf]
def S4{n:FuncId}{args:List AV}{σ : ae}{K Kp:AV->ae->Prop}{r:AV}(h:∀ σ,yp P n args σ r)(hk:jX r (.mk:Tg fun r=>K r σ)): pP P n args σ (.mk:Tg (K,Kp)) :=
 (h σ).mono fun o s ⟨h1,h2⟩=>by subst h1;subst h2;exact hk
def S5{n:FuncId}{args:List AV}{σ : ae}{K Kp:AV->ae->Prop}{r:AV}(h:∀ σ,yp P n args σ r)(hk:jX r (.mk:Tg fun r=>K r σ)): Bf P n args σ (.mk:Tg (K,Kp)):=⟨r,fun τ=>h _,hk⟩
def yC{n:FuncId}{args:List AV}{σ : ae}{K Kp:AV->ae->Prop}{R:Out->ae->Prop}(h:eU P n args σ R)(hk:∀ o s,R o s->O9 K Kp o s): pP P n args σ (.mk:Tg (K,Kp)):=h.mono hk
def Dw: List AV->List (Nat × Nat × AV)->(List AV->Prop)->Prop
 | z,[],K=>K z
 | z,(off,n,v)::r,K=>v.cells.length=n/\v.cells.all AV.scalar=true/\off+n<=z.length/\Dw (fy z off v.cells) r K
def Dx(z:List AV)(ps:List (Nat × Nat × AV)){K:List AV->Prop}(_:Tg K): Prop:=Dw z ps K
def Mj(e:Env)(K:List AV->Prop): ∀(ps:List (Nat × Nat × AX)) (z:List AV),mH z e ps K=Dw z (ps.map fun p=>(p.1,p.2.1,p.2.2.ev e)) K
 | [],z=>rfl
 |(off,n,x)::r,z=>by simp only[mH,Dw,bf,Mj e K r]
@[go_sem ↓] def run_build (z:List AV) (ps:List (Nat × Nat × AX)):bA.run P (.build z ps) e σ K Kp=Dx z (ps.map fun p=>(p.1,p.2.1,p.2.2.ev e)) (.mk:Tg fun cs=>K (.agg cs) σ):=Mj e _ ps z
@[go_sem] def aeg (z:List AV) (K:List AV->Prop):Dx z [] (.mk:Tg K)=K z:=_root_.id rfl
@[go_sem] def adL (z : List AV) (off n : Nat) (v : AV) (r : List (Nat × Nat × AV)) (K : List AV -> Prop) : Dx z ((off, n, v) :: r) (.mk : Tg K) = req (v.cells.length = n /\ v.cells.all AV.scalar = true /\ off + n <= z.length) (.mk : Tg (Dx (fy z off v.cells) r (.mk : Tg K))) := by
  rw[<-ey];simp only[Dx,Dw,and_assoc]
def zM(el:El): List AV->List (Nat × AV)->(List AV->Prop)->Prop
 | z,[],K=>K z
 | z,(i,v)::r,K=>v.fits el=true/\i<z.length/\zM el (z.set i v) r K
def zN(el:El)(z:List AV)(ps:List (Nat × AV)){K:List AV->Prop}(_:Tg K): Prop:=zM el z ps K
def IJ(el:El)(e:Env)(K:List AV->Prop): ∀(ps:List (Nat × AX)) (z:List AV),lH el z e ps K=zM el z (ps.map fun p=>(p.1,p.2.ev e)) K
 | [],z=>rfl
 |(i,x)::r,z=>by simp only[lH,zM,bf,IJ el e K r]
@[go_sem ↓] def acC (el:El) (z:AV) (n:Nat) (ps:List (Nat × AX)):bA.run P (.j7 false el z n ps) e σ K Kp=zN el (List.replicate n z) (ps.map fun p=>(p.1,p.2.ev e)) (.mk:Tg fun xs=>K (.aG true el xs) σ):=IJ el e _ ps _
@[go_sem] def adM (z:List AV) (K:List AV->Prop):zN el z [] (.mk:Tg K)=K z:=_root_.id rfl
@[go_sem] def acD (z : List AV) (i : Nat) (v : AV) (r : List (Nat × AV)) (K : List AV -> Prop) : zN el z ((i, v) :: r) (.mk : Tg K) = req (v.fits el = true /\ i < z.length) (.mk : Tg (zN el (z.set i v) r (.mk : Tg K))) := by
  rw[<-ey];simp only[zN,zM,and_assoc]
def wv(c:Bool)(el:El)(x:AV)(off:Nat)(ag:Bool)(n:Nat){K:AV->Prop}(_:Tg K): Prop:=c=(off==0 && n==el.sz && ag==el.ag)/\partOf el x off ag n K
@[go_sem] def aeh (ag : Bool) (n : Nat) (el : El) (x : AV) (off : Nat) (K : AV -> Prop) : loadT σ ag n (.eL el x off) (.mk : Tg K) = wv (off == 0 && n == el.sz && ag == el.ag) el x off ag n (.mk : Tg K) := by
  simp only[wv,true_and];rfl
@[go_sem] def ag6 (ag : Bool) (n : Nat) (x : AV) (K : AV -> Prop) : wv true ⟨ag, n⟩ x 0 ag n (.mk : Tg K) = K x := by
  simp[wv,partOf]
@[go_sem] def aa0 (el : El) (off n : Nat) (cs : List AV) (K : AV -> Prop) (h : (off == 0 && n == el.sz && false == el.ag) = false) : wv false el (.agg cs) off false n (.mk : Tg K) = req (off + n <= el.sz /\ n = 1) (.mk : Tg (K (cs.getD off .undef))) := by
  have hn:¬ (off=0/\n=el.sz/\false=el.ag):=by rintro⟨h1,h2,h3⟩;subst h1;subst h2;rw[<-h3]at h;simp at h
  rw[<-ey];simp only[wv,partOf,if_neg hn,h,true_and];simp only[aI,if_false,forall_const,eq_iff_iff];exact⟨fun⟨h1,h2,h3⟩=>⟨⟨h1,h3⟩,h2⟩,fun⟨⟨h1,h3⟩,h2⟩=>⟨h1,h2,h3⟩⟩
def Kx(σ : ae)(T:Option TypeId)(el:El)(o:Option bE)(l m lo n:Nat)(ys:List AV){K:AV->ae->Prop}(_:Tg K): Prop:=match o with
 | some (.dW T' dQ xs) => (T' = none \/ T' = T) /\ dQ = el /\ m = xs.length /\ lo = 0 /\ n = xs.length /\ jj (xs.length + ys.length) el /\
    K (.own el l (xs.length+ys.length) 0 (xs.length+ys.length)) (σ.set l (.dW T' el (xs++ys)))
 | _=>False
@[go_sem] def aei (T : Option TypeId) (ys : List AV) : gD P (.app T el (.c (.own el l m lo n)) (.c (.aG f el ys))) σ (.mk : Tg (K, Kp)) = req (ys.all (fun a => a.fits el) = true) (.mk : Tg (Kx σ T el (σ[l]?) l m lo n ys (.mk : Tg K))) := by
  rw[<-ey];simp only[gD,bA.run,AX.ev,uo,ja,Kx,true_and];rfl
@[go_sem] def ag7 (T : Option TypeId) (xs ys : List AV) : Kx σ T el (some (.vec el xs)) l m lo n ys (.mk : Tg K) = req (m = xs.length /\ lo = 0 /\ n = xs.length /\ jj (xs.length + ys.length) el) (.mk : Tg (K (.own el l (xs.length + ys.length) 0 (xs.length + ys.length)) (σ.set l (.vec el (xs ++ ys))))) := by
  rw[<-ey];simp only[Kx,true_and,true_or,and_assoc]
def YR(σ : ae)(x:AV){K:AV->ae->Prop}(_:Tg K): Prop:=w9 σ x K
def Uv(σ : ae)(el:El)(o:Option bE)(l m lo n:Nat){K:AV->ae->Prop}(_:Tg K): Prop:=match o with
 | some (.dW _ bB xs)=>bB=el/\m=xs.length/\lo+n<=m/\K (.aG false el ((xs.drop lo).take n)) (σ.set l .dead)
 | _=>False
@[go_sem ↓] def ag8 (x:AX) (e:Env):bA.run P (.ex .FP [x]) e σ K Kp=YR σ (x.ev e) (.mk:Tg K):=_root_.id rfl
@[go_sem] def af0 : YR σ (.own el l m lo n) (.mk : Tg K) = Uv σ el (σ[l]?) l m lo n (.mk : Tg K) := by
  simp only[YR,w9,Uv];rfl
@[go_sem] def ag9 (T : Option TypeId) (xs : List AV) : Uv σ el (some (.dW T el xs)) l m 0 n (.mk : Tg K) = req (m = xs.length /\ n <= m) (.mk : Tg (K (.aG false el (xs.take n)) (σ.set l .dead))) := by
  rw[<-ey];simp only[Uv,true_and,e8,cE,and_assoc]
@[go_sem] def acE {α : Type} (f : α->AV) (L:List α):(L.map f).take L.length=L.map f:=by rw[<-List.length_map (f:=f),List.take_length]
@[go_sem] def adN (y : AV) (ys : List AV) : gD P (.app none el (.c .ai) (.c (.aG f el (y :: ys)))) σ (.mk : Tg (K, Kp)) = req ((y :: ys).all (fun a => a.fits el) = true /\ jj (y :: ys).length el) (.mk : Tg (K (.own el σ.length (y :: ys).length 0 (y :: ys).length) (σ ++ [.vec el (y :: ys)]))) := by
  rw[<-ey];simp only[gD,bA.run,AX.ev,uo,ja,true_and,List.length_cons,Nat.add_eq_zero_iff,Nat.one_ne_zero,and_false,if_false,and_assoc]
def YS(ng:Bool)(k:NK)(x y:AV): gD P (.rU ng k (.c x) (.c y)) σ (.mk:Tg (K,Kp))=(match rT k x y with|some b=>K (.bool (if ng then !b else b)) σ | none=>False):=rfl
def YT(ng:Bool)(ks:List Kd)(xs ys:List AV): gD P (.jD ng true ks (.c (.agg xs)) (.c (.agg ys))) σ (.mk:Tg (K,Kp))=(match ig ks xs ys with|some b=>K (.bool (if ng then !b else b)) σ | none=>False):=rfl
def YU(ng:Bool)(ks:List Kd)(x y:AV): gD P (.jD ng false ks (.c x) (.c y)) σ (.mk:Tg (K,Kp))=(match ig ks [x] [y]with|some b=>K (.bool (if ng then !b else b)) σ | none=>False):=rfl
@[go_sem] def aej (z : AV) : gD P (.po el z (.c (.int .i64 a)) (.c (.int .i64 b))) σ (.mk : Tg (K, Kp)) = req (z.fits el = true /\ 0 <= a /\ a <= b /\ b * (el.sz + 1) <= 2 ^ 40) (.mk : Tg (K (.own el σ.length a.toNat 0 a.toNat) (σ ++ [.vec el (List.replicate a.toNat z)]))) := by
  rw[<-ey];simp only[gD,bA.run,AX.ev,and_assoc]
@[go_sem] def abY (xs : List AV) : gD P (.ov el (.c (.aG f el xs)) (some (.c (.int k a))) (some (.c (.int k' b)))) σ (.mk : Tg (K, Kp)) = req ((0 <= b /\ b <= xs.length) /\ 0 <= a /\ a <= b) (.mk : Tg (K (.aG false el ((xs.drop a.toNat).take (b.toNat - a.toNat))) σ)) := by
  rw[<-ey];simp only[gD,bA.run,AX.ev,bound,Option.map,and_assoc,true_and,eq_iff_iff];constructor
  ·rintro⟨h1,h2,h3,h4,h5⟩;exact⟨h1,h2,h3,by omega,h5⟩
  ·rintro⟨h1,h2,h3,h4,h5⟩;exact⟨h1,h2,h3,by omega,h5⟩
@[go_sem] def abZ (xs : List AV) : gD P (.ov el (.c (.aG f el xs)) none (some (.c (.int k' b)))) σ (.mk : Tg (K, Kp)) = req (0 <= b /\ b <= xs.length) (.mk : Tg (K (.aG false el (xs.take b.toNat)) σ)) := by
  rw[<-ey];simp only[gD,bA.run,AX.ev,bound,Option.map,and_assoc,true_and,e8,Nat.sub_zero]
@[go_sem] def ab0 (xs : List AV) : gD P (.ov el (.c (.aG f el xs)) (some (.c (.int k a))) none) σ (.mk : Tg (K, Kp)) = req (0 <= a /\ a <= xs.length) (.mk : Tg (K (.aG false el (xs.drop a.toNat)) σ)) := by
  rw[<-ey];simp only[gD,bA.run,AX.ev,bound,Option.map,and_assoc,true_and];have:(xs.drop a.toNat).take (xs.length-a.toNat)=xs.drop a.toNat:=bX (by simp);rw[this]
end
end Go.AM
namespace Go.AM
variable {P:Program}
def Mk(ms:List Nat)(r e:Env): Env:=fun t=>if ms.contains t then r t else e t
def puts: List (Nat × AV)->Env->Env
 | [],e=>e
 |(d,v)::l,e=>upd (puts l e) (some d) v
@[go_sem ↓] def YV (e:Env):puts [] e=e:=_root_.id rfl
@[go_sem ↓] def WL (d:Nat) (v:AV) (l:List (Nat × AV)) (e:Env):puts ((d,v)::l) e=upd (puts l e) (some d) v:=_root_.id rfl
@[go_sem ↓] def ag_ (ms:List Nat) (r e:Env) (t:Nat):Mk ms r e t=IG (ms.contains t) (.mk:Tg (r t,e t)):=_root_.id rfl
def Dy(ms:List Nat)(e e':Env): Prop:= ∀ t,ms.contains t=false->e' t=e t
def aa1(ms:List Nat)(r e:Env): Dy ms e (Mk ms r e):=fun t h=>by simp only[Mk,h];rfl
def aa2{ms:List Nat}{e e':Env}{d:Nat}{v:AV}(hd:ms.contains d=true)(h:Dy ms e e'): Dy ms e (upd e' (some d) v):=fun t ht=>by
 simp only[upd];split
 ·rename_i e1;subst e1;rw[hd]at ht;cases ht
 ·exact h t ht
def At(l:List (Nat × AV))(e:Env): Prop:= ∀ p ∈ l,e p.1=p.2
@[go_sem] def l7 (e:Env):At [] e=True:=by simp[At]
@[go_sem] def kO (d:Nat) (v:AV) (l:List (Nat × AV)) (e:Env):At ((d,v)::l) e=(e d=v/\At l e):=by simp[At]
def S6{ms:List Nat}{e e':Env}(ho:Dy ms e e'): ∀(l:List (Nat × AV)),At l e'->puts l (Mk ms e' e)=e'
 | [], _ => by
   funext t
   simp only[puts,Mk];split
   ·rfl
   ·rename_i h;exact(ho t (by simpa using h)).symm
 | (d, v) :: l, h => by
   simp only[puts];rw[S6 ho l (fun p hp=>h p (da _ hp))];exact upd_same (h (d,v) (by simp))
def pA{Q Q':AQ}(h:∀ ex e σ,Q ex e σ->Q' ex e σ): ∀(l:List cz) (e:Env) (σ : ae),ef P Q l e σ->ef P Q' l e σ
 | [],e,σ,hh=>h _ _ _ hh
 |⟨o,d,none⟩::r,e,σ,hh=>sj (fun v s=>pA h r _ _) (fun v s=>h _ _ _) hh
 | ⟨o, d, some (k, b)⟩ :: r, e, σ, hh => by
   simp only[ef]at hh ⊢;split at hh
   ·exact⟨fun ht=>sj (fun v s=>pA h r _ _) (fun v s=>h _ _ _) (hh.1 ht),fun ht=>pA h r _ _ (hh.2 ht)⟩
   ·exact pA h r _ _ hh
   ·exact hh
def IK{K K':Env->ae->Prop}{Q Q':AQ}(hk:∀ e σ,K e σ->K' e σ)(h:∀ ex e σ,Q ex e σ->Q' ex e σ): ∀ ex e σ,mg K Q ex e σ->mg K' Q' ex e σ
 | .normal,_,_=>hk _ _
 | .exit _,_,_=>h _ _ _
 | .goto _,_,_=>h _ _ _
 | .ret,_,_=>h _ _ _
 | .panic _,_,_=>h _ _ _
def WM{nt:Nat}{ps:List Nat}{ca cb:Code}{f:AV}{a b:AQ->Env->ae->Prop}{Q Q':AQ}(h:∀ ex e σ,Q ex e σ->Q' ex e σ)(e:Env)(σ : ae): Up P nt ps ca cb f a b Q e σ->Up P nt ps ca cb f a b Q' e σ:=by
 unfold Up;split
 ·refine fun hh o ho hy=>(hh o ho hy).mono fun out s hq=>?_;cases out with
  | ret r =>
    obtain⟨st,pe,h1,h2,h3⟩:=hq;refine⟨st,pe,h1,h2,?_⟩;split at h3<;>first|exact h _ _ _ h3|exact h3
  | panic v=>exact h _ _ _ hq
 ·exact id
def Uw{jS:List (AX × AX)}{Q Q':AQ}(h:∀ ex e σ,Q ex e σ->Q' ex e σ): ∀ ex e σ,kf jS Q ex e σ->kf jS Q' ex e σ:=fun ex e σ hq=>by
 cases ex with
 | normal=>exact⟨hq.1,h _ _ _ hq.2⟩
 | panic v =>
   simp only[kf]at hq ⊢;split at hq
   ·rename_i hf;rw[if_pos hf];exact fun e'=>h _ _ _ (hq e')
   ·rename_i hf;rw[if_neg hf];exact h _ _ _ hq
 | _=>exact h _ _ _ hq
def Bg{c:cY}: ∀ {Q Q':AQ},(∀ ex e σ,Q ex e σ->Q' ex e σ)-> ∀(e:Env) (σ : ae),iu P c Q e σ->iu P c Q' e σ:=by
 induction c with
 | skip=>exact fun h e σ=>h _ _ _
 | region ops=>exact fun h e σ=>pA h ops e σ
 | draw ops jS=>exact fun h e σ=>pA (Uw h) ops e σ
 | seq a b WG WH=>exact fun h e σ=>WG (IK (fun e σ=>WH h e σ) h) e σ
 | cond c a b WG WH =>
   intro Q Q' h e σ hh;simp only[iu]at hh ⊢;split at hh
   ·exact⟨fun ht=>WG h _ _ (hh.1 ht),fun ht=>WH h _ _ (hh.2 ht)⟩
   ·exact hh
 | block id c ih =>
   intro Q Q' h e σ;refine ih (fun ex e σ hq=>?_) e σ;cases ex<;>try exact h _ _ _ hq
   simp only[s7]at hq ⊢;split at hq
   ·rename_i e1;rw[if_pos e1];exact h _ _ _ hq
   ·rename_i e1;rw[if_neg e1];exact h _ _ _ hq
 | loop c ih =>
   rintro Q Q' h e σ ⟨I,hI,hr⟩;exact⟨I,hI,fun n e σ hi=>ih (IK (fun _ _ h=>h) h) _ _ (hr n e σ hi)⟩
 | exit id=>exact fun h e σ=>h _ _ _
 | ret=>exact fun h e σ=>h _ _ _
 | scope l c r ihc ihr =>
   rintro Q Q' h e σ ⟨J,h1,h2⟩
   have hj:∀ (J:Env->ae->Prop) ex e σ,uQ l J Q ex e σ->uQ l J Q' ex e σ:=fun J ex e σ hq=>by
    cases ex<;>first|exact h _ _ _ hq|exact hq
   exact⟨J,ihc (hj _) _ _ h1,fun n e σ hi=>ihr (hj _) _ _ (h2 n e σ hi)⟩
 | stop=>exact fun h e σ hh=>hh
 | mz f nt ps ca cb a b _ _=>exact fun h e σ=>WM h e σ
 | label l=>exact fun h e σ=>h _ _ _
 | goto l=>exact fun h e σ=>h _ _ _
def acF{α : Type}(ms:List Nat)(cs : α->List (Nat × AV))(S : α->ae)(A : α->Prop)(μ : α->Nat)(e:Env)(x : α)(e':Env)(σ':ae): Prop :=
 ∃ x',A x'/\ μ x' < μ x/\σ'=S x'/\Dy ms e e'/\At (cs x') e'
def aX {c : cY} {Q : AQ} {e : Env} {σ : ae} {α : Type} (ms : List Nat) (cs : α -> List (Nat × AV)) (S : α -> ae) (A : α -> Prop) (μ : α -> Nat) (x0 : α) (h0 : A x0) (gE : σ = S x0) (gV : At (cs x0) e)
    (hr:∀ x r,A x->iu P c (mg (acF ms cs S A μ e x) Q) (puts (cs x) (Mk ms r e)) (S x)):aaA P (.mk:Tg (c,Q,e,σ)):=by
 refine⟨fun n e' σ'=> ∃ x,A x/\Dy ms e e'/\At (cs x) e'/\σ'=S x/\ μ x=n,⟨_,x0,h0,fun _ _=>rfl,gV,gE,rfl⟩,?_⟩;rintro n e' σ' ⟨x1,a1,o1,t1,rfl,rfl⟩;have h:=hr x1 e' a1;rw[S6 o1 _ t1]at h;refine Bg (fun ex e2 σ2 hq=>?_) _ _ h;cases ex<;>try exact hq
 obtain⟨x',a',hm,hs,ho,ht⟩:=hq;exact⟨_,hm,x',a',ho,ht,hs,rfl⟩
