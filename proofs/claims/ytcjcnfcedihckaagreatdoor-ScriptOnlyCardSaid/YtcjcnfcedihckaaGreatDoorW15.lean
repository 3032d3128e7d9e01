/- Part. -/
import Derived.Test.YtcjcnfcedihckaaGreatDoorW14
import Derived.Test.YtcjcnfcedihckaaGreatDoorChecked
import Derived.KernelRfl
set_option linter.all false
namespace Go.AM
variable {P:Program}
def Mc{n:Int}(h:0<=n)(h':n<=255): fE .u8 n=n:=by
 show IntKind.wrap .u8 n=n;simp[IntKind.wrap,IntKind.bits,IntKind.signed];omega
def JG{n:Int}(h:0<=n)(h':n<18446744073709551616): fE .u64 n=n:=by
 show IntKind.wrap .u64 n=n;simp[IntKind.wrap,IntKind.bits,IntKind.signed];omega
attribute [go_sem] JC Mc JG
attribute [go_sem_proc] Nat.reduceAdd Nat.reduceBEq
attribute [go_sem_proc ↓] reduceIte
def Md{s:List UInt8}{i:Nat}(h:i<s.length): (⟨s.toArray⟩:ByteArray).get! i=s.getD i 0:=by
 simp only[ByteArray.get!];rw[getElem!_pos _ i (by simpa using h),aj,aL h];simp
def EG(s:List UInt8)(pos:Nat): Nat:=(Utf8.decode ⟨s.toArray⟩ pos).1
def decode_ascii{s:List UInt8}{pos:Nat}(h:pos<s.length)(ha:(s.getD pos 0).toNat<128): Utf8.decode ⟨s.toArray⟩ pos=((s.getD pos 0).toNat,1):=by
 unfold Utf8.decode;simp only[di,Md h];rw[if_pos ha]
def Oo{s:List UInt8}{pos:Nat}(h:pos<s.length)(ha:128<=(s.getD pos 0).toNat): 128<=EG s pos:=by
 unfold EG Utf8.decode;simp only[di,Md h];rw[if_neg (by omega)];have he:128<=Utf8.runeError:=by decide
 split
 ·split<;>first|assumption|exact he
 ·split
  ·split
   ·rename_i h2;simp only[ge_iff_le,aq,decide_eq_true_eq]at h2;exact cB (by omega) h2.1
   ·exact he
  ·split
   ·split
    ·rename_i h2;simp only[ge_iff_le,aq,decide_eq_true_eq]at h2;exact cB (by omega) h2.1
    ·exact he
   ·exact he
noncomputable def jN:BinOp->IntKind->Int->Int->Int:=Classical.choose (⟨mA,rfl⟩:∃ f,f=mA)
def lY: jN=mA:=Classical.choose_spec (⟨mA,rfl⟩:∃ f,f=mA)
section
variable (K:AV->Prop) (k:IntKind) (a b:Int) (s t:List UInt8)
@[go_sem] def ae3:iq .and (.int k a) (.int k b) (.mk:Tg K)=K (.int k (jN .and k a b)):=by rw[lY];simp[iq,jD]
@[go_sem] def af3:iq .or (.int k a) (.int k b) (.mk:Tg K)=K (.int k (jN .or k a b)):=by rw[lY];simp[iq,jD]
@[go_sem] def ae4:iq .xor (.int k a) (.int k b) (.mk:Tg K)=K (.int k (jN .xor k a b)):=by rw[lY];simp[iq,jD]
@[go_sem] def acw:iq .andNot (.int k a) (.int k b) (.mk:Tg K)=K (.int k (jN .andNot k a b)):=by rw[lY];simp[iq,jD]
@[go_sem] def ae5 (k':IntKind):iq .shl (.int k a) (.int k' b) (.mk:Tg K)=req (0<=b) (.mk:Tg (K (.int k (fE k (a*2 ^ (Nat.min b.toNat k.bits)))))):=by rw[<-dU];simp[iq,jD]
@[go_sem] def ae6 (k':IntKind):iq .shr (.int k a) (.int k' b) (.mk:Tg K)=req (0<=b) (.mk:Tg (K (.int k (a.fdiv (2 ^ (Nat.min b.toNat k.bits)))))):=by rw[<-dU];simp[iq,jD]
@[go_sem] def af4:unT .neg (.int k a) (.mk:Tg K)=K (.int k (fE k (0-a))):=_root_.id rfl
end
section
variable (σ : ae) (K Kp:AV->ae->Prop)
variable (k k':IntKind) (a b:Int) (s t:List UInt8) (el:El) (xs cs:List AV) (l m lo n off i:Nat) (f:Bool)
def YC(el:El)(o:Option aY)(l m j:Nat){K:AV->Prop}(_:Tg K): Prop:=match o with
 | some (.cy _ bg xs)=>bg=el/\m=xs.length/\K (.eD el l m j 0)
 | _=>False
@[go_sem] def aa7 : d_ P (.f_ el none (.c (.own el l m lo n)) (.c (.int k a))) σ (.mk : Tg (K, Kp)) = req (0 <= a /\ a < n) (.mk : Tg (YC el (σ[l]?) l m (lo + a.toNat) (.mk : Tg fun v => K v σ))) := by
  rw[<-dU];simp only[d_,bp.run,AX.ev,YC,true_and,and_assoc];rfl
@[go_sem] def agd (K : AV -> Prop) : YC el (some (.vec el xs)) l m i (.mk : Tg K) = req (m = xs.length) (.mk : Tg (K (.eD el l m i 0))) := by
  rw[<-dU];simp[YC]
@[go_sem] def adV (ln : Nat) : d_ P (.yd ⟨false, 1⟩ ln (.c (.agg cs)) (.c (.int k a))) σ (.mk : Tg (K, Kp)) = req (0 <= a /\ a < ln /\ a.toNat + 1 <= cs.length) (.mk : Tg (K (cs.getD a.toNat .undef) σ)) := by
  rw[<-dU];simp[d_,bp.run,AX.ev,and_assoc]
@[go_sem] def Zm (off n : Nat) (cs : List AV) (K : AV -> Prop) (h : (off == 0 && n == el.sz && true == el.ag) = false) : uj false el (.agg cs) off true n (.mk : Tg K) = req (off + n <= el.sz) (.mk : Tg (K (.agg ((cs.drop off).take n)))) := by
  have hn:¬ (off=0/\n=el.sz/\true=el.ag):=by rintro⟨h1,h2,h3⟩;subst h1;subst h2;rw[<-h3]at h;simp at h
  rw[<-dU];simp only[uj,partOf,if_neg hn,h,true_and];simp
def stV(σ : ae)(el:El)(l:Nat)(o:Option aY)(m i off n:Nat)(v:AV){K:ae->Prop}(_:Tg K): Prop:=v.cells.length=n/\v.cells.all AV.scalar=true/\match o with
 | some (.cy T bj xs) => bj = el /\ m = xs.length /\ i < xs.length /\ off + n <= el.sz /\ (el.ag = false -> v.fits el = true) /\
    K (σ.set l (.cy T el (xs.set i (if el.ag then .agg (ew (xs.getD i .undef).cells off v.cells)else v))))
 | _=>False
@[go_sem] def acy (v:AV) (K:ae->Prop):storeT σ n (.eD el l m i off) v (.mk:Tg K)=stV σ el l (σ[l]?) m i off n v (.mk:Tg K):=_root_.id rfl
@[go_sem] def age (v : AV) (K : ae -> Prop) : stV σ el l (some (.vec el xs)) m i off n v (.mk : Tg K) = req (v.cells.length = n /\ v.cells.all AV.scalar = true /\ m = xs.length /\ i < xs.length /\ off + n <= el.sz /\ (el.ag = false -> v.fits el = true)) (.mk : Tg (K (σ.set l (.vec el (xs.set i (if el.ag then .agg (ew (xs.getD i .undef).cells off v.cells) else v)))))) := by
  rw[<-dU];simp only[stV,true_and,and_assoc]
def YD(σ : ae)(el:El)(o:Option aY)(l m lo n:Nat)(x y:Option AV){K:AV->ae->Prop}(_:Tg K): Prop:=match o with
 | some (.cy _ bg xs)=>bg=el/\m=xs.length/\lo+n<=m/\bound y n n fun h=>bound x 0 h fun k=>K (.own el l m (lo+k) (h-k)) σ
 | _=>False
@[go_sem] def ac7 (x y : Option AX) : d_ P (.uz el (.c (.own el l m lo n)) x y) σ (.mk : Tg (K, Kp)) = YD σ el (σ[l]?) l m lo n (x.map (AX.ev fun _ => .undef)) (y.map (AX.ev fun _ => .undef)) (.mk : Tg K) := by
  simp only[d_,bp.run,AX.ev,YD,true_and];rfl
@[go_sem] def agf : YD σ el (some (.vec el xs)) l m lo n none (some (.int k' b)) (.mk : Tg K) = req (m = xs.length /\ lo + n <= m /\ 0 <= b /\ b <= n) (.mk : Tg (K (.own el l m lo b.toNat) σ)) := by
  rw[<-dU];simp only[YD,bound,and_assoc,true_and,di,Nat.sub_zero]
def Rw(o:Option aY)(m lo n:Nat){K:AV->Prop}(_:Tg K): Prop:=match o with
 | some (.cy _ el xs)=>el=⟨false,1⟩/\m=xs.length/\ ∃ s:List UInt8,(xs.drop lo).take n=s.map (fun b=>AV.int .u8 b.toNat)/\K (.str s)
 | _=>False
@[go_sem] def ac8 : d_ P (.Bl (.c (.own ⟨false, 1⟩ l m lo n))) σ (.mk : Tg (K, Kp)) = Rw (σ[l]?) m lo n (.mk : Tg fun v => K v σ) := by
  simp only[d_,bp.run,AX.ev,fM,Rw,true_and];rfl
def Rx{K:AV->Prop}{xs:List AV}{m n:Nat}(s:List UInt8)(hx:xs=s.map fun b=>AV.int .u8 b.toNat)(hm:m=xs.length)(hn:n=xs.length)(hk:K (.str s)): Rw (some (.vec ⟨false,1⟩ xs)) m 0 n (.mk:Tg K) :=
 ⟨rfl,hm,s,by rw[hn,<-hx];simp,hk⟩
@[go_sem] def aap (t : TypeId) (c : UInt8) : d_ P (.app (some t) ⟨false, 1⟩ (.c .au) (.c (.str (c :: s)))) σ (.mk : Tg (K, Kp)) = req (fJ (s.length + 1) ⟨false, 1⟩) (.mk : Tg (K (.own ⟨false, 1⟩ σ.length (s.length + 1) 0 (s.length + 1)) (σ ++ [.cy (some t) ⟨false, 1⟩ ((c :: s).map fun b => .int .u8 b.toNat)]))) := by
  rw[<-dU];have h:((c::s).map fun b=>AV.int .u8 b.toNat).all (fun a=>a.fits ⟨false,1⟩)=true:=by simp[AV.fits]
  simp only[d_,bp.run,AX.ev,oF,fM,true_and,h,bY,List.length_cons,Nat.add_eq_zero_iff,Nat.one_ne_zero,and_false,if_false]
@[go_sem] def Zn (T : Option TypeId) : d_ P (.app T ⟨false, 1⟩ (.c .au) (.c (.str []))) σ (.mk : Tg (K, Kp)) = K .au σ := by
  simp[d_,bp.run,AX.ev,oF,fM]
@[go_sem] def aa8 (T : Option TypeId) : d_ P (.app T ⟨false, 1⟩ (.c (.own ⟨false, 1⟩ l m lo n)) (.c (.str s))) σ (.mk : Tg (K, Kp)) = BO σ T ⟨false, 1⟩ (σ[l]?) l m lo n (s.map fun b => .int .u8 b.toNat) (.mk : Tg K) := by
  have:((s.map fun b=>AV.int .u8 b.toNat).all fun a=>a.fits ⟨false,1⟩)=true:=by simp[AV.fits]
  simp only[d_,bp.run,AX.ev,oF,fM,BO,true_and,this];rfl
def ri(ng:Bool)(acc:Bool)(ks:List Kd)(xs ys:List AV){K:AV->Prop}(_:Tg K): Prop:=match ij ks xs ys with
 | some c=>K (.bool (if ng then !(acc && c)else acc && c))
 | none=>False
def WN(acc:Bool)(K:AV->Prop): ri false acc [] [] [] (.mk:Tg K)=K (.bool acc):=by simp[ri,ij]
def Ua(acc:Bool)(K:AV->Prop): ri true acc [] [] [] (.mk:Tg K)=K (.bool (!acc)):=by simp[ri,ij]
def BS(ng acc c:Bool)(kd:Kd)(x y:AV)(ks:List Kd)(xs ys:List AV)(K:AV->Prop)(h:LA kd x y=some c): ri ng acc (kd::ks) (x::xs) (y::ys) (.mk:Tg K)=ri ng (acc && c) ks xs ys (.mk:Tg K):=by
 simp only[ri,ij,h];cases ij ks xs ys<;>simp[Bool.and_assoc]
attribute [go_sem] WN Ua
@[go_sem] def agh (ng acc:Bool) (ks:List Kd) (xs ys:List AV) (K:AV->Prop):ri ng acc (.i::ks) (.int k a::xs) (.int k b::ys) (.mk:Tg K)=ri ng (acc && (a==b)) ks xs ys (.mk:Tg K):=BS _ _ _ _ _ _ _ _ _ _ (by simp[LA])
@[go_sem] def agi (ng acc:Bool) (ks:List Kd) (xs ys:List AV) (K:AV->Prop):ri ng acc (.s::ks) (.str s::xs) (.str t::ys) (.mk:Tg K)=ri ng (acc && (s==t)) ks xs ys (.mk:Tg K):=BS _ _ _ _ _ _ _ _ _ _ rfl
@[go_sem] def agj (ng acc p q:Bool) (ks:List Kd) (xs ys:List AV) (K:AV->Prop):ri ng acc (.b::ks) (.bool p::xs) (.bool q::ys) (.mk:Tg K)=ri ng (acc && (p==q)) ks xs ys (.mk:Tg K):=BS _ _ _ _ _ _ _ _ _ _ rfl
@[go_sem] def adW (ng : Bool) (ks : List Kd) (xs ys : List AV) : d_ P (.rG ng true ks (.c (.agg xs)) (.c (.agg ys))) σ (.mk : Tg (K, Kp)) = ri ng true ks xs ys (.mk : Tg fun v => K v σ) := by
  rw[WK];simp only[ri];cases ij ks xs ys<;>simp
def WO(ng:Bool)(o:Option Bool){K:AV->Prop}(_:Tg K): Prop:=match o with
 | some c=>K (.bool (if ng then !c else c))
 | none=>False
@[go_sem] def agk (c:Bool) (K:AV->Prop):WO false (some c) (.mk:Tg K)=K (.bool c):=_root_.id rfl
@[go_sem] def agl (c:Bool) (K:AV->Prop):WO true (some c) (.mk:Tg K)=K (.bool (!c)):=_root_.id rfl
@[go_sem] def adX (ng : Bool) (kn : NK) (x y : AV) : d_ P (.pL ng kn (.c x) (.c y)) σ (.mk : Tg (K, Kp)) = WO ng (nk kn x y) (.mk : Tg fun v => K v σ) := by
  rw[WJ];rfl
end
def WQ{l:Nat}{c r:de}{Q:AQ}{e:Env}{σ : ae}(h:i_ P c (sv l (fun _ _=>False) Q) e σ): L9 P (.mk:Tg (l,c,r,Q,e,σ)) :=
 ⟨fun _ _ _=>False,zM (fun ex e σ hq=>by cases ex<;>first|exact hq|exact hq.2.elim) _ _ h,fun _ _ _ h=>h.elim⟩
@[go_sem ↓] def adY (l:Nat) (J:Env->ae->Prop) (Q:AQ) (e:Env) (σ : ae):sv l J Q .ret e σ = Q .ret e σ:=_root_.id rfl
@[go_sem ↓] def acz (l:Nat) (J:Env->ae->Prop) (Q:AQ) (v:AV) (e:Env) (σ : ae):sv l J Q (.panic v) e σ = Q (.panic v) e σ:=_root_.id rfl
@[go_sem] def KW {α : Type} (τ : List α) (c : α):(τ++[c])[τ.length]? = some c:=by simp
def WR{ms ms':List Nat}{r e e':Env}(hs:ms'.all (fun t=>ms.contains t)=true)(h:BP ms e e'): BP ms e (JE ms' r e'):=fun t ht=>by
 simp only[JE];split
 ·rename_i h1;rw[aW]at hs;have:=hs t (by simpa using h1);rw[ht]at this;cases this
 ·exact h t ht
@[go_sem ↓] def aa9 (e:Env):oY [] e=True:=_root_.id rfl
@[go_sem ↓] def aaq (x y:AX) (r:List (AX × AX)) (e:Env):oY ((x,y)::r) e=(qx (x.ev e) (y.ev e)/\oY r e):=_root_.id rfl
@[go_sem] def adZ (el:El) (x:AV) (o:Nat) (q:AV):qx (.dO el x o) q=True:=by simp[qx,AV.obj]
@[go_sem] def ad0 (l k a b:Nat):qx (.ref l a) (.ref k b)=(l≠k):=by simp only[qx,AV.obj,Option.some.injEq];exact propext ⟨fun h e=>h l rfl e.symm,fun h x e1 e2=>h (e1.trans e2.symm)⟩
section
variable {α β : Type} (a b c : α) (l m:List α) (f : α-> β) (n:Nat)
def aa_: (a::l)[0]? = some a:=_root_.id rfl
def abb: (a::l)[n+1]? = l[n]?:=_root_.id rfl
def abd: (a::l).set 0 b=b::l:=_root_.id rfl
def abe: (a::l).set (n+1) b=a::l.set n b:=_root_.id rfl
def Zo: (a::l).getD 0 b=a:=_root_.id rfl
def Zp: (a::l).getD (n+1) b=l.getD n b:=_root_.id rfl
def abf: (a::l).length=l.length+1:=_root_.id rfl
def abg: ([]:List α).length=0:=_root_.id rfl
def Zq: l.drop 0=l:=_root_.id rfl
def Zr: (a::l).drop (n+1)=l.drop n:=_root_.id rfl
def Zs: l.take 0=[]:=_root_.id rfl
def Zt: (a::l).take (n+1)=a::l.take n:=_root_.id rfl
def abh: (a::l).map f=f a::l.map f:=_root_.id rfl
def abi: ([]:List α).map f=[]:=_root_.id rfl
def abj: (a::l)++m=a::(l++m):=_root_.id rfl
def abk: []++m=m:=_root_.id rfl
def abl: l++[]=l:=bS l
def abm: List.replicate 0 a=[]:=_root_.id rfl
def abn: List.replicate (n+1) a=a::List.replicate n a:=_root_.id rfl
end
def Zu(cs:List AV)(i:Nat): ew cs i []=cs:=by cases cs<;>exact _root_.id rfl
def Zv(cs:List AV)(i:Nat)(a:AV)(l:List AV): ew cs i (a::l)=ew (cs.set i a) (i+1) l:=by cases cs<;>exact _root_.id rfl
def WS(cs:List AV): (AV.agg cs).cells=cs:=_root_.id rfl
def WT(k:IntKind)(n:Int): (AV.int k n).cells=[.int k n]:=_root_.id rfl
def WU(b:Bool): (AV.bool b).cells=[.bool b]:=_root_.id rfl
def WV(s:List UInt8): (AV.str s).cells=[.str s]:=_root_.id rfl
def WW(f:Bool)(el:El)(xs:List AV): (AV.aO f el xs).cells=[.aO f el xs]:=_root_.id rfl
def WX: AV.au.cells=[.au]:=_root_.id rfl
def WY(el:El)(l m lo n:Nat): (AV.own el l m lo n).cells=[.own el l m lo n]:=_root_.id rfl
def WZ(l o:Nat): (AV.ref l o).cells=[.ref l o]:=_root_.id rfl
def abo(l o:Nat): nk .p (.ref l o) .iM=some false:=_root_.id rfl
def abp: nk .p .iM .iM=some true:=_root_.id rfl
def Zw(n m:Nat)(l:List Nat): (n::l).contains m=(m==n || l.contains m):=List.contains_cons
def Zx(m:Nat): ([]:List Nat).contains m=false:=_root_.id rfl
def W0: (false==true)=false:=_root_.id rfl
def getD_map{α : Type}[Inhabited α](f : α->AV)(l:List α)(i:Nat)(h:i<l.length): (l.map f).getD i .undef=f (l.getD i default):=by
 rw[aj,aj,List.getElem?_map,aL h];rfl
section
variable (e:Env) (σ : ae) (K Kp:AV->ae->Prop)
def EH(x:AV)(σ : ae){K:AV->ae->Prop}(_:Tg K): Prop:=match x with
 | .str s=>K (.ref σ.length 0) (σ++[.iR s 0])
 | _=>False
@[go_sem ↓] def ae7 (x : AX) : bp.run P (.Ek x) e σ K Kp = EH (x.ev e) σ (.mk : Tg K) := by
  simp only[bp.run,EH];rfl
@[go_sem] def agm (s:List UInt8):EH (.str s) σ (.mk:Tg K)=K (.ref σ.length 0) (σ++[.iR s 0]):=_root_.id rfl
def Ry(x:AV)(σ : ae){K:AV->ae->Prop}(_:Tg K): Prop:=match x with
 | .ref l 0 => match σ[l]? with
   | some (.iR s pos) =>
     if pos<s.length then K (.bO [.bool true,.int .i64 pos,.int .i32 (Utf8.decode ⟨s.toArray⟩ pos).1]) (σ.set l (.iR s (pos+(Utf8.decode ⟨s.toArray⟩ pos).2)))
     else K (.bO [.bool false]) σ
   | _=>False
 | _=>False
@[go_sem ↓] def ae8 (x : AX) : bp.run P (.Em x) e σ K Kp = Ry (x.ev e) σ (.mk : Tg K) := by
  simp only[bp.run,Ry];rfl
def BU (o : Option aY) (l : Nat) (σ : ae) {K : AV -> ae -> Prop} (_ : Tg K) : Prop := match o with
    | some (.iR s pos) =>
      if pos<s.length then K (.bO [.bool true,.int .i64 pos,.int .i32 (Utf8.decode ⟨s.toArray⟩ pos).1]) (σ.set l (.iR s (pos+(Utf8.decode ⟨s.toArray⟩ pos).2)))
      else K (.bO [.bool false]) σ
    | _=>False
@[go_sem] def agn (l : Nat) : Ry (.ref l 0) σ (.mk : Tg K) = BU (σ[l]?) l σ (.mk : Tg K) := by
  simp only[Ry,BU]
@[go_sem] def ae9 (l : Nat) (s : List UInt8) (pos : Nat) (h : s.length <= pos) : BU (some (.iR s pos)) l σ (.mk : Tg K) = K (.bO [.bool false]) σ := by
  simp only[BU];rw[if_neg (by omega)]
def PS (l : Nat) (s : List UInt8) (pos : Nat) (h : pos < s.length) : BU (some (.iR s pos)) l σ (.mk : Tg K) =
    K (.bO [.bool true,.int .i64 pos,.int .i32 (Utf8.decode ⟨s.toArray⟩ pos).1]) (σ.set l (.iR s (pos+(Utf8.decode ⟨s.toArray⟩ pos).2))):=by
 simp only[BU];rw[if_pos h]
@[go_sem] def ac9 (l:Nat) (s:List UInt8) (pos:Nat) (h:pos<s.length) (ha:(s.getD pos 0).toNat<128):BU (some (.iR s pos)) l σ (.mk:Tg K) =
 K (.bO [.bool true,.int .i64 pos,.int .i32 (s.getD pos 0).toNat]) (σ.set l (.iR s (pos+1))):=by
  rw[PS _ _ _ _ _ h,decode_ascii h ha]
@[go_sem] def ad1 (l:Nat) (s:List UInt8) (pos:Nat) (h:pos<s.length) (ha:128<=(s.getD pos 0).toNat):BU (some (.iR s pos)) l σ (.mk:Tg K) =
 K (.bO [.bool true,.int .i64 pos,.int .i32 (EG s pos:Nat)]) (σ.set l (.iR s (pos+(Utf8.decode ⟨s.toArray⟩ pos).2))):=by
  rw[PS _ _ _ _ _ h];rfl
end
def eP(P:Program)(c:de)(rs:List sx)(args:List AV)(σ : ae)(R:Out->ae->Prop): Prop :=
 ∀ Q:AQ,(∀ e σ,Q .ret e σ = qf e σ rs fun vs=>R (.ret (oneOf vs)) σ)->(∀ e σ,Q .normal e σ = qf e σ rs fun vs=>R (.ret (oneOf vs)) σ)->(∀ v e σ,Q (.panic v) e σ = R (.panic v) σ)->i_ P c Q (sy args) σ
def eP.go{c:de}{rs:List sx}{args:List AV}{σ : ae}{R:Out->ae->Prop}(h:eP P c rs args σ R): i_ P c (WE rs R) (sy args) σ :=
 h _ (fun _ _=>rfl) (fun _ _=>rfl) (fun _ _ _=>rfl)
@[go_sem ↓] def ad2 (e:Env) (σ : ae) (t:Nat) (ag:Bool) (n:Nat) (r:List sx) (K:List AV->Prop):qf e σ (.cell t ag n::r) K=loadT σ ag n (e t) (.mk:Tg fun v=>kD v (.mk:Tg fun v=>qf e σ r fun vs=>K (v::vs))):=_root_.id rfl
def YE{p K:Prop}(h:p)(hk:K): req p (.mk:Tg K):=⟨h,fun _=>hk⟩
def b_{σ : ae}{a b:AV}{vs rs:List AV}(h:a::b::vs=rs)(hp:AV.cA rs=true): ∃ r0,Out.ret (oneOf (a::b::vs))=Out.ret r0/\View σ r0 (.bO rs):=⟨_,rfl,by subst h;exact .refl _ hp⟩
def iw{σ : ae}{v r:AV}(hv:View σ v r): ∃ r0,Out.ret (oneOf [v])=Out.ret r0/\View σ r0 r:=⟨_,rfl,hv⟩
def cG{σ : ae}{a b:AV}{vs rs:List AV}(hv:bL σ (a::b::vs) rs): ∃ r0,Out.ret (oneOf (a::b::vs))=Out.ret r0/\View σ r0 (.bO rs):=⟨_,rfl,View.aeZ hv⟩
def View.eqv{σ : ae}{a b:AV}(h:a=b)(hp:b.dz=true): View σ a b:=by subst h;exact .refl _ hp
def aU{σ : ae}{v r:AV}(h:v=r)(hp:r.dz=true): ∃ r0,Out.ret (oneOf [v])=Out.ret r0/\View σ r0 r:=⟨_,rfl,.eqv h hp⟩
def Gd {r : AV} {qu ds : List AV} {τ : ae} (hv : r = .bO []) (hd : bL (.dead :: τ) qu ds) :
    ∃ r0 Ub Me,Out.ret (oneOf [])=Out.ret r0/\aY.cells qu:: τ = aY.cells Ub::Me/\View (.dead::Me) r0 r/\bL (.dead::Me) Ub ds:=⟨_,_,_,rfl,rfl,.eqv hv.symm (by subst hv;rfl),hd⟩
end Go.AM
namespace Go.AM
variable {P:Program}
@[go_sem ↓] def ae_ (K Kp:AV->ae->Prop) (r:AV) (σ : ae):L_ K Kp (.ret r) σ = K r σ:=_root_.id rfl
section
variable {σ : ae} {K Kp:AV->ae->Prop} {l m n lo off:Nat} {cs xs:List AV} {el:El} {T:Option TypeId}
def ac_(h : σ[l]? = some (.bW T cs))(hlt:off<cs.length)(hk:K (.ref l off) σ): d_ P (.FH (.c (.ref l off))) σ (.mk:Tg (K,Kp)):=aa0 _ _ _ _ _ _ h hlt hk
def ada{t u:TypeId}(h : σ[l]? = some (.bW (some t) cs))(hlt:liesAt P P.depth t (cs.length / P.cellsOf t) off u 1=true)(hk:K (.ref l off) σ): d_ P (.FI u (.c (.ref l off))) σ (.mk:Tg (K,Kp)):=aa1 _ _ _ _ _ _ h hlt hk
def adb{ng:Bool}(h : σ[l]? = some (.bW T cs))(hk:K (.bool ng.not) σ): d_ P (.DM ng (.c (.ref l off)) (.c (.ref l off))) σ (.mk:Tg (K,Kp)):=aa2 _ _ _ _ _ _ ng h hk
def ade(h : σ[l]? = some (.cy T el xs))(hm:m=xs.length)(hn:0<n)(hk:K (.eD el l m lo 0) σ): d_ P (.AG el (.c (.own el l m lo n))) σ (.mk:Tg (K,Kp)):=Rs _ _ _ _ _ _ _ _ h hm hn hk
def Zy(el:El): d_ P (.AG el (.c .au)) σ (.mk:Tg (K,Kp))=K .iM σ:=_root_.id rfl
def W1(t:TypeId): d_ P (.wo t (.c .iM) (.c (.int .i64 0))) σ (.mk:Tg (K,Kp))=K (.str []) σ:=Om _ _ _ t
attribute [go_sem] Zy W1
def abq {t : TypeId} {a : Int} (s : List UInt8) (h : σ[l]? = some (.cy (some t) ⟨false, 1⟩ xs)) (hm : m = xs.length) (hx : xs = s.map fun b => .int .u8 b.toNat) (h0 : s ≠ []) (h2 : s.length <= 2 ^ 62) (ha : a = (s.length : Int)) (hk : K (.str s) (σ.set l .dead)) :
    d_ P (.wo t (.c (.eD ⟨false,1⟩ l m 0 0)) (.c (.int .i64 a))) σ (.mk:Tg (K,Kp)):=On _ _ _ _ _ _ s h hm hx h0 h2 ha hk
def Zz {g : FuncId} {v : AV} (h : ∃ fn, P.funcs[g]? = some fn ∧ (fn.name == "runtime.NumGoroutine") = false ∧ fn.body.isNone = true ∧ Extern.findNext fn = none ∧ Extern.find fn = some Extern.AbiNoEscape.same) (hk : K v σ) : T5 P g v σ (.mk : Tg K) := ⟨h, hk⟩
end
@[go_sem] def afa (sz off : Nat) (cs : List AV) (K : AV -> Prop) : uj false ⟨true, sz⟩ (.agg cs) off false 1 (.mk : Tg K) = req (off + 1 <= sz) (.mk : Tg (K (cs.getD off .undef))) := by
  rw[Zg _ _ _ _ _ (by simp)];simp[req]
section
variable {α : Type} (ρ τ : List α) (c d x : α)
@[go_sem] def af5:(ρ++c:: τ)[ρ.length]? = some c:=by simp
@[go_sem] def af6:(ρ++c:: τ).set ρ.length x = ρ++x:: τ:=by simp
end
def YF(P:Program)(n:FuncId)(args:List AV)(σ : ae){K:AV->ae->Prop}(_:Tg K): Prop:=C8 P n args σ K
def YG(P:Program)(f:AV)(args:List AV)(σ : ae){K:AV->ae->Prop}(_:Tg K): Prop:=match f with
 | .fn (.func n) [] []=>C8 P n args σ K
 | _=>False
@[go_sem ↓] def afb {e:Env} {σ : ae} {K Kp:AV->ae->Prop} (f:AX) (args:List AX):bp.run P (.q8 f args) e σ K Kp=YG P (f.ev e) (args.map (AX.ev e)) σ (.mk:Tg K):=_root_.id rfl
@[go_sem] def af7 {σ : ae} {K:AV->ae->Prop} (n:FuncId) (args:List AV):YG P (.fn (.func n) [] []) args σ (.mk:Tg K)=YF P n args σ (.mk:Tg K):=_root_.id rfl
def HO {n : FuncId} {k off : Nat} {args cs ds : List AV} {r : AV} {σ : ae} {K : AV -> ae -> Prop} (h : cY P n off args cs ds r) (yJ : σ[k]? = some (.cells cs)) (hk : kD r (.mk : Tg fun r => zG (σ.set k (.cells ds)) (.mk : Tg fun σ => K r σ))) :
    YF P n (.ref k off::args) σ (.mk:Tg K):=⟨k,_,.cells ds,r,rfl,yJ,trivial,h σ k yJ,hk⟩
def HP {n : FuncId} {k off : Nat} {args cs : List AV} {r : AV} {σ : ae} {K Kp : AV -> ae -> Prop} (h : cY P n off args cs cs r) (yJ : σ[k]? = some (.cells cs)) (hk : kD r (.mk : Tg fun r => K r σ)) :
    zK P n (.ref k off::args) σ (.mk:Tg (K,Kp)):=by
 have same:∀ s:ae,s[k]? = some (.cells cs)->s.set k (.cells cs)=s:=fun s hs=>by
  refine List.ext_getElem? fun i=>?_;by_cases hi:k=i
  ·subst hi;rw[xE hs,hs]
  ·rw[List.getElem?_set_ne hi]
 refine⟨r,fun τ=>?_,hk⟩;have hs:(σ++ τ)[k]? = some (.cells cs):=by rw[aC (aN.1 yJ).1];exact yJ
 exact(h (σ++ τ) k hs).mono fun o s ⟨h1,h2⟩=>⟨h1,h2.trans (same _ hs)⟩
attribute [go_sem] Int.tdiv_eq_ediv_of_nonneg Int.tmod_eq_emod_of_nonneg aa_ abb abd abe Zo Zp abf abg Zq Zr Zs Zt abh abi abj abk abl abm abn Zu Zv WS WT WU WV WW WX WY WZ abo abp Zw Zx W0 getD_map Bool.or_false Bool.or_true Bool.true_or Bool.false_or beq_self_eq_true Bool.and_true Bool.true_and Bool.and_false Bool.false_and Int.toNat_natCast Int.toNat_natCast_add_one Int.toNat_zero List.length_map List.length_append Nat.zero_add Bool.not_true Bool.not_false
attribute [simp] AV.fits AV.scalar AV.cells oY qx AV.obj fJ
end Go.AM
namespace Go.Proofs.YtcjcnfcedihckaaGreatDoor
open Go.AM
set_option maxRecDepth 10000
end Go.Proofs.YtcjcnfcedihckaaGreatDoor
namespace Go.AM.W
structure Of (P:Program) (n:FuncId) (k:Nat) (rs:List sx) (b:de):Prop where
 go:∀ {az:List AV} {σ : ae} {R:Out->ae->Prop},eP P b rs az σ R->(hl:az.length<=k:=by simp)->cN P n az σ R
def qB {P : Program} {n : FuncId} {fn : Func} {k : Nat} {rs : List sx} {b : de} (h : Hints) (hf : P.funcs[n]? = some fn) (hn : (fn.name == "runtime.NumGoroutine") = false := by kernel_rfl) (hc : zF P h fn = some ⟨k, rs, b⟩ := by kernel_rfl) : Of P n k rs b := ⟨fun hw hl => cN.of_wp hf hn hc hl hw.go⟩
def bU {P : Program} {n : FuncId} {fn : Func} {k : Nat} {rs : List sx} {b : de} (hf : P.funcs[n]? = some fn) (hn : (fn.name == "runtime.NumGoroutine") = false := by kernel_rfl) (hc : zF P {} fn = some ⟨k, rs, b⟩ := by kernel_rfl) : Of P n k rs b := qB {} hf hn hc
def _root_.Go.AM.aR{P:Program}{f:FuncId}{k:Nat}{rs:List sx}{c:de}{az:List AV}{r:AV}(ho:Of P f k rs c)(h:∀ Q:AQ,(∀ e σ,Q .ret e σ = qf e σ rs fun vs=> ∃ r0,Out.ret (oneOf vs) = .ret r0/\View σ r0 r)->(∀ e σ,Q .normal e σ = qf e σ rs fun vs=> ∃ r0,Out.ret (oneOf vs) = .ret r0/\View σ r0 r)->(∀ v e σ,Q (.panic v) e σ = ∃ r0,Out.panic v = .ret r0/\View σ r0 r)->i_ P c Q (sy az) [])(hp:AV.cA az=true:=by first|rfl|(simp;done)|(simp[AV.dz,AV.cA];done))(hl:az.length<=k:=by simp): aP P f az r:=aP.Dk (ho.go h hl) hp
abbrev t(n:Nat): AX:= .t n
abbrev gB(b:Bool)(n:Nat)(z:AV)(m:Nat)(l:List (Nat × AX))(d:Nat): cK:=⟨.jF false ⟨b,n⟩ z m l,some d,none⟩
abbrev gU(z:List AV)(l:List (Nat × Nat × AX))(d:Nat): cK:=⟨.build z l,some d,none⟩
abbrev gI(b:Bool)(n a:Nat)(k:Int)(d:Nat): cK:=⟨.f_ ⟨b,n⟩ none (.t a) (.c (.int .i64 k)),some d,none⟩
abbrev gA(b:Bool)(n x y:Nat)(d:Nat): cK:=⟨.app none ⟨b,n⟩ (.t x) (.t y),some d,none⟩
abbrev gF(d:Nat): cK:=⟨.mv (.c (.bool false)),some d,none⟩
abbrev gT(d:Nat): cK:=⟨.mv (.c (.bool true)),some d,none⟩
abbrev gJ(n:Int): AX:= .c (.int .i64 n)
abbrev gS(s:List UInt8): AX:= .c (.str s)
abbrev gR(a:List cK)(n:Nat)(b:List cK)(x:de): de:= .seq (.seq (.region a) (.cond (.t n) (.seq (.region b) .ret) .skip)) x
abbrev gL(i:Nat)(a:List cK)(n:Nat)(x:de): de:= .block i (.loop (.seq (.seq (.region a) (.cond (.t n) .skip (.exit i))) x))
abbrev bQ(o:bp)(d:Nat): cK:=⟨o,some d,none⟩
abbrev i6(n:Int): AV:= .int .i64 n
abbrev z0: AV:= .int .i64 0
abbrev e0: AV:= .str []
abbrev R(l:List cK): de:= .region l
abbrev r(l:List cK)(b:de): de:= .seq (.region l) b
abbrev q(a b:de): de:= .seq a b
abbrev c(n:Nat)(a b:de): de:= .cond (.t n) a b
abbrev k: de:= .skip
abbrev M(a:Nat)(d:Nat): cK:=⟨.mv (.t a),some d,none⟩
abbrev MT(a:Nat)(d k:Nat): cK:=⟨.mv (.t a),some d,some (k,true)⟩
abbrev MF(a:Nat)(d k:Nat): cK:=⟨.mv (.t a),some d,some (k,false)⟩
abbrev V(a:AV)(d:Nat): cK:=⟨.mv (.c a),some d,none⟩
abbrev L(n a:Nat)(d:Nat): cK:=⟨.load true n (.t a),some d,none⟩
abbrev LT(n a:Nat)(d k:Nat): cK:=⟨.load true n (.t a),some d,some (k,true)⟩
abbrev LF(n a:Nat)(d k:Nat): cK:=⟨.load true n (.t a),some d,some (k,false)⟩
abbrev K(a:Nat)(d:Nat): cK:=⟨.load false 1 (.t a),some d,none⟩
abbrev KT(a:Nat)(d k:Nat): cK:=⟨.load false 1 (.t a),some d,some (k,true)⟩
abbrev KF(a:Nat)(d k:Nat): cK:=⟨.load false 1 (.t a),some d,some (k,false)⟩
abbrev B(o:BinOp)(a b:Nat)(d:Nat): cK:=⟨.bin o (.t a) (.t b),some d,none⟩
abbrev BT(o:BinOp)(a b:Nat)(d k:Nat): cK:=⟨.bin o (.t a) (.t b),some d,some (k,true)⟩
abbrev BF(o:BinOp)(a b:Nat)(d k:Nat): cK:=⟨.bin o (.t a) (.t b),some d,some (k,false)⟩
abbrev D(o:BinOp)(a:Nat)(b:Int)(d:Nat): cK:=⟨.bin o (.t a) (.c (.int .i64 b)),some d,none⟩
abbrev DT(o:BinOp)(a:Nat)(b:Int)(d k:Nat): cK:=⟨.bin o (.t a) (.c (.int .i64 b)),some d,some (k,true)⟩
abbrev DF(o:BinOp)(a:Nat)(b:Int)(d k:Nat): cK:=⟨.bin o (.t a) (.c (.int .i64 b)),some d,some (k,false)⟩
abbrev A(n a:Nat)(d:Nat): cK:=⟨.oM n (.t a),some d,none⟩
abbrev AT(n a:Nat)(d k:Nat): cK:=⟨.oM n (.t a),some d,some (k,true)⟩
abbrev AF(n a:Nat)(d k:Nat): cK:=⟨.oM n (.t a),some d,some (k,false)⟩
abbrev P(a b:Nat)(d:Nat): cK:=⟨.pick (.t a) (.t b) (.c (.bool false)),some d,none⟩
abbrev PT(a b:Nat)(d k:Nat): cK:=⟨.pick (.t a) (.t b) (.c (.bool false)),some d,some (k,true)⟩
abbrev PF(a b:Nat)(d k:Nat): cK:=⟨.pick (.t a) (.t b) (.c (.bool false)),some d,some (k,false)⟩
abbrev O(a b:Nat)(d:Nat): cK:=⟨.pick (.t a) (.c (.bool true)) (.t b),some d,none⟩
abbrev OT(a b:Nat)(d k:Nat): cK:=⟨.pick (.t a) (.c (.bool true)) (.t b),some d,some (k,true)⟩
abbrev S(a:Nat)(d:Nat): cK:=⟨.len true (.t a),some d,none⟩
abbrev ST(a:Nat)(d k:Nat): cK:=⟨.len true (.t a),some d,some (k,true)⟩
abbrev SF(a:Nat)(d k:Nat): cK:=⟨.len true (.t a),some d,some (k,false)⟩
abbrev N(a:Nat)(d:Nat): cK:=⟨.len false (.t a),some d,none⟩
abbrev NT(a:Nat)(d k:Nat): cK:=⟨.len false (.t a),some d,some (k,true)⟩
abbrev NF(a:Nat)(d k:Nat): cK:=⟨.len false (.t a),some d,some (k,false)⟩
abbrev I(b:Bool)(n a c:Nat)(d:Nat): cK:=⟨.f_ ⟨b,n⟩ none (.t a) (.t c),some d,none⟩
abbrev IT(b:Bool)(n a c:Nat)(d k:Nat): cK:=⟨.f_ ⟨b,n⟩ none (.t a) (.t c),some d,some (k,true)⟩
abbrev IF(b:Bool)(n a c:Nat)(d k:Nat): cK:=⟨.f_ ⟨b,n⟩ none (.t a) (.t c),some d,some (k,false)⟩
abbrev E(a n:Nat)(d:Nat): cK:=⟨.ext (.t a) n,some d,none⟩
abbrev ET(a n:Nat)(d k:Nat): cK:=⟨.ext (.t a) n,some d,some (k,true)⟩
abbrev Z(a:Nat)(d:Nat): cK:=⟨.pK (.t a),some d,none⟩
abbrev ZT(a:Nat)(d k:Nat): cK:=⟨.pK (.t a),some d,some (k,true)⟩
abbrev ZF(a:Nat)(d k:Nat): cK:=⟨.pK (.t a),some d,some (k,false)⟩
abbrev X(a:Nat)(d:Nat): cK:=⟨.box (.t a),some d,none⟩
abbrev U(a:Nat)(d:Nat): cK:=⟨.un .not (.t a),some d,none⟩
abbrev UT(a:Nat)(d k:Nat): cK:=⟨.un .not (.t a),some d,some (k,true)⟩
abbrev UF(a:Nat)(d k:Nat): cK:=⟨.un .not (.t a),some d,some (k,false)⟩
abbrev J(l:List AV)(d:Nat): cK:=⟨.alloc none l,some d,none⟩
abbrev C(f:FuncId)(l:List AX)(d:Nat): cK:=⟨.call false (.c (.fn (.func f) [] [])) l,some d,none⟩
abbrev CT(f:FuncId)(l:List AX)(d k:Nat): cK:=⟨.call false (.c (.fn (.func f) [] [])) l,some d,some (k,true)⟩
abbrev CF(f:FuncId)(l:List AX)(d k:Nat): cK:=⟨.call false (.c (.fn (.func f) [] [])) l,some d,some (k,false)⟩
abbrev Q(f:FuncId)(l:List AX)(d:Nat): cK:=⟨.call true (.c (.fn (.func f) [] [])) l,some d,none⟩
abbrev QT(f:FuncId)(l:List AX)(d k:Nat): cK:=⟨.call true (.c (.fn (.func f) [] [])) l,some d,some (k,true)⟩
abbrev QF(f:FuncId)(l:List AX)(d k:Nat): cK:=⟨.call true (.c (.fn (.func f) [] [])) l,some d,some (k,false)⟩
abbrev W(n a b:Nat): cK:=⟨.store n (.t a) (.t b),none,none⟩
