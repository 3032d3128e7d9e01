/- Part. -/
import Derived.Test.YtcjcnfcedihckaaGreatDoorW14
import Derived.Test.YtcjcnfcedihckaaGreatDoorChecked
import Derived.KernelRfl
set_option linter.all false
namespace Go.AM
variable {P:Program}
def FA{n:Int}(h:0<=n)(h':n<=255): eK .u8 n=n:=by
 show IntKind.wrap .u8 n=n;simp[IntKind.wrap,IntKind.bits,IntKind.signed];omega
def Co{n:Int}(h:0<=n)(h':n<18446744073709551616): eK .u64 n=n:=by
 show IntKind.wrap .u64 n=n;simp[IntKind.wrap,IntKind.bits,IntKind.signed];omega
attribute [go_sem] x7 FA Co
attribute [go_sem_proc] Nat.reduceAdd Nat.reduceBEq
attribute [go_sem_proc ↓] reduceIte
def Mb(n:Int): eK .u64 n=n % 18446744073709551616:=by
 show IntKind.wrap .u64 n=_;simp[IntKind.wrap,IntKind.bits,IntKind.signed]
def Nq{s:List UInt8}{i:Nat}(h:i<s.length): (⟨s.toArray⟩:ByteArray).get! i=s.getD i 0:=by
 simp only[ByteArray.get!];rw[getElem!_pos _ i (by simpa using h),aj,aN h];simp
def FB(s:List UInt8)(pos:Nat): Nat:=(Utf8.decode ⟨s.toArray⟩ pos).1
def decode_ascii{s:List UInt8}{pos:Nat}(h:pos<s.length)(ha:(s.getD pos 0).toNat<128): Utf8.decode ⟨s.toArray⟩ pos=((s.getD pos 0).toNat,1):=by
 unfold Utf8.decode;simp only[cQ,Nq h];rw[if_pos ha]
def PC{s:List UInt8}{pos:Nat}(h:pos<s.length)(ha:128<=(s.getD pos 0).toNat): 128<=FB s pos:=by
 unfold FB Utf8.decode;simp only[cQ,Nq h];rw[if_neg (by omega)];have he:128<=Utf8.runeError:=by decide
 split
 ·split<;>first|assumption|exact he
 ·split
  ·split
   ·rename_i h2;simp only[ge_iff_le,aq,decide_eq_true_eq]at h2;exact cE (by omega) h2.1
   ·exact he
  ·split
   ·split
    ·rename_i h2;simp only[ge_iff_le,aq,decide_eq_true_eq]at h2;exact cE (by omega) h2.1
    ·exact he
   ·exact he
noncomputable def j5:BinOp->IntKind->Int->Int->Int:=Classical.choose (⟨mO,rfl⟩:∃ f,f=mO)
def mz: j5=mO:=Classical.choose_spec (⟨mO,rfl⟩:∃ f,f=mO)
section
variable (K:AV->Prop) (k:IntKind) (a b:Int) (s t:List UInt8)
@[go_sem] def agh:ig .and (.int k a) (.int k b) (.mk:Tg K)=K (.int k (j5 .and k a b)):=by rw[mz];simp[ig,jJ]
@[go_sem] def ahi:ig .or (.int k a) (.int k b) (.mk:Tg K)=K (.int k (j5 .or k a b)):=by rw[mz];simp[ig,jJ]
@[go_sem] def agi:ig .xor (.int k a) (.int k b) (.mk:Tg K)=K (.int k (j5 .xor k a b)):=by rw[mz];simp[ig,jJ]
@[go_sem] def adK:ig .andNot (.int k a) (.int k b) (.mk:Tg K)=K (.int k (j5 .andNot k a b)):=by rw[mz];simp[ig,jJ]
@[go_sem] def agj (k':IntKind):ig .shl (.int k a) (.int k' b) (.mk:Tg K)=req (0<=b) (.mk:Tg (K (.int k (eK k (a*2 ^ (Nat.min b.toNat k.bits)))))):=by rw[<-dV];simp[ig,jJ]
@[go_sem] def agk (k':IntKind):ig .shr (.int k a) (.int k' b) (.mk:Tg K)=req (0<=b) (.mk:Tg (K (.int k (a.fdiv (2 ^ (Nat.min b.toNat k.bits)))))):=by rw[<-dV];simp[ig,jJ]
@[go_sem] def ahj:unT .neg (.int k a) (.mk:Tg K)=K (.int k (eK k (0-a))):=_root_.id rfl
end
section
variable (σ : ae) (K Kp:AV->ae->Prop)
variable (k k':IntKind) (a b:Int) (s t:List UInt8) (el:El) (xs cs:List AV) (l m lo n off i:Nat) (f:Bool)
def ZL(el:El)(o:Option aZ)(l m j:Nat){K:AV->Prop}(_:Tg K): Prop:=match o with
 | some (.cz _ bj xs)=>bj=el/\m=xs.length/\K (.eJ el l m j 0)
 | _=>False
@[go_sem] def acm : d_ P (.gG el none (.c (.own el l m lo n)) (.c (.int k a))) σ (.mk : Tg (K, Kp)) = req (0 <= a /\ a < n) (.mk : Tg (ZL el (σ[l]?) l m (lo + a.toNat) (.mk : Tg fun v => K v σ))) := by
  rw[<-dV];simp only[d_,br.run,AX.ev,ZL,true_and,and_assoc];rfl
@[go_sem] def aht (K : AV -> Prop) : ZL el (some (.vec el xs)) l m i (.mk : Tg K) = req (m = xs.length) (.mk : Tg (K (.eJ el l m i 0))) := by
  rw[<-dV];simp[ZL]
@[go_sem] def ae8 (ln : Nat) : d_ P (.yJ ⟨false, 1⟩ ln (.c (.agg cs)) (.c (.int k a))) σ (.mk : Tg (K, Kp)) = req (0 <= a /\ a < ln /\ a.toNat + 1 <= cs.length) (.mk : Tg (K (cs.getD a.toNat .undef) σ)) := by
  rw[<-dV];simp[d_,br.run,AX.ev,and_assoc]
@[go_sem] def aaz (off n : Nat) (cs : List AV) (K : AV -> Prop) (h : (off == 0 && n == el.sz && true == el.ag) = false) : uQ false el (.agg cs) off true n (.mk : Tg K) = req (off + n <= el.sz) (.mk : Tg (K (.agg ((cs.drop off).take n)))) := by
  have hn:¬ (off=0/\n=el.sz/\true=el.ag):=by rintro⟨h1,h2,h3⟩;subst h1;subst h2;rw[<-h3]at h;simp at h
  rw[<-dV];simp only[uQ,partOf,if_neg hn,h,true_and];simp
def stV(σ : ae)(el:El)(l:Nat)(o:Option aZ)(m i off n:Nat)(v:AV){K:ae->Prop}(_:Tg K): Prop:=v.cells.length=n/\v.cells.all AV.scalar=true/\match o with
 | some (.cz T bq xs) => bq = el /\ m = xs.length /\ i < xs.length /\ off + n <= el.sz /\ (el.ag = false -> v.fits el = true) /\
    K (σ.set l (.cz T el (xs.set i (if el.ag then .agg (eE (xs.getD i .undef).cells off v.cells)else v))))
 | _=>False
@[go_sem] def adL (v:AV) (K:ae->Prop):storeT σ n (.eJ el l m i off) v (.mk:Tg K)=stV σ el l (σ[l]?) m i off n v (.mk:Tg K):=_root_.id rfl
@[go_sem] def ahu (v : AV) (K : ae -> Prop) : stV σ el l (some (.vec el xs)) m i off n v (.mk : Tg K) = req (v.cells.length = n /\ v.cells.all AV.scalar = true /\ m = xs.length /\ i < xs.length /\ off + n <= el.sz /\ (el.ag = false -> v.fits el = true)) (.mk : Tg (K (σ.set l (.vec el (xs.set i (if el.ag then .agg (eE (xs.getD i .undef).cells off v.cells) else v)))))) := by
  rw[<-dV];simp only[stV,true_and,and_assoc]
def Q_(σ : ae)(el:El)(o:Option aZ)(l m lo n:Nat)(x y:Option AV){K:AV->ae->Prop}(_:Tg K): Prop:=match o with
 | some (.cz _ bj xs)=>bj=el/\m=xs.length/\lo+n<=m/\bound y n n fun h=>bound x 0 h fun k=>K (.own el l m (lo+k) (h-k)) σ
 | _=>False
@[go_sem] def aek (x y : Option AX) : d_ P (.tS el (.c (.own el l m lo n)) x y) σ (.mk : Tg (K, Kp)) = Q_ σ el (σ[l]?) l m lo n (x.map (AX.ev fun _ => .undef)) (y.map (AX.ev fun _ => .undef)) (.mk : Tg K) := by
  simp only[d_,br.run,AX.ev,Q_,true_and];rfl
@[go_sem] def ahv : Q_ σ el (some (.vec el xs)) l m lo n (some (.int k a)) (some (.int k' b)) (.mk : Tg K) = req (m = xs.length /\ lo + n <= m /\ (0 <= b /\ b <= n) /\ 0 <= a /\ a <= b) (.mk : Tg (K (.own el l m (lo + a.toNat) (b.toNat - a.toNat)) σ)) := by
  rw[<-dV];simp only[Q_,bound,and_assoc,true_and,eq_iff_iff];constructor
  ·rintro⟨h1,h2,h3,h4,h5,h6,h7⟩;exact⟨h1,h2,h3,h4,h5,by omega,h7⟩
  ·rintro⟨h1,h2,h3,h4,h5,h6,h7⟩;exact⟨h1,h2,h3,h4,h5,by omega,h7⟩
@[go_sem] def ahw : Q_ σ el (some (.vec el xs)) l m lo n none (some (.int k' b)) (.mk : Tg K) = req (m = xs.length /\ lo + n <= m /\ 0 <= b /\ b <= n) (.mk : Tg (K (.own el l m lo b.toNat) σ)) := by
  rw[<-dV];simp only[Q_,bound,and_assoc,true_and,cQ,Nat.sub_zero]
def SK(o:Option aZ)(m lo n:Nat){K:AV->Prop}(_:Tg K): Prop:=match o with
 | some (.cz _ el xs)=>el=⟨false,1⟩/\m=xs.length/\ ∃ s:List UInt8,(xs.drop lo).take n=s.map (fun b=>AV.int .u8 b.toNat)/\K (.str s)
 | _=>False
@[go_sem] def ael : d_ P (.uZ (.c (.own ⟨false, 1⟩ l m lo n))) σ (.mk : Tg (K, Kp)) = SK (σ[l]?) m lo n (.mk : Tg fun v => K v σ) := by
  simp only[d_,br.run,AX.ev,fP,SK,true_and];rfl
@[go_sem] def SM (s : List UInt8) : d_ P (.uZ (.c (.aO f ⟨false, 1⟩ (s.map fun b => .int .u8 b.toNat)))) σ (.mk : Tg (K, Kp)) = K (.str s) σ := by
  simp only[d_,br.run,AX.ev,fP,true_and,eq_iff_iff];constructor
  ·rintro⟨s',h,hk⟩;have:s=s':=(List.map_inj_right (fun x y hxy=>by simp at hxy;exact UInt8.toNat_inj.1 (Int.ofNat_inj.1 hxy))).1 h;exact this ▸ hk
  ·exact fun hk=>⟨s,rfl,hk⟩
def SN{K:AV->Prop}{xs:List AV}{m n:Nat}(s:List UInt8)(hx:xs=s.map fun b=>AV.int .u8 b.toNat)(hm:m=xs.length)(hn:n=xs.length)(hk:K (.str s)): SK (some (.vec ⟨false,1⟩ xs)) m 0 n (.mk:Tg K) :=
 ⟨rfl,hm,s,by rw[hn,<-hx];simp,hk⟩
@[go_sem] def abA (t : TypeId) (c : UInt8) : d_ P (.app (some t) ⟨false, 1⟩ (.c .au) (.c (.str (c :: s)))) σ (.mk : Tg (K, Kp)) = req (fR (s.length + 1) ⟨false, 1⟩) (.mk : Tg (K (.own ⟨false, 1⟩ σ.length (s.length + 1) 0 (s.length + 1)) (σ ++ [.cz (some t) ⟨false, 1⟩ ((c :: s).map fun b => .int .u8 b.toNat)]))) := by
  rw[<-dV];have h:((c::s).map fun b=>AV.int .u8 b.toNat).all (fun a=>a.fits ⟨false,1⟩)=true:=by simp[AV.fits]
  simp only[d_,br.run,AX.ev,oY,fP,true_and,h,bt,List.length_cons,Nat.add_eq_zero_iff,Nat.one_ne_zero,and_false,if_false]
@[go_sem] def aaA (T : Option TypeId) : d_ P (.app T ⟨false, 1⟩ (.c .au) (.c (.str []))) σ (.mk : Tg (K, Kp)) = K .au σ := by
  simp[d_,br.run,AX.ev,oY,fP]
@[go_sem] def acn (T : Option TypeId) : d_ P (.app T ⟨false, 1⟩ (.c (.own ⟨false, 1⟩ l m lo n)) (.c (.str s))) σ (.mk : Tg (K, Kp)) = Ck σ T ⟨false, 1⟩ (σ[l]?) l m lo n (s.map fun b => .int .u8 b.toNat) (.mk : Tg K) := by
  have:((s.map fun b=>AV.int .u8 b.toNat).all fun a=>a.fits ⟨false,1⟩)=true:=by simp[AV.fits]
  simp only[d_,br.run,AX.ev,oY,fP,Ck,true_and,this];rfl
def rQ(ng:Bool)(acc:Bool)(ks:List Kd)(xs ys:List AV){K:AV->Prop}(_:Tg K): Prop:=match iH ks xs ys with
 | some c=>K (.bool (if ng then !(acc && c)else acc && c))
 | none=>False
def XW(acc:Bool)(K:AV->Prop): rQ false acc [] [] [] (.mk:Tg K)=K (.bool acc):=by simp[rQ,iH]
def Vl(acc:Bool)(K:AV->Prop): rQ true acc [] [] [] (.mk:Tg K)=K (.bool (!acc)):=by simp[rQ,iH]
def Cp(ng acc c:Bool)(kd:Kd)(x y:AV)(ks:List Kd)(xs ys:List AV)(K:AV->Prop)(h:ML kd x y=some c): rQ ng acc (kd::ks) (x::xs) (y::ys) (.mk:Tg K)=rQ ng (acc && c) ks xs ys (.mk:Tg K):=by
 simp only[rQ,iH,h];cases iH ks xs ys<;>simp[Bool.and_assoc]
attribute [go_sem] XW Vl
@[go_sem] def ahx (ng acc:Bool) (ks:List Kd) (xs ys:List AV) (K:AV->Prop):rQ ng acc (.i::ks) (.int k a::xs) (.int k b::ys) (.mk:Tg K)=rQ ng (acc && (a==b)) ks xs ys (.mk:Tg K):=Cp _ _ _ _ _ _ _ _ _ _ (by simp[ML])
@[go_sem] def ahy (ng acc:Bool) (ks:List Kd) (xs ys:List AV) (K:AV->Prop):rQ ng acc (.s::ks) (.str s::xs) (.str t::ys) (.mk:Tg K)=rQ ng (acc && (s==t)) ks xs ys (.mk:Tg K):=Cp _ _ _ _ _ _ _ _ _ _ rfl
@[go_sem] def ahz (ng acc p q:Bool) (ks:List Kd) (xs ys:List AV) (K:AV->Prop):rQ ng acc (.b::ks) (.bool p::xs) (.bool q::ys) (.mk:Tg K)=rQ ng (acc && (p==q)) ks xs ys (.mk:Tg K):=Cp _ _ _ _ _ _ _ _ _ _ rfl
@[go_sem] def ae9 (ng : Bool) (ks : List Kd) (xs ys : List AV) : d_ P (.r_ ng true ks (.c (.agg xs)) (.c (.agg ys))) σ (.mk : Tg (K, Kp)) = rQ ng true ks xs ys (.mk : Tg fun v => K v σ) := by
  rw[XT];simp only[rQ];cases iH ks xs ys<;>simp
def XX(ng:Bool)(o:Option Bool){K:AV->Prop}(_:Tg K): Prop:=match o with
 | some c=>K (.bool (if ng then !c else c))
 | none=>False
@[go_sem] def ahA (c:Bool) (K:AV->Prop):XX false (some c) (.mk:Tg K)=K (.bool c):=_root_.id rfl
@[go_sem] def ahB (c:Bool) (K:AV->Prop):XX true (some c) (.mk:Tg K)=K (.bool (!c)):=_root_.id rfl
@[go_sem] def ae_ (ng : Bool) (kn : NK) (x y : AV) : d_ P (.qf ng kn (.c x) (.c y)) σ (.mk : Tg (K, Kp)) = XX ng (om kn x y) (.mk : Tg fun v => K v σ) := by
  rw[XS];rfl
end
def XY{l:Nat}{c r:dy}{Q:AQ}{e:Env}{σ : ae}(h:jm P c (sX l (fun _ _=>False) Q) e σ): Nk P (.mk:Tg (l,c,r,Q,e,σ)) :=
 ⟨fun _ _ _=>False,Al (fun ex e σ hq=>by cases ex<;>first|exact hq|exact hq.2.elim) _ _ h,fun _ _ _ h=>h.elim⟩
@[go_sem ↓] def afa (l:Nat) (J:Env->ae->Prop) (Q:AQ) (e:Env) (σ : ae):sX l J Q .ret e σ = Q .ret e σ:=_root_.id rfl
@[go_sem ↓] def adM (l:Nat) (J:Env->ae->Prop) (Q:AQ) (v:AV) (e:Env) (σ : ae):sX l J Q (.panic v) e σ = Q (.panic v) e σ:=_root_.id rfl
@[go_sem] def Mc {α : Type} (τ : List α) (c : α):(τ++[c])[τ.length]? = some c:=by simp
def XZ{ms ms':List Nat}{r e e':Env}(hs:ms'.all (fun t=>ms.contains t)=true)(h:Cl ms e e'): Cl ms e (KM ms' r e'):=fun t ht=>by
 simp only[KM];split
 ·rename_i h1;rw[aX]at hs;have:=hs t (by simpa using h1);rw[ht]at this;cases this
 ·exact h t ht
def take_one{s:List UInt8}{n i:Nat}(hn:n=1)(hi:i<s.length): List.take n (List.drop i s)=[s.getD i 0]:=by
 subst hn;rw[eZ hi,aj,aN hi];rfl
@[go_sem ↓] def aco (e:Env):pK [] e=True:=_root_.id rfl
@[go_sem ↓] def abB (x y:AX) (r:List (AX × AX)) (e:Env):pK ((x,y)::r) e=(qU (x.ev e) (y.ev e)/\pK r e):=_root_.id rfl
@[go_sem] def afb (el:El) (x:AV) (o:Nat) (q:AV):qU (.dY el x o) q=True:=by simp[qU,AV.obj]
@[go_sem] def afc (l k a b:Nat):qU (.ref l a) (.ref k b)=(l≠k):=by simp only[qU,AV.obj,Option.some.injEq];exact propext ⟨fun h e=>h l rfl e.symm,fun h x e1 e2=>h (e1.trans e2.symm)⟩
section
variable {α β : Type} (a b c : α) (l m:List α) (f : α-> β) (n:Nat)
def acp: (a::l)[0]? = some a:=_root_.id rfl
def acq: (a::l)[n+1]? = l[n]?:=_root_.id rfl
def acr: (a::l).set 0 b=b::l:=_root_.id rfl
def acs: (a::l).set (n+1) b=a::l.set n b:=_root_.id rfl
def aaB: (a::l).getD 0 b=a:=_root_.id rfl
def aaC: (a::l).getD (n+1) b=l.getD n b:=_root_.id rfl
def acu: (a::l).length=l.length+1:=_root_.id rfl
def acv: ([]:List α).length=0:=_root_.id rfl
def aaD: l.drop 0=l:=_root_.id rfl
def aaE: (a::l).drop (n+1)=l.drop n:=_root_.id rfl
def aaF: l.take 0=[]:=_root_.id rfl
def aaG: (a::l).take (n+1)=a::l.take n:=_root_.id rfl
def acw: (a::l).map f=f a::l.map f:=_root_.id rfl
def acy: ([]:List α).map f=[]:=_root_.id rfl
def acz: (a::l)++m=a::(l++m):=_root_.id rfl
def acA: []++m=m:=_root_.id rfl
def acB: l++[]=l:=bY l
def acC: List.replicate 0 a=[]:=_root_.id rfl
def acD: List.replicate (n+1) a=a::List.replicate n a:=_root_.id rfl
end
def aaH(cs:List AV)(i:Nat): eE cs i []=cs:=by cases cs<;>exact _root_.id rfl
def aaI(cs:List AV)(i:Nat)(a:AV)(l:List AV): eE cs i (a::l)=eE (cs.set i a) (i+1) l:=by cases cs<;>exact _root_.id rfl
def X0(cs:List AV): (AV.agg cs).cells=cs:=_root_.id rfl
def X1(k:IntKind)(n:Int): (AV.int k n).cells=[.int k n]:=_root_.id rfl
def X2(b:Bool): (AV.bool b).cells=[.bool b]:=_root_.id rfl
def X3(s:List UInt8): (AV.str s).cells=[.str s]:=_root_.id rfl
def X4(f:Bool)(el:El)(xs:List AV): (AV.aO f el xs).cells=[.aO f el xs]:=_root_.id rfl
def X5: AV.au.cells=[.au]:=_root_.id rfl
def X6(el:El)(l m lo n:Nat): (AV.own el l m lo n).cells=[.own el l m lo n]:=_root_.id rfl
def X7(l o:Nat): (AV.ref l o).cells=[.ref l o]:=_root_.id rfl
def acE(l o:Nat): om .p (.ref l o) .iX=some false:=_root_.id rfl
def acF: om .p .iX .iX=some true:=_root_.id rfl
def aaJ(n m:Nat)(l:List Nat): (n::l).contains m=(m==n || l.contains m):=List.contains_cons
def aaK(m:Nat): ([]:List Nat).contains m=false:=_root_.id rfl
def X8: (false==true)=false:=_root_.id rfl
def getD_map{α : Type}[Inhabited α](f : α->AV)(l:List α)(i:Nat)(h:i<l.length): (l.map f).getD i .undef=f (l.getD i default):=by
 rw[aj,aj,List.getElem?_map,aN h];rfl
section
variable (e:Env) (σ : ae) (K Kp:AV->ae->Prop)
def FC(x:AV)(σ : ae){K:AV->ae->Prop}(_:Tg K): Prop:=match x with
 | .str s=>K (.ref σ.length 0) (σ++[.jc s 0])
 | _=>False
@[go_sem ↓] def agl (x : AX) : br.run P (.Fe x) e σ K Kp = FC (x.ev e) σ (.mk : Tg K) := by
  simp only[br.run,FC];rfl
@[go_sem] def ahC (s:List UInt8):FC (.str s) σ (.mk:Tg K)=K (.ref σ.length 0) (σ++[.jc s 0]):=_root_.id rfl
def SO(x:AV)(σ : ae){K:AV->ae->Prop}(_:Tg K): Prop:=match x with
 | .ref l 0 => match σ[l]? with
   | some (.jc s pos) =>
     if pos<s.length then K (.bU [.bool true,.int .i64 pos,.int .i32 (Utf8.decode ⟨s.toArray⟩ pos).1]) (σ.set l (.jc s (pos+(Utf8.decode ⟨s.toArray⟩ pos).2)))
     else K (.bU [.bool false]) σ
   | _=>False
 | _=>False
@[go_sem ↓] def agm (x : AX) : br.run P (.Ff x) e σ K Kp = SO (x.ev e) σ (.mk : Tg K) := by
  simp only[br.run,SO];rfl
def Cq (o : Option aZ) (l : Nat) (σ : ae) {K : AV -> ae -> Prop} (_ : Tg K) : Prop := match o with
    | some (.jc s pos) =>
      if pos<s.length then K (.bU [.bool true,.int .i64 pos,.int .i32 (Utf8.decode ⟨s.toArray⟩ pos).1]) (σ.set l (.jc s (pos+(Utf8.decode ⟨s.toArray⟩ pos).2)))
      else K (.bU [.bool false]) σ
    | _=>False
@[go_sem] def ahD (l : Nat) : SO (.ref l 0) σ (.mk : Tg K) = Cq (σ[l]?) l σ (.mk : Tg K) := by
  simp only[SO,Cq]
@[go_sem] def agn (l : Nat) (s : List UInt8) (pos : Nat) (h : s.length <= pos) : Cq (some (.jc s pos)) l σ (.mk : Tg K) = K (.bU [.bool false]) σ := by
  simp only[Cq];rw[if_neg (by omega)]
def Ra (l : Nat) (s : List UInt8) (pos : Nat) (h : pos < s.length) : Cq (some (.jc s pos)) l σ (.mk : Tg K) =
    K (.bU [.bool true,.int .i64 pos,.int .i32 (Utf8.decode ⟨s.toArray⟩ pos).1]) (σ.set l (.jc s (pos+(Utf8.decode ⟨s.toArray⟩ pos).2))):=by
 simp only[Cq];rw[if_pos h]
@[go_sem] def aem (l:Nat) (s:List UInt8) (pos:Nat) (h:pos<s.length) (ha:(s.getD pos 0).toNat<128):Cq (some (.jc s pos)) l σ (.mk:Tg K) =
 K (.bU [.bool true,.int .i64 pos,.int .i32 (s.getD pos 0).toNat]) (σ.set l (.jc s (pos+1))):=by
  rw[Ra _ _ _ _ _ h,decode_ascii h ha]
@[go_sem] def afd (l:Nat) (s:List UInt8) (pos:Nat) (h:pos<s.length) (ha:128<=(s.getD pos 0).toNat):Cq (some (.jc s pos)) l σ (.mk:Tg K) =
 K (.bU [.bool true,.int .i64 pos,.int .i32 (FB s pos:Nat)]) (σ.set l (.jc s (pos+(Utf8.decode ⟨s.toArray⟩ pos).2))):=by
  rw[Ra _ _ _ _ _ h];rfl
end
def eY(P:Program)(c:dy)(rs:List sZ)(args:List AV)(σ : ae)(R:Out->ae->Prop): Prop :=
 ∀ Q:AQ,(∀ e σ,Q .ret e σ = qI e σ rs fun vs=>R (.ret (oneOf vs)) σ)->(∀ e σ,Q .normal e σ = qI e σ rs fun vs=>R (.ret (oneOf vs)) σ)->(∀ v e σ,Q (.panic v) e σ = R (.panic v) σ)->jm P c Q (s4 args) σ
def eY.go{c:dy}{rs:List sZ}{args:List AV}{σ : ae}{R:Out->ae->Prop}(h:eY P c rs args σ R): jm P c (XO rs R) (s4 args) σ :=
 h _ (fun _ _=>rfl) (fun _ _=>rfl) (fun _ _ _=>rfl)
@[go_sem ↓] def afe (e:Env) (σ : ae) (t:Nat) (ag:Bool) (n:Nat) (r:List sZ) (K:List AV->Prop):qI e σ (.cell t ag n::r) K=loadT σ ag n (e t) (.mk:Tg fun v=>kR v (.mk:Tg fun v=>qI e σ r fun vs=>K (v::vs))):=_root_.id rfl
def ZM{p K:Prop}(h:p)(hk:K): req p (.mk:Tg K):=⟨h,fun _=>hk⟩
def cj{σ : ae}{a b:AV}{vs rs:List AV}(h:a::b::vs=rs)(hp:AV.cB rs=true): ∃ r0,Out.ret (oneOf (a::b::vs))=Out.ret r0/\View σ r0 (.bU rs):=⟨_,rfl,by subst h;exact .refl _ hp⟩
def fg{σ : ae}{v r:AV}(hv:View σ v r): ∃ r0,Out.ret (oneOf [v])=Out.ret r0/\View σ r0 r:=⟨_,rfl,hv⟩
def cK{σ : ae}{a b:AV}{vs rs:List AV}(hv:bS σ (a::b::vs) rs): ∃ r0,Out.ret (oneOf (a::b::vs))=Out.ret r0/\View σ r0 (.bU rs):=⟨_,rfl,View.agc hv⟩
def View.eqv{σ : ae}{a b:AV}(h:a=b)(hp:b.dF=true): View σ a b:=by subst h;exact .refl _ hp
def aS{σ : ae}{v r:AV}(h:v=r)(hp:r.dF=true): ∃ r0,Out.ret (oneOf [v])=Out.ret r0/\View σ r0 r:=⟨_,rfl,.eqv h hp⟩
def G0 {r : AV} {qB ds : List AV} {τ : ae} (hv : r = .bU []) (hd : bS (.dead :: τ) qB ds) :
    ∃ r0 QI Nr,Out.ret (oneOf [])=Out.ret r0/\aZ.cells qB:: τ = aZ.cells QI::Nr/\View (.dead::Nr) r0 r/\bS (.dead::Nr) QI ds:=⟨_,_,_,rfl,rfl,.eqv hv.symm (by subst hv;rfl),hd⟩
end Go.AM
namespace Go.AM
variable {P:Program}
@[go_sem ↓] def ago (K Kp:AV->ae->Prop) (r:AV) (σ : ae):Nl K Kp (.ret r) σ = K r σ:=_root_.id rfl
@[go_sem] def SP {f:Bool} {σ : ae} {K Kp:AV->ae->Prop} (x:UInt8):d_ P (.uZ (.c (.aO f ⟨false,1⟩ [.int .u8 x.toNat]))) σ (.mk:Tg (K,Kp))=K (.str [x]) σ:=SM σ K Kp f [x]
section
variable {σ : ae} {K Kp:AV->ae->Prop} {l m n lo off:Nat} {cs xs:List AV} {el:El} {T:Option TypeId}
def aen(h : σ[l]? = some (.cg T cs))(hlt:off<cs.length)(hk:K (.ref l off) σ): d_ P (.Gt (.c (.ref l off))) σ (.mk:Tg (K,Kp)):=ace _ _ _ _ _ _ h hlt hk
def aeo{t u:TypeId}(h : σ[l]? = some (.cg (some t) cs))(hlt:liesAt P P.depth t (cs.length / P.cellsOf t) off u 1=true)(hk:K (.ref l off) σ): d_ P (.Gu u (.c (.ref l off))) σ (.mk:Tg (K,Kp)):=acf _ _ _ _ _ _ h hlt hk
def aep{ng:Bool}(h : σ[l]? = some (.cg T cs))(hk:K (.bool ng.not) σ): d_ P (.Es ng (.c (.ref l off)) (.c (.ref l off))) σ (.mk:Tg (K,Kp)):=acg _ _ _ _ _ _ ng h hk
def aeq(h : σ[l]? = some (.cz T el xs))(hm:m=xs.length)(hn:0<n)(hk:K (.eJ el l m lo 0) σ): d_ P (.Bf el (.c (.own el l m lo n))) σ (.mk:Tg (K,Kp)):=SG _ _ _ _ _ _ _ _ h hm hn hk
def aaL(el:El): d_ P (.Bf el (.c .au)) σ (.mk:Tg (K,Kp))=K .iX σ:=_root_.id rfl
def X9(t:TypeId): d_ P (.wT t (.c .iX) (.c (.int .i64 0))) σ (.mk:Tg (K,Kp))=K (.str []) σ:=PA _ _ _ t
attribute [go_sem] aaL X9
def acG {t : TypeId} {a : Int} (s : List UInt8) (h : σ[l]? = some (.cz (some t) ⟨false, 1⟩ xs)) (hm : m = xs.length) (hx : xs = s.map fun b => .int .u8 b.toNat) (h0 : s ≠ []) (h2 : s.length <= 2 ^ 62) (ha : a = (s.length : Int)) (hk : K (.str s) (σ.set l .dead)) :
    d_ P (.wT t (.c (.eJ ⟨false,1⟩ l m 0 0)) (.c (.int .i64 a))) σ (.mk:Tg (K,Kp)):=PB _ _ _ _ _ _ s h hm hx h0 h2 ha hk
def aaM {g : FuncId} {v : AV} (h : ∃ fn, P.funcs[g]? = some fn ∧ (fn.name == "runtime.NumGoroutine") = false ∧ fn.body.isNone = true ∧ Extern.findNext fn = none ∧ Extern.find fn = some Extern.AbiNoEscape.same) (hk : K v σ) : Vf P g v σ (.mk : Tg K) := ⟨h, hk⟩
end
@[go_sem] def agp (sz off : Nat) (cs : List AV) (K : AV -> Prop) : uQ false ⟨true, sz⟩ (.agg cs) off false 1 (.mk : Tg K) = req (off + 1 <= sz) (.mk : Tg (K (cs.getD off .undef))) := by
  rw[aat _ _ _ _ _ (by simp)];simp[req]
section
variable {α : Type} (ρ τ : List α) (c d x : α)
@[go_sem] def ahk:(ρ++c:: τ)[ρ.length]? = some c:=by simp
@[go_sem] def ahl:(ρ++c:: τ).set ρ.length x = ρ++x:: τ:=by simp
end
def ZN(P:Program)(n:FuncId)(args:List AV)(σ : ae){K:AV->ae->Prop}(_:Tg K): Prop:=DJ P n args σ K
def ZO(P:Program)(f:AV)(args:List AV)(σ : ae){K:AV->ae->Prop}(_:Tg K): Prop:=match f with
 | .fn (.func n) [] []=>DJ P n args σ K
 | _=>False
@[go_sem ↓] def agq {e:Env} {σ : ae} {K Kp:AV->ae->Prop} (f:AX) (args:List AX):br.run P (.rL f args) e σ K Kp=ZO P (f.ev e) (args.map (AX.ev e)) σ (.mk:Tg K):=_root_.id rfl
@[go_sem] def ahm {σ : ae} {K:AV->ae->Prop} (n:FuncId) (args:List AV):ZO P (.fn (.func n) [] []) args σ (.mk:Tg K)=ZN P n args σ (.mk:Tg K):=_root_.id rfl
def I6 {n : FuncId} {k off : Nat} {args cs ds : List AV} {r : AV} {σ : ae} {K : AV -> ae -> Prop} (h : c_ P n off args cs ds r) (zd : σ[k]? = some (.cells cs)) (hk : kR r (.mk : Tg fun r => Af (σ.set k (.cells ds)) (.mk : Tg fun σ => K r σ))) :
    ZN P n (.ref k off::args) σ (.mk:Tg K):=⟨k,_,.cells ds,r,rfl,zd,trivial,h σ k zd,hk⟩
def I7 {n : FuncId} {k off : Nat} {args cs : List AV} {r : AV} {σ : ae} {K Kp : AV -> ae -> Prop} (h : c_ P n off args cs cs r) (zd : σ[k]? = some (.cells cs)) (hk : kR r (.mk : Tg fun r => K r σ)) :
    Aj P n (.ref k off::args) σ (.mk:Tg (K,Kp)):=by
 have same:∀ s:ae,s[k]? = some (.cells cs)->s.set k (.cells cs)=s:=fun s hs=>by
  refine List.ext_getElem? fun i=>?_;by_cases hi:k=i
  ·subst hi;rw[x9 hs,hs]
  ·rw[List.getElem?_set_ne hi]
 refine⟨r,fun τ=>?_,hk⟩;have hs:(σ++ τ)[k]? = some (.cells cs):=by rw[aH (aP.1 zd).1];exact zd
 exact(h (σ++ τ) k hs).mono fun o s ⟨h1,h2⟩=>⟨h1,h2.trans (same _ hs)⟩
attribute [go_sem] Int.tdiv_eq_ediv_of_nonneg Int.tmod_eq_emod_of_nonneg acp acq acr acs aaB aaC acu acv aaD aaE aaF aaG acw acy acz acA acB acC acD aaH aaI X0 X1 X2 X3 X4 X5 X6 X7 acE acF aaJ aaK X8 getD_map take_one Bool.or_false Bool.or_true Bool.true_or Bool.false_or beq_self_eq_true Bool.and_true Bool.true_and Bool.and_false Bool.false_and Int.toNat_natCast Int.toNat_natCast_add_one Int.toNat_zero List.length_map List.length_append Nat.zero_add Bool.not_true Bool.not_false
attribute [simp] AV.fits AV.scalar AV.cells pK qU AV.obj fR
end Go.AM
namespace Go.Proofs.YtcjcnfcedihckaaGreatDoor
open Go.AM
set_option maxRecDepth 10000
end Go.Proofs.YtcjcnfcedihckaaGreatDoor
namespace Go.AM.W
structure Of (P:Program) (n:FuncId) (k:Nat) (rs:List sZ) (b:dy):Prop where
 go:∀ {az:List AV} {σ : ae} {R:Out->ae->Prop},eY P b rs az σ R->(hl:az.length<=k:=by simp)->cR P n az σ R
def pN {P : Program} {n : FuncId} {fn : Func} {k : Nat} {rs : List sZ} {b : dy} (h : Hints) (hf : P.funcs[n]? = some fn) (hn : (fn.name == "runtime.NumGoroutine") = false := by kernel_rfl) (hc : Ae P h fn = some ⟨k, rs, b⟩ := by kernel_rfl) : Of P n k rs b := ⟨fun hw hl => cR.of_wp hf hn hc hl hw.go⟩
def bV {P : Program} {n : FuncId} {fn : Func} {k : Nat} {rs : List sZ} {b : dy} (hf : P.funcs[n]? = some fn) (hn : (fn.name == "runtime.NumGoroutine") = false := by kernel_rfl) (hc : Ae P {} fn = some ⟨k, rs, b⟩ := by kernel_rfl) : Of P n k rs b := pN {} hf hn hc
def _root_.Go.AM.aR{P:Program}{f:FuncId}{k:Nat}{rs:List sZ}{c:dy}{az:List AV}{r:AV}(ho:Of P f k rs c)(h:∀ Q:AQ,(∀ e σ,Q .ret e σ = qI e σ rs fun vs=> ∃ r0,Out.ret (oneOf vs) = .ret r0/\View σ r0 r)->(∀ e σ,Q .normal e σ = qI e σ rs fun vs=> ∃ r0,Out.ret (oneOf vs) = .ret r0/\View σ r0 r)->(∀ v e σ,Q (.panic v) e σ = ∃ r0,Out.panic v = .ret r0/\View σ r0 r)->jm P c Q (s4 az) [])(hp:AV.cB az=true:=by first|rfl|(simp;done)|(simp[AV.dF,AV.cB];done))(hl:az.length<=k:=by simp): aM P f az r:=aM.DX (ho.go h hl) hp
abbrev t(n:Nat): AX:= .t n
abbrev gB(b:Bool)(n:Nat)(z:AV)(m:Nat)(l:List (Nat × AX))(d:Nat): cL:=⟨.jI false ⟨b,n⟩ z m l,some d,none⟩
abbrev gU(z:List AV)(l:List (Nat × Nat × AX))(d:Nat): cL:=⟨.build z l,some d,none⟩
abbrev gI(b:Bool)(n a:Nat)(k:Int)(d:Nat): cL:=⟨.gG ⟨b,n⟩ none (.t a) (.c (.int .i64 k)),some d,none⟩
abbrev gA(b:Bool)(n x y:Nat)(d:Nat): cL:=⟨.app none ⟨b,n⟩ (.t x) (.t y),some d,none⟩
abbrev gF(d:Nat): cL:=⟨.mv (.c (.bool false)),some d,none⟩
abbrev gT(d:Nat): cL:=⟨.mv (.c (.bool true)),some d,none⟩
abbrev gJ(n:Int): AX:= .c (.int .i64 n)
abbrev gS(s:List UInt8): AX:= .c (.str s)
abbrev gR(a:List cL)(n:Nat)(b:List cL)(x:dy): dy:= .seq (.seq (.region a) (.cond (.t n) (.seq (.region b) .ret) .skip)) x
abbrev gL(i:Nat)(a:List cL)(n:Nat)(x:dy): dy:= .block i (.loop (.seq (.seq (.region a) (.cond (.t n) .skip (.exit i))) x))
abbrev bw(o:br)(d:Nat): cL:=⟨o,some d,none⟩
abbrev i6(n:Int): AV:= .int .i64 n
abbrev z0: AV:= .int .i64 0
abbrev e0: AV:= .str []
abbrev R(l:List cL): dy:= .region l
abbrev r(l:List cL)(b:dy): dy:= .seq (.region l) b
abbrev q(a b:dy): dy:= .seq a b
abbrev c(n:Nat)(a b:dy): dy:= .cond (.t n) a b
abbrev k: dy:= .skip
abbrev M(a:Nat)(d:Nat): cL:=⟨.mv (.t a),some d,none⟩
abbrev MT(a:Nat)(d k:Nat): cL:=⟨.mv (.t a),some d,some (k,true)⟩
abbrev MF(a:Nat)(d k:Nat): cL:=⟨.mv (.t a),some d,some (k,false)⟩
abbrev V(a:AV)(d:Nat): cL:=⟨.mv (.c a),some d,none⟩
abbrev L(n a:Nat)(d:Nat): cL:=⟨.load true n (.t a),some d,none⟩
abbrev LT(n a:Nat)(d k:Nat): cL:=⟨.load true n (.t a),some d,some (k,true)⟩
abbrev LF(n a:Nat)(d k:Nat): cL:=⟨.load true n (.t a),some d,some (k,false)⟩
abbrev K(a:Nat)(d:Nat): cL:=⟨.load false 1 (.t a),some d,none⟩
abbrev KT(a:Nat)(d k:Nat): cL:=⟨.load false 1 (.t a),some d,some (k,true)⟩
abbrev KF(a:Nat)(d k:Nat): cL:=⟨.load false 1 (.t a),some d,some (k,false)⟩
abbrev B(o:BinOp)(a b:Nat)(d:Nat): cL:=⟨.bin o (.t a) (.t b),some d,none⟩
abbrev BT(o:BinOp)(a b:Nat)(d k:Nat): cL:=⟨.bin o (.t a) (.t b),some d,some (k,true)⟩
abbrev BF(o:BinOp)(a b:Nat)(d k:Nat): cL:=⟨.bin o (.t a) (.t b),some d,some (k,false)⟩
abbrev D(o:BinOp)(a:Nat)(b:Int)(d:Nat): cL:=⟨.bin o (.t a) (.c (.int .i64 b)),some d,none⟩
abbrev DT(o:BinOp)(a:Nat)(b:Int)(d k:Nat): cL:=⟨.bin o (.t a) (.c (.int .i64 b)),some d,some (k,true)⟩
abbrev DF(o:BinOp)(a:Nat)(b:Int)(d k:Nat): cL:=⟨.bin o (.t a) (.c (.int .i64 b)),some d,some (k,false)⟩
abbrev A(n a:Nat)(d:Nat): cL:=⟨.po n (.t a),some d,none⟩
abbrev AT(n a:Nat)(d k:Nat): cL:=⟨.po n (.t a),some d,some (k,true)⟩
abbrev AF(n a:Nat)(d k:Nat): cL:=⟨.po n (.t a),some d,some (k,false)⟩
abbrev P(a b:Nat)(d:Nat): cL:=⟨.pick (.t a) (.t b) (.c (.bool false)),some d,none⟩
abbrev PT(a b:Nat)(d k:Nat): cL:=⟨.pick (.t a) (.t b) (.c (.bool false)),some d,some (k,true)⟩
abbrev PF(a b:Nat)(d k:Nat): cL:=⟨.pick (.t a) (.t b) (.c (.bool false)),some d,some (k,false)⟩
abbrev O(a b:Nat)(d:Nat): cL:=⟨.pick (.t a) (.c (.bool true)) (.t b),some d,none⟩
abbrev OT(a b:Nat)(d k:Nat): cL:=⟨.pick (.t a) (.c (.bool true)) (.t b),some d,some (k,true)⟩
abbrev S(a:Nat)(d:Nat): cL:=⟨.len true (.t a),some d,none⟩
abbrev ST(a:Nat)(d k:Nat): cL:=⟨.len true (.t a),some d,some (k,true)⟩
abbrev SF(a:Nat)(d k:Nat): cL:=⟨.len true (.t a),some d,some (k,false)⟩
abbrev N(a:Nat)(d:Nat): cL:=⟨.len false (.t a),some d,none⟩
abbrev NT(a:Nat)(d k:Nat): cL:=⟨.len false (.t a),some d,some (k,true)⟩
abbrev NF(a:Nat)(d k:Nat): cL:=⟨.len false (.t a),some d,some (k,false)⟩
abbrev I(b:Bool)(n a c:Nat)(d:Nat): cL:=⟨.gG ⟨b,n⟩ none (.t a) (.t c),some d,none⟩
abbrev IT(b:Bool)(n a c:Nat)(d k:Nat): cL:=⟨.gG ⟨b,n⟩ none (.t a) (.t c),some d,some (k,true)⟩
abbrev IF(b:Bool)(n a c:Nat)(d k:Nat): cL:=⟨.gG ⟨b,n⟩ none (.t a) (.t c),some d,some (k,false)⟩
abbrev E(a n:Nat)(d:Nat): cL:=⟨.ext (.t a) n,some d,none⟩
abbrev ET(a n:Nat)(d k:Nat): cL:=⟨.ext (.t a) n,some d,some (k,true)⟩
abbrev Z(a:Nat)(d:Nat): cL:=⟨.qd (.t a),some d,none⟩
abbrev ZT(a:Nat)(d k:Nat): cL:=⟨.qd (.t a),some d,some (k,true)⟩
abbrev ZF(a:Nat)(d k:Nat): cL:=⟨.qd (.t a),some d,some (k,false)⟩
abbrev X(a:Nat)(d:Nat): cL:=⟨.box (.t a),some d,none⟩
abbrev U(a:Nat)(d:Nat): cL:=⟨.un .not (.t a),some d,none⟩
abbrev UT(a:Nat)(d k:Nat): cL:=⟨.un .not (.t a),some d,some (k,true)⟩
abbrev UF(a:Nat)(d k:Nat): cL:=⟨.un .not (.t a),some d,some (k,false)⟩
abbrev J(l:List AV)(d:Nat): cL:=⟨.alloc none l,some d,none⟩
abbrev C(f:FuncId)(l:List AX)(d:Nat): cL:=⟨.call false (.c (.fn (.func f) [] [])) l,some d,none⟩
abbrev CT(f:FuncId)(l:List AX)(d k:Nat): cL:=⟨.call false (.c (.fn (.func f) [] [])) l,some d,some (k,true)⟩
abbrev CF(f:FuncId)(l:List AX)(d k:Nat): cL:=⟨.call false (.c (.fn (.func f) [] [])) l,some d,some (k,false)⟩
abbrev Q(f:FuncId)(l:List AX)(d:Nat): cL:=⟨.call true (.c (.fn (.func f) [] [])) l,some d,none⟩
abbrev QT(f:FuncId)(l:List AX)(d k:Nat): cL:=⟨.call true (.c (.fn (.func f) [] [])) l,some d,some (k,true)⟩
abbrev QF(f:FuncId)(l:List AX)(d k:Nat): cL:=⟨.call true (.c (.fn (.func f) [] [])) l,some d,some (k,false)⟩
abbrev W(n a b:Nat): cL:=⟨.store n (.t a) (.t b),none,none⟩
