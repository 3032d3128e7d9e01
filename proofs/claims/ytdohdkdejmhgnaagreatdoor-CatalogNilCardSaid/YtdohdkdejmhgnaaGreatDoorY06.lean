/- Part. -/
import Derived.Test.YtdohdkdejmhgnaaGreatDoorY05
import Derived.Test.YtdohdkdejmhgnaaGreatDoorChecked
import Derived.KernelRfl
set_option linter.all false
namespace Go.AM
variable {P:Program}
def OI{n:Int}(h:0<=n)(h':n<=255): dQ .u8 n=n:=by
 show IntKind.wrap .u8 n=n;simp[IntKind.wrap,IntKind.bits,IntKind.signed];omega
def Ma{n:Int}(h:0<=n)(h':n<18446744073709551616): dQ .u64 n=n:=by
 show IntKind.wrap .u64 n=n;simp[IntKind.wrap,IntKind.bits,IntKind.signed];omega
attribute [go_sem] L9 OI Ma
attribute [go_sem_proc] Nat.reduceAdd Nat.reduceBEq
attribute [go_sem_proc ↓] reduceIte
def OJ{s:List UInt8}{i:Nat}(h:i<s.length): (⟨s.toArray⟩:ByteArray).get! i=s.getD i 0:=by
 simp only[ByteArray.get!];rw[getElem!_pos _ i (by simpa using h),aj,aJ h];simp
def HC(s:List UInt8)(pos:Nat): Nat:=(Utf8.decode ⟨s.toArray⟩ pos).1
def decode_ascii{s:List UInt8}{pos:Nat}(h:pos<s.length)(ha:(s.getD pos 0).toNat<128): Utf8.decode ⟨s.toArray⟩ pos=((s.getD pos 0).toNat,1):=by
 unfold Utf8.decode;simp only[dP,OJ h];rw[aB ha]
def Q5{s:List UInt8}{pos:Nat}(h:pos<s.length)(ha:128<=(s.getD pos 0).toNat): 128<=HC s pos:=by
 unfold HC Utf8.decode;simp only[dP,OJ h];rw[aq ae];have he:128<=Utf8.runeError:=dV;split
 ·split<;>first|assumption|exact he
 split
 ·split
  ·rename_i h2;simp only[ge_iff_le,aD,au]at h2;exact bS ae h2.1
  exact he
 split
 ·split
  ·rename_i h2;simp only[ge_iff_le,aD,au]at h2;exact bS ae h2.1
  exact he
 exact he
noncomputable def ou:BinOp->IntKind->Int->Int->Int:=Classical.choose (⟨jE,rfl⟩:∃ f,f=jE)
def kO: ou=jE:=Classical.choose_spec (⟨jE,rfl⟩:∃ f,f=jE)
section
variable (K:AV->Prop) (k:IntKind) (a b:Int) (s t:List UInt8)
@[go_sem] def ak8:iP .and (.int k a) (.int k b) (.mk:Tg K)=K (.int k (ou .and k a b)):=by rw[kO];simp[iP,jR]
@[go_sem] def anI:iP .or (.int k a) (.int k b) (.mk:Tg K)=K (.int k (ou .or k a b)):=by rw[kO];simp[iP,jR]
@[go_sem] def ak9:iP .xor (.int k a) (.int k b) (.mk:Tg K)=K (.int k (ou .xor k a b)):=by rw[kO];simp[iP,jR]
@[go_sem] def ah7:iP .andNot (.int k a) (.int k b) (.mk:Tg K)=K (.int k (ou .andNot k a b)):=by rw[kO];simp[iP,jR]
@[go_sem] def ak_ (k':IntKind):iP .shl (.int k a) (.int k' b) (.mk:Tg K)=req (0<=b) (.mk:Tg (K (.int k (dQ k (a*2 ^ (Nat.min b.toNat k.bits)))))):=by rw[<-eD];simp[iP,jR]
@[go_sem] def ala (k':IntKind):iP .shr (.int k a) (.int k' b) (.mk:Tg K)=req (0<=b) (.mk:Tg (K (.int k (a.fdiv (2 ^ (Nat.min b.toNat k.bits)))))):=by rw[<-eD];simp[iP,jR]
@[go_sem] def anJ:unT .neg (.int k a) (.mk:Tg K)=K (.int k (dQ k (0-a))):=_root_.id rfl
end
section
variable (σ : ai) (K Kp:AV->ai->Prop)
variable (k k':IntKind) (a b:Int) (s t:List UInt8) (el:El) (xs cs:List AV) (l m lo n off i:Nat) (f:Bool)
def iaO(el:El)(o:Option bG)(l m j:Nat){K:AV->Prop}(_:Tg K): Prop:=match o with
 | some (.bW _ bq xs)=>bq=el/\m=xs.length/\K (.dw el l m j 0)
 | _=>False
@[go_sem] def adZ : eT P (.jh el none (.c (.own el l m lo n)) (.c (.int k a))) σ (.mk : Tg (K, Kp)) = req (0 <= a /\ a < n) (.mk : Tg (iaO el (σ[l]?) l m (lo + a.toNat) (.mk : Tg fun v => K v σ))) := by
  rw[<-eD];simp only[eT,bf.run,AX.ev,iaO,true_and,and_assoc];rfl
@[go_sem] def anU (K : AV -> Prop) : iaO el (some (.vec el xs)) l m i (.mk : Tg K) = req (m = xs.length) (.mk : Tg (K (.dw el l m i 0))) := by
  rw[<-eD];simp[iaO]
@[go_sem] def Y3 : eT P (.jh el (some n) (.c (.ref l i)) (.c (.int k a))) σ (.mk : Tg (K, Kp)) = req (0 <= a /\ a < n) (.mk : Tg (K (.ref l (i + a.toNat * el.sz)) σ)) := by
  rw[<-eD];simp only[eT,bf.run,AX.ev,and_assoc]
@[go_sem] def aj1 (ln : Nat) : eT P (.wX ⟨false, 1⟩ ln (.c (.agg cs)) (.c (.int k a))) σ (.mk : Tg (K, Kp)) = req (0 <= a /\ a < ln /\ a.toNat + 1 <= cs.length) (.mk : Tg (K (cs.getD a.toNat .undef) σ)) := by
  rw[<-eD];simp[eT,bf.run,AX.ev,and_assoc]
def stV(σ : ai)(el:El)(l:Nat)(o:Option bG)(m i off n:Nat)(v:AV){K:ai->Prop}(_:Tg K): Prop:=v.cells.length=n/\v.cells.all AV.scalar=true/\match o with
 | some (.bW T aS xs) => aS = el /\ m = xs.length /\ i < xs.length /\ off + n <= el.sz /\ (el.ag = false -> v.fits el = true) /\
    K (σ.set l (.bW T el (xs.set i (if el.ag then .agg (dm (xs.getD i .undef).cells off v.cells)else v))))
 | _=>False
@[go_sem] def ah8 (v:AV) (K:ai->Prop):storeT σ n (.dw el l m i off) v (.mk:Tg K)=stV σ el l (σ[l]?) m i off n v (.mk:Tg K):=_root_.id rfl
@[go_sem] def anV (v : AV) (K : ai -> Prop) : stV σ el l (some (.vec el xs)) m i off n v (.mk : Tg K) = req (v.cells.length = n /\ v.cells.all AV.scalar = true /\ m = xs.length /\ i < xs.length /\ off + n <= el.sz /\ (el.ag = false -> v.fits el = true)) (.mk : Tg (K (σ.set l (.vec el (xs.set i (if el.ag then .agg (dm (xs.getD i .undef).cells off v.cells) else v)))))) := by
  rw[<-eD];simp only[stV,true_and,and_assoc]
def T0(o:Option bG)(m lo n:Nat){K:AV->Prop}(_:Tg K): Prop:=match o with
 | some (.bW _ el xs)=>el=⟨false,1⟩/\m=xs.length/\ ∃ s:List UInt8,(xs.drop lo).take n=s.map (fun b=>AV.int .u8 b.toNat)/\K (.str s)
 | _=>False
@[go_sem] def aiK : eT P (.yu (.c (.own ⟨false, 1⟩ l m lo n))) σ (.mk : Tg (K, Kp)) = T0 (σ[l]?) m lo n (.mk : Tg fun v => K v σ) := by
  simp only[eT,bf.run,AX.ev,fL,T0,true_and];rfl
def I4{K:AV->Prop}{xs:List AV}{m n:Nat}(s:List UInt8)(hx:xs=s.map fun b=>AV.int .u8 b.toNat)(hm:m=xs.length)(hn:n=xs.length)(hk:K (.str s)): T0 (some (.vec ⟨false,1⟩ xs)) m 0 n (.mk:Tg K) :=
 ⟨rfl,hm,s,by rw[hn,<-hx];simp,hk⟩
@[go_sem] def ac9 (t : TypeId) (c : UInt8) : eT P (.app (some t) ⟨false, 1⟩ (.c .aP) (.c (.str (c :: s)))) σ (.mk : Tg (K, Kp)) = req (fE (s.length + 1) ⟨false, 1⟩) (.mk : Tg (K (.own ⟨false, 1⟩ σ.length (s.length + 1) 0 (s.length + 1)) (σ ++ [.bW (some t) ⟨false, 1⟩ ((c :: s).map fun b => .int .u8 b.toNat)]))) := by
  rw[<-eD];have h:((c::s).map fun b=>AV.int .u8 b.toNat).all (fun a=>a.fits ⟨false,1⟩)=true:=by simp[AV.fits]
  simp only[eT,bf.run,AX.ev,oc,fL,true_and,h,c8,aE,Nat.add_eq_zero_iff,Nat.one_ne_zero,and_false,if_false]
@[go_sem] def abQ (T : Option TypeId) : eT P (.app T ⟨false, 1⟩ (.c .aP) (.c (.str []))) σ (.mk : Tg (K, Kp)) = K .aP σ := by
  simp[eT,bf.run,AX.ev,oc,fL]
@[go_sem] def ad0 (T : Option TypeId) : eT P (.app T ⟨false, 1⟩ (.c (.own ⟨false, 1⟩ l m lo n)) (.c (.str s))) σ (.mk : Tg (K, Kp)) = DW σ T ⟨false, 1⟩ (σ[l]?) l m lo n (s.map fun b => .int .u8 b.toNat) (.mk : Tg K) := by
  have:((s.map fun b=>AV.int .u8 b.toNat).all fun a=>a.fits ⟨false,1⟩)=true:=by simp[AV.fits]
  simp only[eT,bf.run,AX.ev,oc,fL,DW,true_and,this];rfl
def nK(ng:Bool)(acc:Bool)(ks:List Kd)(xs ys:List AV){K:AV->Prop}(_:Tg K): Prop:=match ic ks xs ys with
 | some c=>K (.bool (if ng then !(acc && c)else acc && c))
 | none=>False
def Y4(acc:Bool)(K:AV->Prop): nK false acc [] [] [] (.mk:Tg K)=K (.bool acc):=by simp[nK,ic]
def WA(acc:Bool)(K:AV->Prop): nK true acc [] [] [] (.mk:Tg K)=K (.bool (!acc)):=by simp[nK,ic]
def DZ(ng acc c:Bool)(kd:Kd)(x y:AV)(ks:List Kd)(xs ys:List AV)(K:AV->Prop)(h:G6 kd x y=some c): nK ng acc (kd::ks) (x::xs) (y::ys) (.mk:Tg K)=nK ng (acc && c) ks xs ys (.mk:Tg K):=by
 simp only[nK,ic,h];cases ic ks xs ys<;>simp[Bool.and_assoc]
attribute [go_sem] Y4 WA
@[go_sem] def anW (ng acc:Bool) (ks:List Kd) (xs ys:List AV) (K:AV->Prop):nK ng acc (.i::ks) (.int k a::xs) (.int k b::ys) (.mk:Tg K)=nK ng (acc && (a==b)) ks xs ys (.mk:Tg K):=DZ _ _ _ _ _ _ _ _ _ _ (by simp[G6])
@[go_sem] def anX (ng acc:Bool) (ks:List Kd) (xs ys:List AV) (K:AV->Prop):nK ng acc (.s::ks) (.str s::xs) (.str t::ys) (.mk:Tg K)=nK ng (acc && (s==t)) ks xs ys (.mk:Tg K):=DZ _ _ _ _ _ _ _ _ _ _ rfl
@[go_sem] def anY (ng acc p q:Bool) (ks:List Kd) (xs ys:List AV) (K:AV->Prop):nK ng acc (.b::ks) (.bool p::xs) (.bool q::ys) (.mk:Tg K)=nK ng (acc && (p==q)) ks xs ys (.mk:Tg K):=DZ _ _ _ _ _ _ _ _ _ _ rfl
@[go_sem] def aj2 (ng : Bool) (ks : List Kd) (xs ys : List AV) : eT P (.rW ng true ks (.c (.agg xs)) (.c (.agg ys))) σ (.mk : Tg (K, Kp)) = nK ng true ks xs ys (.mk : Tg fun v => K v σ) := by
  rw[YZ];simp only[nK];cases ic ks xs ys<;>simp
def ad1(ng:Bool)(o:Option Bool){K:AV->Prop}(_:Tg K): Prop:=match o with
 | some c=>K (.bool (if ng then !c else c))
 | none=>False
@[go_sem] def anZ (c:Bool) (K:AV->Prop):ad1 false (some c) (.mk:Tg K)=K (.bool c):=_root_.id rfl
@[go_sem] def aj3 (ng : Bool) (kn : NK) (x y : AV) : eT P (.p_ ng kn (.c x) (.c y)) σ (.mk : Tg (K, Kp)) = ad1 ng (n8 kn x y) (.mk : Tg fun v => K v σ) := by
  rw[YY];rfl
end
def Y5{l:Nat}{c r:cQ}{Q:AQ}{e:Env}{σ : ai}(h:fg P c (qZ l (fun _ _=>False) Q) e σ): OF P (.mk:Tg (l,c,r,Q,e,σ)) :=
 ⟨fun _ _ _=>False,gK (fun ex e σ hq=>by cases ex<;>first|exact hq|exact hq.2.elim) _ _ h,fun _ _ _ h=>h.elim⟩
@[go_sem ↓] def aj4 (l:Nat) (J:Env->ai->Prop) (Q:AQ) (e:Env) (σ : ai):qZ l J Q .ret e σ = Q .ret e σ:=_root_.id rfl
@[go_sem ↓] def ah9 (l:Nat) (J:Env->ai->Prop) (Q:AQ) (v:AV) (e:Env) (σ : ai):qZ l J Q (.panic v) e σ = Q (.panic v) e σ:=_root_.id rfl
@[go_sem] def Nl {α : Type} (H:List α) (c : α):(H++[c])[H.length]? = some c:=aT
def Y6{ms ms':List Nat}{r e e':Env}(hs:ms'.all (fun t=>ms.contains t)=true)(h:DX ms e e'): DX ms e (IY ms' r e'):=fun t ht=>by
 simp only[IY];split
 ·rename_i h1;rw[bt]at hs;have:=hs t (by simpa using h1);rw[ht]at this;cases this
 exact h t ht
@[go_sem ↓] def ad2 (e:Env):oh [] e=True:=_root_.id rfl
@[go_sem ↓] def ac_ (x y:AX) (r:List (AX × AX)) (e:Env):oh ((x,y)::r) e=(pJ (x.ev e) (y.ev e)/\oh r e):=_root_.id rfl
@[go_sem] def aj5 (el:El) (x:AV) (o:Nat) (q:AV):pJ (.cN el x o) q=True:=by simp[pJ,AV.obj]
@[go_sem] def aj6 (l k a b:Nat):pJ (.ref l a) (.ref k b)=(l≠k):=by simp only[pJ,AV.obj,Option.some.injEq];exact propext ⟨fun h e=>h l rfl e.symm,fun h x e1 e2=>h (e1.trans e2.symm)⟩
section
variable {α β : Type} (a b c : α) (l m:List α) (f : α-> β) (n:Nat)
def ad3: (a::l)[0]? = some a:=_root_.id rfl
def ad4: (a::l)[n+1]? = l[n]?:=_root_.id rfl
def ad5: (a::l).set 0 b=b::l:=_root_.id rfl
def ad6: (a::l).set (n+1) b=a::l.set n b:=_root_.id rfl
def abR: (a::l).getD 0 b=a:=_root_.id rfl
def abS: (a::l).getD (n+1) b=l.getD n b:=_root_.id rfl
def ad7: (a::l).length=l.length+1:=_root_.id rfl
def ad8: ([]:List α).length=0:=_root_.id rfl
def abT: l.drop 0=l:=_root_.id rfl
def abU: (a::l).drop (n+1)=l.drop n:=_root_.id rfl
def abV: l.take 0=[]:=_root_.id rfl
def abW: (a::l).take (n+1)=a::l.take n:=_root_.id rfl
def ad9: (a::l).map f=f a::l.map f:=_root_.id rfl
def ad_: ([]:List α).map f=[]:=_root_.id rfl
def aea: (a::l)++m=a::(l++m):=_root_.id rfl
def aeb: []++m=m:=_root_.id rfl
def aec: l++[]=l:=cI l
def aed: List.replicate 0 a=[]:=_root_.id rfl
def aee: List.replicate (n+1) a=a::List.replicate n a:=_root_.id rfl
end
def abX(cs:List AV)(i:Nat): dm cs i []=cs:=by cases cs<;>exact _root_.id rfl
def abY(cs:List AV)(i:Nat)(a:AV)(l:List AV): dm cs i (a::l)=dm (cs.set i a) (i+1) l:=by cases cs<;>exact _root_.id rfl
def Y7(cs:List AV): (AV.agg cs).cells=cs:=_root_.id rfl
def Y8(k:IntKind)(n:Int): (AV.int k n).cells=[.int k n]:=_root_.id rfl
def Y9(b:Bool): (AV.bool b).cells=[.bool b]:=_root_.id rfl
def Y_(s:List UInt8): (AV.str s).cells=[.str s]:=_root_.id rfl
def Za(f:Bool)(el:El)(xs:List AV): (AV.aH f el xs).cells=[.aH f el xs]:=_root_.id rfl
def Zb: AV.aP.cells=[.aP]:=_root_.id rfl
def Zc(el:El)(l m lo n:Nat): (AV.own el l m lo n).cells=[.own el l m lo n]:=_root_.id rfl
def Zd(l o:Nat): (AV.ref l o).cells=[.ref l o]:=_root_.id rfl
def aef(l o:Nat): n8 .p (.ref l o) .ew=some false:=_root_.id rfl
def aeg: n8 .p .ew .ew=some true:=_root_.id rfl
def abZ(n m:Nat)(l:List Nat): (n::l).contains m=(m==n || l.contains m):=List.contains_cons
def ab0(m:Nat): ([]:List Nat).contains m=false:=_root_.id rfl
def Ze: (false==true)=false:=_root_.id rfl
def getD_map{α : Type}[Inhabited α](f : α->AV)(l:List α)(i:Nat)(h:i<l.length): (l.map f).getD i .undef=f (l.getD i default):=by
 rw[aj,aj,ia,aJ h];rfl
section
variable (e:Env) (σ : ai) (K Kp:AV->ai->Prop)
def D2(x:AV)(σ : ai){K:AV->ai->Prop}(_:Tg K): Prop:=match x with
 | .str s=>K (.ref σ.length 0) (σ++[.fZ s 0])
 | _=>False
@[go_sem ↓] def alb (x : AX) : bf.run P (.Dm x) e σ K Kp = D2 (x.ev e) σ (.mk : Tg K) := by
  simp only[bf.run,D2];rfl
@[go_sem] def an0 (s:List UInt8):D2 (.str s) σ (.mk:Tg K)=K (.ref σ.length 0) (σ++[.fZ s 0]):=_root_.id rfl
def T1(x:AV)(σ : ai){K:AV->ai->Prop}(_:Tg K): Prop:=match x with
 | .ref l 0 => match σ[l]? with
   | some (.fZ s pos) =>
     if pos<s.length then K (.bg [.bool true,.int .i64 pos,.int .i32 (Utf8.decode ⟨s.toArray⟩ pos).1]) (σ.set l (.fZ s (pos+(Utf8.decode ⟨s.toArray⟩ pos).2)))
     else K (.bg [.bool false]) σ
   | _=>False
 | _=>False
@[go_sem ↓] def alc (x : AX) : bf.run P (.Dn x) e σ K Kp = T1 (x.ev e) σ (.mk : Tg K) := by
  simp only[bf.run,T1];rfl
def D3 (o : Option bG) (l : Nat) (σ : ai) {K : AV -> ai -> Prop} (_ : Tg K) : Prop := match o with
    | some (.fZ s pos) =>
      if pos<s.length then K (.bg [.bool true,.int .i64 pos,.int .i32 (Utf8.decode ⟨s.toArray⟩ pos).1]) (σ.set l (.fZ s (pos+(Utf8.decode ⟨s.toArray⟩ pos).2)))
      else K (.bg [.bool false]) σ
    | _=>False
@[go_sem] def an1 (l : Nat) : T1 (.ref l 0) σ (.mk : Tg K) = D3 (σ[l]?) l σ (.mk : Tg K) := by
  simp only[T1,D3]
@[go_sem] def ald (l : Nat) (s : List UInt8) (pos : Nat) (h : s.length <= pos) : D3 (some (.fZ s pos)) l σ (.mk : Tg K) = K (.bg [.bool false]) σ := by
  simp only[D3];rw[aq ae]
def Se (l : Nat) (s : List UInt8) (pos : Nat) (h : pos < s.length) : D3 (some (.fZ s pos)) l σ (.mk : Tg K) =
    K (.bg [.bool true,.int .i64 pos,.int .i32 (Utf8.decode ⟨s.toArray⟩ pos).1]) (σ.set l (.fZ s (pos+(Utf8.decode ⟨s.toArray⟩ pos).2))):=by
 simp only[D3];rw[aB h]
@[go_sem] def aiL (l:Nat) (s:List UInt8) (pos:Nat) (h:pos<s.length) (ha:(s.getD pos 0).toNat<128):D3 (some (.fZ s pos)) l σ (.mk:Tg K) =
 K (.bg [.bool true,.int .i64 pos,.int .i32 (s.getD pos 0).toNat]) (σ.set l (.fZ s (pos+1))):=by
  rw[Se _ _ _ _ _ h,decode_ascii h ha]
@[go_sem] def aj7 (l:Nat) (s:List UInt8) (pos:Nat) (h:pos<s.length) (ha:128<=(s.getD pos 0).toNat):D3 (some (.fZ s pos)) l σ (.mk:Tg K) =
 K (.bg [.bool true,.int .i64 pos,.int .i32 (HC s pos:Nat)]) (σ.set l (.fZ s (pos+(Utf8.decode ⟨s.toArray⟩ pos).2))):=by
  rw[Se _ _ _ _ _ h];rfl
end
def iC(P:Program)(c:cQ)(rs:List kp)(args:List AV)(σ : ai)(R:Out->ai->Prop): Prop :=
 ∀ Q:AQ,(∀ e σ,Q .ret e σ = mj e σ rs fun vs=>R (.ret (oneOf vs)) σ)->(∀ e σ,Q .normal e σ = mj e σ rs fun vs=>R (.ret (oneOf vs)) σ)->(∀ v e σ,Q (.panic v) e σ = R (.panic v) σ)->fg P c Q (fC args) σ
def iC.go{c:cQ}{rs:List kp}{args:List AV}{σ : ai}{R:Out->ai->Prop}(h:iC P c rs args σ R): fg P c (xg rs R) (fC args) σ :=
 h _ (fun _ _=>rfl) (fun _ _=>rfl) (fun _ _ _=>rfl)
@[go_sem ↓] def aj8 (e:Env) (σ : ai) (t:Nat) (ag:Bool) (n:Nat) (r:List kp) (K:List AV->Prop):mj e σ (.cell t ag n::r) K=loadT σ ag n (e t) (.mk:Tg fun v=>lQ v (.mk:Tg fun v=>mj e σ r fun vs=>K (v::vs))):=_root_.id rfl
def aaX{p K:Prop}(h:p)(hk:K): req p (.mk:Tg K):=⟨h,fun _=>hk⟩
def c6{σ : ai}{a b:AV}{vs rs:List AV}(h:a::b::vs=rs)(hp:AV.cK rs=true): ∃ r0,Out.ret (oneOf (a::b::vs))=Out.ret r0/\View σ r0 (.bg rs):=⟨_,rfl,by subst h;exact .refl _ hp⟩
def NN{σ : ai}{v r:AV}(hv:View σ v r): ∃ r0,Out.ret (oneOf [v])=Out.ret r0/\View σ r0 r:=⟨_,rfl,hv⟩
def g_{σ : ai}{a b:AV}{vs rs:List AV}(hv:bR σ (a::b::vs) rs): ∃ r0,Out.ret (oneOf (a::b::vs))=Out.ret r0/\View σ r0 (.bg rs):=⟨_,rfl,View.adW hv⟩
def View.eqv{σ : ai}{a b:AV}(h:a=b)(hp:b.dU=true): View σ a b:=by subst h;exact .refl _ hp
def bu{σ : ai}{v r:AV}(h:v=r)(hp:r.dU=true): ∃ r0,Out.ret (oneOf [v])=Out.ret r0/\View σ r0 r:=⟨_,rfl,.eqv h hp⟩
def I5 {r : AV} {pg ds : List AV} {H : ai} (hv : r = .bg []) (hd : bR (.dead :: H) pg ds) :
    ∃ r0 RM OL,Out.ret (oneOf [])=Out.ret r0/\bG.cells pg::H=bG.cells RM::OL/\View (.dead::OL) r0 r/\bR (.dead::OL) RM ds:=⟨_,_,_,rfl,rfl,.eqv hv.symm (by subst hv;rfl),hd⟩
end Go.AM
namespace Go.AM
variable {P:Program}
@[go_sem ↓] def ale (K Kp:AV->ai->Prop) (r:AV) (σ : ai):oZ K Kp (.ret r) σ = K r σ:=_root_.id rfl
section
variable {σ : ai} {K Kp:AV->ai->Prop} {l m n lo off:Nat} {cs xs:List AV} {el:El} {T:Option TypeId}
def aiM(h : σ[l]? = some (.bH T cs))(hlt:off<cs.length)(hk:K (.ref l off) σ): eT P (.Gp (.c (.ref l off))) σ (.mk:Tg (K,Kp)):=adR _ _ _ _ _ _ h hlt hk
def aiN{t u:TypeId}(h : σ[l]? = some (.bH (some t) cs))(hlt:liesAt P P.depth t (cs.length / P.cellsOf t) off u 1=true)(hk:K (.ref l off) σ): eT P (.Gq u (.c (.ref l off))) σ (.mk:Tg (K,Kp)):=adS _ _ _ _ _ _ h hlt hk
def aiO{ng:Bool}(h : σ[l]? = some (.bH T cs))(hk:K (.bool ng.not) σ): eT P (.Dl ng (.c (.ref l off)) (.c (.ref l off))) σ (.mk:Tg (K,Kp)):=adT _ _ _ _ _ _ ng h hk
def aiP(h : σ[l]? = some (.bW T el xs))(hm:m=xs.length)(hn:0<n)(hk:K (.dw el l m lo 0) σ): eT P (.z6 el (.c (.own el l m lo n))) σ (.mk:Tg (K,Kp)):=TV _ _ _ _ _ _ _ _ h hm hn hk
def ab1(el:El): eT P (.z6 el (.c .aP)) σ (.mk:Tg (K,Kp))=K .ew σ:=_root_.id rfl
def Zf(t:TypeId): eT P (.vi t (.c .ew) (.c (.int .i64 0))) σ (.mk:Tg (K,Kp))=K (.str []) σ:=QY _ _ _ t
attribute [go_sem] ab1 Zf
def aeh {t : TypeId} {a : Int} (s : List UInt8) (h : σ[l]? = some (.bW (some t) ⟨false, 1⟩ xs)) (hm : m = xs.length) (hx : xs = s.map fun b => .int .u8 b.toNat) (h0 : s ≠ []) (h2 : s.length <= 2^62) (ha : a = (s.length : Int)) (hk : K (.str s) (σ.set l .dead)) :
    eT P (.vi t (.c (.dw ⟨false,1⟩ l m 0 0)) (.c (.int .i64 a))) σ (.mk:Tg (K,Kp)):=QZ _ _ _ _ _ _ s h hm hx h0 h2 ha hk
def ab2 {g : FuncId} {v : AV} (h : ∃ fn, P.funcs[g]? = some fn ∧ (fn.name == "runtime.NumGoroutine") = false ∧ fn.body.isNone = true ∧ Extern.findNext fn = none ∧ Extern.find fn = some Extern.AbiNoEscape.same) (hk : K v σ) : Ws P g v σ (.mk : Tg K) := ⟨h, hk⟩
end
@[go_sem] def alf (sz off : Nat) (cs : List AV) (K : AV -> Prop) : BE false ⟨true, sz⟩ (.agg cs) off false 1 (.mk : Tg K) = req (off + 1 <= sz) (.mk : Tg (K (cs.getD off .undef))) := by
  rw[abJ _ _ _ _ _ aT];simp[req]
section
variable {α : Type} (ρ H:List α) (c d x : α)
@[go_sem] def anK:(ρ++c::H)[ρ.length]? = some c:=aT
@[go_sem] def anL:(ρ++c::H).set ρ.length x = ρ++x::H:=aT
end
def aaY(P:Program)(n:FuncId)(args:List AV)(σ : ai){K:AV->ai->Prop}(_:Tg K): Prop:=Ba P n args σ K
def aaZ(P:Program)(f:AV)(args:List AV)(σ : ai){K:AV->ai->Prop}(_:Tg K): Prop:=match f with
 | .fn (.func n) [] []=>Ba P n args σ K
 | _=>False
@[go_sem ↓] def alg {e:Env} {σ : ai} {K Kp:AV->ai->Prop} (f:AX) (args:List AX):bf.run P (.qG f args) e σ K Kp=aaZ P (f.ev e) (args.map (AX.ev e)) σ (.mk:Tg K):=_root_.id rfl
@[go_sem] def anM {σ : ai} {K:AV->ai->Prop} (n:FuncId) (args:List AV):aaZ P (.fn (.func n) [] []) args σ (.mk:Tg K)=aaY P n args σ (.mk:Tg K):=_root_.id rfl
def Kl {n : FuncId} {k off : Nat} {args cs ds : List AV} {r : AV} {σ : ai} {K : AV -> ai -> Prop} (h : cY P n off args cs ds r) (xh : σ[k]? = some (.cells cs)) (hk : lQ r (.mk : Tg fun r => Bw (σ.set k (.cells ds)) (.mk : Tg fun σ => K r σ))) :
    aaY P n (.ref k off::args) σ (.mk:Tg K):=⟨k,_,.cells ds,r,rfl,xh,trivial,h σ k xh,hk⟩
def Km {n : FuncId} {k off : Nat} {args cs : List AV} {r : AV} {σ : ai} {K Kp : AV -> ai -> Prop} (h : cY P n off args cs cs r) (xh : σ[k]? = some (.cells cs)) (hk : lQ r (.mk : Tg fun r => K r σ)) :
    q9 P n (.ref k off::args) σ (.mk:Tg (K,Kp)):=by
 have same:∀ s:ai,s[k]? = some (.cells cs)->s.set k (.cells cs)=s:=fun s hs=>by
  refine List.ext_getElem? fun i=>?_;by_cases hi:k=i
  ·subst hi;rw[yH hs,hs]
  rw[aI hi]
 refine⟨r,fun H=>?_,hk⟩;have hs:(σ++H)[k]? = some (.cells cs):=by rw[aO (aK.1 xh).1];exact xh
 exact(h (σ++H) k hs).mono fun o s ⟨h1,h2⟩=>⟨h1,h2.trans (same _ hs)⟩
attribute [go_sem] Int.tdiv_eq_ediv_of_nonneg Int.tmod_eq_emod_of_nonneg ad3 ad4 ad5 ad6 abR abS ad7 ad8 abT abU abV abW ad9 ad_ aea aeb aec aed aee abX abY Y7 Y8 Y9 Y_ Za Zb Zc Zd aef aeg abZ ab0 Ze getD_map Bool.or_false Bool.or_true Bool.true_or Bool.false_or beq_self_eq_true Bool.and_true Bool.true_and Bool.and_false Bool.false_and Int.toNat_natCast Int.toNat_natCast_add_one Int.toNat_zero List.length_map List.length_append Nat.zero_add Bool.not_true Bool.not_false
attribute [simp] AV.fits AV.scalar AV.cells oh pJ AV.obj fE
end Go.AM
namespace Go.Proofs.YtdohdkdejmhgnaaGreatDoor
open Go.AM
set_option maxRecDepth 10000
end Go.Proofs.YtdohdkdejmhgnaaGreatDoor
namespace Go.AM.W
structure Of (P:Program) (n:FuncId) (k:Nat) (rs:List kp) (b:cQ):Prop where
 go:∀ {az:List AV} {σ : ai} {R:Out->ai->Prop},iC P b rs az σ R->(hl:az.length<=k:=by simp)->cV P n az σ R
def of_ {P : Program} {n : FuncId} {fn : Func} {k : Nat} {rs : List kp} {b : cQ} (h : Hints) (hf : P.funcs[n]? = some fn) (hn : (fn.name == "runtime.NumGoroutine") = false := by kernel_rfl) (hc : tu P h fn = some ⟨k, rs, b⟩ := by kernel_rfl) : Of P n k rs b := ⟨fun hw hl => cV.of_wp hf hn hc hl hw.go⟩
def of0 {P : Program} {n : FuncId} {fn : Func} {k : Nat} {rs : List kp} {b : cQ} (hf : P.funcs[n]? = some fn) (hn : (fn.name == "runtime.NumGoroutine") = false := by kernel_rfl) (hc : tu P {} fn = some ⟨k, rs, b⟩ := by kernel_rfl) : Of P n k rs b := of_ {} hf hn hc
def cpN(P:Program)(n:FuncId)(h:Hints): Option FG:=match P.funcs[n]? with
 | some f => if f.name == "runtime.NumGoroutine" then none else tu P h f
 | none=>none
def cu{P:Program}{n:FuncId}{k:Nat}{rs:List kp}{b:cQ}(h:Hints:= {})(hc:cpN P n h=some ⟨k,rs,b⟩:=by kernel_rfl): Of P n k rs b:=by
 unfold cpN at hc;split at hc
 ·rename_i f hf;split at hc
  ·cases hc
  rename_i hn;exact of_ h hf (by simpa using hn) hc
 ·cases hc
def _root_.Go.AM.bB{P:Program}{f:FuncId}{k:Nat}{rs:List kp}{c:cQ}{az:List AV}{r:AV}(ho:Of P f k rs c)(h:∀ Q:AQ,(∀ e σ,Q .ret e σ = mj e σ rs fun vs=> ∃ r0,Out.ret (oneOf vs) = .ret r0/\View σ r0 r)->(∀ e σ,Q .normal e σ = mj e σ rs fun vs=> ∃ r0,Out.ret (oneOf vs) = .ret r0/\View σ r0 r)->(∀ v e σ,Q (.panic v) e σ = ∃ r0,Out.panic v = .ret r0/\View σ r0 r)->fg P c Q (fC az) [])(hp:AV.cK az=true:=by first|rfl|(simp;done)|(simp[AV.dU,AV.cK];done))(hl:az.length<=k:=by simp): aA P f az r:=aA.wq (ho.go h hl) hp
abbrev t(n:Nat): AX:= .t n
abbrev gB(b:Bool)(n:Nat)(z:AV)(m:Nat)(l:List (Nat × AX))(d:Nat): bV:=⟨.kG false ⟨b,n⟩ z m l,some d,none⟩
abbrev gU(z:List AV)(l:List (Nat × Nat × AX))(d:Nat): bV:=⟨.build z l,some d,none⟩
abbrev gI(b:Bool)(n a:Nat)(k:Int)(d:Nat): bV:=⟨.jh ⟨b,n⟩ none (.t a) (.c (.int .i64 k)),some d,none⟩
abbrev gA(b:Bool)(n x y:Nat)(d:Nat): bV:=⟨.app none ⟨b,n⟩ (.t x) (.t y),some d,none⟩
abbrev gF(d:Nat): bV:=⟨.mv (.c (.bool false)),some d,none⟩
abbrev gT(d:Nat): bV:=⟨.mv (.c (.bool true)),some d,none⟩
abbrev gJ(n:Int): AX:= .c (.int .i64 n)
abbrev gS(s:List UInt8): AX:= .c (.str s)
abbrev gR(a:List bV)(n:Nat)(b:List bV)(x:cQ): cQ:= .seq (.seq (.region a) (.cond (.t n) (.seq (.region b) .ret) .skip)) x
abbrev gL(i:Nat)(a:List bV)(n:Nat)(x:cQ): cQ:= .block i (.loop (.seq (.seq (.region a) (.cond (.t n) .skip (.exit i))) x))
abbrev cg(o:bf)(d:Nat): bV:=⟨o,some d,none⟩
abbrev i6(n:Int): AV:= .int .i64 n
abbrev z0: AV:= .int .i64 0
abbrev e0: AV:= .str []
abbrev jn: List AV:=[z0,z0,z0,e0,e0,.aP]
abbrev si: List AV:=[z0,e0,z0,z0,z0]
abbrev sX: List AV:=[z0,e0,z0]
abbrev vK: List AV:=[e0,.aP,.aP,z0,z0,.aP]
abbrev vL: List AV:=[.bool false,.bool false,.aP]
abbrev yI: List AV:=[.aP,.aP]
abbrev Ai: List AV:=[z0,z0,e0]
abbrev GI: List AV:=[z0,e0,z0,z0]
abbrev Mb: List AV:=[z0,z0,z0,z0,e0,e0,.aP,z0,z0,z0,e0,e0,.aP,.bool false,.bool false]
abbrev Sf: List AV:=[e0,e0,.bool false,e0]
abbrev Ko: List AV:=[e0,.aP,.aP,z0,z0,.aP,.aP]
abbrev T2: List AV:=[e0,z0,.aP]
abbrev Zg: List AV:=[.bool false,.bool false]
abbrev R(l:List bV): cQ:= .region l
abbrev r(l:List bV)(b:cQ): cQ:= .seq (.region l) b
abbrev q(a b:cQ): cQ:= .seq a b
abbrev c(n:Nat)(a b:cQ): cQ:= .cond (.t n) a b
abbrev k: cQ:= .skip
abbrev M(a:Nat)(d:Nat): bV:=⟨.mv (.t a),some d,none⟩
abbrev MT(a:Nat)(d k:Nat): bV:=⟨.mv (.t a),some d,some (k,true)⟩
abbrev MF(a:Nat)(d k:Nat): bV:=⟨.mv (.t a),some d,some (k,false)⟩
abbrev V(a:AV)(d:Nat): bV:=⟨.mv (.c a),some d,none⟩
abbrev L(n a:Nat)(d:Nat): bV:=⟨.load true n (.t a),some d,none⟩
abbrev LT(n a:Nat)(d k:Nat): bV:=⟨.load true n (.t a),some d,some (k,true)⟩
abbrev LF(n a:Nat)(d k:Nat): bV:=⟨.load true n (.t a),some d,some (k,false)⟩
abbrev K(a:Nat)(d:Nat): bV:=⟨.load false 1 (.t a),some d,none⟩
abbrev KT(a:Nat)(d k:Nat): bV:=⟨.load false 1 (.t a),some d,some (k,true)⟩
abbrev KF(a:Nat)(d k:Nat): bV:=⟨.load false 1 (.t a),some d,some (k,false)⟩
abbrev B(o:BinOp)(a b:Nat)(d:Nat): bV:=⟨.bin o (.t a) (.t b),some d,none⟩
abbrev BT(o:BinOp)(a b:Nat)(d k:Nat): bV:=⟨.bin o (.t a) (.t b),some d,some (k,true)⟩
abbrev BF(o:BinOp)(a b:Nat)(d k:Nat): bV:=⟨.bin o (.t a) (.t b),some d,some (k,false)⟩
abbrev D(o:BinOp)(a:Nat)(b:Int)(d:Nat): bV:=⟨.bin o (.t a) (.c (.int .i64 b)),some d,none⟩
abbrev DT(o:BinOp)(a:Nat)(b:Int)(d k:Nat): bV:=⟨.bin o (.t a) (.c (.int .i64 b)),some d,some (k,true)⟩
abbrev DF(o:BinOp)(a:Nat)(b:Int)(d k:Nat): bV:=⟨.bin o (.t a) (.c (.int .i64 b)),some d,some (k,false)⟩
abbrev A(n a:Nat)(d:Nat): bV:=⟨.pn n (.t a),some d,none⟩
abbrev AT(n a:Nat)(d k:Nat): bV:=⟨.pn n (.t a),some d,some (k,true)⟩
abbrev AF(n a:Nat)(d k:Nat): bV:=⟨.pn n (.t a),some d,some (k,false)⟩
abbrev P(a b:Nat)(d:Nat): bV:=⟨.pick (.t a) (.t b) (.c (.bool false)),some d,none⟩
abbrev PT(a b:Nat)(d k:Nat): bV:=⟨.pick (.t a) (.t b) (.c (.bool false)),some d,some (k,true)⟩
abbrev PF(a b:Nat)(d k:Nat): bV:=⟨.pick (.t a) (.t b) (.c (.bool false)),some d,some (k,false)⟩
abbrev O(a b:Nat)(d:Nat): bV:=⟨.pick (.t a) (.c (.bool true)) (.t b),some d,none⟩
abbrev OT(a b:Nat)(d k:Nat): bV:=⟨.pick (.t a) (.c (.bool true)) (.t b),some d,some (k,true)⟩
abbrev S(a:Nat)(d:Nat): bV:=⟨.len true (.t a),some d,none⟩
abbrev ST(a:Nat)(d k:Nat): bV:=⟨.len true (.t a),some d,some (k,true)⟩
abbrev SF(a:Nat)(d k:Nat): bV:=⟨.len true (.t a),some d,some (k,false)⟩
abbrev N(a:Nat)(d:Nat): bV:=⟨.len false (.t a),some d,none⟩
abbrev NT(a:Nat)(d k:Nat): bV:=⟨.len false (.t a),some d,some (k,true)⟩
abbrev NF(a:Nat)(d k:Nat): bV:=⟨.len false (.t a),some d,some (k,false)⟩
abbrev I(b:Bool)(n a c:Nat)(d:Nat): bV:=⟨.jh ⟨b,n⟩ none (.t a) (.t c),some d,none⟩
abbrev IT(b:Bool)(n a c:Nat)(d k:Nat): bV:=⟨.jh ⟨b,n⟩ none (.t a) (.t c),some d,some (k,true)⟩
abbrev IF(b:Bool)(n a c:Nat)(d k:Nat): bV:=⟨.jh ⟨b,n⟩ none (.t a) (.t c),some d,some (k,false)⟩
abbrev E(a n:Nat)(d:Nat): bV:=⟨.ext (.t a) n,some d,none⟩
abbrev ET(a n:Nat)(d k:Nat): bV:=⟨.ext (.t a) n,some d,some (k,true)⟩
abbrev Z(a:Nat)(d:Nat): bV:=⟨.p8 (.t a),some d,none⟩
abbrev ZT(a:Nat)(d k:Nat): bV:=⟨.p8 (.t a),some d,some (k,true)⟩
abbrev ZF(a:Nat)(d k:Nat): bV:=⟨.p8 (.t a),some d,some (k,false)⟩
abbrev X(a:Nat)(d:Nat): bV:=⟨.box (.t a),some d,none⟩
abbrev U(a:Nat)(d:Nat): bV:=⟨.un .not (.t a),some d,none⟩
abbrev UT(a:Nat)(d k:Nat): bV:=⟨.un .not (.t a),some d,some (k,true)⟩
abbrev UF(a:Nat)(d k:Nat): bV:=⟨.un .not (.t a),some d,some (k,false)⟩
abbrev J(l:List AV)(d:Nat): bV:=⟨.alloc none l,some d,none⟩
abbrev C(f:FuncId)(l:List AX)(d:Nat): bV:=⟨.call false (.c (.fn (.func f) [] [])) l,some d,none⟩
abbrev CT(f:FuncId)(l:List AX)(d k:Nat): bV:=⟨.call false (.c (.fn (.func f) [] [])) l,some d,some (k,true)⟩
abbrev CF(f:FuncId)(l:List AX)(d k:Nat): bV:=⟨.call false (.c (.fn (.func f) [] [])) l,some d,some (k,false)⟩
abbrev Q(f:FuncId)(l:List AX)(d:Nat): bV:=⟨.call true (.c (.fn (.func f) [] [])) l,some d,none⟩
abbrev QT(f:FuncId)(l:List AX)(d k:Nat): bV:=⟨.call true (.c (.fn (.func f) [] [])) l,some d,some (k,true)⟩
abbrev W(n a b:Nat): bV:=⟨.store n (.t a) (.t b),none,none⟩
end Go.AM.W
namespace Go.Proofs.YtdohdkdejmhgnaaGreatDoor
open Go.AM Go.AM.W
set_option maxRecDepth 10000
def o8: Of aM 4 103 [.tmp 6] (r [X 0 3,gF 6]<|
 gR [L 6 3 18,C 14 [t 18] 19,U 19 20,M 20 21,MF 1 22 21,SF 22 23 21,DF .gtr 23 300 24 21,O 21 24 25] 25 [C 15 [] 26,M 26 6]<|
 r [M 1 28,M 2 29,C 16 [.c .ew,t 28,t 29] 30,M 30 27,E 27 0 31,E 27 1 32,J vK 7,W 6 7 31,M 32 8]<|
 r [M 1 34,C 17 [.c .ew,t 34] 35,M 35 33,E 33 0 36,E 33 1 37,M 36 9,M 37 10]<|
 r [C 18 [.c .ew] 39,M 39 38,E 38 0 40,E 38 1 41,M 40 11,M 41 12]<|
 r [L 6 3 43,C 19 [.c .ew,t 43] 44,M 44 42,E 42 0 45,E 42 1 46,E 42 2 47,M 45 13,M 46 14,M 47 15]<|
 r [M 1 49,C 20 [t 49,gJ 1] 50,M 50 48,E 48 0 51,E 48 1 52,M 51 16,M 52 17]<|
 gR [M 17 53,D .neq 53 0 54] 54 [M 8 55,D .eql 55 13 56,M 56 57,MT 10 58 57,DT .eql 58 13 59 57,P 57 59 60,M 60 61,MT 12 62 61,DT .eql 62 1 63 61,P 61 63 64,M 64 65,CT 15 [] 66 65,P 65 66 67,M 67 6]<|
 r [M 8 68,D .neq 68 0 69,M 69 70,MT 9 71 70,DT .eql 71 0 72 70,P 70 72 73,M 73 74,MT 10 75 74,DT .eql 75 1 76 74,P 74 76 77,M 77 78,MT 11 79 78,NT 79 80 78,DT .eql 80 0 81 78,P 78 81 82,M 82 83,MT 12 84 83,DT .eql 84 1 85 83,P 83 85 86,M 86 87,MT 13 88 87,NT 88 89 87,DT .eql 89 0 90 87,P 87 90 91,M 91 92,MT 14 93 92,DT .eql 93 0 94 92,P 92 94 95,M 95 96,MT 15 97 96,DT .neq 97 0 98 96,P 96 98 99,M 99 100,CT 15 [] 101 100,P 100 101 102,M 102 6]<|
 .ret):=cu
def HD: Of aM 14 51 [.tmp 2] (r [X 0 1,gF 2]<|
 gR [A 0 1 4,K 4 5,S 5 6,D .gtr 6 300 7,M 7 8,AF 5 1 9 8,KF 9 10 8,NF 10 11 8,DF .gtr 11 26 12 8,O 8 12 13,M 13 14,AF 1 1 15 14,KF 15 16 14,CF 40 [t 16] 17 14,UF 17 18 14,O 14 18 19,M 19 20,AF 2 1 21 20,KF 21 22 20,CF 40 [t 22] 23 20,UF 23 24 20,O 20 24 25] 25 [gF 2]<|
 q (r [V z0 3]<|
 gL 0 [M 3 26,A 5 1 27,K 27 28,N 28 29,B .lss 26 29 30] 30 ((
 q (.block 1 (r [A 5 1 33,K 33 34,M 3 35,I true 2 34 35 36,A 0 36 37,K 37 38,C 41 [t 38] 39,U 39 40,M 40 41,AF 5 1 42 41,KF 42 43 41,MF 3 44 41,IF true 2 43 44 45 41,AF 1 45 46 41,KF 46 47 41,CF 41 [t 47] 48 41,UF 48 49 41,O 41 49 50]<|
 c 50 (r [gF 2]<|
 .ret) k))<|
 R [M 3 31,D .add 31 1 32,M 32 3])))<|
 r [gT 2]<|
 .ret):=cu
def qf: Of aM 16 65 [.cell 6 true 6,.tmp 7] (r [J vK 6,V z0 7]<|
 gR [M 1 12,C 45 [t 12] 13,U 13 14] 14 [gU vK [] 15,W 6 6 15,V (i6 13) 7]<|
 r [M 0 17,M 1 18,M 2 19,C 46 [t 17,t 18,t 19] 20,M 20 16,E 16 0 21,E 16 1 22,M 21 2,M 22 8]<|
 gR [M 8 23,D .neq 23 0 24] 24 [gU vK [] 25,M 8 26,W 6 6 25,M 26 7]<|
 r [M 1 28,M 2 29,C 20 [t 28,t 29] 30,M 30 27,E 27 0 31,E 27 1 32,M 31 9,M 32 8]<|
 gR [M 8 33,D .neq 33 0 34] 34 [gU vK [] 35,W 6 6 35,V (i6 6) 7]<|
 r [M 0 37,M 9 38,C 47 [t 37,t 38] 39,M 39 36,E 36 0 40,E 36 1 41,M 40 10,M 41 8]<|
 q (r [M 8 42]<|
 .block 0 (r [D .eql 42 0 46,M 46 45]<|
 c 45 k (r [D .eql 42 4 48,M 48 47]<|
 c 47 (r [gU vK [] 49,W 6 6 49,V (i6 9) 7]<|
 .ret) (r [gU vK [] 43,M 8 44,W 6 6 43,M 44 7]<|
 .ret))))<|
 r [M 10 51,C 48 [t 51] 52,M 52 50,E 50 0 53,E 50 1 54,J vK 11,W 6 11 53,M 54 8]<|
 gR [M 8 55,D .neq 55 0 56,M 56 57,AF 0 11 58 57,KF 58 59 57,MF 1 60 57,BF .neq 59 60 61 57,O 57 61 62] 62 [gU vK [] 63,W 6 6 63,V (i6 9) 7]<|
 r [L 6 11 64,W 6 6 64,V z0 7]<|
 .ret):=cu
def yJ: Of aM 17 29 [.tmp 4,.tmp 5] (r [V z0 4,V z0 5]<|
 gR [M 1 8,C 45 [t 8] 9,U 9 10] 10 [V z0 4,V (i6 13) 5]<|
 r [M 0 12,M 1 13,C 49 [t 13] 14,cg (.bin .add (gS [110]) (t 14)) 15,C 27 [t 12,t 15] 16,M 16 11,E 11 0 17,E 11 1 18,M 17 6,M 18 7]<|
 q (r [M 7 19]<|
 .block 0 (r [D .eql 19 0 21,M 21 20]<|
 c 20 (r [M 6 22,C 50 [t 22] 23,E 23 0 24,E 23 1 25,M 24 4,M 25 5]<|
 .ret) (r [D .eql 19 6 27,M 27 26]<|
 c 26 (r [V z0 4,V z0 5]<|
 .ret) k)))<|
 r [M 7 28,V z0 4,M 28 5]<|
 .ret):=cu
def tC: Of aM 19 79 [.tmp 4,.tmp 5,.tmp 6] (r [X 1 3,V .aP 4,V z0 5,V z0 6]<|
 r [L 6 3 16,C 53 [t 16] 17,M 17 15,E 15 0 18,E 15 1 19,E 15 2 20,E 15 3 21,J vK 7,W 6 7 18,M 19 8,M 20 9,M 21 10]<|
 gR [M 10 22,D .neq 22 0 23] 23 [M 10 24,V .aP 4,V z0 5,M 24 6]<|
 r [L 6 7 26,C 54 [t 26] 27,M 27 25,E 25 0 28,E 25 1 29,M 28 11,M 29 10]<|
 gR [M 10 30,D .neq 30 0 31] 31 [M 10 32,V .aP 4,V z0 5,M 32 6]<|
 r [M 0 34,A 0 7 35,K 35 36,C 17 [t 34,t 36] 37,M 37 33,E 33 0 38,E 33 1 39,M 38 12,M 39 10]<|
 q (.block 0 (r [M 10 41,D .neq 41 0 42,M 42 40]<|
 c 40 (r [M 10 43,V .aP 4,V z0 5,M 43 6]<|
 .ret) (r [M 12 45,D .eql 45 2147483648 46,M 46 44]<|
 c 44 (r [V .aP 4,V z0 5,V (i6 24) 6]<|
 .ret) k)))<|
 r [M 12 47,D .add 47 1 48,M 48 12]<|
 r [A 0 7 50,K 50 51,M 12 52,C 20 [t 51,t 52] 53,M 53 49,E 49 0 54,E 49 1 55,M 54 13,M 55 10]<|
 gR [M 10 56,D .neq 56 0 57] 57 [M 10 58,V .aP 4,V z0 5,M 58 6]<|
 r [M 13 60,M 11 61,C 32 [t 60,t 61] 62,M 62 59,E 59 0 63,E 59 1 64,M 63 14,M 64 10]<|
 gR [M 10 65,D .neq 65 0 66] 66 [M 10 67,V .aP 4,V z0 5,M 67 6]<|
 r [M 14 68,A 0 7 69,K 69 70,C 49 [t 70] 71,cg (.bin .add (gS [110]) (t 71)) 72,M 12 73,C 55 [t 73] 74,gU Sf [(0,1,t 72),(1,1,t 74)] 75,gB true 4 (.agg Sf) 1 [(0,t 75)] 76,gA true 4 68 76 77,M 12 78,M 77 4,M 78 5,V z0 6]<|
 .ret):=cu
def tD: Of aM 20 23 [.tmp 4,.tmp 5] (r [V e0 4,V z0 5]<|
 q (.block 0 (r [M 0 7,C 45 [t 7] 8,U 8 9,M 9 6]<|
 c 6 (r [V e0 4,V (i6 13) 5]<|
 .ret) (r [M 1 11,D .lss 11 1 12,M 12 13,MF 1 14 13,DF .gtr 14 2147483648 15 13,O 13 15 16,M 16 10]<|
 c 10 (r [V e0 4,V (i6 2) 5]<|
 .ret) k)))<|
 r [M 0 17,C 49 [t 17] 18,cg (.bin .add (gS [116]) (t 18)) 19,M 1 20,C 56 [t 20,gJ 4] 21,B .add 19 21 22,M 22 4,V z0 5]<|
 .ret):=cu
def Kq: Of aM 40 42 [.tmp 2] (r [gF 2]<|
 gR [M 0 5,C 91 [t 5] 6,U 6 7] 7 [gF 2]<|
 q (r [V z0 3]<|
 gL 0 [M 3 8,M 0 9,N 9 10,B .lss 8 10 11] 11 ((
 q (.block 1 (gR [M 0 14,M 3 15,I true 3 14 15 16,A 2 16 17,K 17 18,N 18 19,D .gtr 19 12 20] 20 [gF 2]<|
 r [V z0 4]<|
 gL 2 [M 4 21,M 0 22,M 3 23,I true 3 22 23 24,A 2 24 25,K 25 26,N 26 27,B .lss 21 27 28] 28 ((
 q (.block 3 (r [M 0 31,M 3 32,I true 3 31 32 33,A 2 33 34,K 34 35,M 4 36,I true 3 35 36 37,A 2 37 38,K 38 39,S 39 40,D .gtr 40 300 41]<|
 c 41 (r [gF 2]<|
 .ret) k))<|
 R [M 4 29,D .add 29 1 30,M 30 4]))))<|
 R [M 3 12,D .add 12 1 13,M 13 3])))<|
 r [gT 2]<|
 .ret):=cu
def Kr: Of aM 41 19 [.tmp 2] (r [gF 2]<|
 gR [M 0 4,N 4 5,D .gtr 5 10 6] 6 [gF 2]<|
 q (r [V z0 3]<|
 gL 0 [M 3 7,M 0 8,N 8 9,B .lss 7 9 10] 10 ((
 q (.block 1 (r [M 0 13,M 3 14,I false 1 13 14 15,K 15 16,S 16 17,D .gtr 17 300 18]<|
 c 18 (r [gF 2]<|
 .ret) k))<|
 R [M 3 11,D .add 11 1 12,M 12 3])))<|
 r [gT 2]<|
 .ret):=cu
def Q6: Of aM 45 22 [.tmp 2] (r [gF 2]<|
 r [M 0 3,cg (.bin .neq (t 3) (.c e0)) 4,M 4 5,MT 0 6 5,CT 97 [t 6] 7 5,MT 0 8 5,ST 8 9 5,BT .eql 7 9 10 5,P 5 10 11,M 11 12,MT 0 13 12,ST 13 14 12,DT .leq 14 16 15 12,P 12 15 16,M 16 17,MT 0 18 17,CT 98 [t 18] 19 17,UT 19 20 17,P 17 20 21,M 21 2]<|
 .ret):=cu
def D4: Of aM 49 10 [.tmp 2] (r [V e0 2]<|
 r [cg (.l7 ⟨false,1⟩ (.int .u8 0) (gJ 16) (gJ 16)) 4,M 4 3]<|
 r [M 3 5,M 0 6,cg (.ex (.copy ⟨false,1⟩) [t 5,t 6]) 7]<|
 r [M 3 8,cg (.yu (t 8)) 9,M 9 2]<|
 .ret):=cu
def yK: Of aM 53 106 [.cell 2 true 6,.tmp 3,.tmp 4,.tmp 5] (r [X 0 1,J vK 2,V z0 3,V z0 4,V z0 5]<|
 .scope 0 (r [L 6 1 22,C 111 [t 22] 23,M 23 21,E 21 0 24,E 21 1 25,E 21 2 26,E 21 3 27,J Ko 6,W 7 6 24,M 25 7,M 26 8,M 27 9]<|
 gR [M 9 28,D .neq 28 0 29] 29 [gU vK [] 30,M 7 31,M 8 32,M 9 33,W 6 2 30,M 31 3,M 32 4,M 33 5]<|
 r [L 6 1 34,J vK 10,W 6 10 34]<|
 r [A 5 10 35,⟨.store 1 (t 35) (.c .aP),none,none⟩]<|
 r [J yI 11]<|
 r [V (.fn (.func 112) [] []) 12]<|
 q (.label 0)<|
 q (r [A 6 6 36,K 36 37,N 37 38,V z0 39]<|
 .block 0 (.loop (r [B .lss 39 38 40]<|
 q (c 40 k (.exit 0))<|
 q (.block 1 (r [M 39 41,I true 2 37 39 42,L 2 42 43,J yI 14,M 41 13,W 2 14 43]<|
 r [gU yI [] 44,M 13 45,W 2 11 44,M 45 7]<|
 q (r [A 0 14 46,K 46 47,N 47 48,V z0 49]<|
 .block 2 (.loop (r [B .lss 49 48 50]<|
 q (c 50 k (.exit 2))<|
 q (.block 3 (r [M 49 51,I true 3 47 49 52,L 3 52 53,J vL 16,M 51 15,W 3 16 53]<|
 r [V e0 17]<|
 r [L 3 16 55,C 113 [t 55] 56,M 56 54,E 54 0 57,E 54 1 58,M 57 17,M 58 9]<|
 r [M 15 59,M 59 8]<|
 r [M 12 60,A 0 11 61,M 17 62,M 9 63,cg (.call false (t 60) [t 61,t 62,t 63]) 64,U 64 65]<|
 c 65 (.exit 0) k))<|
 R [D .add 49 1 66,M 66 49])))<|
 q (r [A 1 14 67,K 67 68,N 68 69,V z0 70]<|
 .block 4 (.loop (r [B .lss 70 69 71]<|
 q (c 71 k (.exit 4))<|
 q (.block 5 (r [M 70 72,I true 6 68 70 73,L 6 73 74,J jn 19,M 72 18,W 6 19 74]<|
 r [V e0 20]<|
 r [L 6 19 76,C 114 [t 76] 77,M 77 75,E 75 0 78,E 75 1 79,M 78 20,M 79 9]<|
 r [A 1 1 80,K 80 81,N 81 82,M 18 83,B .add 82 83 84,M 84 8]<|
 r [M 12 85,A 1 11 86,M 20 87,M 9 88,cg (.call false (t 85) [t 86,t 87,t 88]) 89,U 89 90]<|
 c 90 (.exit 0) k))<|
 R [D .add 70 1 91,M 91 70])))<|
 R [A 5 10 92,K 92 93,L 2 11 94,gB true 2 (.agg yI) 1 [(0,t 94)] 95,gA true 2 93 95 96,A 5 10 97,W 1 97 96]))<|
 R [D .add 39 1 98,M 98 39])))<|
 gR [M 9 99,D .neq 99 0 100] 100 [gU vK [] 101,M 7 102,M 8 103,M 9 104,W 6 2 101,M 102 3,M 103 4,M 104 5]<|
 r [L 6 10 105,W 6 2 105,V z0 3,V z0 4,V z0 5]<|
 .ret) (.seq k <|
 q (r [A 6 6 36,K 36 37,N 37 38,V z0 39]<|
 .block 0 (.loop (r [B .lss 39 38 40]<|
 q (c 40 k (.exit 0))<|
 q (.block 1 (r [M 39 41,I true 2 37 39 42,L 2 42 43,J yI 14,M 41 13,W 2 14 43]<|
 r [gU yI [] 44,M 13 45,W 2 11 44,M 45 7]<|
 q (r [A 0 14 46,K 46 47,N 47 48,V z0 49]<|
 .block 2 (.loop (r [B .lss 49 48 50]<|
 q (c 50 k (.exit 2))<|
 q (.block 3 (r [M 49 51,I true 3 47 49 52,L 3 52 53,J vL 16,M 51 15,W 3 16 53]<|
 r [V e0 17]<|
 r [L 3 16 55,C 113 [t 55] 56,M 56 54,E 54 0 57,E 54 1 58,M 57 17,M 58 9]<|
 r [M 15 59,M 59 8]<|
 r [M 12 60,A 0 11 61,M 17 62,M 9 63,cg (.call false (t 60) [t 61,t 62,t 63]) 64,U 64 65]<|
 c 65 (.exit 0) k))<|
 R [D .add 49 1 66,M 66 49])))<|
 q (r [A 1 14 67,K 67 68,N 68 69,V z0 70]<|
 .block 4 (.loop (r [B .lss 70 69 71]<|
 q (c 71 k (.exit 4))<|
 q (.block 5 (r [M 70 72,I true 6 68 70 73,L 6 73 74,J jn 19,M 72 18,W 6 19 74]<|
 r [V e0 20]<|
 r [L 6 19 76,C 114 [t 76] 77,M 77 75,E 75 0 78,E 75 1 79,M 78 20,M 79 9]<|
 r [A 1 1 80,K 80 81,N 81 82,M 18 83,B .add 82 83 84,M 84 8]<|
 r [M 12 85,A 1 11 86,M 20 87,M 9 88,cg (.call false (t 85) [t 86,t 87,t 88]) 89,U 89 90]<|
 c 90 (.exit 0) k))<|
 R [D .add 70 1 91,M 91 70])))<|
 R [A 5 10 92,K 92 93,L 2 11 94,gB true 2 (.agg yI) 1 [(0,t 94)] 95,gA true 2 93 95 96,A 5 10 97,W 1 97 96]))<|
 R [D .add 39 1 98,M 98 39])))<|
 gR [M 9 99,D .neq 99 0 100] 100 [gU vK [] 101,M 7 102,M 8 103,M 9 104,W 6 2 101,M 102 3,M 103 4,M 104 5]<|
 r [L 6 10 105,W 6 2 105,V z0 3,V z0 4,V z0 5]<|
 .ret)):=cu
def sj: Of aM 54 73 [.tmp 2,.tmp 3] (r [X 0 1,V e0 2,V z0 3]<|
 r [L 6 1 12,C 53 [t 12] 13,M 13 11,E 11 0 14,E 11 1 15,E 11 2 16,E 11 3 17,J vK 4,W 6 4 14,M 15 5,M 16 6,M 17 7]<|
 q (.block 0 (r [M 7 19,D .neq 19 0 20,M 20 18]<|
 c 18 (r [M 7 21,V e0 2,M 21 3]<|
 .ret) (r [L 6 4 23,L 6 1 24,C 115 [t 23,t 24] 25,U 25 26,M 26 22]<|
 c 22 (r [V e0 2,V (i6 4) 3]<|
 .ret) k)))<|
 q (.draw [A 0 1 27,K 27 28,Q 116 [t 28] 29,A 3 1 30,K 30 31,Q 55 [t 31] 32,B .add 29 32 33,A 4 1 34,K 34 35,Q 55 [t 35] 36,B .add 33 36 37,M 37 8] [])<|
 q (.draw [M 8 38,A 1 1 39,K 39 40,Q 117 [t 40,(.c (.fn (.func 118) [] []))] 41,A 2 1 42,K 42 43,Q 117 [t 43,(.c (.fn (.func 119) [] []))] 44,B .add 41 44 45,A 5 1 46,K 46 47,N 47 48,Q 55 [t 48] 49,B .add 45 49 50,B .add 38 50 51,M 51 8] [])<|
 q (r [A 5 1 52,K 52 53,N 53 54,V z0 55]<|
 .block 1 (.loop (r [B .lss 55 54 56]<|
 q (c 56 k (.exit 1))<|
 q (.block 2 (r [I true 2 53 55 57,L 2 57 58,J yI 10,W 2 10 58]<|
 .draw [M 8 59,A 0 10 60,K 60 61,Q 120 [t 61] 62,A 1 10 63,K 63 64,Q 120 [t 64] 65,B .add 62 65 66,B .add 59 66 67,M 67 8] []))<|
 R [D .add 55 1 68,M 68 55])))<|
 gR [M 8 69,S 69 70,D .gtr 70 1400 71] 71 [V e0 2,V (i6 5) 3]<|
 r [M 8 72,M 72 2,V z0 3]<|
 .ret):=cu
def OM: Of aM 55 24 [.tmp 2] (r [V e0 2]<|
 r [M 0 5,C 121 [t 5] 6,M 6 3]<|
 r [cg (.l7 ⟨false,1⟩ (.int .u8 0) (.c z0) (gJ 10)) 7,M 7 4]<|
 q (gL 0 [M 3 8,cg (.bin .geq (t 8) (.c (.int .u64 128))) 9] 9 ((
 .block 1 (r [M 4 10,M 3 11,C 122 [t 11] 12,cg (.bin .or (t 12) (.c (.int .u8 128))) 13,gB false 1 (.int .u8 0) 1 [(0,t 13)] 14,gA false 1 10 14 15,M 15 4]<|
 R [M 3 16,cg (.bin .shr (t 16) (.c (.int .u64 7))) 17,M 17 3]))))<|
 r [M 4 18,M 3 19,C 122 [t 19] 20,gB false 1 (.int .u8 0) 1 [(0,t 20)] 21,gA false 1 18 21 22,cg (.yu (t 22)) 23,M 23 2]<|
 .ret):=cu
def Ga: Of aM 91 20 [.tmp 2] (r [gF 2]<|
 gR [M 0 4,N 4 5,D .gtr 5 12 6] 6 [gF 2]<|
 q (r [V z0 3]<|
 gL 0 [M 3 7,M 0 8,N 8 9,B .lss 7 9 10] 10 ((
 q (.block 1 (r [M 0 13,M 3 14,I true 3 13 14 15,A 0 15 16,K 16 17,S 17 18,D .gtr 18 300 19]<|
 c 19 (r [gF 2]<|
 .ret) k))<|
 R [M 3 11,D .add 11 1 12,M 12 3])))<|
 r [gT 2]<|
 .ret):=cu
def Q7: Of aM 97 13 [.tmp 2] (r [V z0 2]<|
 gR [M 0 3,cg (.bin .eql (t 3) (.c e0)) 4,M 4 5,MF 0 6 5,⟨.mb (t 6) (.c z0),(some 7),some (5,false)⟩,CF 171 [t 7] 8 5,UF 8 9 5,O 5 9 10] 10 [V z0 2]<|
 r [M 0 11,C 172 [t 11,(.c (.fn (.func 173) [] []))] 12,M 12 2]<|
 .ret):=cu
def I6: Of aM 98 14 [.tmp 2] (r [gF 2]<|
 q (r [M 0 3]<|
 .block 0 (q (r [cg (.bin .eql (t 3) (gS [97,110,100])) 5,M 5 4]<|
 c 4 k (r [cg (.bin .eql (t 3) (gS [111,114])) 6,M 6 4]<|
 c 4 k (r [cg (.bin .eql (t 3) (gS [110,111,116])) 7,M 7 4]<|
 c 4 k (r [cg (.bin .eql (t 3) (gS [105,102])) 8,M 8 4]<|
 c 4 k (r [cg (.bin .eql (t 3) (gS [116,104,101,110])) 9,M 9 4]<|
 c 4 k (r [cg (.bin .eql (t 3) (gS [101,108,115,101])) 10,M 10 4]<|
 c 4 k (r [cg (.bin .eql (t 3) (gS [116,114,117,101])) 11,M 11 4]<|
 c 4 k (r [cg (.bin .eql (t 3) (gS [102,97,108,115,101])) 12,M 12 4]<|
 c 4 k (R [cg (.bin .eql (t 3) (gS [110,117,108,108])) 13,M 13 4])))))))))<|
 c 4 (r [gT 2]<|
 .ret) k))<|
 r [gF 2]<|
 .ret):=cu
def Aj: Of aM 111 50 [.cell 2 true 7,.tmp 3,.tmp 4,.tmp 5] (r [X 0 1,J Ko 2,V z0 3,V z0 4,V z0 5]<|
 q (r [L 6 1 13,C 180 [t 13] 14,M 14 6]<|
 r [M 6 15,D .neq 15 0 16]<|
 c 16 (r [gU Ko [] 17,M 6 18,W 7 2 17,V (i6 (-1)) 3,V z0 4,M 18 5]<|
 .ret) k)<|
 r [L 6 1 19,gU Ko [(0,6,t 19)] 20,J Ko 7,W 7 7 20]<|
 q (r [A 5 1 21,K 21 22,N 22 23,V z0 24]<|
 .block 0 (.loop (r [B .lss 24 23 25]<|
 q (c 25 k (.exit 0))<|
 q (.block 1 (r [M 24 26,I true 2 22 24 27,L 2 27 28,J yI 9,M 26 8,W 2 9 28]<|
 r [L 6 1 30,L 2 9 31,C 181 [t 30,t 31] 32,M 32 29,E 29 0 33,E 29 1 34,E 29 2 35,J yI 10,W 2 10 33,M 34 11,M 35 12]<|
 gR [M 12 36,D .neq 36 0 37] 37 [gU Ko [] 38,M 8 39,M 11 40,M 12 41,W 7 2 38,M 39 3,M 40 4,M 41 5]<|
 R [A 6 7 42,K 42 43,L 2 10 44,gB true 2 (.agg yI) 1 [(0,t 44)] 45,gA true 2 43 45 46,A 6 7 47,W 1 47 46]))<|
 R [D .add 24 1 48,M 48 24])))<|
 r [L 7 7 49,W 7 2 49,V z0 3,V z0 4,V z0 5]<|
 .ret):=cu
def nA: Of aM 112 17 [.tmp 6] (r [gF 6]<|
 r [M 0 7,M 0 8,Z 8 9,K 9 10,M 1 11,gB false 1 e0 1 [(0,t 11)] 12,gA false 1 10 12 13,Z 7 14,W 1 14 13]<|
 r [M 2 15,D .eql 15 0 16,M 16 6]<|
 .ret):=cu
def xj: Of aM 113 49 [.tmp 2,.tmp 3] (r [X 0 1,V e0 2,V z0 3]<|
 q (r [L 3 1 11,C 182 [t 11] 12,M 12 4]<|
 r [M 4 13,D .neq 13 0 14]<|
 c 14 (r [M 4 15,V e0 2,M 15 3]<|
 .ret) k)<|
 gR [A 0 1 16,K 16 17] 17 [V (.str [45]) 2,V z0 3]<|
 r [cg (.nw ⟨false,1⟩) 5]<|
 q (r [A 2 1 18,K 18 19,N 19 20,V z0 21]<|
 .block 0 (.loop (r [B .lss 21 20 22]<|
 q (c 22 k (.exit 0))<|
 q (.block 1 (r [I true 15 19 21 23,L 15 23 24,J Mb 7,W 15 7 24]<|
 r [L 15 7 26,C 183 [t 26] 27,M 27 25,E 25 0 28,E 25 1 29,M 28 8,M 29 9]<|
 gR [M 9 30,D .neq 30 0 31] 31 [M 9 32,V e0 2,M 32 3]<|
 R [M 5 33,M 8 34,gB false 1 e0 1 [(0,t 34)] 35,gA false 1 33 35 36,M 36 5]))<|
 R [D .add 21 1 37,M 37 21])))<|
 r [M 5 38,C 184 [t 38,gS [44,32]] 39,M 39 10]<|
 q (r [A 1 1 40,K 40 41]<|
 c 41 (R [M 10 42,cg (.bin .add (gS [110,111,116,40]) (t 42)) 43,cg (.bin .add (t 43) (gS [41])) 44,M 44 10]) k)<|
 gR [M 10 45,S 45 46,D .gtr 46 200 47] 47 [V e0 2,V (i6 5) 3]<|
 r [M 10 48,M 48 2,V z0 3]<|
 .ret):=cu ⟨[],[],[(5,⟨false,1⟩)],[],[],[]⟩
def Ak: Of aM 114 27 [.tmp 2,.tmp 3] (r [X 0 1,V e0 2,V z0 3]<|
 q (.block 0 (r [L 6 1 6,C 185 [t 6] 7,U 7 8,M 8 5]<|
 c 5 (r [V e0 2,V (i6 2) 3]<|
 .ret) (r [L 6 1 10,C 186 [t 10] 11,D .gtr 11 12 12,M 12 9]<|
 c 9 (r [V e0 2,V (i6 12) 3]<|
 .ret) k)))<|
 r [gU [.ew,.aP] [] 13,cg (.vo 312 (t 13)) 14,M 14 4]<|
 r [M 4 15,L 6 1 16,C 187 [t 15,t 16,.c z0] 17]<|
 gR [M 4 18,Z 18 19,A 0 19 20,C 151 [t 20] 21,D .gtr 21 200 22] 22 [V e0 2,V (i6 5) 3]<|
 r [M 4 23,Z 23 24,A 0 24 25,C 152 [t 25] 26,M 26 2,V z0 3]<|
 .ret):=cu ⟨[],[],[],[14],[],[]⟩
def Ks: Of aM 115 45 [.tmp 4] (r [X 0 2,X 1 3,gF 4]<|
 r [A 0 2 5,K 5 6,A 0 3 7,K 7 8,B .eql 6 8 9,M 9 10,AT 3 2 11 10,KT 11 12 10,AT 3 3 13 10,KT 13 14 10,BT .eql 12 14 15 10,P 10 15 16,M 16 17,AT 4 2 18 17,KT 18 19 17,AT 4 3 20 17,KT 20 21 17,BT .eql 19 21 22 17,P 17 22 23,M 23 24,AT 1 2 25 24,KT 25 26 24,AT 1 3 27 24,KT 27 28 24,CT 188 [t 26,t 28,(.c (.fn (.func 189) [] []))] 29 24,P 24 29 30,M 30 31,AT 2 2 32 31,KT 32 33 31,AT 2 3 34 31,KT 34 35 31,CT 188 [t 33,t 35,(.c (.fn (.func 189) [] []))] 36 31,P 31 36 37,M 37 38,AT 5 2 39 38,KT 39 40 38,AT 5 3 41 38,KT 41 42 38,CT 190 [t 40,t 42,(.c (.fn (.func 191) [] []))] 43 38,P 38 43 44,M 44 4]<|
 .ret):=cu
def Nn: Of aM 116 8 [.tmp 2] (r [V e0 2]<|
 r [M 0 3,S 3 4,C 55 [t 4] 5,M 0 6,B .add 5 6 7,M 7 2]<|
 .ret):=cu
def Gb: Of aM 117 32 [.tmp 4] (r [V e0 4]<|
 r [M 0 8,N 8 9,C 55 [t 9] 10,M 10 5]<|
 q (r [M 0 11,N 11 12,V z0 13]<|
 .block 0 (.loop (r [B .lss 13 12 14]<|
 q (c 14 k (.exit 0))<|
 q (.block 1 (r [I true 3 11 13 15,L 3 15 16,J T2 7,W 3 7 16]<|
 .draw [M 5 17,A 0 7 18,K 18 19,Q 116 [t 19] 20,A 1 7 21,K 21 22,Q 55 [t 22] 23,B .add 20 23 24,M 1 25,L 3 7 26,cg (.call true (t 25) [t 26]) 27,B .add 24 27 28,B .add 17 28 29,M 29 5] []))<|
 R [D .add 13 1 30,M 30 13])))<|
 r [M 5 31,M 31 4]<|
 .ret):=cu
def Gc: Of aM 118 3 [.tmp 2] (r [X 0 1,V e0 2]<|
 r [V e0 2]<|
 .ret):=cu
def I7: Of aM 120 18 [.tmp 2] (r [V e0 2]<|
 r [V e0 3]<|
 q (r [M 0 6,N 6 7,V z0 8]<|
 .block 0 (.loop (r [B .lss 8 7 9]<|
 q (c 9 k (.exit 0))<|
 q (.block 1 (r [I false 1 6 8 10,K 10 11,M 11 5]<|
 R [M 3 12,M 5 13,C 116 [t 13] 14,B .add 12 14 15,M 15 3]))<|
 R [D .add 8 1 16,M 16 8])))<|
 r [M 3 17,M 17 2]<|
 .ret):=cu
def Np: Of aM 121 10 [.tmp 2] (r [V (.int .u64 0) 2]<|
 r [M 0 3,cg (.n9 .u64 (t 3)) 4,cg (.bin .shl (t 4) (.c (.int .u64 1))) 5,M 0 6,cg (.bin .shr (t 6) (.c (.int .u64 63))) 7,cg (.n9 .u64 (t 7)) 8,B .xor 5 8 9,M 9 2]<|
 .ret):=cu
def C0: Of aM 122 6 [.tmp 2] (r [V (.int .u8 0) 2]<|
 r [M 0 3,cg (.n9 .u8 (t 3)) 4,cg (.bin .and (t 4) (.c (.int .u8 127))) 5,M 5 2]<|
 .ret):=cu
def BH: Of aM 148 8 [.tmp 4] (r [gF 4]<|
 r [M 0 5,M 1 6,C 231 [t 5,t 6] 7,M 7 4]<|
 .ret):=cu
def sn: Of aM 150 19 [.tmp 4,.tmp 5] (r [V z0 4,V .eG 5]<|
 r [M 0 6,C 232 [t 6] 7]<|
 r [M 0 8,M 0 9,Z 9 10,A 1 10 11,K 11 12,M 1 13,cg (.app (some 5) ⟨false,1⟩ (t 12) (t 13)) 14,Z 8 15,A 1 15 16,W 1 16 14]<|
 r [M 1 17,S 17 18,M 18 4,V .eG 5]<|
 .ret):=cu ⟨[],[],[],[14],[],[]⟩
def zz: Of aM 151 8 [.tmp 2] (r [V z0 2]<|
 r [M 0 3,Z 3 4,A 1 4 5,K 5 6,N 6 7,M 7 2]<|
 .ret):=cu
def wu: Of aM 152 14 [.tmp 2] (r [V e0 2]<|
 q (.draw [M 0 3,Z 3 4,A 1 4 5,K 5 6,cg (.z6 ⟨false,1⟩ (t 6)) 7,M 0 8,Z 8 9,A 1 9 10,K 10 11,N 11 12,cg (.vi 5 (t 7) (t 12)) 13,M 13 2] [])<|
 .ret):=cu
def Nq: Of aM 171 15 [.tmp 2] (r [gF 2]<|
 r [M 0 3,cg (.bin .or (t 3) (.c (.int .u8 32))) 4,cg (.bin .geq (t 4) (.c (.int .u8 97))) 5,M 5 6,MT 0 7 6,⟨.bin .or (t 7) (.c (.int .u8 32)),(some 8),some (6,true)⟩,⟨.bin .leq (t 8) (.c (.int .u8 122)),(some 9),some (6,true)⟩,P 6 9 10,M 10 11,MF 0 12 11,⟨.bin .eql (t 12) (.c (.int .u8 95)),(some 13),some (11,false)⟩,O 11 13 14,M 14 2]<|
 .ret):=cu
def T3: Of aM 172 21 [.tmp 4] (r [V z0 4]<|
 q (r [M 0 6,S 6 7,V z0 8]<|
 .block 0 (.loop (r [B .lss 8 7 9]<|
 q (c 9 k (.exit 0))<|
 q (.block 1 (r [M 8 10,M 10 5]<|
 r [M 1 11,M 0 12,M 5 13,cg (.mb (t 12) (t 13)) 14,cg (.call false (t 11) [t 14]) 15,U 15 16]<|
 c 16 (r [M 5 17,M 17 4]<|
 .ret) k))<|
 R [D .add 8 1 18,M 18 8])))<|
 r [M 0 19,S 19 20,M 20 4]<|
 .ret):=cu
def Nr: Of aM 173 9 [.tmp 2] (r [gF 2]<|
 r [M 0 3,C 171 [t 3] 4,M 4 5,MF 0 6 5,CF 174 [t 6] 7 5,O 5 7 8,M 8 2]<|
 .ret):=cu
def ON: Of aM 174 9 [.tmp 2] (r [gF 2]<|
 r [M 0 3,cg (.bin .geq (t 3) (.c (.int .u8 48))) 4,M 4 5,MT 0 6 5,⟨.bin .leq (t 6) (.c (.int .u8 57)),(some 7),some (5,true)⟩,P 5 7 8,M 8 2]<|
 .ret):=cu
def yL: Of aM 180 33 [.tmp 2] (r [X 0 1,V z0 2]<|
 gR [A 0 1 5,K 5 6,C 45 [t 6] 7,U 7 8] 8 [V (i6 13) 2]<|
 q (r [A 1 1 9,K 9 10,C 264 [t 10,(.c (.bool false))] 11,M 11 3]<|
 r [M 3 12,D .neq 12 0 13]<|
 c 13 (r [M 3 14,M 14 2]<|
 .ret) k)<|
 q (r [A 2 1 15,K 15 16,A 3 1 17,K 17 18,D .eql 18 3 19,C 264 [t 16,t 19] 20,M 20 4]<|
 r [M 4 21,D .neq 21 0 22]<|
 c 22 (r [M 4 23,M 23 2]<|
 .ret) k)<|
 q (.block 0 (r [L 6 1 25,C 265 [t 25] 26,U 26 27,M 27 24]<|
 c 24 (r [V (i6 17) 2]<|
 .ret) (r [A 5 1 29,K 29 30,N 30 31,D .gtr 31 24 32,M 32 28]<|
 c 28 (r [V (i6 24) 2]<|
 .ret) k)))<|
 r [V z0 2]<|
 .ret):=cu
def Al: Of aM 181 91 [.cell 4 true 2,.tmp 5,.tmp 6] (r [X 0 2,X 1 3,J yI 4,V z0 5,V z0 6]<|
 gR [A 0 3 15,K 15 16,N 16 17,A 1 2 18,K 18 19,N 19 20,B .neq 17 20 21,M 21 22,AF 1 3 23 22,KF 23 24 22,NF 24 25 22,AF 2 2 26 22,KF 26 27 22,NF 27 28 22,BF .neq 25 28 29 22,O 22 29 30] 30 [L 2 4 31,W 2 4 31,V z0 5,V (i6 17) 6]<|
 q (r [A 0 3 32,K 32 33,N 33 34,V z0 35]<|
 .block 0 (.loop (r [B .lss 35 34 36]<|
 q (c 36 k (.exit 0))<|
 q (.block 1 (r [M 35 37,I false 1 33 35 38,K 38 39,M 37 7,M 39 8]<|
 r [L 6 2 41,M 7 42,M 8 43,C 266 [t 41,t 42,t 43] 44,M 44 40,E 40 0 45,E 40 1 46,J vL 9,W 3 9 45,M 46 10]<|
 gR [M 10 47,D .neq 47 0 48] 48 [L 2 4 49,M 7 50,M 10 51,W 2 4 49,M 50 5,M 51 6]<|
 R [A 0 4 52,K 52 53,L 3 9 54,gB true 3 (.agg vL) 1 [(0,t 54)] 55,gA true 3 53 55 56,A 0 4 57,W 1 57 56]))<|
 R [D .add 35 1 58,M 58 35])))<|
 q (r [A 1 3 59,K 59 60,N 60 61,V z0 62]<|
 .block 2 (.loop (r [B .lss 62 61 63]<|
 q (c 63 k (.exit 2))<|
 q (.block 3 (r [M 62 64,I false 1 60 62 65,K 65 66,M 64 11,M 66 12]<|
 r [L 6 2 68,M 11 69,M 12 70,C 267 [t 68,t 69,t 70] 71,M 71 67,E 67 0 72,E 67 1 73,J jn 13,W 6 13 72,M 73 14]<|
 q (r [M 14 74,D .neq 74 0 75]<|
 c 75 (q (.draw [L 2 4 76,A 1 2 77,K 77 78,N 78 79,M 11 80,B .add 79 80 81,M 14 82,W 2 4 76,M 81 5,M 82 6] [(t 77,t 4)])<|
 .ret) k)<|
 R [A 1 4 83,K 83 84,L 6 13 85,gB true 6 (.agg jn) 1 [(0,t 85)] 86,gA true 6 84 86 87,A 1 4 88,W 1 88 87]))<|
 R [D .add 62 1 89,M 89 62])))<|
 r [L 2 4 90,W 2 4 90,V z0 5,V z0 6]<|
 .ret):=cu
def Ns: Of aM 182 36 [.tmp 2] (r [X 0 1,V z0 2]<|
 q (.block 0 (r [A 0 1 4,K 4 5,M 5 6,AT 1 1 7 6,KT 7 8 6,UT 8 9 6,P 6 9 10,M 10 11,AT 2 1 12 11,KT 12 13 11,NT 13 14 11,DT .eql 14 0 15 11,P 11 15 16,M 16 3]<|
 c 3 (r [V z0 2]<|
 .ret) (r [A 0 1 18,K 18 19,M 19 20,AF 2 1 21 20,KF 21 22 20,NF 22 23 20,DF .eql 23 0 24 20,O 20 24 25,M 25 26,AF 2 1 27 26,KF 27 28 26,NF 28 29 26,DF .gtr 29 12 30 26,O 26 30 31,M 31 17]<|
 c 17 (r [V (i6 2) 2]<|
 .ret) (r [A 2 1 33,K 33 34,C 268 [t 34,(.c (.fn (.func 269) [] []))] 35,M 35 32]<|
 c 32 (r [V (i6 2) 2]<|
 .ret) k))))<|
 r [V z0 2]<|
 .ret):=cu
def pR: Of aM 183 55 [.tmp 2,.tmp 3] (r [X 0 1,V e0 2,V z0 3]<|
 r [A 1 1 10,L 6 10 11,C 271 [t 11] 12,M 12 9,E 9 0 13,E 9 1 14,M 13 4,M 14 5]<|
 gR [M 5 15,D .neq 15 0 16] 16 [M 5 17,V e0 2,M 17 3]<|
 q (r [A 0 1 18,K 18 19]<|
 .block 0 (r [D .eql 19 1 21,M 21 20]<|
 c 20 (r [M 4 22,M 22 2,V z0 3]<|
 .ret) (q (r [D .eql 19 2 24,M 24 23]<|
 c 23 k (r [D .eql 19 3 25,M 25 23]<|
 c 23 k (r [D .eql 19 4 26,M 26 23]<|
 c 23 k (R [D .eql 19 5 27,M 27 23]))))<|
 c 23 (r [A 0 1 28,K 28 29,C 272 [t 29] 30,cg (.bin .add (t 30) (gS [32])) 31,M 4 32,B .add 31 32 33,M 33 2,V z0 3]<|
 .ret) k)))<|
 r [A 7 1 35,L 6 35 36,C 271 [t 36] 37,M 37 34,E 34 0 38,E 34 1 39,M 38 6,M 39 5]<|
 gR [M 5 40,D .neq 40 0 41] 41 [M 5 42,V e0 2,M 42 3]<|
 r [V (.str [91]) 7,V (.str [93]) 8]<|
 q (r [A 13 1 43,K 43 44]<|
 c 44 (R [V (.str [93]) 7]) k)<|
 q (r [A 14 1 45,K 45 46]<|
 c 46 (R [V (.str [91]) 8]) k)<|
 r [M 7 47,M 4 48,B .add 47 48 49,cg (.bin .add (t 49) (gS [46,46])) 50,M 6 51,B .add 50 51 52,M 8 53,B .add 52 53 54,M 54 2,V z0 3]<|
 .ret):=cu
def I8: Of aM 185 61 [.tmp 2] (r [X 0 1,gF 2]<|
 q (q (.draw [A 5 1 3,K 3 4,N 4 5,A 0 1 6,K 6 7,Q 273 [t 7] 8,B .neq 5 8 9] [])<|
 c 9 (r [gF 2]<|
 .ret) k)<|
 q (r [A 0 1 10,K 10 11]<|
 .block 0 (r [D .eql 11 1 13,M 13 12]<|
 c 12 (r [A 4 1 14,K 14 15,cg (.bin .eql (t 15) (.c e0)) 16,M 16 17,AT 1 1 18 17,LT 3 18 19 17,CT 274 [t 19] 20 17,DT .eql 20 0 21 17,P 17 21 22,M 22 23,AT 1 1 24 23,AT 0 24 25 23,KT 25 26 23,DT .neq 26 1 27 23,MT 27 28 23,AF 1 1 29 28,AF 1 29 30 28,KF 30 31 28,DF .geq 31 0 32 28,OT 28 32 33 23,P 23 33 34,M 34 2]<|
 .ret) (r [D .eql 11 2 36,M 36 35]<|
 c 35 (r [A 1 1 37,L 3 37 38,gU Ai [] 39,cg (.rW false true [.i,.i,.s] (t 38) (t 39)) 40,M 40 41,AT 4 1 42 41,KT 42 43 41,CT 45 [t 43] 44 41,P 41 44 45,M 45 2]<|
 .ret) k)))<|
 r [A 1 1 46,L 3 46 47,gU Ai [] 48,cg (.rW false true [.i,.i,.s] (t 47) (t 48)) 49,M 49 50,AT 4 1 51 50,KT 51 52 50,⟨.bin .eql (t 52) (.c e0),(some 53),some (50,true)⟩,P 50 53 54,M 54 55,AT 5 1 56 55,KT 56 57 55,CT 275 [t 57,(.c (.fn (.func 276) [] []))] 58 55,UT 58 59 55,P 55 59 60,M 60 2]<|
 .ret):=cu
def Kt: Of aM 186 20 [.tmp 2] (r [X 0 1,V z0 2]<|
 r [V z0 3]<|
 q (r [A 5 1 6,K 6 7,N 7 8,V z0 9]<|
 .block 0 (.loop (r [B .lss 9 8 10]<|
 q (c 10 k (.exit 0))<|
 q (.block 1 (r [I true 6 7 9 11,L 6 11 12,J jn 5,W 6 5 12]<|
 R [M 3 13,L 6 5 14,C 186 [t 14] 15,cg (.max (t 13) [t 15]) 16,M 16 3]))<|
 R [D .add 9 1 17,M 17 9])))<|
 r [M 3 18,D .add 18 1 19,M 19 2]<|
 .ret):=cu
def iQ: Of aM 187 115 [] (r [X 1 4]<|
 q (r [L 6 4 12,C 277 [t 12] 13,M 2 14,B .lss 13 14 15]<|
 c 15 (r [M 0 16,Z 16 17,A 0 17 18,C 278 [t 18,(.c (.int .u8 40))] 19]<|
 r [M 0 20,L 6 4 21,C 187 [t 20,t 21,.c z0] 22]<|
 r [M 0 23,Z 23 24,A 0 24 25,C 278 [t 25,(.c (.int .u8 41))] 26]<|
 .ret) k)<|
 r [A 0 4 27,K 27 28]<|
 .block 0 (r [D .eql 28 1 63,M 63 62]<|
 c 62 (r [A 1 4 65,L 3 65 66,C 279 [t 66] 67,M 67 64,E 64 0 68,E 64 1 69,M 68 6,M 69 7]<|
 R [M 0 70,Z 70 71,A 0 71 72,M 6 73,C 150 [t 72,t 73] 74]) (r [D .eql 28 2 76,M 76 75]<|
 c 75 (.draw [M 0 77,Z 77 78,A 0 78 79,A 4 4 80,K 80 81,C 150 [t 79,t 81] 82] []) (r [D .eql 28 3 84,M 84 83]<|
 c 83 (r [M 0 85,Z 85 86,A 0 86 87,C 278 [t 87,(.c (.int .u8 45))] 88]<|
 R [M 0 89,A 5 4 90,K 90 91,gI true 6 91 0 92,L 6 92 93,C 187 [t 89,t 93,gJ 6] 94]) (r [D .eql 28 16 96,M 96 95]<|
 c 95 (r [gU [e0,e0,e0] [(0,1,gS [105,102,32]),(1,1,gS [32,116,104,101,110,32]),(2,1,gS [32,101,108,115,101,32])] 97,V z0 98]<|
 .block 1 (.loop (r [D .lss 98 3 99]<|
 q (c 99 k (.exit 1))<|
 q (.block 2 (r [M 98 100,cg (.wX ⟨false,1⟩ 3 (t 97) (t 98)) 101,M 100 8,M 101 9]<|
 r [M 0 102,Z 102 103,A 0 103 104,M 9 105,C 150 [t 104,t 105] 106]<|
 R [M 0 107,A 5 4 108,K 108 109,M 8 110,I true 6 109 110 111,L 6 111 112,C 187 [t 107,t 112,.c z0] 113]))<|
 R [D .add 98 1 114,M 114 98]))) (r [A 0 4 29,K 29 30,C 280 [t 30] 31,J sX 10,W 3 10 31]<|
 r [A 2 10 32,K 32 33,M 33 11]<|
 q (r [M 11 34,D .eql 34 3 35]<|
 c 35 (R [M 11 36,D .add 36 1 37,M 37 11]) k)<|
 r [M 0 38,A 5 4 39,K 39 40,gI true 6 40 0 41,L 6 41 42,M 11 43,C 187 [t 38,t 42,t 43] 44]<|
 q (.draw [M 0 45,Z 45 46,A 0 46 47,A 1 10 48,K 48 49,cg (.bin .add (gS [32]) (t 49)) 50,cg (.bin .add (t 50) (gS [32])) 51,C 150 [t 47,t 51] 52] [])<|
 .draw [M 0 53,A 5 4 54,K 54 55,gI true 6 55 1 56,L 6 56 57,A 2 10 58,K 58 59,D .add 59 1 60,C 187 [t 53,t 57,t 60] 61] [])))))):=cu ⟨[],[52,61,82],[],[],[],[]⟩
def vq: Of aM 188 32 [.tmp 6] (r [gF 6]<|
 gR [M 0 10,N 10 11,M 1 12,N 12 13,B .neq 11 13 14] 14 [gF 6]<|
 q (r [M 0 15,N 15 16,V z0 17]<|
 .block 0 (.loop (r [B .lss 17 16 18]<|
 q (c 18 k (.exit 0))<|
 q (.block 1 (r [M 17 19,I true 3 15 17 20,L 3 20 21,J T2 8,M 19 7,W 3 8 21]<|
 r [M 1 22,M 7 23,I true 3 22 23 24,L 3 24 25,J T2 9,W 3 9 25]<|
 r [M 2 26,L 3 8 27,L 3 9 28,cg (.call false (t 26) [t 27,t 28]) 29,U 29 30]<|
 c 30 (r [gF 6]<|
 .ret) k))<|
 R [D .add 17 1 31,M 31 17])))<|
 r [gT 6]<|
 .ret):=cu
def xk: Of aM 190 32 [.tmp 6] (r [gF 6]<|
 gR [M 0 10,N 10 11,M 1 12,N 12 13,B .neq 11 13 14] 14 [gF 6]<|
 q (r [M 0 15,N 15 16,V z0 17]<|
 .block 0 (.loop (r [B .lss 17 16 18]<|
 q (c 18 k (.exit 0))<|
 q (.block 1 (r [M 17 19,I true 2 15 17 20,L 2 20 21,J yI 8,M 19 7,W 2 8 21]<|
 r [M 1 22,M 7 23,I true 2 22 23 24,L 2 24 25,J yI 9,W 2 9 25]<|
 r [M 2 26,L 2 8 27,L 2 9 28,cg (.call false (t 26) [t 27,t 28]) 29,U 29 30]<|
 c 30 (r [gF 6]<|
 .ret) k))<|
 R [D .add 17 1 31,M 31 17])))<|
 r [gT 6]<|
 .ret):=cu
def qO: Of aM 231 18 [.tmp 4] (r [gF 4]<|
 r [M 0 5,S 5 6,M 1 7,S 7 8,B .geq 6 8 9,M 9 10,MT 0 11 10,MT 1 12 10,ST 12 13 10,⟨.vD (t 11) none (some (t 13)),(some 14),some (10,true)⟩,MT 1 15 10,BT .eql 14 15 16 10,P 10 16 17,M 17 4]<|
 .ret):=cu
def tE: Of aM 232 20 [] (r [M 0 2,Z 2 3,A 0 3 4,K 4 5,cg (.p_ false .p (t 5) (.c .ew)) 6]<|
 c 6 (R [M 0 7,M 0 8,cg (.Gp (t 8)) 9,cg (.Bd 313 (t 9)) 10,cg (.Gq 268 (t 10)) 11,Z 7 12,A 0 12 13,W 1 13 11]) (r [M 0 14,Z 14 15,A 0 15 16,K 16 17,M 0 18,cg (.Dl true (t 17) (t 18)) 19]<|
 c 19 (.stop) k)):=cu
def Gd: Of aM 264 19 [.tmp 4] (r [X 1 3,V z0 4]<|
 q (r [M 0 6,C 341 [t 6] 7,M 7 5]<|
 r [M 5 8,D .neq 8 0 9]<|
 c 9 (r [M 5 10,M 10 4]<|
 .ret) k)<|
 gR [M 0 11,N 11 12,D .eql 12 0 13,M 13 14,MF 0 15 14,⟨.vg (.func 343) [] [t 3],(some 16),some (14,false)⟩,CF 342 [t 15,t 16] 17 14,O 14 17 18] 18 [V (i6 17) 4]<|
 r [V z0 4]<|
 .ret):=cu
def HE: Of aM 265 45 [.tmp 2] (r [X 0 1,gF 2]<|
 q (.block 0 (r [A 3 1 5,K 5 6,D .lss 6 1 7,M 7 8,AF 3 1 9 8,KF 9 10 8,DF .gtr 10 6 11 8,O 8 11 12,M 12 4]<|
 c 4 (r [gF 2]<|
 .ret) (r [A 4 1 14,K 14 15,D .eql 15 0 16,M 16 13]<|
 c 13 (r [gT 2]<|
 .ret) (r [A 3 1 18,K 18 19,D .neq 19 5 20,M 20 21,AF 2 1 22 21,KF 22 23 21,NF 23 24 21,DF .neq 24 1 25 21,O 21 25 26,M 26 17]<|
 c 17 (r [gF 2]<|
 .ret) k))))<|
 q (r [A 2 1 27,K 27 28,gI true 3 28 0 29,A 1 29 30,K 30 31,M 31 3]<|
 r [A 4 1 32,K 32 33]<|
 .block 1 (r [D .eql 33 1 35,M 35 34]<|
 c 34 (r [M 3 36,D .eql 36 1 37,M 37 2]<|
 .ret) (q (r [D .eql 33 2 39,M 39 38]<|
 c 38 k (R [D .eql 33 3 40,M 40 38]))<|
 c 38 (r [M 3 41,D .neq 41 3 42,M 42 2]<|
 .ret) (r [D .eql 33 4 44,M 44 43]<|
 c 43 (r [gT 2]<|
 .ret) k))))<|
 r [gF 2]<|
 .ret):=cu
def Nt: Of aM 266 31 [.cell 6 true 3,.tmp 7] (r [X 0 3,J vL 6,V z0 7]<|
 r [M 2 12,C 345 [t 12] 13,M 13 11,E 11 0 14,E 11 1 15,E 11 2 16,J vL 8,W 3 8 14,M 15 9,M 16 10]<|
 q (r [M 10 17,D .eql 17 0 18]<|
 c 18 (.draw [L 3 8 19,A 1 3 20,K 20 21,M 1 22,I true 3 21 22 23,A 1 23 24,K 24 25,A 1 3 26,K 26 27,Q 346 [t 19,t 25,t 27] 28,M 28 10] []) k)<|
 r [L 3 8 29,M 10 30,W 3 6 29,M 30 7]<|
 .ret):=cu
def Ku: Of aM 267 44 [.cell 6 true 6,.tmp 7] (r [X 0 3,J jn 6,V z0 7]<|
 r [M 2 13,C 347 [t 13] 14,M 14 12,E 12 0 15,E 12 1 16,E 12 2 17,J jn 8,W 6 8 15,M 16 9,M 17 10]<|
 gR [M 10 18,D .neq 18 0 19] 19 [L 6 8 20,M 10 21,W 6 6 20,M 21 7]<|
 r [L 6 8 23,A 1 3 24,K 24 25,C 348 [t 23,t 25] 26,M 26 22,E 22 0 27,E 22 1 28,M 27 11,M 28 10]<|
 q (r [M 10 29,D .eql 29 0 30,M 30 31,MT 11 32 31,AT 2 3 33 31,KT 33 34 31,MT 1 35 31,IT true 3 34 35 36 31,AT 1 36 37 31,KT 37 38 31,CT 349 [t 32,t 38] 39 31,UT 39 40 31,P 31 40 41]<|
 c 41 (R [V (i6 14) 10]) k)<|
 r [L 6 8 42,M 10 43,W 6 6 42,M 43 7]<|
 .ret):=cu
def uN: Of aM 268 9 [.tmp 4] (r [gF 4]<|
 r [M 0 5,M 1 6,C 350 [t 5,t 6] 7,D .geq 7 0 8,M 8 4]<|
 .ret):=cu
def I9: Of aM 269 6 [.tmp 2] (r [X 0 1,gF 2]<|
 r [L 15 1 3,C 270 [t 3] 4,U 4 5,M 5 2]<|
 .ret):=cu
def Nu: Of aM 270 39 [.tmp 2] (r [X 0 1,gF 2]<|
 q (.block 0 (r [A 0 1 4,K 4 5,D .eql 5 6 6,M 6 3]<|
 c 3 (r [A 1 1 7,L 6 7 8,C 351 [t 8] 9,M 9 10,AT 7 1 11 10,LT 6 11 12 10,CT 351 [t 12] 13 10,P 10 13 14,M 14 2]<|
 .ret) (r [A 0 1 16,K 16 17,D .lss 17 1 18,M 18 19,AF 0 1 20 19,KF 20 21 19,DF .gtr 21 6 22 19,O 19 22 23,M 23 15]<|
 c 15 (r [gF 2]<|
 .ret) k)))<|
 r [A 1 1 24,L 6 24 25,C 351 [t 25] 26,M 26 27,AT 7 1 28 27,LT 6 28 29 27,⟨.build jn [],(some 30),some (27,true)⟩,CT 352 [t 29,t 30] 31 27,P 27 31 32,M 32 33,LT 15 1 34 33,CT 353 [t 34] 35 33,⟨.build Zg [],(some 36),some (33,true)⟩,⟨.rW false true [.b,.b] (t 35) (t 36),(some 37),some (33,true)⟩,P 33 37 38,M 38 2]<|
 .ret):=cu
def vt: Of aM 271 28 [.tmp 2,.tmp 3] (r [X 0 1,V e0 2,V z0 3]<|
 r [L 6 1 7,C 114 [t 7] 8,M 8 6,E 6 0 9,E 6 1 10,M 9 4,M 10 5]<|
 q (r [M 5 11,D .eql 11 0 12,M 12 13,AT 0 1 14 13,KT 14 15 13,DT .geq 15 8 16 13,MT 16 17 13,AT 0 1 18 17,KT 18 19 17,DT .leq 19 16 20 17,PT 17 20 21 13,P 13 21 22]<|
 c 22 (R [M 4 23,cg (.bin .add (gS [40]) (t 23)) 24,cg (.bin .add (t 24) (gS [41])) 25,M 25 4]) k)<|
 r [M 4 26,M 5 27,M 26 2,M 27 3]<|
 .ret):=cu
def OO: Of aM 272 12 [.tmp 2] (r [V e0 2]<|
 q (r [M 0 3]<|
 .block 0 (r [D .eql 3 2 5,M 5 4]<|
 c 4 (r [V (.str [60]) 2]<|
 .ret) (r [D .eql 3 3 7,M 7 6]<|
 c 6 (r [V (.str [60,61]) 2]<|
 .ret) (r [D .eql 3 4 9,M 9 8]<|
 c 8 (r [V (.str [62]) 2]<|
 .ret) (r [D .eql 3 5 11,M 11 10]<|
 c 10 (r [V (.str [62,61]) 2]<|
 .ret) k)))))<|
 r [V e0 2]<|
 .ret):=cu
def I_: Of aM 273 21 [.tmp 2] (r [V z0 2]<|
 q (.block 0 (r [M 0 4,D .eql 4 1 5,M 5 6,MF 0 7 6,DF .eql 7 2 8 6,O 6 8 9,M 9 3]<|
 c 3 (r [V z0 2]<|
 .ret) (r [M 0 11,D .eql 11 3 12,M 12 10]<|
 c 10 (r [V (i6 1) 2]<|
 .ret) (r [M 0 14,D .eql 14 16 15,M 15 13]<|
 c 13 (r [V (i6 3) 2]<|
 .ret) (r [M 0 17,C 280 [t 17] 18,cg (.field false 2 1 (t 18)) 19,D .gtr 19 0 20,M 20 16]<|
 c 16 (r [V (i6 2) 2]<|
 .ret) k)))))<|
 r [V (i6 (-1)) 2]<|
 .ret):=cu
def Kv: Of aM 274 39 [.tmp 2] (r [X 0 1,V z0 2]<|
 r [gF 3]<|
 q (r [A 0 1 4,K 4 5]<|
 .block 0 (r [D .eql 5 0 7,M 7 6]<|
 c 6 (R [L 3 1 8,gU Ai [] 9,cg (.rW false true [.i,.i,.s] (t 8) (t 9)) 10,M 10 3]) (r [D .eql 5 1 12,M 12 11]<|
 c 11 (R [A 2 1 13,K 13 14,cg (.bin .eql (t 14) (.c e0)) 15,M 15 3]) (r [D .eql 5 2 17,M 17 16]<|
 c 16 (R [A 1 1 18,K 18 19,D .eql 19 0 20,M 20 21,AT 2 1 22 21,KT 22 23 21,CT 354 [t 23] 24 21,P 21 24 25,M 25 3]) (r [D .eql 5 3 27,M 27 26]<|
 c 26 (R [A 2 1 28,K 28 29,cg (.bin .eql (t 29) (.c e0)) 30,M 30 31,AT 1 1 32 31,KT 32 33 31,DT .andNot 33 1 34 31,DT .eql 34 0 35 31,P 31 35 36,M 36 3]) k)))))<|
 gR [M 3 37,U 37 38] 38 [V (i6 2) 2]<|
 r [V z0 2]<|
 .ret):=cu
def uO: Of aM 275 9 [.tmp 4] (r [gF 4]<|
 r [M 0 5,M 1 6,C 355 [t 5,t 6] 7,D .geq 7 0 8,M 8 4]<|
 .ret):=cu
def Ge: Of aM 276 6 [.tmp 2] (r [X 0 1,gF 2]<|
 r [L 6 1 3,C 185 [t 3] 4,U 4 5,M 5 2]<|
 .ret):=cu
def Ja: Of aM 277 16 [.tmp 2] (r [X 0 1,V z0 2]<|
 q (r [A 0 1 3,K 3 4]<|
 .block 0 (r [D .eql 4 16 6,M 6 5]<|
 c 5 (r [V z0 2]<|
 .ret) (r [D .eql 4 3 8,M 8 7]<|
 c 7 (r [V (i6 6) 2]<|
 .ret) (q (r [D .eql 4 1 10,M 10 9]<|
 c 9 k (R [D .eql 4 2 11,M 11 9]))<|
 c 9 (r [V (i6 7) 2]<|
 .ret) k))))<|
 r [A 0 1 12,K 12 13,C 280 [t 13] 14,cg (.field false 2 1 (t 14)) 15,M 15 2]<|
 .ret):=cu
def tF: Of aM 278 17 [.tmp 4] (r [V .eG 4]<|
 r [M 0 5,C 232 [t 5] 6]<|
 r [M 0 7,M 0 8,Z 8 9,A 1 9 10,K 10 11,M 1 12,gB false 1 (.int .u8 0) 1 [(0,t 12)] 13,cg (.app (some 5) ⟨false,1⟩ (t 11) (t 13)) 14,Z 7 15,A 1 15 16,W 1 16 14]<|
 r [V .eG 4]<|
 .ret):=cu ⟨[],[],[],[14],[],[]⟩
def CH: Of aM 279 28 [.tmp 2,.tmp 3] (r [X 0 1,V e0 2,V z0 3]<|
 q (r [L 3 1 5,C 274 [t 5] 6,M 6 4]<|
 r [M 4 7,D .neq 7 0 8]<|
 c 8 (r [M 4 9,V e0 2,M 9 3]<|
 .ret) k)<|
 q (r [A 0 1 10,K 10 11]<|
 .block 0 (r [D .eql 11 1 13,M 13 12]<|
 c 12 (r [A 1 1 14,K 14 15,C 356 [t 15] 16,M 16 2,V z0 3]<|
 .ret) (r [D .eql 11 2 18,M 18 17]<|
 c 17 (r [A 2 1 19,K 19 20,C 357 [t 20] 21,M 21 2,V z0 3]<|
 .ret) (r [D .eql 11 3 23,M 23 22]<|
 c 22 (r [A 1 1 24,K 24 25,D .eql 25 1 26,C 358 [t 26] 27,M 27 2,V z0 3]<|
 .ret) k))))<|
 r [V (.str [110,117,108,108]) 2,V z0 3]<|
 .ret):=cu
def Kw: Of aM 280 18 [.cell 2 true 3] (r [J sX 2]<|
 q (r [C 359 [] 5,N 5 6,V z0 7]<|
 .block 0 (.loop (r [B .lss 7 6 8]<|
 q (c 8 k (.exit 0))<|
 q (.block 1 (r [I true 3 5 7 9,L 3 9 10,J sX 4,W 3 4 10]<|
 r [A 0 4 11,K 11 12,M 0 13,B .eql 12 13 14]<|
 c 14 (r [L 3 4 15,W 3 2 15]<|
 .ret) k))<|
 R [D .add 7 1 16,M 16 7])))<|
 r [gU sX [] 17,W 3 2 17]<|
 .ret):=cu
def vu: Of aM 309 19 [.tmp 4] (r [V z0 4]<|
 q (r [M 0 6,N 6 7,V z0 8]<|
 .block 0 (.loop (r [B .lss 8 7 9]<|
 q (c 9 k (.exit 0))<|
 q (.block 1 (r [M 8 10,M 10 5]<|
 r [M 1 11,M 0 12,M 5 13,I false 1 12 13 14,K 14 15,cg (.call false (t 11) [t 15]) 16]<|
 c 16 (r [M 5 17,M 17 4]<|
 .ret) k))<|
 R [D .add 8 1 18,M 18 8])))<|
 r [V (i6 (-1)) 4]<|
 .ret):=cu
def vM: Of aM 341 41 [.tmp 2] (r [V z0 2]<|
 gR [M 0 5,N 5 6,D .gtr 6 6 7] 7 [V (i6 24) 2]<|
 q (r [M 0 8,N 8 9,V z0 10]<|
 .block 0 (.loop (r [B .lss 10 9 11]<|
 q (c 11 k (.exit 0))<|
 q (.block 1 (r [M 10 12,I true 3 8 10 13,L 3 13 14,J T2 4,M 12 3,W 3 4 14]<|
 gR [A 0 4 15,K 15 16,C 45 [t 16] 17,U 17 18,M 18 19,MF 0 20 19,AF 0 4 21 19,KF 21 22 19,CF 390 [t 20,t 22] 23 19,MF 3 24 19,BF .neq 23 24 25 19,O 19 25 26] 26 [V (i6 13) 2]<|
 r [A 1 4 27,K 27 28,D .neq 28 1 29,M 29 30,AT 1 4 31 30,KT 31 32 30,DT .neq 32 2 33 30,P 30 33 34,M 34 35,AT 1 4 36 35,KT 36 37 35,DT .neq 37 3 38 35,P 35 38 39]<|
 c 39 (r [V (i6 14) 2]<|
 .ret) k))<|
 R [D .add 10 1 40,M 40 10])))<|
 r [V z0 2]<|
 .ret):=cu
def sU: Of aM 342 9 [.tmp 4] (r [gF 4]<|
 r [M 0 5,M 1 6,C 391 [t 5,t 6] 7,D .geq 7 0 8,M 8 4]<|
 .ret):=cu
def C1: Of aM 343 8 [.tmp 3] (r [X 0 2,gF 3]<|
 r [L 3 2 4,K 1 5,C 344 [t 4,t 5] 6,U 6 7,M 7 3]<|
 .ret):=cu
def yM: Of aM 344 50 [.tmp 4] (r [X 0 2,gF 4]<|
 gR [M 1 7,U 7 8] 8 [A 2 2 9,K 9 10,N 10 11,D .eql 11 0 12,M 12 4]<|
 q (r [A 2 2 13,K 13 14,N 14 15,V z0 16]<|
 .block 0 (.loop (r [B .lss 16 15 17]<|
 q (c 17 k (.exit 0))<|
 q (.block 1 (r [M 16 18,I true 3 14 16 19,L 3 19 20,J Ai 6,M 18 5,W 3 6 20]<|
 r [L 3 6 21,C 274 [t 21] 22,D .neq 22 0 23,M 23 24,AF 0 6 25 24,KF 25 26 24,AF 1 2 27 24,KF 27 28 24,BF .neq 26 28 29 24,O 24 29 30,M 30 31,AF 2 2 32 31,KF 32 33 31,LF 3 6 34 31,CF 392 [t 33,t 34] 35 31,MF 5 36 31,BF .neq 35 36 37 31,O 31 37 38]<|
 c 38 (r [gF 4]<|
 .ret) k))<|
 R [D .add 16 1 39,M 39 16])))<|
 r [A 2 2 40,K 40 41,N 41 42,D .geq 42 1 43,M 43 44,AT 2 2 45 44,KT 45 46 44,NT 46 47 44,DT .leq 47 8 48 44,P 44 48 49,M 49 4]<|
 .ret):=cu
def lM: Of aM 345 77 [.cell 2 true 3,.tmp 3,.tmp 4] (r [J vL 2,V z0 3,V z0 4]<|
 r [M 0 11,C 393 [t 11] 12,M 12 10,E 10 0 13,E 10 1 14,E 10 2 15,M 13 5,M 14 6,M 15 7]<|
 gR [M 7 16,D .neq 16 0 17] 17 [gU vL [] 18,M 6 19,M 7 20,W 3 2 18,M 19 3,M 20 4]<|
 r [M 5 21,gU [.aP,z0] [(0,1,t 21)] 22,gU [.aP,z0,.bool false] [(0,2,t 22)] 23,X 23 24,M 24 8]<|
 gR [M 5 25,N 25 26,D .eql 26 1 27,M 27 28,MT 8 29 28,ZT 29 30 28,AT 0 30 31 28,CT 394 [t 31] 32 28,⟨.bin .eql (t 32) (gS [45]),(some 33),some (28,true)⟩,P 28 33 34] 34 [gU vL [(0,1,(.c (.bool true)))] 35,W 3 2 35,V z0 3,V z0 4]<|
 r [M 8 36,C 395 [t 36] 37,J vL 9,W 3 9 37]<|
 q (.block 0 (r [M 8 39,Z 39 40,A 0 40 41,A 1 41 42,K 42 43,M 5 44,N 44 45,B .lss 43 45 46,M 46 38]<|
 c 38 (q (.draw [gU vL [] 47,M 5 48,M 8 49,Z 49 50,A 0 50 51,A 1 51 52,K 52 53,I true 4 48 53 54,A 3 54 55,K 55 56,W 3 2 47,M 56 3,V (i6 11) 4] [(t 52,t 2),(t 55,t 2)])<|
 .ret) (r [M 8 58,Z 58 59,A 2 59 60,K 60 61,M 61 57]<|
 c 57 (r [gU vL [] 62,M 0 63,S 63 64,W 3 2 62,M 64 3,V (i6 11) 4]<|
 .ret) (r [A 2 9 66,K 66 67,N 67 68,D .gtr 68 12 69,M 69 65]<|
 c 65 (r [gU vL [] 70,W 3 2 70,V z0 3,V (i6 24) 4]<|
 .ret) (r [L 3 9 72,C 182 [t 72] 73,D .neq 73 0 74,M 74 71]<|
 c 71 (r [gU vL [] 75,W 3 2 75,V z0 3,V (i6 12) 4]<|
 .ret) k)))))<|
 r [L 3 9 76,W 3 2 76,V z0 3,V z0 4]<|
 .ret):=cu
def CJ: Of aM 346 54 [.tmp 6] (r [X 0 3,V z0 6]<|
 q (r [L 3 3 15,C 182 [t 15] 16,M 16 7]<|
 r [M 7 17,D .neq 17 0 18]<|
 c 18 (r [M 7 19,M 19 6]<|
 .ret) k)<|
 q (r [A 2 3 20,K 20 21,N 21 22,V z0 23]<|
 .block 0 (.loop (r [B .lss 23 22 24]<|
 q (c 24 k (.exit 0))<|
 q (.block 1 (r [I true 15 21 23 25,L 15 25 26,J Mb 9,W 15 9 26]<|
 r [gT 10]<|
 q (r [L 15 9 27,C 396 [t 27] 28,N 28 29,V z0 30]<|
 .block 2 (.loop (r [B .lss 30 29 31]<|
 q (c 31 k (.exit 2))<|
 q (.block 3 (r [I true 6 28 30 32,L 6 32 33,J jn 12,W 6 12 33]<|
 r [L 6 12 35,M 2 36,C 348 [t 35,t 36] 37,M 37 34,E 34 0 38,E 34 1 39,M 38 13,M 39 14]<|
 gR [M 14 40,D .neq 40 0 41] 41 [M 14 42,M 42 6]<|
 R [M 10 43,M 43 44,LT 15 9 45 44,MT 1 46 44,MT 13 47 44,CT 397 [t 45,t 46,t 47] 48 44,P 44 48 49,M 49 10]))<|
 R [D .add 30 1 50,M 50 30])))<|
 r [M 10 51,U 51 52]<|
 c 52 (r [V (i6 14) 6]<|
 .ret) k))<|
 R [D .add 23 1 53,M 53 23])))<|
 r [V z0 6]<|
 .ret):=cu
def mN: Of aM 347 51 [.cell 2 true 6,.tmp 3,.tmp 4] (r [J jn 2,V z0 3,V z0 4]<|
 r [M 0 11,C 393 [t 11] 12,M 12 10,E 10 0 13,E 10 1 14,E 10 2 15,M 13 5,M 14 6,M 15 7]<|
 gR [M 7 16,D .neq 16 0 17] 17 [gU jn [] 18,M 6 19,M 7 20,W 6 2 18,M 19 3,M 20 4]<|
 r [M 5 22,C 398 [t 22,.c z0,.c z0] 23,M 23 21,E 21 0 24,E 21 1 25,E 21 2 26,J jn 8,W 6 8 24,M 25 9,M 26 7]<|
 q (.block 0 (r [M 9 28,M 5 29,N 29 30,B .lss 28 30 31,M 31 27]<|
 c 27 (q (.draw [gU jn [] 32,M 5 33,M 9 34,I true 4 33 34 35,A 3 35 36,K 36 37,W 6 2 32,M 37 3,V (i6 11) 4] [(t 36,t 2)])<|
 .ret) (r [M 7 39,D .neq 39 0 40,M 40 38]<|
 c 38 (r [gU jn [] 41,M 0 42,S 42 43,M 7 44,W 6 2 41,M 43 3,M 44 4]<|
 .ret) (r [L 6 8 46,C 186 [t 46] 47,D .gtr 47 12 48,M 48 45]<|
 c 45 (r [gU jn [] 49,W 6 2 49,V z0 3,V (i6 12) 4]<|
 .ret) k))))<|
 r [L 6 8 50,W 6 2 50,V z0 3,V z0 4]<|
 .ret):=cu
def Am: Of aM 348 17 [.tmp 4,.tmp 5] (r [X 0 2,V z0 4,V z0 5]<|
 q (r [L 6 2 7,C 399 [t 7] 8,M 8 6]<|
 r [M 6 9,D .neq 9 0 10]<|
 c 10 (r [M 6 11,V z0 4,M 11 5]<|
 .ret) k)<|
 r [L 6 2 12,M 1 13,C 400 [t 12,t 13] 14,E 14 0 15,E 14 1 16,M 15 4,M 16 5]<|
 .ret):=cu
def Kx: Of aM 349 16 [.tmp 4] (r [gF 4]<|
 r [M 0 5,M 1 6,B .eql 5 6 7,M 7 8,MF 0 9 8,DF .eql 9 0 10 8,O 8 10 11,M 11 12,MF 1 13 12,DF .eql 13 0 14 12,O 12 14 15,M 15 4]<|
 .ret):=cu
def xm: Of aM 350 19 [.tmp 4] (r [V z0 4]<|
 q (r [M 0 6,N 6 7,V z0 8]<|
 .block 0 (.loop (r [B .lss 8 7 9]<|
 q (c 9 k (.exit 0))<|
 q (.block 1 (r [M 8 10,M 10 5]<|
 r [M 1 11,M 0 12,M 5 13,I true 15 12 13 14,L 15 14 15,cg (.call false (t 11) [t 15]) 16]<|
 c 16 (r [M 5 17,M 17 4]<|
 .ret) k))<|
 R [D .add 8 1 18,M 18 8])))<|
 r [V (i6 (-1)) 4]<|
 .ret):=cu
def OP: Of aM 351 11 [.tmp 2] (r [X 0 1,gF 2]<|
 r [L 6 1 3,C 399 [t 3] 4,D .eql 4 0 5,M 5 6,LT 6 1 7 6,CT 186 [t 7] 8 6,DT .leq 8 12 9 6,P 6 9 10,M 10 2]<|
 .ret):=cu
def Ky: Of aM 352 31 [.tmp 4] (r [X 0 2,X 1 3,gF 4]<|
 r [A 0 2 5,K 5 6,A 0 3 7,K 7 8,B .eql 6 8 9,M 9 10,AT 1 2 11 10,LT 3 11 12 10,AT 1 3 13 10,LT 3 13 14 10,⟨.rW false true [.i,.i,.s] (t 12) (t 14),(some 15),some (10,true)⟩,P 10 15 16,M 16 17,AT 4 2 18 17,KT 18 19 17,AT 4 3 20 17,KT 20 21 17,BT .eql 19 21 22 17,P 17 22 23,M 23 24,AT 5 2 25 24,KT 25 26 24,AT 5 3 27 24,KT 27 28 24,CT 401 [t 26,t 28,(.c (.fn (.func 352) [] []))] 29 24,P 24 29 30,M 30 4]<|
 .ret):=cu
def T4: Of aM 353 8 [.cell 2 true 2] (r [X 0 1,J Zg 2]<|
 r [A 13 1 3,K 3 4,A 14 1 5,K 5 6,gU Zg [(0,1,t 4),(1,1,t 6)] 7,W 2 2 7]<|
 .ret):=cu
def Kz: Of aM 354 19 [.tmp 2] (r [gF 2]<|
 gR [M 0 5,S 5 6,D .gtr 6 40 7] 7 [gF 2]<|
 q (r [M 0 8,cg (.Dm (t 8)) 9]<|
 .block 0 (.loop (r [cg (.Dn (t 9)) 10,E 10 0 11]<|
 q (c 11 k (.exit 0))<|
 .block 1 (r [E 10 2 12,M 12 4]<|
 r [M 4 13,cg (.bin .lss (t 13) (.c (.int .i32 32))) 14,M 14 15,MF 4 16 15,⟨.bin .gtr (t 16) (.c (.int .i32 126)),(some 17),some (15,false)⟩,O 15 17 18]<|
 c 18 (r [gF 2]<|
 .ret) k))))<|
 r [gT 2]<|
 .ret):=cu
def xn: Of aM 355 19 [.tmp 4] (r [V z0 4]<|
 q (r [M 0 6,N 6 7,V z0 8]<|
 .block 0 (.loop (r [B .lss 8 7 9]<|
 q (c 9 k (.exit 0))<|
 q (.block 1 (r [M 8 10,M 10 5]<|
 r [M 1 11,M 0 12,M 5 13,I true 6 12 13 14,L 6 14 15,cg (.call false (t 11) [t 15]) 16]<|
 c 16 (r [M 5 17,M 17 4]<|
 .ret) k))<|
 R [D .add 8 1 18,M 18 8])))<|
 r [V (i6 (-1)) 4]<|
 .ret):=cu
def KA: Of aM 357 22 [.tmp 2] (r [V e0 2]<|
 r [cg (.alloc (some 268) [.ew,.aP]) 3]<|
 r [C 278 [t 3,(.c (.int .u8 34))] 6]<|
 q (r [M 0 7,cg (.Dm (t 7)) 8]<|
 .block 0 (.loop (r [cg (.Dn (t 8)) 9,E 9 0 10]<|
 q (c 10 k (.exit 0))<|
 .block 1 (r [E 9 2 11,M 11 5]<|
 q (r [M 5 12]<|
 .block 2 (q (.block 4 (.block 3 (q (q (r [cg (.bin .eql (t 12) (.c (.int .i32 34))) 14,M 14 13]<|
 c 13 (.exit 3) k)<|
 r [cg (.bin .eql (t 12) (.c (.int .i32 92))) 16,M 16 15]<|
 c 15 (.exit 4) k)<|
 .exit 2)))<|
 r [C 278 [t 3,(.c (.int .u8 92))] 17]<|
 .exit 2))<|
 R [M 5 18,C 403 [t 3,t 18] 19]))))<|
 r [C 278 [t 3,(.c (.int .u8 34))] 20]<|
 r [C 152 [t 3] 21,M 21 2]<|
 .ret):=cu ⟨[],[],[],[3],[],[]⟩
def D5: Of aM 359 14 [.tmp 0] (r [V .aP 0]<|
 r [gU sX [(0,1,gJ 4),(1,1,gS [43]),(2,1,gJ 4)] 1,gU sX [(0,1,gJ 5),(1,1,gS [45]),(2,1,gJ 4)] 2,gU sX [(0,1,gJ 6),(1,1,gS [42]),(2,1,gJ 5)] 3,gU sX [(0,1,gJ 7),(1,1,gS [47]),(2,1,gJ 5)] 4,gU sX [(0,1,gJ 8),(1,1,gS [61]),(2,1,gJ 3)] 5,gU sX [(0,1,gJ 9),(1,1,gS [33,61]),(2,1,gJ 3)] 6,gU sX [(0,1,gJ 10),(1,1,gS [60]),(2,1,gJ 3)] 7,gU sX [(0,1,gJ 11),(1,1,gS [60,61]),(2,1,gJ 3)] 8,gU sX [(0,1,gJ 12),(1,1,gS [62]),(2,1,gJ 3)] 9,gU sX [(0,1,gJ 13),(1,1,gS [62,61]),(2,1,gJ 3)] 10,gU sX [(0,1,gJ 14),(1,1,gS [97,110,100]),(2,1,gJ 2)] 11,gU sX [(0,1,gJ 15),(1,1,gS [111,114]),(2,1,gJ 1)] 12,gB true 3 (.agg sX) 12 [(0,t 1),(1,t 2),(2,t 3),(3,t 4),(4,t 5),(5,t 6),(6,t 7),(7,t 8),(8,t 9),(9,t 10),(10,t 11),(11,t 12)] 13,M 13 0]<|
 .ret):=cu
def OQ: Of aM 390 8 [.tmp 4] (r [X 1 3,V z0 4]<|
 r [M 0 5,cg (.vg (.func 431) [] [t 3]) 6,C 391 [t 5,t 6] 7,M 7 4]<|
 .ret):=cu
def vv: Of aM 391 19 [.tmp 4] (r [V z0 4]<|
 q (r [M 0 6,N 6 7,V z0 8]<|
 .block 0 (.loop (r [B .lss 8 7 9]<|
 q (c 9 k (.exit 0))<|
 q (.block 1 (r [M 8 10,M 10 5]<|
 r [M 1 11,M 0 12,M 5 13,I true 3 12 13 14,L 3 14 15,cg (.call false (t 11) [t 15]) 16]<|
 c 16 (r [M 5 17,M 17 4]<|
 .ret) k))<|
 R [D .add 8 1 18,M 18 8])))<|
 r [V (i6 (-1)) 4]<|
 .ret):=cu
def Ao: Of aM 392 19 [.tmp 4] (r [X 1 3,V z0 4]<|
 q (r [M 0 6,N 6 7,V z0 8]<|
 .block 0 (.loop (r [B .lss 8 7 9]<|
 q (c 9 k (.exit 0))<|
 q (.block 1 (r [M 8 10,M 10 5]<|
 q (.draw [L 3 3 11,M 0 12,M 5 13,I true 3 12 13 14,L 3 14 15,cg (.rW false true [.i,.i,.s] (t 11) (t 15)) 16] [])<|
 c 16 (r [M 5 17,M 17 4]<|
 .ret) k))<|
 R [D .add 8 1 18,M 18 8])))<|
 r [V (i6 (-1)) 4]<|
 .ret):=cu
def Jb: Of aM 393 52 [.tmp 2,.tmp 3,.tmp 4] (r [V .aP 2,V z0 3,V z0 4]<|
 .scope 0 (gR [M 0 9,S 9 10,D .gtr 10 200 11] 11 [V .aP 2,V z0 3,V (i6 5) 4]<|
 r [cg (.nw ⟨true,4⟩) 5]<|
 r [V z0 6]<|
 q (.label 0)<|
 q (.block 0 (.loop (.block 1 (q (gL 2 [M 6 12,M 0 13,S 13 14,B .lss 12 14 15,M 15 16,MT 0 17 16,MT 6 18 16,⟨.mb (t 17) (t 18),(some 19),some (16,true)⟩,⟨.bin .eql (t 19) (.c (.int .u8 32)),(some 20),some (16,true)⟩,P 16 20 21] 21 ((
 .block 3 (R [M 6 22,D .add 22 1 23,M 23 6]))))<|
 q (r [M 6 24,M 0 25,S 25 26,B .eql 24 26 27]<|
 c 27 (.exit 0) k)<|
 r [M 0 29,M 6 30,cg (.vD (t 29) (some (t 30)) none) 31,C 432 [t 31] 32,M 32 28,E 28 0 33,E 28 1 34,J si 7,W 5 7 33,M 34 8]<|
 gR [M 8 35,D .neq 35 0 36] 36 [M 6 37,M 8 38,V .aP 2,M 37 3,M 38 4]<|
 r [M 6 39,A 0 7 40,A 3 40 41,W 1 41 39]<|
 r [M 5 42,A 0 7 43,L 4 43 44,gB true 4 (.agg GI) 1 [(0,t 44)] 45,gA true 4 42 45 46,M 46 5]<|
 R [M 6 47,A 4 7 48,K 48 49,B .add 47 49 50,M 50 6]))))<|
 r [M 5 51,M 51 2,V z0 3,V z0 4]<|
 .ret) (.seq k <|
 q (.block 0 (.loop (.block 1 (q (gL 2 [M 6 12,M 0 13,S 13 14,B .lss 12 14 15,M 15 16,MT 0 17 16,MT 6 18 16,⟨.mb (t 17) (t 18),(some 19),some (16,true)⟩,⟨.bin .eql (t 19) (.c (.int .u8 32)),(some 20),some (16,true)⟩,P 16 20 21] 21 ((
 .block 3 (R [M 6 22,D .add 22 1 23,M 23 6]))))<|
 q (r [M 6 24,M 0 25,S 25 26,B .eql 24 26 27]<|
 c 27 (.exit 0) k)<|
 r [M 0 29,M 6 30,cg (.vD (t 29) (some (t 30)) none) 31,C 432 [t 31] 32,M 32 28,E 28 0 33,E 28 1 34,J si 7,W 5 7 33,M 34 8]<|
 gR [M 8 35,D .neq 35 0 36] 36 [M 6 37,M 8 38,V .aP 2,M 37 3,M 38 4]<|
 r [M 6 39,A 0 7 40,A 3 40 41,W 1 41 39]<|
 r [M 5 42,A 0 7 43,L 4 43 44,gB true 4 (.agg GI) 1 [(0,t 44)] 45,gA true 4 42 45 46,M 46 5]<|
 R [M 6 47,A 4 7 48,K 48 49,B .add 47 49 50,M 50 6]))))<|
 r [M 5 51,M 51 2,V z0 3,V z0 4]<|
 .ret)):=cu ⟨[],[],[(5,⟨true,4⟩)],[],[],[]⟩
def sY: Of aM 394 38 [.tmp 2] (r [V e0 2]<|
 q (q (.draw [M 0 3,Z 3 4,A 1 4 5,K 5 6,M 0 7,Z 7 8,A 0 8 9,K 9 10,N 10 11,B .lss 6 11 12,M 12 13,MT 0 14 13,ZT 14 15 13,AT 0 15 16 13,KT 16 17 13,MT 0 18 13,ZT 18 19 13,AT 1 19 20 13,KT 20 21 13,IT true 4 17 21 22 13,AT 0 22 23 13,KT 23 24 13,DT .eql 24 4 25 13,P 13 25 26] [])<|
 c 26 (q (.draw [M 0 27,Z 27 28,A 0 28 29,K 29 30,M 0 31,Z 31 32,A 1 32 33,K 33 34,I true 4 30 34 35,A 1 35 36,K 36 37,M 37 2] [])<|
 .ret) k)<|
 r [V e0 2]<|
 .ret):=cu
def C2: Of aM 395 32 [.cell 2 true 3] (r [J vL 2]<|
 r [J vL 3]<|
 q (r [M 0 4,Z 4 5,A 0 5 6,A 0 6 7,K 7 8,C 433 [t 8] 9,A 1 3 10,W 1 10 9]<|
 r [A 1 3 11,K 11 12]<|
 c 12 (R [M 0 13,Z 13 14,A 0 14 15,A 1 15 16,⟨.store 1 (t 16) (gJ 2),none,none⟩]) k)<|
 q (.block 0 (.loop (.block 1 (q (.draw [A 2 3 17,K 17 18,M 0 19,cg (.qG (.c (.fn (.func 434) [] [])) [t 19]) 20,gB true 15 (.agg Mb) 1 [(0,t 20)] 21,gA true 15 18 21 22,A 2 3 23,W 1 23 22] [(t 17,t 19)])<|
 r [M 0 24,C 435 [t 24,gS [44]] 25,U 25 26]<|
 c 26 (.exit 0) k))))<|
 q (r [A 1 3 27,K 27 28]<|
 c 28 (R [M 0 29,C 436 [t 29,gS [41]] 30]) k)<|
 r [L 3 3 31,W 3 2 31]<|
 .ret):=cu ⟨[],[],[],[],[20],[]⟩
