/- Part. -/
import Derived.Test.YthakfmmgnjpmdaaGreatDoorW14
import Derived.Test.YthakfmmgnjpmdaaGreatDoorChecked
import Derived.KernelRfl
set_option linter.all false
namespace Go.AM
variable {P:Program}
def OV{n:Int}(h:0<=n)(h':n<=255): dF .u8 n=n:=by
 show IntKind.wrap .u8 n=n;simp[IntKind.wrap,IntKind.bits,IntKind.signed];omega
def L3{n:Int}(h:0<=n)(h':n<18446744073709551616): dF .u64 n=n:=by
 show IntKind.wrap .u64 n=n;simp[IntKind.wrap,IntKind.bits,IntKind.signed];omega
attribute [go_sem] Dx OV L3
attribute [go_sem_proc] Nat.reduceAdd Nat.reduceBEq
attribute [go_sem_proc ↓] reduceIte
def OW{s:List UInt8}{i:Nat}(h:i<s.length): (⟨s.toArray⟩:ByteArray).get! i=s.getD i 0:=by
 simp only[ByteArray.get!];rw[getElem!_pos _ i (by simpa using h),ai,aF h];simp
def G3(s:List UInt8)(pos:Nat): Nat:=(Utf8.decode ⟨s.toArray⟩ pos).1
def decode_ascii{s:List UInt8}{pos:Nat}(h:pos<s.length)(ha:(s.getD pos 0).toNat<128): Utf8.decode ⟨s.toArray⟩ pos=((s.getD pos 0).toNat,1):=by
 unfold Utf8.decode;simp only[eE,OW h];rw[if_pos ha]
def Rp{s:List UInt8}{pos:Nat}(h:pos<s.length)(ha:128<=(s.getD pos 0).toNat): 128<=G3 s pos:=by
 unfold G3 Utf8.decode;simp only[eE,OW h];rw[if_neg (by omega)];have he:128<=Utf8.runeError:=by decide
 split
 ·split<;>first|assumption|exact he
 ·split
  ·split
   ·rename_i h2;simp only[ge_iff_le,aj,decide_eq_true_eq]at h2;exact bW (by omega) h2.1
   ·exact he
  ·split
   ·split
    ·rename_i h2;simp only[ge_iff_le,aj,decide_eq_true_eq]at h2;exact bW (by omega) h2.1
    ·exact he
   ·exact he
noncomputable def qg:BinOp->IntKind->Int->Int->Int:=Classical.choose (⟨nr,rfl⟩:∃ f,f=nr)
def mS: qg=nr:=Classical.choose_spec (⟨nr,rfl⟩:∃ f,f=nr)
section
variable (K:AV->Prop) (k:IntKind) (a b:Int) (s t:List UInt8)
@[go_sem] def ait:iT .and (.int k a) (.int k b) (.mk:Tg K)=K (.int k (qg .and k a b)):=by rw[mS];simp[iT,kp]
@[go_sem] def ajD:iT .or (.int k a) (.int k b) (.mk:Tg K)=K (.int k (qg .or k a b)):=by rw[mS];simp[iT,kp]
@[go_sem] def aiu:iT .xor (.int k a) (.int k b) (.mk:Tg K)=K (.int k (qg .xor k a b)):=by rw[mS];simp[iT,kp]
@[go_sem] def afU:iT .andNot (.int k a) (.int k b) (.mk:Tg K)=K (.int k (qg .andNot k a b)):=by rw[mS];simp[iT,kp]
@[go_sem] def aiv (k':IntKind):iT .shl (.int k a) (.int k' b) (.mk:Tg K)=req (0<=b) (.mk:Tg (K (.int k (dF k (a*2 ^ (Nat.min b.toNat k.bits)))))):=by rw[<-eT];simp[iT,kp]
@[go_sem] def aiw (k':IntKind):iT .shr (.int k a) (.int k' b) (.mk:Tg K)=req (0<=b) (.mk:Tg (K (.int k (a.fdiv (2 ^ (Nat.min b.toNat k.bits)))))):=by rw[<-eT];simp[iT,kp]
@[go_sem] def ajE:unT .neg (.int k a) (.mk:Tg K)=K (.int k (dF k (0-a))):=_root_.id rfl
end
section
variable (σ : ae) (K Kp:AV->ae->Prop)
variable (k k':IntKind) (a b:Int) (s t:List UInt8) (el:El) (xs cs:List AV) (l m lo n off i:Nat) (f:Bool)
def iaO(el:El)(o:Option bj)(l m j:Nat){K:AV->Prop}(_:Tg K): Prop:=match o with
 | some (.cj _ aY xs)=>aY=el/\m=xs.length/\K (.fm el l m j 0)
 | _=>False
@[go_sem] def aeF : eW P (.jT el none (.c (.own el l m lo n)) (.c (.int k a))) σ (.mk : Tg (K, Kp)) = req (0 <= a /\ a < n) (.mk : Tg (iaO el (σ[l]?) l m (lo + a.toNat) (.mk : Tg fun v => K v σ))) := by
  rw[<-eT];simp only[eW,bg.run,AX.ev,iaO,true_and,and_assoc];rfl
@[go_sem] def ajQ (K : AV -> Prop) : iaO el (some (.vec el xs)) l m i (.mk : Tg K) = req (m = xs.length) (.mk : Tg (K (.fm el l m i 0))) := by
  rw[<-eT];simp[iaO]
@[go_sem] def ahi (ln : Nat) : eW P (.zB ⟨false, 1⟩ ln (.c (.agg cs)) (.c (.int k a))) σ (.mk : Tg (K, Kp)) = req (0 <= a /\ a < ln /\ a.toNat + 1 <= cs.length) (.mk : Tg (K (cs.getD a.toNat .undef) σ)) := by
  rw[<-eT];simp[eW,bg.run,AX.ev,and_assoc]
def ldV(el:El)(o:Option bj)(m i off:Nat)(ag:Bool)(n:Nat){K:AV->Prop}(_:Tg K): Prop:=match o with
 | some (.cj _ aZ xs)=>aZ=el/\m=xs.length/\i<xs.length/\partOf el (xs.getD i .undef) off ag n K
 | _=>False
@[go_sem] def agv (ag:Bool) (K:AV->Prop):loadT σ ag n (.fm el l m i off) (.mk:Tg K)=ldV el (σ[l]?) m i off ag n (.mk:Tg K):=_root_.id rfl
@[go_sem] def ajR (ag : Bool) (K : AV -> Prop) : ldV el (some (.vec el xs)) m i off ag n (.mk : Tg K) = req (m = xs.length /\ i < xs.length) (.mk : Tg (xj (off == 0 && n == el.sz && ag == el.ag) el (xs.getD i .undef) off ag n (.mk : Tg K))) := by
  rw[<-eT];simp only[ldV,xj,true_and,and_assoc]
def stV(σ : ae)(el:El)(l:Nat)(o:Option bj)(m i off n:Nat)(v:AV){K:ae->Prop}(_:Tg K): Prop:=v.cells.length=n/\v.cells.all AV.scalar=true/\match o with
 | some (.cj T aZ xs) => aZ = el /\ m = xs.length /\ i < xs.length /\ off + n <= el.sz /\ (el.ag = false -> v.fits el = true) /\
    K (σ.set l (.cj T el (xs.set i (if el.ag then .agg (ff (xs.getD i .undef).cells off v.cells)else v))))
 | _=>False
@[go_sem] def afV (v:AV) (K:ae->Prop):storeT σ n (.fm el l m i off) v (.mk:Tg K)=stV σ el l (σ[l]?) m i off n v (.mk:Tg K):=_root_.id rfl
@[go_sem] def ajS (v : AV) (K : ae -> Prop) : stV σ el l (some (.vec el xs)) m i off n v (.mk : Tg K) = req (v.cells.length = n /\ v.cells.all AV.scalar = true /\ m = xs.length /\ i < xs.length /\ off + n <= el.sz /\ (el.ag = false -> v.fits el = true)) (.mk : Tg (K (σ.set l (.vec el (xs.set i (if el.ag then .agg (ff (xs.getD i .undef).cells off v.cells) else v)))))) := by
  rw[<-eT];simp only[stV,true_and,and_assoc]
def bytesOf(xs:List AV): List UInt8:=xs.map fun a=>match a with | .int _ n=>UInt8.ofNat n.toNat|_=>0
def UN(o:Option bj)(m lo n:Nat){K:AV->Prop}(_:Tg K): Prop:=match o with
 | some (.cj _ el xs)=>el=⟨false,1⟩/\m=xs.length/\ ∃ s:List UInt8,(xs.drop lo).take n=s.map (fun b=>AV.int .u8 b.toNat)/\K (.str s)
 | _=>False
@[go_sem] def agw : eW P (.C9 (.c (.own ⟨false, 1⟩ l m lo n))) σ (.mk : Tg (K, Kp)) = UN (σ[l]?) m lo n (.mk : Tg fun v => K v σ) := by
  simp only[eW,bg.run,AX.ev,gj,UN,true_and];rfl
def UO{K:AV->Prop}{xs:List AV}{m n:Nat}(s:List UInt8)(hx:xs=s.map fun b=>AV.int .u8 b.toNat)(hm:m=xs.length)(hn:n=xs.length)(hk:K (.str s)): UN (some (.vec ⟨false,1⟩ xs)) m 0 n (.mk:Tg K) :=
 ⟨rfl,hm,s,by rw[hn,<-hx];simp,hk⟩
@[go_sem] def adX (t : TypeId) (c : UInt8) : eW P (.app (some t) ⟨false, 1⟩ (.c .aA) (.c (.str (c :: s)))) σ (.mk : Tg (K, Kp)) = req (gN (s.length + 1) ⟨false, 1⟩) (.mk : Tg (K (.own ⟨false, 1⟩ σ.length (s.length + 1) 0 (s.length + 1)) (σ ++ [.cj (some t) ⟨false, 1⟩ ((c :: s).map fun b => .int .u8 b.toNat)]))) := by
  rw[<-eT];have h:((c::s).map fun b=>AV.int .u8 b.toNat).all (fun a=>a.fits ⟨false,1⟩)=true:=by simp[AV.fits]
  simp only[eW,bg.run,AX.ev,pU,gj,true_and,h,List.length_map,List.length_cons,Nat.add_eq_zero_iff,Nat.one_ne_zero,and_false,if_false]
@[go_sem] def acR (T : Option TypeId) : eW P (.app T ⟨false, 1⟩ (.c .aA) (.c (.str []))) σ (.mk : Tg (K, Kp)) = K .aA σ := by
  simp[eW,bg.run,AX.ev,pU,gj]
@[go_sem] def aeG (T : Option TypeId) : eW P (.app T ⟨false, 1⟩ (.c (.own ⟨false, 1⟩ l m lo n)) (.c (.str s))) σ (.mk : Tg (K, Kp)) = DB σ T ⟨false, 1⟩ (σ[l]?) l m lo n (s.map fun b => .int .u8 b.toNat) (.mk : Tg K) := by
  have:((s.map fun b=>AV.int .u8 b.toNat).all fun a=>a.fits ⟨false,1⟩)=true:=by simp[AV.fits]
  simp only[eW,bg.run,AX.ev,pU,gj,DB,true_and,this];rfl
def qC(ng:Bool)(acc:Bool)(ks:List Kd)(xs ys:List AV){K:AV->Prop}(_:Tg K): Prop:=match iB ks xs ys with
 | some c=>K (.bool (if ng then !(acc && c)else acc && c))
 | none=>False
def Z2(acc:Bool)(K:AV->Prop): qC false acc [] [] [] (.mk:Tg K)=K (.bool acc):=by simp[qC,iB]
def Xu(acc:Bool)(K:AV->Prop): qC true acc [] [] [] (.mk:Tg K)=K (.bool (!acc)):=by simp[qC,iB]
def DG(ng acc c:Bool)(kd:Kd)(x y:AV)(ks:List Kd)(xs ys:List AV)(K:AV->Prop)(h:Oc kd x y=some c): qC ng acc (kd::ks) (x::xs) (y::ys) (.mk:Tg K)=qC ng (acc && c) ks xs ys (.mk:Tg K):=by
 simp only[qC,iB,h];cases iB ks xs ys<;>simp[Bool.and_assoc]
attribute [go_sem] Z2 Xu
@[go_sem] def ajT (ng acc:Bool) (ks:List Kd) (xs ys:List AV) (K:AV->Prop):qC ng acc (.i::ks) (.int k a::xs) (.int k b::ys) (.mk:Tg K)=qC ng (acc && (a==b)) ks xs ys (.mk:Tg K):=DG _ _ _ _ _ _ _ _ _ _ (by simp[Oc])
@[go_sem] def ajU (ng acc:Bool) (ks:List Kd) (xs ys:List AV) (K:AV->Prop):qC ng acc (.s::ks) (.str s::xs) (.str t::ys) (.mk:Tg K)=qC ng (acc && (s==t)) ks xs ys (.mk:Tg K):=DG _ _ _ _ _ _ _ _ _ _ rfl
@[go_sem] def ajV (ng acc p q:Bool) (ks:List Kd) (xs ys:List AV) (K:AV->Prop):qC ng acc (.b::ks) (.bool p::xs) (.bool q::ys) (.mk:Tg K)=qC ng (acc && (p==q)) ks xs ys (.mk:Tg K):=DG _ _ _ _ _ _ _ _ _ _ rfl
@[go_sem] def ahj (ng : Bool) (ks : List Kd) (xs ys : List AV) : eW P (.mN ng true ks (.c (.agg xs)) (.c (.agg ys))) σ (.mk : Tg (K, Kp)) = qC ng true ks xs ys (.mk : Tg fun v => K v σ) := by
  rw[ZX];simp only[qC];cases iB ks xs ys<;>simp
@[go_sem] def ahk (ng : Bool) (ks : List Kd) (x y : AV) : eW P (.mN ng false ks (.c x) (.c y)) σ (.mk : Tg (K, Kp)) = qC ng true ks [x] [y] (.mk : Tg fun v => K v σ) := by
  rw[ZY];simp only[qC];cases iB ks [x] [y]<;>simp
def Z3(ng:Bool)(o:Option Bool){K:AV->Prop}(_:Tg K): Prop:=match o with
 | some c=>K (.bool (if ng then !c else c))
 | none=>False
@[go_sem] def ajW (c:Bool) (K:AV->Prop):Z3 false (some c) (.mk:Tg K)=K (.bool c):=_root_.id rfl
@[go_sem] def ajX (c:Bool) (K:AV->Prop):Z3 true (some c) (.mk:Tg K)=K (.bool (!c)):=_root_.id rfl
@[go_sem] def ahl (ng : Bool) (kn : NK) (x y : AV) : eW P (.qV ng kn (.c x) (.c y)) σ (.mk : Tg (K, Kp)) = Z3 ng (qa kn x y) (.mk : Tg fun v => K v σ) := by
  rw[ZW];rfl
end
def Z4{l:Nat}{c r:cY}{Q:AQ}{e:Env}{σ : ae}(h:iJ P c (tQ l (fun _ _=>False) Q) e σ): OQ P (.mk:Tg (l,c,r,Q,e,σ)) :=
 ⟨fun _ _ _=>False,BH (fun ex e σ hq=>by cases ex<;>first|exact hq|exact hq.2.elim) _ _ h,fun _ _ _ h=>h.elim⟩
@[go_sem ↓] def ahm (l:Nat) (J:Env->ae->Prop) (Q:AQ) (e:Env) (σ : ae):tQ l J Q .ret e σ = Q .ret e σ:=_root_.id rfl
@[go_sem ↓] def afW (l:Nat) (J:Env->ae->Prop) (Q:AQ) (v:AV) (e:Env) (σ : ae):tQ l J Q (.panic v) e σ = Q (.panic v) e σ:=_root_.id rfl
@[go_sem] def Ng {α : Type} (τ : List α) (c : α):(τ++[c])[τ.length]? = some c:=by simp
def Z5{ms ms':List Nat}{r e e':Env}(hs:ms'.all (fun t=>ms.contains t)=true)(h:DC ms e e'): DC ms e (L0 ms' r e'):=fun t ht=>by
 simp only[L0];split
 ·rename_i h1;rw[aV]at hs;have:=hs t (by simpa using h1);rw[ht]at this;cases this
 ·exact h t ht
@[go_sem ↓] def aeH (e:Env):qy [] e=True:=_root_.id rfl
@[go_sem ↓] def adY (x y:AX) (r:List (AX × AX)) (e:Env):qy ((x,y)::r) e=(rN (x.ev e) (y.ev e)/\qy r e):=_root_.id rfl
@[go_sem] def ahn (el:El) (x:AV) (o:Nat) (q:AV):rN (.eK el x o) q=True:=by simp[rN,AV.obj]
@[go_sem] def aho (l k a b:Nat):rN (.ref l a) (.ref k b)=(l≠k):=by simp only[rN,AV.obj,Option.some.injEq];exact propext ⟨fun h e=>h l rfl e.symm,fun h x e1 e2=>h (e1.trans e2.symm)⟩
section
variable {α β : Type} (a b c : α) (l m:List α) (f : α-> β) (n:Nat)
def aeI: (a::l)[0]? = some a:=_root_.id rfl
def aeJ: (a::l)[n+1]? = l[n]?:=_root_.id rfl
def aeK: (a::l).set 0 b=b::l:=_root_.id rfl
def aeL: (a::l).set (n+1) b=a::l.set n b:=_root_.id rfl
def acS: (a::l).getD 0 b=a:=_root_.id rfl
def acT: (a::l).getD (n+1) b=l.getD n b:=_root_.id rfl
def aeM: (a::l).length=l.length+1:=_root_.id rfl
def aeN: ([]:List α).length=0:=_root_.id rfl
def acU: l.drop 0=l:=_root_.id rfl
def acV: (a::l).drop (n+1)=l.drop n:=_root_.id rfl
def acW: l.take 0=[]:=_root_.id rfl
def acX: (a::l).take (n+1)=a::l.take n:=_root_.id rfl
def aeO: (a::l).map f=f a::l.map f:=_root_.id rfl
def aeP: ([]:List α).map f=[]:=_root_.id rfl
def aeQ: (a::l)++m=a::(l++m):=_root_.id rfl
def aeR: []++m=m:=_root_.id rfl
def aeS: l++[]=l:=bB l
def aeT: List.replicate 0 a=[]:=_root_.id rfl
def aeU: List.replicate (n+1) a=a::List.replicate n a:=_root_.id rfl
end
def acY(cs:List AV)(i:Nat): ff cs i []=cs:=by cases cs<;>exact _root_.id rfl
def acZ(cs:List AV)(i:Nat)(a:AV)(l:List AV): ff cs i (a::l)=ff (cs.set i a) (i+1) l:=by cases cs<;>exact _root_.id rfl
def Z6(cs:List AV): (AV.agg cs).cells=cs:=_root_.id rfl
def Z7(k:IntKind)(n:Int): (AV.int k n).cells=[.int k n]:=_root_.id rfl
def Z8(b:Bool): (AV.bool b).cells=[.bool b]:=_root_.id rfl
def Z9(s:List UInt8): (AV.str s).cells=[.str s]:=_root_.id rfl
def Z_(f:Bool)(el:El)(xs:List AV): (AV.aN f el xs).cells=[.aN f el xs]:=_root_.id rfl
def aac: AV.aA.cells=[.aA]:=_root_.id rfl
def aad(el:El)(l m lo n:Nat): (AV.own el l m lo n).cells=[.own el l m lo n]:=_root_.id rfl
def aae(l o:Nat): (AV.ref l o).cells=[.ref l o]:=_root_.id rfl
def aeV(l o:Nat): qa .p (.ref l o) .jA=some false:=_root_.id rfl
def aeW: qa .p .jA .jA=some true:=_root_.id rfl
def ac0(n m:Nat)(l:List Nat): (n::l).contains m=(m==n || l.contains m):=List.contains_cons
def ac1(m:Nat): ([]:List Nat).contains m=false:=_root_.id rfl
def aaf: (true==false)=false:=_root_.id rfl
def aag: (false==true)=false:=_root_.id rfl
def getD_map{α : Type}[Inhabited α](f : α->AV)(l:List α)(i:Nat)(h:i<l.length): (l.map f).getD i .undef=f (l.getD i default):=by
 rw[ai,ai,g_,aF h];rfl
section
variable (e:Env) (σ : ae) (K Kp:AV->ae->Prop)
def DH(x:AV)(σ : ae){K:AV->ae->Prop}(_:Tg K): Prop:=match x with
 | .str s=>K (.ref σ.length 0) (σ++[.jo s 0])
 | _=>False
@[go_sem ↓] def aix (x : AX) : bg.run P (.GD x) e σ K Kp = DH (x.ev e) σ (.mk : Tg K) := by
  simp only[bg.run,DH];rfl
@[go_sem] def ajY (s:List UInt8):DH (.str s) σ (.mk:Tg K)=K (.ref σ.length 0) (σ++[.jo s 0]):=_root_.id rfl
def UP(x:AV)(σ : ae){K:AV->ae->Prop}(_:Tg K): Prop:=match x with
 | .ref l 0 => match σ[l]? with
   | some (.jo s pos) =>
     if pos<s.length then K (.bH [.bool true,.int .i64 pos,.int .i32 (Utf8.decode ⟨s.toArray⟩ pos).1]) (σ.set l (.jo s (pos+(Utf8.decode ⟨s.toArray⟩ pos).2)))
     else K (.bH [.bool false]) σ
   | _=>False
 | _=>False
@[go_sem ↓] def aiy (x : AX) : bg.run P (.GF x) e σ K Kp = UP (x.ev e) σ (.mk : Tg K) := by
  simp only[bg.run,UP];rfl
def DI (o : Option bj) (l : Nat) (σ : ae) {K : AV -> ae -> Prop} (_ : Tg K) : Prop := match o with
    | some (.jo s pos) =>
      if pos<s.length then K (.bH [.bool true,.int .i64 pos,.int .i32 (Utf8.decode ⟨s.toArray⟩ pos).1]) (σ.set l (.jo s (pos+(Utf8.decode ⟨s.toArray⟩ pos).2)))
      else K (.bH [.bool false]) σ
    | _=>False
@[go_sem] def ajZ (l : Nat) : UP (.ref l 0) σ (.mk : Tg K) = DI (σ[l]?) l σ (.mk : Tg K) := by
  simp only[UP,DI]
@[go_sem] def aiz (l : Nat) (s : List UInt8) (pos : Nat) (h : s.length <= pos) : DI (some (.jo s pos)) l σ (.mk : Tg K) = K (.bH [.bool false]) σ := by
  simp only[DI];rw[if_neg (by omega)]
def SU (l : Nat) (s : List UInt8) (pos : Nat) (h : pos < s.length) : DI (some (.jo s pos)) l σ (.mk : Tg K) =
    K (.bH [.bool true,.int .i64 pos,.int .i32 (Utf8.decode ⟨s.toArray⟩ pos).1]) (σ.set l (.jo s (pos+(Utf8.decode ⟨s.toArray⟩ pos).2))):=by
 simp only[DI];rw[if_pos h]
@[go_sem] def agx (l:Nat) (s:List UInt8) (pos:Nat) (h:pos<s.length) (ha:(s.getD pos 0).toNat<128):DI (some (.jo s pos)) l σ (.mk:Tg K) =
 K (.bH [.bool true,.int .i64 pos,.int .i32 (s.getD pos 0).toNat]) (σ.set l (.jo s (pos+1))):=by
  rw[SU _ _ _ _ _ h,decode_ascii h ha]
@[go_sem] def ahp (l:Nat) (s:List UInt8) (pos:Nat) (h:pos<s.length) (ha:128<=(s.getD pos 0).toNat):DI (some (.jo s pos)) l σ (.mk:Tg K) =
 K (.bH [.bool true,.int .i64 pos,.int .i32 (G3 s pos:Nat)]) (σ.set l (.jo s (pos+(Utf8.decode ⟨s.toArray⟩ pos).2))):=by
  rw[SU _ _ _ _ _ h];rfl
end
def dO(P:Program)(c:cY)(rs:List pV)(args:List AV)(σ : ae)(R:Out->ae->Prop): Prop :=
 ∀ Q:AQ,(∀ e σ,Q .ret e σ = lK e σ rs fun vs=>R (.ret (oneOf vs)) σ)->(∀ e σ,Q .normal e σ = lK e σ rs fun vs=>R (.ret (oneOf vs)) σ)->(∀ v e σ,Q (.panic v) e σ = R (.panic v) σ)->iJ P c Q (kC args) σ
def dO.go{c:cY}{rs:List pV}{args:List AV}{σ : ae}{R:Out->ae->Prop}(h:dO P c rs args σ R): iJ P c (GY rs R) (kC args) σ :=
 h _ (fun _ _=>rfl) (fun _ _=>rfl) (fun _ _ _=>rfl)
@[go_sem ↓] def ahq (e:Env) (σ : ae) (t:Nat) (ag:Bool) (n:Nat) (r:List pV) (K:List AV->Prop):lK e σ (.cell t ag n::r) K=loadT σ ag n (e t) (.mk:Tg fun v=>j8 v (.mk:Tg fun v=>lK e σ r fun vs=>K (v::vs))):=_root_.id rfl
def ab7{p K:Prop}(h:p)(hk:K): req p (.mk:Tg K):=⟨h,fun _=>hk⟩
def bx{σ : ae}{a b:AV}{vs rs:List AV}(h:a::b::vs=rs)(hp:AV.cg rs=true): ∃ r0,Out.ret (oneOf (a::b::vs))=Out.ret r0/\View σ r0 (.bH rs):=⟨_,rfl,by subst h;exact .refl _ hp⟩
def y_{σ : ae}{v r:AV}(hv:View σ v r): ∃ r0,Out.ret (oneOf [v])=Out.ret r0/\View σ r0 r:=⟨_,rfl,hv⟩
def fD{σ : ae}{a b:AV}{vs rs:List AV}(hv:bN σ (a::b::vs) rs): ∃ r0,Out.ret (oneOf (a::b::vs))=Out.ret r0/\View σ r0 (.bH rs):=⟨_,rfl,View.aip hv⟩
def View.eqv{σ : ae}{a b:AV}(h:a=b)(hp:b.dz=true): View σ a b:=by subst h;exact .refl _ hp
def aU{σ : ae}{v r:AV}(h:v=r)(hp:r.dz=true): ∃ r0,Out.ret (oneOf [v])=Out.ret r0/\View σ r0 r:=⟨_,rfl,.eqv h hp⟩
def IE {r : AV} {sR ds : List AV} {τ : ae} (hv : r = .bH []) (hd : bN (.dead :: τ) sR ds) :
    ∃ r0 St OX,Out.ret (oneOf [])=Out.ret r0/\bj.cells sR:: τ = bj.cells St::OX/\View (.dead::OX) r0 r/\bN (.dead::OX) St ds:=⟨_,_,_,rfl,rfl,.eqv hv.symm (by subst hv;rfl),hd⟩
end Go.AM
namespace Go.AM
variable {P:Program}
@[go_sem ↓] def aiA (K Kp:AV->ae->Prop) (r:AV) (σ : ae):OR K Kp (.ret r) σ = K r σ:=_root_.id rfl
section
variable {σ : ae} {K Kp:AV->ae->Prop} {l m n lo off:Nat} {cs xs:List AV} {el:El} {T:Option TypeId}
def agy(h : σ[l]? = some (.bM T cs))(hlt:off<cs.length)(hk:K (.ref l off) σ): eW P (.HX (.c (.ref l off))) σ (.mk:Tg (K,Kp)):=aez _ _ _ _ _ _ h hlt hk
def agz{t u:TypeId}(h : σ[l]? = some (.bM (some t) cs))(hlt:liesAt P P.depth t (cs.length / P.cellsOf t) off u 1=true)(hk:K (.ref l off) σ): eW P (.HY u (.c (.ref l off))) σ (.mk:Tg (K,Kp)):=aeA _ _ _ _ _ _ h hlt hk
def agA{ng:Bool}(h : σ[l]? = some (.bM T cs))(hk:K (.bool ng.not) σ): eW P (.FW ng (.c (.ref l off)) (.c (.ref l off))) σ (.mk:Tg (K,Kp)):=aeB _ _ _ _ _ _ ng h hk
def agB(h : σ[l]? = some (.cj T el xs))(hm:m=xs.length)(hn:0<n)(hk:K (.fm el l m lo 0) σ): eW P (.Cx el (.c (.own el l m lo n))) σ (.mk:Tg (K,Kp)):=UJ _ _ _ _ _ _ _ _ h hm hn hk
def ac2(el:El): eW P (.Cx el (.c .aA)) σ (.mk:Tg (K,Kp))=K .jA σ:=_root_.id rfl
def aah(t:TypeId): eW P (.xS t (.c .jA) (.c (.int .i64 0))) σ (.mk:Tg (K,Kp))=K (.str []) σ:=Rn _ _ _ t
attribute [go_sem] ac2 aah
def aeX {t : TypeId} {a : Int} (s : List UInt8) (h : σ[l]? = some (.cj (some t) ⟨false, 1⟩ xs)) (hm : m = xs.length) (hx : xs = s.map fun b => .int .u8 b.toNat) (h0 : s ≠ []) (h2 : s.length <= 2 ^ 62) (ha : a = (s.length : Int)) (hk : K (.str s) (σ.set l .dead)) :
    eW P (.xS t (.c (.fm ⟨false,1⟩ l m 0 0)) (.c (.int .i64 a))) σ (.mk:Tg (K,Kp)):=Ro _ _ _ _ _ _ s h hm hx h0 h2 ha hk
def ac3 {g : FuncId} {v : AV} (h : ∃ fn, P.funcs[g]? = some fn ∧ (fn.name == "runtime.NumGoroutine") = false ∧ fn.body.isNone = true ∧ Extern.findNext fn = none ∧ Extern.find fn = some Extern.AbiNoEscape.same) (hk : K v σ) : Xn P g v σ (.mk : Tg K) := ⟨h, hk⟩
end
@[go_sem] def aiB (sz off : Nat) (cs : List AV) (K : AV -> Prop) : xj false ⟨true, sz⟩ (.agg cs) off false 1 (.mk : Tg K) = req (off + 1 <= sz) (.mk : Tg (K (cs.getD off .undef))) := by
  rw[acL _ _ _ _ _ (by simp)];simp[req]
section
variable {α : Type} (ρ τ : List α) (c d x : α)
@[go_sem] def ajF:(ρ++c:: τ)[ρ.length]? = some c:=by simp
@[go_sem] def ajG:(ρ++c:: τ).set ρ.length x = ρ++x:: τ:=by simp
end
def ab8(P:Program)(n:FuncId)(args:List AV)(σ : ae){K:AV->ae->Prop}(_:Tg K): Prop:=Fa P n args σ K
def ab9(P:Program)(f:AV)(args:List AV)(σ : ae){K:AV->ae->Prop}(_:Tg K): Prop:=match f with
 | .fn (.func n) [] []=>Fa P n args σ K
 | _=>False
@[go_sem ↓] def aiC {e:Env} {σ : ae} {K Kp:AV->ae->Prop} (f:AX) (args:List AX):bg.run P (.sD f args) e σ K Kp=ab9 P (f.ev e) (args.map (AX.ev e)) σ (.mk:Tg K):=_root_.id rfl
@[go_sem] def ajH {σ : ae} {K:AV->ae->Prop} (n:FuncId) (args:List AV):ab9 P (.fn (.func n) [] []) args σ (.mk:Tg K)=ab8 P n args σ (.mk:Tg K):=_root_.id rfl
def Kh {n : FuncId} {k off : Nat} {args cs ds : List AV} {r : AV} {σ : ae} {K : AV -> ae -> Prop} (h : dh P n off args cs ds r) (gO : σ[k]? = some (.cells cs)) (hk : j8 r (.mk : Tg fun r => vF (σ.set k (.cells ds)) (.mk : Tg fun σ => K r σ))) :
    ab8 P n (.ref k off::args) σ (.mk:Tg K):=⟨k,_,.cells ds,r,rfl,gO,trivial,h σ k gO,hk⟩
def Ki {n : FuncId} {k off : Nat} {args cs : List AV} {r : AV} {σ : ae} {K Kp : AV -> ae -> Prop} (h : dh P n off args cs cs r) (gO : σ[k]? = some (.cells cs)) (hk : j8 r (.mk : Tg fun r => K r σ)) :
    BG P n (.ref k off::args) σ (.mk:Tg (K,Kp)):=by
 have same:∀ s:ae,s[k]? = some (.cells cs)->s.set k (.cells cs)=s:=fun s hs=>by
  refine List.ext_getElem? fun i=>?_;by_cases hi:k=i
  ·subst hi;rw[tT hs,hs]
  ·rw[aI hi]
 refine⟨r,fun τ=>?_,hk⟩;have hs:(σ++ τ)[k]? = some (.cells cs):=by rw[aJ (aK.1 gO).1];exact gO
 exact(h (σ++ τ) k hs).mono fun o s ⟨h1,h2⟩=>⟨h1,h2.trans (same _ hs)⟩
attribute [go_sem] Int.tdiv_eq_ediv_of_nonneg Int.tmod_eq_emod_of_nonneg aeI aeJ aeK aeL acS acT aeM aeN acU acV acW acX aeO aeP aeQ aeR aeS aeT aeU acY acZ Z6 Z7 Z8 Z9 Z_ aac aad aae aeV aeW ac0 ac1 aaf aag getD_map Bool.or_false Bool.or_true Bool.true_or Bool.false_or beq_self_eq_true Bool.and_true Bool.true_and Bool.and_false Bool.false_and Int.toNat_natCast Int.toNat_natCast_add_one Int.toNat_zero List.length_map List.length_append Nat.zero_add Bool.not_true Bool.not_false
attribute [simp] AV.fits AV.scalar AV.cells qy rN AV.obj gN
end Go.AM
namespace Go.Proofs.YthakfmmgnjpmdaaGreatDoor
open Go.AM
set_option maxRecDepth 10000
end Go.Proofs.YthakfmmgnjpmdaaGreatDoor
namespace Go.AM.W
structure Of (P:Program) (n:FuncId) (k:Nat) (rs:List pV) (b:cY):Prop where
 go:∀ {az:List AV} {σ : ae} {R:Out->ae->Prop},dO P b rs az σ R->(hl:az.length<=k:=by simp)->dZ P n az σ R
def rE {P : Program} {n : FuncId} {fn : Func} {k : Nat} {rs : List pV} {b : cY} (h : Hints) (hf : P.funcs[n]? = some fn) (hn : (fn.name == "runtime.NumGoroutine") = false := by kernel_rfl) (hc : Bz P h fn = some ⟨k, rs, b⟩ := by kernel_rfl) : Of P n k rs b := ⟨fun hw hl => dZ.of_wp hf hn hc hl hw.go⟩
def bG {P : Program} {n : FuncId} {fn : Func} {k : Nat} {rs : List pV} {b : cY} (hf : P.funcs[n]? = some fn) (hn : (fn.name == "runtime.NumGoroutine") = false := by kernel_rfl) (hc : Bz P {} fn = some ⟨k, rs, b⟩ := by kernel_rfl) : Of P n k rs b := rE {} hf hn hc
def _root_.Go.AM.aR{P:Program}{f:FuncId}{k:Nat}{rs:List pV}{c:cY}{az:List AV}{r:AV}(ho:Of P f k rs c)(h:∀ Q:AQ,(∀ e σ,Q .ret e σ = lK e σ rs fun vs=> ∃ r0,Out.ret (oneOf vs) = .ret r0/\View σ r0 r)->(∀ e σ,Q .normal e σ = lK e σ rs fun vs=> ∃ r0,Out.ret (oneOf vs) = .ret r0/\View σ r0 r)->(∀ v e σ,Q (.panic v) e σ = ∃ r0,Out.panic v = .ret r0/\View σ r0 r)->iJ P c Q (kC az) [])(hp:AV.cg az=true:=by first|rfl|(simp;done)|(simp[AV.dz,AV.cg];done))(hl:az.length<=k:=by simp): aM P f az r:=aM.UL (ho.go h hl) hp
abbrev t(n:Nat): AX:= .t n
abbrev gB(b:Bool)(n:Nat)(z:AV)(m:Nat)(l:List (Nat × AX))(d:Nat): cH:=⟨.mc false ⟨b,n⟩ z m l,some d,none⟩
abbrev gU(z:List AV)(l:List (Nat × Nat × AX))(d:Nat): cH:=⟨.build z l,some d,none⟩
abbrev gI(b:Bool)(n a:Nat)(k:Int)(d:Nat): cH:=⟨.jT ⟨b,n⟩ none (.t a) (.c (.int .i64 k)),some d,none⟩
abbrev gA(b:Bool)(n x y:Nat)(d:Nat): cH:=⟨.app none ⟨b,n⟩ (.t x) (.t y),some d,none⟩
abbrev gF(d:Nat): cH:=⟨.mv (.c (.bool false)),some d,none⟩
abbrev gT(d:Nat): cH:=⟨.mv (.c (.bool true)),some d,none⟩
abbrev gJ(n:Int): AX:= .c (.int .i64 n)
abbrev gS(s:List UInt8): AX:= .c (.str s)
abbrev gR(a:List cH)(n:Nat)(b:List cH)(x:cY): cY:= .seq (.seq (.region a) (.cond (.t n) (.seq (.region b) .ret) .skip)) x
abbrev gL(i:Nat)(a:List cH)(n:Nat)(x:cY): cY:= .block i (.loop (.seq (.seq (.region a) (.cond (.t n) .skip (.exit i))) x))
abbrev bA(o:bg)(d:Nat): cH:=⟨o,some d,none⟩
abbrev i6(n:Int): AV:= .int .i64 n
abbrev z0: AV:= .int .i64 0
abbrev e0: AV:= .str []
abbrev R(l:List cH): cY:= .region l
abbrev r(l:List cH)(b:cY): cY:= .seq (.region l) b
abbrev q(a b:cY): cY:= .seq a b
abbrev c(n:Nat)(a b:cY): cY:= .cond (.t n) a b
abbrev k: cY:= .skip
abbrev M(a:Nat)(d:Nat): cH:=⟨.mv (.t a),some d,none⟩
abbrev MT(a:Nat)(d k:Nat): cH:=⟨.mv (.t a),some d,some (k,true)⟩
abbrev MF(a:Nat)(d k:Nat): cH:=⟨.mv (.t a),some d,some (k,false)⟩
abbrev V(a:AV)(d:Nat): cH:=⟨.mv (.c a),some d,none⟩
abbrev L(n a:Nat)(d:Nat): cH:=⟨.load true n (.t a),some d,none⟩
abbrev LT(n a:Nat)(d k:Nat): cH:=⟨.load true n (.t a),some d,some (k,true)⟩
abbrev LF(n a:Nat)(d k:Nat): cH:=⟨.load true n (.t a),some d,some (k,false)⟩
abbrev K(a:Nat)(d:Nat): cH:=⟨.load false 1 (.t a),some d,none⟩
abbrev KT(a:Nat)(d k:Nat): cH:=⟨.load false 1 (.t a),some d,some (k,true)⟩
abbrev KF(a:Nat)(d k:Nat): cH:=⟨.load false 1 (.t a),some d,some (k,false)⟩
abbrev B(o:BinOp)(a b:Nat)(d:Nat): cH:=⟨.bin o (.t a) (.t b),some d,none⟩
abbrev BT(o:BinOp)(a b:Nat)(d k:Nat): cH:=⟨.bin o (.t a) (.t b),some d,some (k,true)⟩
abbrev BF(o:BinOp)(a b:Nat)(d k:Nat): cH:=⟨.bin o (.t a) (.t b),some d,some (k,false)⟩
abbrev D(o:BinOp)(a:Nat)(b:Int)(d:Nat): cH:=⟨.bin o (.t a) (.c (.int .i64 b)),some d,none⟩
abbrev DT(o:BinOp)(a:Nat)(b:Int)(d k:Nat): cH:=⟨.bin o (.t a) (.c (.int .i64 b)),some d,some (k,true)⟩
abbrev DF(o:BinOp)(a:Nat)(b:Int)(d k:Nat): cH:=⟨.bin o (.t a) (.c (.int .i64 b)),some d,some (k,false)⟩
abbrev A(n a:Nat)(d:Nat): cH:=⟨.qU n (.t a),some d,none⟩
abbrev AT(n a:Nat)(d k:Nat): cH:=⟨.qU n (.t a),some d,some (k,true)⟩
abbrev AF(n a:Nat)(d k:Nat): cH:=⟨.qU n (.t a),some d,some (k,false)⟩
abbrev P(a b:Nat)(d:Nat): cH:=⟨.pick (.t a) (.t b) (.c (.bool false)),some d,none⟩
abbrev PT(a b:Nat)(d k:Nat): cH:=⟨.pick (.t a) (.t b) (.c (.bool false)),some d,some (k,true)⟩
abbrev PF(a b:Nat)(d k:Nat): cH:=⟨.pick (.t a) (.t b) (.c (.bool false)),some d,some (k,false)⟩
abbrev O(a b:Nat)(d:Nat): cH:=⟨.pick (.t a) (.c (.bool true)) (.t b),some d,none⟩
abbrev OT(a b:Nat)(d k:Nat): cH:=⟨.pick (.t a) (.c (.bool true)) (.t b),some d,some (k,true)⟩
abbrev S(a:Nat)(d:Nat): cH:=⟨.len true (.t a),some d,none⟩
abbrev ST(a:Nat)(d k:Nat): cH:=⟨.len true (.t a),some d,some (k,true)⟩
abbrev N(a:Nat)(d:Nat): cH:=⟨.len false (.t a),some d,none⟩
abbrev NT(a:Nat)(d k:Nat): cH:=⟨.len false (.t a),some d,some (k,true)⟩
abbrev NF(a:Nat)(d k:Nat): cH:=⟨.len false (.t a),some d,some (k,false)⟩
abbrev I(b:Bool)(n a c:Nat)(d:Nat): cH:=⟨.jT ⟨b,n⟩ none (.t a) (.t c),some d,none⟩
abbrev IT(b:Bool)(n a c:Nat)(d k:Nat): cH:=⟨.jT ⟨b,n⟩ none (.t a) (.t c),some d,some (k,true)⟩
abbrev IF(b:Bool)(n a c:Nat)(d k:Nat): cH:=⟨.jT ⟨b,n⟩ none (.t a) (.t c),some d,some (k,false)⟩
abbrev E(a n:Nat)(d:Nat): cH:=⟨.ext (.t a) n,some d,none⟩
abbrev ET(a n:Nat)(d k:Nat): cH:=⟨.ext (.t a) n,some d,some (k,true)⟩
abbrev Z(a:Nat)(d:Nat): cH:=⟨.sj (.t a),some d,none⟩
abbrev ZT(a:Nat)(d k:Nat): cH:=⟨.sj (.t a),some d,some (k,true)⟩
abbrev ZF(a:Nat)(d k:Nat): cH:=⟨.sj (.t a),some d,some (k,false)⟩
abbrev X(a:Nat)(d:Nat): cH:=⟨.box (.t a),some d,none⟩
abbrev U(a:Nat)(d:Nat): cH:=⟨.un .not (.t a),some d,none⟩
abbrev UT(a:Nat)(d k:Nat): cH:=⟨.un .not (.t a),some d,some (k,true)⟩
abbrev UF(a:Nat)(d k:Nat): cH:=⟨.un .not (.t a),some d,some (k,false)⟩
abbrev J(l:List AV)(d:Nat): cH:=⟨.alloc none l,some d,none⟩
abbrev C(f:FuncId)(l:List AX)(d:Nat): cH:=⟨.call false (.c (.fn (.func f) [] [])) l,some d,none⟩
abbrev CT(f:FuncId)(l:List AX)(d k:Nat): cH:=⟨.call false (.c (.fn (.func f) [] [])) l,some d,some (k,true)⟩
abbrev CF(f:FuncId)(l:List AX)(d k:Nat): cH:=⟨.call false (.c (.fn (.func f) [] [])) l,some d,some (k,false)⟩
abbrev Q(f:FuncId)(l:List AX)(d:Nat): cH:=⟨.call true (.c (.fn (.func f) [] [])) l,some d,none⟩
abbrev QT(f:FuncId)(l:List AX)(d k:Nat): cH:=⟨.call true (.c (.fn (.func f) [] [])) l,some d,some (k,true)⟩
abbrev QF(f:FuncId)(l:List AX)(d k:Nat): cH:=⟨.call true (.c (.fn (.func f) [] [])) l,some d,some (k,false)⟩
abbrev W(n a b:Nat): cH:=⟨.store n (.t a) (.t b),none,none⟩
