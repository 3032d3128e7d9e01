/- Part. -/
import Derived.Test.YthakfmmgnjpmdaaGreatW11
import Derived.Test.YthakfmmgnjpmdaaGreatChecked
import Derived.KernelRfl
set_option linter.all false
namespace Go.Proofs
noncomputable abbrev aD:=Tryz.prog
end Go.Proofs
namespace Go.AM
variable {P:Program}
def Pc{n:Int}(h:0<=n)(h':n<=255): de .u8 n=n:=by
 show IntKind.wrap .u8 n=n;simp[IntKind.wrap,IntKind.bits,IntKind.signed];omega
def Ml{n:Int}(h:0<=n)(h':n<18446744073709551616): de .u64 n=n:=by
 show IntKind.wrap .u64 n=n;simp[IntKind.wrap,IntKind.bits,IntKind.signed];omega
attribute [go_sem] sK Pc Ml
attribute [go_sem_proc] Nat.reduceAdd Nat.reduceBEq
attribute [go_sem_proc ↓] reduceIte
def Pd{s:List UInt8}{i:Nat}(h:i<s.length): (⟨s.toArray⟩:ByteArray).get! i=s.getD i 0:=by
 simp only[ByteArray.get!];rw[getElem!_pos _ i (by simpa using h),aB,aE h];simp
def G2(s:List UInt8)(pos:Nat): Nat:=(Utf8.decode ⟨s.toArray⟩ pos).1
def decode_ascii{s:List UInt8}{pos:Nat}(h:pos<s.length)(ha:(s.getD pos 0).toNat<128): Utf8.decode ⟨s.toArray⟩ pos=((s.getD pos 0).toNat,1):=by
 unfold Utf8.decode;simp only[gC,Pd h];rw[if_pos ha]
def Rr{s:List UInt8}{pos:Nat}(h:pos<s.length)(ha:128<=(s.getD pos 0).toNat): 128<=G2 s pos:=by
 unfold G2 Utf8.decode;simp only[gC,Pd h];rw[if_neg (by omega)];have he:128<=Utf8.runeError:=by decide
 split
 ·split<;>first|assumption|exact he
 ·split
  ·split
   ·rename_i h2;simp only[ge_iff_le,aC,decide_eq_true_eq]at h2;exact c_ (by omega) h2.1
   ·exact he
  ·split
   ·split
    ·rename_i h2;simp only[ge_iff_le,aC,decide_eq_true_eq]at h2;exact c_ (by omega) h2.1
    ·exact he
   ·exact he
noncomputable def pQ:BinOp->IntKind->Int->Int->Int:=Classical.choose (⟨nA,rfl⟩:∃ f,f=nA)
def mL: pQ=nA:=Classical.choose_spec (⟨nA,rfl⟩:∃ f,f=nA)
section
variable (K:AV->Prop) (k:IntKind) (a b:Int) (s t:List UInt8)
@[go_sem] def af4:gM .and (.int k a) (.int k b) (.mk:Tg K)=K (.int k (pQ .and k a b)):=by rw[mL];simp[gM,jO]
@[go_sem] def aha:gM .or (.int k a) (.int k b) (.mk:Tg K)=K (.int k (pQ .or k a b)):=by rw[mL];simp[gM,jO]
@[go_sem] def af5:gM .xor (.int k a) (.int k b) (.mk:Tg K)=K (.int k (pQ .xor k a b)):=by rw[mL];simp[gM,jO]
@[go_sem] def adO:gM .andNot (.int k a) (.int k b) (.mk:Tg K)=K (.int k (pQ .andNot k a b)):=by rw[mL];simp[gM,jO]
@[go_sem] def af6 (k':IntKind):gM .shl (.int k a) (.int k' b) (.mk:Tg K)=req (0<=b) (.mk:Tg (K (.int k (de k (a*2 ^ (Nat.min b.toNat k.bits)))))):=by rw[<-ey];simp[gM,jO]
@[go_sem] def af7 (k':IntKind):gM .shr (.int k a) (.int k' b) (.mk:Tg K)=req (0<=b) (.mk:Tg (K (.int k (a.fdiv (2 ^ (Nat.min b.toNat k.bits)))))):=by rw[<-ey];simp[gM,jO]
@[go_sem] def ae3:gM .lss (.str s) (.str t) (.mk:Tg K)=K (.bool (Op.bytesLess s t)):=by simp[gM,jO]
@[go_sem] def ahb:unT .neg (.int k a) (.mk:Tg K)=K (.int k (de k (0-a))):=_root_.id rfl
end
section
variable (σ : ae) (K Kp:AV->ae->Prop)
variable (k k':IntKind) (a b:Int) (s t:List UInt8) (el:El) (xs cs:List AV) (l m lo n off i:Nat) (f:Bool)
def iaO(el:El)(o:Option bE)(l m j:Nat){K:AV->Prop}(_:Tg K): Prop:=match o with
 | some (.dW _ dQ xs)=>dQ=el/\m=xs.length/\K (.fR el l m j 0)
 | _=>False
@[go_sem] def acI : gD P (.fh el none (.c (.own el l m lo n)) (.c (.int k a))) σ (.mk : Tg (K, Kp)) = req (0 <= a /\ a < n) (.mk : Tg (iaO el (σ[l]?) l m (lo + a.toNat) (.mk : Tg fun v => K v σ))) := by
  rw[<-ey];simp only[gD,bA.run,AX.ev,iaO,true_and,and_assoc];rfl
@[go_sem] def ahn (K : AV -> Prop) : iaO el (some (.vec el xs)) l m i (.mk : Tg K) = req (m = xs.length) (.mk : Tg (K (.fR el l m i 0))) := by
  rw[<-ey];simp[iaO]
def ldV(el:El)(o:Option bE)(m i off:Nat)(ag:Bool)(n:Nat){K:AV->Prop}(_:Tg K): Prop:=match o with
 | some (.dW _ bB xs)=>bB=el/\m=xs.length/\i<xs.length/\partOf el (xs.getD i .undef) off ag n K
 | _=>False
@[go_sem] def aen (ag:Bool) (K:AV->Prop):loadT σ ag n (.fR el l m i off) (.mk:Tg K)=ldV el (σ[l]?) m i off ag n (.mk:Tg K):=_root_.id rfl
@[go_sem] def aho (ag : Bool) (K : AV -> Prop) : ldV el (some (.vec el xs)) m i off ag n (.mk : Tg K) = req (m = xs.length /\ i < xs.length) (.mk : Tg (wv (off == 0 && n == el.sz && ag == el.ag) el (xs.getD i .undef) off ag n (.mk : Tg K))) := by
  rw[<-ey];simp only[ldV,wv,true_and,and_assoc]
def stV(σ : ae)(el:El)(l:Nat)(o:Option bE)(m i off n:Nat)(v:AV){K:ae->Prop}(_:Tg K): Prop:=v.cells.length=n/\v.cells.all AV.scalar=true/\match o with
 | some (.dW T bB xs) => bB = el /\ m = xs.length /\ i < xs.length /\ off + n <= el.sz /\ (el.ag = false -> v.fits el = true) /\
    K (σ.set l (.dW T el (xs.set i (if el.ag then .agg (fy (xs.getD i .undef).cells off v.cells)else v))))
 | _=>False
@[go_sem] def adP (v:AV) (K:ae->Prop):storeT σ n (.fR el l m i off) v (.mk:Tg K)=stV σ el l (σ[l]?) m i off n v (.mk:Tg K):=_root_.id rfl
@[go_sem] def ahp (v : AV) (K : ae -> Prop) : stV σ el l (some (.vec el xs)) m i off n v (.mk : Tg K) = req (v.cells.length = n /\ v.cells.all AV.scalar = true /\ m = xs.length /\ i < xs.length /\ off + n <= el.sz /\ (el.ag = false -> v.fits el = true)) (.mk : Tg (K (σ.set l (.vec el (xs.set i (if el.ag then .agg (fy (xs.getD i .undef).cells off v.cells) else v)))))) := by
  rw[<-ey];simp only[stV,true_and,and_assoc]
def Uz(o:Option bE)(m lo n:Nat){K:AV->Prop}(_:Tg K): Prop:=match o with
 | some (.dW _ el xs)=>el=⟨false,1⟩/\m=xs.length/\ ∃ s:List UInt8,(xs.drop lo).take n=s.map (fun b=>AV.int .u8 b.toNat)/\K (.str s)
 | _=>False
@[go_sem] def aeo : gD P (.Ch (.c (.own ⟨false, 1⟩ l m lo n))) σ (.mk : Tg (K, Kp)) = Uz (σ[l]?) m lo n (.mk : Tg fun v => K v σ) := by
  simp only[gD,bA.run,AX.ev,ja,Uz,true_and];rfl
def UA{K:AV->Prop}{xs:List AV}{m n:Nat}(s:List UInt8)(hx:xs=s.map fun b=>AV.int .u8 b.toNat)(hm:m=xs.length)(hn:n=xs.length)(hk:K (.str s)): Uz (some (.vec ⟨false,1⟩ xs)) m 0 n (.mk:Tg K) :=
 ⟨rfl,hm,s,by rw[hn,<-hx];simp,hk⟩
def qf(ng:Bool)(acc:Bool)(ks:List Kd)(xs ys:List AV){K:AV->Prop}(_:Tg K): Prop:=match ig ks xs ys with
 | some c=>K (.bool (if ng then !(acc && c)else acc && c))
 | none=>False
def YY(acc:Bool)(K:AV->Prop): qf false acc [] [] [] (.mk:Tg K)=K (.bool acc):=by simp[qf,ig]
def WR(acc:Bool)(K:AV->Prop): qf true acc [] [] [] (.mk:Tg K)=K (.bool (!acc)):=by simp[qf,ig]
def DA(ng acc c:Bool)(kd:Kd)(x y:AV)(ks:List Kd)(xs ys:List AV)(K:AV->Prop)(h:OB kd x y=some c): qf ng acc (kd::ks) (x::xs) (y::ys) (.mk:Tg K)=qf ng (acc && c) ks xs ys (.mk:Tg K):=by
 simp only[qf,ig,h];cases ig ks xs ys<;>simp[Bool.and_assoc]
attribute [go_sem] YY WR
@[go_sem] def ahq (ng acc:Bool) (ks:List Kd) (xs ys:List AV) (K:AV->Prop):qf ng acc (.i::ks) (.int k a::xs) (.int k b::ys) (.mk:Tg K)=qf ng (acc && (a==b)) ks xs ys (.mk:Tg K):=DA _ _ _ _ _ _ _ _ _ _ (by simp[OB])
@[go_sem] def ahr (ng acc:Bool) (ks:List Kd) (xs ys:List AV) (K:AV->Prop):qf ng acc (.s::ks) (.str s::xs) (.str t::ys) (.mk:Tg K)=qf ng (acc && (s==t)) ks xs ys (.mk:Tg K):=DA _ _ _ _ _ _ _ _ _ _ rfl
@[go_sem] def ahs (ng acc p q:Bool) (ks:List Kd) (xs ys:List AV) (K:AV->Prop):qf ng acc (.b::ks) (.bool p::xs) (.bool q::ys) (.mk:Tg K)=qf ng (acc && (p==q)) ks xs ys (.mk:Tg K):=DA _ _ _ _ _ _ _ _ _ _ rfl
@[go_sem] def ae4 (ng : Bool) (ks : List Kd) (xs ys : List AV) : gD P (.jD ng true ks (.c (.agg xs)) (.c (.agg ys))) σ (.mk : Tg (K, Kp)) = qf ng true ks xs ys (.mk : Tg fun v => K v σ) := by
  rw[YT];simp only[qf];cases ig ks xs ys<;>simp
@[go_sem] def ae5 (ng : Bool) (ks : List Kd) (x y : AV) : gD P (.jD ng false ks (.c x) (.c y)) σ (.mk : Tg (K, Kp)) = qf ng true ks [x] [y] (.mk : Tg fun v => K v σ) := by
  rw[YU];simp only[qf];cases ig ks [x] [y]<;>simp
def acJ(ng:Bool)(o:Option Bool){K:AV->Prop}(_:Tg K): Prop:=match o with
 | some c=>K (.bool (if ng then !c else c))
 | none=>False
@[go_sem] def aht (c:Bool) (K:AV->Prop):acJ true (some c) (.mk:Tg K)=K (.bool (!c)):=_root_.id rfl
@[go_sem] def ae6 (ng : Bool) (kn : NK) (x y : AV) : gD P (.rU ng kn (.c x) (.c y)) σ (.mk : Tg (K, Kp)) = acJ ng (rT kn x y) (.mk : Tg fun v => K v σ) := by
  rw[YS];rfl
end
def YZ{l:Nat}{c r:cY}{Q:AQ}{e:Env}{σ : ae}(h:iu P c (uQ l (fun _ _=>False) Q) e σ): O8 P (.mk:Tg (l,c,r,Q,e,σ)) :=
 ⟨fun _ _ _=>False,Bg (fun ex e σ hq=>by cases ex<;>first|exact hq|exact hq.2.elim) _ _ h,fun _ _ _ h=>h.elim⟩
@[go_sem ↓] def ae7 (l:Nat) (J:Env->ae->Prop) (Q:AQ) (e:Env) (σ : ae):uQ l J Q .ret e σ = Q .ret e σ:=_root_.id rfl
def Y0{ms ms':List Nat}{r e e':Env}(hs:ms'.all (fun t=>ms.contains t)=true)(h:Dy ms e e'): Dy ms e (Mk ms' r e'):=fun t ht=>by
 simp only[Mk];split
 ·rename_i h1;rw[bg]at hs;have:=hs t (by simpa using h1);rw[ht]at this;cases this
 ·exact h t ht
def take_one{s:List UInt8}{n i:Nat}(hn:n=1)(hi:i<s.length): List.take n (List.drop i s)=[s.getD i 0]:=by
 subst hn;rw[dm hi,aB,aE hi];rfl
@[go_sem ↓] def acK (e:Env):qb [] e=True:=_root_.id rfl
@[go_sem ↓] def ab1 (x y:AX) (r:List (AX × AX)) (e:Env):qb ((x,y)::r) e=(rA (x.ev e) (y.ev e)/\qb r e):=_root_.id rfl
@[go_sem] def ae8 (el:El) (x:AV) (o:Nat) (q:AV):rA (.eL el x o) q=True:=by simp[rA,AV.obj]
@[go_sem] def ae9 (l k a b:Nat):rA (.ref l a) (.ref k b)=(l≠k):=by simp only[rA,AV.obj,Option.some.injEq];exact propext ⟨fun h e=>h l rfl e.symm,fun h x e1 e2=>h (e1.trans e2.symm)⟩
section
variable {α β : Type} (a b c : α) (l m:List α) (f : α-> β) (n:Nat)
def acL: (a::l)[0]? = some a:=_root_.id rfl
def acM: (a::l)[n+1]? = l[n]?:=_root_.id rfl
def acN: (a::l).set 0 b=b::l:=_root_.id rfl
def acO: (a::l).set (n+1) b=a::l.set n b:=_root_.id rfl
def aa6: (a::l).getD 0 b=a:=_root_.id rfl
def aa7: (a::l).getD (n+1) b=l.getD n b:=_root_.id rfl
def acP: (a::l).length=l.length+1:=_root_.id rfl
def acQ: ([]:List α).length=0:=_root_.id rfl
def aa8: l.drop 0=l:=_root_.id rfl
def aa9: (a::l).drop (n+1)=l.drop n:=_root_.id rfl
def aa_: l.take 0=[]:=_root_.id rfl
def abb: (a::l).take (n+1)=a::l.take n:=_root_.id rfl
def acR: (a::l).map f=f a::l.map f:=_root_.id rfl
def acS: ([]:List α).map f=[]:=_root_.id rfl
def acT: (a::l)++m=a::(l++m):=_root_.id rfl
def acU: []++m=m:=_root_.id rfl
def acV: l++[]=l:=bH l
def acW: List.replicate 0 a=[]:=_root_.id rfl
def acX: List.replicate (n+1) a=a::List.replicate n a:=_root_.id rfl
end
def abd(cs:List AV)(i:Nat): fy cs i []=cs:=by cases cs<;>exact _root_.id rfl
def abe(cs:List AV)(i:Nat)(a:AV)(l:List AV): fy cs i (a::l)=fy (cs.set i a) (i+1) l:=by cases cs<;>exact _root_.id rfl
def Y3(cs:List AV): (AV.agg cs).cells=cs:=_root_.id rfl
def Y4(k:IntKind)(n:Int): (AV.int k n).cells=[.int k n]:=_root_.id rfl
def Y5(b:Bool): (AV.bool b).cells=[.bool b]:=_root_.id rfl
def Y6(s:List UInt8): (AV.str s).cells=[.str s]:=_root_.id rfl
def Y7(f:Bool)(el:El)(xs:List AV): (AV.aG f el xs).cells=[.aG f el xs]:=_root_.id rfl
def Y8(el:El)(l m lo n:Nat): (AV.own el l m lo n).cells=[.own el l m lo n]:=_root_.id rfl
def abf(n m:Nat)(l:List Nat): (n::l).contains m=(m==n || l.contains m):=List.contains_cons
def abg(m:Nat): ([]:List Nat).contains m=false:=_root_.id rfl
def Y9: (true==false)=false:=_root_.id rfl
def Y_: (false==true)=false:=_root_.id rfl
def getD_map{α : Type}[Inhabited α](f : α->AV)(l:List α)(i:Nat)(h:i<l.length): (l.map f).getD i .undef=f (l.getD i default):=by
 rw[aB,aB,List.getElem?_map,aE h];rfl
section
variable (e:Env) (σ : ae) (K Kp:AV->ae->Prop)
def Bh(x:AV)(σ : ae){K:AV->ae->Prop}(_:Tg K): Prop:=match x with
 | .str s=>K (.ref σ.length 0) (σ++[.kS s 0])
 | _=>False
@[go_sem ↓] def af8 (x : AX) : bA.run P (.Kl x) e σ K Kp = Bh (x.ev e) σ (.mk : Tg K) := by
  simp only[bA.run,Bh];rfl
@[go_sem] def ahu (s:List UInt8):Bh (.str s) σ (.mk:Tg K)=K (.ref σ.length 0) (σ++[.kS s 0]):=_root_.id rfl
def UB(x:AV)(σ : ae){K:AV->ae->Prop}(_:Tg K): Prop:=match x with
 | .ref l 0 => match σ[l]? with
   | some (.kS s pos) =>
     if pos<s.length then K (.bJ [.bool true,.int .i64 pos,.int .i32 (Utf8.decode ⟨s.toArray⟩ pos).1]) (σ.set l (.kS s (pos+(Utf8.decode ⟨s.toArray⟩ pos).2)))
     else K (.bJ [.bool false]) σ
   | _=>False
 | _=>False
@[go_sem ↓] def af9 (x : AX) : bA.run P (.Km x) e σ K Kp = UB (x.ev e) σ (.mk : Tg K) := by
  simp only[bA.run,UB];rfl
def DB (o : Option bE) (l : Nat) (σ : ae) {K : AV -> ae -> Prop} (_ : Tg K) : Prop := match o with
    | some (.kS s pos) =>
      if pos<s.length then K (.bJ [.bool true,.int .i64 pos,.int .i32 (Utf8.decode ⟨s.toArray⟩ pos).1]) (σ.set l (.kS s (pos+(Utf8.decode ⟨s.toArray⟩ pos).2)))
      else K (.bJ [.bool false]) σ
    | _=>False
@[go_sem] def ahv (l : Nat) : UB (.ref l 0) σ (.mk : Tg K) = DB (σ[l]?) l σ (.mk : Tg K) := by
  simp only[UB,DB]
@[go_sem] def af_ (l : Nat) (s : List UInt8) (pos : Nat) (h : s.length <= pos) : DB (some (.kS s pos)) l σ (.mk : Tg K) = K (.bJ [.bool false]) σ := by
  simp only[DB];rw[if_neg (by omega)]
def S8 (l : Nat) (s : List UInt8) (pos : Nat) (h : pos < s.length) : DB (some (.kS s pos)) l σ (.mk : Tg K) =
    K (.bJ [.bool true,.int .i64 pos,.int .i32 (Utf8.decode ⟨s.toArray⟩ pos).1]) (σ.set l (.kS s (pos+(Utf8.decode ⟨s.toArray⟩ pos).2))):=by
 simp only[DB];rw[if_pos h]
@[go_sem] def aep (l:Nat) (s:List UInt8) (pos:Nat) (h:pos<s.length) (ha:(s.getD pos 0).toNat<128):DB (some (.kS s pos)) l σ (.mk:Tg K) =
 K (.bJ [.bool true,.int .i64 pos,.int .i32 (s.getD pos 0).toNat]) (σ.set l (.kS s (pos+1))):=by
  rw[S8 _ _ _ _ _ h,decode_ascii h ha]
@[go_sem] def ae_ (l:Nat) (s:List UInt8) (pos:Nat) (h:pos<s.length) (ha:128<=(s.getD pos 0).toNat):DB (some (.kS s pos)) l σ (.mk:Tg K) =
 K (.bJ [.bool true,.int .i64 pos,.int .i32 (G2 s pos:Nat)]) (σ.set l (.kS s (pos+(Utf8.decode ⟨s.toArray⟩ pos).2))):=by
  rw[S8 _ _ _ _ _ h];rfl
end
def cj(P:Program)(c:cY)(rs:List pF)(args:List AV)(σ : ae)(R:Out->ae->Prop): Prop :=
 ∀ Q:AQ,(∀ e σ,Q .ret e σ = lz e σ rs fun vs=>R (.ret (oneOf vs)) σ)->(∀ e σ,Q .normal e σ = lz e σ rs fun vs=>R (.ret (oneOf vs)) σ)->(∀ v e σ,Q (.panic v) e σ = R (.panic v) σ)->iu P c Q (kg args) σ
def cj.go{c:cY}{rs:List pF}{args:List AV}{σ : ae}{R:Out->ae->Prop}(h:cj P c rs args σ R): iu P c (GY rs R) (kg args) σ :=
 h _ (fun _ _=>rfl) (fun _ _=>rfl) (fun _ _ _=>rfl)
@[go_sem ↓] def afa (e:Env) (σ : ae) (t:Nat) (ag:Bool) (n:Nat) (r:List pF) (K:List AV->Prop):lz e σ (.cell t ag n::r) K=loadT σ ag n (e t) (.mk:Tg fun v=>jX v (.mk:Tg fun v=>lz e σ r fun vs=>K (v::vs))):=_root_.id rfl
def aaB{p K:Prop}(h:p)(hk:K): req p (.mk:Tg K):=⟨h,fun _=>hk⟩
def bt{σ : ae}{a b:AV}{vs rs:List AV}(h:a::b::vs=rs)(hp:AV.bG rs=true): ∃ r0,Out.ret (oneOf (a::b::vs))=Out.ret r0/\View σ r0 (.bJ rs):=⟨_,rfl,by subst h;exact .refl _ hp⟩
def uS{σ : ae}{v r:AV}(hv:View σ v r): ∃ r0,Out.ret (oneOf [v])=Out.ret r0/\View σ r0 r:=⟨_,rfl,hv⟩
def cN{σ : ae}{a b:AV}{vs rs:List AV}(hv:bn σ (a::b::vs) rs): ∃ r0,Out.ret (oneOf (a::b::vs))=Out.ret r0/\View σ r0 (.bJ rs):=⟨_,rfl,View.af1 hv⟩
def View.eqv{σ : ae}{a b:AV}(h:a=b)(hp:b.cQ=true): View σ a b:=by subst h;exact .refl _ hp
def aN{σ : ae}{v r:AV}(h:v=r)(hp:r.cQ=true): ∃ r0,Out.ret (oneOf [v])=Out.ret r0/\View σ r0 r:=⟨_,rfl,.eqv h hp⟩
def tj {r : AV} {n6 ds : List AV} {τ : ae} (hv : r = .bJ []) (hd : bn (.dead :: τ) n6 ds) :
    ∃ r0 vW tq,Out.ret (oneOf [])=Out.ret r0/\bE.cells n6:: τ = bE.cells vW::tq/\View (.dead::tq) r0 r/\bn (.dead::tq) vW ds:=⟨_,_,_,rfl,rfl,.eqv hv.symm (by subst hv;rfl),hd⟩
end Go.AM
namespace Go.AM
variable {P:Program}
@[go_sem ↓] def aga (K Kp:AV->ae->Prop) (r:AV) (σ : ae):O9 K Kp (.ret r) σ = K r σ:=_root_.id rfl
section
variable {σ : ae} {K Kp:AV->ae->Prop} {l m n lo off:Nat} {cs xs:List AV} {el:El} {T:Option TypeId}
end
@[go_sem] def agb (sz off : Nat) (cs : List AV) (K : AV -> Prop) : wv false ⟨true, sz⟩ (.agg cs) off false 1 (.mk : Tg K) = req (off + 1 <= sz) (.mk : Tg (K (cs.getD off .undef))) := by
  rw[aa0 _ _ _ _ _ (by simp)];simp[req]
section
variable {α : Type} (ρ τ : List α) (c d x : α)
@[go_sem] def ahc:(ρ++c:: τ)[ρ.length]? = some c:=by simp
@[go_sem] def ahd:(ρ++c:: τ).set ρ.length x = ρ++x:: τ:=by simp
end
def aaC(P:Program)(n:FuncId)(args:List AV)(σ : ae){K:AV->ae->Prop}(_:Tg K): Prop:=E_ P n args σ K
def aaD(P:Program)(f:AV)(args:List AV)(σ : ae){K:AV->ae->Prop}(_:Tg K): Prop:=match f with
 | .fn (.func n) [] []=>E_ P n args σ K
 | _=>False
@[go_sem ↓] def agc {e:Env} {σ : ae} {K Kp:AV->ae->Prop} (f:AX) (args:List AX):bA.run P (.n7 f args) e σ K Kp=aaD P (f.ev e) (args.map (AX.ev e)) σ (.mk:Tg K):=_root_.id rfl
@[go_sem] def ahe {σ : ae} {K:AV->ae->Prop} (n:FuncId) (args:List AV):aaD P (.fn (.func n) [] []) args σ (.mk:Tg K)=aaC P n args σ (.mk:Tg K):=_root_.id rfl
def KD {n : FuncId} {k off : Nat} {args cs ds : List AV} {r : AV} {σ : ae} {K : AV -> ae -> Prop} (h : br P n off args cs ds r) (gE : σ[k]? = some (.cells cs)) (hk : jX r (.mk : Tg fun r => uR (σ.set k (.cells ds)) (.mk : Tg fun σ => K r σ))) :
    aaC P n (.ref k off::args) σ (.mk:Tg K):=⟨k,_,.cells ds,r,rfl,gE,trivial,h σ k gE,hk⟩
def KE {n : FuncId} {k off : Nat} {args cs : List AV} {r : AV} {σ : ae} {K Kp : AV -> ae -> Prop} (h : br P n off args cs cs r) (gE : σ[k]? = some (.cells cs)) (hk : jX r (.mk : Tg fun r => K r σ)) :
    Bf P n (.ref k off::args) σ (.mk:Tg (K,Kp)):=by
 have same:∀ s:ae,s[k]? = some (.cells cs)->s.set k (.cells cs)=s:=fun s hs=>by
  refine List.ext_getElem? fun i=>?_;by_cases hi:k=i
  ·subst hi;rw[td hs,hs]
  ·rw[bP hi]
 refine⟨r,fun τ=>?_,hk⟩;have hs:(σ++ τ)[k]? = some (.cells cs):=by rw[aV (aQ.1 gE).1];exact gE
 exact(h (σ++ τ) k hs).mono fun o s ⟨h1,h2⟩=>⟨h1,h2.trans (same _ hs)⟩
attribute [go_sem] Int.tdiv_eq_ediv_of_nonneg Int.tmod_eq_emod_of_nonneg acL acM acN acO aa6 aa7 acP acQ aa8 aa9 aa_ abb acR acS acT acU acV acW acX abd abe Y3 Y4 Y5 Y6 Y7 Y8 abf abg Y9 Y_ getD_map take_one Bool.or_false Bool.or_true Bool.true_or Bool.false_or beq_self_eq_true Bool.and_true Bool.true_and Bool.and_false Bool.false_and Int.toNat_natCast Int.toNat_natCast_add_one Int.toNat_zero List.length_map List.length_append Nat.zero_add Bool.not_true Bool.not_false
attribute [simp] AV.fits AV.scalar AV.cells qb rA AV.obj jj
end Go.AM
namespace Go.Proofs.YthakfmmgnjpmdaaGreat
open Go.AM
set_option maxRecDepth 10000
end Go.Proofs.YthakfmmgnjpmdaaGreat
namespace Go.AM.W
structure Of (P:Program) (n:FuncId) (k:Nat) (rs:List pF) (b:cY):Prop where
 go:∀ {az:List AV} {σ : ae} {R:Out->ae->Prop},cj P b rs az σ R->(hl:az.length<=k:=by simp)->eU P n az σ R
def pR {P : Program} {n : FuncId} {fn : Func} {k : Nat} {rs : List pF} {b : cY} (h : Hints) (hf : P.funcs[n]? = some fn) (hn : (fn.name == "runtime.NumGoroutine") = false := by kernel_rfl) (hc : Bc P h fn = some ⟨k, rs, b⟩ := by kernel_rfl) : Of P n k rs b := ⟨fun hw hl => eU.of_wp hf hn hc hl hw.go⟩
def bj {P : Program} {n : FuncId} {fn : Func} {k : Nat} {rs : List pF} {b : cY} (hf : P.funcs[n]? = some fn) (hn : (fn.name == "runtime.NumGoroutine") = false := by kernel_rfl) (hc : Bc P {} fn = some ⟨k, rs, b⟩ := by kernel_rfl) : Of P n k rs b := pR {} hf hn hc
def _root_.Go.AM.aK{P:Program}{f:FuncId}{k:Nat}{rs:List pF}{c:cY}{az:List AV}{r:AV}(ho:Of P f k rs c)(h:∀ Q:AQ,(∀ e σ,Q .ret e σ = lz e σ rs fun vs=> ∃ r0,Out.ret (oneOf vs) = .ret r0/\View σ r0 r)->(∀ e σ,Q .normal e σ = lz e σ rs fun vs=> ∃ r0,Out.ret (oneOf vs) = .ret r0/\View σ r0 r)->(∀ v e σ,Q (.panic v) e σ = ∃ r0,Out.panic v = .ret r0/\View σ r0 r)->iu P c Q (kg az) [])(hp:AV.bG az=true:=by first|rfl|(simp;done)|(simp[AV.cQ,AV.bG];done))(hl:az.length<=k:=by simp): aF P f az r:=aF.On (ho.go h hl) hp
abbrev t(n:Nat): AX:= .t n
abbrev gB(b:Bool)(n:Nat)(z:AV)(m:Nat)(l:List (Nat × AX))(d:Nat): cz:=⟨.j7 false ⟨b,n⟩ z m l,some d,none⟩
abbrev gU(z:List AV)(l:List (Nat × Nat × AX))(d:Nat): cz:=⟨.build z l,some d,none⟩
abbrev gI(b:Bool)(n a:Nat)(k:Int)(d:Nat): cz:=⟨.fh ⟨b,n⟩ none (.t a) (.c (.int .i64 k)),some d,none⟩
abbrev gA(b:Bool)(n x y:Nat)(d:Nat): cz:=⟨.app none ⟨b,n⟩ (.t x) (.t y),some d,none⟩
abbrev gF(d:Nat): cz:=⟨.mv (.c (.bool false)),some d,none⟩
abbrev gT(d:Nat): cz:=⟨.mv (.c (.bool true)),some d,none⟩
abbrev gJ(n:Int): AX:= .c (.int .i64 n)
abbrev gS(s:List UInt8): AX:= .c (.str s)
abbrev gR(a:List cz)(n:Nat)(b:List cz)(x:cY): cY:= .seq (.seq (.region a) (.cond (.t n) (.seq (.region b) .ret) .skip)) x
abbrev gL(i:Nat)(a:List cz)(n:Nat)(x:cY): cY:= .block i (.loop (.seq (.seq (.region a) (.cond (.t n) .skip (.exit i))) x))
abbrev bq(o:bA)(d:Nat): cz:=⟨o,some d,none⟩
abbrev i6(n:Int): AV:= .int .i64 n
abbrev z0: AV:= .int .i64 0
abbrev e0: AV:= .str []
abbrev R(l:List cz): cY:= .region l
abbrev r(l:List cz)(b:cY): cY:= .seq (.region l) b
abbrev q(a b:cY): cY:= .seq a b
abbrev c(n:Nat)(a b:cY): cY:= .cond (.t n) a b
abbrev k: cY:= .skip
abbrev M(a:Nat)(d:Nat): cz:=⟨.mv (.t a),some d,none⟩
abbrev MT(a:Nat)(d k:Nat): cz:=⟨.mv (.t a),some d,some (k,true)⟩
abbrev MF(a:Nat)(d k:Nat): cz:=⟨.mv (.t a),some d,some (k,false)⟩
abbrev V(a:AV)(d:Nat): cz:=⟨.mv (.c a),some d,none⟩
abbrev L(n a:Nat)(d:Nat): cz:=⟨.load true n (.t a),some d,none⟩
abbrev LT(n a:Nat)(d k:Nat): cz:=⟨.load true n (.t a),some d,some (k,true)⟩
abbrev LF(n a:Nat)(d k:Nat): cz:=⟨.load true n (.t a),some d,some (k,false)⟩
abbrev K(a:Nat)(d:Nat): cz:=⟨.load false 1 (.t a),some d,none⟩
abbrev KT(a:Nat)(d k:Nat): cz:=⟨.load false 1 (.t a),some d,some (k,true)⟩
abbrev KF(a:Nat)(d k:Nat): cz:=⟨.load false 1 (.t a),some d,some (k,false)⟩
abbrev B(o:BinOp)(a b:Nat)(d:Nat): cz:=⟨.bin o (.t a) (.t b),some d,none⟩
abbrev BT(o:BinOp)(a b:Nat)(d k:Nat): cz:=⟨.bin o (.t a) (.t b),some d,some (k,true)⟩
abbrev BF(o:BinOp)(a b:Nat)(d k:Nat): cz:=⟨.bin o (.t a) (.t b),some d,some (k,false)⟩
abbrev D(o:BinOp)(a:Nat)(b:Int)(d:Nat): cz:=⟨.bin o (.t a) (.c (.int .i64 b)),some d,none⟩
abbrev DT(o:BinOp)(a:Nat)(b:Int)(d k:Nat): cz:=⟨.bin o (.t a) (.c (.int .i64 b)),some d,some (k,true)⟩
abbrev DF(o:BinOp)(a:Nat)(b:Int)(d k:Nat): cz:=⟨.bin o (.t a) (.c (.int .i64 b)),some d,some (k,false)⟩
abbrev A(n a:Nat)(d:Nat): cz:=⟨.iD n (.t a),some d,none⟩
abbrev AT(n a:Nat)(d k:Nat): cz:=⟨.iD n (.t a),some d,some (k,true)⟩
abbrev AF(n a:Nat)(d k:Nat): cz:=⟨.iD n (.t a),some d,some (k,false)⟩
abbrev P(a b:Nat)(d:Nat): cz:=⟨.pick (.t a) (.t b) (.c (.bool false)),some d,none⟩
abbrev PF(a b:Nat)(d k:Nat): cz:=⟨.pick (.t a) (.t b) (.c (.bool false)),some d,some (k,false)⟩
abbrev O(a b:Nat)(d:Nat): cz:=⟨.pick (.t a) (.c (.bool true)) (.t b),some d,none⟩
abbrev OT(a b:Nat)(d k:Nat): cz:=⟨.pick (.t a) (.c (.bool true)) (.t b),some d,some (k,true)⟩
abbrev S(a:Nat)(d:Nat): cz:=⟨.len true (.t a),some d,none⟩
abbrev ST(a:Nat)(d k:Nat): cz:=⟨.len true (.t a),some d,some (k,true)⟩
abbrev N(a:Nat)(d:Nat): cz:=⟨.len false (.t a),some d,none⟩
abbrev NT(a:Nat)(d k:Nat): cz:=⟨.len false (.t a),some d,some (k,true)⟩
abbrev NF(a:Nat)(d k:Nat): cz:=⟨.len false (.t a),some d,some (k,false)⟩
abbrev I(b:Bool)(n a c:Nat)(d:Nat): cz:=⟨.fh ⟨b,n⟩ none (.t a) (.t c),some d,none⟩
abbrev IT(b:Bool)(n a c:Nat)(d k:Nat): cz:=⟨.fh ⟨b,n⟩ none (.t a) (.t c),some d,some (k,true)⟩
abbrev IF(b:Bool)(n a c:Nat)(d k:Nat): cz:=⟨.fh ⟨b,n⟩ none (.t a) (.t c),some d,some (k,false)⟩
abbrev E(a n:Nat)(d:Nat): cz:=⟨.ext (.t a) n,some d,none⟩
abbrev ET(a n:Nat)(d k:Nat): cz:=⟨.ext (.t a) n,some d,some (k,true)⟩
abbrev Z(a:Nat)(d:Nat): cz:=⟨.mc (.t a),some d,none⟩
abbrev ZT(a:Nat)(d k:Nat): cz:=⟨.mc (.t a),some d,some (k,true)⟩
abbrev ZF(a:Nat)(d k:Nat): cz:=⟨.mc (.t a),some d,some (k,false)⟩
abbrev X(a:Nat)(d:Nat): cz:=⟨.box (.t a),some d,none⟩
abbrev U(a:Nat)(d:Nat): cz:=⟨.un .not (.t a),some d,none⟩
abbrev UT(a:Nat)(d k:Nat): cz:=⟨.un .not (.t a),some d,some (k,true)⟩
abbrev UF(a:Nat)(d k:Nat): cz:=⟨.un .not (.t a),some d,some (k,false)⟩
abbrev J(l:List AV)(d:Nat): cz:=⟨.alloc none l,some d,none⟩
abbrev C(f:FuncId)(l:List AX)(d:Nat): cz:=⟨.call false (.c (.fn (.func f) [] [])) l,some d,none⟩
abbrev CT(f:FuncId)(l:List AX)(d k:Nat): cz:=⟨.call false (.c (.fn (.func f) [] [])) l,some d,some (k,true)⟩
abbrev CF(f:FuncId)(l:List AX)(d k:Nat): cz:=⟨.call false (.c (.fn (.func f) [] [])) l,some d,some (k,false)⟩
abbrev Q(f:FuncId)(l:List AX)(d:Nat): cz:=⟨.call true (.c (.fn (.func f) [] [])) l,some d,none⟩
abbrev QT(f:FuncId)(l:List AX)(d k:Nat): cz:=⟨.call true (.c (.fn (.func f) [] [])) l,some d,some (k,true)⟩
abbrev QF(f:FuncId)(l:List AX)(d k:Nat): cz:=⟨.call true (.c (.fn (.func f) [] [])) l,some d,some (k,false)⟩
abbrev W(n a b:Nat): cz:=⟨.store n (.t a) (.t b),none,none⟩
