/- Part. -/
import Derived.Test.YtcjcnfcedihckaaGreatDoorV12
import Derived.Test.YtcjcnfcedihckaaGreatDoorChecked
import Derived.KernelRfl
set_option linter.all false
namespace Go.AM
variable {P:Program}
def Ek{n:Int}(h:0<=n)(h':n<=255): eS .u8 n=n:=by
 show IntKind.wrap .u8 n=n;simp[IntKind.wrap,IntKind.bits,IntKind.signed];omega
def Bp{n:Int}(h:0<=n)(h':n<18446744073709551616): eS .u64 n=n:=by
 show IntKind.wrap .u64 n=n;simp[IntKind.wrap,IntKind.bits,IntKind.signed];omega
attribute [go_sem] Bh Ek Bp
attribute [go_sem_proc] Nat.reduceAdd Nat.reduceBEq
attribute [go_sem_proc ↓] reduceIte
def Mj{s:List UInt8}{i:Nat}(h:i<s.length): (⟨s.toArray⟩:ByteArray).get! i=s.getD i 0:=by
 simp only[ByteArray.get!];rw[getElem!_pos _ i (by simpa using h),aj,aK h];simp
def Em(s:List UInt8)(pos:Nat): Nat:=(Utf8.decode ⟨s.toArray⟩ pos).1
def decode_ascii{s:List UInt8}{pos:Nat}(h:pos<s.length)(ha:(s.getD pos 0).toNat<128): Utf8.decode ⟨s.toArray⟩ pos=((s.getD pos 0).toNat,1):=by
 unfold Utf8.decode;simp only[de,Mj h];rw[if_pos ha]
def Oo{s:List UInt8}{pos:Nat}(h:pos<s.length)(ha:128<=(s.getD pos 0).toNat): 128<=Em s pos:=by
 unfold Em Utf8.decode;simp only[de,Mj h];rw[if_neg (by omega)];have he:128<=Utf8.runeError:=by decide
 split
 ·split<;>first|assumption|exact he
 ·split
  ·split
   ·rename_i h2;simp only[ge_iff_le,aD,decide_eq_true_eq]at h2;exact bY (by omega) h2.1
   ·exact he
  ·split
   ·split
    ·rename_i h2;simp only[ge_iff_le,aD,decide_eq_true_eq]at h2;exact bY (by omega) h2.1
    ·exact he
   ·exact he
noncomputable def jD:BinOp->IntKind->Int->Int->Int:=Classical.choose (⟨lT,rfl⟩:∃ f,f=lT)
def lp: jD=lT:=Classical.choose_spec (⟨lT,rfl⟩:∃ f,f=lT)
section
variable (K:AV->Prop) (k:IntKind) (a b:Int) (s t:List UInt8)
@[go_sem] def adx:gK .and (.int k a) (.int k b) (.mk:Tg K)=K (.int k (jD .and k a b)):=by rw[lp];simp[gK,jn]
@[go_sem] def aez:gK .or (.int k a) (.int k b) (.mk:Tg K)=K (.int k (jD .or k a b)):=by rw[lp];simp[gK,jn]
@[go_sem] def ady:gK .xor (.int k a) (.int k b) (.mk:Tg K)=K (.int k (jD .xor k a b)):=by rw[lp];simp[gK,jn]
@[go_sem] def aaN:gK .andNot (.int k a) (.int k b) (.mk:Tg K)=K (.int k (jD .andNot k a b)):=by rw[lp];simp[gK,jn]
@[go_sem] def adz (k':IntKind):gK .shl (.int k a) (.int k' b) (.mk:Tg K)=req (0<=b) (.mk:Tg (K (.int k (eS k (a*2 ^ (Nat.min b.toNat k.bits)))))):=by rw[<-dz];simp[gK,jn]
@[go_sem] def adA (k':IntKind):gK .shr (.int k a) (.int k' b) (.mk:Tg K)=req (0<=b) (.mk:Tg (K (.int k (a.fdiv (2 ^ (Nat.min b.toNat k.bits)))))):=by rw[<-dz];simp[gK,jn]
@[go_sem] def aeA:Ze .neg (.int k a) (.mk:Tg K)=K (.int k (eS k (0-a))):=_root_.id rfl
end
section
variable (σ : ae) (K Kp:AV->ae->Prop)
variable (k k':IntKind) (a b:Int) (s t:List UInt8) (el:El) (xs cs:List AV) (l m lo n off i:Nat) (f:Bool)
def WW(el:El)(o:Option bx)(l m j:Nat){K:AV->Prop}(_:Tg K): Prop:=match o with
 | some (.cy _ cK xs)=>cK=el/\m=xs.length/\K (.eG el l m j 0)
 | _=>False
@[go_sem] def Zw : dH P (.eH el none (.c (.own el l m lo n)) (.c (.int k a))) σ (.mk : Tg (K, Kp)) = req (0 <= a /\ a < n) (.mk : Tg (WW el (σ[l]?) l m (lo + a.toNat) (.mk : Tg fun v => K v σ))) := by
  rw[<-dz];simp only[dH,br.run,AX.ev,WW,true_and,and_assoc];rfl
@[go_sem] def aeK (K : AV -> Prop) : WW el (some (.vec el xs)) l m i (.mk : Tg K) = req (m = xs.length) (.mk : Tg (K (.eG el l m i 0))) := by
  rw[<-dz];simp[WW]
@[go_sem] def ack (ln : Nat) : dH P (.xe ⟨false, 1⟩ ln (.c (.agg cs)) (.c (.int k a))) σ (.mk : Tg (K, Kp)) = req (0 <= a /\ a < ln /\ a.toNat + 1 <= cs.length) (.mk : Tg (K (cs.getD a.toNat .undef) σ)) := by
  rw[<-dz];simp[dH,br.run,AX.ev,and_assoc]
@[go_sem] def XL (off n : Nat) (cs : List AV) (K : AV -> Prop) (h : (off == 0 && n == el.sz && true == el.ag) = false) : tj false el (.agg cs) off true n (.mk : Tg K) = req (off + n <= el.sz) (.mk : Tg (K (.agg ((cs.drop off).take n)))) := by
  have hn:¬ (off=0/\n=el.sz/\true=el.ag):=by rintro⟨h1,h2,h3⟩;subst h1;subst h2;rw[<-h3]at h;simp at h
  rw[<-dz];simp only[tj,partOf,if_neg hn,h,true_and];simp
def Zx(σ : ae)(el:El)(l:Nat)(o:Option bx)(m i off n:Nat)(v:AV){K:ae->Prop}(_:Tg K): Prop:=v.cells.length=n/\v.cells.all AV.scalar=true/\match o with
 | some (.cy T bz xs) => bz = el /\ m = xs.length /\ i < xs.length /\ off + n <= el.sz /\ (el.ag = false -> v.fits el = true) /\
    K (σ.set l (.cy T el (xs.set i (if el.ag then .agg (eK (xs.getD i .undef).cells off v.cells)else v))))
 | _=>False
@[go_sem] def aaO (v:AV) (K:ae->Prop):storeT σ n (.eG el l m i off) v (.mk:Tg K)=Zx σ el l (σ[l]?) m i off n v (.mk:Tg K):=_root_.id rfl
@[go_sem] def aeL (v : AV) (K : ae -> Prop) : Zx σ el l (some (.vec el xs)) m i off n v (.mk : Tg K) = req (v.cells.length = n /\ v.cells.all AV.scalar = true /\ m = xs.length /\ i < xs.length /\ off + n <= el.sz /\ (el.ag = false -> v.fits el = true)) (.mk : Tg (K (σ.set l (.vec el (xs.set i (if el.ag then .agg (eK (xs.getD i .undef).cells off v.cells) else v)))))) := by
  rw[<-dz];simp only[Zx,true_and,and_assoc]
def PW(σ : ae)(el:El)(o:Option bx)(l m lo n:Nat)(x y:Option AV){K:AV->ae->Prop}(_:Tg K): Prop:=match o with
 | some (.cy _ cK xs)=>cK=el/\m=xs.length/\lo+n<=m/\bound y n n fun h=>bound x 0 h fun k=>K (.own el l m (lo+k) (h-k)) σ
 | _=>False
@[go_sem] def abu (x y : Option AX) : dH P (.tF el (.c (.own el l m lo n)) x y) σ (.mk : Tg (K, Kp)) = PW σ el (σ[l]?) l m lo n (x.map (AX.ev fun _ => .undef)) (y.map (AX.ev fun _ => .undef)) (.mk : Tg K) := by
  simp only[dH,br.run,AX.ev,PW,true_and];rfl
@[go_sem] def aeM : PW σ el (some (.vec el xs)) l m lo n (some (.int k a)) (some (.int k' b)) (.mk : Tg K) = req (m = xs.length /\ lo + n <= m /\ (0 <= b /\ b <= n) /\ 0 <= a /\ a <= b) (.mk : Tg (K (.own el l m (lo + a.toNat) (b.toNat - a.toNat)) σ)) := by
  rw[<-dz];simp only[PW,bound,and_assoc,true_and,eq_iff_iff];constructor
  ·rintro⟨h1,h2,h3,h4,h5,h6,h7⟩;exact⟨h1,h2,h3,h4,h5,by omega,h7⟩
  ·rintro⟨h1,h2,h3,h4,h5,h6,h7⟩;exact⟨h1,h2,h3,h4,h5,by omega,h7⟩
@[go_sem] def aeN : PW σ el (some (.vec el xs)) l m lo n none (some (.int k' b)) (.mk : Tg K) = req (m = xs.length /\ lo + n <= m /\ 0 <= b /\ b <= n) (.mk : Tg (K (.own el l m lo b.toNat) σ)) := by
  rw[<-dz];simp only[PW,bound,and_assoc,true_and,de,Nat.sub_zero]
def Rj(o:Option bx)(m lo n:Nat){K:AV->Prop}(_:Tg K): Prop:=match o with
 | some (.cy _ el xs)=>el=⟨false,1⟩/\m=xs.length/\ ∃ s:List UInt8,(xs.drop lo).take n=s.map (fun b=>AV.int .u8 b.toNat)/\K (.str s)
 | _=>False
@[go_sem] def abv : dH P (.sj (.c (.own ⟨false, 1⟩ l m lo n))) σ (.mk : Tg (K, Kp)) = Rj (σ[l]?) m lo n (.mk : Tg fun v => K v σ) := by
  simp only[dH,br.run,AX.ev,fZ,Rj,true_and];rfl
@[go_sem] def Rk (s : List UInt8) : dH P (.sj (.c (.aF f ⟨false, 1⟩ (s.map fun b => .int .u8 b.toNat)))) σ (.mk : Tg (K, Kp)) = K (.str s) σ := by
  simp only[dH,br.run,AX.ev,fZ,true_and,eq_iff_iff];constructor
  ·rintro⟨s',h,hk⟩;have:s=s':=(List.map_inj_right (fun x y hxy=>by simp at hxy;exact UInt8.toNat_inj.1 (Int.ofNat_inj.1 hxy))).1 h;exact this ▸ hk
  ·exact fun hk=>⟨s,rfl,hk⟩
def Rl{K:AV->Prop}{xs:List AV}{m n:Nat}(s:List UInt8)(hx:xs=s.map fun b=>AV.int .u8 b.toNat)(hm:m=xs.length)(hn:n=xs.length)(hk:K (.str s)): Rj (some (.vec ⟨false,1⟩ xs)) m 0 n (.mk:Tg K) :=
 ⟨rfl,hm,s,by rw[hn,<-hx];simp,hk⟩
@[go_sem] def Yz (t : TypeId) (c : UInt8) : dH P (.app (some t) ⟨false, 1⟩ (.c .ai) (.c (.str (c :: s)))) σ (.mk : Tg (K, Kp)) = req (gE (s.length + 1) ⟨false, 1⟩) (.mk : Tg (K (.own ⟨false, 1⟩ σ.length (s.length + 1) 0 (s.length + 1)) (σ ++ [.cy (some t) ⟨false, 1⟩ ((c :: s).map fun b => .int .u8 b.toNat)]))) := by
  rw[<-dz];have h:((c::s).map fun b=>AV.int .u8 b.toNat).all (fun a=>a.fits ⟨false,1⟩)=true:=by simp[AV.fits]
  simp only[dH,br.run,AX.ev,pH,fZ,true_and,h,bS,List.length_cons,Nat.add_eq_zero_iff,Nat.one_ne_zero,and_false,if_false]
@[go_sem] def XM (T : Option TypeId) : dH P (.app T ⟨false, 1⟩ (.c .ai) (.c (.str []))) σ (.mk : Tg (K, Kp)) = K .ai σ := by
  simp[dH,br.run,AX.ev,pH,fZ]
@[go_sem] def Zy (T : Option TypeId) : dH P (.app T ⟨false, 1⟩ (.c (.own ⟨false, 1⟩ l m lo n)) (.c (.str s))) σ (.mk : Tg (K, Kp)) = Bl σ T ⟨false, 1⟩ (σ[l]?) l m lo n (s.map fun b => .int .u8 b.toNat) (.mk : Tg K) := by
  have:((s.map fun b=>AV.int .u8 b.toNat).all fun a=>a.fits ⟨false,1⟩)=true:=by simp[AV.fits]
  simp only[dH,br.run,AX.ev,pH,fZ,Bl,true_and,this];rfl
def qv(ng:Bool)(acc:Bool)(ks:List Kd)(xs ys:List AV){K:AV->Prop}(_:Tg K): Prop:=match h_ ks xs ys with
 | some c=>K (.bool (if ng then !(acc && c)else acc && c))
 | none=>False
def Vv(acc:Bool)(K:AV->Prop): qv false acc [] [] [] (.mk:Tg K)=K (.bool acc):=by simp[qv,h_]
def Tq(acc:Bool)(K:AV->Prop): qv true acc [] [] [] (.mk:Tg K)=K (.bool (!acc)):=by simp[qv,h_]
def Bq(ng acc c:Bool)(kd:Kd)(x y:AV)(ks:List Kd)(xs ys:List AV)(K:AV->Prop)(h:LJ kd x y=some c): qv ng acc (kd::ks) (x::xs) (y::ys) (.mk:Tg K)=qv ng (acc && c) ks xs ys (.mk:Tg K):=by
 simp only[qv,h_,h];cases h_ ks xs ys<;>simp[Bool.and_assoc]
attribute [go_sem] Vv Tq
@[go_sem] def aeO (ng acc:Bool) (ks:List Kd) (xs ys:List AV) (K:AV->Prop):qv ng acc (.i::ks) (.int k a::xs) (.int k b::ys) (.mk:Tg K)=qv ng (acc && (a==b)) ks xs ys (.mk:Tg K):=Bq _ _ _ _ _ _ _ _ _ _ (by simp[LJ])
@[go_sem] def aeP (ng acc:Bool) (ks:List Kd) (xs ys:List AV) (K:AV->Prop):qv ng acc (.s::ks) (.str s::xs) (.str t::ys) (.mk:Tg K)=qv ng (acc && (s==t)) ks xs ys (.mk:Tg K):=Bq _ _ _ _ _ _ _ _ _ _ rfl
@[go_sem] def aeQ (ng acc p q:Bool) (ks:List Kd) (xs ys:List AV) (K:AV->Prop):qv ng acc (.b::ks) (.bool p::xs) (.bool q::ys) (.mk:Tg K)=qv ng (acc && (p==q)) ks xs ys (.mk:Tg K):=Bq _ _ _ _ _ _ _ _ _ _ rfl
@[go_sem] def acm (ng : Bool) (ks : List Kd) (xs ys : List AV) : dH P (.oa ng true ks (.c (.agg xs)) (.c (.agg ys))) σ (.mk : Tg (K, Kp)) = qv ng true ks xs ys (.mk : Tg fun v => K v σ) := by
  rw[Vs];simp only[qv];cases h_ ks xs ys<;>simp
def Vw(ng:Bool)(o:Option Bool){K:AV->Prop}(_:Tg K): Prop:=match o with
 | some c=>K (.bool (if ng then !c else c))
 | none=>False
@[go_sem] def aeR (c:Bool) (K:AV->Prop):Vw false (some c) (.mk:Tg K)=K (.bool c):=_root_.id rfl
@[go_sem] def aeS (c:Bool) (K:AV->Prop):Vw true (some c) (.mk:Tg K)=K (.bool (!c)):=_root_.id rfl
@[go_sem] def acn (ng : Bool) (kn : NK) (x y : AV) : dH P (.oT ng kn (.c x) (.c y)) σ (.mk : Tg (K, Kp)) = Vw ng (nh kn x y) (.mk : Tg fun v => K v σ) := by
  rw[Vr];rfl
end
def Vx{l:Nat}{c r:cI}{Q:AQ}{e:Env}{σ : ae}(h:iU P c (qZ l (fun _ _=>False) Q) e σ): Md P (.mk:Tg (l,c,r,Q,e,σ)) :=
 ⟨fun _ _ _=>False,y_ (fun ex e σ hq=>by cases ex<;>first|exact hq|exact hq.2.elim) _ _ h,fun _ _ _ h=>h.elim⟩
@[go_sem ↓] def aco (l:Nat) (J:Env->ae->Prop) (Q:AQ) (e:Env) (σ : ae):qZ l J Q .ret e σ = Q .ret e σ:=_root_.id rfl
@[go_sem ↓] def aaP (l:Nat) (J:Env->ae->Prop) (Q:AQ) (v:AV) (e:Env) (σ : ae):qZ l J Q (.panic v) e σ = Q (.panic v) e σ:=_root_.id rfl
@[go_sem] def Ac {α : Type} (τ : List α) (c : α):(τ++[c])[τ.length]? = some c:=by simp
def Vy{ms ms':List Nat}{r e e':Env}(hs:ms'.all (fun t=>ms.contains t)=true)(h:Bm ms e e'): Bm ms e (JT ms' r e'):=fun t ht=>by
 simp only[JT];split
 ·rename_i h1;rw[bq]at hs;have:=hs t (by simpa using h1);rw[ht]at this;cases this
 ·exact h t ht
def take_one{s:List UInt8}{n i:Nat}(hn:n=1)(hi:i<s.length): List.take n (List.drop i s)=[s.getD i 0]:=by
 subst hn;rw[ez hi,aj,aK hi];rfl
@[go_sem ↓] def Zz (e:Env):og [] e=True:=_root_.id rfl
@[go_sem ↓] def YA (x y:AX) (r:List (AX × AX)) (e:Env):og ((x,y)::r) e=(pP (x.ev e) (y.ev e)/\og r e):=_root_.id rfl
@[go_sem] def acp (el:El) (x:AV) (o:Nat) (q:AV):pP (.eA el x o) q=True:=by simp[pP,AV.obj]
@[go_sem] def acq (l k a b:Nat):pP (.ref l a) (.ref k b)=(l≠k):=by simp only[pP,AV.obj,Option.some.injEq];exact propext ⟨fun h e=>h l rfl e.symm,fun h x e1 e2=>h (e1.trans e2.symm)⟩
section
variable {α β : Type} (a b c : α) (l m:List α) (f : α-> β) (n:Nat)
def ZA: (a::l)[0]? = some a:=_root_.id rfl
def ZB: (a::l)[n+1]? = l[n]?:=_root_.id rfl
def ZC: (a::l).set 0 b=b::l:=_root_.id rfl
def ZD: (a::l).set (n+1) b=a::l.set n b:=_root_.id rfl
def XO: (a::l).getD 0 b=a:=_root_.id rfl
def XP: (a::l).getD (n+1) b=l.getD n b:=_root_.id rfl
def ZE: (a::l).length=l.length+1:=_root_.id rfl
def ZG: ([]:List α).length=0:=_root_.id rfl
def XQ: l.drop 0=l:=_root_.id rfl
def XR: (a::l).drop (n+1)=l.drop n:=_root_.id rfl
def XS: l.take 0=[]:=_root_.id rfl
def XT: (a::l).take (n+1)=a::l.take n:=_root_.id rfl
def ZH: (a::l).map f=f a::l.map f:=_root_.id rfl
def ZI: ([]:List α).map f=[]:=_root_.id rfl
def ZJ: (a::l)++m=a::(l++m):=_root_.id rfl
def ZK: []++m=m:=_root_.id rfl
def ZL: l++[]=l:=List.append_nil l
def ZM: List.replicate 0 a=[]:=_root_.id rfl
def ZN: List.replicate (n+1) a=a::List.replicate n a:=_root_.id rfl
end
def XU(cs:List AV)(i:Nat): eK cs i []=cs:=by cases cs<;>exact _root_.id rfl
def XV(cs:List AV)(i:Nat)(a:AV)(l:List AV): eK cs i (a::l)=eK (cs.set i a) (i+1) l:=by cases cs<;>exact _root_.id rfl
def Vz(cs:List AV): (AV.agg cs).cells=cs:=_root_.id rfl
def VA(k:IntKind)(n:Int): (AV.int k n).cells=[.int k n]:=_root_.id rfl
def VB(b:Bool): (AV.bool b).cells=[.bool b]:=_root_.id rfl
def VC(s:List UInt8): (AV.str s).cells=[.str s]:=_root_.id rfl
def VD(f:Bool)(el:El)(xs:List AV): (AV.aF f el xs).cells=[.aF f el xs]:=_root_.id rfl
def VE: AV.ai.cells=[.ai]:=_root_.id rfl
def VF(el:El)(l m lo n:Nat): (AV.own el l m lo n).cells=[.own el l m lo n]:=_root_.id rfl
def VG(l o:Nat): (AV.ref l o).cells=[.ref l o]:=_root_.id rfl
def ZO(l o:Nat): nh .p (.ref l o) .iE=some false:=_root_.id rfl
def ZP: nh .p .iE .iE=some true:=_root_.id rfl
def XW(n m:Nat)(l:List Nat): (n::l).contains m=(m==n || l.contains m):=List.contains_cons
def XX(m:Nat): ([]:List Nat).contains m=false:=_root_.id rfl
def VH: (false==true)=false:=_root_.id rfl
def getD_map{α : Type}[Inhabited α](f : α->AV)(l:List α)(i:Nat)(h:i<l.length): (l.map f).getD i .undef=f (l.getD i default):=by
 rw[aj,aj,List.getElem?_map,aK h];rfl
section
variable (e:Env) (σ : ae) (K Kp:AV->ae->Prop)
def En(x:AV)(σ : ae){K:AV->ae->Prop}(_:Tg K): Prop:=match x with
 | .str s=>K (.ref σ.length 0) (σ++[.iO s 0])
 | _=>False
@[go_sem ↓] def adB (x : AX) : br.run P (.D3 x) e σ K Kp = En (x.ev e) σ (.mk : Tg K) := by
  simp only[br.run,En];rfl
@[go_sem] def aeT (s:List UInt8):En (.str s) σ (.mk:Tg K)=K (.ref σ.length 0) (σ++[.iO s 0]):=_root_.id rfl
def Rm(x:AV)(σ : ae){K:AV->ae->Prop}(_:Tg K): Prop:=match x with
 | .ref l 0 => match σ[l]? with
   | some (.iO s pos) =>
     if pos<s.length then K (.bJ [.bool true,.int .i64 pos,.int .i32 (Utf8.decode ⟨s.toArray⟩ pos).1]) (σ.set l (.iO s (pos+(Utf8.decode ⟨s.toArray⟩ pos).2)))
     else K (.bJ [.bool false]) σ
   | _=>False
 | _=>False
@[go_sem ↓] def adC (x : AX) : br.run P (.D4 x) e σ K Kp = Rm (x.ev e) σ (.mk : Tg K) := by
  simp only[br.run,Rm];rfl
def Br (o : Option bx) (l : Nat) (σ : ae) {K : AV -> ae -> Prop} (_ : Tg K) : Prop := match o with
    | some (.iO s pos) =>
      if pos<s.length then K (.bJ [.bool true,.int .i64 pos,.int .i32 (Utf8.decode ⟨s.toArray⟩ pos).1]) (σ.set l (.iO s (pos+(Utf8.decode ⟨s.toArray⟩ pos).2)))
      else K (.bJ [.bool false]) σ
    | _=>False
@[go_sem] def aeU (l : Nat) : Rm (.ref l 0) σ (.mk : Tg K) = Br (σ[l]?) l σ (.mk : Tg K) := by
  simp only[Rm,Br]
@[go_sem] def adD (l : Nat) (s : List UInt8) (pos : Nat) (h : s.length <= pos) : Br (some (.iO s pos)) l σ (.mk : Tg K) = K (.bJ [.bool false]) σ := by
  simp only[Br];rw[if_neg (by omega)]
def PX (l : Nat) (s : List UInt8) (pos : Nat) (h : pos < s.length) : Br (some (.iO s pos)) l σ (.mk : Tg K) =
    K (.bJ [.bool true,.int .i64 pos,.int .i32 (Utf8.decode ⟨s.toArray⟩ pos).1]) (σ.set l (.iO s (pos+(Utf8.decode ⟨s.toArray⟩ pos).2))):=by
 simp only[Br];rw[if_pos h]
@[go_sem] def abw (l:Nat) (s:List UInt8) (pos:Nat) (h:pos<s.length) (ha:(s.getD pos 0).toNat<128):Br (some (.iO s pos)) l σ (.mk:Tg K) =
 K (.bJ [.bool true,.int .i64 pos,.int .i32 (s.getD pos 0).toNat]) (σ.set l (.iO s (pos+1))):=by
  rw[PX _ _ _ _ _ h,decode_ascii h ha]
@[go_sem] def acr (l:Nat) (s:List UInt8) (pos:Nat) (h:pos<s.length) (ha:128<=(s.getD pos 0).toNat):Br (some (.iO s pos)) l σ (.mk:Tg K) =
 K (.bJ [.bool true,.int .i64 pos,.int .i32 (Em s pos:Nat)]) (σ.set l (.iO s (pos+(Utf8.decode ⟨s.toArray⟩ pos).2))):=by
  rw[PX _ _ _ _ _ h];rfl
end
def dS(P:Program)(c:cI)(rs:List q9)(args:List AV)(σ : ae)(R:Out->ae->Prop): Prop :=
 ∀ Q:AQ,(∀ e σ,Q .ret e σ = pI e σ rs fun vs=>R (.ret (oneOf vs)) σ)->(∀ e σ,Q .normal e σ = pI e σ rs fun vs=>R (.ret (oneOf vs)) σ)->(∀ v e σ,Q (.panic v) e σ = R (.panic v) σ)->iU P c Q (q_ args) σ
def dS.go{c:cI}{rs:List q9}{args:List AV}{σ : ae}{R:Out->ae->Prop}(h:dS P c rs args σ R): iU P c (Vn rs R) (q_ args) σ :=
 h _ (fun _ _=>rfl) (fun _ _=>rfl) (fun _ _ _=>rfl)
@[go_sem ↓] def acs (e:Env) (σ : ae) (t:Nat) (ag:Bool) (n:Nat) (r:List q9) (K:List AV->Prop):pI e σ (.cell t ag n::r) K=loadT σ ag n (e t) (.mk:Tg fun v=>kM v (.mk:Tg fun v=>pI e σ r fun vs=>K (v::vs))):=_root_.id rfl
def WX{p K:Prop}(h:p)(hk:K): req p (.mk:Tg K):=⟨h,fun _=>hk⟩
def bp{σ : ae}{a b:AV}{vs rs:List AV}(h:a::b::vs=rs)(hp:AV.bX rs=true): ∃ r0,Out.ret (oneOf (a::b::vs))=Out.ret r0/\View σ r0 (.bJ rs):=⟨_,rfl,by subst h;exact .refl _ hp⟩
def eT{σ : ae}{v r:AV}(hv:View σ v r): ∃ r0,Out.ret (oneOf [v])=Out.ret r0/\View σ r0 r:=⟨_,rfl,hv⟩
def bG{σ : ae}{a b:AV}{vs rs:List AV}(hv:bf σ (a::b::vs) rs): ∃ r0,Out.ret (oneOf (a::b::vs))=Out.ret r0/\View σ r0 (.bJ rs):=⟨_,rfl,View.ads hv⟩
def View.eqv{σ : ae}{a b:AV}(h:a=b)(hp:b.dh=true): View σ a b:=by subst h;exact .refl _ hp
def aL{σ : ae}{v r:AV}(h:v=r)(hp:r.dh=true): ∃ r0,Out.ret (oneOf [v])=Out.ret r0/\View σ r0 r:=⟨_,rfl,.eqv h hp⟩
def ri {r : AV} {mS ds : List AV} {τ : ae} (hv : r = .bJ []) (hd : bf (.dead :: τ) mS ds) :
    ∃ r0 zY vB,Out.ret (oneOf [])=Out.ret r0/\bx.cells mS:: τ = bx.cells zY::vB/\View (.dead::vB) r0 r/\bf (.dead::vB) zY ds:=⟨_,_,_,rfl,rfl,.eqv hv.symm (by subst hv;rfl),hd⟩
end Go.AM
namespace Go.AM
variable {P:Program}
@[go_sem ↓] def adE (K Kp:AV->ae->Prop) (r:AV) (σ : ae):Me K Kp (.ret r) σ = K r σ:=_root_.id rfl
@[go_sem] def Rn {f:Bool} {σ : ae} {K Kp:AV->ae->Prop} (x:UInt8):dH P (.sj (.c (.aF f ⟨false,1⟩ [.int .u8 x.toNat]))) σ (.mk:Tg (K,Kp))=K (.str [x]) σ:=Rk σ K Kp f [x]
section
variable {σ : ae} {K Kp:AV->ae->Prop} {l m n lo off:Nat} {cs xs:List AV} {el:El} {T:Option TypeId}
def abx(h : σ[l]? = some (.bM T cs))(hlt:off<cs.length)(hk:K (.ref l off) σ): dH P (.FE (.c (.ref l off))) σ (.mk:Tg (K,Kp)):=Zm _ _ _ _ _ _ h hlt hk
def aby{t u:TypeId}(h : σ[l]? = some (.bM (some t) cs))(hlt:liesAt P P.depth t (cs.length / P.cellsOf t) off u 1=true)(hk:K (.ref l off) σ): dH P (.FF u (.c (.ref l off))) σ (.mk:Tg (K,Kp)):=Zn _ _ _ _ _ _ h hlt hk
def abz{ng:Bool}(h : σ[l]? = some (.bM T cs))(hk:K (.bool ng.not) σ): dH P (.Dl ng (.c (.ref l off)) (.c (.ref l off))) σ (.mk:Tg (K,Kp)):=Zo _ _ _ _ _ _ ng h hk
def abA(h : σ[l]? = some (.cy T el xs))(hm:m=xs.length)(hn:0<n)(hk:K (.eG el l m lo 0) σ): dH P (.zZ el (.c (.own el l m lo n))) σ (.mk:Tg (K,Kp)):=Re _ _ _ _ _ _ _ _ h hm hn hk
def XY(el:El): dH P (.zZ el (.c .ai)) σ (.mk:Tg (K,Kp))=K .iE σ:=_root_.id rfl
def VI(t:TypeId): dH P (.vq t (.c .iE) (.c (.int .i64 0))) σ (.mk:Tg (K,Kp))=K (.str []) σ:=Om _ _ _ t
attribute [go_sem] XY VI
def ZQ {t : TypeId} {a : Int} (s : List UInt8) (h : σ[l]? = some (.cy (some t) ⟨false, 1⟩ xs)) (hm : m = xs.length) (hx : xs = s.map fun b => .int .u8 b.toNat) (h0 : s ≠ []) (h2 : s.length <= 2 ^ 62) (ha : a = (s.length : Int)) (hk : K (.str s) (σ.set l .dead)) :
    dH P (.vq t (.c (.eG ⟨false,1⟩ l m 0 0)) (.c (.int .i64 a))) σ (.mk:Tg (K,Kp)):=On _ _ _ _ _ _ s h hm hx h0 h2 ha hk
def XZ {g : FuncId} {v : AV} (h : ∃ fn, P.funcs[g]? = some fn ∧ (fn.name == "runtime.NumGoroutine") = false ∧ fn.body.isNone = true ∧ Extern.findNext fn = none ∧ Extern.find fn = some Extern.AbiNoEscape.same) (hk : K v σ) : Tj P g v σ (.mk : Tg K) := ⟨h, hk⟩
end
@[go_sem] def adF (sz off : Nat) (cs : List AV) (K : AV -> Prop) : tj false ⟨true, sz⟩ (.agg cs) off false 1 (.mk : Tg K) = req (off + 1 <= sz) (.mk : Tg (K (cs.getD off .undef))) := by
  rw[XF _ _ _ _ _ (by simp)];simp[req]
section
variable {α : Type} (ρ τ : List α) (c d x : α)
@[go_sem] def aeB:(ρ++c:: τ)[ρ.length]? = some c:=by simp
@[go_sem] def aeC:(ρ++c:: τ).set ρ.length x = ρ++x:: τ:=by simp
end
def WY(P:Program)(n:FuncId)(args:List AV)(σ : ae){K:AV->ae->Prop}(_:Tg K): Prop:=CL P n args σ K
def WZ(P:Program)(f:AV)(args:List AV)(σ : ae){K:AV->ae->Prop}(_:Tg K): Prop:=match f with
 | .fn (.func n) [] []=>CL P n args σ K
 | _=>False
@[go_sem ↓] def adG {e:Env} {σ : ae} {K Kp:AV->ae->Prop} (f:AX) (args:List AX):br.run P (.mJ f args) e σ K Kp=WZ P (f.ev e) (args.map (AX.ev e)) σ (.mk:Tg K):=_root_.id rfl
@[go_sem] def aeD {σ : ae} {K:AV->ae->Prop} (n:FuncId) (args:List AV):WZ P (.fn (.func n) [] []) args σ (.mk:Tg K)=WY P n args σ (.mk:Tg K):=_root_.id rfl
def Ia {n : FuncId} {k off : Nat} {args cs ds : List AV} {r : AV} {σ : ae} {K : AV -> ae -> Prop} (h : bC P n off args cs ds r) (xW : σ[k]? = some (.cells cs)) (hk : kM r (.mk : Tg fun r => y4 (σ.set k (.cells ds)) (.mk : Tg fun σ => K r σ))) :
    WY P n (.ref k off::args) σ (.mk:Tg K):=⟨k,_,.cells ds,r,rfl,xW,trivial,h σ k xW,hk⟩
def Ib {n : FuncId} {k off : Nat} {args cs : List AV} {r : AV} {σ : ae} {K Kp : AV -> ae -> Prop} (h : bC P n off args cs cs r) (xW : σ[k]? = some (.cells cs)) (hk : kM r (.mk : Tg fun r => K r σ)) :
    y8 P n (.ref k off::args) σ (.mk:Tg (K,Kp)):=by
 have same:∀ s:ae,s[k]? = some (.cells cs)->s.set k (.cells cs)=s:=fun s hs=>by
  refine List.ext_getElem? fun i=>?_;by_cases hi:k=i
  ·subst hi;rw[wJ hs,hs]
  ·rw[List.getElem?_set_ne hi]
 refine⟨r,fun τ=>?_,hk⟩;have hs:(σ++ τ)[k]? = some (.cells cs):=by rw[aN (aP.1 xW).1];exact xW
 exact(h (σ++ τ) k hs).mono fun o s ⟨h1,h2⟩=>⟨h1,h2.trans (same _ hs)⟩
attribute [go_sem] Int.tdiv_eq_ediv_of_nonneg Int.tmod_eq_emod_of_nonneg ZA ZB ZC ZD XO XP ZE ZG XQ XR XS XT ZH ZI ZJ ZK ZL ZM ZN XU XV Vz VA VB VC VD VE VF VG ZO ZP XW XX VH getD_map take_one Bool.or_false Bool.or_true Bool.true_or Bool.false_or beq_self_eq_true Bool.and_true Bool.true_and Bool.and_false Bool.false_and Int.toNat_natCast Int.toNat_natCast_add_one Int.toNat_zero List.length_map List.length_append Nat.zero_add Bool.not_true Bool.not_false
attribute [simp] AV.fits AV.scalar AV.cells og pP AV.obj gE
end Go.AM
namespace Go.Proofs.YtcjcnfcedihckaaGreatDoor
open Go.AM
set_option maxRecDepth 10000
end Go.Proofs.YtcjcnfcedihckaaGreatDoor
namespace Go.AM.W
structure Of (P:Program) (n:FuncId) (k:Nat) (rs:List q9) (b:cI):Prop where
 go:∀ {az:List AV} {σ : ae} {R:Out->ae->Prop},dS P b rs az σ R->(hl:az.length<=k:=by simp)->dK P n az σ R
def mM {P : Program} {n : FuncId} {fn : Func} {k : Nat} {rs : List q9} {b : cI} (h : Hints) (hf : P.funcs[n]? = some fn) (hn : (fn.name == "runtime.NumGoroutine") = false := by kernel_rfl) (hc : y3 P h fn = some ⟨k, rs, b⟩ := by kernel_rfl) : Of P n k rs b := ⟨fun hw hl => dK.of_wp hf hn hc hl hw.go⟩
def bt {P : Program} {n : FuncId} {fn : Func} {k : Nat} {rs : List q9} {b : cI} (hf : P.funcs[n]? = some fn) (hn : (fn.name == "runtime.NumGoroutine") = false := by kernel_rfl) (hc : y3 P {} fn = some ⟨k, rs, b⟩ := by kernel_rfl) : Of P n k rs b := mM {} hf hn hc
def _root_.Go.AM.aJ{P:Program}{f:FuncId}{k:Nat}{rs:List q9}{c:cI}{az:List AV}{r:AV}(ho:Of P f k rs c)(h:∀ Q:AQ,(∀ e σ,Q .ret e σ = pI e σ rs fun vs=> ∃ r0,Out.ret (oneOf vs) = .ret r0/\View σ r0 r)->(∀ e σ,Q .normal e σ = pI e σ rs fun vs=> ∃ r0,Out.ret (oneOf vs) = .ret r0/\View σ r0 r)->(∀ v e σ,Q (.panic v) e σ = ∃ r0,Out.panic v = .ret r0/\View σ r0 r)->iU P c Q (q_ az) [])(hp:AV.bX az=true:=by first|rfl|(simp;done)|(simp[AV.dh,AV.bX];done))(hl:az.length<=k:=by simp): aH P f az r:=aH.WV (ho.go h hl) hp
abbrev t(n:Nat): AX:= .t n
abbrev gB(b:Bool)(n:Nat)(z:AV)(m:Nat)(l:List (Nat × AX))(d:Nat): b_:=⟨.iG false ⟨b,n⟩ z m l,some d,none⟩
abbrev gU(z:List AV)(l:List (Nat × Nat × AX))(d:Nat): b_:=⟨.build z l,some d,none⟩
abbrev gI(b:Bool)(n a:Nat)(k:Int)(d:Nat): b_:=⟨.eH ⟨b,n⟩ none (.t a) (.c (.int .i64 k)),some d,none⟩
abbrev gA(b:Bool)(n x y:Nat)(d:Nat): b_:=⟨.app none ⟨b,n⟩ (.t x) (.t y),some d,none⟩
abbrev gF(d:Nat): b_:=⟨.mv (.c (.bool false)),some d,none⟩
abbrev gT(d:Nat): b_:=⟨.mv (.c (.bool true)),some d,none⟩
abbrev gJ(n:Int): AX:= .c (.int .i64 n)
abbrev gS(s:List UInt8): AX:= .c (.str s)
abbrev gR(a:List b_)(n:Nat)(b:List b_)(x:cI): cI:= .seq (.seq (.region a) (.cond (.t n) (.seq (.region b) .ret) .skip)) x
abbrev gL(i:Nat)(a:List b_)(n:Nat)(x:cI): cI:= .block i (.loop (.seq (.seq (.region a) (.cond (.t n) .skip (.exit i))) x))
abbrev aU(o:br)(d:Nat): b_:=⟨o,some d,none⟩
abbrev i6(n:Int): AV:= .int .i64 n
abbrev z0: AV:= .int .i64 0
abbrev e0: AV:= .str []
abbrev R(l:List b_): cI:= .region l
abbrev r(l:List b_)(b:cI): cI:= .seq (.region l) b
abbrev q(a b:cI): cI:= .seq a b
abbrev c(n:Nat)(a b:cI): cI:= .cond (.t n) a b
abbrev k: cI:= .skip
abbrev M(a:Nat)(d:Nat): b_:=⟨.mv (.t a),some d,none⟩
abbrev MT(a:Nat)(d k:Nat): b_:=⟨.mv (.t a),some d,some (k,true)⟩
abbrev MF(a:Nat)(d k:Nat): b_:=⟨.mv (.t a),some d,some (k,false)⟩
abbrev V(a:AV)(d:Nat): b_:=⟨.mv (.c a),some d,none⟩
abbrev L(n a:Nat)(d:Nat): b_:=⟨.load true n (.t a),some d,none⟩
abbrev LT(n a:Nat)(d k:Nat): b_:=⟨.load true n (.t a),some d,some (k,true)⟩
abbrev LF(n a:Nat)(d k:Nat): b_:=⟨.load true n (.t a),some d,some (k,false)⟩
abbrev K(a:Nat)(d:Nat): b_:=⟨.load false 1 (.t a),some d,none⟩
abbrev KT(a:Nat)(d k:Nat): b_:=⟨.load false 1 (.t a),some d,some (k,true)⟩
abbrev KF(a:Nat)(d k:Nat): b_:=⟨.load false 1 (.t a),some d,some (k,false)⟩
abbrev B(o:BinOp)(a b:Nat)(d:Nat): b_:=⟨.bin o (.t a) (.t b),some d,none⟩
abbrev BT(o:BinOp)(a b:Nat)(d k:Nat): b_:=⟨.bin o (.t a) (.t b),some d,some (k,true)⟩
abbrev BF(o:BinOp)(a b:Nat)(d k:Nat): b_:=⟨.bin o (.t a) (.t b),some d,some (k,false)⟩
abbrev D(o:BinOp)(a:Nat)(b:Int)(d:Nat): b_:=⟨.bin o (.t a) (.c (.int .i64 b)),some d,none⟩
abbrev DT(o:BinOp)(a:Nat)(b:Int)(d k:Nat): b_:=⟨.bin o (.t a) (.c (.int .i64 b)),some d,some (k,true)⟩
abbrev DF(o:BinOp)(a:Nat)(b:Int)(d k:Nat): b_:=⟨.bin o (.t a) (.c (.int .i64 b)),some d,some (k,false)⟩
abbrev A(n a:Nat)(d:Nat): b_:=⟨.gQ n (.t a),some d,none⟩
abbrev AT(n a:Nat)(d k:Nat): b_:=⟨.gQ n (.t a),some d,some (k,true)⟩
abbrev AF(n a:Nat)(d k:Nat): b_:=⟨.gQ n (.t a),some d,some (k,false)⟩
abbrev P(a b:Nat)(d:Nat): b_:=⟨.pick (.t a) (.t b) (.c (.bool false)),some d,none⟩
abbrev PT(a b:Nat)(d k:Nat): b_:=⟨.pick (.t a) (.t b) (.c (.bool false)),some d,some (k,true)⟩
abbrev PF(a b:Nat)(d k:Nat): b_:=⟨.pick (.t a) (.t b) (.c (.bool false)),some d,some (k,false)⟩
abbrev O(a b:Nat)(d:Nat): b_:=⟨.pick (.t a) (.c (.bool true)) (.t b),some d,none⟩
abbrev OT(a b:Nat)(d k:Nat): b_:=⟨.pick (.t a) (.c (.bool true)) (.t b),some d,some (k,true)⟩
abbrev S(a:Nat)(d:Nat): b_:=⟨.len true (.t a),some d,none⟩
abbrev ST(a:Nat)(d k:Nat): b_:=⟨.len true (.t a),some d,some (k,true)⟩
abbrev SF(a:Nat)(d k:Nat): b_:=⟨.len true (.t a),some d,some (k,false)⟩
abbrev N(a:Nat)(d:Nat): b_:=⟨.len false (.t a),some d,none⟩
abbrev NT(a:Nat)(d k:Nat): b_:=⟨.len false (.t a),some d,some (k,true)⟩
abbrev NF(a:Nat)(d k:Nat): b_:=⟨.len false (.t a),some d,some (k,false)⟩
abbrev I(b:Bool)(n a c:Nat)(d:Nat): b_:=⟨.eH ⟨b,n⟩ none (.t a) (.t c),some d,none⟩
abbrev IT(b:Bool)(n a c:Nat)(d k:Nat): b_:=⟨.eH ⟨b,n⟩ none (.t a) (.t c),some d,some (k,true)⟩
abbrev IF(b:Bool)(n a c:Nat)(d k:Nat): b_:=⟨.eH ⟨b,n⟩ none (.t a) (.t c),some d,some (k,false)⟩
abbrev E(a n:Nat)(d:Nat): b_:=⟨.ext (.t a) n,some d,none⟩
abbrev ET(a n:Nat)(d k:Nat): b_:=⟨.ext (.t a) n,some d,some (k,true)⟩
abbrev Z(a:Nat)(d:Nat): b_:=⟨.kI (.t a),some d,none⟩
abbrev ZT(a:Nat)(d k:Nat): b_:=⟨.kI (.t a),some d,some (k,true)⟩
abbrev ZF(a:Nat)(d k:Nat): b_:=⟨.kI (.t a),some d,some (k,false)⟩
abbrev X(a:Nat)(d:Nat): b_:=⟨.box (.t a),some d,none⟩
abbrev U(a:Nat)(d:Nat): b_:=⟨.un .not (.t a),some d,none⟩
abbrev UT(a:Nat)(d k:Nat): b_:=⟨.un .not (.t a),some d,some (k,true)⟩
abbrev UF(a:Nat)(d k:Nat): b_:=⟨.un .not (.t a),some d,some (k,false)⟩
abbrev J(l:List AV)(d:Nat): b_:=⟨.alloc none l,some d,none⟩
abbrev C(f:FuncId)(l:List AX)(d:Nat): b_:=⟨.call false (.c (.fn (.func f) [] [])) l,some d,none⟩
abbrev CT(f:FuncId)(l:List AX)(d k:Nat): b_:=⟨.call false (.c (.fn (.func f) [] [])) l,some d,some (k,true)⟩
abbrev CF(f:FuncId)(l:List AX)(d k:Nat): b_:=⟨.call false (.c (.fn (.func f) [] [])) l,some d,some (k,false)⟩
abbrev Q(f:FuncId)(l:List AX)(d:Nat): b_:=⟨.call true (.c (.fn (.func f) [] [])) l,some d,none⟩
abbrev QT(f:FuncId)(l:List AX)(d k:Nat): b_:=⟨.call true (.c (.fn (.func f) [] [])) l,some d,some (k,true)⟩
abbrev QF(f:FuncId)(l:List AX)(d k:Nat): b_:=⟨.call true (.c (.fn (.func f) [] [])) l,some d,some (k,false)⟩
abbrev W(n a b:Nat): b_:=⟨.store n (.t a) (.t b),none,none⟩
