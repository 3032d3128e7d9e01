/- Part of a proof: see Root. -/
import Derived.Test.YtmbgnaoilncbnaaGreatDoorZ11
import Derived.Test.YtmbgnaoilncbnaaGreatDoorChecked
import Derived.KernelRfl
set_option linter.unnecessarySimpa false
set_option linter.unusedSimpArgs false
set_option linter.unusedVariables false
namespace Go.AM
variable {P:Program}
theorem au{n:Int}(h:0≤n)(h':n≤255): cg .u8 n=n:=by
 show IntKind.wrap .u8 n=n
 simp[IntKind.wrap,IntKind.bits,IntKind.signed];omega
theorem ak{n:Int}(h:0≤n)(h':n<18446744073709551616): cg .u64 n=n:=by
 show IntKind.wrap .u64 n=n
 simp[IntKind.wrap,IntKind.bits,IntKind.signed];omega
theorem PS(n:Int): cg .u64 n=n % 18446744073709551616:=by
 show IntKind.wrap .u64 n=_
 simp[IntKind.wrap,IntKind.bits,IntKind.signed]
theorem Rp{s:List UInt8}{i:Nat}(h:i<s.length): (⟨s.toArray⟩:ByteArray).get! i=s.getD i 0:=by
 simp only[ByteArray.get!]
 rw[getElem!_pos _ i (by simpa using h),List.getD_eq_getElem?_getD,List.getElem?_eq_getElem h];simp
def J6(s:List UInt8)(pos:Nat): Nat:=(Utf8.decode ⟨s.toArray⟩ pos).1
theorem decode_ascii{s:List UInt8}{pos:Nat}(h:pos<s.length)(ha:(s.getD pos 0).toNat<128): Utf8.decode ⟨s.toArray⟩ pos=((s.getD pos 0).toNat,1):=by
 unfold Utf8.decode
 simp only[Nat.add_zero,Rp h]
 rw[if_pos ha]
theorem Tk{s:List UInt8}{pos:Nat}(h:pos<s.length)(ha:128≤(s.getD pos 0).toNat): 128≤J6 s pos:=by
 unfold J6 Utf8.decode
 simp only[Nat.add_zero,Rp h]
 rw[if_neg (by omega)]
 have he:128≤Utf8.runeError:=by decide
 split
 ·split<;>first|assumption|exact he
 ·split
  ·split
   ·rename_i h2;simp only[ge_iff_le,Bool.and_eq_true,decide_eq_true_eq]at h2;exact Nat.le_trans (by omega) h2.1
   ·exact he
  ·split
   ·split
    ·rename_i h2;simp only[ge_iff_le,Bool.and_eq_true,decide_eq_true_eq]at h2;exact Nat.le_trans (by omega) h2.1
    ·exact he
   ·exact he
noncomputable def nB:BinOp→IntKind→Int→Int→Int:=Classical.choose (⟨lU,rfl⟩:∃ f,f=lU)
theorem jV: nB=lU:=Classical.choose_spec (⟨lU,rfl⟩:∃ f,f=lU)
section
variable (K:AV→Prop) (k:IntKind) (a b:Int) (s t:List UInt8)
@[go_sem] theorem af4:dP .and (.int k a) (.int k b) (.mk:Tg K)=K (.int k (nB .and k a b)):=by rw[jV];simp[dP,fT]
@[go_sem] theorem ag9:dP .or (.int k a) (.int k b) (.mk:Tg K)=K (.int k (nB .or k a b)):=by rw[jV];simp[dP,fT]
@[go_sem] theorem af5:dP .xor (.int k a) (.int k b) (.mk:Tg K)=K (.int k (nB .xor k a b)):=by rw[jV];simp[dP,fT]
@[go_sem] theorem ada:dP .andNot (.int k a) (.int k b) (.mk:Tg K)=K (.int k (nB .andNot k a b)):=by rw[jV];simp[dP,fT]
@[go_sem] theorem af6 (k':IntKind):dP .shl (.int k a) (.int k' b) (.mk:Tg K)=req (0≤b) (.mk:Tg (K (.int k (cg k (a*2 ^ (Nat.min b.toNat k.bits)))))):=by rw[← bK];simp[dP,fT]
@[go_sem] theorem af7 (k':IntKind):dP .shr (.int k a) (.int k' b) (.mk:Tg K)=req (0≤b) (.mk:Tg (K (.int k (a.fdiv (2 ^ (Nat.min b.toNat k.bits)))))):=by rw[← bK];simp[dP,fT]
@[go_sem] theorem aeJ:dP .lss (.str s) (.str t) (.mk:Tg K)=K (.bool (Op.bytesLess s t)):=by simp[dP,fT]
@[go_sem] theorem aeK:dP .leq (.str s) (.str t) (.mk:Tg K)=K (.bool (Op.bytesLess s t || s==t)):=by simp[dP,fT]
@[go_sem] theorem aeL:dP .gtr (.str s) (.str t) (.mk:Tg K)=K (.bool (!(Op.bytesLess s t || s==t))):=by simp[dP,fT]
@[go_sem] theorem aeM:dP .geq (.str s) (.str t) (.mk:Tg K)=K (.bool (!Op.bytesLess s t)):=by simp[dP,fT]
@[go_sem] theorem ag_:unT .neg (.int k a) (.mk:Tg K)=K (.int k (cg k (0-a))):=_root_.id rfl
@[go_sem] theorem aha:unT .xor (.int k a) (.mk:Tg K)=K (.int k (nB .xor k (if k.signed then -1 else k.max) a)):=by rw[jV];rfl
end
section
variable (σ : ai) (K Kp:AV→ai→Prop)
variable (k k':IntKind) (a b:Int) (s t:List UInt8) (el:El) (xs cs:List AV) (l m lo n off i:Nat) (f:Bool)
def iaO(el:El)(o:Option aR)(l m j:Nat){K:AV→Prop}(_:Tg K): Prop:=match o with
 | some (.bM _ cL xs)=>cL=el∧m=xs.length∧K (.dD el l m j 0)
 | _=>False
@[go_sem] theorem abV : b_ P (.bQ el none (.c (.own el l m lo n)) (.c (.int k a))) σ (.mk : Tg (K, Kp)) = req (0 ≤ a ∧ a < n) (.mk : Tg (iaO el (σ[l]?) l m (lo + a.toNat) (.mk : Tg fun v => K v σ))) := by
  rw[← bK];simp only[b_,aX.run,AX.ev,iaO,true_and,and_assoc];rfl
@[go_sem] theorem aho (K : AV → Prop) : iaO el (some (.vec el xs)) l m i (.mk : Tg K) = req (m = xs.length) (.mk : Tg (K (.dD el l m i 0))) := by
  rw[← bK];simp[iaO]
@[go_sem] theorem YT : b_ P (.bQ el (some n) (.c (.ref l i)) (.c (.int k a))) σ (.mk : Tg (K, Kp)) = req (0 ≤ a ∧ a < n) (.mk : Tg (K (.ref l (i + a.toNat * el.sz)) σ)) := by
  rw[← bK];simp only[b_,aX.run,AX.ev,and_assoc]
@[go_sem] theorem aeN (ln : Nat) : b_ P (.zg ⟨false, 1⟩ ln (.c (.agg cs)) (.c (.int k a))) σ (.mk : Tg (K, Kp)) = req (0 ≤ a ∧ a < ln ∧ a.toNat + 1 ≤ cs.length) (.mk : Tg (K (cs.getD a.toNat .undef) σ)) := by
  rw[← bK];simp[b_,aX.run,AX.ev,and_assoc]
@[go_sem] theorem aeO (ln sz : Nat) : b_ P (.zg ⟨true, sz⟩ ln (.c (.agg cs)) (.c (.int k a))) σ (.mk : Tg (K, Kp)) = req (0 ≤ a ∧ a < ln ∧ a.toNat * sz + sz ≤ cs.length) (.mk : Tg (K (.agg ((cs.drop (a.toNat * sz)).take sz)) σ)) := by
  rw[← bK];simp[b_,aX.run,AX.ev,and_assoc]
def ldV(el:El)(o:Option aR)(m i off:Nat)(ag:Bool)(n:Nat){K:AV→Prop}(_:Tg K): Prop:=match o with
 | some (.bM _ bu xs)=>bu=el∧m=xs.length∧i<xs.length∧partOf el (xs.getD i .undef) off ag n K
 | _=>False
@[go_sem] theorem adT (ag:Bool) (K:AV→Prop):loadT σ ag n (.dD el l m i off) (.mk:Tg K)=ldV el (σ[l]?) m i off ag n (.mk:Tg K):=_root_.id rfl
@[go_sem] theorem ahp (ag : Bool) (K : AV → Prop) : ldV el (some (.vec el xs)) m i off ag n (.mk : Tg K) = req (m = xs.length ∧ i < xs.length) (.mk : Tg (r_ (off == 0 && n == el.sz && ag == el.ag) el (xs.getD i .undef) off ag n (.mk : Tg K))) := by
  rw[← bK];simp only[ldV,r_,true_and,and_assoc]
@[go_sem] theorem aaB (off n : Nat) (cs : List AV) (K : AV → Prop) (h : (off == 0 && n == el.sz && true == el.ag) = false) : r_ false el (.agg cs) off true n (.mk : Tg K) = req (off + n ≤ el.sz) (.mk : Tg (K (.agg ((cs.drop off).take n)))) := by
  have hn:¬ (off=0∧n=el.sz∧true=el.ag):=by rintro⟨h1,h2,h3⟩;subst h1;subst h2;rw[← h3]at h;simp at h
  rw[← bK];simp only[r_,partOf,if_neg hn,h,true_and]
  simp
def stV(σ : ai)(el:El)(l:Nat)(o:Option aR)(m i off n:Nat)(v:AV){K:ai→Prop}(_:Tg K): Prop:=v.cells.length=n∧v.cells.all AV.scalar=true∧match o with
 | some (.bM T bu xs) => bu = el ∧ m = xs.length ∧ i < xs.length ∧ off + n ≤ el.sz ∧ (el.ag = false → v.fits el = true) ∧
    K (σ.set l (.bM T el (xs.set i (if el.ag then .agg (dM (xs.getD i .undef).cells off v.cells)else v))))
 | _=>False
@[go_sem] theorem adb (v:AV) (K:ai→Prop):storeT σ n (.dD el l m i off) v (.mk:Tg K)=stV σ el l (σ[l]?) m i off n v (.mk:Tg K):=_root_.id rfl
@[go_sem] theorem ahq (v : AV) (K : ai → Prop) : stV σ el l (some (.vec el xs)) m i off n v (.mk : Tg K) = req (v.cells.length = n ∧ v.cells.all AV.scalar = true ∧ m = xs.length ∧ i < xs.length ∧ off + n ≤ el.sz ∧ (el.ag = false → v.fits el = true)) (.mk : Tg (K (σ.set l (.vec el (xs.set i (if el.ag then .agg (dM (xs.getD i .undef).cells off v.cells) else v)))))) := by
  rw[← bK];simp only[stV,true_and,and_assoc]
def Je(σ : ai)(el:El)(o:Option aR)(l m lo n:Nat)(x y:Option AV){K:AV→ai→Prop}(_:Tg K): Prop:=match o with
 | some (.bM _ cL xs)=>cL=el∧m=xs.length∧lo+n≤m∧bound y n n fun h=>bound x 0 h fun k=>K (.own el l m (lo+k) (h-k)) σ
 | _=>False
@[go_sem] theorem adU (x y : Option AX) : b_ P (.uW el (.c (.own el l m lo n)) x y) σ (.mk : Tg (K, Kp)) = Je σ el (σ[l]?) l m lo n (x.map (AX.ev fun _ => .undef)) (y.map (AX.ev fun _ => .undef)) (.mk : Tg K) := by
  simp only[b_,aX.run,AX.ev,Je,true_and];rfl
@[go_sem] theorem ahr : Je σ el (some (.vec el xs)) l m lo n (some (.int k a)) (some (.int k' b)) (.mk : Tg K) = req (m = xs.length ∧ lo + n ≤ m ∧ (0 ≤ b ∧ b ≤ n) ∧ 0 ≤ a ∧ a ≤ b) (.mk : Tg (K (.own el l m (lo + a.toNat) (b.toNat - a.toNat)) σ)) := by
  rw[← bK];simp only[Je,bound,and_assoc,true_and,eq_iff_iff]
  constructor
  ·rintro⟨h1,h2,h3,h4,h5,h6,h7⟩;exact⟨h1,h2,h3,h4,h5,by omega,h7⟩
  ·rintro⟨h1,h2,h3,h4,h5,h6,h7⟩;exact⟨h1,h2,h3,h4,h5,by omega,h7⟩
@[go_sem] theorem ahs : Je σ el (some (.vec el xs)) l m lo n none (some (.int k' b)) (.mk : Tg K) = req (m = xs.length ∧ lo + n ≤ m ∧ 0 ≤ b ∧ b ≤ n) (.mk : Tg (K (.own el l m lo b.toNat) σ)) := by
  rw[← bK];simp only[Je,bound,and_assoc,true_and,Nat.add_zero,Nat.sub_zero]
@[go_sem] theorem aht : Je σ el (some (.vec el xs)) l m lo n (some (.int k a)) none (.mk : Tg K) = req (m = xs.length ∧ lo + n ≤ m ∧ 0 ≤ a ∧ a ≤ n) (.mk : Tg (K (.own el l m (lo + a.toNat) (n - a.toNat)) σ)) := by
  rw[← bK];simp only[Je,bound,and_assoc,true_and]
@[go_sem] theorem ahu : Je σ el (some (.vec el xs)) l m lo n none none (.mk : Tg K) = req (m = xs.length ∧ lo + n ≤ m) (.mk : Tg (K (.own el l m lo n) σ)) := by
  rw[← bK];simp only[Je,bound,and_assoc,true_and,Nat.add_zero,Nat.sub_zero]
@[go_sem] theorem abh : b_ P (.uW el (.c (.aG f el xs)) none none) σ (.mk : Tg (K, Kp)) = K (.aG false el xs) σ := by
  simp[b_,aX.run,AX.ev,bound]
def Vz(o:Option aR)(m lo n:Nat){K:AV→Prop}(_:Tg K): Prop:=match o with
 | some (.bM _ el xs)=>el=⟨false,1⟩∧m=xs.length∧ ∃ s:List UInt8,(xs.drop lo).take n=s.map (fun b=>AV.int .u8 b.toNat)∧K (.str s)
 | _=>False
@[go_sem] theorem adV : b_ P (.uV (.c (.own ⟨false, 1⟩ l m lo n))) σ (.mk : Tg (K, Kp)) = Vz (σ[l]?) m lo n (.mk : Tg fun v => K v σ) := by
  simp only[b_,aX.run,AX.ev,fy,Vz,true_and];rfl
@[go_sem] theorem VA (s : List UInt8) : b_ P (.uV (.c (.aG f ⟨false, 1⟩ (s.map fun b => .int .u8 b.toNat)))) σ (.mk : Tg (K, Kp)) = K (.str s) σ := by
  simp only[b_,aX.run,AX.ev,fy,true_and,eq_iff_iff]
  constructor
  ·rintro⟨s',h,hk⟩
   have:s=s':=(List.map_inj_right (fun x y hxy=>by simp at hxy;exact UInt8.toNat_inj.1 (Int.ofNat_inj.1 hxy))).1 h
   exact this ▸ hk
  ·exact fun hk=>⟨s,rfl,hk⟩
theorem VB{K:AV→Prop}{xs:List AV}{m n:Nat}(s:List UInt8)(hx:xs=s.map fun b=>AV.int .u8 b.toNat)(hm:m=xs.length)(hn:n=xs.length)(hk:K (.str s)): Vz (some (.vec ⟨false,1⟩ xs)) m 0 n (.mk:Tg K) :=
 ⟨rfl,hm,s,by rw[hn,← hx];simp,hk⟩
@[go_sem] theorem abi (t : TypeId) (c : UInt8) : b_ P (.app (some t) ⟨false, 1⟩ (.c .ae) (.c (.str (c :: s)))) σ (.mk : Tg (K, Kp)) = req (dX (s.length + 1) ⟨false, 1⟩) (.mk : Tg (K (.own ⟨false, 1⟩ σ.length (s.length + 1) 0 (s.length + 1)) (σ ++ [.bM (some t) ⟨false, 1⟩ ((c :: s).map fun b => .int .u8 b.toNat)]))) := by
  rw[← bK]
  have h:((c::s).map fun b=>AV.int .u8 b.toNat).all (fun a=>a.fits ⟨false,1⟩)=true:=by simp[AV.fits]
  simp only[b_,aX.run,AX.ev,rh,fy,true_and,h,List.length_map,List.length_cons,Nat.add_eq_zero_iff,Nat.one_ne_zero,and_false,if_false]
@[go_sem] theorem aaC (T : Option TypeId) : b_ P (.app T ⟨false, 1⟩ (.c .ae) (.c (.str []))) σ (.mk : Tg (K, Kp)) = K .ae σ := by
  simp[b_,aX.run,AX.ev,rh,fy]
@[go_sem] theorem abW (T : Option TypeId) : b_ P (.app T ⟨false, 1⟩ (.c (.own ⟨false, 1⟩ l m lo n)) (.c (.str s))) σ (.mk : Tg (K, Kp)) = Gu σ T ⟨false, 1⟩ (σ[l]?) l m lo n (s.map fun b => .int .u8 b.toNat) (.mk : Tg K) := by
  have:((s.map fun b=>AV.int .u8 b.toNat).all fun a=>a.fits ⟨false,1⟩)=true:=by simp[AV.fits]
  simp only[b_,aX.run,AX.ev,rh,fy,Gu,true_and,this];rfl
def pF(ng:Bool)(acc:Bool)(ks:List Kd)(xs ys:List AV){K:AV→Prop}(_:Tg K): Prop:=match fx ks xs ys with
 | some c=>K (.bool (if ng then !(acc && c)else acc && c))
 | none=>False
theorem YU(acc:Bool)(K:AV→Prop): pF false acc [] [] [] (.mk:Tg K)=K (.bool acc):=by simp[pF,fx]
theorem Xr(acc:Bool)(K:AV→Prop): pF true acc [] [] [] (.mk:Tg K)=K (.bool (!acc)):=by simp[pF,fx]
theorem Gy(ng acc c:Bool)(kd:Kd)(x y:AV)(ks:List Kd)(xs ys:List AV)(K:AV→Prop)(h:QH kd x y=some c): pF ng acc (kd::ks) (x::xs) (y::ys) (.mk:Tg K)=pF ng (acc && c) ks xs ys (.mk:Tg K):=by
 simp only[pF,fx,h]
 cases fx ks xs ys<;>simp[Bool.and_assoc]
attribute [go_sem] YU Xr
@[go_sem] theorem ahv (ng acc:Bool) (ks:List Kd) (xs ys:List AV) (K:AV→Prop):pF ng acc (.i::ks) (.int k a::xs) (.int k b::ys) (.mk:Tg K)=pF ng (acc && (a==b)) ks xs ys (.mk:Tg K):=Gy _ _ _ _ _ _ _ _ _ _ (by simp[QH])
@[go_sem] theorem ahw (ng acc:Bool) (ks:List Kd) (xs ys:List AV) (K:AV→Prop):pF ng acc (.s::ks) (.str s::xs) (.str t::ys) (.mk:Tg K)=pF ng (acc && (s==t)) ks xs ys (.mk:Tg K):=Gy _ _ _ _ _ _ _ _ _ _ rfl
@[go_sem] theorem ahx (ng acc p q:Bool) (ks:List Kd) (xs ys:List AV) (K:AV→Prop):pF ng acc (.b::ks) (.bool p::xs) (.bool q::ys) (.mk:Tg K)=pF ng (acc && (p==q)) ks xs ys (.mk:Tg K):=Gy _ _ _ _ _ _ _ _ _ _ rfl
@[go_sem] theorem aeP (ng : Bool) (ks : List Kd) (xs ys : List AV) : b_ P (.ni ng true ks (.c (.agg xs)) (.c (.agg ys))) σ (.mk : Tg (K, Kp)) = pF ng true ks xs ys (.mk : Tg fun v => K v σ) := by
  rw[YP];simp only[pF];cases fx ks xs ys<;>simp
@[go_sem] theorem aeQ (ng : Bool) (ks : List Kd) (x y : AV) : b_ P (.ni ng false ks (.c x) (.c y)) σ (.mk : Tg (K, Kp)) = pF ng true ks [x] [y] (.mk : Tg fun v => K v σ) := by
  rw[YQ];simp only[pF];cases fx ks [x] [y]<;>simp
def YV(ng:Bool)(o:Option Bool){K:AV→Prop}(_:Tg K): Prop:=match o with
 | some c=>K (.bool (if ng then !c else c))
 | none=>False
@[go_sem] theorem ahy (c:Bool) (K:AV→Prop):YV false (some c) (.mk:Tg K)=K (.bool c):=_root_.id rfl
@[go_sem] theorem ahz (c:Bool) (K:AV→Prop):YV true (some c) (.mk:Tg K)=K (.bool (!c)):=_root_.id rfl
@[go_sem] theorem aeR (ng : Bool) (kn : NK) (x y : AV) : b_ P (.r7 ng kn (.c x) (.c y)) σ (.mk : Tg (K, Kp)) = YV ng (qu kn x y) (.mk : Tg fun v => K v σ) := by
  rw[YO];rfl
end
theorem YW{l:Nat}{c r:aI}{Q:AQ}{e:Env}{σ : ai}(h:fH P c (qx l (fun _ _=>False) Q) e σ): Rj P (.mk:Tg (l,c,r,Q,e,σ)) :=
 ⟨fun _ _ _=>False,DR (fun ex e σ hq=>by cases ex<;>first|exact hq|exact hq.2.elim) _ _ h,fun _ _ _ h=>h.elim⟩
@[go_sem ↓] theorem abX (l:Nat) (J:Env→ai→Prop) (Q:AQ) (e:Env) (σ : ai):qx l J Q .normal e σ = Q .normal e σ:=_root_.id rfl
@[go_sem ↓] theorem adW (l i:Nat) (J:Env→ai→Prop) (Q:AQ) (e:Env) (σ : ai):qx l J Q (.exit i) e σ = Q (.exit i) e σ:=_root_.id rfl
@[go_sem ↓] theorem aeS (l:Nat) (J:Env→ai→Prop) (Q:AQ) (e:Env) (σ : ai):qx l J Q .ret e σ = Q .ret e σ:=_root_.id rfl
@[go_sem ↓] theorem ade (l:Nat) (J:Env→ai→Prop) (Q:AQ) (v:AV) (e:Env) (σ : ai):qx l J Q (.panic v) e σ = Q (.panic v) e σ:=_root_.id rfl
@[go_sem] theorem xA {α : Type} (τ : List α) (c : α):(τ++[c])[τ.length]? = some c:=by simp
@[go_sem] theorem af8 {α : Type} (τ : List α) (c d : α):(τ++[c]).set τ.length d = τ++[d]:=by simp
theorem YX{ms ms':List Nat}{r e e':Env}(hs:ms'.all (fun t=>ms.contains t)=true)(h:Gv ms e e'): Gv ms e (OV ms' r e'):=fun t ht=>by
 simp only[OV]
 split
 ·rename_i h1
  rw[List.all_eq_true]at hs
  have:=hs t (by simpa using h1)
  rw[ht]at this;cases this
 ·exact h t ht
theorem take_one{s:List UInt8}{n i:Nat}(hn:n=1)(hi:i<s.length): List.take n (List.drop i s)=[s.getD i 0]:=by
 subst hn
 rw[List.drop_eq_getElem_cons hi,List.getD_eq_getElem?_getD,List.getElem?_eq_getElem hi];rfl
@[go_sem ↓] theorem abY (e:Env):pD [] e=True:=_root_.id rfl
@[go_sem ↓] theorem abj (x y:AX) (r:List (AX × AX)) (e:Env):pD ((x,y)::r) e=(j6 (x.ev e) (y.ev e)∧pD r e):=_root_.id rfl
@[go_sem] theorem aeT (el:El) (x:AV) (o:Nat) (q:AV):j6 (.dW el x o) q=True:=by simp[j6,AV.obj]
@[go_sem] theorem aeU (el:El) (x:AV) (o:Nat) (q:AV):j6 q (.dW el x o)=True:=by simp[j6,AV.obj]
@[go_sem] theorem aeV (l k a b:Nat):j6 (.ref l a) (.ref k b)=(l≠k):=by simp only[j6,AV.obj,Option.some.injEq];exact propext ⟨fun h e=>h l rfl e.symm,fun h x e1 e2=>h (e1.trans e2.symm)⟩
@[go_sem] theorem aeW (l k a b m i:Nat) (el:El):j6 (.ref l a) (.dD el k m i b)=(l≠k):=by simp only[j6,AV.obj,Option.some.injEq];exact propext ⟨fun h e=>h l rfl e.symm,fun h x e1 e2=>h (e1.trans e2.symm)⟩
@[go_sem] theorem aeX (l k a b m i:Nat) (el:El):j6 (.dD el l m i b) (.ref k a)=(l≠k):=by simp only[j6,AV.obj,Option.some.injEq];exact propext ⟨fun h e=>h l rfl e.symm,fun h x e1 e2=>h (e1.trans e2.symm)⟩
section
variable {α β : Type} (a b c : α) (l m:List α) (f : α→ β) (n:Nat)
theorem abZ: (a::l)[0]? = some a:=_root_.id rfl
theorem ab0: (a::l)[n+1]? = l[n]?:=_root_.id rfl
theorem ab1: (a::l).set 0 b=b::l:=_root_.id rfl
theorem ab2: (a::l).set (n+1) b=a::l.set n b:=_root_.id rfl
theorem aaD: (a::l).getD 0 b=a:=_root_.id rfl
theorem aaE: (a::l).getD (n+1) b=l.getD n b:=_root_.id rfl
theorem ab3: (a::l).length=l.length+1:=_root_.id rfl
theorem ab4: ([]:List α).length=0:=_root_.id rfl
theorem aaF: l.drop 0=l:=_root_.id rfl
theorem aaG: (a::l).drop (n+1)=l.drop n:=_root_.id rfl
theorem aaH: l.take 0=[]:=_root_.id rfl
theorem aaI: (a::l).take (n+1)=a::l.take n:=_root_.id rfl
theorem ab5: (a::l).map f=f a::l.map f:=_root_.id rfl
theorem ab6: ([]:List α).map f=[]:=_root_.id rfl
theorem ab7: (a::l)++m=a::(l++m):=_root_.id rfl
theorem ab8: []++m=m:=_root_.id rfl
theorem ab9: l++[]=l:=List.append_nil l
theorem acd: List.replicate 0 a=[]:=_root_.id rfl
theorem ace: List.replicate (n+1) a=a::List.replicate n a:=_root_.id rfl
end
theorem aaJ(cs:List AV)(i:Nat): dM cs i []=cs:=by cases cs<;>exact _root_.id rfl
theorem aaK(cs:List AV)(i:Nat)(a:AV)(l:List AV): dM cs i (a::l)=dM (cs.set i a) (i+1) l:=by cases cs<;>exact _root_.id rfl
theorem YY(cs:List AV): (AV.agg cs).cells=cs:=_root_.id rfl
theorem YZ(k:IntKind)(n:Int): (AV.int k n).cells=[.int k n]:=_root_.id rfl
theorem Y0(b:Bool): (AV.bool b).cells=[.bool b]:=_root_.id rfl
theorem Y1(s:List UInt8): (AV.str s).cells=[.str s]:=_root_.id rfl
theorem Y2(f:Bool)(el:El)(xs:List AV): (AV.aG f el xs).cells=[.aG f el xs]:=_root_.id rfl
theorem Y3: AV.ae.cells=[.ae]:=_root_.id rfl
theorem Y4(el:El)(l m lo n:Nat): (AV.own el l m lo n).cells=[.own el l m lo n]:=_root_.id rfl
theorem Y5(l o:Nat): (AV.ref l o).cells=[.ref l o]:=_root_.id rfl
theorem Y6: AV.fM.cells=[.fM]:=_root_.id rfl
theorem Y7(f:Fn)(a b:List AV): (AV.fn f a b).cells=[.fn f a b]:=_root_.id rfl
theorem acf(l o:Nat): qu .p (.ref l o) .fM=some false:=_root_.id rfl
theorem acg: qu .p .fM .fM=some true:=_root_.id rfl
theorem ach(el:El)(x:AV)(o:Nat): qu .p (.dW el x o) .fM=some false:=_root_.id rfl
theorem aaL(n m:Nat)(l:List Nat): (n::l).contains m=(m==n || l.contains m):=List.contains_cons
theorem aaM(m:Nat): ([]:List Nat).contains m=false:=_root_.id rfl
theorem Y8: (true==false)=false:=_root_.id rfl
theorem Y9: (false==true)=false:=_root_.id rfl
theorem VC: (([]:List UInt8).map fun b=>AV.int .u8 b.toNat)=[]:=_root_.id rfl
theorem getD_map{α : Type}[Inhabited α](f : α→AV)(l:List α)(i:Nat)(h:i<l.length): (l.map f).getD i .undef=f (l.getD i default):=by
 rw[List.getD_eq_getElem?_getD,List.getD_eq_getElem?_getD,List.getElem?_map,List.getElem?_eq_getElem h];rfl
section
variable (e:Env) (σ : ai) (K Kp:AV→ai→Prop)
def zB(x:AV)(σ : ai){K:AV→ai→Prop}(_:Tg K): Prop:=match x with
 | .str s=>K (.ref σ.length 0) (σ++[.fV s 0])
 | _=>False
@[go_sem ↓] theorem af9 (x : AX) : aX.run P (.JW x) e σ K Kp = zB (x.ev e) σ (.mk : Tg K) := by
  simp only[aX.run,zB];rfl
@[go_sem] theorem ahA (s:List UInt8):zB (.str s) σ (.mk:Tg K)=K (.ref σ.length 0) (σ++[.fV s 0]):=_root_.id rfl
def VD(x:AV)(σ : ai){K:AV→ai→Prop}(_:Tg K): Prop:=match x with
 | .ref l 0 => match σ[l]? with
   | some (.fV s pos) =>
     if pos<s.length then K (.bJ [.bool true,.int .i64 pos,.int .i32 (Utf8.decode ⟨s.toArray⟩ pos).1]) (σ.set l (.fV s (pos+(Utf8.decode ⟨s.toArray⟩ pos).2)))
     else K (.bJ [.bool false]) σ
   | _=>False
 | _=>False
@[go_sem ↓] theorem af_ (x : AX) : aX.run P (.JX x) e σ K Kp = VD (x.ev e) σ (.mk : Tg K) := by
  simp only[aX.run,VD];rfl
def Gz (o : Option aR) (l : Nat) (σ : ai) {K : AV → ai → Prop} (_ : Tg K) : Prop := match o with
    | some (.fV s pos) =>
      if pos<s.length then K (.bJ [.bool true,.int .i64 pos,.int .i32 (Utf8.decode ⟨s.toArray⟩ pos).1]) (σ.set l (.fV s (pos+(Utf8.decode ⟨s.toArray⟩ pos).2)))
      else K (.bJ [.bool false]) σ
    | _=>False
@[go_sem] theorem ahB (l : Nat) : VD (.ref l 0) σ (.mk : Tg K) = Gz (σ[l]?) l σ (.mk : Tg K) := by
  simp only[VD,Gz]
@[go_sem] theorem aga (l : Nat) (s : List UInt8) (pos : Nat) (h : s.length ≤ pos) : Gz (some (.fV s pos)) l σ (.mk : Tg K) = K (.bJ [.bool false]) σ := by
  simp only[Gz];rw[if_neg (by omega)]
theorem Ux(l:Nat)(s:List UInt8)(pos:Nat)(h:pos<s.length): Gz (some (.fV s pos)) l σ (.mk:Tg K) =
 K (.bJ [.bool true,.int .i64 pos,.int .i32 (Utf8.decode ⟨s.toArray⟩ pos).1]) (σ.set l (.fV s (pos+(Utf8.decode ⟨s.toArray⟩ pos).2))):=by
 simp only[Gz];rw[if_pos h]
@[go_sem] theorem adX (l:Nat) (s:List UInt8) (pos:Nat) (h:pos<s.length) (ha:(s.getD pos 0).toNat<128):Gz (some (.fV s pos)) l σ (.mk:Tg K) =
 K (.bJ [.bool true,.int .i64 pos,.int .i32 (s.getD pos 0).toNat]) (σ.set l (.fV s (pos+1))):=by
  rw[Ux _ _ _ _ _ h,decode_ascii h ha]
@[go_sem] theorem aeY (l:Nat) (s:List UInt8) (pos:Nat) (h:pos<s.length) (ha:128≤(s.getD pos 0).toNat):Gz (some (.fV s pos)) l σ (.mk:Tg K) =
 K (.bJ [.bool true,.int .i64 pos,.int .i32 (J6 s pos:Nat)]) (σ.set l (.fV s (pos+(Utf8.decode ⟨s.toArray⟩ pos).2))):=by
  rw[Ux _ _ _ _ _ h];rfl
end
def aM(P:Program)(c:aI)(rs:List tM)(args:List AV)(σ : ai)(R:Out→ai→Prop): Prop :=
 ∀ Q:AQ,(∀ e σ,Q .ret e σ = ri e σ rs fun vs=>R (.ret (oneOf vs)) σ)→(∀ e σ,Q .normal e σ = ri e σ rs fun vs=>R (.ret (oneOf vs)) σ)→(∀ v e σ,Q (.panic v) e σ = R (.panic v) σ)→fH P c Q (wB args) σ
theorem aM.go{c:aI}{rs:List tM}{args:List AV}{σ : ai}{R:Out→ai→Prop}(h:aM P c rs args σ R): fH P c (Ri rs R) (wB args) σ :=
 h _ (fun _ _=>rfl) (fun _ _=>rfl) (fun _ _ _=>rfl)
@[go_sem ↓] theorem aeZ (e:Env) (σ : ai) (t:Nat) (ag:Bool) (n:Nat) (r:List tM) (K:List AV→Prop):ri e σ (.cell t ag n::r) K=loadT σ ag n (e t) (.mk:Tg fun v=>kg v (.mk:Tg fun v=>ri e σ r fun vs=>K (v::vs))):=_root_.id rfl
theorem aaf{p K:Prop}(h:p)(hk:K): req p (.mk:Tg K):=⟨h,fun _=>hk⟩
theorem aP{σ : ai}{a b:AV}{vs rs:List AV}(h:a::b::vs=rs)(hp:AV.bW rs=true): ∃ r0,Out.ret (oneOf (a::b::vs))=Out.ret r0∧View σ r0 (.bJ rs):=⟨_,rfl,by subst h;exact .refl _ hp⟩
theorem Lv{σ : ai}{v r:AV}(hv:View σ v r): ∃ r0,Out.ret (oneOf [v])=Out.ret r0∧View σ r0 r:=⟨_,rfl,hv⟩
theorem bw{σ : ai}{a b:AV}{vs rs:List AV}(hv:aQ σ (a::b::vs) rs): ∃ r0,Out.ret (oneOf (a::b::vs))=Out.ret r0∧View σ r0 (.bJ rs):=⟨_,rfl,View.af1 hv⟩
theorem View.eqv{σ : ai}{a b:AV}(h:a=b)(hp:b.cF=true): View σ a b:=by subst h;exact .refl _ hp
theorem aL{σ : ai}{v r:AV}(h:v=r)(hp:r.cF=true): ∃ r0,Out.ret (oneOf [v])=Out.ret r0∧View σ r0 r:=⟨_,rfl,.eqv h hp⟩
theorem tO{r:AV}{lT ds:List AV}{τ : ai}(hv:r = .bJ [])(hd:aQ (.dead:: τ) lT ds):
 ∃ r0 Cq zC,Out.ret (oneOf [])=Out.ret r0∧aR.cells lT:: τ = aR.cells Cq::zC∧View (.dead::zC) r0 r∧aQ (.dead::zC) Cq ds:=⟨_,_,_,rfl,rfl,.eqv hv.symm (by subst hv;rfl),hd⟩
end Go.AM
namespace Go.AM
variable {P:Program}
@[go_sem ↓] theorem agb (K Kp:AV→ai→Prop) (r:AV) (σ : ai):Nt K Kp (.ret r) σ = K r σ:=_root_.id rfl
@[go_sem ↓] theorem adY (K Kp:AV→ai→Prop) (r:AV) (σ : ai):Nt K Kp (.panic r) σ = Kp r σ:=_root_.id rfl
@[go_sem ↓] theorem aci (p:Nat) (ps:List Nat) (a:AV) (az:List AV) (e:Env):oq (p::ps) (a::az) e=oq ps az (dJ e (some p) a):=_root_.id rfl
@[go_sem ↓] theorem adf (e:Env):oq [] [] e=e:=_root_.id rfl
@[go_sem ↓] theorem adg (l:Nat) (o o':aR) (B:Env→ai→Prop) (e:Env) (σ : ai):YH l o o' B .normal e σ = req (σ[l]? = some o) (.mk:Tg (B e (σ.set l o'))):=bK _ _
@[go_sem ↓] theorem adh (l:Nat) (o:LoopState→Option Code→aR) (R:Out→ai→Prop) (e:Env) (σ : ai):Q2 l o R .normal e σ = req (σ[l]? = some (o .busy none)) (.mk:Tg (R (.ret (.bool true)) (σ.set l (o .ready none)))):=bK _ _
@[go_sem ↓] theorem agc (l:Nat) (o:LoopState→Option Code→aR) (R:Out→ai→Prop) (e:Env) (σ : ai):Q2 l o R .ret e σ = req (σ[l]? = some (o .busy none)) (.mk:Tg (R (.ret (.bool false)) (σ.set l (o .done (some .ret))))):=bK _ _
@[go_sem ↓] theorem ae0 (l i:Nat) (o:LoopState→Option Code→aR) (R:Out→ai→Prop) (e:Env) (σ : ai):Q2 l o R (.exit i) e σ = req (σ[l]? = some (o .busy none)) (.mk:Tg (R (.ret (.bool false)) (σ.set l (o .done (some (.exit i)))))):=bK _ _
@[go_sem] theorem VE {f:Bool} {σ : ai} {K Kp:AV→ai→Prop} (x:UInt8):b_ P (.uV (.c (.aG f ⟨false,1⟩ [.int .u8 x.toNat]))) σ (.mk:Tg (K,Kp))=K (.str [x]) σ:=VA σ K Kp f [x]
section
variable {σ : ai} {K Kp:AV→ai→Prop} {l m n lo off:Nat} {cs xs:List AV} {el:El} {T:Option TypeId}
theorem adZ(h : σ[l]? = some (.bj T cs))(hlt:off<cs.length)(hk:K (.ref l off) σ): b_ P (.K6 (.c (.ref l off))) σ (.mk:Tg (K,Kp)):=abM _ _ _ _ _ _ h hlt hk
theorem ad0{t u:TypeId}(h : σ[l]? = some (.bj (some t) cs))(hlt:liesAt P P.depth t (cs.length / P.cellsOf t) off u 1=true)(hk:K (.ref l off) σ): b_ P (.K7 u (.c (.ref l off))) σ (.mk:Tg (K,Kp)):=abN _ _ _ _ _ _ h hlt hk
theorem ad1{ng:Bool}(h : σ[l]? = some (.bj T cs))(hk:K (.bool ng.not) σ): b_ P (.I6 ng (.c (.ref l off)) (.c (.ref l off))) σ (.mk:Tg (K,Kp)):=abO _ _ _ _ _ _ ng h hk
theorem ad2(h : σ[l]? = some (.bM T el xs))(hm:m=xs.length)(hn:0<n)(hk:K (.dD el l m lo 0) σ): b_ P (.EO el (.c (.own el l m lo n))) σ (.mk:Tg (K,Kp)):=Vw _ _ _ _ _ _ _ _ h hm hn hk
theorem aaN(el:El): b_ P (.EO el (.c .ae)) σ (.mk:Tg (K,Kp))=K .fM σ:=_root_.id rfl
theorem Y_(t:TypeId): b_ P (.zh t (.c .fM) (.c (.int .i64 0))) σ (.mk:Tg (K,Kp))=K (.str []) σ:=Ti _ _ _ t
attribute [go_sem] aaN Y_
theorem acj{t:TypeId}{a:Int}(s:List UInt8)(h : σ[l]? = some (.bM (some t) ⟨false,1⟩ xs))(hm:m=xs.length)(hx:xs=s.map fun b=> .int .u8 b.toNat)(h0:s≠[])(h2:s.length≤2 ^ 62)(ha:a=(s.length:Int))(hk:K (.str s) (σ.set l .dead)):
 b_ P (.zh t (.c (.dD ⟨false,1⟩ l m 0 0)) (.c (.int .i64 a))) σ (.mk:Tg (K,Kp)):=Tj _ _ _ _ _ _ s h hm hx h0 h2 ha hk
theorem aaO {g : FuncId} {v : AV} (h : ∃ fn, P.funcs[g]? = some fn ∧ (fn.name == "runtime.NumGoroutine") = false ∧ fn.body.isNone = true ∧ Extern.findNext fn = none ∧ Extern.find fn = some Extern.AbiNoEscape.same) (hk : K v σ) : Xm P g v σ (.mk : Tg K) := ⟨h, hk⟩
end
@[go_sem] theorem agd (sz off : Nat) (cs : List AV) (K : AV → Prop) : r_ false ⟨true, sz⟩ (.agg cs) off false 1 (.mk : Tg K) = req (off + 1 ≤ sz) (.mk : Tg (K (cs.getD off .undef))) := by
  rw[aav _ _ _ _ _ (by simp)];simp[req]
section
variable {α : Type} (ρ τ : List α) (c d x : α)
@[go_sem] theorem ahb:(ρ++c:: τ)[ρ.length]? = some c:=by simp
@[go_sem] theorem ahc:(ρ++c::d:: τ)[ρ.length+1]? = some d:=by rw[List.getElem?_append_right (by omega)];simp
@[go_sem] theorem ahd:(ρ++c:: τ).set ρ.length x = ρ++x:: τ:=by simp
@[go_sem] theorem ahe:(ρ++c::d:: τ).set (ρ.length+1) x = ρ++c::x:: τ:=by rw[List.set_append_right _ _ (by omega)];simp
end
def aag(P:Program)(n:FuncId)(args:List AV)(σ : ai){K:AV→ai→Prop}(_:Tg K): Prop:=Iq P n args σ K
def aah(P:Program)(f:AV)(args:List AV)(σ : ai){K:AV→ai→Prop}(_:Tg K): Prop:=match f with
 | .fn (.func n) [] []=>Iq P n args σ K
 | _=>False
@[go_sem ↓] theorem age {e:Env} {σ : ai} {K Kp:AV→ai→Prop} (f:AX) (args:List AX):aX.run P (.j9 f args) e σ K Kp=aah P (f.ev e) (args.map (AX.ev e)) σ (.mk:Tg K):=_root_.id rfl
@[go_sem] theorem ahf {σ : ai} {K:AV→ai→Prop} (n:FuncId) (args:List AV):aah P (.fn (.func n) [] []) args σ (.mk:Tg K)=aag P n args σ (.mk:Tg K):=_root_.id rfl
theorem vC{n:FuncId}{k off:Nat}{args cs ds:List AV}{r:AV}{σ : ai}{K:AV→ai→Prop}(h:aV P n off args cs ds r)(Cz : σ[k]? = some (.cells cs))(hk:kg r (.mk:Tg fun r=>DM (σ.set k (.cells ds)) (.mk:Tg fun σ=>K r σ))):
 aag P n (.ref k off::args) σ (.mk:Tg K):=⟨k,_,.cells ds,r,rfl,Cz,trivial,h σ k Cz,hk⟩
theorem Nv{n:FuncId}{k off:Nat}{args cs:List AV}{r:AV}{σ : ai}{K Kp:AV→ai→Prop}(h:aV P n off args cs cs r)(Cz : σ[k]? = some (.cells cs))(hk:kg r (.mk:Tg fun r=>K r σ)):
 DP P n (.ref k off::args) σ (.mk:Tg (K,Kp)):=by
 have same:∀ s:ai,s[k]? = some (.cells cs)→s.set k (.cells cs)=s:=fun s hs=>by
  refine List.ext_getElem? fun i=>?_
  by_cases hi:k=i
  ·subst hi;rw[Bc hs,hs]
  ·rw[List.getElem?_set_ne hi]
 refine⟨r,fun τ=>?_,hk⟩
 have hs:(σ++ τ)[k]? = some (.cells cs):=by rw[List.getElem?_append_left (List.getElem?_eq_some_iff.1 Cz).1];exact Cz
 exact(h (σ++ τ) k hs).mono fun o s ⟨h1,h2⟩=>⟨h1,h2.trans (same _ hs)⟩
attribute [go_sem] Int.tdiv_eq_ediv_of_nonneg Int.tmod_eq_emod_of_nonneg abZ ab0 ab1 ab2 aaD aaE ab3 ab4 aaF aaG aaH aaI ab5 ab6 ab7 ab8 ab9 acd ace aaJ aaK YY YZ Y0 Y1 Y2 Y3 Y4 Y5 Y6 Y7 acf acg ach aaL aaM Y8 Y9 getD_map VC take_one Bool.or_false Bool.or_true Bool.true_or Bool.false_or beq_self_eq_true Bool.and_true Bool.true_and Bool.and_false Bool.false_and Int.toNat_natCast Int.toNat_natCast_add_one Int.toNat_zero List.length_map List.length_append Nat.zero_add Bool.not_true Bool.not_false
attribute [simp] AV.fits AV.scalar AV.cells pD j6 AV.obj dX
end Go.AM
namespace Go.Proofs.YtmbgnaoilncbnaaGreatDoor
open Go.AM
set_option maxRecDepth 10000
abbrev uX: FuncId:=3
abbrev tP: FuncId:=4
abbrev wU: FuncId:=5
abbrev uY: FuncId:=6
abbrev jL: FuncId:=11
abbrev eY: FuncId:=12
abbrev gg: FuncId:=13
abbrev si: FuncId:=14
abbrev kH: FuncId:=15
abbrev xB: FuncId:=16
abbrev gL: FuncId:=17
abbrev kI: FuncId:=18
abbrev sj: FuncId:=33
abbrev sk: FuncId:=34
abbrev xC: FuncId:=35
abbrev mL: FuncId:=36
abbrev gM: FuncId:=37
abbrev nC: FuncId:=38
abbrev nD: FuncId:=39
abbrev qz: FuncId:=40
abbrev qA: FuncId:=41
abbrev xD: FuncId:=42
abbrev zD: FuncId:=43
abbrev iD: FuncId:=44
abbrev fN: FuncId:=45
abbrev iV: FuncId:=46
abbrev kj: FuncId:=47
abbrev lg: FuncId:=48
abbrev jM: FuncId:=49
abbrev gE: FuncId:=50
abbrev fZ: FuncId:=51
abbrev jr: FuncId:=52
abbrev mE: FuncId:=53
abbrev lj: FuncId:=54
abbrev xE: FuncId:=55
abbrev jd: FuncId:=56
abbrev rG: FuncId:=57
abbrev lO: FuncId:=58
abbrev BR: FuncId:=61
abbrev iE: FuncId:=72
abbrev nE: FuncId:=73
abbrev tQ: FuncId:=74
abbrev qB: FuncId:=76
abbrev tR: FuncId:=79
abbrev gN: FuncId:=82
abbrev kR: FuncId:=83
abbrev nF: FuncId:=85
abbrev sG: FuncId:=86
abbrev iq: FuncId:=87
abbrev gF: FuncId:=88
abbrev lC: FuncId:=89
abbrev mF: FuncId:=90
abbrev zE: FuncId:=91
abbrev lX: FuncId:=92
abbrev zF: FuncId:=93
abbrev tS: FuncId:=94
abbrev mM: FuncId:=95
abbrev oR: FuncId:=96
abbrev nG: FuncId:=97
abbrev iF: FuncId:=98
abbrev tT: FuncId:=99
abbrev vD: FuncId:=100
abbrev xF: FuncId:=101
abbrev pG: FuncId:=102
abbrev BS: FuncId:=103
abbrev CC: FuncId:=104
abbrev kJ: FuncId:=105
abbrev jW: FuncId:=106
abbrev eg: FuncId:=107
abbrev mN: FuncId:=108
abbrev iG: FuncId:=109
abbrev xG: FuncId:=110
abbrev mO: FuncId:=113
abbrev BU: FuncId:=115
abbrev vE: FuncId:=116
abbrev zG: FuncId:=117
abbrev yJ: FuncId:=118
abbrev vF: FuncId:=119
abbrev jX: FuncId:=122
abbrev zH: FuncId:=123
abbrev zI: FuncId:=124
abbrev jN: FuncId:=125
abbrev xH: FuncId:=126
abbrev zJ: FuncId:=127
abbrev lP: FuncId:=128
abbrev tU: FuncId:=129
abbrev lQ: FuncId:=130
abbrev kS: FuncId:=131
abbrev er: FuncId:=132
abbrev tV: FuncId:=133
abbrev vG: FuncId:=134
abbrev zK: FuncId:=135
abbrev nH: FuncId:=136
abbrev oS: FuncId:=137
abbrev zL: FuncId:=138
abbrev xI: FuncId:=139
abbrev jY: FuncId:=140
abbrev qC: FuncId:=141
abbrev zM: FuncId:=142
abbrev tW: FuncId:=143
abbrev wC: FuncId:=144
abbrev dN: FuncId:=146
abbrev vH: FuncId:=147
abbrev jZ: FuncId:=148
abbrev nI: FuncId:=149
abbrev vI: FuncId:=150
abbrev cV: FuncId:=151
abbrev zN: FuncId:=152
abbrev nT: FuncId:=153
abbrev tX: FuncId:=154
abbrev sH: FuncId:=155
abbrev nU: FuncId:=156
abbrev xJ: FuncId:=157
abbrev pH: FuncId:=158
abbrev wV: FuncId:=159
abbrev zO: FuncId:=160
abbrev ov: FuncId:=161
abbrev xK: FuncId:=163
abbrev oT: FuncId:=164
abbrev qD: FuncId:=165
abbrev xL: FuncId:=166
abbrev xM: FuncId:=167
abbrev xN: FuncId:=168
abbrev mP: FuncId:=169
abbrev dY: FuncId:=170
abbrev zP: FuncId:=171
abbrev oU: FuncId:=172
abbrev tY: FuncId:=173
abbrev xO: FuncId:=174
abbrev sn: FuncId:=175
abbrev zQ: FuncId:=176
abbrev pI: FuncId:=177
abbrev sI: FuncId:=178
abbrev je: FuncId:=179
abbrev lY: FuncId:=180
abbrev vJ: FuncId:=181
abbrev zR: FuncId:=182
abbrev zS: FuncId:=183
abbrev vK: FuncId:=184
abbrev nV: FuncId:=185
abbrev gS: FuncId:=186
abbrev lD: FuncId:=187
abbrev rH: FuncId:=188
abbrev nW: FuncId:=189
abbrev GA: FuncId:=190
abbrev fm: FuncId:=191
abbrev lE: FuncId:=193
abbrev CD: FuncId:=194
abbrev sq: FuncId:=195
abbrev tZ: FuncId:=196
abbrev mG: FuncId:=197
abbrev qE: FuncId:=198
abbrev nX: FuncId:=199
abbrev xP: FuncId:=200
abbrev t_: FuncId:=201
abbrev xQ: FuncId:=202
abbrev rI: FuncId:=203
abbrev c7: FuncId:=204
abbrev gG: FuncId:=205
abbrev gH: FuncId:=206
abbrev ua: FuncId:=207
abbrev uc: FuncId:=208
abbrev ud: FuncId:=209
abbrev pJ: FuncId:=210
abbrev ue: FuncId:=211
abbrev kK: FuncId:=212
abbrev xR: FuncId:=213
abbrev wD: FuncId:=214
abbrev iu: FuncId:=215
abbrev nJ: FuncId:=216
abbrev Be: FuncId:=217
abbrev jB: FuncId:=218
abbrev pK: FuncId:=219
abbrev zT: FuncId:=220
abbrev BV: FuncId:=221
abbrev sr: FuncId:=222
abbrev qF: FuncId:=223
abbrev su: FuncId:=224
abbrev lF: FuncId:=225
abbrev jC: FuncId:=229
abbrev yK: FuncId:=231
abbrev BW: FuncId:=232
abbrev gI: FuncId:=233
abbrev bN: FuncId:=234
abbrev qG: FuncId:=235
abbrev sv: FuncId:=236
abbrev yL: FuncId:=237
abbrev DS: FuncId:=238
abbrev pL: FuncId:=239
abbrev fB: FuncId:=240
abbrev jD: FuncId:=241
abbrev bO: FuncId:=242
abbrev lR: FuncId:=243
abbrev ko: FuncId:=245
abbrev zU: FuncId:=246
abbrev vL: FuncId:=247
abbrev zV: FuncId:=248
abbrev xS: FuncId:=249
abbrev kp: FuncId:=250
abbrev dK: FuncId:=251
abbrev i_: FuncId:=252
abbrev rj: FuncId:=253
abbrev yM: FuncId:=254
abbrev DU: FuncId:=255
abbrev zW: FuncId:=256
abbrev DV: FuncId:=257
abbrev DW: FuncId:=258
abbrev ie: FuncId:=259
abbrev fo: FuncId:=260
abbrev mu: FuncId:=261
abbrev nK: FuncId:=262
abbrev js: FuncId:=263
abbrev pM: FuncId:=264
abbrev kq: FuncId:=265
abbrev mw: FuncId:=266
abbrev rJ: FuncId:=271
abbrev BX: FuncId:=272
abbrev kr: FuncId:=273
abbrev uf: FuncId:=274
abbrev oG: FuncId:=275
abbrev lp: FuncId:=276
abbrev iH: FuncId:=277
abbrev xU: FuncId:=278
abbrev oH: FuncId:=279
abbrev gX: FuncId:=285
end Go.Proofs.YtmbgnaoilncbnaaGreatDoor
namespace Go.AM.W
abbrev Of(P:Program)(n:FuncId)(k:Nat)(rs:List tM)(b:aI): Prop:= ∀ {az:List AV} {σ : ai} {R:Out→ai→Prop},az.length≤k→aM P b rs az σ R→ef P n az σ R
theorem aU {P : Program} {n : FuncId} {fn : Func} {k : Nat} {rs : List tM} {b : aI} (h : Hints) (hf : P.funcs[n]? = some fn) (hn : (fn.name == "runtime.NumGoroutine") = false := by kernel_rfl) (hc : J2 P h fn = some ⟨k, rs, b⟩ := by kernel_rfl) : Of P n k rs b := fun hl hw => ef.of_wp hf hn hc hl hw.go
abbrev t(n:Nat): AX:= .t n
abbrev i6(n:Int): AV:= .int .i64 n
abbrev z0: AV:= .int .i64 0
abbrev e0: AV:= .str []
abbrev R(l:List cq): aI:= .region l
abbrev r(l:List cq)(b:aI): aI:= .seq (.region l) b
abbrev q(a b:aI): aI:= .seq a b
abbrev c(n:Nat)(a b:aI): aI:= .cond (.t n) a b
abbrev k: aI:= .skip
abbrev M(a:Nat)(d:Nat): cq:=⟨.mv (.t a),some d,none⟩
abbrev MT(a:Nat)(d k:Nat): cq:=⟨.mv (.t a),some d,some (k,true)⟩
abbrev MF(a:Nat)(d k:Nat): cq:=⟨.mv (.t a),some d,some (k,false)⟩
abbrev V(a:AV)(d:Nat): cq:=⟨.mv (.c a),some d,none⟩
abbrev L(n a:Nat)(d:Nat): cq:=⟨.load true n (.t a),some d,none⟩
abbrev LT(n a:Nat)(d k:Nat): cq:=⟨.load true n (.t a),some d,some (k,true)⟩
abbrev LF(n a:Nat)(d k:Nat): cq:=⟨.load true n (.t a),some d,some (k,false)⟩
abbrev K(a:Nat)(d:Nat): cq:=⟨.load false 1 (.t a),some d,none⟩
abbrev KT(a:Nat)(d k:Nat): cq:=⟨.load false 1 (.t a),some d,some (k,true)⟩
abbrev KF(a:Nat)(d k:Nat): cq:=⟨.load false 1 (.t a),some d,some (k,false)⟩
abbrev B(o:BinOp)(a b:Nat)(d:Nat): cq:=⟨.bin o (.t a) (.t b),some d,none⟩
abbrev BT(o:BinOp)(a b:Nat)(d k:Nat): cq:=⟨.bin o (.t a) (.t b),some d,some (k,true)⟩
abbrev BF(o:BinOp)(a b:Nat)(d k:Nat): cq:=⟨.bin o (.t a) (.t b),some d,some (k,false)⟩
abbrev D(o:BinOp)(a:Nat)(b:Int)(d:Nat): cq:=⟨.bin o (.t a) (.c (.int .i64 b)),some d,none⟩
abbrev DT(o:BinOp)(a:Nat)(b:Int)(d k:Nat): cq:=⟨.bin o (.t a) (.c (.int .i64 b)),some d,some (k,true)⟩
abbrev DF(o:BinOp)(a:Nat)(b:Int)(d k:Nat): cq:=⟨.bin o (.t a) (.c (.int .i64 b)),some d,some (k,false)⟩
abbrev A(n a:Nat)(d:Nat): cq:=⟨.eV n (.t a),some d,none⟩
abbrev AT(n a:Nat)(d k:Nat): cq:=⟨.eV n (.t a),some d,some (k,true)⟩
abbrev AF(n a:Nat)(d k:Nat): cq:=⟨.eV n (.t a),some d,some (k,false)⟩
abbrev P(a b:Nat)(d:Nat): cq:=⟨.pick (.t a) (.t b) (.c (.bool false)),some d,none⟩
abbrev PT(a b:Nat)(d k:Nat): cq:=⟨.pick (.t a) (.t b) (.c (.bool false)),some d,some (k,true)⟩
abbrev PF(a b:Nat)(d k:Nat): cq:=⟨.pick (.t a) (.t b) (.c (.bool false)),some d,some (k,false)⟩
abbrev O(a b:Nat)(d:Nat): cq:=⟨.pick (.t a) (.c (.bool true)) (.t b),some d,none⟩
abbrev OT(a b:Nat)(d k:Nat): cq:=⟨.pick (.t a) (.c (.bool true)) (.t b),some d,some (k,true)⟩
abbrev S(a:Nat)(d:Nat): cq:=⟨.len true (.t a),some d,none⟩
abbrev ST(a:Nat)(d k:Nat): cq:=⟨.len true (.t a),some d,some (k,true)⟩
abbrev SF(a:Nat)(d k:Nat): cq:=⟨.len true (.t a),some d,some (k,false)⟩
abbrev N(a:Nat)(d:Nat): cq:=⟨.len false (.t a),some d,none⟩
abbrev NT(a:Nat)(d k:Nat): cq:=⟨.len false (.t a),some d,some (k,true)⟩
abbrev NF(a:Nat)(d k:Nat): cq:=⟨.len false (.t a),some d,some (k,false)⟩
abbrev I(b:Bool)(n a c:Nat)(d:Nat): cq:=⟨.bQ ⟨b,n⟩ none (.t a) (.t c),some d,none⟩
abbrev IT(b:Bool)(n a c:Nat)(d k:Nat): cq:=⟨.bQ ⟨b,n⟩ none (.t a) (.t c),some d,some (k,true)⟩
abbrev IF(b:Bool)(n a c:Nat)(d k:Nat): cq:=⟨.bQ ⟨b,n⟩ none (.t a) (.t c),some d,some (k,false)⟩
abbrev E(a n:Nat)(d:Nat): cq:=⟨.ext (.t a) n,some d,none⟩
abbrev ET(a n:Nat)(d k:Nat): cq:=⟨.ext (.t a) n,some d,some (k,true)⟩
abbrev Z(a:Nat)(d:Nat): cq:=⟨.jn (.t a),some d,none⟩
abbrev ZT(a:Nat)(d k:Nat): cq:=⟨.jn (.t a),some d,some (k,true)⟩
abbrev ZF(a:Nat)(d k:Nat): cq:=⟨.jn (.t a),some d,some (k,false)⟩
abbrev X(a:Nat)(d:Nat): cq:=⟨.box (.t a),some d,none⟩
abbrev U(a:Nat)(d:Nat): cq:=⟨.un .not (.t a),some d,none⟩
abbrev UT(a:Nat)(d k:Nat): cq:=⟨.un .not (.t a),some d,some (k,true)⟩
abbrev UF(a:Nat)(d k:Nat): cq:=⟨.un .not (.t a),some d,some (k,false)⟩
abbrev J(l:List AV)(d:Nat): cq:=⟨.alloc none l,some d,none⟩
abbrev C(f:FuncId)(l:List AX)(d:Nat): cq:=⟨.call false (.c (.fn (.func f) [] [])) l,some d,none⟩
abbrev CT(f:FuncId)(l:List AX)(d k:Nat): cq:=⟨.call false (.c (.fn (.func f) [] [])) l,some d,some (k,true)⟩
abbrev CF(f:FuncId)(l:List AX)(d k:Nat): cq:=⟨.call false (.c (.fn (.func f) [] [])) l,some d,some (k,false)⟩
abbrev Q(f:FuncId)(l:List AX)(d:Nat): cq:=⟨.call true (.c (.fn (.func f) [] [])) l,some d,none⟩
abbrev QT(f:FuncId)(l:List AX)(d k:Nat): cq:=⟨.call true (.c (.fn (.func f) [] [])) l,some d,some (k,true)⟩
abbrev QF(f:FuncId)(l:List AX)(d k:Nat): cq:=⟨.call true (.c (.fn (.func f) [] [])) l,some d,some (k,false)⟩
abbrev W(n a b:Nat): cq:=⟨.store n (.t a) (.t b),none,none⟩
end Go.AM.W
