/- Part. -/
import Derived.Test.YtoldfccfpameeaaGreatDoorV14
import Derived.Shelf.SlIter.Nil
import Derived.Shelf.SortM.Plain
import Derived.Shelf.SortM.SortNone
import Derived.Ground.GgzProg
import Derived.Ground.SlgmProg
import Derived.Shelf.SlMaps.Clone
import Derived.Ground.SlmcProg
import Derived.Test.YtoldfccfpameeaaGreatDoorProg
set_option linter.all false
set_option maxHeartbeats 4000000
namespace Go.AM
variable {P:Program}
section
variable (e:Env) (σ : ai) (K Kp:AV->ai->Prop) (x y z:AX)
def xT(P:Program)(o:gu)(vs:List AV)(σ : ai){K Kp:AV->ai->Prop}(_:Tg (K,Kp)): Prop:=o.run P vs σ K Kp
@[go_sem ↓] def amm (el:El):bA.run P (.ex (.yD el false) [x,y,z]) e σ K Kp=xT P (.yD el false) [x.ev e,y.ev e,z.ev e] σ (.mk:Tg (K,Kp)):=_root_.id rfl
@[go_sem ↓] def anx (el:El):bA.run P (.ex (.NH el false) [x,y,z]) e σ K Kp=xT P (.NH el false) [x.ev e,y.ev e,z.ev e] σ (.mk:Tg (K,Kp)):=_root_.id rfl
@[go_sem ↓] def akK:bA.run P (.ex .Cy []) e σ K Kp=K (.mp σ.length) (σ++[.map []]):=_root_.id rfl
@[go_sem ↓] def amn (kd:Option IntKind) (ok:Bool) (v:AV):bA.run P (.ex (.xk kd ok v) [x,y]) e σ K Kp=xT P (.xk kd ok v) [x.ev e,y.ev e] σ (.mk:Tg (K,Kp)):=_root_.id rfl
@[go_sem ↓] def ajZ (kd:Option IntKind):bA.run P (.ex (.wE kd) [x,y,z]) e σ K Kp=xT P (.wE kd) [x.ev e,y.ev e,z.ev e] σ (.mk:Tg (K,Kp)):=_root_.id rfl
@[go_sem ↓] def amo (el:El):bA.run P (.ex (.xm el) [x,y]) e σ K Kp=xT P (.xm el) [x.ev e,y.ev e] σ (.mk:Tg (K,Kp)):=_root_.id rfl
@[go_sem ↓] def anz (el:El):bA.run P (.ex (.DV el) [x,y]) e σ K Kp=xT P (.DV el) [x.ev e,y.ev e] σ (.mk:Tg (K,Kp)):=_root_.id rfl
@[go_sem ↓] def amq (el:El) (n:Nat):bA.run P (.ex (.tV el n false false) [x]) e σ K Kp=xT P (.tV el n false false) [x.ev e] σ (.mk:Tg (K,Kp)):=_root_.id rfl
@[go_sem ↓] def amr (el:El) (n:Nat):bA.run P (.ex (.tV el n true false) [x,y]) e σ K Kp=xT P (.tV el n true false) [x.ev e,y.ev e] σ (.mk:Tg (K,Kp)):=_root_.id rfl
@[go_sem ↓] def ams (el:El) (n:Nat):bA.run P (.ex (.tV el n false true) [x,y]) e σ K Kp=xT P (.tV el n false true) [x.ev e,y.ev e] σ (.mk:Tg (K,Kp)):=_root_.id rfl
@[go_sem ↓] def anA (el:El):bA.run P (.ex (.copy el) [x,y]) e σ K Kp=xT P (.copy el) [x.ev e,y.ev e] σ (.mk:Tg (K,Kp)):=_root_.id rfl
@[go_sem ↓] def amt (ng:Bool):bA.run P (.ex (.AO ng) [x]) e σ K Kp=xT P (.AO ng) [x.ev e] σ (.mk:Tg (K,Kp)):=_root_.id rfl
variable (k k':IntKind) (a b:Int) (el:El) (xs ys cs:List AV) (l m lo n o i:Nat) (f f':Bool)
def aef{c d:Nat}{a b:Int}{K:Nat->Nat->Nat->Prop}: (mc none (.int k a) (.int k' b) c K)=((0<=b/\b<=c)/\(0<=a/\a<=b)/\K 0 a.toNat b.toNat):=by
 simp only[mc,bound,eq_iff_iff];constructor
 ·rintro⟨h1,h2,h3,h4,h5⟩;exact⟨⟨h1,h2⟩,⟨h3,ae⟩,h5⟩
 rintro⟨⟨h1,h2⟩,⟨h3,h4⟩,h5⟩;exact⟨h1,h2,h3,ae,h5⟩
@[go_sem] def aiZ : xT P (.yD el false) [.aU, .int k a, .int k' b] σ (.mk : Tg (K, Kp)) = req ((0 <= b /\ b <= ((0 : Nat) : Int)) /\ 0 <= a /\ a <= b) (.mk : Tg (K .aU σ)) := by
  rw[<-dH];show mc none (.int k a) (.int k' b) 0 (fun _ _ _=>K .aU σ)=_;rw[aef (d:=0)];simp only[and_assoc]
@[go_sem] def aj0 : xT P (.yD el false) [.aS f el xs, .int k a, .int k' b] σ (.mk : Tg (K, Kp)) = req ((0 <= b /\ b <= xs.length) /\ 0 <= a /\ a <= b) (.mk : Tg (K (.aS (a.toNat == b.toNat) el (xs.take a.toNat)) σ)) := by
  rw[<-dH];show(el=el/\mc none (.int k a) (.int k' b) xs.length (fun l h m=>K (.aS (h==m) el ((xs.drop l).take (h-l))) σ))=_;rw[aef (d:=0)];simp only[true_and,and_assoc,eU,jm]
@[go_sem] def akL : xT P (.NH el false) [.aS f el xs, .int k a, .int k' b] σ (.mk : Tg (K, Kp)) = req ((0 <= b /\ b <= xs.length) /\ 0 <= a /\ a <= b) (.mk : Tg (K (.aS (a.toNat == b.toNat) el (xs.take a.toNat)) σ)) := by
  rw[<-dH];show(el=el/\mc none (.int k a) (.int k' b) xs.length (fun l h m=>K (.aS (h==m) el ((xs.drop l).take (h-l))) σ))=_;rw[aef (d:=0)];simp only[true_and,and_assoc,eU,jm]
def lkF(v:AV)(σ : ai)(r:Option (Option (Nat × AV))){K:AV->ai->Prop}(_:Tg K): Prop:=match r with
 | some (some (_,u))=>K u σ
 | some none=>K v σ
 | none=>False
def lkO(v q:AV)(σ : ai)(o:Option aX){K:AV->ai->Prop}(t:Tg K): Prop:=match o with
 | some (.map es)=>lkF v σ (lF q es 0) t
 | _=>False
@[go_sem] def anX (kd : Option IntKind) (v q : AV) : xT P (.xk kd false v) [.mp l, q] σ (.mk : Tg (K, Kp)) = req (q.pI kd = true) (.mk : Tg (lkO v q σ (σ[l]?) (.mk : Tg K))) := by
  rw[<-dH]
  show(q.pI kd=true/\match σ[l]? with
   | some (.map es) => match lF q es 0 with
     | some (some (_,v))=>K v σ
     | some none=>K v σ
     | none=>False
   | _=>False)=_
  unfold lkO;cases σ[l]? with
  | none=>rfl
  | some ob =>
    cases ob<;>rfl
@[go_sem] def anY (v q:AV) (es:List (AV × AV)):lkO v q σ (some (.map es)) (.mk:Tg K)=lkF v σ (lF q es 0) (.mk:Tg K):=_root_.id rfl
@[go_sem] def amu (v u:AV) (i:Nat):lkF v σ (some (some (i,u))) (.mk:Tg K)=K u σ:=_root_.id rfl
@[go_sem] def amv (v:AV):lkF v σ (some none) (.mk:Tg K)=K v σ:=_root_.id rfl
def msF(l:Nat)(σ : ai)(r:Option (List (AV × AV))){K:AV->ai->Prop}(_:Tg K): Prop:=match r with
 | some es'=>K (.bR []) (σ.set l (.map es'))
 | none=>False
def msO(l:Nat)(q v:AV)(σ : ai)(o:Option aX){K:AV->ai->Prop}(t:Tg K): Prop:=match o with
 | some (.map es)=>msF l σ (wF q v es) t
 | _=>False
@[go_sem] def amw (kd : Option IntKind) (q v : AV) : xT P (.wE kd) [.mp l, q, v] σ (.mk : Tg (K, Kp)) = req (q.pI kd = true) (.mk : Tg (msO l q v σ (σ[l]?) (.mk : Tg K))) := by
  rw[<-dH]
  show(q.pI kd=true/\match σ[l]? with
   | some (.map es) => match wF q v es with
     | some es'=>K (.bR []) (σ.set l (.map es'))
     | none=>False
   | _=>False)=_
  unfold msO;cases σ[l]? with
  | none=>rfl
  | some ob =>
    cases ob<;>rfl
@[go_sem] def anZ (q v:AV) (es:List (AV × AV)):msO l q v σ (some (.map es)) (.mk:Tg K)=msF l σ (wF q v es) (.mk:Tg K):=_root_.id rfl
@[go_sem] def amx (es:List (AV × AV)):msF l σ (some es) (.mk:Tg K)=K (.bR []) (σ.set l (.map es)):=_root_.id rfl
@[go_sem] def ai0 : xT P (.xm el) [.aU, .aS f el ys] σ (.mk : Tg (K, Kp)) = req (ys.all (fun a => a.fits el) = true /\ ys.length ≠ 0 /\ gw ys.length el) (.mk : Tg (K (.aS false el ys) σ)) := by
  rw[<-dH];show(el=el/\_)=_;simp only[true_and,and_assoc]
@[go_sem] def aj1 : xT P (.xm el) [.aS true el xs, .aS f el ys] σ (.mk : Tg (K, Kp)) = req (ys.all (fun a => a.fits el) = true /\ ys.length ≠ 0 /\ gw (xs.length + ys.length) el) (.mk : Tg (K (.aS false el (xs ++ ys)) σ)) := by
  rw[<-dH];show(el=el/\_/\_/\el=el/\_)=_;simp only[true_and,and_assoc]
def abx{x y:AV}(h:∀ bE l m lo n,x≠ .own bE l m (lo+1) n): xT P (.DV el) [x,y] σ (.mk:Tg (K,Kp))=eE P (.app none el (.c x) (.c y)) σ (.mk:Tg (K,Kp)):=by
 show CA σ el x y K=oT σ none el x y K;unfold CA;split
 ·exact absurd rfl (h _ _ _ _ _)
 rfl
@[go_sem] def YT (y:AV):xT P (.DV el) [.aU,y] σ (.mk:Tg (K,Kp))=eE P (.app none el (.c .aU) (.c y)) σ (.mk:Tg (K,Kp)):=abx _ _ _ _ fun _ _ _ _ _ h=>by cases h
@[go_sem] def YU (y:AV):xT P (.DV el) [.own el l m 0 n,y] σ (.mk:Tg (K,Kp))=eE P (.app none el (.c (.own el l m 0 n)) (.c y)) σ (.mk:Tg (K,Kp)):=abx _ _ _ _ fun _ _ _ _ _ h=>by cases h
def YV(σ : ai)(el:El)(l m lo n:Nat)(ys:List AV)(ob:Option aX){K:AV->ai->Prop}(_:Tg K): Prop:=match ob with
 | some (.dh _ bL xs)=>bL=el/\m=xs.length/\lo+1+n=m/\gw (n+ys.length) el/\K (.own el σ.length (n+ys.length) 0 (n+ys.length)) (σ.set l .dead++[.vec el (xs.drop (lo+1)++ys)])
 | _=>False
@[go_sem] def YW (s : List UInt8) : xT P (.DV ⟨false, 1⟩) [.own ⟨false, 1⟩ l m (lo + 1) n, .str s] σ (.mk : Tg (K, Kp)) = YV σ ⟨false, 1⟩ l m lo n (s.map fun b => .int .u8 b.toNat) (σ[l]?) (.mk : Tg K) := by
  have hall:(s.map fun b=>AV.int .u8 b.toNat).all (fun a=>a.fits ⟨false,1⟩)=true:=by simp[AV.fits]
  show(_=_/\(_=_/\(_/\_)))=_;simp only[true_and,hall];unfold YV;cases σ[l]? with
  | none=>rfl
  | some ob=>cases ob<;>rfl
@[go_sem] def agm (T : Option TypeId) (xs ys : List AV) : YV σ el l m lo n ys (some (.dh T el xs)) (.mk : Tg K) = req (m = xs.length /\ lo + 1 + n = m /\ gw (n + ys.length) el) (.mk : Tg (K (.own el σ.length (n + ys.length) 0 (n + ys.length)) (σ.set l .dead ++ [.vec el (xs.drop (lo + 1) ++ ys)]))) := by
  rw[<-dH];simp only[YV,true_and,and_assoc]
@[go_sem] def an0 (h : 0 < n) : xT P (.tV el n false false) [.ref l o] σ (.mk : Tg (K, Kp)) = K (.l7 el (.ref l o) n) σ := by
  show(true=true/\K (if n=0 then .aS false el []else .l7 el (.ref l (o+0*el.sz)) (n-0)) σ)=_;rw[aj ae];simp
@[go_sem] def an1 (h : 0 <= a) (h2 : a < n) : xT P (.tV el n true false) [.ref l o, .int k a] σ (.mk : Tg (K, Kp)) = K (.l7 el (.ref l (o + a.toNat * el.sz)) (n - a.toNat)) σ := by
  show(true=true/\0<=a/\a<=n/\K (if n=a.toNat then .aS false el []else .l7 el (.ref l (o+a.toNat*el.sz)) (n-a.toNat)) σ)=_;rw[aj ae];simp only[true_and,h,eq_iff_iff];exact⟨fun h=>h.2,fun h=>⟨ae,h⟩⟩
@[go_sem] def an2 (h : 0 < b) (h2 : b <= n) : xT P (.tV el n false true) [.ref l o, .int k b] σ (.mk : Tg (K, Kp)) = K (.l7 el (.ref l o) b.toNat) σ := by
  show(true=true/\0<=b/\b<=n/\K (if b.toNat=0 then .aS false el []else .l7 el (.ref l (o+0*el.sz)) (b.toNat-0)) σ)=_;rw[aj ae];simp only[true_and,eq_iff_iff,Nat.zero_mul,eV,jm];exact⟨fun h=>h.2.2,fun h=>⟨ae,h2,h⟩⟩
def cpO(σ : ai)(l o n:Nat)(src:Option aX)(o' n':Nat)(dst:Option aX){K:AV->ai->Prop}(_:Tg K): Prop:=match src,dst with
 | some (.bV _ cs'), some (.bV T cs) => o' + n' <= cs'.length /\ ((cs'.drop o').take n').all (fun a => a.fits ⟨false, 1⟩) = true /\ ((((cs'.drop o').take n').take n).length = min ((cs'.drop o').take n').length n /\ (((cs'.drop o').take n').take n).all AV.scalar = true /\ o + min ((cs'.drop o').take n').length n <= cs.length) /\
    K (.int .i64 (min ((cs'.drop o').take n').length n:Nat)) (σ.set l (.bV T (fD cs o (((cs'.drop o').take n').take n))))
 | _,_=>False
@[go_sem] def aj2 (l' o' n' : Nat) : xT P (.copy ⟨false, 1⟩) [.l7 ⟨false, 1⟩ (.ref l o) n, .l7 ⟨false, 1⟩ (.ref l' o') n'] σ (.mk : Tg (K, Kp)) = cpO σ l o n (σ[l']?) o' n' (σ[l]?) (.mk : Tg K) := by
  show Cz σ ⟨false,1⟩ (.l7 ⟨false,1⟩ (.ref l o) n) (.l7 ⟨false,1⟩ (.ref l' o') n') K=_;simp only[Cz,gC,iP,Bz,nX,true_and];unfold cpO;cases σ[l']? with
  | none=>rfl
  | some ob =>
    cases ob<;>first|rfl|skip
    rename_i T' cs';cases σ[l]? with
    | none=>simp
    | some Zz =>
      cases Zz<;>first|(simp;done)|skip
      simp only[AV.cells,forall_const,true_and,if_true,and_assoc,Bool.true_eq_false,false_imp_iff,reduceCtorEq]
@[go_sem] def an3 (cs cs' : List AV) (o' n' : Nat) : cpO σ l o n (some (.cells cs')) o' n' (some (.cells cs)) (.mk : Tg K) = req (o' + n' <= cs'.length /\ ((cs'.drop o').take n').all (fun a => a.fits ⟨false, 1⟩) = true /\ ((((cs'.drop o').take n').take n).length = min ((cs'.drop o').take n').length n /\ (((cs'.drop o').take n').take n).all AV.scalar = true /\ o + min ((cs'.drop o').take n').length n <= cs.length)) (.mk : Tg (K (.int .i64 (min ((cs'.drop o').take n').length n : Nat)) (σ.set l (.cells (fD cs o (((cs'.drop o').take n').take n)))))) := by
  rw[<-dH];simp only[cpO,and_assoc]
def QK(p:Prop){T E:Prop}(_:Tg (T,E)): Prop:=(p->T)/\E
def aiy{p T E:Prop}(h:p->T)(h':E): QK p (.mk:Tg (T,E)):=⟨h,h'⟩
@[go_sem] def aj3 (ng : Bool) : xT P (.AO ng) [.aS f el xs] σ (.mk : Tg (K, Kp)) = QK (xs = []) (.mk : Tg (K (.bool (if ng then false else true)) σ, K (.bool (if ng then true else false)) σ)) := by
  cases xs with
  | nil=>show(_/\_)=((_->_)/\_);cases ng<;>simp
  | cons x xs =>
    have:QK (x::xs=[]) (.mk:Tg (K (.bool (if ng then false else true)) σ,K (.bool (if ng then true else false)) σ))=K (.bool (if ng then true else false)) σ:=by simp[QK]
    rw[this];cases ng<;>rfl
end
end Go.AM
namespace Go.Proofs.YtoldfccfpameeaaGreatDoor
open Go.AM
set_option maxRecDepth 4000
abbrev U(n:Int): AV:= .int .u32 n
def TE(n:Int): 0<=di .u64 n:=by
 show 0<=n % 18446744073709551616;omega
def agn(op:BinOp)(a b:Int): 0<=iW op .u64 a b:=by
 rw[oH];unfold nW;cases op<;>exact TE _
noncomputable def aeg (x s:Int):Int:=iW .or .u32 (di .u32 (x*2 ^ (Nat.min s.toNat (IntKind.u32).bits))) (x.fdiv (2 ^ (Nat.min (di .u64 (32-s)).toNat (IntKind.u32).bits)))
noncomputable def xG (x n:Int):Int:=aeg x (iW .and .u64 (di .u64 (di .i64 (0-n))) 31)
def HJ(x k:Int): aQ aI 244 [U x,I k] (U (aeg x (iW .and .u64 (di .u64 k) 31))):=by
 have h1:=agn .and (di .u64 k) 31;have h2:=TE (32-iW .and .u64 (di .u64 k) 31);unfold aeg;refine aY x5 ?_;intro Q aJ aK aL;repeat' first|refine aC ?_|refine aB ?_ ?_<;>intro hw<;>try omega|fail
 all_goals first|exact a_ rfl rfl|skip
def DP(x n:Int): aQ aI 200 [U x,I n] (U (xG x n)):=by
 have h1:=HJ x (di .i64 (0-n));unfold xG;refine aY Ur ?_;intro Q aJ aK aL;repeat' first|refine aC ?_|refine aB ?_ ?_<;>intro hw<;>try omega|fail
 all_goals first|exact a_ rfl rfl|skip
abbrev E8: El:=⟨false,1⟩
def lq(B:aT): List AV:=B.map fun b=>AV.int .u8 b.toNat
def Hs{S:ai}{w:Nat}{o:aX}(h:S[w]? = some o)(c:aX): (S.set w c)[w]? = some c:=bw (aE.1 h).1
def ago{S:ai}{w l:Nat}{o:aX}(h:S[l]? = some o)(hne:w≠l)(c:aX): (S.set w c)[l]? = some o:=by rw[aF hne];exact h
def aby{S:ai}{w:Nat}{o:aX}(h:S[w]? = some o): S.set w o=S:=by
 apply jA;intro i;by_cases e:w=i
 ·subst e;rw[Hs h];exact h.symm
 rw[aF e]
noncomputable def shW (B:aT) (lo t:Nat):Int :=
 iW .or .u32 (iW .or .u32 (iW .or .u32 (di .u32 (di .u32 (B.getD (lo+4*t) 0).toNat*2 ^ 24)) (di .u32 (di .u32 (B.getD (lo+(4*t+1)) 0).toNat*2 ^ 16))) (di .u32 (di .u32 (B.getD (lo+(4*t+2)) 0).toNat*2 ^ 8))) (di .u32 (B.getD (lo+(4*t+3)) 0).toNat)
noncomputable def yg (B:aT) (lo:Nat) (W:List Int):Nat->List Int
 | 0=>W
 | t+1=>(yg B lo W t).set t (shW B lo t)
def GF(B:aT)(lo:Nat)(W:List Int): ∀ t,(yg B lo W t).length=W.length
 | 0=>rfl
 | t+1=>by simp[yg,GF B lo W t]
noncomputable def aeX (W:List Int) (t:Nat):Int :=
 di .u32 (di .u32 (di .u32 (W.getD (t-16) default+W.getD (t-7) default)+iW .xor .u32 (iW .xor .u32 (xG (W.getD (t-15) default) 7) (xG (W.getD (t-15) default) 18)) ((W.getD (t-15) default).fdiv (2 ^ 3)))+iW .xor .u32 (iW .xor .u32 (xG (W.getD (t-2) default) 17) (xG (W.getD (t-2) default) 19)) ((W.getD (t-2) default).fdiv (2 ^ 10)))
noncomputable def AA (W:List Int):Nat->List Int
 | 0=>W
 | j+1=>(AA W j).set (16+j) (aeX (AA W j) (16+j))
def GG(W:List Int): ∀ t,(AA W t).length=W.length
 | 0=>rfl
 | t+1=>by simp[AA,GG W t]
noncomputable def yy (B:aT) (lo:Nat) (Z:List Int):List Int:=AA (yg B lo Z 16) 48
def U9(B:aT)(lo:Nat)(Z:List Int): (yy B lo Z).length=Z.length:=by rw[yy,GG,GF]
def YX {S : ai} {l w lo : Nat} {B : aT} {Z : List Int} (hl : S[l]? = some (.vec E8 (lq B))) (hlo : lo + 64 <= B.length) (hw : S[w]? = some (.cells (Z.map U))) (hz : Z.length = 64) :
    cK aI 199 [.own E8 l B.length lo 64,.ref w 0] S (fun o S'=>o = .ret (.bR [])/\S'=S.set w (.cells ((yy B lo Z).map U))):=by
 have hne:w≠l:=fun e=>by subst e;rw[hl]at hw;cases hw
 have hL:=fun c=>ago hl hne c;have hW:=fun c=>Hs hw c;have Ea:(lq B).length=B.length:=by simp[lq]
 refine Qd.go ?_;unfold dO;intro Q aJ aK aL;repeat' first|refine aC ?_|refine aB ?_ ?_<;>intro hw<;>try omega|fail
 with_reducible refine bG [4,1,8,41] (fun t:Nat=>[(8,I t)]) (fun t=>S.set w (.cells ((yg B lo Z t).map U))) (fun t=>t<=16) (fun t=>16-t) (0) ?_ ?_ ?_ ?_
 ·simp
 ·exact(aby hw).symm
 ·exact at_
 rintro t r ht;try dsimp only at ht
 have hlen:=GF B lo Z t;by_cases h16:t<16
 ·have g0:(lq B).getD (lo+4*t) .undef = .int .u8 (B.getD (lo+4*t) 0).toNat:=getD_map _ _ _ ae;have g1:(lq B).getD (lo+(4*t+1)) .undef = .int .u8 (B.getD (lo+(4*t+1)) 0).toNat:=getD_map _ _ _ ae;have g2:(lq B).getD (lo+(4*t+2)) .undef = .int .u8 (B.getD (lo+(4*t+2)) 0).toNat:=getD_map _ _ _ ae;have g3:(lq B).getD (lo+(4*t+3)) .undef = .int .u8 (B.getD (lo+(4*t+3)) 0).toNat:=getD_map _ _ _ ae;have c0:(4*(t:Int)).toNat=4*t:=ae;have c1:(4*(t:Int)+1).toNat=4*t+1:=ae;have c2:(4*(t:Int)+2).toNat=4*t+2:=ae;have c3:(4*(t:Int)+3).toNat=4*t+3:=ae;repeat' first|simp (disch:=omega) only[go_sem,aJ,aK,aL,hL,hW,c0,c1,c2,c3,g0,g1,g2,g3,Ea]|refine aC ?_|refine aB ?_ ?_<;>intro hw<;>try omega|fail
  refine⟨t+1,?_,?_,?_,c8,?_⟩
  ·dsimp only;omega
  ·dsimp only;omega
  ·simp[yg,List.map_set,shW]
  exact at_
 obtain rfl:t=16:=ae;repeat' first|refine aC ?_|refine aB ?_ ?_<;>intro hw<;>try omega|fail
 with_reducible refine bG [5,3,49,51] (fun j:Nat=>[(5,I (16+j:Nat))]) (fun j=>S.set w (.cells ((AA (yg B lo Z 16) j).map U))) (fun j=>j<=48) (fun j=>48-j) (0) ?_ ?_ ?_ ?_
 ·simp
 ·rfl
 ·exact at_
 rintro j r2 hj;try dsimp only at hj
 have aeR:=GG (yg B lo Z 16) j;generalize hX:AA (yg B lo Z 16) j=X at *;by_cases h48:j<48
 ·have c1:((16+j:Nat):Int)-15=(1+j:Nat):=ae;have c2:((16+j:Nat):Int)-2=(14+j:Nat):=ae;have c3:((16+j:Nat):Int)-16=(j:Nat):=ae;have c4:((16+j:Nat):Int)-7=(9+j:Nat):=ae;have r1:=fun n=>DP (X.getD (1+j) default) n;have r2:=fun n=>DP (X.getD (14+j) default) n;repeat' first|simp (disch:=omega) only[go_sem,aJ,aK,aL,hW,c1,c2,c3,c4,Nat.mul_one]|refine aC ?_|refine eS (r1 7) ?_|refine eS (r1 18) ?_|refine eS (r2 17) ?_|refine eS (r2 19) ?_|refine aB ?_ ?_<;>intro hw<;>try omega|fail
  refine⟨j+1,?_,?_,?_,c8,?_⟩
  ·dsimp only;omega
  ·dsimp only;omega
  ·have d1:16+j-15=1+j:=ae;have d2:16+j-2=14+j:=ae;have d3:16+j-16=j:=ae;have d4:16+j-7=9+j:=ae;simp[AA,hX,List.map_set,aeX,d1,d2,d3,d4]
  exact at_
 obtain rfl:j=48:=ae;repeat' first|refine aC ?_|refine aB ?_ ?_<;>intro hw<;>try omega|fail
 exact⟨rfl,by rw[<-hX];rfl⟩
noncomputable def TF (KC W:List Int) (t:Nat):List Int->List Int
 | [a0, a1, a2, a3, a4, a5, a6, a7] =>
   let x:=di .u32 (di .u32 (di .u32 (di .u32 (a7+iW .xor .u32 (iW .xor .u32 (xG a4 6) (xG a4 11)) (xG a4 25))+iW .xor .u32 a6 (iW .and .u32 a4 (iW .xor .u32 a5 a6)))+KC.getD t default)+W.getD t default)
   let y:=di .u32 (iW .xor .u32 (iW .xor .u32 (xG a0 2) (xG a0 13)) (xG a0 22)+iW .or .u32 (iW .and .u32 a0 a1) (iW .and .u32 a2 (iW .or .u32 a0 a1)))
   [di .u32 (x+y),a0,a1,a2,di .u32 (a3+x),a4,a5,a6]
 | l=>l
noncomputable def vZ (KC W V:List Int):Nat->List Int
 | 0=>V
 | t+1=>TF KC W t (vZ KC W V t)
def eight{V:List Int}(h:V.length=8): ∃ a0 a1 a2 a3 a4 a5 a6 a7,V=[a0,a1,a2,a3,a4,a5,a6,a7]:=by
 match V,h with
 | [a0,a1,a2,a3,a4,a5,a6,a7],_=>exact⟨_,_,_,_,_,_,_,_,rfl⟩
def YY(KC W:List Int)(t:Nat){V:List Int}(h:V.length=8): (TF KC W t V).length=8:=by
 obtain⟨a0,a1,a2,a3,a4,a5,a6,a7,rfl⟩:=eight h;rfl
def Iz(KC W:List Int){V:List Int}(h:V.length=8): ∀ t,(vZ KC W V t).length=8
 | 0=>h
 | t+1=>YY KC W t (Iz KC W h t)
noncomputable def GH (V H:List Int):Nat->List Int
 | 0=>H
 | i+1=>(GH V H i).set i (di .u32 ((GH V H i).getD i default+V.getD i default))
def JW(V H:List Int): ∀ t,(GH V H t).length=H.length
 | 0=>rfl
 | t+1=>by simp[GH,JW V H t]
def lN(KC H:List Int)(v:AV)(z:Int): List AV:=H.map U++(v::I z::KC.map U)
noncomputable def Nw (KC H:List Int) (B:aT) (lo:Nat):List Int:=GH (vZ KC (yy B lo (List.replicate 64 0)) H 64) H 8
def aeh(KC H:List Int)(B:aT)(lo:Nat): (Nw KC H B lo).length=H.length:=JW _ _ _
section
variable {KC H:List Int} {v:AV} {z:Int} (hH:H.length=8) (hK:KC.length=64)
include hH
theorem tg(hK:KC.length=64): (lN KC H v z).length=74:=by simp[lN,hH,hK]
theorem WG: (lN KC H v z).take 8=H.map U:=by simp[lN,<-hH]
theorem amy{i:Nat}(hi:i<8): (lN KC H v z).getD i .undef=U (H.getD i default):=by
 unfold lN;rw[List.getD_eq_getElem?_getD,aH (by simp;omega),<-List.getD_eq_getElem?_getD,getD_map _ _ _ ae]
theorem amA{i:Nat}(hK:KC.length=64)(hi:i<64): (lN KC H v z).getD (10+i) .undef=U (KC.getD i default):=by
 unfold lN;rw[aq,bq (by simp;omega)];have e:10+i-(H.map U).length=i+2:=by simp;omega
 rw[e,bT,bT,<-aq,getD_map _ _ _ ae]
theorem aiz{i:Nat}(hi:i<8)(x:Int): (lN KC H v z).set i (U x)=lN KC (H.set i x) v z:=by
 unfold lN;rw[iM _ _ (by simp;omega),List.map_set]
end
def agp {S : ai} {l k lo : Nat} {B : aT} {KC H : List Int} {v : AV} {z : Int} (hl : S[l]? = some (.vec E8 (lq B))) (hlo : lo + 64 <= B.length) (hk : S[k]? = some (.cells (lN KC H v z))) (hH : H.length = 8) (hK : KC.length = 64) :
    cK aI 149 [.ref k 0,.own E8 l B.length lo 64] S (fun o S'=>o = .ret (.bR [])/\S'[k]? = some (.cells (lN KC (Nw KC H B lo) v z))/\ ∀ j ob,S[j]? = some ob->j≠k->S'[j]? = some ob):=by
 have zO:=(aE.1 hk).1;have iX:=(aE.1 hl).1;obtain⟨E,hE⟩:=cq (Nw KC H B lo);rw[hE];unfold Nw at hE;refine Jd.go ?_;unfold dO;intro Q aJ aK aL;repeat' first|refine aC ?_|refine aB ?_ ?_<;>intro hw<;>try omega|fail
 refine bS (YX (l:=l) (w:=S.length) (Z:=List.replicate 64 0) (by rw[aH iX];exact hl) hlo aR rfl) ?_;rintro o S1 ⟨rfl,rfl⟩
 have q0:∀ (T:ai) (c d:aX) (j:Nat) (ob:aX),S[j]? = some ob->((S++[c]).set S.length d)[j]? = some ob:=fun T c d j ob h=>by
  have:=(aE.1 h).1;rw[aF ae,aH this];exact h
 have q1:∀ (c d:aX),((S++[c]).set S.length d)[S.length]? = some d:=fun c d=>bw aR;have q2:∀ (c d:aX),((S++[c]).set S.length d).length=S.length+1:=fun c d=>by simp
 refine(fun key=>key _ (q0 S _ _) (q1 _ _) (q2 _ _)) (?_:∀ T:ai,(∀ j ob,S[j]? = some ob->T[j]? = some ob)->T[S.length]? = some (.cells ((yy B lo (List.replicate 64 0)).map U))->T.length=S.length+1->Mv _ _ _ T);intro T hT0 hT1 hT2;have hsl:=U9 B lo (List.replicate 64 0);rw[gi]at hsl;obtain⟨h0,h1,h2,h3,h4,h5,h6,h7,rfl⟩:=eight hH;have hTk:=hT0 _ _ hk;have lM:=tg (v:=v) (z:=z) hH hK;have hct:=WG (KC:=KC) (v:=v) (z:=z) hH;simp only[bB,cY]at hct;generalize yy B lo (List.replicate 64 0)=W at *;have hHU:([h0,h1,h2,h3,h4,h5,h6,h7].map U).length=8:=rfl;have hkT:=(aE.1 hTk).1;have hxk:=fun c=>(by rw[aH hkT];exact hTk:(T++[c])[k]? = some (.cells (lN KC [h0,h1,h2,h3,h4,h5,h6,h7] v z)));have hxw:=fun c=>(by rw[aH ae];exact hT1:(T++[c])[S.length]? = some (.cells (W.map U)));have Rv:∀ c:aX,(T++[c])[T.length]? = some c:=fun c=>by simp
 have hxs:∀ c d:aX,(T++[c]).set T.length d=T++[d]:=fun c d=>by simp
 repeat' first|simp (disch:=omega) only[go_sem,aJ,aK,aL,hTk,hct,lM,hHU,eU]|refine aC ?_|refine aB ?_ ?_<;>intro hw<;>try omega|fail
 with_reducible refine bG [6,5,18,74] (fun t:Nat=>[(18,I t)]) (fun t=>T++[.cells ((vZ KC W [h0,h1,h2,h3,h4,h5,h6,h7] t).map U)]) (fun t=>t<=64) (fun t=>64-t) (0) ?_ ?_ ?_ ?_
 ·simp
 ·simp[vZ]
 ·exact at_
 rintro t r ht;try dsimp only at ht
 have hRl:=Iz KC W hH t;generalize hR:vZ KC W [h0,h1,h2,h3,h4,h5,h6,h7] t=R at *;by_cases h64:t<64
 ·obtain⟨a0,a1,a2,a3,a4,a5,a6,a7,rfl⟩:=eight hRl;have rE:=fun n=>DP a4 n;have rA:=fun n=>DP a0 n;have Pk:=amA (H:=[h0,h1,h2,h3,h4,h5,h6,h7]) (v:=v) (z:=z) hH hK h64;have e0 : [U a0,U a1,U a2,U a3,U a4,U a5,U a6,U a7].getD 0 .undef=U a0:=rfl;have e1 : [U a0,U a1,U a2,U a3,U a4,U a5,U a6,U a7].getD (Int.toNat 1) .undef=U a1:=rfl;have e2 : [U a0,U a1,U a2,U a3,U a4,U a5,U a6,U a7].getD (Int.toNat 2) .undef=U a2:=rfl;have e3 : [U a0,U a1,U a2,U a3,U a4,U a5,U a6,U a7].getD (Int.toNat 3) .undef=U a3:=rfl;have e4 : [U a0,U a1,U a2,U a3,U a4,U a5,U a6,U a7].getD (Int.toNat 4) .undef=U a4:=rfl;have e5 : [U a0,U a1,U a2,U a3,U a4,U a5,U a6,U a7].getD (Int.toNat 5) .undef=U a5:=rfl;have e6 : [U a0,U a1,U a2,U a3,U a4,U a5,U a6,U a7].getD (Int.toNat 6) .undef=U a6:=rfl;have e7 : [U a0,U a1,U a2,U a3,U a4,U a5,U a6,U a7].getD (Int.toNat 7) .undef=U a7:=rfl;have hm:fD [U a0,U a1,U a2,U a3,U a4,U a5,U a6,U a7] (Int.toNat 1) (List.take (8-Int.toNat 1) (List.take (Int.toNat 7) [U a0,U a1,U a2,U a3,U a4,U a5,U a6,U a7]))=[U a0,U a0,U a1,U a2,U a3,U a4,U a5,U a6]:=rfl;have m4 : [U a0,U a0,U a1,U a2,U a3,U a4,U a5,U a6].getD (Int.toNat 4) .undef=U a3:=rfl;have i1:Int.toNat 4+1<=[U a0,U a0,U a1,U a2,U a3,U a4,U a5,U a6].length:=by show 5<=8;decide
  repeat' first|simp (disch:=omega) only[go_sem,aJ,aK,aL,hm,m4,hxk,hxw,Rv,hxs,lM,Pk,e0,e1,e2,e3,e4,e5,e6,e7,Nat.mul_one,bJ]|refine aC ?_|refine eS (rE 6) ?_|refine eS (rE 11) ?_|refine eS (rE 25) ?_|refine eS (rA 2) ?_|refine eS (rA 13) ?_|refine eS (rA 22) ?_|refine aB ?_ ?_<;>intro hw<;>try omega|fail
  refine⟨t+1,?_,?_,?_,c8,?_⟩
  ·dsimp only;omega
  ·dsimp only;omega
  ·simp[vZ,hR,TF]
  exact at_
 obtain rfl:t=64:=ae;repeat' first|refine cB (zC hxk hxw Rv hxs) ?_|refine aC ?_|refine aB ?_ ?_<;>intro hw<;>try omega|fail
 with_reducible refine bG [11,1,92,17] (fun i:Nat=>[(92,I i)]) (fun i=>(T++[aX.cells (R.map U)]).set k (aX.cells (lN KC (GH R [h0,h1,h2,h3,h4,h5,h6,h7] i) v z))) (fun i=>i<=8) (fun i=>8-i) (0) ?_ ?_ ?_ ?_
 ·simp
 ·exact(aby (hxk _)).symm
 ·exact at_
 rintro i r2 hi;try dsimp only at hi
 have Ed:=JW R [h0,h1,h2,h3,h4,h5,h6,h7] i;rw[hH]at Ed;generalize hA:GH R [h0,h1,h2,h3,h4,h5,h6,h7] i=A at *;by_cases h8:i<8
 ·have hsh:=amy (KC:=KC) (v:=v) (z:=z) Ed h8;have hcA:=tg (v:=v) (z:=z) Ed hK;have hsA:=fun x=>aiz (KC:=KC) (v:=v) (z:=z) Ed (x:=x) h8;have hRg:(R.map U).getD i .undef=U (R.getD i default):=getD_map _ _ _ ae;have hxK:∀ c d:aX,((T++[c]).set k d)[k]? = some d:=fun c d=>bw (by simp;omega);have hxV:∀ c d:aX,((T++[c]).set k d)[T.length]? = some c:=fun c d=>by rw[aF ae];simp
  repeat' first|simp (disch:=omega) only[go_sem,aJ,aK,aL,hxK,hxV,hsh,hsA,hRg,hcA,Nat.mul_one,bJ,d_]|refine aC ?_|refine aB ?_ ?_<;>intro hw<;>try omega|fail
  refine⟨i+1,?_,?_,?_,c8,?_⟩
  ·dsimp only;omega
  ·dsimp only;omega
  ·simp[GH,hA]
  exact at_
 obtain rfl:i=8:=ae;repeat' first|refine aC ?_|refine aB ?_ ?_<;>intro hw<;>try omega|fail
 refine⟨rfl,?_,?_⟩
 ·rw[bw (by simp;omega),<-hE,<-hA,<-hR]
 intro j ob hj hne;have:=(aE.1 (hT0 j ob hj)).1;rw[aF (Ne.symm hne),aH this];exact hT0 j ob hj
def agq(A B:aT): lq (A++B)=lq A++lq B:=by simp[lq]
def pq(A:aT): (lq A).length=A.length:=by simp[lq]
def GI(S:ai)(v:AV)(R:aT): Prop:=(v = .aU/\R=[])\/ ∃ l B lo,v = .own E8 l B.length lo (B.length-lo)/\S[l]? = some (.vec E8 (lq B))/\lo<=B.length/\R=B.drop lo
def aeY(S:ai)(v:AV)(B:aT): Prop:=(v = .aU/\B=[])\/ ∃ l,v = .own E8 l B.length 0 B.length/\S[l]? = some (.vec E8 (lq B))
def GI.put{S:ai}{v:AV}{R:aT}(h:GI S v R){k:Nat}{cs:List AV}(hk:S[k]? = some (.cells cs))(d:aX): GI (S.set k d) v R:=by
 rcases h with⟨rfl,rfl⟩|⟨l,B,lo,rfl,hl,h1,h2⟩
 ·exact .inl ⟨rfl,rfl⟩
 exact .inr ⟨l,B,lo,rfl,by rw[List.getElem?_set_ne (fun e=>by subst e;rw[hk]at hl;cases hl)];exact hl,h1,h2⟩
def YZ{n:Nat}(h:n<=2 ^ 39): gw n ⟨false,1⟩:=by
 show n*2<=2 ^ 40;omega
def aj4{P:Program}{S:ai}{v:AV}{R t:aT}{K Kp:AV->ai->Prop}(h:GI S v R)(hr:R.length+t.length<=2 ^ 39)(hK:∀ (v':AV) (T:ai),aeY T v' (R++t)->(∀(j:Nat) (cs:List AV),S[j]? = some (aX.cells cs)->T[j]? = some (aX.cells cs))->K v' T): xT P (.DV ⟨false,1⟩) [v,.str t] S (.mk:Tg (K,Kp)):=by
 rcases h with⟨rfl,rfl⟩|⟨l,B,lo,rfl,hl,h1,rfl⟩
 ·rw[YT];have hall:(t.map fun b=>AV.int .u8 b.toNat).all (fun a=>a.fits ⟨false,1⟩)=true:=by simp[AV.fits]
  simp only[eE,bA.run,AX.ev,oT,gC,true_and,hall,dF];split
  ·rename_i h0;have:t=[]:=fx h0;subst this;exact hK _ _ (.inl ⟨rfl,rfl⟩) fun j cs h=>h
  refine⟨YZ (by simpa using hr),hK _ _ (.inr ⟨S.length,aR,by simp[lq]⟩) fun j cs h=>?_⟩;rw[aH (aE.1 h).1];exact h
 simp only[eu]at hr;have iX:=(aE.1 hl).1
 match lo,h1 with
 | 0, _ =>
   rw[jm,YU,RB,hl,afp];refine G5 ⟨(pq _).symm,rfl,(pq _).symm,YZ (by simpa[lq]using hr)⟩ ?_;intro _;refine hK _ _ (.inr ⟨l,by simp[lq],by rw[bw iX];simp[lq]⟩) fun j cs h=>?_;rw[List.getElem?_set_ne (fun e=>by subst e;rw[hl]at h;cases h)];exact h
 | lo + 1, h1 =>
   rw[YW,hl,agm];refine G5 ⟨(pq _).symm,ae,YZ (by simpa using hr)⟩ ?_;intro _;refine hK _ _ (.inr ⟨S.length,aR,by simp[lq]⟩) fun j cs h=>?_;have hj:=(aE.1 h).1;rw[List.getElem?_append_left (by simpa using hj),List.getElem?_set_ne (fun e=>by subst e;rw[hl]at h;cases h)];exact h
section
variable {KC H:List Int} {v:AV} {z:Int} (hH:H.length=8)
include hH
theorem yz: (lN KC H v z).getD 8 .undef=v:=by
 unfold lN;rw[aq,bq (by simp[hH])];simp[hH]
theorem WH: (lN KC H v z).getD 9 .undef=I z:=by
 unfold lN;rw[aq,bq (by simp[hH])];simp[hH]
theorem TG(w:AV): (lN KC H v z).set 8 w=lN KC H w z:=by
 unfold lN;rw[dV _ _ (by simp[hH])];simp[hH]
theorem aei(w:Int): (lN KC H v z).set 9 (I w)=lN KC H v w:=by
 unfold lN;rw[dV _ _ (by simp[hH])];simp[hH]
end
noncomputable def DQ (KC H:List Int) (B:aT):Nat->List Int
 | 0=>H
 | i+1=>Nw KC (DQ KC H B i) B (64*i)
def DR(KC H:List Int)(B:aT): ∀ i,(DQ KC H B i).length=H.length
 | 0=>rfl
 | i+1=>by rw[DQ,aeh,DR KC H B i]
noncomputable def rO (KC:List Int) (p:List Int × aT) (t:aT):List Int × aT:=(DQ KC p.1 (p.2++t) ((p.2++t).length / 64),(p.2++t).drop (64*((p.2++t).length / 64)))
def AB(S:ai)(k:Nat)(KC:List Int)(p:List Int × aT)(z:Int): Prop:=p.1.length=8/\ ∃ v,S[k]? = some (.cells (lN KC p.1 v z))/\GI S v p.2
def xh {S : ai} {k : Nat} {KC : List Int} {p : List Int × aT} {z : Int} (hp : AB S k KC p z) (hK : KC.length = 64) {t : aT} (h0 : 0 <= z) (h1 : z + t.length <= 2 ^ 60) (hr : p.2.length + t.length <= 2 ^ 39) :
    cK aI 114 [.ref k 0,.str t] S (fun o S'=>o = .ret (.bR [])/\AB S' k KC (rO KC p t) (z+t.length)):=by
 obtain⟨hH,v,hk,hR⟩:=hp;obtain⟨H,R⟩:=p;dsimp only at hH hk hR hr;obtain⟨E,hE⟩:=cq (rO KC (H,R) t);rw[hE];unfold rO at hE;dsimp only at hE;have s8:=yz (KC:=KC) (v:=v) (z:=z) hH;have s9:=WH (KC:=KC) (v:=v) (z:=z) hH;have s8b:=yz (KC:=KC) (v:=v) (z:=z+t.length) hH;have ss:=aei (KC:=KC) (v:=v) (z:=z) hH;have lM:=tg (v:=v) (z:=z) hH hK;have aiA:=tg (v:=v) (z:=z+t.length) hH hK;have g:=fun c=>Hs hk c;refine Fs.go ?_;unfold dO;intro Q aJ aK aL;repeat' first|simp (disch:=omega) only[go_sem,aJ,aK,aL,hk,g,s8,s9,s8b,ss,lM,aiA,bJ]|refine aC ?_|refine aB ?_ ?_<;>intro hw<;>try omega|fail
 refine aj4 (hR.put hk _) hr fun v' T hT hfr=>?_;have hkT:=hfr k _ (g _);have sr:=TG (KC:=KC) (v:=v) (z:=z+t.length) hH v';have g2:=fun c=>Hs hkT c
 have hT2:aeY (T.set k (.cells (lN KC H v' (z+t.length)))) v' (R++t):=by
  rcases hT with h|⟨l,h,hl⟩
  ·exact .inl h
  exact .inr ⟨l,h,by rw[List.getElem?_set_ne (fun e=>by subst e;rw[hkT]at hl;cases hl)];exact hl⟩
 have hvc:v'.cells.length=1/\v'.cells.all AV.scalar=true:=by rcases hT with⟨rfl,_⟩|⟨l,rfl,_⟩<;>exact⟨rfl,rfl⟩
 have aoi:=hvc.1;have aoj:=hvc.2;have amB:v'.cells=[v']:=by rcases hT with⟨rfl,_⟩|⟨l,rfl,_⟩<;>rfl
 have hvs:v'.scalar=true:=by rcases hT with⟨rfl,_⟩|⟨l,rfl,_⟩<;>rfl
 repeat' first|simp (disch:=omega) only[go_sem,aJ,aK,aL,hkT,sr,aiA,amB,hvs,List.all_cons,List.all_nil,Bool.and_self,bJ]|refine aC ?_|refine aB ?_ ?_<;>intro hw<;>try omega|fail
 have aej:=g2 (.cells (lN KC H v' (z+t.length)));rcases hT2 with⟨rfl,kY⟩|⟨l,rfl,hl⟩
 ·have s8c:=yz (KC:=KC) (v:= .aU) (z:=z+t.length) hH;have TH:=tg (v:= .aU) (z:=z+t.length) hH hK;with_reducible refine bG [22,21] (fun _:Unit=>[]) (fun _=>T.set k (aX.cells (lN KC H .aU (z+t.length)))) (fun _=>True) (fun _=>0) (()) ?_ ?_ ?_ ?_
  ·trivial
  ·rfl
  ·exact at_
  rintro _ r _;repeat' first|simp (disch:=omega) only[go_sem,aJ,aK,aL,aej,s8c,TH,bJ]|refine aC ?_|refine aB ?_ ?_<;>intro hw<;>try omega|fail
  rw[kY]at hE;subst hE;exact⟨rfl,hH,_,aej,.inl ⟨rfl,aR⟩⟩
 generalize hB:R++t=B at *;with_reducible refine bG [22,21] (fun q:Nat × ai=>[]) (fun q=>q.2) (fun q=>64*q.1<=B.length/\q.2[k]? = some (.cells (lN KC (DQ KC H B q.1) (.own E8 l B.length (64*q.1) (B.length-64*q.1)) (z+t.length)))/\q.2[l]? = some (.vec E8 (lq B))) (fun q=>B.length-64*q.1) ((0,T.set k (aX.cells (lN KC H (.own E8 l B.length 0 B.length) (z+t.length))))) ?_ ?_ ?_ ?_
 ·exact⟨ae,by simpa[DQ]using aej,hl⟩
 ·rfl
 ·exact at_
 rintro⟨i,X⟩ r ⟨hi,L7,Pm⟩;dsimp only at hi L7 Pm;have hml:=DR KC H B i;rw[hH]at hml;have s8c:=yz (KC:=KC) (v:= .own E8 l B.length (64*i) (B.length-64*i)) (z:=z+t.length) hml;have TH:=tg (v:= .own E8 l B.length (64*i) (B.length-64*i)) (z:=z+t.length) hml hK;repeat' first|simp (disch:=omega) only[go_sem,aJ,aK,aL,L7,s8c,TH,Pm,pq,bJ,Option.map_none,c_]|refine aC ?_|refine aB ?_ ?_<;>intro hw<;>try omega|fail
 ·refine bS (agp Pm ae L7 hml hK) ?_;rintro o Y ⟨rfl,TI,hYf⟩;have hYl:=hYf l _ Pm (fun e=>by subst e;rw[Pm]at L7;cases L7);have Mq:=DR KC H B (i+1);rw[hH]at Mq;have s8d:=yz (KC:=KC) (v:= .own E8 l B.length (64*i) (B.length-64*i)) (z:=z+t.length) Mq;have amC:=tg (v:= .own E8 l B.length (64*i) (B.length-64*i)) (z:=z+t.length) Mq hK;have sr2:=TG (KC:=KC) (v:= .own E8 l B.length (64*i) (B.length-64*i)) (z:=z+t.length) Mq;rw[show Nw KC (DQ KC H B i) B (64*i)=DQ KC H B (i+1) from rfl]at TI;repeat' first|simp (disch:=omega) only[go_sem,aJ,aK,aL,TI,s8d,amC,hYl,sr2,pq,bJ,Option.map_none,c_]|refine aC ?_|refine aB ?_ ?_<;>intro hw<;>try omega|fail
  have aek:=(aE.1 TI).1;have aok:=(aE.1 hYl).1;have zO:k≠l:=fun e=>by subst e;rw[TI]at hYl;cases hYl
  refine⟨(i+1,Y.set k (.cells (lN KC (DQ KC H B (i+1)) (.own E8 l B.length (64*(i+1)) (B.length-64*(i+1))) (z+t.length)))),?_,?_,?_,c8,?_⟩
  ·exact⟨by dsimp only;omega,List.getElem?_set_self aek,by dsimp only;rw[List.getElem?_set_ne zO];exact hYl⟩
  ·dsimp only;omega
  ·dsimp only
   congr 3
  exact at_
 have hi2:i=B.length / 64:=ae;subst hi2;subst hE;exact⟨rfl,hml,_,L7,.inr ⟨l,B,_,rfl,Pm,hi,rfl⟩⟩
set_option maxRecDepth 10000
def AE: List Int:=[1116352408,1899447441,3049323471,3921009573,961987163,1508970993,2453635748,2870763221,3624381080,310598401,607225278,1426881987,1925078388,2162078206,2614888103,3248222580,3835390401,4022224774,264347078,604807628,770255983,1249150122,1555081692,1996064986,2554220882,2821834349,2952996808,3210313671,3336571891,3584528711,113926993,338241895,666307205,773529912,1294757372,1396182291,1695183700,1986661051,2177026350,2456956037,2730485921,2820302411,3259730800,3345764771,3516065817,3600352804,4094571909,275423344,430227734,506948616,659060556,883997877,958139571,1322822218,1537002063,1747873779,1955562222,2024104815,2227730452,2361852424,2428436474,2756734187,3204031479,3329325298]
def HC0: List Int:=[1779033703,3144134277,1013904242,2773480762,1359893119,2600822924,528734635,1541459225]
def Qp: aQ aI 148 [] (.agg (AE.map U)):=by
 refine aY Jo ?_;intro Q aJ aK aL;repeat' first|refine aC ?_|refine aB ?_ ?_<;>intro hw<;>try omega|fail
 all_goals exact a_ rfl rfl
def abz(S:ai): cK aI 113 [] S (fun o S'=>o = .ret (.ref S.length 0)/\S'=S++[.cells (lN AE HC0 .aU 0)]):=by
 have k1:AE.length=64:=rfl;have k2:(AE.map U).all AV.scalar=true:=rfl;refine RT.go ?_;unfold dO;intro Q aJ aK aL;repeat' first|refine cB (zA k1 k2) ?_|refine aC ?_|refine eS Qp ?_|refine aB ?_ ?_<;>intro hw<;>try omega|fail
 refine G5 (by rfl) fun _=>?_;repeat' first|refine aC ?_|refine aB ?_ ?_<;>intro hw<;>try omega|fail
 exact⟨rfl,rfl⟩
def AB.begun(S:ai): AB (S++[.cells (lN AE HC0 .aU 0)]) S.length AE (HC0,[]) 0:=⟨rfl,.aU,aR,.inl ⟨rfl,rfl⟩⟩
def GJ(n:Int): UInt8:=UInt8.ofNat (di .u8 n).toNat
def abA(n:Int): (di .u8 n)=((GJ n).toNat:Int):=by
 have h:di .u8 n=n % 256:=rfl;unfold GJ;rw[h];have h1:0<=n % 256:=ae;have h2:n % 256<256:=ae;simp only[UInt8.toNat_ofNat'];omega
def JX(KC:List Int)(p:List Int × aT)(t:aT): (rO KC p t).2.length=(p.2.length+t.length) % 64:=by
 simp only[rO,eu,aA];omega
def AG(KC:List Int)(p:List Int × aT)(t:aT): (rO KC p t).1.length=p.1.length:=DR _ _ _ _
noncomputable def zN (KC:List Int) (p:List Int × aT):Nat->List Int × aT
 | 0=>p
 | j+1=>rO KC (zN KC p j) [0]
def WI(KC:List Int)(p:List Int × aT): ∀ j,(zN KC p j).1.length=p.1.length
 | 0=>rfl
 | j+1=>by rw[zN,AG,WI KC p j]
def abB(KC:List Int)(p:List Int × aT)(h:p.2.length<64): ∀ j,(zN KC p j).2.length=(p.2.length+j) % 64
 | 0=>by rw[zN];omega
 | j+1=>by rw[zN,JX,abB KC p h j];simp;omega
noncomputable def TJ (n:Int):Nat->aT
 | 0=>List.replicate 8 0
 | i+1=>(TJ n i).set (7-i) (GJ (n.fdiv (2 ^ (Nat.min (8*i) 64))))
def WJ(n:Int): ∀ i,(TJ n i).length=8
 | 0=>rfl
 | i+1=>by rw[TJ,dM,WJ n i]
def agr(A:aT)(i:Nat)(b:UInt8): lq (A.set i b)=(lq A).set i (.int .u8 b.toNat):=by simp[lq,List.map_set]
noncomputable def xH (H:List Int):aT:=H.flatMap fun w=>[GJ (w.fdiv (2 ^ 24)),GJ (w.fdiv (2 ^ 16)),GJ (w.fdiv (2 ^ 8)),GJ w]
def JY: ∀ H,(xH H).length=4*H.length
 | []=>rfl
 | a::l=>by have h:=JY l;simp only[xH,jz,aA,aO,bu]at h ⊢;omega
def abC(H:List Int)(i:Nat)(h:i<H.length): xH (H.take (i+1))=xH (H.take i)++[GJ ((H.getD i default).fdiv (2 ^ 24)),GJ ((H.getD i default).fdiv (2 ^ 16)),GJ ((H.getD i default).fdiv (2 ^ 8)),GJ (H.getD i default)]:=by
 have e:H.getD i default=H[i]:=by simp[aq,h]
 unfold xH;rw[dz h,e,List.flatMap_append];rfl
noncomputable def Nx (KC:List Int) (p:List Int × aT) (z:Int):aT :=
 xH (rO KC (zN KC (rO KC p [128]) ((120-(rO KC p [128]).2.length) % 64)) (TJ (z*8) 8)).1
def Y0{P:Program}{σ : ai}{K Kp:AV->ai->Prop}{l n:Nat}{cs:List AV}{s:aT}(h : σ[l]? = some (.cells cs))(hn:cs.length=n)(hs:cs=lq s): eE P (.yE (.c (.l7 ⟨false,1⟩ (.ref l 0) n))) σ (.mk:Tg (K,Kp))=K (.str s) σ:=by
 simp only[eE,bA.run,AX.ev,gC,iP,h]
 have e:(if True then AV.agg (List.take n (List.drop 0 cs))else cs.getD 0 AV.undef).cells=cs:=by
  rw[au trivial,eU,<-hn,gG];rfl
 rw[e,hs];simp only[true_and,eq_iff_iff];constructor
 ·rintro⟨_,_,s',h,hk⟩;have:s=s':=(List.map_inj_right (fun x y hxy=>by simp at hxy;exact UInt8.toNat_inj.1 (Int.ofNat_inj.1 hxy))).1 h;exact this ▸ hk
 exact fun hk=>⟨by rw[<-hs];omega,aR,s,rfl,hk⟩
def Y3{P:Program}{σ : ai}{K Kp:AV->ai->Prop}{l m:Nat}{s:aT}(h : σ[l]? = some (.vec ⟨false,1⟩ (lq s)))(hm:m=s.length): eE P (.yE (.c (.own ⟨false,1⟩ l m 0 m))) σ (.mk:Tg (K,Kp))=K (.str s) σ:=by
 subst hm;have e:((lq s).drop 0).take s.length=lq s:=by rw[eU,<-pq,gG]
 rw[Xy,h];simp only[RA,pq,true_and,eq_iff_iff];rw[e];constructor
 ·rintro⟨s',h,hk⟩;have:s=s':=(List.map_inj_right (fun x y hxy=>by simp at hxy;exact UInt8.toNat_inj.1 (Int.ofNat_inj.1 hxy))).1 h;exact this ▸ hk
 exact fun hk=>⟨s,rfl,hk⟩
def AB.app{S:ai}{k:Nat}{KC:List Int}{p:List Int × aT}{z:Int}(h:AB S k KC p z)(c:aX): AB (S++[c]) k KC p z:=by
 obtain⟨h1,v,hk,hR⟩:=h;refine⟨h1,v,by rw[aH (aE.1 hk).1];exact hk,?_⟩;rcases hR with h|⟨l,B,lo,e,hl,h2⟩
 ·exact .inl h
 exact .inr ⟨l,B,lo,e,by rw[aH (aE.1 hl).1];exact hl,h2⟩
def AB.put{S:ai}{k:Nat}{KC:List Int}{p:List Int × aT}{z:Int}(h:AB S k KC p z){j:Nat}{cs:List AV}(hj:S[j]? = some (.cells cs))(hne:j≠k)(d:aX): AB (S.set j d) k KC p z:=by
 obtain⟨h1,v,hk,hR⟩:=h;exact⟨h1,v,by rw[aF hne];exact hk,hR.put hj d⟩
def ags {S : ai} {k : Nat} {KC : List Int} {p : List Int × aT} {z : Int} (hp : AB S k KC p z) (hK : KC.length = 64) (h0 : 0 <= z) (h1 : z <= 2 ^ 59) (hr : p.2.length < 64) :
    cK aI 115 [.ref k 0] S (fun o S'=>o = .ret (.str (Nx KC p z))):=by
 obtain⟨E,hE⟩:=cq (Nx KC p z);rw[hE];have hp0:=hp;obtain⟨hH,v,hk,hR⟩:=hp;have s9:=WH (KC:=KC) (v:=v) (z:=z) hH;have lM:=tg (v:=v) (z:=z) hH hK;refine Je.go ?_;unfold dO;intro Q aJ aK aL;repeat' first|simp (disch:=omega) only[go_sem,aJ,aK,aL,hk,s9,lM,bJ]|refine aC ?_|refine aB ?_ ?_<;>intro hw<;>try omega|fail
 refine bS (xh hp0 hK h0 (t:=[128]) (by simp;omega) (by simp;omega)) ?_;rintro o S1 ⟨rfl,hp1⟩;have Rw:(rO KC p [128]).2.length<64:=by rw[JX];omega
 unfold Nx at hE;generalize hP1:rO KC p [128]=P1 at *;repeat' first|refine aC ?_|refine aB ?_ ?_<;>intro hw<;>try omega|fail
 with_reducible refine bG [16,9] (fun q:Nat × ai=>[]) (fun q=>q.2) (fun q=>q.1<=(120-P1.2.length) % 64/\AB q.2 k KC (zN KC P1 q.1) (z+1+q.1)) (fun q=>64-q.1) ((0,S1)) ?_ ?_ ?_ ?_
 ·exact⟨ae,by simpa[zN]using hp1⟩
 ·rfl
 ·exact at_
 rintro⟨j,X⟩ r ⟨hj,hX⟩;dsimp only at hj hX;have hX0:=hX;obtain⟨hXH,w,L7,hXR⟩:=hX;have Pm:=abB KC P1 Rw j;have s8x:=yz (KC:=KC) (v:=w) (z:=z+1+j) hXH;have aiB:=tg (v:=w) (z:=z+1+j) hXH hK
 have hwv:∃ n:Nat,n=(zN KC P1 j).2.length/\((w = .aU/\n=0)\/ ∃ l m lo,w = .own E8 l m lo n):=by
  rcases hXR with⟨rfl,h⟩|⟨l,B,lo,rfl,hl,h1,h⟩
  ·exact⟨0,by rw[h];rfl,.inl ⟨rfl,rfl⟩⟩
  exact⟨B.length-lo,by rw[h,eu],.inr ⟨l,_,lo,rfl⟩⟩
 obtain⟨n,hn,hwn⟩:=hwv;rw[Pm]at hn;rcases hwn with⟨rfl,rfl⟩|⟨l,m,lo,rfl⟩
 ·repeat' first|simp (disch:=omega) only[go_sem,aJ,aK,aL,L7,s8x,aiB,bJ]|refine aC ?_|refine aB ?_ ?_<;>intro hw<;>try omega|fail
  have hj2:j<(120-P1.2.length) % 64:=ae;refine bS (xh hX0 hK ae (t:=[0]) (by simp;omega) (by simp;omega)) ?_;rintro o Y ⟨rfl,hY⟩;have e:z+1+j+(([0]:aT).length:Nat)=z+1+((j+1:Nat):Int):=by simp;omega
  rw[e]at hY;repeat' first|refine aC ?_|refine aB ?_ ?_<;>intro hw<;>try omega|fail
  refine⟨(j+1,Y),?_,?_,?_,c8,?_⟩
  ·exact⟨by dsimp only;omega,hY⟩
  ·dsimp only;omega
  ·rfl
  exact at_
 repeat' first|simp (disch:=omega) only[go_sem,aJ,aK,aL,L7,s8x,aiB,bJ]|refine aC ?_|refine aB ?_ ?_<;>intro hw<;>try omega|fail
 ·have hj2:j<(120-P1.2.length) % 64:=ae;refine bS (xh hX0 hK ae (t:=[0]) (by simp;omega) (by simp;omega)) ?_;rintro o Y ⟨rfl,hY⟩;have e:z+1+j+(([0]:aT).length:Nat)=z+1+((j+1:Nat):Int):=by simp;omega
  rw[e]at hY;repeat' first|refine aC ?_|refine aB ?_ ?_<;>intro hw<;>try omega|fail
  refine⟨(j+1,Y),?_,?_,?_,c8,?_⟩
  ·exact⟨by dsimp only;omega,hY⟩
  ·dsimp only;omega
  ·rfl
  exact at_
 have hj3:j=(120-P1.2.length) % 64:=ae;rw[<-hj3]at hE;generalize zN KC P1 j=P2 at *;with_reducible refine bG [5,1,25,12] (fun i:Nat=>[(25,I i)]) (fun i=>X++[.cells (lq (TJ (z*8) i))]) (fun i=>i<=8) (fun i=>8-i) (0) ?_ ?_ ?_ ?_
 ·simp
 ·rfl
 ·exact at_
 rintro i r2 hi;try dsimp only at hi
 have Ed:=WJ (z*8) i;generalize hA:TJ (z*8) i=A at *;by_cases h8:i<8
 ·have Ea:(lq A).length=8:=by rw[pq,Ed]
  repeat' first|simp (disch:=omega) only[go_sem,aJ,aK,aL,Ea,Nat.mul_one,bJ]|refine aC ?_|refine aB ?_ ?_<;>intro hw<;>try omega|fail
  refine⟨i+1,?_,?_,?_,c8,?_⟩
  ·dsimp only;omega
  ·dsimp only;omega
  ·dsimp only[TJ];rw[hA,agr,<-abA,show(7-(i:Int)).toNat=7-i by omega,show(8*(i:Int)).toNat=8*i by omega]
  exact at_
 obtain rfl:i=8:=ae;repeat' first|refine aC ?_|refine aB ?_ ?_<;>intro hw<;>try omega|fail
 rw[Y0 (cs:=lq A) (s:=A) aR (by rw[pq,Ed]) rfl];repeat' first|refine aC ?_|refine aB ?_ ?_<;>intro hw<;>try omega|fail
 have hX1:=hX0.app (.cells (lq A));refine bS (xh hX1 hK ae (t:=A) ae ae) ?_;rintro o Y ⟨rfl,hY⟩;obtain⟨hYH,w2,TI,hYR⟩:=hY;generalize hP3:rO KC P2 A=P3 at *;have TH:=tg (v:=w2) (z:=z+1+j+A.length) hYH hK;have ht3:=WG (KC:=KC) (v:=w2) (z:=z+1+j+A.length) hYH;have aek:=(aE.1 TI).1;have hYc:=fun c:aX=>(by rw[aH aek];exact TI:(Y++[c])[k]? = some (.cells (lN KC P3.1 w2 (z+1+j+A.length))));repeat' first|simp (disch:=omega) only[go_sem,aJ,aK,aL,hYc,TH,ht3,bJ,eU]|refine aC ?_|refine aB ?_ ?_<;>intro hw<;>try omega|fail
 with_reducible refine bG [6,1,8,1,46,18] (fun i:Nat=>[(46,I i),(6,.own E8 Y.length (4*i) 0 (4*i))]) (fun i=>Y++[.vec E8 (lq (xH (P3.1.take i)))]) (fun i=>i<=8) (fun i=>8-i) (0) ?_ ?_ ?_ ?_
 ·simp
 ·rfl
 ·exact at_
 rintro i r3 hi;try dsimp only at hi
 have D_:(lq (xH (P3.1.take i))).length=4*i:=by rw[pq,JY,dL,hYH];omega
 by_cases h8:i<8
 ·have hg:(P3.1.map U).getD i .undef=U (P3.1.getD i default):=getD_map _ _ _ ae;have hYv:=fun c:aX=>(by simp:(Y++[c])[Y.length]? = some c);have hYs:=fun c d:aX=>(by simp:(Y++[c]).set Y.length d=Y++[d]);have hml:(P3.1.map U).length=8:=by rw[dF,hYH]
  repeat' first|simp (disch:=omega) only[go_sem,aJ,aK,aL,hYv,hYs,hg,D_,hml,Nat.mul_one,bJ]|refine aC ?_|refine aB ?_ ?_<;>intro hw<;>try omega|fail
  refine⟨i+1,?_,?_,?_,c8,?_⟩
  ·dsimp only;omega
  ·dsimp only;omega
  ·show _=Y++[aX.vec E8 (lq (xH (P3.1.take (i+1))))];rw[abC _ _ ae,agq];simp only[abA];rfl
  exact at_
 obtain rfl:i=8:=ae;have hYv:=fun c:aX=>(by simp:(Y++[c])[Y.length]? = some c);have amD:(lq (xH (P3.1.take 8))).length=32:=D_;have hb:=fun(K Kp:AV->ai->Prop)=>Y3 (P:=Tryz.prog) (K:=K) (Kp:=Kp) (σ:=Y++[.vec E8 (lq (xH (P3.1.take 8)))]) (l:=Y.length) (m:=32) (s:=xH (P3.1.take 8)) aR (by rw[<-amD,pq]);repeat' first|refine cB hb ?_|refine aC ?_|refine aB ?_ ?_<;>intro hw<;>try omega|fail
 rw[<-hE,bH ae,hA,hP3];rfl
def uX(l:List aT): Nat:=(l.map List.length).sum
def Pn(l:List aT)(i:Nat)(h:i<l.length): uX (l.take (i+1))=uX (l.take i)+(l.getD i default).length:=by
 have e:l.getD i default=l[i]:=by simp[aq,h]
 unfold uX;rw[dz h,e,fH,List.sum_append];simp
def Po(l:List aT)(i:Nat): uX (l.take i)<=uX l:=by
 have h:uX l=uX (l.take i)+uX (l.drop i):=by
  conv=>lhs;rw[<-dD i l]
  unfold uX;rw[fH,List.sum_append]
 omega
noncomputable def DS (l:List aT):List Int × aT:=l.foldl (rO AE) (HC0,[])
def abD(l:List aT)(i:Nat)(h:i<l.length): DS (l.take (i+1))=rO AE (DS (l.take i)) (l.getD i default):=by
 have e:l.getD i default=l[i]:=by simp[aq,h]
 unfold DS;rw[dz h,e,List.foldl_append];rfl
def TL(l:List aT): ∀ p:List Int × aT,p.2.length<64->(l.foldl (rO AE) p).2.length<64:=by
 induction l with
 | nil=>exact fun p h=>h
 | cons a l ih=>exact fun p h=>ih _ (by rw[JX];omega)
def abE(l:List aT): ∀ p:List Int × aT,(l.foldl (rO AE) p).1.length=p.1.length:=by
 induction l with
 | nil=>exact fun p=>rfl
 | cons a l ih=>exact fun p=>by rw[List.foldl_cons,ih,AG]
noncomputable def Bu (l:List aT):aT:=Nx AE (DS l) (uX l)
def TM(l:List aT): (Bu l).length=32:=by
 rw[Bu,Nx,JY,AG,WI,AG,DS,abE];rfl
def agt(l:List aT)(hl:uX l<=2 ^ 38)(hn:l.length<=2 ^ 40): aQ aI 73 [.aS false E1 (l.map eZ)] (.str (Bu l)):=by
 obtain⟨E,hE⟩:=cq (Bu l);rw[hE];refine aY XD ?_ (by simp[AV.dy,AV.cE,uF]);intro Q aJ aK aL;repeat' first|refine aC ?_|refine aB ?_ ?_<;>intro hw<;>try omega|fail
 refine bS (abz _) ?_;rintro o S ⟨rfl,rfl⟩;repeat' first|refine aC ?_|refine aB ?_ ?_<;>intro hw<;>try omega|fail
 with_reducible refine bG [5,1,9,8] (fun q:Nat × ai=>[(9,I q.1)]) (fun q=>q.2) (fun q=>q.1<=l.length/\AB q.2 0 AE (DS (l.take q.1)) (uX (l.take q.1))) (fun q=>l.length-q.1) ((0,[.cells (lN AE HC0 .aU 0)])) ?_ ?_ ?_ ?_
 ·exact⟨ae,AB.begun []⟩
 ·rfl
 ·exact at_
 rintro⟨i,X⟩ r ⟨hi,hX⟩;dsimp only at hi hX;by_cases mg:i<l.length
 ·have ht:=Po l (i+1);rw[Pn l i mg]at ht;have hel:(DS (l.take i)).2.length<64:=TL _ _ aR;repeat' first|refine aC ?_|refine aB ?_ ?_<;>intro hw<;>try omega|fail
  refine bS (xh hX rfl ae (t:=l.getD i default) ae ae) ?_;rintro o Y ⟨rfl,hY⟩;repeat' first|refine aC ?_|refine aB ?_ ?_<;>intro hw<;>try omega|fail
  refine⟨(i+1,Y),?_,?_,?_,c8,?_⟩
  ·refine⟨by dsimp only;omega,?_⟩;dsimp only;rw[abD l i mg,Pn l i mg];simpa using hY
  ·dsimp only;omega
  ·rfl
  exact at_
 obtain rfl:i=l.length:=ae;have hel:(DS (l.take l.length)).2.length<64:=TL _ _ aR;have ht:=Po l l.length;repeat' first|refine aC ?_|refine aB ?_ ?_<;>intro hw<;>try omega|fail
 refine bS (ags hX rfl ae ae hel) ?_;rintro o Y rfl;rw[gG];rw[show Nx AE (DS l) (uX l)=E from hE];repeat' first|refine aC ?_|refine aB ?_ ?_<;>intro hw<;>try omega|fail
 exact a_ rfl rfl
def JZ(a b:aT)(h:a.length+b.length<=2 ^ 38): aQ aI 47 [.str a,.str b] (.str (Bu [a,b])):=by
 have h1:=agt [a,b] (by simpa[uX]using h) aR;refine aY Uq ?_;intro Q aJ aK aL;repeat' first|refine aC ?_|refine Ab h1 ?_|refine aB ?_ ?_<;>intro hw<;>try omega|fail
 all_goals exact a_ rfl rfl
noncomputable def mV (s:aT):List aT->aT
 | []=>s
 | a::l=>mV (Bu [s,a]) l
def IA(l:List aT): ∀(s:aT) (i:Nat),i<l.length->mV s (l.take (i+1))=Bu [mV s (l.take i),l.getD i default]:=by
 induction l with
 | nil=>exact fun s i h=>absurd h aR
 | cons a l ih =>
   intro s i h;cases i with
   | zero=>rfl
   | succ i=>exact ih _ i (by simpa using h)
def L8(l:List aT): ∀ s:aT,s.length=32->(mV s l).length=32:=by
 induction l with
 | nil=>exact fun s h=>h
 | cons a l ih=>exact fun s h=>ih _ (TM _)
def Pp(s:aT)(hs:s.length=32)(l:List aT)(hl:∀ x ∈ l,x.length<=2 ^ 37)(hn:l.length<=2 ^ 40): aQ aI 42 [.str s,.aS false E1 (l.map eZ)] (.str (mV s l)):=by
 obtain⟨E,hE⟩:=cq (mV s l);rw[hE];refine aY RR ?_ (by simp[AV.dy,AV.cE,uF]);intro Q aJ aK aL;repeat' first|refine aC ?_|refine aB ?_ ?_<;>intro hw<;>try omega|fail
 with_reducible refine bG [0,1,6,1,9,8] (fun i:Nat=>[(9,I i),(0,.str (mV s (l.take i)))]) (fun _=>[]) (fun i=>i<=l.length) (fun i=>l.length-i) (0) ?_ ?_ ?_ ?_
 ·simp
 ·rfl
 ·exact at_
 rintro i r hi;try dsimp only at hi
 by_cases mg:i<l.length
 ·have hc:=L8 (l.take i) s hs
  have hx:(l.getD i default).length<=2 ^ 37:=by
   have e:l.getD i default=l[i]:=by simp[aq,mg]
   rw[e];exact hl _ (dK _)
  repeat' first|refine aC ?_|with_reducible refine yn (JZ (mV s (l.take i)) (l.getD i default) ae) ?_|with_reducible refine BJ (JZ (mV s (l.take i)) (l.getD i default) ae) ?_|refine aB ?_ ?_<;>intro hw<;>try omega|fail
  refine⟨i+1,?_,?_,?_,c8,?_⟩
  ·dsimp only;omega
  ·dsimp only;omega
  ·rfl
  dsimp only;rw[IA l s i mg];exact at_
 obtain rfl:i=l.length:=ae;repeat' first|refine aC ?_|refine aB ?_ ?_<;>intro hw<;>try omega|fail
 rw[gG];all_goals exact a_ (by rw[hE]) rfl
structure Mk where
 base:Int
 count:Int
 anchor:aT
 head:aT
def vv(m:Mk): AV:= .agg [I m.base,I m.count,.str m.anchor,.str m.head]
structure Ej (m:Mk):Prop where
 b0:0<=m.base
 bc:m.base<=m.count
 ct:m.count<=1125899906842624
 la:m.anchor.length=32
 lh:m.head.length=32
 eq:m.base=m.count->m.anchor=m.head
def IB{m:Mk}(h:Ej m): aQ aI 41 [vv m] (I 0):=by
 obtain⟨b,c,a,d⟩:=m;obtain⟨h1,h2,h3,h4,h5,h6⟩:=h;dsimp only at *;unfold vv;dsimp only;refine aY MD ?_;intro Q aJ aK aL;repeat' first|refine aC ?_|refine aB ?_ ?_<;>intro hw<;>try omega|fail
 all_goals first|exact a_ rfl rfl|exact absurd (h6 (by assumption)) (by assumption)
noncomputable def kA (m:Mk) (s:aT):Mk:=⟨m.base,m.count+1,m.anchor,Bu [m.head,s]⟩
def Y4{m:Mk}(h:Ej m)(hc:m.count<1125899906842624)(s:aT)(hs:s.length<=2 ^ 37): aQ aI 21 [vv m,.str s] (.bR [vv (kA m s),I 0]):=by
 have h1:=IB h;obtain⟨b,c,a,d⟩:=m;obtain⟨g1,g2,g3,g4,g5,g6⟩:=h;unfold vv at h1;dsimp only at *;have h2:=JZ d s ae;obtain⟨E,hE⟩:=cq (Bu [d,s]);simp only[kA,vv];rw[hE]at h2 ⊢;refine aY PV ?_;intro Q aJ aK aL;repeat' first|refine aC ?_|refine aB ?_ ?_<;>intro hw<;>try omega|fail
 exact a_ rfl rfl
noncomputable def su (m:Mk) (l:List aT):Prop:=(l.length:Int)=m.count-m.base/\mV m.anchor l=m.head
open Classical in
def zu{m:Mk}(h:Ej m)(l:List aT)(hl:∀ x ∈ l,x.length<=2 ^ 37)(hn:l.length<=2 ^ 40): aQ aI 16 [vv m,.aS false E1 (l.map eZ)] (I (if su m l then 0 else 23)):=by
 have h1:=IB h;obtain⟨b,c,a,d⟩:=m;obtain⟨g1,g2,g3,g4,g5,g6⟩:=h;unfold vv at h1;dsimp only at *;have h2:=Pp a g4 l hl hn;unfold su vv;dsimp only;generalize mV a l=E at *;refine aY KP ?_ (by simp[AV.dy,AV.cE,uF]);intro Q aJ aK aL;repeat' first|refine aC ?_|refine aB ?_ ?_<;>intro hw<;>try omega|fail
 all_goals first|(rw[au ⟨by assumption,by assumption⟩];exact a_ rfl rfl)|(rw[aj (by rintro⟨e1,e2⟩;first|exact absurd e1 (by assumption)|exact absurd e2 (by assumption)|omega)];exact a_ rfl rfl)
noncomputable def uY (m:Mk) (l:List aT) (k:Int):Mk:=⟨k,m.count,mV m.anchor (l.take (k-m.base).toNat),m.head⟩
def abF {m : Mk} (h : Ej m) (l : List aT) (hl : ∀ x ∈ l, x.length <= 2 ^ 37) (hn : l.length <= 2 ^ 40) (hs : su m l) (k : Int) :
    aQ aI 45 [vv m,.aS false E1 (l.map eZ),I k] (.bR (if m.base<=k/\k<=m.count then [vv (uY m l k),I 0]else [.agg [I 0,I 0,.str [],.str []],I 22])):=by
 have h1:=zu h l hl hn;rw[au hs]at h1;obtain⟨b,c,a,d⟩:=m;obtain⟨g1,g2,g3,g4,g5,g6⟩:=h;unfold vv at h1;dsimp only at *;have h2:=Pp a g4 (l.take (k-b).toNat) (fun x hx=>hl x (List.mem_of_mem_take hx)) (by rw[dL];omega);unfold uY vv;dsimp only;rw[List.map_take]at h2;generalize mV a (l.take (k-b).toNat)=E at *;have hs1:=hs.1;dsimp only at hs1;refine aY RH ?_ (by simp[AV.dy,AV.cE,uF]);intro Q aJ aK aL;repeat' first|refine aC ?_|refine aB ?_ ?_<;>intro hw<;>try omega|fail
 all_goals first|(rw[au ⟨by assumption,by assumption⟩];exact a_ rfl rfl)|(rw[aj (by rintro⟨e1,e2⟩;first|exact absurd e1 (by assumption)|exact absurd e2 (by assumption)|omega)];exact a_ rfl rfl)
def ael{m:Mk}(h:Ej m)(hc:m.count<1125899906842624)(s:aT): Ej (kA m s):=by
 obtain⟨g1,g2,g3,g4,g5,g6⟩:=h;exact⟨g1,by dsimp only[kA];omega,by dsimp only[kA];omega,g4,TM _,by dsimp only[kA];intro e;omega⟩
def U_{m:Mk}{l:List aT}(h:su m l)(s:aT): su (kA m s) (l++[s]):=by
 obtain⟨h1,h2⟩:=h;refine⟨by simp[kA];omega,?_⟩;have e:=IA (l++[s]) m.anchor l.length aR;rw[show (l++[s]).take (l.length+1)=l++[s] by rw[bH aR],show(l++[s]).take l.length=l by simp,h2]at e;simpa[kA]using e
def Y5(l k:List aT): ∀ s,mV s (l++k)=mV (mV s l) k:=by
 induction l with
 | nil=>exact fun s=>rfl
 | cons a l ih=>exact fun s=>ih _
def aiC{m:Mk}(h:Ej m){l:List aT}(hs:su m l){k:Int}(h1:m.base<=k)(h2:k<=m.count): Ej (uY m l k)/\su (uY m l k) (l.drop (k-m.base).toNat):=by
 obtain⟨g1,g2,g3,g4,g5,g6⟩:=h;obtain⟨s1,s2⟩:=hs;have e:=Y5 (l.take (k-m.base).toNat) (l.drop (k-m.base).toNat) m.anchor;rw[dD,s2]at e;refine⟨⟨by dsimp only[uY];omega,h2,g3,L8 _ _ g4,g5,?_⟩,?_,e.symm⟩
 ·dsimp only[uY];intro hk;rw[hk,show(m.count-m.base).toNat=l.length by omega,gG,s2]
 dsimp only[uY];rw[eu];omega
end Go.Proofs.YtoldfccfpameeaaGreatDoor
namespace Go.AM
def J0{σ τ : ai}{l:Nat}{o:aX}(h:(σ.map (fun _=>aX.dead)++ τ)[l]? = some o)(hv:o.live=true): σ.length<=l/\(σ++ τ)[l]? = some o:=by
 by_cases hl:l < σ.length
 ·rw[aH (by simpa using hl)]at h;simp at h;obtain⟨_,_,rfl⟩:=h;cases hv
 rw[bq (by simp;omega)]at h;refine⟨ae,?_⟩;rw[bq ae];simpa using h
def VR.shrink{g0 g':aN}{w0 w':World}{J:Nat->Prop}(hI:∀ b,g'.fE b->J b){a:AV}{v:Value}(h:VR g' w' a v): ∀ {v0:Value},VR g0 w0 a v0->VR { g' with fE:=J,n:=g0.n } w' a v:=by
 induction h with
 | undef v=>exact fun _=> .undef v
 | bool b=>exact fun _=> .bool b
 | int k n=>exact fun _=> .int k n
 | str s=>exact fun _=> .str s
 | agg cs vs hl hs _ ih=>intro v0 h0;cases h0;rename_i rK;exact .agg cs vs hl hs fun i hi=>ih i hi (rK i hi)
 | bR cs vs hl _ ih=>intro v0 h0;cases h0;rename_i rK;exact .bR cs vs hl fun i hi=>ih i hi (rK i hi)
 | aU=>exact fun _=> .aU
 | jd f el b cap hf=>exact fun _=> .jd f el b cap hf
 | aS f el xs b off cap hi hf hx ft hc _ ih =>
   intro v0 h0;cases h0
   ·exact .aS f el [] b off cap (hI b hi) hf hx ft hc fun i c h1 _=>absurd h1 (c9 _)
   rename_i rK;exact .aS f el xs b off cap (hI b hi) hf hx ft hc fun i c h1 h2=>ih i c h1 h2 (rK i c h1 h2)
 | own el l m lo n v h=>intro v0 h0;cases h0;rename_i rK;exact .own el l m lo n v ⟨rK.1,h.2⟩
 | ref l off v h=>intro v0 h0;cases h0;rename_i rK;exact .ref l off v ⟨⟨rK.1.1,h.1.2⟩,h.2⟩
 | eY el x off b o hi ft hc _ ih=>intro v0 h0;cases h0;rename_i rK;exact .eY el x off b o (hI b hi) ft hc fun c h2=>ih c h2 (rK c h2)
 | fy el l m i off v h=>intro v0 h0;cases h0;rename_i rK;exact .fy el l m i off v ⟨rK.1,h.2⟩
 | ik=>exact fun _=> .ik
 | oC=>exact fun _=> .oC
 | jR=>exact fun _=> .jR
 | fn f first cap first' cap' hl hl' _ _ ih qH=>intro v0 h0;cases h0;rename_i _ rK _ h01;exact .fn f first cap first' cap' hl hl' (fun i hi=>ih i hi (rK i hi)) (fun i hi=>qH i hi (h01 i hi))
 | kR t a v _ ih=>intro v0 h0;cases h0;rename_i rK;exact .kR t a v (ih rK)
 | iZ=>exact fun _=> .iZ
 | nT v h=>exact fun _=> .nT v h
 | mp l v h=>intro v0 h0;cases h0;rename_i rK;exact .mp l v ⟨rK.1,h.2⟩
 | qR l v h=>intro v0 h0;cases h0;rename_i rK;exact .qR l v ⟨rK.1,h.2⟩
 | l7 el p n A cap hn hc _ ih=>intro v0 h0;cases h0;exact .l7 el p n A cap hn hc (ih (by assumption))
def aX.Ok.shrink{g0 g':aN}{w0 w':World}{J:Nat->Prop}(hI:∀ b,g'.fE b->J b){l:Nat}{o:aX}(h:o.Ok g' w' l)(h0:o.Ok g0 w0 l): o.Ok { g' with fE:=J,n:=g0.n } w' l:=by
 cases o with
 | bV T cs =>
   obtain⟨h1,h2,b,vs,h3,h4,h5,h6,h7⟩:=h;obtain⟨_,_,_,_,_,_,_,k6,_⟩:=h0;exact⟨h1,h2,b,vs,h3,h4,h5,fun i hi=>(h6 i hi).shrink hI (k6 i hi),h7⟩
 | dh T el xs =>
   obtain⟨h1,h2,h3⟩:=h;refine⟨h1,h2,?_⟩;rcases h3 with h3|⟨b,vs,h3,h4,h5,h6,h7,h8⟩
   ·exact .inl h3
   refine .inr ⟨b,vs,h3,h4,h5,h6,fun i c hi hc=>?_,h8⟩;rcases h0.2.2 with k3|⟨_,_,_,_,_,_,k7,_⟩
   ·rw[k3.1]at hi;exact absurd hi (c9 _)
   exact(h7 i c hi hc).shrink hI (k7 i c hi hc)
 | jC s pos=>exact h
 | map es =>
   obtain⟨h1,b,ms,clock,h2,h3,h4,h5,h6⟩:=h;obtain⟨_,_,_,_,_,_,_,_,k6⟩:=h0;exact⟨h1,b,ms,clock,h2,h3,h4,h5,fun i hi=>⟨(h6 i hi).1.shrink hI (k6 i hi).1,(h6 i hi).2.shrink hI (k6 i hi).2⟩⟩
 | loop nt e ps ca cb st pe =>
   obtain⟨h1,b,rec,h2,h3,h4,h5,h6,h7,h8,h9,h10⟩:=h;obtain⟨_,_,_,_,_,_,_,_,_,_,_,k10⟩:=h0;exact⟨h1,b,rec,h2,h3,h4,h5,h6,h7,h8,h9,fun t ht=>(h10 t ht).shrink hI (k10 t ht)⟩
 | dead=>trivial
 | resv=>exact h
def cK.drop{P:Program}{f:FuncId}{args:List AV}{σ : ai}{r:AV}(h:cK P f args σ fun o σ'=> ∃ r0 τ,o = .ret r0/\σ' = σ++ τ/\View (σ.map (fun _=>aX.dead)++ τ) r0 r): kK P f args σ r:=by
 refine⟨h.1,fun g w vs hR hlen hv=>(h.2 g w vs hR hlen hv).mono ?_⟩;rintro e w' ⟨out,g',σ',jf,hE,hO,r0,τ,rfl,rfl,C4⟩;have lift:∀ l,Live (σ.map (fun _=>aX.dead)++ τ) l->σ.length<=l/\Live (σ++ τ) l:=fun l ⟨o,ho,hv⟩=>⟨(J0 ho hv).1,o,(J0 ho hv).2,hv⟩
 have hRd:Rel g' w' (σ.map (fun _=>aX.dead)++ τ):=by
  refine⟨by simpa using jf.len,jf.lt,fun l o ho=>?_,fun l l' c hl hl'=>jf.inj l l' c (lift l hl).2 (lift l' hl').2,fun l c hl=>jf.p7 l c (lift l hl).2,jf.glob⟩;by_cases hv:o.live=true
  ·exact jf.ok l o (J0 ho hv).2
  ·cases o<;>simp[aX.live]at hv;trivial
 let g2:aN:= { g' with fE:=fun c=>g'.fE c\/mB (σ.map (fun _=>aX.dead)++ τ) g' c,n:=g.n }
 have hat:∀ {l o},σ[l]? = some o->(σ++ τ)[l]? = some o:=fun {l o} ho=>by rw[aH (aE.1 ho).1];exact ho
 have QL:∀ l,Live σ l->l < σ.length/\Live (σ++ τ) l:=fun l ⟨o,ho,hv⟩=>⟨(aE.1 ho).1,o,hat ho,hv⟩
 have D4:Rel g2 w' σ:=by
  refine⟨hR.len,fun c hc=>?_,fun l o ho=>(jf.ok l o (hat ho)).shrink (fun b hb=>Or.inl hb) (hR.ok l o ho),fun l l' c hl hl'=>jf.inj l l' c (QL l hl).2 (QL l' hl').2,fun l c hl hc hi=>?_,jf.glob.mono fun b hb=>⟨Or.inl hb,rfl⟩⟩
  ·rcases hc with hc|hc
   ·exact jf.lt c hc
   exact hRd.Cx hc
  obtain⟨h1,h2⟩:=QL l hl;rcases hi with hi|⟨l',hl',l8⟩
  ·exact jf.p7 l c h2 hc hi
  have:=jf.inj l l' c h2 (lift l' hl').2 hc l8;have:=(lift l' hl').1;omega
 have hmo:kD g w g2 w':=⟨fun b hb=>⟨Or.inl (hE.mono.fE b hb).1,(hE.mono.fE b hb).2⟩,bf _,hE.mono.ver⟩;refine⟨.ret r,g2,_,D4,⟨hmo,hE.size,hE.os,hE.tape,hE.output,hE.frame,fun c hc hi=>?_,fun c hc ⟨l,hl,hb⟩=>hE.By c hc ⟨l,(QL l hl).2,hb⟩⟩,?_,rfl,rfl⟩
 ·rcases hi with hi|⟨l,hl,hb⟩
  ·exact hE.qS c hc hi
  exact .inr (hE.By c hc ⟨l,(lift l hl).2,hb⟩)
 ·cases e with
  | returned v=>exact View.vr (g':=g2) hRd (fun c hc=>Or.inl hc) (fun c hc=>Or.inr hc) C4 hO
  | panicked c=>exact hO.elim
  | outgrown=>exact hO.elim
def cK.amE {P : Program} {f : FuncId} {args : List AV} {σ T : ai} {r : AV} {p j : Nat} {cs : List AV} {el : El} (h : cK P f args σ fun o σ' => o = .ret r /\ σ' = T) (hp : T[p]? = some (.cells cs)) (hj : j < cs.length) (hc : cs.getD j .undef = .aU) :
    cK P f args σ fun o σ'=>o = .ret r/\σ'=T.set p (.cells (cs.set j (.aS false el []))):=by
 refine⟨h.1,fun g w vs hR hlen hv=>(h.2 g w vs hR hlen hv).mono ?_⟩;rintro e w' ⟨out,g',σ',jf,hE,hO,rfl,rfl⟩;have hlt:=(aE.1 hp).1
 have iV:∀ l,Live (σ'.set p (.cells (cs.set j (.aS false el [])))) l->Live σ' l:=fun l ⟨o,ho,hv⟩=>by
  by_cases e:p=l
  ·subst e;exact⟨_,hp,rfl⟩
  rw[aF e]at ho;exact⟨o,ho,hv⟩
 have D4:Rel g' w' (σ'.set p (.cells (cs.set j (.aS false el [])))):=by
  refine⟨by rw[dM];exact jf.len,jf.lt,fun l o ho=>?_,fun l l' c hl hl'=>jf.inj l l' c (iV l hl) (iV l' hl'),fun l c hl=>jf.p7 l c (iV l hl),jf.glob⟩;by_cases e:p=l
  ·subst e;rw[bw hlt]at ho;cases ho;obtain⟨h1,h2,b,us,h3,h4,h5,h6,h7⟩:=jf.ok p _ hp;refine⟨h1,?_,b,us,h3,h4,by rw[dM];exact h5,fun i hi=>?_,trivial⟩
   ·rw[aZ]at h2 ⊢;intro x hx;rcases List.mem_or_eq_of_mem_set hx with hx|rfl
    ·exact h2 x hx
    rfl
   rw[dM]at hi;have h8:=h6 i hi;by_cases e:j=i
   ·subst e;rw[hc]at h8;rw[aq,bw hj];generalize us.getD j Go.undef=u at h8;cases h8;exact VR.jd _ _ _ _ (fun h=>by cases h)
   rw[aq,aF e,<-aq];exact h8
  rw[aF e]at ho;exact jf.ok l o ho
 refine⟨.ret r,g',_,D4,⟨hE.mono,hE.size,hE.os,hE.tape,hE.output,hE.frame,hE.qS,fun c hc ⟨l,hl,hb⟩=>hE.By c hc ⟨l,iV l hl,hb⟩⟩,hO,rfl,rfl⟩
end Go.AM
namespace Go.Proofs.YtoldfccfpameeaaGreatDoor
open Go.AM
set_option maxRecDepth 4000
abbrev Ek: El:=⟨true,6⟩
def AH(l:List Table): AV:= .aS false Ek (l.map dP)
def kX(l:List iY): AV:= .aS false Ek (l.map iU)
structure Mo where
 vs:List (aT × List Table)
 mark:Mk
 es:List iY
def L9(vs:List (aT × List Table)): List (AV × AV):=vs.map fun p=>(.str p.1,AH p.2)
def AI(q:Nat)(m:Mo): List AV:=[.mp q,I m.mark.base,I m.mark.count,.str m.mark.anchor,.str m.mark.head,kX m.es]
structure lj (S:ai) (p q:Nat) (m:Mo):Prop where
 hp:S[p]? = some (.cells (AI q m))
 hq:S[q]? = some (.map (L9 m.vs))
def lj.ne{S:ai}{p q:Nat}{m:Mo}(h:lj S p q m): p≠q:=fun e=>by
 have h1:=h.hp;rw[e,h.hq]at h1;cases h1
def fT(S S':ai): Prop:= ∀(j:Nat) (ob:aX),S[j]? = some ob->S'[j]? = some ob
def fT.refl(S:ai): fT S S:=fun _ _ h=>h
def fT.trans{S S' T:ai}(h:fT S S')(h':fT S' T): fT S T:=fun j ob e=>h' j ob (h j ob e)
def fT.app(S T:ai): fT S (S++T):=fun j ob e=>by rw[aH (aE.1 e).1];exact e
def lj.keep{S S':ai}{p q:Nat}{m:Mo}(h:lj S p q m)(k:fT S S'): lj S' p q m:=⟨k _ _ h.hp,k _ _ h.hq⟩
def nH(S T:ai)(k:Nat): (S++T)[S.length+k]? = T[k]?:=by
 rw[bq ae];simp
def nS(S T:ai): (S++T)[S.length]? = T[0]?:=nH S T 0
def ny(S T:ai)(k:Nat)(d:aX): (S++T).set (S.length+k) d=S++T.set k d:=by
 rw[dV _ _ ae];simp
def oK(S T:ai)(d:aX): (S++T).set S.length d=S++T.set 0 d:=ny S T 0 d
def nh: List (aT × List Table)->aT->Nat->Option (Nat × List Table)
 | [],_,_=>none
 |(a,l)::r,s,i=>if s==a then some (i,l)else nh r s (i+1)
def AJ(s:aT): ∀(vs:List (aT × List Table)) (i:Nat),lF (.str s) (L9 vs) i=some ((nh vs s i).map fun j=>(j.1,AH j.2))
 | [],i=>rfl
 | (a, l) :: r, i => by
   show(match some (s==a)with|some true=>some (some (i,AH l))|some false=>lF (.str s) (L9 r) (i+1)|none=>none)=_;rw[nh];by_cases h:(s==a)=true
   ·rw[h];rfl
   have h:(s==a)=false:=by simpa using h
   rw[h];exact AJ s r (i+1)
def i_(vs:List (aT × List Table))(s:aT): List Table:=match nh vs s 0 with
 | some (_,l)=>l
 | none=>[]
def iD(m:Mo)(s:aT)(v:Int): Table × Int × Int :=
 if iL s=false then(sZ,0,13)else
 let w:Int:=if v=0 then(i_ m.vs s).length else v
 if w<1\/((i_ m.vs s).length:Int)<w then(sZ,0,6)else ((i_ m.vs s).getD (w-1).toNat default,w,0)
def GK(r:Table × Int × Int): AV:= .bR [dP r.1,I r.2.1,I r.2.2]
section
variable {P:Program} {n:FuncId} {args:List AV} {σ σ2:ai} {r:AV} {K Kp:AV->ai->Prop}
def jx(h:kK P n args σ r)(hk:kj r (.mk:Tg fun r=>K r σ)): pP P n args σ (.mk:Tg (K,Kp)):=h.mono (by rintro o s ⟨rfl,rfl⟩;exact hk)
end
def aem(q:Nat): pG .m (.mp q) .iZ=some false:=rfl
def DU(s:aT): AV.pI none (.str s)=true:=rfl
def sw{S:ai}{p q:Nat}{m:Mo}(h:lj S p q m): kK aI 31 [.ref p 0] S (.bool true):=by
 have hp:=h.hp;unfold AI at hp;refine Eu.go ?_;unfold dO;intro Q aJ aK aL;repeat' first|simp (disch:=omega) only[go_sem,aJ,aK,aL,hp,aem]|refine aC ?_|refine aB ?_ ?_<;>intro hw<;>try omega|fail
 all_goals exact⟨rfl,trivial⟩
def Ny{S:ai}{c:Int}{E:Table × Int × Int}(hE:(sZ,0,c)=E): ∃ r0 τ,Out.ret (oneOf [.agg [.str [],.aU,.aU,I 0,I 0,.aU],I 0,I c])=Out.ret r0/\S++[aX.cells [.str [],.aU,.aU,I 0,I 0,.aU]]=S++ τ/\View (S.map (fun _=>aX.dead)++ τ) r0 (GK E):=by
 subst hE;exact⟨_,_,rfl,rfl,View.ahn (.cons (View.nO (.cons (.refl _ rfl) (.cons (.aU _) (.cons (.aU _) (.cons (.refl _ rfl) (.cons (.refl _ rfl) (.cons (.aU _) (.nil _)))))))) (.cons (.refl _ rfl) (.cons (.refl _ rfl) (.nil _))))⟩
def abG{S:ai}{t:Table}{w:Int}{E:Table × Int × Int}(hE:(t,w,0)=E): ∃ r0 τ,Out.ret (oneOf [.agg (fU t),I w,I 0])=Out.ret r0/\S++[aX.cells (fU t)]=S++ τ/\View (S.map (fun _=>aX.dead)++ τ) r0 (GK E):=by
 subst hE;exact⟨_,_,rfl,rfl,View.refl _ (by show(GK (t,w,0)).dy=true;simp[GK,AV.dy,AV.cE])⟩
def xI {S : ai} {p q : Nat} {m : Mo} (h : lj S p q m) (s : aT) (hs : s.length <= 2 ^ 60) (v : Int) (hl : (i_ m.vs s).length <= 2 ^ 60) :
    kK aI 13 [.ref p 0,.str s,I v] S (GK (iD m s v)):=by
 refine cK.drop ?_;have c1:=fun c=>sw (h.keep (fT.app S [c]));have c2:=vP s ae;obtain⟨E,hE⟩:=cq (iD m s v);rw[hE];unfold iD at hE;have hp:=fun c:aX=>(fT.app S [c]) _ _ h.hp;have hq:=fun c:aX=>(fT.app S [c]) _ _ h.hq;have Cv:=AJ s m.vs 0;have SQ:=fun c:aX=>(by simp:(S++[c])[S.length]? = some c);have hSs:=fun c d:aX=>(by simp:(S++[c]).set S.length d=S++[d]);unfold i_ at hE hl;unfold AI at hp;refine A4.go ?_;unfold dO;intro Q aJ aK aL;cases hn:iL s
 ·rw[hn]at hE c2;rw[au rfl]at hE;repeat' first|refine cB (zB hp SQ hSs) ?_|refine aC ?_|with_reducible refine jx (c1 _) ?_|refine aB ?_ ?_<;>intro hw<;>try omega|fail
  all_goals first|exact Ny hE|skip
 rw[hn]at hE c2;rw[aj aR]at hE;cases hf:nh m.vs s 0 with
 | none =>
   rw[hf]at Cv hE hl;simp only[Option.map_none]at Cv;dsimp only at hE hl;repeat' first|simp (disch:=omega) only[go_sem,aJ,aK,aL,hp,hq,Cv,DU,SQ,hSs]|refine aC ?_|with_reducible refine jx (c1 _) ?_|refine aB ?_ ?_<;>intro hw<;>try omega|fail
   all_goals first|exact Ny (by rw[<-hE,au (by split<;>simp_all<;>omega)])|skip
 | some j =>
   obtain⟨i,l⟩:=j;rw[hf]at Cv hE hl;simp only[c_,AH]at Cv;dsimp only at hE hl;repeat' first|simp (disch:=omega) only[go_sem,aJ,aK,aL,hp,hq,Cv,DU,SQ,hSs]|refine aC ?_|with_reducible refine jx (c1 _) ?_|refine aB ?_ ?_<;>intro hw<;>try omega|fail
   all_goals first|exact Ny (by rw[<-hE,au (by split<;>simp_all<;>omega)])|exact abG (by rw[<-hE,aj (by rw[au (by assumption)];omega),au (by assumption)])|exact abG (by rw[<-hE,aj (by rw[aj (by assumption)];omega),aj (by assumption)])|skip
def oL(vs:List (aT × List Table))(s:aT)(l:List Table): List (aT × List Table):=match nh vs s 0 with
 | some (i,_)=>vs.set i (s,l)
 | none=>vs++[(s,l)]
def aen(s:aT)(l:List Table)(vs:List (aT × List Table)): wF (.str s) (AH l) (L9 vs)=some (L9 (oL vs s l)):=by
 unfold wF oL;rw[AJ];cases nh vs s 0 with
 | none=>simp[L9]
 | some j=>simp[L9,List.map_set]
def uZ(m:Mo)(t:Table): Mo × Int × Int :=
 if(fW t).2.2.2≠0 then(m,0,(fW t).2.2.2)else
 if(mT (fW t).1).2≠0 then(m,0,(mT (fW t).1).2)else
 (⟨oL m.vs (fW t).1.name (i_ m.vs (fW t).1.name++[(fW t).1]),m.mark,m.es⟩,(i_ m.vs (fW t).1.name).length+1,0)
def qO(p q:Nat)(S S':ai): Prop:= ∀(j:Nat) (ob:aX),S[j]? = some ob->j≠p->j≠q->S'[j]? = some ob
def qC{S:ai}{p q:Nat}{m:Mo}(h:lj S p q m)(T:ai): lj (S++T) p q m/\qO p q S (S++T):=⟨h.keep (fT.app S T),fun j ob e _ _=>fT.app S T j ob e⟩
def abH{S:ai}{p q:Nat}{m:Mo}(h:lj S p q m)(T:ai)(vs:List (aT × List Table)): lj ((S++T).set q (.map (L9 vs))) p q ⟨vs,m.mark,m.es⟩/\qO p q S ((S++T).set q (.map (L9 vs))):=by
 have h2:=h.keep (fT.app S T);have hl:=(aE.1 h2.hq).1;refine⟨⟨?_,bw hl⟩,fun j ob e _ hq=>?_⟩
 ·rw[aF (Ne.symm h.ne)];exact h2.hp
 rw[aF (Ne.symm hq)];exact fT.app S T j ob e
def Em {S : ai} {p q : Nat} {m : Mo} (h : lj S p q m) (t : Table) (ok : jV t) (okc : jV (fW t).1) (hl : ∀ s, (i_ m.vs s).length <= 2 ^ 30) :
    cK aI 26 [.ref p 0,dP t] S (fun o S'=>o = .ret (.bR [I (uZ m t).2.1,I (uZ m t).2.2])/\lj S' p q (uZ m t).1/\qO p q S S'):=by
 have c2:=F0 t ok;have c3:=Ty (fW t).1 okc;obtain⟨E,hE⟩:=cq (uZ m t);rw[hE];unfold uZ at hE;generalize fW t=C at *;obtain⟨c,a,b,e⟩:=C;generalize mT c=B at *;obtain⟨bs,be⟩:=B;dsimp only at hE c2 c3;have hp:=fun T:ai=>(fT.app S T) _ _ h.hp;have hq:=fun T:ai=>(fT.app S T) _ _ h.hq;have c1:=fun T=>sw (h.keep (fT.app S T));have Cv:=AJ c.name m.vs 0;have xR:=hl c.name;have yR:=aen c.name (i_ m.vs c.name++[c]) m.vs;have hst:=fun T:ai=>fT.app S T;have hne:=h.ne;unfold AI at hp;simp only[eT4,eB,dP,fU,b_,eL]at c2 c3 ⊢;refine A3.go ?_;unfold dO;intro Q aJ aK aL;cases hf:nh m.vs c.name 0 with
 | none =>
   have hg:i_ m.vs c.name=[]:=by unfold i_;rw[hf]
   rw[hg]at yR xR hE;rw[hf]at Cv;simp only[Option.map_none]at Cv;simp only[AH,bX,bB,cY,dP,fU,b_,eL]at yR;repeat' first|simp (disch:=omega) only[go_sem,aJ,aK,aL,hp,hq,Cv,yR,DU,aV,dN]|refine aC ?_|with_reducible refine jx (c1 _) ?_|refine aB ?_ ?_<;>intro hw<;>try omega|fail
   all_goals first
    | (obtain rfl : (m, 0, e) = E := by rw [<-hE, au ae]
       exact⟨rfl,qC h _⟩)
    | (obtain rfl : (m, 0, be) = E := by rw [<-hE, aj ae, au ae]
       exact⟨rfl,qC h _⟩)
    | (obtain rfl : (⟨oL m.vs c.name ([c]), m.mark, m.es⟩, (0 + 1 : Int), 0) = E := by rw [<-hE, aj ae, aj ae]; first | done | simp
       exact⟨rfl,abH h _ _⟩)
    | skip
 | some j =>
   obtain⟨i,l⟩:=j;have hg:i_ m.vs c.name=l:=by unfold i_;rw[hf]
   rw[hg]at yR xR hE;rw[hf]at Cv;simp only[c_,AH]at Cv;simp only[AH,fH,bB,cY,dP,fU,b_,eL]at yR;repeat' first|simp (disch:=omega) only[go_sem,aJ,aK,aL,hp,hq,Cv,yR,DU,aV,dN]|refine aC ?_|with_reducible refine jx (c1 _) ?_|refine aB ?_ ?_<;>intro hw<;>try omega|fail
   all_goals first
    | (obtain rfl : (m, 0, e) = E := by rw [<-hE, au ae]
       exact⟨rfl,qC h _⟩)
    | (obtain rfl : (m, 0, be) = E := by rw [<-hE, aj ae, au ae]
       exact⟨rfl,qC h _⟩)
    | (obtain rfl : (⟨oL m.vs c.name (l ++ [c]), m.mark, m.es⟩, (l.length + 1 : Int), 0) = E := by rw [<-hE, aj ae, aj ae]; first | done | simp
       exact⟨rfl,abH h _ _⟩)
    | skip
def HK(xs:List AV)(hp:AV.cE xs=true)(hn:xs.length<=2 ^ 60): aQ aI 54 [.aS false Ek xs] (.aS true Ek xs):=by
 refine aY C_ ?_ (by simp[AV.dy,AV.cE,hp]);intro Q aJ aK aL;repeat' first|refine aC ?_|refine aB ?_ ?_<;>intro hw<;>try omega|fail
 refine⟨_,rfl,?_⟩;rw[gG];exact View.refl _ (by show(AV.aS true Ek xs).dy=true;simpa[AV.dy]using hp)
def abI{P:Program}{σ : ai}{K Kp:AV->ai->Prop}(f:Bool): eE P (.app none ⟨true,6⟩ (.c (.aS true ⟨true,6⟩ [])) (.c (.aS f ⟨true,6⟩ []))) σ (.mk:Tg (K,Kp))=K (.aS true ⟨true,6⟩ []) σ:=by
 simp[eE,bA.run,AX.ev,oT,gC]
def xj(xs:List AV)(hp:AV.cE xs=true)(hf:xs.all (fun a=>a.fits Ek)=true)(hn:xs.length<=2 ^ 30): aQ aI 32 [.aS false Ek xs] (.aS false Ek xs):=by
 refine aY BY ?_ (by simp[AV.dy,AV.cE,hp]);intro Q aJ aK aL;repeat' first|refine aC ?_|refine aB ?_ ?_<;>intro hw<;>try omega|fail
 refine aiy (fun hx=>?_) ?_
 ·subst hx;repeat' first|simp (disch:=omega) only[go_sem,aJ,aK,aL,aP,if_false]|refine aC ?_|refine aB ?_ ?_<;>intro hw<;>try omega|fail
  all_goals first|exact⟨_,rfl,.aU _⟩|exact absurd hw aR|skip
 ·cases xs with
  | nil =>
    repeat' first|simp (disch:=omega) only[go_sem,aJ,aK,aL,aP,if_false,abI]|refine aC ?_|refine aB ?_ ?_<;>intro hw<;>try omega|fail
    exact⟨_,rfl,.weak _ _ _ rfl⟩
  | cons x r =>
    repeat' first|simp (disch:=omega) only[go_sem,aJ,aK,aL,aP,if_false,hf]|refine aC ?_|refine aB ?_ ?_<;>intro hw<;>try omega|fail
    refine G5 ⟨trivial,by show(r.length+1)*7<=2 ^ 40;simp at hn;omega⟩ fun _=>?_;repeat' first|refine aC ?_|refine aB ?_ ?_<;>intro hw<;>try omega|fail
    exact⟨_,rfl,View.vec rfl rfl rfl hp⟩
def Y6{S:ai}{p q:Nat}{m:Mo}(h:lj S p q m): kK aI 10 [.ref p 0] S (.bR [vv m.mark,I 0]):=by
 refine cK.drop ?_;have c1:=fun c=>sw (h.keep (fT.app S [c]));have hp:=fun c:aX=>(fT.app S [c]) _ _ h.hp;unfold AI at hp;have SQ:=fun c:aX=>(by simp:(S++[c])[S.length]? = some c);have hSs:=fun c d:aX=>(by simp:(S++[c]).set S.length d=S++[d]);refine Et.go ?_;unfold dO;intro Q aJ aK aL;repeat' first|refine cB (zB hp SQ hSs) ?_|refine aC ?_|with_reducible refine jx (c1 _) ?_|refine aB ?_ ?_<;>intro hw<;>try omega|fail
 exact⟨_,_,rfl,rfl,View.refl _ rfl⟩
def TN(m:Mo)(a n:Int): List iY:=(m.es.drop (a-m.mark.base).toNat).take n.toNat
def L_(l:List iY): (l.map iU).all (fun a=>a.fits Ek)=true:=by
 rw[aZ];intro x hx;obtain⟨e,_,rfl⟩:=dG.1 hx;rfl
def Pq {S : ai} {p q : Nat} {m : Mo} (h : lj S p q m) (hm : Ej m.mark) (hl : (m.es.length : Int) = m.mark.count - m.mark.base) (he : m.es.length <= 2 ^ 30) (a n : Int) (ha : m.mark.base <= a) (ha2 : a <= m.mark.count) (h0 : 0 <= n) :
    kK aI 11 [.ref p 0,I a,I n] S (.bR [kX (TN m a n),I 0]):=by
 have c1:=sw h;have hp:=h.hp;unfold AI kX at hp;obtain⟨g1,g2,g3,_,_,_⟩:=hm;obtain⟨E,hE⟩:=cq (TN m a n);rw[hE];unfold TN at hE;refine Fq.go ?_;unfold dO;intro Q aJ aK aL;have hc:=fun k j=>xj (((m.es.drop k).take j).map iU) (fN _ _ zn) (L_ _) (by simp;omega);simp only[List.map_take,List.map_drop]at hc;repeat' first|refine cB hp ?_|refine aC ?_|refine eS ((hc _ _)) ?_|with_reducible refine jx c1 ?_|refine aB ?_ ?_<;>intro hw<;>try omega|fail
 refine⟨?_,trivial⟩;rw[<-hE];simp only[oneOf,kX,List.map_take,List.map_drop];split
 ·rename_i hlt;rw[bH ae,bH (by simp at hlt ⊢;omega)]
 rfl
noncomputable def gE (l:List iY):List aT:=l.map fun e=>(gV e).1
def jE(l:List iY): (gE l).length=l.length:=by simp[gE]
def IC {S : ai} {p q : Nat} {m : Mo} (h : lj S p q m) (hk : ∀ e ∈ m.es, oA e) (he : m.es.length <= 2 ^ 30) :
    kK aI 35 [.ref p 0] S (.aS false E1 ((gE m.es).map eZ)):=by
 refine cK.drop ?_;have hp:=h.hp;unfold AI kX at hp;refine C7.go ?_;unfold dO;intro Q aJ aK aL;have qK:=(aE.1 hp).1;have Pr:=fun T:ai=>(fT.app S T) _ _ hp;repeat' first|refine cB Pr ?_|refine aC ?_|refine aB ?_ ?_<;>intro hw<;>try omega|fail
 with_reducible refine bG [3,1,5,3,13,14] (fun i:Nat=>[(13,I i),(3,.own E1 S.length i 0 i)]) (fun i=>S++(.vec E1 (((gE m.es).take i).map eZ)::(m.es.take i).map fun e=> .cells (lK e))) (fun i=>i<=m.es.length) (fun i=>m.es.length-i) (0) ?_ ?_ ?_ ?_
 ·simp
 ·simp
 ·exact at_
 rintro i r hi;try dsimp only at hi
 by_cases mg:i<m.es.length
 ·have c2:=Br (m.es.getD i default) (hk _ (bx mg))
  have hts:(gE m.es).take (i+1)=(gE m.es).take i++[(gV (m.es.getD i default)).1]:=by
   have e1:m.es.getD i default=m.es[i]:=by simp[aq,mg]
   rw[dz (by rw[jE];exact mg),e1];simp[gE]
  simp only[iU,lK,br,ep,ez,WE]at c2;have hA2:=fun(A:ai) (c:aX)=>(by simp:(A++[c])[A.length]? = some c);have hA3:=fun(A:ai) (c d:aX)=>(by simp:(A++[c]).set A.length d=A++[d]);have Ed:S.length+((m.es.take i).length+1)=(S++aX.vec E1 (((gE m.es).take i).map eZ)::(m.es.take i).map fun e=> .cells (lK e)).length:=aR;unfold lK br ep ez at Ed;generalize hA:S++aX.vec E1 (((gE m.es).take i).map eZ)::(m.es.take i).map (fun e=> .cells (lK e))=A at *
  have hAv:∀ c:aX,(A++[c])[S.length]? = some (.vec E1 (((gE m.es).take i).map eZ)):=fun c=>by
   rw[<-hA,aV,bq ae];simp
  have Q8:(((gE m.es).take i).map eZ).length=i:=by simp[jE];omega
  repeat' first|refine cB (zC Pr hA2 hA3 (zA hAv Q8)) ?_|refine aC ?_|refine aB ?_ ?_<;>intro hw<;>try omega|fail
  refine⟨i+1,?_,?_,?_,c8,?_⟩
  ·dsimp only;omega
  ·dsimp only;omega
  ·dsimp only;rw[<-hA,hts,aV,dV _ _ ae];have e1:m.es.getD i default=m.es[i]:=by simp[aq,mg]
   rw[dz mg,e1];simp[lK,br,ep,ez,eZ,-List.map_take];rw[dz mg,fH];rfl
  exact at_
 obtain rfl:i=m.es.length:=ae;repeat' first|refine aC ?_|refine aB ?_ ?_<;>intro hw<;>try omega|fail
 refine⟨_,_,rfl,rfl,?_⟩
 ·rw[bH (Nat.le_of_eq (jE m.es))];exact View.vec (T:=none) aR (by simp[jE]) (by simp[jE]) (uF _)
noncomputable def ni (m:Mo) (s:aT) (v:Int) (row:List aW):Mo × iY × Int × Int :=
 if(iD m s v).2.2≠0 then(m,uU,0,(iD m s v).2.2)else
 if(mU (iD m s v).1 (iD m s v).2.1 row).2≠0 then(m,uU,0,(mU (iD m s v).1 (iD m s v).2.1 row).2)else
 if(gV (mU (iD m s v).1 (iD m s v).2.1 row).1).2≠0 then(m,uU,0,(gV (mU (iD m s v).1 (iD m s v).2.1 row).1).2)else
 (⟨m.vs,kA m.mark (gV (mU (iD m s v).1 (iD m s v).2.1 row).1).1,m.es++[(mU (iD m s v).1 (iD m s v).2.1 row).1]⟩,(mU (iD m s v).1 (iD m s v).2.1 row).1,m.mark.count,0)
def WK{S:ai}{p q:Nat}{m:Mo}(h:lj S p q m)(T:ai)(m2:Mo)(hv:m2.vs=m.vs): lj ((S++T).set p (.cells (AI q m2))) p q m2/\qO p q S ((S++T).set p (.cells (AI q m2))):=by
 have h2:=h.keep (fT.app S T);have hl:=(aE.1 h2.hp).1;refine⟨⟨bw hl,?_⟩,fun j ob e hp _=>?_⟩
 ·rw[aF h.ne,hv];exact h2.hq
 rw[aF (Ne.symm hp)];exact fT.app S T j ob e
def GL {S : ai} {p q : Nat} {m : Mo} (h : lj S p q m) (hm : Ej m.mark) (hc : m.mark.count < 1125899906842624) (s : aT) (hs : s.length <= 2 ^ 60) (v : Int) (hl : (i_ m.vs s).length <= 2 ^ 60) (row : List aW) (hrow : mM row)
    (ht:(iD m s v).2.2=0->jV (iD m s v).1) (hb:∀ x:iY,(gV x).2=0->(gV x).1.length<=2 ^ 37) (hx:(iD m s v).2.2=0->oA (mU (iD m s v).1 (iD m s v).2.1 row).1) (he:m.es.length<=2 ^ 30) :
    cK aI 28 [.ref p 0,.str s,I v,br row] S (fun o S'=>(∃ r0,o = .ret (.bR [r0,I (ni m s v row).2.2.1,I (ni m s v row).2.2.2])/\((ni m s v row).2.2.2=0->r0=iU (ni m s v row).2.1))/\lj S' p q (ni m s v row).1/\qO p q S S'):=by
 have c1:=fun T=>xI (h.keep (fT.app S T)) s hs v hl;obtain⟨E,hE⟩:=cq (ni m s v row);rw[hE];unfold ni at hE;generalize iD m s v=V at *;obtain⟨t,w,e⟩:=V;dsimp only[GK]at hE c1 ht hx;have hp:=fun T:ai=>(fT.app S T) _ _ h.hp;have hq:=fun T:ai=>(fT.app S T) _ _ h.hq;unfold AI at hp;refine BL.go ?_;unfold dO;intro Q aJ aK aL;by_cases SP:e=0
 ·subst SP;have c2:=TD t (ht rfl) w row hrow;have hx:=hx rfl;generalize mU t w row=O at *;obtain⟨x,f⟩:=O;dsimp only[Ix]at hE c2 hx;have c3:=Br x hx;have hb:=hb x;generalize gV x=B at *;obtain⟨bs,be⟩:=B;dsimp only[WE]at hE c3 hb;simp only[dP,fU,b_,eL,iU,lK,br,ep,ez]at c2 c3 ⊢;have qK:=fun T:ai=>(aE.1 (hp T)).1;have hpS:=fun(T:ai) (d:aX)=>(bw (qK T):((S++T).set p d)[p]? = some d);have amF:=(aE.1 h.hp).1;have KA:=fun(T:ai) (d:aX) (k:Nat)=>(by rw[aF ae];exact nH S T k:((S++T).set p d)[S.length+k]? = T[k]?);have hg0:∀ (T:ai) (d:aX),((S++T).set p d)[S.length]? = T[0]?:=fun T d=>KA T d 0;have Pk:=fun(T:ai) (d c:aX) (k:Nat)=>(by rw[List.set_comm _ _ ae,ny]:((S++T).set p d).set (S.length+k) c=(S++T.set k c).set p d);have hs0:∀ (T:ai) (d c:aX),((S++T).set p d).set S.length c=(S++T.set 0 c).set p d:=fun T d c=>Pk T d c 0;by_cases hbe:be=0
  ·subst hbe;have c4:=Y4 hm hc bs (hb rfl);simp only[vv]at c4;have c5:aQ aI 54 [kX m.es] (.aS true Ek (m.es.map iU)):=HK _ (fN _ _ zn) (by simp;omega);have hf5:([AV.agg (lK x)]).all (fun a=>a.fits Ek)=true:=rfl;have hr5:gw (m.es.length+1) Ek:=by show(m.es.length+1)*7<=2 ^ 40;omega
   simp only[lK,br,ep,ez]at hf5;repeat' first|simp (disch:=omega) only[go_sem,aJ,aK,aL,hp,hpS,nH,nS,ny,oK,cz,bT,fO,fP,bQ,bX,aV,dN,d_,hf5,hr5,KA,hg0,Pk,hs0]|refine aC ?_|with_reducible refine jx (c1 _) ?_|refine aB ?_ ?_<;>intro hw<;>try omega|fail
   all_goals first
    | (obtain rfl : (m, uU, 0, f) = E := by rw [<-hE, aj ae, au ae]
       exact⟨⟨_,rfl,fun h0=>absurd h0 (by dsimp only;omega)⟩,qC h _⟩)
    | (obtain rfl : (⟨m.vs, kA m.mark bs, m.es ++ [x]⟩, x, m.mark.count, 0) = E := by rw [<-hE, aj ae, aj ae, aj ae]
       have VX:=fun T=>WK h T ⟨m.vs,kA m.mark bs,m.es++[x]⟩ rfl;simp only[AI,kX,fH,bB,cY,iU,lK,br,ep,ez]at VX;exact⟨⟨_,rfl,fun _=>rfl⟩,VX _⟩)
    | skip
  repeat' first|simp (disch:=omega) only[go_sem,aJ,aK,aL,hp,nH,nS,ny,oK,cz,bT,fO,fP,bQ,bX,aV,dN]|refine aC ?_|with_reducible refine jx (c1 _) ?_|refine aB ?_ ?_<;>intro hw<;>try omega|fail
  all_goals first
   | (obtain rfl : (m, uU, 0, f) = E := by rw [<-hE, aj ae, au ae]
      exact⟨⟨_,rfl,fun h0=>absurd h0 (by dsimp only;omega)⟩,qC h _⟩)
   | (obtain rfl : (m, uU, 0, be) = E := by rw [<-hE, aj ae, aj ae, au ae]
      exact⟨⟨_,rfl,fun h0=>absurd h0 (by dsimp only;omega)⟩,qC h _⟩)
   | skip
 repeat' first|simp (disch:=omega) only[go_sem,aJ,aK,aL,hp,nH,nS,ny,oK,cz,bT,fO,fP,bQ,bX,aV,dN]|refine aC ?_|with_reducible refine jx (c1 _) ?_|refine aB ?_ ?_<;>intro hw<;>try omega|fail
 all_goals first
  | (obtain rfl : (m, uU, 0, e) = E := by rw [<-hE, au ae]
     exact⟨⟨_,rfl,fun h0=>absurd h0 (by dsimp only;omega)⟩,qC h _⟩)
  | skip
end Go.Proofs.YtoldfccfpameeaaGreatDoor
namespace Go.AM
def AK{P:Program}{n:FuncId}{args:List AV}{σ : ai}{r:AV}{K Kp:AV->ai->Prop}(h:∀ τ,kK P n args (σ++ τ) r)(hk:kj r (.mk:Tg fun r=>K r σ)): zW P n args σ (.mk:Tg (K,Kp)):=⟨r,h,hk⟩
end Go.AM
namespace Go.Proofs.YtoldfccfpameeaaGreatDoor
open Go.AM
set_option maxRecDepth 4000
noncomputable def qP (m:Mo) (k:Int):Mo × Int :=
 if m.mark.base<=k/\k<=m.mark.count then(⟨m.vs,uY m.mark (gE m.es) k,m.es.drop (k-m.mark.base).toNat⟩,0)else (m,22)
def En {S : ai} {p q : Nat} {m : Mo} (h : lj S p q m) (hm : Ej m.mark) (hst : su m.mark (gE m.es)) (hk : ∀ e ∈ m.es, oA e) (hb : ∀ e ∈ m.es, (gV e).1.length <= 2 ^ 37) (he : m.es.length <= 2 ^ 30) (k : Int) :
    cK aI 19 [.ref p 0,I k] S (fun o S'=>o = .ret (I (qP m k).2)/\lj S' p q (qP m k).1/\qO p q S S'):=by
 have c1:=sw h;have c2:=fun T=>IC (h.keep (fT.app S T)) hk he;have c3:=abF hm (gE m.es) (fun x hx=>by obtain⟨e,h1,rfl⟩:=dG.1 hx;exact hb e h1) (by rw[jE];omega) hst k;have hp:=h.hp;have hs1:=hst.1;rw[jE]at hs1;obtain⟨E,hE⟩:=cq (qP m k);rw[hE];unfold qP at hE;unfold AI kX at hp;unfold vv at c3;have Pr:=fun T:ai=>(fT.app S T) _ _ hp;refine A2.go ?_;unfold dO;intro Q aJ aK aL;have c5:=fun d=>xj ((m.es.drop d).map iU) (fN _ _ zn) (L_ _) (by simp;omega);simp only[List.map_drop]at c5;have amF:=(aE.1 h.hp).1;have qK:=fun T:ai=>(aE.1 (Pr T)).1;have hpS:=fun(T:ai) (d:aX)=>(bw (qK T):((S++T).set p d)[p]? = some d);have KA:=fun(T:ai) (d:aX) (k:Nat)=>(by rw[aF ae];exact nH S T k:((S++T).set p d)[S.length+k]? = T[k]?);have hg0:∀ (T:ai) (d:aX),((S++T).set p d)[S.length]? = T[0]?:=fun T d=>KA T d 0;have Pk:=fun(T:ai) (d c:aX) (k:Nat)=>(by rw[List.set_comm _ _ ae,ny]:((S++T).set p d).set (S.length+k) c=(S++T.set k c).set p d);have hs0:∀ (T:ai) (d c:aX),((S++T).set p d).set S.length c=(S++T.set 0 c).set p d:=fun T d c=>Pk T d c 0;by_cases hkk:m.mark.base<=k/\k<=m.mark.count
 ·rw[au hkk]at c3 hE;subst hE;repeat' first|simp (disch:=omega) only[go_sem,aJ,aK,aL,hp,Pr,hpS,KA,hg0,Pk,hs0,nH,nS,ny,oK,d_,cz,bT,fO,fP,bQ,bX,aV,dN]|refine aC ?_|refine eS ((c5 _)) ?_|with_reducible refine jx c1 ?_|with_reducible refine AK c2 ?_|refine aB ?_ ?_<;>intro hw<;>try omega|fail
  have VX:=fun T=>WK h T ⟨m.vs,uY m.mark (gE m.es) k,m.es.drop (k-m.mark.base).toNat⟩ rfl;simp only[AI,kX,List.map_drop]at VX;exact⟨rfl,VX _⟩
 rw[aj hkk]at c3 hE;subst hE;repeat' first|simp (disch:=omega) only[go_sem,aJ,aK,aL,hp,Pr,hpS,KA,hg0,Pk,hs0,nH,nS,ny,oK,d_,cz,bT,fO,fP,bQ,bX,aV,dN]|refine aC ?_|refine eS ((c5 _)) ?_|with_reducible refine jx c1 ?_|with_reducible refine AK c2 ?_|refine aB ?_ ?_<;>intro hw<;>try omega|fail
 exact⟨rfl,qC h _⟩
end Go.Proofs.YtoldfccfpameeaaGreatDoor
namespace Go.Proofs
open Go.RowKit Go.Maps Go.Sort Go.Shelf
end Go.Proofs
namespace Go.Proofs.YtoldfccfpameeaaGreatDoor
open Go.AM Go.Maps Go.Sort
set_option maxRecDepth 4000
def GM(l:List iY)(hk:∀ e ∈ l,oA e)(hl:l.length<=2 ^ 60): aQ aI 20 [kX l,kX l] (.bool true):=by
 unfold kX;refine aY Jj ?_ (by simp[AV.dy,AV.cE,fN _ _ zn]);intro Q aJ aK aL;repeat' first|refine aC ?_|refine aB ?_ ?_<;>intro hw<;>try omega|fail
 with_reducible refine bG [4,2,11,16] (fun i:Nat=>[(5,I i)]) (fun _=>[]) (fun i=>i<=l.length) (fun i=>l.length-i) (0) ?_ ?_ ?_ ?_
 ·simp
 ·rfl
 ·exact at_
 rintro i r hi;try dsimp only at hi
 by_cases mg:i<l.length
 ·have c1:=YP (l.getD i default) (l.getD i default) (hk _ (bx mg)).sm (hk _ (bx mg)).sm;rw[LY]at c1;simp only[iU,lK,br,ep,ez]at c1;repeat' first|refine aC ?_|refine aB ?_ ?_<;>intro hw<;>try omega|fail
  refine⟨i+1,?_,?_,?_,c8,?_⟩
  ·dsimp only;omega
  ·dsimp only;omega
  ·rfl
  exact at_
 obtain rfl:i=l.length:=ae;repeat' first|refine aC ?_|refine aB ?_ ?_<;>intro hw<;>try omega|fail
 all_goals exact a_ rfl rfl
def u0{s:aT}: ∀ {vs:List (aT × List Table)} {i j:Nat} {l:List Table},nh vs s i=some (j,l)->i<=j/\j-i<vs.length/\vs[j-i]? = some (s,l)
 | [],i,j,l,h=>by cases h
 | (a, k) :: r, i, j, l, h => by
   rw[nh]at h;by_cases e:(s==a)=true
   ·rw[au e]at h;cases h;have:s=a:=by simpa using e
    subst this;simp
   rw[aj e]at h;obtain⟨h1,h2,h3⟩:=u0 h;refine⟨ae,by simp;omega,?_⟩;rw[show j-i=(j-(i+1))+1 by omega,bT];exact h3
def Ma{s:aT}: ∀ {vs:List (aT × List Table)} {i:Nat},nh vs s i=none->s ∉ vs.map (·.1)
 | [],i,_=>by simp
 | (a, k) :: r, i, h => by
   rw[nh]at h;by_cases e:(s==a)=true
   ·rw[if_pos e]at h;cases h
   rw[aj e]at h;have h1:=Ma h;have h2:s≠a:=by simpa using e
   simp only[bB,fY,not_or];exact⟨h2,h1⟩
def Ps{s:aT}{l:List Table}: ∀ {vs:List (aT × List Table)} {i:Nat},(vs.map (·.1)).Nodup->(s,l) ∈ vs-> ∃ j,nh vs s i=some (j,l)
 | [],i,_,h=>by cases h
 | (a, k) :: r, i, hn, h => by
   rw[bB,List.nodup_cons]at hn;rw[nh];rcases List.mem_cons.1 h with h'|h'
   ·cases h';exact⟨i,aR⟩
   have hne:s≠a:=fun e=>hn.1 (by subst e;exact dG.2 ⟨(s,l),h',rfl⟩);rw[aj (by simpa using hne)];exact Ps hn.2 h'
def J1{vs:List (aT × List Table)}{s:aT}{l:List Table}(hn:(vs.map (·.1)).Nodup)(h:(s,l) ∈ vs): i_ vs s=l:=by
 obtain⟨j,e⟩:=Ps (i:=0) hn h;unfold i_;rw[e]
def oB(vs:List (aT × List Table))(s:aT): i_ vs s=[]\/(s,i_ vs s) ∈ vs:=by
 unfold i_;cases h:nh vs s 0 with
 | none=>exact .inl rfl
 | some j =>
   obtain⟨i,l⟩:=j;obtain⟨_,_,h3⟩:=u0 h;exact .inr (jw h3)
def abJ(vs:List (aT × List Table))(s:aT)(l:List Table): (oL vs s l).map (·.1)=if s ∈ vs.map (·.1)then vs.map (·.1)else vs.map (·.1)++[s]:=by
 unfold oL;cases h:nh vs s 0 with
 | none=>rw[aj (Ma h)];simp
 | some j =>
   obtain⟨i,k⟩:=j;obtain⟨_,h2,h3⟩:=u0 h;rw[jm]at h2 h3;have hm:s ∈ vs.map (·.1):=dG.2 ⟨_,jw h3,rfl⟩;rw[au hm];dsimp only;rw[List.map_set];apply jA;intro n;by_cases e:i=n
   ·subst e;rw[bw (by simpa using h2)];simp[h3]
   rw[aF e]
def Mb{vs:List (aT × List Table)}(h:(vs.map (·.1)).Nodup)(s:aT)(l:List Table): ((oL vs s l).map (·.1)).Nodup:=by
 rw[abJ];split
 ·exact h
 rename_i hs;exact List.nodup_append.2 ⟨h,aR,fun a ha b hb e=>by simp at hb;subst hb;subst e;exact hs ha⟩
def J2{vs:List (aT × List Table)}{s:aT}{l:List Table}{p:aT × List Table}(h:p ∈ oL vs s l): p=(s,l)\/p ∈ vs:=by
 unfold oL at h;cases hf:nh vs s 0 with
 | none=>rw[hf]at h;simp at h;exact h.symm
 | some j =>
   obtain⟨i,k⟩:=j;rw[hf]at h;rcases List.mem_or_eq_of_mem_set h with h|h
   ·exact .inr h
   exact .inl h
def aeo(vs:List (aT × List Table))(s:aT)(l:List Table): (oL vs s l).length<=vs.length+1:=by
 unfold oL;split<;>simp
def aep{vs:List (aT × List Table)}(hn:(vs.map (·.1)).Nodup)(s:aT)(l:List Table)(u:aT): i_ (oL vs s l) u=if u=s then l else i_ vs u:=by
 have hn2:=Mb hn s l
 have hin:(s,l) ∈ oL vs s l:=by
  unfold oL;cases hf:nh vs s 0 with
  | none=>simp
  | some j =>
    obtain⟨i,k⟩:=j;obtain⟨_,h2,_⟩:=u0 hf;rw[jm]at h2;exact List.mem_iff_getElem?.2 ⟨i,bw h2⟩
 by_cases e:u=s
 ·rw[au e,e];exact J1 hn2 hin
 rw[aj e];rcases oB vs u with h|h
 ·rcases oB (oL vs s l) u with h2|h2
  ·rw[h,h2]
  rcases J2 h2 with h3|h3
  ·exact absurd (bj Prod.fst h3) e
  rw[<-J1 hn h3]
 have h2:(u,i_ vs u) ∈ oL vs s l:=by
  unfold oL;cases hf:nh vs s 0 with
  | none=>simp[h]
  | some j =>
    obtain⟨i,k⟩:=j;obtain⟨_,h4,h5⟩:=u0 hf;rw[jm]at h4 h5;obtain⟨n,hx⟩:=List.mem_iff_getElem?.1 h
    have hne:i≠n:=fun e2=>by
     subst e2;rw[h5]at hx;cases hx;exact e rfl
    exact List.mem_iff_getElem?.2 ⟨n,by rw[aF hne];exact hx⟩
 exact J1 hn2 h2
structure Y7 (m:Mo):Prop where
 nd:(m.vs.map (·.1)).Nodup
 vn:m.vs.length<=1000000
 vs:∀ p ∈ m.vs,iL p.1=true/\p.1.length<=1000000/\p.2.length<=1000000/\ ∀ t ∈ p.2,jV t
 Eo:Ej m.mark
 el:(m.es.length:Int)=m.mark.count-m.mark.base
 en:m.es.length<=1000
 ee:∀ e ∈ m.es,oA e
def Y7.len{m:Mo}(h:Y7 m)(s:aT): (i_ m.vs s).length<=1000000:=by
 rcases oB m.vs s with e|e
 ·rw[e];simp
 exact(h.vs _ e).2.2.1
def abK(c:Cell): (Hg c).1.length<=200:=by
 unfold Hg;repeat' split
 all_goals (dsimp only;first|(simp;done)|omega)
def abL(x:Expr): (Ak x).1.length<=200:=by
 unfold Ak qF;repeat' split
 all_goals (dsimp only;first|(simp;done)|(simp_all;done)|(simp_all;omega))
def J3{t:Table}(h:jV t): jV (fW t).1:=by
 have ok0:jV sZ:=⟨da,⟨da,fun c hc=>(by cases hc)⟩,⟨da,fun c hc=>(by cases hc)⟩,da,fun c hc=>(by cases hc)⟩;by_cases he:(er t).2.2.2=0
 ·unfold fW;rw[aj ae];split
  ·exact ok0
  obtain⟨a,b,c,d⟩:=h;obtain⟨h1,h2⟩:=Bl ⟨a,b,c,d⟩ he;refine⟨a,b,c,?_,fun r hr=>?_⟩
  ·dsimp only;rw[w5];have:=d.1;omega
  obtain⟨k,_,rfl⟩:=dG.1 hr;have hk:=h2 k;unfold pU;rw[SL];refine⟨⟨?_,fun s hs=>?_⟩,?_,fun s hs=>?_⟩
  ·dsimp only;rw[Ds];have:=hk.1.1;omega
  ·obtain⟨m,_,rfl⟩:=dG.1 hs;have:=abK ((Dt t k).cells.getD m default);unfold nE;omega
  ·dsimp only;rw[FZ];have:=hk.2.1;omega
  obtain⟨m,_,rfl⟩:=dG.1 hs;have:=abL ((Dt t k).outs.getD m default);unfold qL;omega
 rw[s0 he];exact ok0
structure Act where
 kind:Int
 table:Table
 name:aT
 ver:Int
 row:List aW
 n:Int
 m:Int
deriving Inhabited
abbrev EA: El:=⟨true,12⟩
def TP(a:Act): List AV:=[I a.kind,.str a.table.name,b_ a.table.ins,b_ a.table.outs,I a.table.bY,I a.table.agg,eL a.table.rules,.str a.name,I a.ver,br a.row,I a.n,I a.m]
def zw(a:Act): AV:= .agg (TP a)
attribute [go_sem] TP zw
structure Mc (a:Act):Prop where
 tab:jV a.table
 name:a.name.length<=300
 row:mM a.row
noncomputable def IE (m:Mo) (a:Act):Mo × Int :=
 if a.kind=0 then((uZ m a.table).1,(uZ m a.table).2.2)else
 if a.kind=1\/a.kind=2 then((ni m a.name a.ver a.row).1,(ni m a.name a.ver a.row).2.2.2)else
 if a.kind=6 then qP m a.n else(m,0)
structure nj (m:Mo):Prop extends Y7 m where
 st:su m.mark (gE m.es)
 ct:m.mark.count<=1000
 be:∀ e ∈ m.es,(gV e).2=0
def qD{e:iY}(h:(gV e).2=0): (gV e).1.length<=2 ^ 37:=by
 obtain⟨h1,h2⟩:=U4 h;have:=(Ir h1).2;rw[h2];dsimp only;omega
def yA{m:Mo}(h:Y7 m){s:aT}{v:Int}(e:(iD m s v).2.2=0): jV (iD m s v).1:=by
 unfold iD at e ⊢;by_cases hn:iL s=false
 ·rw[au hn]at e;exact absurd e da
 rw[aj hn]at e ⊢;try dsimp only at e ⊢
 generalize (if v=0 then((i_ m.vs s).length:Int)else v)=w at *;by_cases hw:w<1\/((i_ m.vs s).length:Int)<w
 ·rw[au hw]at e;exact absurd (show(6:Int)=0 from e) da
 rw[aj hw];show jV ((i_ m.vs s).getD (w-1).toNat default);have h1:(i_ m.vs s).getD (w-1).toNat default ∈ i_ m.vs s:=bx ae;rcases oB m.vs s with e|e
 ·rw[e]at h1;cases h1
 exact(h.vs _ e).2.2.2 _ h1
def qO.app{S S':ai}{p q:Nat}{T:ai}(h:qO p q (S++T) S'): qO p q S S':=fun j ob e h1 h2=>h j ob (fT.app S T j ob e) h1 h2
def aeq {S : ai} {p q : Nat} {m : Mo} (h : lj S p q m) (ok : nj m) (a : Act) (oa : Mc a) :
    cK aI 9 [.ref p 0,zw a] S (fun o S'=>o = .ret (I (IE m a).2)/\lj S' p q (IE m a).1/\qO p q S S'):=by
 have hk:=fun T:ai=>h.keep (fT.app S T);have xR:=fun s=>cZ (ok.toY7.len s) (by omega:1000000<=2 ^ 30);have c1:=fun T=>Em (hk T) a.table oa.tab (J3 oa.tab) xR;have c2:=fun T=>GL (hk T) ok.Eo (by have:=ok.ct;omega) a.name (by have:=oa.name;omega) a.ver (by have:=xR a.name;omega) a.row oa.row (fun e=>yA ok.toY7 e) (fun x hx=>qD hx) (fun e=>L6 (yA ok.toY7 e) _ oa.row) (by have:=ok.en;omega);have c3:=fun T=>En (hk T) ok.Eo ok.st ok.ee (fun e he=>qD (ok.be e he)) (by have:=ok.en;omega) a.n;obtain⟨E,hE⟩:=cq (IE m a);rw[hE];unfold IE at hE;refine Uh.go ?_;unfold dO;intro Q aJ aK aL;repeat' first|simp (disch:=omega) only[go_sem,aJ,aK,aL,nH,nS,ny,oK,cz,bT,fO,fP,bQ,bX,aV,dN]|refine aC ?_|refine aB ?_ ?_<;>intro hw<;>try omega|fail
 ·refine bS (c1 _) ?_;rintro o S' ⟨rfl,hm,hkb⟩;rw[au ae]at hE;subst hE;repeat' first|refine aC ?_|refine aB ?_ ?_<;>intro hw<;>try omega|fail
  exact⟨rfl,hm,hkb.app⟩
 ·refine bS (c2 _) ?_;rintro o S' ⟨⟨r0,rfl,_⟩,hm,hkb⟩;rw[aj ae,au ae]at hE;subst hE;repeat' first|refine aC ?_|refine aB ?_ ?_<;>intro hw<;>try omega|fail
  exact⟨rfl,hm,hkb.app⟩
 ·refine bS (c2 _) ?_;rintro o S' ⟨⟨r0,rfl,_⟩,hm,hkb⟩;rw[aj ae,au ae]at hE;subst hE;repeat' first|refine aC ?_|refine aB ?_ ?_<;>intro hw<;>try omega|fail
  exact⟨rfl,hm,hkb.app⟩
 ·refine bS (c3 _) ?_;rintro o S' ⟨rfl,hm,hkb⟩;rw[aj ae,aj ae,au ae]at hE;subst hE;repeat' first|refine aC ?_|refine aB ?_ ?_<;>intro hw<;>try omega|fail
  exact⟨rfl,hm,hkb.app⟩
 rw[aj ae,aj ae,aj ae]at hE;subst hE;exact⟨rfl,qC h _⟩
structure qG (k:Nat) (m:Mo):Prop where
 vn:m.vs.length<=k
 vl:∀ p ∈ m.vs,p.2.length<=k
 en:m.es.length<=k
 ct:m.mark.count<=k
def qG.up{k:Nat}{m:Mo}(h:qG k m): qG (k+1) m:=⟨by have:=h.vn;omega,fun p hp=>by have:=h.vl p hp;omega,by have:=h.en;omega,by have:=h.ct;omega⟩
def qG.get{k:Nat}{m:Mo}(h:qG k m)(s:aT): (i_ m.vs s).length<=k:=by
 rcases oB m.vs s with e|e
 ·rw[e];simp
 exact h.vl _ e
def Y8(l k:List iY): gE (l++k)=gE l++gE k:=by simp[gE]
def J4{k:Nat}{m:Mo}(ok:nj m)(b:qG k m)(n:Int): nj (qP m n).1/\qG k (qP m n).1:=by
 unfold qP;split
 ·rename_i h;obtain⟨h1,h2⟩:=aiC ok.Eo ok.st h.1 h.2;have hdr:gE (m.es.drop (n-m.mark.base).toNat)=(gE m.es).drop (n-m.mark.base).toNat:=by simp[gE,List.map_drop]
  have hl:=h2.1;rw[eu,jE]at hl;refine⟨⟨⟨ok.nd,ok.vn,ok.vs,h1,?_,?_,fun e he=>ok.ee e (jv he)⟩,?_,ok.ct,fun e he=>ok.be e (jv he)⟩,⟨b.vn,b.vl,?_,b.ct⟩⟩
  ·dsimp only;rw[List.length_drop];exact hl
  ·dsimp only;rw[List.length_drop];have:=ok.en;omega
  ·dsimp only;rw[hdr];exact h2
  dsimp only;rw[List.length_drop];have:=b.en;omega
 exact⟨ok,b⟩
def WL{k:Nat}{m:Mo}(ok:nj m)(b:qG k m)(hk:k<=900)(s:aT)(v:Int)(row:List aW)(hr:mM row): nj (ni m s v row).1/\qG (k+1) (ni m s v row).1:=by
 unfold ni;split
 ·exact⟨ok,b.up⟩
 rename_i h1;split
 ·exact⟨ok,b.up⟩
 split
 ·exact⟨ok,b.up⟩
 rename_i h2 h3;have hx:=L6 (yA (s:=s) (v:=v) ok.toY7 ae) (iD m s v).2.1 hr;generalize (mU (iD m s v).1 (iD m s v).2.1 row).1=x at *;have hct:=b.ct;have hst:=U_ ok.st (gV x).1;have hmk:=ael ok.Eo ae (gV x).1;have hel:=ok.el;refine⟨⟨⟨ok.nd,ok.vn,ok.vs,hmk,?_,?_,fun e he=>?_⟩,?_,?_,fun e he=>?_⟩,⟨by have:=b.vn;exact Nat.le_succ_of_le this,fun p hp=>Nat.le_succ_of_le (b.vl p hp),?_,?_⟩⟩
 ·simp[kA];omega
 ·simp;have:=b.en;omega
 ·rcases List.mem_append.1 he with he|he
  ·exact ok.ee e he
  obtain rfl:=eC.1 he;exact hx
 ·dsimp only;rw[Y8];exact hst
 ·simp[kA];omega
 ·rcases List.mem_append.1 he with he|he
  ·exact ok.be e he
  obtain rfl:=eC.1 he;omega
 ·simp;exact b.en
 simp[kA];omega
def WM{k:Nat}{m:Mo}(ok:nj m)(b:qG k m)(hk:k<=900)(t:Table)(ht:jV t): nj (uZ m t).1/\qG (k+1) (uZ m t).1:=by
 have okc:=J3 ht;unfold uZ;split
 ·exact⟨ok,b.up⟩
 split
 ·exact⟨ok,b.up⟩
 rename_i h1 h2;generalize (fW t).1=c at *;have hw:=agh okc (Prod.ext rfl (by omega:(mT c).2=0):mT c=((mT c).1,0));have xR:=b.get c.name
 have hn:iL c.name=true:=by
  have h0:=(Ip (Prod.ext rfl (by omega:(mT c).2=0):mT c=((mT c).1,0))).1
  have hm:(er c).2.2.2=0:=by
   by_cases e:(er c).2.2.2=0
   ·exact e
   rw[s0 e]at h0;exact h0
  by_cases hf:jU c=0
  ·exact(Bt hf).1
  rw[Bj hf]at hm;exact absurd hm hf
 have h16:=vY hn
 have hnew:∀ p ∈ oL m.vs c.name (i_ m.vs c.name++[c]),iL p.1=true/\p.1.length<=1000000/\p.2.length<=k+1/\ ∀ t ∈ p.2,jV t:=fun p hp=>by
  rcases J2 hp with rfl|hp
  ·refine⟨hn,by dsimp only;omega,by simp;exact xR,fun u hu=>?_⟩;rcases List.mem_append.1 hu with hu|hu
   ·rcases oB m.vs c.name with e|e
    ·rw[e]at hu;cases hu
    exact(ok.vs _ e).2.2.2 u hu
   obtain rfl:=eC.1 hu;exact okc
  exact⟨(ok.vs p hp).1,(ok.vs p hp).2.1,Nat.le_succ_of_le (b.vl p hp),(ok.vs p hp).2.2.2⟩
 have hvl:=aeo m.vs c.name (i_ m.vs c.name++[c]);have hvn:=b.vn;exact⟨⟨⟨Mb ok.nd _ _,by dsimp only;omega,fun p hp=>⟨(hnew p hp).1,(hnew p hp).2.1,by have:=(hnew p hp).2.2.1;omega,(hnew p hp).2.2.2⟩,ok.Eo,ok.el,ok.en,ok.ee⟩,ok.st,ok.ct,ok.be⟩,⟨by dsimp only;omega,fun p hp=>(hnew p hp).2.2.1,Nat.le_succ_of_le b.en,by have:=b.ct;dsimp only;omega⟩⟩
def aiD{k:Nat}{m:Mo}(ok:nj m)(b:qG k m)(hk:k<=900)(a:Act)(oa:Mc a): nj (IE m a).1/\qG (k+1) (IE m a).1:=by
 unfold IE;split
 ·exact WM ok b hk _ oa.tab
 split
 ·exact WL ok b hk _ _ _ oa.row
 split
 ·exact⟨(J4 ok b a.n).1,(J4 ok b a.n).2.up⟩
 exact⟨ok,b.up⟩
