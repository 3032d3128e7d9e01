/- Part. -/
import Derived.Test.YtdohdkdejmhgnaaGreatDoorY12
set_option linter.all false
namespace Go.AM.B
variable [LV]
def no{p:Prop}{x:Bool}(h:x=true)(e:x=false): p:=by rw[e]at h;cases h
def Qp{el:El}{x:AV}{off:Nat}{ag:Bool}{n:Nat}{K:AV->Bool}{K':AV->Prop}(h:US el x off ag n K=true)(hK:∀ v,K v=true->K' v): partOf el x off ag n K':=by
 cases el with|mk a z =>
 replace h:iK (bK (Nat.beq off 0) (bK (Nat.beq n z) (vC ag a))) (K x)
  (bK (Nat.ble (Nat.add off n) z) (sK x fun cs=>iK ag (sI cs off n fun ds=>K (.agg ds)) (bK (Nat.beq n 1) (sH .undef cs off K))))=true:=h
 unfold partOf;rw[fD]at h;by_cases hc:off=0/\n=z/\ag=a
 ·rw[aB hc];rw[aB (by rw[aL,aL,gg,gg,tY];simpa using hc)]at h;exact hK _ h
 rw[aq hc];rw[aq (by rw[aL,aL,gg,gg,tY];simpa using hc),aL,d_,au]at h;refine⟨h.1,?_⟩;obtain⟨cs,rfl,h2⟩:=ua h.2;rw[fD]at h2;cases ag with
 | true=>rw[if_pos rfl,wT]at h2;exact⟨hK _ h2,fun h=>(by cases h)⟩
 | false=>rw[aq aT,aL,gg,wS]at h2;exact⟨hK _ h2.2,fun _=>h2.1⟩
def kT{el:El}{l m:Nat}{s:St}{K:Option TypeId->Tr AV->Bool}(h:kR el l m s K=true): ∃ T t,s.abs[l]? = some (.bW T el (aH .undef 0 m t))/\K T t=true:=by
 obtain⟨o,ho,h1⟩:=St.gD h;obtain⟨T,aS,k,t,rfl,h2⟩:=HX h1;rw[aL,aL,dZ,gg]at h2;obtain⟨rfl,rfl,h3⟩:=h2;exact⟨T,t,ho,h3⟩
def xW{p:AV}{s:St}{ag:Bool}{n:Nat}{K:AV->Bool}{K':AV->Prop}(h:pC p s ag n K=true)(hK:∀ v,K v=true->K' v): gE s.abs ag n p K':=by
 cases p<;>first|exact no h rfl|skip
 case ref l off =>
  obtain⟨o,ho,ha⟩:=St.gD (show aa5 l off s ag n K=true from h);clear h;obtain⟨T,m,t,rfl,h⟩:=k_ ha;clear ha;rw[aL,d_,au,fD]at h;obtain⟨h1,h⟩:=h;have h1:off+n<=m:=h1;simp only[gE,ho,OB.abs];refine⟨by rw[bZ];exact h1,?_⟩;cases ag with
  | true=>rw[if_pos rfl,lH]at h;exact⟨fun h=>(by cases h),by rw[if_pos rfl,tZ _ h1];exact hK _ h⟩
  | false=>rw[aq aT,aL,gg,Tr.oX]at h;exact⟨fun _=>h.1,by rw[aq aT,rO _ ae,bp];exact hK _ h.2⟩
 case cN el x off=>exact Qp h hK
 case dw el l m i off =>
  replace h:aa6 el l m i off s ag n K=true:=h
  obtain⟨T,t,ho,h⟩:=kT h;rw[aL,d_,au,Tr.oX]at h;simp only[gE,ho];exact⟨trivial,by rw[bZ],by rw[bZ];exact h.1,by rw[rO _ h.1,bp];exact Qp h.2 hK⟩
def MS{s:St}{n:Nat}{p v:AV}{K:St->Bool}{K':ai->Prop}(h:EU s n p v K=true)(hK:∀ s',K s'=true->K' s'.abs): mE s.abs n p v K':=by
 replace h:oO v (fun cs=>bK (dY cs 0 (Nat.beq n)) (bK (iq sL cs) (XJ p s v cs n K)))=true:=h
 rw[rR,aL,aL,j0,gg,A0]at h;obtain⟨h1,h2,h⟩:=h;refine⟨h1.symm,h2,?_⟩;cases p<;>first|exact no h rfl|skip
 case ref l off =>
  obtain⟨o,ho,ha⟩:=St.gD (show XH l off s v.cells n K=true from h);clear h;obtain⟨T,m,t,rfl,h⟩:=k_ ha;clear ha;rw[aL,d_,au]at h;obtain⟨h3,h⟩:=h;have h3:off+n<=m:=h3;obtain⟨k,t',h4,h5⟩:=Le (n:=m) ae h;obtain⟨s',h6,h7⟩:=St.fx h4;simp only[ho,OB.abs]at h6 |-;rw[h5]at h6;exact⟨by rw[bZ];exact h3,by rw[<-h6];exact hK _ h7⟩
 case dw el l m i off =>
  replace h:XI el l m i off s v v.cells n K=true:=h
  obtain⟨T,t,ho,h⟩:=kT h;rw[aL,d_,au]at h;obtain⟨h3,h⟩:=h;cases el with|mk a z =>
  replace h:bK (Nat.ble (Nat.add off n) z)
   (iK a (Tr.dI .undef t i fun x => oO x fun ds => tW v.cells off ds fun es => Tr.di .undef 60 t i (.agg es) fun t' => s.di l (.vec T ⟨a, z⟩ m t') K)
     (bK (kF v ⟨a,z⟩) (Tr.di .undef 60 t i v fun t'=>s.di l (.vec T ⟨a,z⟩ m t') K)))=true:=h
  rw[aL,d_,au,fD]at h;obtain⟨h4,h⟩:=h;simp only[ho];refine⟨trivial,by rw[bZ],by rw[bZ];exact h3,h4,?_⟩;cases a with
  | true =>
    rw[aB rfl,Tr.oX,rR,G0]at h;obtain⟨t',h5,h6⟩:=Qi h3 h;obtain⟨s',h7,h8⟩:=St.fx h5;refine⟨fun h=>(by cases h),?_⟩;rw[aB rfl,rO _ h3,bp];simp only[OB.abs]at h7;rw[h6]at h7;rw[<-h7];exact hK _ h8
  | false =>
    rw[aq aT,aL,nq]at h;obtain⟨t',h5,h6⟩:=Qi h3 h.2;obtain⟨s',h7,h8⟩:=St.fx h5;refine⟨fun _=>h.1,?_⟩;rw[aq aT];simp only[OB.abs]at h7;rw[h6]at h7;rw[<-h7];exact hK _ h8
def MU(b:List UInt8)(K:List AV->Bool): EW b K=K (b.map fun b=> .int .u8 b.toNat):=acG (fun a K=>by rw[ig];rfl) b K
def xX{x:AV}{s:St}{el:El}{K:List AV->Bool}{K':List AV->Prop}(h:wH x s el K=true)(hK:∀ l,K l=true->K' l): fL s.abs el x K':=by
 cases x<;>first|exact no h rfl|skip
 case aP=>exact hK _ h
 case aH f aS xs=>obtain⟨h1,h2⟩:=aL.1 (show bK (eF aS el) (K xs)=true from h);exact⟨dZ.1 h1,hK _ h2⟩
 case own aS l m lo n =>
  obtain⟨h1,h2⟩:=aL.1 (show bK (eF aS el) (kR el l m s fun _ t=>bK (Nat.ble (Nat.add lo n) m) (lO .undef n lo t K))=true from h);refine⟨dZ.1 h1,?_⟩;obtain⟨T,t,ho,h⟩:=kT h2;rw[aL,d_,au,lH]at h;simp only[ho];exact⟨trivial,by rw[bZ],by rw[tZ _ h.1];exact hK _ h.2⟩
 case str b =>
  obtain⟨h1,h2⟩:=aL.1 (show bK (eF el rL) (EW b K)=true from h);rw[MU]at h2;exact⟨dZ.1 h1,hK _ h2⟩
 case lX aS p n =>
  obtain⟨h1,h2⟩:=aL.1 (show bK (eF aS el) (bK (eF el rL) (pC p s true n fun v=>oO v K))=true from h);rw[aL]at h2;exact⟨dZ.1 h1,dZ.1 h2.1,xW (K':=fun v=>K' v.cells) h2.2 fun v hv=>by rw[rR]at hv;exact hK _ hv⟩
def pZ{n:Nat}{el:El}(h:mW n el=true): fE n el:=by
 cases el with|mk a z =>
 replace h:Nat.ble (Nat.mul n (Nat.succ z)) 1099511627776=true:=h
 rw[d_,au]at h;exact h
def MV{T:Option TypeId}{el:El}{ys:List AV}{s:St}{K:AV->St->Bool}(h:EY T el ys s K=true): fE ys.length el/\ ∃ s',s'.abs=s.abs++[.bW T el ys]/\K (.own el s.abs.length ys.length 0 ys.length) s'=true:=by
 obtain⟨t,h1,h2⟩:=l9 _ h;rw[aL]at h1;obtain⟨s',h3,h4⟩:=St.kz h1.2;exact⟨pZ h1.1,s',by rw[h3];simp only[OB.abs,h2],h4⟩
def aaq{a b:Option TypeId}(h:UU a b=true): a=none\/a=b:=by
 cases a with
 | none=>exact .inl rfl
 | some x => cases b with
   | none=>exact no h rfl
   | some y=>exact .inr (by rw[gg.1 (show Nat.beq x y=true from h)])
def SQ{s:St}{T:Option TypeId}{el:El}{x y:AV}{K:AV->St->Bool}{K':AV->ai->Prop}(hh:lA s T el x y K=true)(hK:∀ v s',K v s'=true->K' v s'.abs): oc s.abs T el x y K':=by
 refine xX (K:=fun ys=>bK (iq (fun a=>kF a el) ys) (aeY x T el ys s K)) hh fun ys h=>?_;clear hh;rw[aL,qx]at h;obtain⟨h1,h⟩:=h;refine⟨by rw[<-h1];congr 1;funext a;exact(nq a el).symm,?_⟩
 have nil:∀ {x:Bool} {y z:Bool},iK (fA ys) y z=true->(ys=[]/\y=true)\/(ys≠[]/\z=true):=fun {x y z} h=>by
  cases ys with
  | nil=>exact .inl ⟨rfl,h⟩
  | cons=>exact .inr ⟨aT,h⟩
 cases x<;>first|exact no h rfl|skip
 case aP =>
  replace h:iK (fA ys) (K .aP s) (EY T el ys s K)=true:=h
  rcases nil (x:=true) h with⟨rfl,ha⟩|⟨h0,h⟩
  ·exact hK _ _ ha
  show(if ys.length=0 then K' .aP s.abs else _);rw[aq (by simpa using h0)];obtain⟨h2,s',h3,h4⟩:=MV h;exact⟨h2,by rw[<-h3];exact hK _ _ h4⟩
 case aH f aS xs =>
  replace h:bK f (bK (eF aS el) (iK (fA ys) (K (.aH true el xs) s) (iM xs ys fun zs=>EY T el zs s K)))=true:=h
  rw[aL,aL,dZ]at h;obtain⟨rfl,rfl,h⟩:=h;refine⟨rfl,?_⟩;rcases nil (x:=true) h with⟨rfl,ha⟩|⟨h0,h⟩
  ·rw[aB (by rfl)];exact hK _ _ ha
  rw[aq (by simpa using h0)];rw[kx]at h;obtain⟨h2,s',h3,h4⟩:=MV h;rw[aG]at h2 h4;exact⟨h2,by rw[<-h3];exact hK _ _ h4⟩
 case own aS l m lo n =>
  replace h:bK (eF aS el) (kR el l m s fun T' t=>bK (UU T' T) (bK (Nat.beq lo 0) (bK (Nat.beq n m) (jD .undef ys m t fun k t'=>bK (mW k el) (s.di l (.vec T' el k t') fun s'=>K (.own el l k 0 k) s')))))=true:=h
  rw[aL,dZ]at h;obtain⟨rfl,h⟩:=h;obtain⟨T',t,ho,h⟩:=kT h;rw[aL,aL,aL,gg,gg]at h;obtain⟨h2,rfl,rfl,h⟩:=h;obtain⟨t',h3,h4⟩:=acH _ h;rw[aL]at h3;obtain⟨s',h5,h6⟩:=St.fx h3.2;refine⟨rfl,?_⟩;simp only[ho,bZ];refine⟨aaq h2,trivial,trivial,trivial,trivial,pZ h3.1,?_⟩;simp only[OB.abs]at h5;rw[h4]at h5;rw[<-h5];exact hK _ _ h6
def ik{a b:IntKind}: jl a b=true↔a=b:=by cases a<;>cases b<;>simp[jl,Z9,pE]
def XW{k:IntKind}{z:Int}(h:MO k z=true): dQ k z=z:=by
 have h2 : -(UX k:Int)<=z/\z<xP k:=by
  cases z with
  | ofNat n=>have h:Nat.ble (Nat.succ n) (xP k)=true:=h;rw[d_,au]at h;simp;omega
  | negSucc n=>have h:Nat.ble (Nat.succ n) (UX k)=true:=h;rw[d_,au]at h;rw[Int.negSucc_eq];omega
 unfold dQ;cases k<;>simp only[UX,xP]at h2
 ·exact IntWalk.i8_in _ ae
 ·exact IntWalk.i16_in _ ae
 ·exact IntWalk.i32_in _ ae
 ·exact IntWalk.i64_in _ ae
 ·exact IntWalk.u8_in _ ae
 ·exact IntWalk.u16_in _ ae
 ·exact IntWalk.u32_in _ ae
 exact IntWalk.u64_in _ ae
def nr(k:IntKind)(z:Int)(K:AV->Bool): mX k z K=K (.int k (dQ k z)):=by
 unfold mX;rw[fD,wI,wI];split
 ·rename_i h;rw[XW h]
 rfl
def SR(x y:Int): tU x y=x+y:=by cases x<;>cases y<;>rfl
def SS(x:Int): P7 x = -x:=by
 cases x with
 | ofNat n=>cases n<;>rfl
 | negSucc n=>rfl
def FY(x y:Int)(f:Nat->Nat->Bool)(d:Bool): P8 x y f d=if 0<=x/\0<=y then f x.toNat y.toNat else d:=by
 cases x with
 | ofNat a => cases y with
   | ofNat b=>rw[aB ⟨Int.natCast_nonneg a,Int.natCast_nonneg b⟩];rfl
   | negSucc b=>rw[aq (fun h=>absurd h.2 aT)];rfl
 | negSucc a=>rw[aq (fun h=>absurd h.1 aT)];rfl
def jP{x:Int}{K:Nat->Bool}(h:jW x K=true): 0<=x/\K x.toNat=true:=by
 cases x with
 | ofNat n=>exact⟨Int.natCast_nonneg n,h⟩
 | negSucc n=>exact no h rfl
def acI(k:IntKind)(x y:Int)(K:AV->Bool): UY k x y K=K (.int k (dQ k (x*y))):=by
 unfold UY;rw[FY,nr,nr];split
 ·rename_i h;obtain⟨a,rfl⟩:=cn h.1;obtain⟨b,rfl⟩:=cn h.2;rfl
 rfl
def acJ{k:IntKind}{x y:Int}{K:AV->Bool}(h:UZ k x y K=true): y≠0/\K (.int k (dQ k (x.tdiv y)))=true:=by
 unfold UZ at h;rw[FY,nr,nr]at h;split at h
 ·rename_i h0;obtain⟨a,rfl⟩:=cn h0.1;obtain⟨b,rfl⟩:=cn h0.2;rw[aL,kS,pE]at h;exact⟨by have:=h.1;simp at this;omega,h.2⟩
 rw[aL,kS,uY]at h;exact⟨by simpa using h.1,h.2⟩
def acK{k:IntKind}{x y:Int}{K:AV->Bool}(h:U0 k x y K=true): y≠0/\K (.int k (x.tmod y))=true:=by
 unfold U0 at h;rw[FY]at h;split at h
 ·rename_i h0;obtain⟨a,rfl⟩:=cn h0.1;obtain⟨b,rfl⟩:=cn h0.2;rw[aL,kS,pE,ig]at h;exact⟨by have:=h.1;simp at this;omega,h.2⟩
 rw[aL,kS,uY,wI]at h;exact⟨by simpa using h.1,h.2⟩
def bits_nat{op:BinOp}{g:Nat->Nat->Nat}{k:IntKind}{a b:Nat}(hg:∀ (n:Nat) (x y:BitVec n),(op = .and/\g x.toNat y.toNat=(x &&& y).toNat)\/(op = .or/\g x.toNat y.toNat=(x ||| y).toNat)\/(op = .xor/\g x.toNat y.toNat=(x ^^^ y).toNat))(ha:MO k a=true)(hb:MO k b=true): jE op k a b=(g a b:Nat):=by
 have lim:∀ {n:Nat},MO k (n:Int)=true->n<xP k:=fun {n} h=>by
  have h:Nat.ble (Nat.succ n) (xP k)=true:=h;rw[d_,au]at h;exact h
 have hp:xP k<=2 ^ k.bits:=by cases k<;>decide
 have ea:(BitVec.ofInt k.bits (a:Int)).toNat=a:=by
  rw[BitVec.ofInt_natCast,BitVec.toNat_ofNat,iu (bU (lim ha) hp)]
 have eb:(BitVec.ofInt k.bits (b:Int)).toNat=b:=by
  rw[BitVec.ofInt_natCast,BitVec.toNat_ofNat,iu (bU (lim hb) hp)]
 have hr:∀ z:BitVec k.bits,(∀ i,z.getLsbD i=true->(BitVec.ofInt k.bits (a:Int)).getLsbD i=true\/(BitVec.ofInt k.bits (b:Int)).getLsbD i=true)->k.wrap z.toNat=z.toNat:=fun z hz=>by
  have hlt:z.toNat<xP k:=by
   have hk:∃ m,xP k=2 ^ m:=by cases k<;>simp only[xP]<;>first|exact⟨7,rfl⟩|exact⟨15,rfl⟩|exact⟨31,rfl⟩|exact⟨63,rfl⟩|exact⟨8,rfl⟩|exact⟨16,rfl⟩|exact⟨32,rfl⟩|exact⟨64,rfl⟩
   obtain⟨m,hm⟩:=hk;rw[hm];refine Nat.lt_pow_two_of_testBit _ fun i hi=>?_;by_cases Wh:z.toNat.testBit i=true
   ·have:=hz i Wh;have h0:∀ n:Nat,n<2 ^ m->n.testBit i=false:=fun n hn=>Nat.testBit_lt_two_pow (bU hn (Nat.pow_le_pow_right ae hi));rcases this with h|h
    ·have h:(BitVec.ofInt k.bits (a:Int)).toNat.testBit i=true:=h;rw[ea,h0 a (hm ▸ lim ha)]at h;cases h
    have h:(BitVec.ofInt k.bits (b:Int)).toNat.testBit i=true:=h;rw[eb,h0 b (hm ▸ lim hb)]at h;cases h
   simpa using Wh
  have:MO k (z.toNat:Int)=true:=by
   show Nat.ble (Nat.succ z.toNat) (xP k)=true;rw[d_,au];exact hlt
  exact XW this
 rcases hg k.bits (BitVec.ofInt k.bits a) (BitVec.ofInt k.bits b)with ⟨rfl,h⟩|⟨rfl,h⟩|⟨rfl,h⟩
 ·rw[ea,eb]at h;rw[h];exact hr _ fun i hi=> .inl (by rw[BitVec.getLsbD_and,aD]at hi;exact hi.1)
 ·rw[ea,eb]at h;rw[h];exact hr _ fun i hi=>(by rw[BitVec.getLsbD_or,dD]at hi;exact hi)
 rw[ea,eb]at h;rw[h]
 exact hr _ fun i hi=>(by
  rw[BitVec.getLsbD_xor]at hi;cases h1:(BitVec.ofInt k.bits (a:Int)).getLsbD i with
  | true=>exact .inl rfl
  | false=>rw[h1]at hi;exact .inr (by simpa using hi))
def Lg{op:BinOp}{g:Nat->Nat->Nat}{k:IntKind}{x y:Int}{K:AV->Bool}(hg:∀ (n:Nat) (x y:BitVec n),(op = .and/\g x.toNat y.toNat=(x &&& y).toNat)\/(op = .or/\g x.toNat y.toNat=(x ||| y).toNat)\/(op = .xor/\g x.toNat y.toNat=(x ^^^ y).toNat)): EZ op g k x y K=K (.int k (jE op k x y)):=by
 unfold EZ;rw[fD,FY,wI,ig];split
 ·rename_i h;rw[aL]at h;split
  ·rename_i h0;obtain⟨a,rfl⟩:=cn h0.1;obtain⟨b,rfl⟩:=cn h0.2;rw[bits_nat hg h.1 h.2];rfl
  rfl
 rfl
def SU(a b:Nat): K8 a b=Nat.min a b:=by
 unfold K8;rw[d_];by_cases h:a<=b
 ·simp[h,Nat.min_eq_left h]
 simp[h,Nat.min_eq_right (Nat.le_of_lt (Nat.lt_of_not_le h))]
def acL(k:IntKind)(x:Int)(n:Nat)(K:AV->Bool): aac k x n K=K (.int k (dQ k (x*2 ^ (Nat.min n k.bits)))):=by
 cases x with
 | ofNat a =>
   show mX k (Int.ofNat (Nat.mul a (Nat.pow 2 (K8 n (FT k))))) K=_;have hb:FT k=k.bits:=by cases k<;>rfl
   rw[nr,SU,hb]
   congr 3
 | negSucc a=>exact nr _ _ _
def acM(k:IntKind)(x:Int)(n:Nat)(K:AV->Bool): aad k x n K=K (.int k (x.fdiv (2 ^ (Nat.min n k.bits)))):=by
 cases x with
 | ofNat a =>
   show(fN (Nat.div a (Nat.pow 2 (K8 n (FT k)))) fun r=>K (.int k (Int.ofNat r)))=_;have hb:FT k=k.bits:=by cases k<;>rfl
   rw[ig,SU,hb]
   congr 2
   have e:(2 ^ (Nat.min n k.bits):Int)=Int.ofNat (Nat.pow 2 (Nat.min n k.bits)):=aT;rw[e,eW (Int.ofNat a) (b:=Int.ofNat (Nat.pow 2 (Nat.min n k.bits))) (Int.natCast_nonneg _)];rfl
 | negSucc a=>exact wI _ _
def sQ(b:Bool)(K:AV->Bool): tB b K=K (.bool b):=by cases b<;>rfl
def FZ{k k':IntKind}{b:Bool}{K:AV->Bool}(h:eB k k' b K=true): k=k'/\K (.bool b)=true:=by
 unfold eB at h;rw[aL,ik]at h;exact⟨h.1,by cases b<;>exact h.2⟩
def SV(a b:Int): (!AO a b)=decide (b<=a):=by rw[E_];by_cases h:a<b<;>simp[h]<;>omega
def XX(a b:List UInt8): (!Op.bytesLess b a)=(Op.bytesLess a b || a==b):=by
 induction a generalizing b with
 | nil=>cases b<;>rfl
 | cons x a ih =>
   cases b with
   | nil=>rfl
   | cons y b =>
     simp only[Op.bytesLess,List.cons_beq_cons];by_cases h:x=y
     ·subst h;simp[ih]
     have h1:(x==y)=false:=by simpa using h
     have h2:(y==x)=false:=by simpa using fun e=>h e.symm
     have h3:x.toNat≠y.toNat:=fun e=>h (UInt8.toNat_inj.1 e);simp only[h1,h2,iy,Bool.or_false];rw[cq];simp[UInt8.lt_iff_toNat_lt,UInt8.le_iff_toNat_le];omega
def acN{op:BinOp}{x y:AV}{K:AV->Bool}{K':AV->Prop}(hh:aae x op y K=true)(hK:∀ v,K v=true->K' v): jR op x y K':=by
 cases x<;>first|exact no hh rfl|skip
 case int k a =>
  obtain⟨k',b,rfl,h⟩:=eY (show(ek y fun k' m=>opI op k a k' m K)=true from hh);clear hh;cases op
  case add=>obtain⟨h1,h2⟩:=aL.1 (show bK (jl k k') (mX k (tU a b) K)=true from h);rw[nr,SR]at h2;exact⟨ik.1 h1,hK _ h2⟩
  case sub=>obtain⟨h1,h2⟩:=aL.1 (show bK (jl k k') (mX k (tU a (P7 b)) K)=true from h);rw[nr,SR,SS,<-Int.sub_eq_add_neg]at h2;exact⟨ik.1 h1,hK _ h2⟩
  case mul=>obtain⟨h1,h2⟩:=aL.1 (show bK (jl k k') (UY k a b K)=true from h);rw[acI]at h2;exact⟨ik.1 h1,hK _ h2⟩
  case quo=>obtain⟨h1,h2⟩:=aL.1 (show bK (jl k k') (UZ k a b K)=true from h);obtain⟨h3,h4⟩:=acJ h2;exact⟨ik.1 h1,h3,hK _ h4⟩
  case rem=>obtain⟨h1,h2⟩:=aL.1 (show bK (jl k k') (U0 k a b K)=true from h);obtain⟨h3,h4⟩:=acK h2;exact⟨ik.1 h1,h3,hK _ h4⟩
  case and=>obtain⟨h1,h2⟩:=aL.1 (show bK (jl k k') (EZ .and Nat.land k a b K)=true from h);rw[Lg (g:=Nat.land) (fun n x y=> .inl ⟨rfl,rfl⟩)]at h2;exact⟨ik.1 h1,hK _ h2⟩
  case or=>obtain⟨h1,h2⟩:=aL.1 (show bK (jl k k') (EZ .or Nat.lor k a b K)=true from h);rw[Lg (g:=Nat.lor) (fun n x y=> .inr (.inl ⟨rfl,rfl⟩))]at h2;exact⟨ik.1 h1,hK _ h2⟩
  case xor=>obtain⟨h1,h2⟩:=aL.1 (show bK (jl k k') (EZ .xor Nat.xor k a b K)=true from h);rw[Lg (g:=Nat.xor) (fun n x y=> .inr (.inr ⟨rfl,rfl⟩))]at h2;exact⟨ik.1 h1,hK _ h2⟩
  case shl=>obtain⟨h1,h2⟩:=jP (show(jW b fun n=>aac k a n K)=true from h);rw[acL]at h2;exact⟨h1,hK _ h2⟩
  case shr=>obtain⟨h1,h2⟩:=jP (show(jW b fun n=>aad k a n K)=true from h);rw[acM]at h2;exact⟨h1,hK _ h2⟩
  case andNot=>obtain⟨h1,h2⟩:=aL.1 (show bK (jl k k') (Z_ .andNot k a b K)=true from h);exact⟨ik.1 h1,hK _ (by rw[Z_,wI]at h2;exact h2)⟩
  case eql=>obtain⟨h1,h2⟩:=FZ (show eB k k' (vQ a b) K=true from h);rw[uY]at h2;exact⟨h1,hK _ h2⟩
  case neq=>obtain⟨h1,h2⟩:=FZ (show eB k k' (eE (vQ a b)) K=true from h);rw[kS,uY]at h2;exact⟨h1,hK _ h2⟩
  case lss=>obtain⟨h1,h2⟩:=FZ (show eB k k' (AO a b) K=true from h);rw[E_]at h2;exact⟨h1,hK _ h2⟩
  case leq=>obtain⟨h1,h2⟩:=FZ (show eB k k' (eE (AO b a)) K=true from h);rw[kS,SV]at h2;exact⟨h1,hK _ h2⟩
  case gtr=>obtain⟨h1,h2⟩:=FZ (show eB k k' (AO b a) K=true from h);rw[E_]at h2;exact⟨h1,hK _ h2⟩
  case geq=>obtain⟨h1,h2⟩:=FZ (show eB k k' (eE (AO a b)) K=true from h);rw[kS,SV]at h2;exact⟨h1,hK _ h2⟩
 case str a =>
  obtain⟨b,rfl,h⟩:=jB (show(jc y fun t=>opS op a t K)=true from hh);clear hh;cases op<;>first|exact no h rfl|skip
  case add =>
   replace h:(dY a 0 fun n=>dY b n fun m=>bK (Nat.ble m 9223372036854775807) (iM a b fun c=>K (.str c)))=true:=h
   rw[j0,Lb,aL,d_,au,kx]at h;refine⟨?_,hK _ h.2⟩;have:=h.1;show((a.length+b.length:Nat):Int)<=9223372036854775807;omega
  case eql=>replace h:tB (CP a b) K=true:=h;rw[sQ,Fb]at h;exact hK _ h
  case neq=>replace h:tB (eE (CP a b)) K=true:=h;rw[sQ,kS,Fb]at h;exact hK _ h
  case lss=>replace h:tB (GY a b) K=true:=h;rw[sQ,JX]at h;exact hK _ h
  case leq=>replace h:tB (eE (GY b a)) K=true:=h;rw[sQ,kS,JX,XX]at h;exact hK _ h
  case gtr=>replace h:tB (GY b a) K=true:=h;rw[sQ,JX]at h;refine hK _ ?_;rw[<-XX,Bool.not_not];exact h
  case geq=>replace h:tB (eE (GY a b)) K=true:=h;rw[sQ,kS,JX]at h;exact hK _ h
def afr{op:UnOp}{x:AV}{K:AV->Bool}{K':AV->Prop}(hh:unK op x K=true)(hK:∀ v,K v=true->K' v): Cu op x K':=by
 cases op<;>first|exact no hh rfl|skip
 case neg=>obtain⟨k,n,rfl,h⟩:=eY (show(ek x fun k n=>mX k (P7 n) K)=true from hh);rw[nr,SS]at h;refine hK _ ?_;rw[Int.zero_sub];exact h
 case xor=>obtain⟨k,n,rfl,h⟩:=eY (show(ek x fun k n=>fI (jE .xor k (if k.signed then -1 else k.max) n) fun r=>K (.int k r))=true from hh);rw[wI]at h;exact hK _ h
 case not=>obtain⟨b,rfl,h⟩:=rP (show(nV x fun b=>tB (eE b) K)=true from hh);rw[sQ,kS]at h;exact hK _ h
def afs{k:Kd}{x y:AV}{K:Bool->Bool}(h:kdK k x y K=true): ∃ b,G6 k x y=some b/\K b=true:=by
 cases k
 ·obtain⟨a,rfl,h1⟩:=rP (show(nV x fun a=>nV y fun b=>K (vC a b))=true from h);obtain⟨b,rfl,h2⟩:=rP h1;rw[tY]at h2;exact⟨_,rfl,h2⟩
 ·obtain⟨k,a,rfl,h1⟩:=eY (show(ek x fun k a=>ek y fun k' b=>bK (jl k k') (K (vQ a b)))=true from h);obtain⟨k',b,rfl,h2⟩:=eY h1;rw[aL,ik,uY]at h2;exact⟨a==b,by simp[G6,h2.1],h2.2⟩
 obtain⟨a,rfl,h1⟩:=jB (show(jc x fun a=>jc y fun b=>K (CP a b))=true from h);obtain⟨b,rfl,h2⟩:=jB h1;rw[Fb]at h2;exact⟨_,rfl,h2⟩
def SW(ks:List Kd): ∀(az bs:List AV) (K:Bool->Bool),nK ks az bs K=true-> ∃ b,ic ks az bs=some b/\K b=true:=by
 induction ks with
 | nil =>
   intro az bs K h;obtain⟨h1,h⟩:=aL.1 (show bK (fA az) (bK (fA bs) (K true))=true from h);obtain⟨h2,h⟩:=aL.1 h;rw[kC]at h1 h2;subst h1;subst h2;exact⟨true,rfl,h⟩
 | cons k ks ih =>
   intro az bs K h;cases az with
   | nil=>exact no h rfl
   | cons a az => cases bs with
     | nil=>exact no h rfl
     | cons b bs =>
       obtain⟨x,h1,h⟩:=afs (show(kdK k a b fun x=>nK ks az bs fun y=>K (bK x y))=true from h);obtain⟨y,h2,h⟩:=ih _ _ _ h;refine⟨x && y,by simp[ic,h1,h2],?_⟩;have:bK x y=(x && y):=by cases x<;>rfl
       rw[<-this];exact h
def afu(ag:Bool)(ks:List Kd)(a b:AV): Option Bool:=if ag then(match a,b with | .agg az,.agg bs=>ic ks az bs|_,_=>none)else ic ks [a] [b]
def acO{ag:Bool}{ks:List Kd}{x y:AV}{K:Bool->Bool}(h:U1 ag ks x y K=true): ∃ b,afu ag ks x y=some b/\K b=true:=by
 unfold U1 at h;rw[fD]at h;cases ag with
 | true =>
   rw[aB rfl]at h;obtain⟨az,rfl,h1⟩:=ua h;obtain⟨bs,rfl,h2⟩:=ua h1;exact SW _ _ _ _ h2
 | false=>rw[aq aT]at h;exact SW _ _ _ _ h
def SX(n b:Bool): P9 n b=(if n then !b else b):=by cases n<;>cases b<;>rfl
def MW{t:Tr AV}{K:List AV->Bool}{K':List AV->Prop}(hK:∀ l,K l=true->K' l): ∀(ps:List (Nat × Nat × AX)) (z:List AV),P_ ps z t K=true->lP z (t.get .undef) ps K'
 | [],z,h=>hK _ h
 | (off, n, x) :: r, z, h => by
   replace h:(cA x t fun v=>oO v fun cs=>bK (dY cs 0 (Nat.beq n)) (bK (iq sL cs) (bK (dY z 0 (Nat.ble (Nat.add off n))) (tW cs off z fun z'=>P_ r z' t K))))=true:=h
   rw[cy,rR,aL,aL,aL,j0,j0,gg,d_,au,A0,G0]at h;obtain⟨h1,h2,h3,h4⟩:=h;exact⟨h1.symm,h2,h3,MW hK r _ h4⟩
def JY{el:El}{t:Tr AV}{K:List AV->Bool}{K':List AV->Prop}(hK:∀ l,K l=true->K' l): ∀(ps:List (Nat × AX)) (z:List AV),FU el ps z t K=true->kM el z (t.get .undef) ps K'
 | [],z,h=>hK _ h
 | (i, x) :: r, z, h => by
   replace h:(cA x t fun v=>bK (kF v el) (bK (dY z 0 (Nat.ble (Nat.succ i))) (wG z i v fun z'=>FU el r z' t K)))=true:=h
   rw[cy,aL,aL,nq,j0,d_,au,HW]at h;obtain⟨h1,h2,h3⟩:=h;exact⟨h1,h2,JY hK r _ h3⟩
def F0(v:AV): ∀(n:Nat) (K:List AV->Bool),Cb v n K=K (List.replicate n v):=by
 intro n
 induction n with
 | zero=>intro K;rfl
 | succ n ih=>intro K;exact ih _
def Fc: ∀(l:List AV) (K:List UInt8->Bool),E0 l K=true-> ∃ s:List UInt8,l=s.map (fun b=>AV.int .u8 b.toNat)/\K s=true
 | [],K,h=>⟨[],rfl,h⟩
 | a :: l, K, h => by
   obtain⟨k,z,rfl,ha⟩:=eY (show(ek a fun k z=>(bK (jl k .u8) (jW z fun n=>bK (Nat.ble n 255) (E0 l fun m=>K (UInt8.ofNat n::m)))))=true from h);obtain⟨h1,hb⟩:=aL.1 ha;obtain⟨h2,hc⟩:=jP hb;obtain⟨h3,hd⟩:=aL.1 hc;rw[d_,au]at h3;rw[ik]at h1;subst h1;obtain⟨s,rfl,he⟩:=Fc l _ hd;refine⟨UInt8.ofNat z.toNat::s,?_,he⟩;rw[bN]
   congr 2
   simp;omega
def iJ{x:Option AV}{d y:Nat}{K:Nat->Bool}{K':Nat->Prop}(h:jA x d y K=true)(hK:∀ n,K n=true->K' n): bound x d y K':=by
 cases x with
 | none=>exact hK _ h
 | some v =>
   obtain⟨k,z,rfl,ha⟩:=eY (show(ek v fun _ z=>jW z fun n=>bK (Nat.ble n y) (K n))=true from h);obtain⟨h2,hb⟩:=jP ha;rw[aL,d_,au]at hb;exact⟨h2,ae,hK _ hb.2⟩
def F1(x:Option AX)(t:Tr AV)(K:Option AV->Bool): Cc x t K=K (x.map (AX.ev (t.get .undef))):=by
 cases x with
 | none=>rfl
 | some x=>show(cA x t fun v=>K (some v))=_;rw[cy];rfl
def MX{x:AV}{k:NK}{K:Bool->Bool}(h:E5 x k K=true): ∃ b,pI k x=some b/\K b=true:=by
 cases x<;>first
  | exact no h rfl
  | (obtain ⟨h1, h2⟩ := aL.1 h
     cases k<;>first|exact no h1 rfl|exact⟨_,rfl,h2⟩)
def XY{k:NK}{x y:AV}{K:Bool->Bool}(h:Qa k x y K=true): ∃ b,n8 k x y=some b/\K b=true:=by
 obtain⟨a,h1,h⟩:=MX (show(E5 x k fun a=>E5 y k fun b=>iK a (K b) (bK b (K false)))=true from h);obtain⟨b,h2,h⟩:=MX h;rw[fD]at h;cases a with
 | true=>rw[aB rfl]at h;exact⟨b,by simp[n8,h1,h2],h⟩
 | false =>
   rw[aq aT,aL]at h;obtain⟨rfl,h⟩:=h;exact⟨false,by simp[n8,h1,h2],h⟩
mutual
def A1: ∀(x:AV),nX x=x.dU
 | .undef | .bool _ | .int .. | .str _ | .aP | .ew | .ld | .eG | .iU | .own .. | .ref .. | .dw .. | .mp _ | .lW _ | .lX .. | .lf=>rfl
 | .agg cs=>wU cs
 | .bg cs=>wU cs
 | .aH _ _ xs=>wU xs
 | .cN _ x _=>A1 x
 | .iS _ v=>A1 v
 | .fn f a b => by
   show bK (nX (.agg a)) (nX (.agg b))=(AV.cK a && AV.cK b);rw[wU a,wU b];cases AV.cK a<;>rfl
def wU: ∀(x:List AV),nX (.agg x)=AV.cK x
 | []=>rfl
 | a :: l => by
   show bK (nX a) (nX (.agg l))=(a.dU && AV.cK l);rw[A1 a,wU l];cases a.dU<;>rfl
end
mutual
def HY: ∀(x:AV),sM x=x.flat
 | .undef | .bool _ | .int .. | .str _ | .aP | .ew | .ld | .eG | .iU | .own .. | .ref .. | .dw .. | .mp _ | .lW _ | .lX .. | .lf=>rfl
 | .agg cs=>HZ cs
 | .bg cs=>HZ cs
 | .aH _ _ []=>rfl
 | .aH _ _ (_::_)=>rfl
 | .cN _ x _=>rfl
 | .iS _ v=>HY v
 | .fn f a b=>rfl
def HZ: ∀(x:List AV),sM (.agg x)=AV.q_ x
 | []=>rfl
 | a :: l => by
   show bK (sM a) (sM (.agg l))=(a.flat && AV.q_ l);rw[HY a,HZ l];cases a.flat<;>rfl
end
def A2(l:List AV): iq nX l=AV.cK l:=by
 rw[qx]
 induction l with
 | nil=>rfl
 | cons a l ih=>rw[List.all_cons,ih,A1];rfl
def rS{T:Option TypeId}: uA T=true↔T=none:=by
 cases T with
 | none=>exact⟨fun _=>rfl,fun _=>rfl⟩
 | some t=>exact⟨fun h=>absurd (show false=true from h) Bool.false_ne_true,fun h=>by cases h⟩
def SY(d:AV){lo n m:Nat}(t:Tr AV)(h:lo+n<=m)(i:Nat)(hi:i<n): (aH d 0 m t).getD (lo+i) d=(aH d lo n t).getD i d:=by
 have e:aH d lo n t=((aH d 0 m t).drop lo).take n:=by
  have:=tZ (d:=d) (lo:=lo) (k:=n) (n:=m) (t:=t) h;exact this.symm
 rw[e];simp[aj,dX,fK,hi]
def F2(s:St): ∀(k:Nat) (a:AV) (K:AV->Bool),tX s k a K=true-> ∃ b,View s.abs a b/\K b=true:=by
 intro k
 induction k with
 | zero=>intro a K h;exact no h rfl
 | succ k ih =>
   have aH:∀ (l:List AV) (K:List AV->Bool),kQ (tX s k) l K=true-> ∃ m,bR s.abs l m/\K m=true:=fun l K h=>by
    obtain⟨m,h1,h2,h3⟩:=FX (R:=View s.abs) ih l K h;refine⟨m,⟨h1,fun i hi=>?_⟩,h3⟩;have hi':i<m.length:=ae;have:=h2 (l[i],m[i]) (by rw[hU];exact⟨i,by simp;omega,aT⟩);simpa[aj,hi,hi']using this
   intro a K hh;have hp:∀ {v:AV} {x:Bool},bK (nX v) x=true->v.dU=true/\x=true:=fun h=>by rw[aL,A1]at h;exact h
   cases a
   case agg cs=>obtain⟨m,h1,h2⟩:=aH _ _ (show kQ (tX s k) cs (fun ds=>K (.agg ds))=true from hh);exact⟨_,View.r_ h1,h2⟩
   case bg cs=>obtain⟨m,h1,h2⟩:=aH _ _ (show kQ (tX s k) cs (fun ds=>K (.bg ds))=true from hh);exact⟨_,View.adW h1,h2⟩
   case cN el x off=>obtain⟨h1,h2⟩:=hp (show bK (nX (.cN el x off)) (K (.cN el x off))=true from hh);exact⟨_,.refl _ h1,h2⟩
   case fn f a b=>obtain⟨h1,h2⟩:=hp (show bK (nX (.fn f a b)) (K (.fn f a b))=true from hh);exact⟨_,.refl _ h1,h2⟩
   case iS T v=>obtain⟨h1,h2⟩:=hp (show bK (nX (.iS T v)) (K (.iS T v))=true from hh);exact⟨_,.refl _ h1,h2⟩
   case aH f el xs =>
    replace hh:iK (iq nX xs) (K (.aH f el xs)) (kQ (tX s k) xs fun ys=>K (.aH false el ys))=true:=hh
    rw[fD]at hh;split at hh
    ·rename_i h;rw[A2]at h;exact⟨_,.refl _ h,hh⟩
    obtain⟨m,h1,h2⟩:=aH _ _ hh;exact⟨_,View.Y1 h1,h2⟩
   case own el l m lo n =>
    obtain⟨T,t,ho,h⟩:=kT (show(kR el l m s fun _ t=>bK (Nat.ble (Nat.add lo n) m) (lO .undef n lo t fun xs=>kQ (tX s k) xs fun ys=>K (.aH false el ys)))=true from hh);rw[aL,d_,au,lH]at h;obtain⟨hle,h⟩:=h;have hle:lo+n<=m:=hle;obtain⟨ys,h1,h2⟩:=aH _ _ h
    have h3:=View.own T el l lo n _ ys ho (by rw[<-h1.1,bZ]) (by rw[bZ];exact hle) (fun i hi=>by
     rw[SY _ _ hle i hi];exact h1.2 i (by rw[bZ];exact hi))
    rw[bZ]at h3;exact⟨_,h3,h2⟩
   case ref l off =>
    obtain⟨h1,h2⟩:=aL.1 (show bK (Nat.beq off 0) (s.dI l fun o=>onCells o fun T n t=>bK (uA T) (lO .undef n 0 t fun cs=>kQ (tX s k) cs fun ds=>K (.cN ⟨true,n⟩ (.agg ds) 0)))=true from hh);rw[gg]at h1;subst h1;obtain⟨o,ho,h3⟩:=St.gD h2;obtain⟨T,n,t,rfl,h4⟩:=k_ h3;rw[aL,rS,lH]at h4;obtain⟨rfl,h4⟩:=h4;obtain⟨ds,h5,h6⟩:=aH _ _ h4;exact⟨_,View.Af l n _ ds ho (bZ _ _ _ _) h5.1 h5.2,h6⟩
   case mp l =>
    obtain⟨o,ho,h3⟩:=St.gD (show(s.dI l fun o=>nE o fun _=>K .lf)=true from hh);obtain⟨es,rfl,h4⟩:=t_ h3;exact⟨_,View.lf _ l _ ho rfl rfl,h4⟩
   all_goals first
    | exact no hh rfl
    | exact⟨_,.refl _ rfl,hh⟩
def acP(s:St): ∀(k:Nat) (a:AV) (K:AV->Bool),K9 s k a K=true-> ∃ b,mM s.abs a b/\K b=true:=by
 intro k
 induction k with
 | zero=>intro a K h;exact no h rfl
 | succ k ih =>
   have aH:∀ (l:List AV) (K:List AV->Bool),kQ (K9 s k) l K=true-> ∃ m:List AV,l.length=m.length/\(∀ i,i<l.length->mM s.abs (l.getD i .undef) (m.getD i .undef))/\K m=true:=fun l K h=>by
    obtain⟨m,h1,h2,h3⟩:=FX (R:=mM s.abs) ih l K h;refine⟨m,h1,fun i hi=>?_,h3⟩;have hi':i<m.length:=ae;have:=h2 (l[i],m[i]) (by rw[hU];exact⟨i,by simp;omega,aT⟩);simpa[aj,hi,hi']using this
   have flt:∀ (l:List AV),iq sM l=true->AV.q_ l=true:=fun l=>by
    induction l with
    | nil=>exact fun _=>rfl
    | cons a l Cy =>
      intro h;obtain⟨h1,h2⟩:=aL.1 (show bK (sM a) (iq sM l)=true from h);rw[HY]at h1;simp only[AV.q_,h1,Cy h2,Bool.and_self]
   intro a K hh;cases a
   case agg cs =>
    replace hh:iK (iq sM cs) (K (.agg cs)) (kQ (K9 s k) cs fun ds=>K (.agg ds))=true:=hh
    rw[fD]at hh;split at hh
    ·rename_i h;exact⟨_,.flat _ (flt _ h),hh⟩
    obtain⟨m,h1,h2,h3⟩:=aH _ _ hh;exact⟨_,.agg _ _ h1 h2,h3⟩
   case bg cs =>
    replace hh:iK (iq sM cs) (K (.bg cs)) (kQ (K9 s k) cs fun ds=>K (.bg ds))=true:=hh
    rw[fD]at hh;split at hh
    ·rename_i h;exact⟨_,.flat _ (flt _ h),hh⟩
    obtain⟨m,h1,h2,h3⟩:=aH _ _ hh;exact⟨_,.bg _ _ h1 h2,h3⟩
   case aH f el xs =>
    obtain⟨h1,h2⟩:=aL.1 (show bK (fA xs) (K (.aH f el []))=true from hh);rw[kC]at h1;subst h1;exact⟨_,.flat _ rfl,h2⟩
   case own el l m lo n =>
    obtain⟨T,t,ho,h⟩:=kT (show(kR el l m s fun _ t=>bK (Nat.ble (Nat.add lo n) m) (lO .undef n lo t fun xs=>kQ (K9 s k) xs fun ys=>K (.aH false el ys)))=true from hh);rw[aL,d_,au,lH]at h;obtain⟨hle,h⟩:=h;have hle:lo+n<=m:=hle;obtain⟨ys,h0,h1,h2⟩:=aH _ _ h
    have h3:=mM.own T el l lo n _ ys ho (by rw[<-h0,bZ]) (by rw[bZ];exact hle) (fun i hi=>by
     rw[SY _ _ hle i hi];exact h1 i (by rw[bZ];exact hi))
    rw[bZ]at h3;exact⟨_,h3,h2⟩
   all_goals first
    | exact no hh rfl
    | exact⟨_,.flat _ rfl,hh⟩
end Go.AM.B
namespace Go.AM.B
variable [LV]
def Ve (P : Program) (ne : FuncId → Bool) : Prop := ∀ f, ne f = true → ∃ fn, P.funcs[f]? = some fn ∧ (fn.name == "runtime.NumGoroutine") = false ∧ fn.body.isNone = true ∧ Extern.findNext fn = none ∧ Extern.find fn = some Extern.AbiNoEscape.same
def NV[V:LV](P:Program)(H:Prop)(Γ : CQ): Prop:= ∀ V':LV,(∀ p ∈ Γ,V'.v p.1=V.v p.1)-> ∀ p ∈ Γ,∀ args s K,p.2 args s K=true-> ∃ o s',K o s'=true/\(H->oF P p.1 args (@St.abs V' s) fun o' σ'=>o'=o/\σ' = @St.abs V' s')
structure jm [V:LV] (H:Prop) (c:Ctx):Prop where
 ne:Ve c.P c.ne
 GZ:∀ (V':LV) (H:Prop) Γ,@NV V' c.P H Γ-> ∀ n args s K,c.GZ Γ n args s K=true-> ∃ o s',K o s'=true/\(H->cV c.P n args (@St.abs V' s) fun o' σ'=>o'=o/\σ' = @St.abs V' s')
 s9:NV c.P H c.s9
def jm.call{H:Prop}{c:Ctx}(hc:jm H c): ∀ n args s K,c.call n args s K=true-> ∃ o s',K o s'=true/\(H->cV c.P n args s.abs fun o' σ'=>o'=o/\σ'=s'.abs):=hc.GZ _ H _ hc.s9
def jm.oC{H:Prop}{c:Ctx}(hc:jm H c): ∀ n args s K,c.oC n args s K=true-> ∃ o s',K o s'=true/\cV c.P n args s.abs fun o' σ'=>o'=o/\σ'=s'.abs:=fun n args s K h=>by
 obtain⟨o,s',h1,h2⟩:=hc.GZ _ True [] (fun _ _ _ hp=>by cases hp) n args s K h;exact⟨o,s',h1,h2 trivial⟩
def jm.yield{H:Prop}{c:Ctx}(hc:jm H c): ∀ p ∈ c.s9,∀ args s K,p.2 args s K=true-> ∃ o s',K o s'=true/\(H->oF c.P p.1 args s.abs fun o' σ'=>o'=o/\σ'=s'.abs):=hc.s9 _ fun _ _=>rfl
def jm.at{V:LV}{H:Prop}{c:Ctx}(hc:@jm V H c)(V':LV)(h:∀ p ∈ c.s9,V'.v p.1=V.v p.1): @jm V' H c :=
 @jm.mk V' H c (@jm.ne V H c hc) (@jm.GZ V H c hc) (fun V'' h'' p hp=>@jm.s9 V H c hc V'' (fun q hq=>(h'' q hq).trans (h q hq)) p hp)
def XZ{x:AV}{X:Bool}(h:Qc x X=true): (match(generalizing:=false) x with | .str _=>False|_=>True)/\X=true:=by
 cases x<;>first|exact no h rfl|exact⟨trivial,h⟩
def Fe{x:AV}{y:Nat}{K:Nat->Bool}{K':Nat->Prop}{d:Nat}(h:jA (some x) d y K=true)(hK:∀ n,n<=y->K n=true->K' n): bound (some x) d y K':=by
 have:=iJ (K':=fun n=>K n=true) h fun n h=>h;cases x<;>first|exact this.elim|skip
 case int k i =>
  obtain⟨h1,h2,h3⟩:=this;exact⟨h1,h2,hK _ ae h3⟩
def Ff{x:AV}{off:Nat}{K:AV->Bool}(h:xQ x off K=true): (∃ l o,x = .ref l o/\K (.ref l (o+off))=true)\/(∃ el y o,x = .cN el y o/\K (.cN el y (o+off))=true)\/(∃ el l m i o,x = .dw el l m i o/\K (.dw el l m i (o+off))=true):=by
 cases x<;>first|exact no h rfl|skip
 case ref l o=>exact .inl ⟨l,o,rfl,by rw[<-ig (o+off) fun o'=>K (.ref l o')];exact h⟩
 case cN el y o=>exact .inr (.inl ⟨el,y,o,rfl,by rw[<-ig (o+off) fun o'=>K (.cN el y o')];exact h⟩)
 case dw el l m i o=>exact .inr (.inr ⟨el,l,m,i,o,rfl,by rw[<-ig (o+off) fun o'=>K (.dw el l m i o')];exact h⟩)
def H6{op:Bool}{K:AV->Bool}{K':AV->Prop}(hK:∀ v,K v=true->K' v): ∀(ys:List AV) (x:AV),FW op x ys K=true->po op x ys K'
 | [], x, h => by
   obtain⟨k,a,rfl,h1⟩:=eY (show(ek x fun k a=>K (.int k a))=true from h);exact hK _ h1
 | y :: ys, x, h => by
   obtain⟨k,a,rfl,h1⟩:=eY (show(ek x fun k a=>ek y fun _ b=>iK (U4 op a b) (FW op (.int k b) ys K) (FW op (.int k a) ys K))=true from h);obtain⟨k',b,rfl,h2⟩:=eY h1;rw[fD]at h2;have e:U4 op a b=(if op then decide (b<a)else decide (a<b)):=by unfold U4;rw[fD,E_,E_]
   rw[e]at h2;show po op (.int k (if op then(if b<a then b else a)else (if b>a then b else a))) ys K';refine H6 hK ys _ ?_;cases op with
   | true =>
     by_cases hb:b<a
     ·simp only[hb,if_true,decide_true]at h2 |-;exact h2
     simp only[hb,if_true,if_false,decide_false,aN]at h2 |-;exact h2
   | false =>
     by_cases hb:a<b
     ·simp only[hb,gt_iff_lt,if_true,decide_true,aN,if_false]at h2 |-;exact h2
     simp only[hb,gt_iff_lt,if_true,if_false,decide_false,aN]at h2 |-;exact h2
def H7{k:Nat}{t:Tr AV}{s:St}{K:Nat->Bool}(h:Ce k t s K=true): ∃ n,t.get .undef k = .ref n 0/\s.abs[n]? = some .resv/\K n=true:=by
 replace h:(Tr.dI .undef t k fun v=>nF v fun n z=>bK (Nat.beq z 0) (s.dI n fun o=>AP o (K n)))=true:=h
 rw[Tr.oX]at h;obtain⟨n,z,hv,h1⟩:=oD h;rw[aL,gg]at h1;obtain⟨rfl,h2⟩:=h1;obtain⟨o,ho,h3⟩:=St.gD h2;obtain⟨rfl,h4⟩:=MQ h3;exact⟨n,hv,ho,h4⟩
def aar{H:Prop}{c:Ctx}(hc:jm H c){n:FuncId}{az:List AV}{s:St}{K:KT}{K':AV->ai->Prop}(h:q9 c n az s K=true)(hK:∀ v s',K v s'=true->K' v s'.abs): ∃ r,(∀ Y,mD c.P n az (s.abs++Y) r)/\K' r s.abs:=by
 unfold q9 at h;rw[fD]at h;have ret:∀ {o:Out} {K:AV->Bool},uB o K=true-> ∃ v,o = .ret v/\K v=true:=fun {o K} h=>by cases o with|ret v=>exact⟨v,rfl,h⟩|panic v=>exact no h rfl
 split at h
 ·rename_i hp;rw[A2]at hp;obtain⟨o,s',h1,h2⟩:=hc.oC _ _ _ _ h;obtain⟨r0,rfl,h3⟩:=ret h1;obtain⟨r,h4,h5⟩:=F2 _ _ _ _ h3;have hF:aA c.P n az r:=aA.wq (h2.mono fun o s ⟨h1,h2⟩=>by subst h1;subst h2;exact⟨_,rfl,h4⟩) hp;exact⟨r,fun Y=>hF _,hK _ _ h5⟩
 obtain⟨bz,e1,e2,e3⟩:=FX (R:=fun a b=>View s.abs a b) (F2 s 30) az _ h
 have hv:bR s.abs az bz:=⟨e1,fun i hi=>by
  have hi':i<bz.length:=ae;have:=e2 (az[i],bz[i]) (by rw[hU];exact⟨i,by simp;omega,aT⟩);simpa[aj,hi,hi']using this⟩
 rw[aL,A2]at e3;obtain⟨hp,e3⟩:=e3;obtain⟨o,s',h1,h2⟩:=hc.oC _ _ _ _ e3;obtain⟨r0,rfl,h3⟩:=ret h1;obtain⟨r,h4,h5⟩:=acP _ _ _ _ h3
 exact⟨r,fun Y=>mD.adX (h2.mono fun o s ⟨h1,h2⟩=>by subst h1;subst h2;exact⟨_,rfl,h4⟩) ⟨hv.1,fun i hi=>(hv.2 i hi).mono (fun l o hl=>by
  rw[aO (aK.1 hl).1];exact hl)⟩,hK _ _ h5⟩
def Ex(K:KT)(v:AV)(σ':ai): Prop:= ∃ s':St,σ'=s'.abs/\K v s'=true
def ex{K:KT}{v:AV}{s':St}(h:K v s'=true): Ex K v s'.abs:=⟨s',rfl,h⟩
def aas{H:Prop}{c:Ctx}(hc:jm H c){n:FuncId}{x:AV}{r:List AV}{s:St}{K:KT}(h:U2 c n x r s K=true): Ba c.P n (x::r) s.abs (Ex K):=by
 obtain⟨l,off,rfl,h1⟩:=oD h;rw[aL,A2]at h1;obtain⟨hr,h1⟩:=h1;obtain⟨o,ho,h2⟩:=St.gD h1;obtain⟨T,k,tr,rfl,h3⟩:=k_ h2;rw[aL,rS,lH,aL,A2]at h3;obtain⟨rfl,hcs,h4⟩:=h3;obtain⟨s1,e1,h5⟩:=St.kz h4;have e1:s1.abs=[.cells (aH .undef 0 k tr)]:=by rw[e1];rfl
 obtain⟨out,s',h6,h7⟩:=hc.oC _ _ _ _ h5;cases out with
 | panic v=>exact no h6 rfl
 | ret r0 =>
 replace h6:=(show(s'.dI 0 fun o'=>onCells o' fun T' k' AS=>bK (uA T') (s'.di 0 .non fun s2=>lO .undef k' 0 AS fun pg=>tX s2 30 r0 fun r=>kQ (tX s2 30) pg fun ds=>jD .undef ds 0 .nil fun k2 tr2=>s.di l (.cells none k2 tr2) fun s3=>K r s3))=true from h6)
 obtain⟨o',ho',h8⟩:=St.gD h6;obtain⟨T',k',AS,rfl,h9⟩:=k_ h8;rw[aL,rS]at h9;obtain⟨rfl,h9⟩:=h9;obtain⟨s2,e2,h10⟩:=St.fx h9;rw[lH]at h10;obtain⟨r',hv,h11⟩:=F2 _ _ _ _ h10;obtain⟨ds,d1,d2,h12⟩:=FX (R:=fun a b=>View s2.abs a b) (F2 s2 30) _ _ h11;obtain⟨tr2,MY,d3⟩:=l9 _ h12;obtain⟨s3,e3,h14⟩:=St.fx MY
 have hvl:bR s2.abs (aH .undef 0 k' AS) ds:=⟨d1,fun i hi=>by
  have hi':i<ds.length:=ae;have:=d2 ((aH .undef 0 k' AS)[i],ds[i]) (by rw[hU];exact⟨i,by simp;omega,aT⟩);simpa[aj,hi,hi']using this⟩
 obtain⟨Y,hτ⟩:∃ Y,s'.abs = .cells (aH .undef 0 k' AS)::Y:=by
  match hs:s'.abs,ho' with
  | a::Y,ho'=>cases ho';exact⟨Y,rfl⟩
 have e2:s2.abs = .dead::Y:=by rw[e2,hτ];rfl
 rw[e2]at hv hvl
 have hM:cY c.P n off r (aH .undef 0 k tr) ds r':=by
  refine cY.gx ?_ hr hcs;rw[<-e1];exact h7.mono fun o σ ⟨k1,k2⟩=>⟨r0,_,Y,k1,k2.trans hτ,hv,hvl⟩
 refine⟨l,_,.cells ds,r',rfl,ho,trivial,hM _ _ ho,?_⟩;refine⟨s3,?_,h14⟩;rw[e3];simp only[OB.abs,d3]
def uZ{l:List AV}{K:AV->Bool}(h:vR l K=true): ∃ a,l=[a]/\K a=true:=by
 cases l with
 | nil=>exact no h rfl
 | cons a r =>
   obtain⟨h1,h2⟩:=aL.1 (show bK (fA r) (K a)=true from h);rw[kC]at h1;exact⟨a,by rw[h1],h2⟩
def p7{l:List AV}{K:AV->AV->Bool}(h:rM l K=true): ∃ a b,l=[a,b]/\K a b=true:=by
 cases l with
 | nil=>exact no h rfl
 | cons a r=>obtain⟨b,h1,h2⟩:=uZ (show vR r (K a)=true from h);exact⟨a,b,by rw[h1],h2⟩
def u7{l:List AV}{K:AV->AV->AV->Bool}(h:xR l K=true): ∃ a b c,l=[a,b,c]/\K a b c=true:=by
 cases l with
 | nil=>exact no h rfl
 | cons a r=>obtain⟨b,c,h1,h2⟩:=p7 (show rM r (K a)=true from h);exact⟨a,b,c,by rw[h1],h2⟩
def X0{l:List AV}{K:AV->AV->AV->AV->Bool}(h:XP l K=true): ∃ a b c d,l=[a,b,c,d]/\K a b c d=true:=by
 cases l with
 | nil=>exact no h rfl
 | cons a r=>obtain⟨b,c,d,h1,h2⟩:=u7 (show xR r (K a)=true from h);exact⟨a,b,c,d,by rw[h1],h2⟩
def JZ{lo:Option AV}{hi mx:AV}{cap:Nat}{K:Nat->Nat->Nat->Bool}{K':Nat->Nat->Nat->Prop}(h:nZ lo hi mx cap K=true)(hK:∀ a b c,K a b c=true->K' a b c): mc lo hi mx cap K' :=
 iJ h fun _ h=>iJ h fun _ h=>iJ h fun _ h=>hK _ _ _ h
def F3{x:AV}{s:St}{el:El}{lo:Option AV}{hi mx:AV}{K:KT}(h:Cf x s el lo hi mx K=true): wY s.abs el x lo hi mx (Ex K):=by
 cases x<;>first|exact no h rfl|skip
 case aP=>exact JZ (show nZ lo hi mx 0 (fun _ _ _=>K .aP s)=true from h) fun _ _ _ h=>ex h
 case aH f aS xs =>
  obtain⟨h1,h2⟩:=aL.1 (show bK (eF aS el) (dY xs 0 fun n=>nZ lo hi mx n fun l h m=>fN (Nat.sub h l) fun k=>sI xs l k fun ys=>iK (Nat.beq h m) (K (.aH true el ys) s) (K (.aH false el ys) s))=true from h);rw[j0]at h2;refine⟨dZ.1 h1,JZ h2 fun l h m hh=>?_⟩;rw[ig,wT,fD]at hh;by_cases e:h=m
  ·subst e;rw[aB (gg.2 rfl)]at hh;simp only[BEq.rfl];exact ex hh
  rw[aq (fun e'=>e (gg.1 e'))]at hh;rw[show (h==m)=false by simpa using e];exact ex hh
 case own aS l0 m0 o n =>
  obtain⟨h1,h2⟩:=aL.1 (show bK (eF aS el) (kR el l0 m0 s fun _ t=>bK (Nat.ble (Nat.add o n) m0) (nZ lo hi mx n fun l h m=>iK (Nat.beq m l) (K (.aH true el []) s) (bK (Nat.beq h m) (fN (Nat.add o l) fun o'=>fN (Nat.sub h l) fun k=>lO .undef k o' t fun ys=>s.di l0 .non fun s'=>K (.aH true el ys) s'))))=true from h);obtain⟨T,t,ho,h3⟩:=kT h2;rw[aL,d_,au]at h3;refine⟨dZ.1 h1,?_⟩;simp only[ho];refine⟨trivial,by rw[bZ],h3.1,?_⟩
  have hb:mc lo hi mx n fun l h m=>l<=h/\h<=m/\m<=n/\(if m=l then Ex K (.aH true el []) s.abs else h=m/\ ∃ s',s'.abs=s.abs.set l0 .dead/\K (.aH true el (aH .undef (o+l) (h-l) t)) s'=true):=by
   have h4:=h3.2;unfold nZ at h4;unfold mc;refine Fe h4 fun m hm h4=>Fe h4 fun h hh h4=>?_
   have step:∀ l,l<=h->(iK (Nat.beq m l) (K (.aH true el []) s) (bK (Nat.beq h m) (fN (Nat.add o l) fun o'=>fN (Nat.sub h l) fun k=>lO .undef k o' t fun ys=>s.di l0 .non fun s'=>K (.aH true el ys) s')))=true->l<=h/\h<=m/\m<=n/\(if m=l then Ex K (.aH true el []) s.abs else h=m/\ ∃ s',s'.abs=s.abs.set l0 .dead/\K (.aH true el (aH .undef (o+l) (h-l) t)) s'=true):=fun l hl h5=>by
    refine⟨hl,hh,hm,?_⟩;rw[fD]at h5;by_cases e:m=l
    ·rw[aB (gg.2 e)]at h5;rw[aB e];exact ex h5
    rw[aq (fun e'=>e (gg.1 e')),aL,gg,ig,ig,lH]at h5;rw[aq e];obtain⟨s',h6,h7⟩:=St.fx h5.2;exact⟨h5.1,s',h6,h7⟩
   cases lo with
   | none=>exact step 0 (cD _) h4
   | some lo=>exact Fe h4 fun l hl h4=>step l hl h4
  refine iF (fun l h m hh=>?_) hb;obtain⟨k1,k2,k3,hh⟩:=hh;by_cases e:m=l
  ·rw[aB e]at hh |-;exact hh
  rw[aq e]at hh |-;obtain⟨e2,s',k4,k5⟩:=hh;refine⟨e2,s',k4.symm,?_⟩;rw[tZ _ (by have:o+n<=m0:=h3.1;omega)];exact k5
def SZ{x:AV}{s:St}{el:El}{lo:Option AV}{hi mx:AV}{K:KT}(h:Qe x s el lo hi mx K=true): rX el x lo hi mx fun v=>Ex K v s.abs:=by
 cases x<;>first|exact no h rfl|skip
 case aP=>exact F3 (show Cf .aP s el lo hi mx K=true from h)
 case aH f aS xs=>exact F3 (show Cf (.aH f aS xs) s el lo hi mx K=true from h)
 case own aS l0 m0 o n =>
  obtain⟨h1,h2⟩:=aL.1 (show bK (eF aS el) (nZ lo hi mx 0 fun _ _ _=>K (.aH true el []) s)=true from h);refine⟨dZ.1 h1,?_⟩;unfold nZ at h2;exact iJ h2 fun m h3=>iJ h3 fun b h4=>iJ h4 fun l h5=>ex h5
def Lh{k q:AV}{K:Bool->Bool}(h:HT k q K=true): ∃ b,Fw k q=some b/\K b=true:=by
 cases k<;>first|exact no h rfl|skip
 case int k a =>
  obtain⟨k',b,rfl,h1⟩:=eY (show(ek q fun k' b=>bK (jl k k') (K (vQ a b)))=true from h);rw[aL,ik,uY]at h1;exact⟨_,by simp[Fw,h1.1],h1.2⟩
 case str a =>
  obtain⟨b,rfl,h1⟩:=jB (show(jc q fun b=>K (CP a b))=true from h);rw[Fb]at h1;exact⟨_,rfl,h1⟩
def Cj{kd:Option IntKind}{k:AV}(h:Cg kd k=true): k.nG kd=true:=by
 cases kd with
 | none=>obtain⟨b,rfl,_⟩:=jB (show(jc k fun _=>true)=true from h);rfl
 | some q =>
   obtain⟨k',b,rfl,h1⟩:=eY (show(ek k fun k' _=>jl q k')=true from h);rw[ik]at h1;subst h1;simp[AV.nG]
def X1{k:AV}{Kf:Nat->AV->Bool}{Kn:Nat->Bool}: ∀(es:List (AV × AV)) (i:Nat),XS k Kf Kn es i=true->(fM k es i=some none/\Kn (i+es.length)=true)\/ ∃ j v,fM k es i=some (some (j,v))/\Kf j v=true
 | [],i,h=> .inl ⟨rfl,h⟩
 | (q, v) :: es, i, h => by
   obtain⟨b,h1,h2⟩:=Lh (show(HT k q fun b=>iK b (Kf i v) (fN (Nat.succ i) (XS k Kf Kn es)))=true from h);rw[fD,ig]at h2;cases b with
   | true=>exact .inr ⟨i,v,by simp[fM,h1],by simpa using h2⟩
   | false =>
     rcases X1 es (i+1) (by simpa using h2)with ⟨h3,h4⟩|⟨j,u,h3,h4⟩
     ·exact .inl ⟨by simp[fM,h1,h3],by rw[aE,show i+(es.length+1)=i+1+es.length by omega];exact h4⟩
     exact .inr ⟨j,u,by simp[fM,h1,h3],h4⟩
def X2{k:AV}{Kf:AV->Bool}{Kn:Bool}: ∀(es:List (AV × AV)) (i:Nat),lkK k Kf Kn es=true->(fM k es i=some none/\Kn=true)\/ ∃ j v,fM k es i=some (some (j,v))/\Kf v=true
 | [],i,h=> .inl ⟨rfl,h⟩
 | (q, v) :: es, i, h => by
   obtain⟨b,h1,h2⟩:=Lh (show(HT k q fun b=>iK b (Kf v) (lkK k Kf Kn es))=true from h);rw[fD]at h2;cases b with
   | true=>exact .inr ⟨i,v,by simp[fM,h1],by simpa using h2⟩
   | false =>
     rcases X2 es (i+1) (by simpa using h2)with ⟨h3,h4⟩|⟨j,u,h3,h4⟩
     ·exact .inl ⟨by simp[fM,h1,h3],h4⟩
     exact .inr ⟨j,u,by simp[fM,h1,h3],h4⟩
def CU{k:AV}: ∀(es:List (AV × AV)) (i d:Nat),fM k es (i+d)=(fM k es i).map (fun r=>r.map fun p=>(p.1+d,p.2))
 | [],i,d=>rfl
 | (q, v) :: es, i, d => by
   simp only[fM];split
   ·rfl
   ·rw[show i+d+1=(i+1)+d by omega];exact CU es (i+1) d
   rfl
def J0{k v:AV}: ∀(es:List (AV × AV)) (K:List (AV × AV)->Bool),AU k v es K=true-> ∃ es',uE k v es=some es'/\K es'=true
 | [],K,h=>⟨_,rfl,h⟩
 | (q, u) :: es, K, h => by
   obtain⟨b,h1,h2⟩:=Lh (show(HT k q fun b=>iK b (K ((k,v)::es)) (AU k v es fun r'=>K ((q,u)::r')))=true from h);rw[fD]at h2;cases b with
   | true=>exact⟨(k,v)::es,by simp[uE,fM,h1],by simpa using h2⟩
   | false =>
     obtain⟨es',h3,h4⟩:=J0 es _ (by simpa using h2);refine⟨_,?_,h4⟩;have hs:=CU (k:=k) es 0 1;simp only[uE,fM,h1,bp]at h3 hs |-;rw[hs];generalize fM k es 0=r at h3;cases r with
     | none=>cases h3
     | some r =>
       cases r with
       | none=>simp only[Option.some.injEq]at h3;subst h3;rfl
       | some p=>simp only[Option.some.injEq]at h3;subst h3;rfl
def Li{ok:Bool}{v:AV}{b:Bool}{K:AV->Bool}(h:E6 ok v b K=true): K (if ok then .bg [v,.bool b]else v)=true:=by
 unfold E6 at h;rw[fD]at h;cases ok<;>exact h
def F4{el:El}{n:Nat}{p:AV}{lo hi:Option AV}{K:AV->Bool}{K':AV->Prop}(h:Ch el n p lo hi K=true)(hK:∀ v,K v=true->K' v): zp el n p lo hi K':=by
 obtain⟨h1,h2⟩:=aL.1 h;refine⟨by cases p<;>first|rfl|exact no h1 rfl,iJ h2 fun h h3=>iJ h3 fun l h4=>?_⟩;rw[fD]at h4;by_cases e:h=l
 ·rw[aB (gg.2 e)]at h4;rw[aB e];exact hK _ h4
 rw[aq (fun e'=>e (gg.1 e'))]at h4;rw[aq e];have hz:K_ el=el.sz:=by cases el;rfl
 rcases Ff h4 with⟨l',o,rfl,h5⟩|⟨aS,y,o,rfl,h5⟩|⟨aS,l',m,i,o,rfl,h5⟩
 ·rw[ig,hz]at h5;exact hK _ h5
 ·rw[ig,hz]at h5;exact hK _ h5
 rw[ig,hz]at h5;exact hK _ h5
def aat{x:AV}{el:El}{ys:List AV}{s:St}{K:KT}(h:U6 x el ys s K=true): wZ s.abs el x ys (Ex K):=by
 have hlen:∀ n,(ys.take n).length=min ys.length n:=fun n=>by rw[dH];omega
 cases x<;>first|exact no h rfl|skip
 case aP=>exact ex (show K (.int .i64 0) s=true from h)
 case aH f aS xs =>
  obtain⟨h1,h2⟩:=aL.1 (show bK (fA xs) (bK (eF aS el) (K (.int .i64 0) s))=true from h);rw[kC]at h1;subst h1;rw[aL]at h2;exact⟨dZ.1 h2.1,ex h2.2⟩
 case lX aS p n =>
  obtain⟨h1,h2⟩:=aL.1 (show bK (eF aS el) (bK (eF el rL) (uy ys n fun zs=>dY zs 0 fun k=>EU s k p (.agg zs) fun s'=>K (.int .i64 (Int.ofNat k)) s'))=true from h);rw[aL,xV,j0,hlen]at h2;exact⟨dZ.1 h1,dZ.1 h2.1,MS (K':=fun σ'=>Ex K (.int .i64 (min ys.length n:Nat)) σ') h2.2 fun s' hs=>ex hs⟩
 case own aS l m o n =>
  obtain⟨h1,h2⟩:=aL.1 (show bK (eF aS el) (kR el l m s fun T t=>bK (Nat.ble (Nat.add o n) m) (uy ys n fun zs=>dY zs 0 fun k=>jD .undef zs o t fun _ t'=>s.di l (.vec T el m t') fun s'=>K (.int .i64 (Int.ofNat k)) s'))=true from h);obtain⟨T,t,ho,h3⟩:=kT h2;rw[aL,d_,au,xV,j0]at h3;have hle:o+n<=m:=h3.1;obtain⟨k,t',h4,h5⟩:=Le (n:=m) (by rw[hlen];omega) h3.2;obtain⟨s',h6,h7⟩:=St.fx h4;rw[hlen]at h7;refine⟨dZ.1 h1,?_⟩;simp only[ho];refine⟨trivial,by rw[bZ],hle,s',?_,h7⟩;rw[h6];simp only[OB.abs,h5]
def acQ{x y:AV}{el:El}{s:St}{K:KT}(h:aah x el y s K=true): zo s.abs el x y (Ex K):=by
 have keep:∀ x,(∀ aS l m lo n,x = .own aS l m lo n->lo=0)->lA s none el x y K=true->zo s.abs el x y (Ex K):=fun x hx h=>by
  have:=SQ (K':=Ex K) h fun v s' hv=>ex hv;unfold zo;split
  ·rename_i aS l m lo n;exact absurd (hx _ _ _ _ _ rfl) (Nat.succ_ne_zero _)
  exact this
 cases x
 case own aS l m lo n =>
  cases lo with
  | zero=>exact keep _ (fun _ _ _ _ _ e=>by cases e;rfl) h
  | succ lo =>
    replace h:aag aS l m (lo+1) n el y s K=true:=h
    obtain⟨h1,h2⟩:=aL.1 h;refine⟨dZ.1 h1,xX h2 fun ys h3=>?_⟩;rw[aL,qx]at h3;refine⟨by rw[<-h3.1];congr 1;funext a;exact(nq a el).symm,?_⟩;obtain⟨T,t,ho,h4⟩:=kT h3.2;rw[aL,gg,lH,kx]at h4;obtain⟨h5,h6⟩:=h4;have h5:lo+1+n=m:=h5;obtain⟨s1,h7,h8⟩:=St.fx h6;obtain⟨t',h9,h10⟩:=l9 _ h8;rw[aL]at h9;obtain⟨s2,h11,h12⟩:=St.kz h9.2
    have hd:(aH .undef 0 m t).drop (lo+1)=aH .undef (lo+1) n t:=by
     have:=tZ (d:=AV.undef) (lo:=lo+1) (k:=n) (n:=m) (t:=t) ae;rw[<-this];exact(cM (by simp[bZ];omega)).symm
    have hlen:(aH .undef (lo+1) n t++ys).length=n+ys.length:=by rw[aG,bZ]
    simp only[ho];refine⟨trivial,by rw[bZ],h5,?_,?_⟩
    ·have:=pZ h9.1;rwa[hlen]at this
    refine⟨s2,?_,?_⟩
    ·rw[h11,h7];simp only[OB.abs,h10,hd]
    have e:s1.abs.length=s.abs.length:=by rw[h7];simp
    rw[e,hlen]at h12;exact h12
 all_goals exact keep _ (fun _ _ _ _ _ e=>by cases e) h
def xY{f:AV->AV->Bool}(hf:∀ a b,f a b=true->a=b): ∀(cs ds:List AV),jy f cs ds=true->cs=ds
 | [], ds, h => by
   replace h:fA ds=true:=h
   exact(kC.1 h).symm
 | a::cs,[],h=>no h rfl
 | a :: cs, d :: ds, h => by
   obtain⟨h1,h2⟩:=aL.1 (show bK (f a d) (jy f cs ds)=true from h);rw[hf _ _ h1,xY hf cs ds h2]
def u9: ∀(k:Nat) (a b:AV),rN k a b=true->a=b:=by
 intro k
 induction k with
 | zero=>intro a b h;exact no h rfl
 | succ k ih =>
   intro a b h;cases a<;>first|exact no h rfl|skip
   case bool x =>
    obtain⟨y,rfl,h1⟩:=rP (show(nV b fun b'=>vC x b')=true from h);rw[tY]at h1;rw[beq_iff_eq.1 h1]
   case int q n =>
    obtain⟨k',n',rfl,h1⟩:=eY (show(ek b fun k' n'=>bK (jl q k') (vQ n n'))=true from h);rw[aL,ik,uY,beq_iff_eq]at h1;rw[h1.1,h1.2]
   case str s =>
    obtain⟨t,rfl,h1⟩:=jB (show(jc b fun s'=>CP s s')=true from h);rw[Fb,beq_iff_eq]at h1;rw[h1]
   case agg cs =>
    obtain⟨ds,rfl,h1⟩:=ua (show(sK b fun ds=>jy (rN k) cs ds)=true from h);rw[xY ih _ _ h1]
   case bg cs =>
    obtain⟨ds,rfl,h1⟩:=Qn (show(JQ b fun ds=>jy (rN k) cs ds)=true from h);rw[xY ih _ _ h1]
   case ref l off =>
    obtain⟨l',o',rfl,h1⟩:=oD (show(nF b fun l' o'=>bK (Nat.beq l l') (Nat.beq off o'))=true from h);rw[aL,gg,gg]at h1;rw[h1.1,h1.2]
   case mp l =>
    replace h:(E7 b fun l'=>Nat.beq l l')=true:=h
    cases b<;>first|exact no h rfl|skip
    rw[gg.1 (show Nat.beq l _=true from h)]
   case aH f el xs =>
    replace h:abb b f el xs (rN k)=true:=h
    cases b<;>first|exact no h rfl|skip
    rename_i f' aS xs'
    replace h:bK (vC f f') (bK (eF el aS) (jy (rN k) xs xs'))=true:=h
    rw[aL,aL,tY,beq_iff_eq,dZ]at h;rw[h.1,h.2.1,xY ih _ _ h.2.2]
   case own el l m lo n =>
    replace h:abd b el l m lo n=true:=h
    cases b<;>first|exact no h rfl|skip
    rename_i aS l' m' lo' n'
    replace h:bK (eF el aS) (bK (Nat.beq l l') (bK (Nat.beq m m') (bK (Nat.beq lo lo') (Nat.beq n n'))))=true:=h
    rw[aL,aL,aL,aL,dZ,gg,gg,gg,gg]at h;obtain⟨rfl,rfl,rfl,rfl,rfl⟩:=h;rfl
   all_goals (cases b<;>first|exact no h rfl|rfl)
mutual
def u_(k:Nat): ∀(x:AV),sN k x=x.kH k
 | .undef | .bool _ | .int .. | .str _ | .aP | .ew | .ld | .eG | .iU | .lf=>rfl
 | .own _ l _ _ _ | .ref l _ | .dw _ l _ _ _ | .mp l | .lW l => by
   show eE (Nat.beq l k) = !(l==k);rw[kS,pE,cq];simp
 | .lX _ p _=>u_ k p
 | .agg cs=>A3 k cs
 | .bg cs=>A3 k cs
 | .aH _ _ xs=>A3 k xs
 | .cN _ x _=>u_ k x
 | .iS _ v=>u_ k v
 | .fn f a b => by
   show bK (sN k (.agg a)) (sN k (.agg b))=(AV.me k a && AV.me k b);rw[A3 k a,A3 k b];cases AV.me k a<;>rfl
def A3(k:Nat): ∀(x:List AV),sN k (.agg x)=AV.me k x
 | []=>rfl
 | a :: l => by
   show bK (sN k a) (sN k (.agg l))=(a.kH k && AV.me k l);rw[u_ k a,A3 k l];cases a.kH k<;>rfl
end
def Ck{α : Type}{f : α->Bool}{d : α}(hd:f d=true): ∀(t:Tr α),E8 f t=true-> ∀ i,f (t.get d i)=true
 | .nil,_,i=>hd
 | .node v l r, h, i => by
   have h:bK (f v) (bK (E8 f l) (E8 f r))=true:=h;rw[aL,aL]at h;cases i with
   | zero=>exact h.1
   | succ i =>
     simp only[Tr.get];split
     ·exact Ck hd l h.2.1 _
     exact Ck hd r h.2.2 _
def S0{k:Nat}{l:List AV}(h:∀ a ∈ l,a.kH k=true): AV.me k l=true:=by
 induction l with
 | nil=>rfl
 | cons a l ih=>simp only[AV.me,h a aT,ih fun b hb=>h b (by simp[hb]),Bool.and_true]
def Qq{k n:Nat}{t:Tr AV}(h:E8 (sN k) t=true): AV.me k (aH .undef 0 n t)=true:=by
 refine S0 fun a ha=>?_;obtain⟨i,_,rfl⟩:=eL.1 ha;rw[<-u_];exact Ck rfl t h i
def acR{k i:Nat}{o:OB}(h:aai k o=true): (o.abs i).kH k=true:=by
 cases o with
 | non|fZ|resv=>rfl
 | cells T n t=>exact Qq h
 | vec T el n t=>exact Qq h
 | map es =>
   have h:iq (fun p=>@Prod.rec AV AV (fun _=>Bool) (fun a b=>bK (sN k a) (sN k b)) p) es=true:=h;rw[qx,bt]at h;show(es.all fun p=>p.1.kH k && p.2.kH k)=true;rw[bt];intro p hp;have:=h p hp;obtain⟨a,b⟩:=p
   replace this:bK (sN k a) (sN k b)=true:=this
   rw[aL,u_,u_]at this;simp[this.1,this.2]
 | loop m=>exact no h rfl
def acS{k:Nat}{s:St}(h:U7 k s=true): Be k s.abs=true:=by
 cases s with|mk n t =>
 have h:E8 (aai k) t=true:=h;unfold Be;rw[bt];intro o ho;obtain⟨i,_,rfl⟩:=eL.1 ho;exact acR (Ck rfl t h i)
def ajy{k:Nat}{az:List AV}(h:iq (sN k) az=true): AV.me k az=true:=by
 rw[qx,bt]at h;exact S0 fun a ha=>by rw[<-u_];exact h a ha
def aau{az:List AV}{s s2:St}{p:AV}(h:U8 az s s2 p=true): NI az s.abs s2.abs p:=by
 obtain⟨m,z,rfl,h0⟩:=oD h
 replace h0:bK (Nat.beq z 0) (s2.dI m fun o2=>XR o2 (s.dI m fun o=>AP o (bK (iq (sN m) az) (U7 m s))) true)=true:=h0
 rw[aL,gg]at h0;obtain⟨rfl,h1⟩:=h0;obtain⟨o2,h2,h3⟩:=St.gD h1;show s2.abs[m]? = some .resv->_;intro e;rw[h2]at e;have e:=Option.some.inj e;cases o2<;>first|(simp[OB.abs,LD.obj]at e;done)|skip
 replace h3:(s.dI m fun o=>AP o (bK (iq (sN m) az) (U7 m s)))=true:=h3
 obtain⟨o,h4,h5⟩:=St.gD h3;obtain⟨rfl,h6⟩:=MQ h5;rw[aL]at h6;exact⟨h4,ajy h6.1,acS h6.2⟩
def Fg{az:List AV}{s s2:St}: ∀(iT:List (Bool × Nat)) (ps:List AV) (K:Bool),sO az s s2 iT ps K=true->nH az s.abs s2.abs iT ps/\K=true
 | [],ps,K,h=>⟨trivial,h⟩
 |(ag,n)::r,[],K,h=>no h rfl
 | (ag, 0) :: r, p :: ps, K, h => by
   have h:bK (U8 az s s2 p) (sO az s s2 r ps K)=true:=h;rw[aL]at h;obtain⟨h8,h9⟩:=Fg r ps K h.2;exact⟨⟨.inr (by rw[aB rfl];exact aau h.1),h8⟩,h9⟩
 | (ag, n + 1) :: r, p :: ps, K, h => by
   have h0:(fN (Nat.succ n) fun n=>pC p s ag n fun v=>pC p s2 ag n fun u=>bK (rN 30 v u) (sO az s s2 r ps K))=true:=h;rw[ig]at h0;have h1:=xW (K':=fun v=>(pC p s2 ag (n+1) fun u=>bK (rN 30 v u) (sO az s s2 r ps K))=true) (show(pC p s ag (n+1) fun v=>pC p s2 ag (n+1) fun u=>bK (rN 30 v u) (sO az s s2 r ps K))=true from h0) fun v h=>h;obtain⟨v,h2,h3⟩:=oe h1;have h4:=xW (K':=fun u=>rN 30 v u=true/\sO az s s2 r ps K=true) h3 fun u h=>aL.1 h;obtain⟨u,h5,h6,h7⟩:=oe h4;obtain rfl:=u9 _ _ _ h6;obtain⟨h8,h9⟩:=Fg r ps K h7;exact⟨⟨.inr (by rw[aq ae];exact⟨v,by simpa using h2 [],by simpa using h5 []⟩),h8⟩,h9⟩
def Qr{o:ef}{H:Prop}{c:Ctx}(hc:jm H c){vs:List AV}{s:St}{K Kp:KT}(hi:∀ n,o≠ .inv n)(h:ef.K o c vs s K Kp=true): o.run c.P vs s.abs (Ex K) No:=by
 cases o with
 | inv n=>exact absurd rfl (hi n)
 | pc n=>exact no h rfl
 | Vp el lo =>
   replace h:iK lo (XP vs fun x l h m=>Cf x s el (some l) h m K) (xR vs fun x h m=>Cf x s el none h m K)=true:=h
   rw[fD]at h;cases lo with
   | true=>obtain⟨x,l,hh,m,rfl,h1⟩:=X0 (by simpa using h);exact F3 h1
   | false=>obtain⟨x,hh,m,rfl,h1⟩:=u7 (by simpa using h);exact F3 h1
 | G8 el =>
   obtain⟨x,y,rfl,h1⟩:=p7 (show(rM vs fun x y=>wH y s el fun ys=>bK (iq (fun a=>kF a el) ys) (dY ys 0 fun n=>bK (eE (Nat.beq n 0)) (abf x el ys n s fun v=>K v s)))=true from h)
   show fL s.abs el y (fun ys=>ys.all (fun a=>a.fits el)=true/\ys.length≠0/\match (generalizing:=false) x with
    | .aP=>fE ys.length el/\Ex K (.aH false el ys) s.abs
    | .aH true aS xs=>aS=el/\fE (xs.length+ys.length) el/\Ex K (.aH false el (xs++ys)) s.abs
    | _=>False)
   refine xX h1 fun ys h2=>?_;rw[aL,qx,j0,aL]at h2;obtain⟨h3,h4,h5⟩:=h2;refine⟨by rw[<-h3];congr 1;funext a;exact(nq a el).symm,fun e=>?_,?_⟩
   ·rw[e]at h4;exact no h4 rfl
   ·cases x<;>first|exact no h5 rfl|skip
    case aP =>
     obtain⟨h6,h7⟩:=aL.1 (show bK (mW ys.length el) (K (.aH false el ys) s)=true from h5);exact⟨pZ h6,ex h7⟩
    case aH f aS xs =>
     obtain⟨h6,h7⟩:=aL.1 (show bK f (bK (eF aS el) (dY xs ys.length fun m=>bK (mW m el) (iM xs ys fun zs=>K (.aH false el zs) s)))=true from h5);subst h6;rw[aL,Lb,aL,kx]at h7;exact⟨dZ.1 h7.1,by have:=pZ h7.2.1;rwa[Nat.add_comm]at this,ex h7.2.2⟩
 | Dk neg =>
   obtain⟨x,rfl,h1⟩:=uZ (show(vR vs fun x=>abe x s fun r=>K (.bool (iK neg (eE r) r)) s)=true from h);have hb:∀ r,(iK neg (eE r) r)=(if neg then !r else r):=fun r=>by cases neg<;>cases r<;>rfl
   show qY s.abs x fun r=>Ex K (.bool (if neg then !r else r)) s.abs;cases x<;>first|exact no h1 rfl|skip
   case aP=>show Ex K (.bool (if neg then !true else true)) s.abs;rw[<-hb];exact ex h1
   case aH f el xs =>
    replace h1:iK (fA xs) false (K (.bool (iK neg (eE false) false)) s)=true:=h1
    cases xs with
    | nil=>exact no h1 rfl
    | cons x xs=>show Ex K _ _;rw[<-hb];exact ex h1
   case lX el p n=>show Ex K _ _;rw[<-hb];exact ex h1
   case own el l m lo n =>
    obtain⟨o,ho,h2⟩:=St.gD (show(s.dI l fun o=>JN o fun _ _ k _=>bK (Nat.beq m k) (bK (Nat.ble 1 n) (K (.bool (iK neg (eE false) false)) s)))=true from h1);obtain⟨T,aS,k,t,rfl,h3⟩:=HX h2;rw[aL,aL,gg,d_,au]at h3
    show match s.abs[l]? with
     | some (.bW _ _ xs)=>m=xs.length/\0<n/\Ex K (.bool (if neg then !false else false)) s.abs
     | _=>False
    rw[ho];refine⟨by simp only[bZ];exact h3.1,h3.2.1,?_⟩;rw[<-hb];exact ex h3.2.2
 | G9 neg=>cases h
 | cw n k iT =>
   cases vs with
   | nil=>exact no h rfl
   | cons x r =>
     replace h:(uy (x::r) k fun az=>c.oC n az s fun o s'=>uB o fun v=>Ca (x::r) k fun ps=>sO az s s' iT ps (K v s'))=true:=h
     rw[xV]at h;obtain⟨out,s',h1,h2⟩:=hc.oC _ _ _ _ h;cases out with
     | panic v=>exact no h1 rfl
     | ret v =>
       replace h1:(Ca (x::r) k fun ps=>sO ((x::r).take k) s s' iT ps (K v s'))=true:=h1
       rw[HV]at h1;obtain⟨h3,h4⟩:=Fg _ _ _ h1;exact⟨v,s'.abs,h2,h3,ex h4⟩
 | G7 el lo =>
   replace h:iK lo (XP vs fun x l h m=>Qe x s el (some l) h m K) (xR vs fun x h m=>Qe x s el none h m K)=true:=h
   rw[fD]at h;cases lo with
   | true=>obtain⟨x,l,hh,m,rfl,h1⟩:=X0 (by simpa using h);exact SZ h1
   | false=>obtain⟨x,hh,m,rfl,h1⟩:=u7 (by simpa using h);exact SZ h1
 | Fv =>
   obtain⟨h1,h2⟩:=aL.1 (show bK (fA vs) (s.jG (.map []) fun l s'=>K (.mp l) s')=true from h);rw[kC]at h1;subst h1;obtain⟨s',h3,h4⟩:=St.kz h2;exact⟨s',h3.symm,h4⟩
 | Bb kd ok zero =>
   obtain⟨x,k,rfl,h1⟩:=p7 (show(rM vs fun x k=>bK (Cg kd k) (aa9 x k s ok zero fun v=>K v s))=true from h);rw[aL]at h1;obtain⟨h2,h3⟩:=h1;cases x<;>first|exact no h3 rfl|skip
   case iU=>exact⟨Cj h2,ex (Li (K:=fun v=>K v s) (show E6 ok zero false (fun v=>K v s)=true from h3))⟩
   case mp l =>
    obtain⟨ob,ho,h4⟩:=St.gD (show(s.dI l fun o=>nE o fun es=>lkK k (fun v=>E6 ok v true fun v=>K v s) (E6 ok zero false fun v=>K v s) es)=true from h3);obtain⟨es,rfl,h5⟩:=t_ h4;refine⟨Cj h2,?_⟩;simp only[ho,OB.abs];rcases X2 es 0 h5 with⟨h6,h7⟩|⟨j,v,h6,h7⟩
    ·simp only[h6];exact ex (Li (K:=fun v=>K v s) h7)
    simp only[h6];exact ex (Li (K:=fun v=>K v s) h7)
 | zZ kd =>
   obtain⟨x,k,v,rfl,h1⟩:=u7 (show(xR vs fun x k v=>bK (Cg kd k) (E7 x fun l=>s.dI l fun o=>nE o fun es=>AU k v es fun es'=>s.di l (.map es') fun s'=>K (.bg []) s'))=true from h);rw[aL]at h1;obtain⟨h2,h3⟩:=h1;cases x<;>first|exact no h3 rfl|skip
   case mp l =>
    obtain⟨ob,ho,h4⟩:=St.gD (show(s.dI l fun o=>nE o fun es=>AU k v es fun es'=>s.di l (.map es') fun s'=>K (.bg []) s')=true from h3);obtain⟨es,rfl,h5⟩:=t_ h4;obtain⟨es',h6,h7⟩:=J0 es _ h5;obtain⟨s',h8,h9⟩:=St.fx h7;refine⟨Cj h2,?_⟩;simp only[ho,OB.abs,h6];exact⟨s',h8.symm,h9⟩
 | Dj =>
   obtain⟨x,rfl,h1⟩:=uZ (show(vR vs fun x=>aa_ x s fun v=>K v s)=true from h);cases x<;>first|exact no h1 rfl|skip
   case iU=>exact ex h1
   case mp l =>
    obtain⟨ob,ho,h4⟩:=St.gD (show(s.dI l fun o=>nE o fun es=>dY es 0 fun n=>K (.int .i64 (Int.ofNat n)) s)=true from h1);obtain⟨es,rfl,h5⟩:=t_ h4;rw[j0]at h5;show match s.abs[l]? with|some (.map es)=>Ex K (.int .i64 es.length) s.abs|_=>False
    rw[ho];exact ex h5
 | Ik el n lo up =>
   replace h:iK lo (iK up (xR vs fun p a b=>Ch el n p (some a) (some b) fun v=>K v s) (rM vs fun p a=>Ch el n p (some a) none fun v=>K v s))
    (iK up (rM vs fun p b=>Ch el n p none (some b) fun v=>K v s) (vR vs fun p=>Ch el n p none none fun v=>K v s))=true:=h
   rw[fD,fD,fD]at h;cases lo<;>cases up
   ·obtain⟨p,rfl,h1⟩:=uZ (by simpa using h);exact F4 (K':=fun v=>Ex K v s.abs) h1 fun v hv=>ex hv
   ·obtain⟨p,b,rfl,h1⟩:=p7 (by simpa using h);exact F4 (K':=fun v=>Ex K v s.abs) h1 fun v hv=>ex hv
   ·obtain⟨p,a,rfl,h1⟩:=p7 (by simpa using h);exact F4 (K':=fun v=>Ex K v s.abs) h1 fun v hv=>ex hv
   obtain⟨p,a,b,rfl,h1⟩:=u7 (by simpa using h);exact F4 (K':=fun v=>Ex K v s.abs) h1 fun v hv=>ex hv
 | copy el =>
   obtain⟨x,y,rfl,h1⟩:=p7 (show(rM vs fun x y=>wH y s el fun ys=>bK (iq (fun a=>kF a el) ys) (U6 x el ys s K))=true from h);show fL s.abs el y (fun ys=>ys.all (fun a=>a.fits el)=true/\wZ s.abs el x ys (Ex K));refine xX h1 fun ys h2=>?_;rw[aL,qx]at h2;exact⟨by rw[<-h2.1];congr 1;funext a;exact(nq a el).symm,aat h2.2⟩
 | Vq el =>
   obtain⟨x,y,rfl,h1⟩:=p7 (show(rM vs fun x y=>aah x el y s K)=true from h);exact acQ h1
 | RO T ok z =>
   obtain⟨x,rfl,h1⟩:=uZ (show(vR vs fun x=>afk x T ok z fun v=>K v s)=true from h);show zq T ok z x fun v=>Ex K v s.abs;cases x<;>first|exact no h1 rfl|skip
   case eG=>obtain⟨h2,h3⟩:=aL.1 (show bK ok (K (.bg [z,.bool false]) s)=true from h1);exact⟨h2,ex h3⟩
   case iS t v =>
    replace h1:iK (Nat.beq t T) (iK ok (K (.bg [v,.bool true]) s) (K v s)) (bK ok (K (.bg [z,.bool false]) s))=true:=h1
    rw[fD,pE]at h1;by_cases e:t=T
    ·rw[aB (fT e),fD]at h1;show if t=T then _ else _
     rw[aB e];cases ok<;>exact ex h1
    rw[aq (fun h=>e (of_decide_eq_true h)),aL]at h1;show if t=T then _ else _
    rw[aq e];exact⟨h1.1,ex h1.2⟩
 | s2a n =>
   obtain⟨x,rfl,h1⟩:=uZ (show(vR vs fun x=>afl x n s K)=true from h);cases x<;>first|exact no h1 rfl|skip
   case aH f aS xs =>
    replace h1:bK (eF aS rL) (bK (Nat.ble 1 n) (bK (dY xs 0 (Nat.ble n)) (uy xs n fun ys=>K (.cN ⟨true,n⟩ (.agg ys) 0) s)))=true:=h1
    rw[aL,aL,aL,dZ,d_,j0,d_,au,au,xV]at h1;exact⟨h1.1,h1.2.1,h1.2.2.1,ex h1.2.2.2⟩
   case own aS l m o k =>
    obtain⟨h2,h3⟩:=aL.1 (show bK (eF aS rL) (kR rL l m s fun _ t=>bK (Nat.ble (Nat.add o k) m) (bK (Nat.ble 1 n) (bK (Nat.ble n k) (lO .undef n o t fun ys=>s.di l .non fun s'=>K (.cN ⟨true,n⟩ (.agg ys) 0) s'))))=true from h1);obtain⟨T,t,ho,h4⟩:=kT h3;rw[aL,aL,aL,d_,d_,d_,au,au,au,lH]at h4;obtain⟨h5,h6,h7,h8⟩:=h4;obtain⟨s',h9,h10⟩:=St.fx h8;refine⟨dZ.1 h2,?_⟩
    show match(generalizing:=false) s.abs[l]? with
     | some (.bW _ bq xs)=>bq=⟨false,1⟩/\m=xs.length/\o+k<=m/\0<n/\n<=k/\Ex K (.cN ⟨true,n⟩ (.agg ((xs.drop o).take n)) 0) (s.abs.set l .dead)
     | _=>False
    rw[ho];have h5:o+k<=m:=h5;refine⟨rfl,by rw[bZ],h5,h6,h7,?_⟩;have e1:=tZ (d:=AV.undef) (lo:=o) (k:=n) (n:=m) (t:=t) ae;rw[e1];exact⟨s',h9.symm,h10⟩
 | S9 kd z =>
   obtain⟨x,k,rfl,h1⟩:=p7 (show(rM vs fun x k=>bK (Cg kd k) (E7 x fun l=>s.dI l fun o=>nE o fun es=>XS k (fun i v=>K (.bg [v,.int .i64 (Int.ofNat i)]) s) (fun i=>iM es [(k,z)] fun es'=>s.di l (.map es') fun s'=>K (.bg [z,.int .i64 (Int.ofNat i)]) s') es 0))=true from h);rw[aL]at h1;obtain⟨h2,h3⟩:=h1;cases x<;>first|exact no h3 rfl|skip
   case mp l =>
    obtain⟨ob,ho,h4⟩:=St.gD (show(s.dI l fun o=>nE o fun es=>XS k (fun i v=>K (.bg [v,.int .i64 (Int.ofNat i)]) s) (fun i=>iM es [(k,z)] fun es'=>s.di l (.map es') fun s'=>K (.bg [z,.int .i64 (Int.ofNat i)]) s') es 0)=true from h3);obtain⟨es,rfl,h5⟩:=t_ h4;refine⟨Cj h2,?_⟩;simp only[ho,OB.abs];rcases X1 es 0 h5 with⟨h6,h7⟩|⟨j,v,h6,h7⟩
    ·simp only[h6];rw[kx,bp]at h7;obtain⟨s',h8,h9⟩:=St.fx h7;exact⟨s',h8.symm,h9⟩
    simp only[h6];exact ex h7
 | N0 =>
   obtain⟨x,b,v,rfl,h1⟩:=u7 (show(xR vs fun x b v=>E7 x fun l=>ek b fun k z=>bK (jl k .i64) (jW z fun i=>s.dI l fun o=>nE o fun es=>bK (dY es 0 (Nat.ble (Nat.succ i))) (sH default es i fun p=>@Prod.rec AV AV (fun _=>Bool) (fun q _=>wG es i (q,v) fun es'=>s.di l (.map es') fun s'=>K (.bg []) s') p)))=true from h);cases x<;>first|exact no h1 rfl|skip
   case mp l =>
    obtain⟨k,z,rfl,h2⟩:=eY (show(ek b fun k z=>bK (jl k .i64) (jW z fun i=>s.dI l fun o=>nE o fun es=>bK (dY es 0 (Nat.ble (Nat.succ i))) (sH default es i fun p=>@Prod.rec AV AV (fun _=>Bool) (fun q _=>wG es i (q,v) fun es'=>s.di l (.map es') fun s'=>K (.bg []) s') p)))=true from h1);rw[aL,ik]at h2;obtain⟨rfl,h3⟩:=h2;obtain⟨hz,h4⟩:=jP h3;obtain⟨ob,ho,h5⟩:=St.gD h4;obtain⟨es,rfl,h6⟩:=t_ h5;rw[aL,j0,d_,au,wS]at h6;obtain⟨h7,h8⟩:=h6
    show match(generalizing:=false) s.abs[l]? with
     | some (.map es)=>0<=z/\z.toNat<es.length/\Ex K (.bg []) (s.abs.set l (.map (es.set z.toNat ((es.getD z.toNat default).1,v))))
     | _=>False
    rw[ho];refine⟨hz,h7,?_⟩
    replace h8:(wG es z.toNat ((es.getD z.toNat default).1,v) fun es'=>s.di l (.map es') fun s'=>K (.bg []) s')=true:=h8
    rw[HW]at h8;obtain⟨s',h9,h10⟩:=St.fx h8;exact⟨s',h9.symm,h10⟩
 | frz=>cases h
 | clr el z =>
   obtain⟨x,rfl,h1⟩:=uZ (show(vR vs fun x=>afo x el z s fun s'=>K (.bg []) s')=true from h);cases x<;>first|exact no h1 rfl|skip
   case aP=>exact ex h1
   case aH f aS xs =>
    obtain⟨h2,h3⟩:=aL.1 (show bK (fA xs) (K (.bg []) s)=true from h1);rw[kC]at h2;subst h2;exact ex h3
   case own aS l m o n =>
    obtain⟨h2,h3⟩:=aL.1 (show bK (eF aS el) (bK (kF z el) (kR el l m s fun T t=>bK (Nat.ble (Nat.add o n) m) (Cb z n fun zs=>jD .undef zs o t fun _ t'=>s.di l (.vec T el m t') fun s'=>K (.bg []) s')))=true from h1);obtain⟨h4,h5⟩:=aL.1 h3;obtain⟨T,t,ho,h6⟩:=kT h5;rw[aL,d_,au,F0]at h6;obtain⟨h7,h8⟩:=h6;have h7:o+n<=m:=h7;obtain⟨k,t',h9,h10⟩:=Le (n:=m) (by rw[cz];omega) h8;obtain⟨s',h11,h12⟩:=St.fx h9;refine⟨dZ.1 h2,by rw[<-nq];exact h4,?_⟩
    show match(generalizing:=false) s.abs[l]? with
     | some (.bW T bq xs)=>bq=el/\m=xs.length/\o+n<=m/\Ex K (.bg []) (s.abs.set l (.bW T el (dm xs o (List.replicate n z))))
     | _=>False
    rw[ho];refine⟨rfl,by rw[bZ],h7,s',?_,h12⟩;rw[h11];simp only[OB.abs,h10]
def acT{o:ef}{H:Prop}{c:Ctx}(hc:jm H c){vs:List AV}{s:St}{K Kp:KT}(h:ef.K o c vs s K Kp=true): ∃ out s',oZ K Kp out s'=true/\o.run c.P vs s.abs (fun v σ'=>out = .ret v/\σ'=s'.abs) (fun v σ'=>out = .panic v/\σ'=s'.abs):=by
 by_cases hi:∃ n,o = .inv n
 ·obtain⟨name,rfl⟩:=hi;cases vs with
  | nil=>exact no h rfl
  | cons x r =>
    obtain⟨T,v,rfl,h1⟩:=Qo (show(JR x fun T v=>@Option.rec FuncId (fun _=>Bool) false (fun f=>c.oC f (v::r) s (oZ K Kp)) (z7 c.P T name))=true from h);generalize hm:z7 c.P T name=mm at h1;cases mm with
    | none=>exact no h1 rfl
    | some f =>
      obtain⟨out,s',h2,h3⟩:=hc.oC _ _ _ _ (show c.oC f (v::r) s (oZ K Kp)=true from h1);refine⟨out,s',h2,?_⟩;simp only[ef.run,hm];refine h3.mono ?_;rintro o' σ' ⟨rfl,rfl⟩;cases o'<;>exact⟨rfl,rfl⟩
 obtain⟨v,σ',h1,s',rfl,h2⟩:=ef.det (by cases o<;>first|exact absurd ⟨_,rfl⟩ hi|exact no h rfl|(intro e;cases e)) (Qr hc (Kp:=Kp) (fun n e=>hi ⟨n,e⟩) h);exact⟨.ret v,s',h2,ef.m_ (fun v' s'' e=>by obtain⟨rfl,rfl⟩:=e;exact⟨rfl,rfl⟩) (fun _ _ h=>False.elim h) h1⟩
def acU{o:bf}{H:Prop}{c:Ctx}(hc:jm H c){t:Tr AV}{s:St}{K Kp:KT}(hcl:o.cls≠ .no)(h:bf.K o c t s K Kp=true): o.run c.P (t.get .undef) s.abs (Ex K) No:=by
 cases o
 case ex o xs =>
  replace h:(nW xs t fun vs=>ef.K o c vs s K Kp)=true:=h
  rw[oY]at h;exact Qr hc (fun n e=>by subst e;exact hcl rfl) h
 case mv x=>replace h:(cA x t fun v=>K v s)=true:=h;rw[cy]at h;exact ex h
 case pick cc a b =>
  replace h:(cA cc t fun v=>nV v fun y=>iK y (cA a t fun v=>K v s) (cA b t fun v=>K v s))=true:=h
  rw[cy]at h;obtain⟨y,hy,h1⟩:=rP h;rw[fD,cy,cy]at h1;simp only[bf.run,hy];cases y<;>exact ex h1
 case alloc T cs =>
  obtain⟨t',h1,h2⟩:=l9 _ (show(jD .undef cs 0 .nil fun n t'=>s.jG (.cells T n t') fun l s'=>K (.ref l 0) s')=true from h);obtain⟨s',h3,h4⟩:=St.kz h1;simp only[bf.run];exact⟨s',by rw[h3];simp only[OB.abs,h2],h4⟩
 case box x =>
  replace h:(cA x t fun v=>oO v fun cs=>bK (iq sL cs) (jD .undef cs 0 .nil fun n t'=>s.jG (.cells none n t') fun l s'=>K (.ref l 0) s'))=true:=h
  rw[cy,rR,aL,A0]at h;obtain⟨t',h1,h2⟩:=l9 _ h.2;obtain⟨s',h3,h4⟩:=St.kz h1;exact⟨h.1,s',by rw[h3];simp only[OB.abs,h2],h4⟩
 case vo T x =>
  replace h:(cA x t fun v=>oO v fun cs=>bK (iq sL cs) (jD .undef cs 0 .nil fun n t'=>s.jG (.cells (some T) n t') fun l s'=>K (.ref l 0) s'))=true:=h
  rw[cy,rR,aL,A0]at h;obtain⟨t',h1,h2⟩:=l9 _ h.2;obtain⟨s',h3,h4⟩:=St.kz h1;exact⟨h.1,s',by rw[h3];simp only[OB.abs,h2],h4⟩
 case build z ps=>exact MW (K':=fun cs=>Ex K (.agg cs) s.abs) (fun l hl=>ex hl) ps z h
 case kG mt el zero n ps =>
  replace h:(Cb zero n fun z=>FU el ps z t fun xs=>iK mt (jD .undef xs 0 .nil fun n' t'=>s.jG (.vec none el n' t') fun l s'=>K (.own el l n 0 n) s') (K (.aH true el xs) s))=true:=h
  rw[F0]at h;refine JY (K':=fun xs=>if mt then Ex K (.own el s.abs.length n 0 n) (s.abs++[.vec el xs])else Ex K (.aH true el xs) s.abs) (fun xs hx=>?_) ps _ h;rw[fD]at hx;cases mt with
  | true =>
    rw[aB rfl]at hx |-;obtain⟨t',h1,h2⟩:=l9 _ hx;obtain⟨s',h3,h4⟩:=St.kz h1;exact⟨s',by rw[h3];simp only[OB.abs,h2],h4⟩
  | false=>rw[aq aT]at hx |-;exact ex hx
 case load ag n x =>
  replace h:(cA x t fun v=>pC v s ag n fun u=>K u s)=true:=h
  rw[cy]at h;exact xW (K':=fun v=>Ex K v s.abs) h fun v hv=>ex hv
 case store n x v =>
  replace h:(cA x t fun p=>cA v t fun u=>EU s n p u fun s'=>K (.bg []) s')=true:=h
  rw[cy,cy]at h;exact MS (K':=fun σ=>Ex K (.bg []) σ) h fun s' hv=>ex hv
 case p8 x =>
  replace h:(cA x t fun v=>XK v s K)=true:=h
  rw[cy]at h;simp only[bf.run];generalize x.ev (t.get .undef)=v at h |-;cases v
  case fn f a b=>obtain⟨n,rfl,h1⟩:=rQ (show(nY f fun n=>K (.fn (.func n) a b) s)=true from h);exact ex h1
  all_goals first|exact no h rfl|exact ex h
 case bin op x y =>
  replace h:(cA x t fun a=>cA y t fun b=>aae a op b fun v=>K v s)=true:=h
  rw[cy,cy]at h;exact acN (K':=fun v=>Ex K v s.abs) h fun v hv=>ex hv
 case rW neg ag ks x y =>
  replace h:(cA x t fun a=>cA y t fun b=>U1 ag ks a b fun r=>tB (P9 neg r) fun v=>K v s)=true:=h
  rw[cy,cy]at h;obtain⟨r,h1,h2⟩:=acO h;rw[sQ,SX]at h2;show(match afu ag ks (x.ev (t.get .undef)) (y.ev (t.get .undef))with|some b=>Ex K (.bool (if neg then !b else b)) s.abs|none=>False);rw[h1];exact ex h2
 case un op x =>
  replace h:(cA x t fun a=>unK op a fun v=>K v s)=true:=h
  rw[cy]at h;exact afr (K':=fun v=>Ex K v s.abs) h fun v hv=>ex hv
 case n9 k x =>
  replace h:(cA x t fun a=>ek a fun _ n=>mX k n fun v=>K v s)=true:=h
  rw[cy]at h;obtain⟨k',n,hx,h1⟩:=eY h;rw[nr]at h1;simp only[bf.run,hx];exact ex h1
 case N1 x =>
  replace h:(cA x t fun a=>jc a fun b=>K (.str b) s)=true:=h
  rw[cy]at h;obtain⟨b,hx,h1⟩:=jB h;simp only[bf.run,hx];exact ex h1
 case N2 x =>
  replace h:(cA x t fun a=>jc a fun b=>EW b fun xs=>jD .undef xs 0 .nil fun n t'=>bK (Nat.ble n 1099511627776) (s.jG (.vec none rL n t') fun l s'=>K (.own rL l n 0 n) s'))=true:=h
  rw[cy]at h;obtain⟨b,hx,h1⟩:=jB h;rw[MU]at h1;obtain⟨t',h2,h3⟩:=l9 _ h1;rw[aL,d_,au]at h2;obtain⟨s',h4,h5⟩:=St.kz h2.2;simp only[bf.run,hx];rw[c8]at h2 h5;simp only[OB.abs]at h4;rw[h3]at h4;exact⟨h2.1,s',h4.symm,h5⟩
 case yu x =>
  replace h:(cA x t fun a=>Qc a (wH a s rL fun xs=>E0 xs fun b=>K (.str b) s))=true:=h
  rw[cy]at h;simp only[bf.run];have hh:=XZ h;exact⟨hh.1,xX hh.2 fun xs hx=>by obtain⟨b,h1,h2⟩:=Fc _ _ hx;exact⟨b,h1,ex h2⟩⟩
 case Bc T x=>replace h:(cA x t fun a=>K (.iS T a) s)=true:=h;rw[cy]at h;exact ex h
 case vg f a b=>replace h:(nW a t fun az=>nW b t fun bz=>K (.fn f az bz) s)=true:=h;rw[oY,oY]at h;exact ex h
 case vD x lo hi =>
  replace h:(cA x t fun a=>jc a fun b=>Cc hi t fun hv=>Cc lo t fun lv=>dY b 0 fun n=>jA hv n n fun h=>jA lv 0 h fun l=>fN (Nat.sub h l) fun k=>sI b l k fun c=>K (.str c) s)=true:=h
  rw[cy]at h;obtain⟨b,hx,h1⟩:=jB h;rw[F1,F1,j0]at h1;simp only[bf.run,hx];refine iJ h1 fun m hm=>iJ hm fun l hl=>?_;rw[ig,wT]at hl;exact ex hl
 case Ct el x lo hi =>
  replace h:(cA x t fun a=>Cc hi t fun hv=>Cc lo t fun lv=>ae3 a s el lv hv K)=true:=h
  rw[cy,F1,F1]at h;simp only[bf.run];generalize x.ev (t.get .undef)=v at h |-;cases v<;>first|exact no h rfl|skip
  case aP =>
   refine iJ (show(jA (hi.map (AX.ev (t.get .undef))) 0 0 fun h=>jA (lo.map (AX.ev (t.get .undef))) 0 h fun _=>K .aP s)=true from h) fun m hm=>iJ hm fun l hl=>ex hl
  case aH f aS xs =>
   obtain⟨h1,h2⟩:=aL.1 (show bK (eF aS el) (dY xs 0 fun n=>jA (hi.map (AX.ev (t.get .undef))) n n fun h=>jA (lo.map (AX.ev (t.get .undef))) 0 h fun l=>fN (Nat.sub h l) fun k=>sI xs l k fun ys=>K (.aH false el ys) s)=true from h);rw[j0]at h2;refine⟨dZ.1 h1,iJ h2 fun m hm=>iJ hm fun l hl=>?_⟩;rw[ig,wT]at hl;exact ex hl
  case own aS l m o n =>
   obtain⟨h1,h2⟩:=aL.1 (show bK (eF aS el) (kR el l m s fun _ _=>bK (Nat.ble (Nat.add o n) m) (jA (hi.map (AX.ev (t.get .undef))) n n fun h=>jA (lo.map (AX.ev (t.get .undef))) 0 h fun k=>fN (Nat.add o k) fun o'=>fN (Nat.sub h k) fun n'=>K (.own el l m o' n') s))=true from h);obtain⟨T,t',ho,h3⟩:=kT h2;rw[aL,d_,au]at h3;simp only[ho];refine⟨dZ.1 h1,trivial,by rw[bZ],h3.1,iJ h3.2 fun m hm=>iJ hm fun l hl=>?_⟩;rw[ig,ig]at hl;exact ex hl
 case pn off x =>
  replace h:(cA x t fun a=>xQ a off fun v=>K v s)=true:=h
  rw[cy]at h;simp only[bf.run];rcases Ff h with⟨l,o,hx,h1⟩|⟨el,y,o,hx,h1⟩|⟨el,l,m,i,o,hx,h1⟩<;>(rw[hx];exact ex h1)
 case field ag off n x =>
  replace h:(cA x t fun a=>sK a fun cs=>bK (dY cs 0 (Nat.ble (Nat.add off n))) (iK ag (sI cs off n fun ds=>K (.agg ds) s) (bK (Nat.beq n 1) (sH .undef cs off fun v=>K v s))))=true:=h
  rw[cy]at h;obtain⟨cs,hx,h1⟩:=ua h;rw[aL,j0,d_,au,fD]at h1;simp only[bf.run,hx];refine⟨h1.1,?_⟩;cases ag with
  | true=>have h2:=h1.2;rw[if_pos rfl,wT]at h2;exact⟨fun h=>(by cases h),ex h2⟩
  | false=>have h2:=h1.2;rw[aq aT,aL,gg,wS]at h2;exact⟨fun _=>h2.1,ex h2.2⟩
 case jh el arr x i =>
  replace h:(cA i t fun j=>ek j fun _ z=>jW z fun k=>cA x t fun a =>
   @Option.rec Nat (fun _=>Bool) (Qd a k s el fun v=>K v s) (fun n=>bK (Nat.ble (Nat.succ k) n) (xQ a (Nat.mul k (K_ el)) fun v=>K v s)) arr)=true:=h
  rw[cy]at h;obtain⟨kk,z,hi,h1⟩:=eY h;obtain⟨h2,h3⟩:=jP h1;rw[cy]at h3;simp only[bf.run,hi];have hsz:K_ el=el.sz:=rfl;cases arr with
  | none =>
    replace h3:(Qd (x.ev (t.get .undef)) z.toNat s el fun v=>K v s)=true:=h3
    generalize x.ev (t.get .undef)=v at h3 |-;cases v<;>first|exact no h3 rfl|skip
    case aH f aS xs =>
     obtain⟨e1,h4⟩:=aL.1 (show bK (eF aS el) (bK (dY xs 0 (Nat.ble (Nat.succ z.toNat))) (sH .undef xs z.toNat fun y=>K (.cN el y 0) s))=true from h3);rw[aL,j0,d_,au,wS]at h4;exact⟨dZ.1 e1,h2,by have:=h4.1;omega,ex h4.2⟩
    case own aS l m o n =>
     obtain⟨e1,h4⟩:=aL.1 (show bK (eF aS el) (bK (Nat.ble (Nat.succ z.toNat) n) (kR el l m s fun _ _=>fN (Nat.add o z.toNat) fun i=>K (.dw el l m i 0) s))=true from h3);rw[aL,d_,au]at h4;obtain⟨T,t',ho,h5⟩:=kT h4.2;rw[ig]at h5;simp only[ho];exact⟨dZ.1 e1,h2,by have:=h4.1;omega,trivial,by rw[bZ],ex h5⟩
  | some n =>
    obtain⟨h4,h5⟩:=aL.1 (show bK (Nat.ble (Nat.succ z.toNat) n) (xQ (x.ev (t.get .undef)) (Nat.mul z.toNat (K_ el)) fun v=>K v s)=true from h3);rw[d_,au]at h4;rcases Ff h5 with⟨l,o,hx,h6⟩|⟨aS,y,o,hx,h6⟩|⟨aS,l,m,j,o,hx,h6⟩<;>(rw[hx];exact⟨h2,ae,ex h6⟩)
 case mb x i =>
  replace h:(cA i t fun j=>ek j fun _ z=>jW z fun k=>cA x t fun a=>jc a fun b=>Ca b k fun c=>@List.rec UInt8 (fun _=>Bool) false (fun d _ _=>fN d.toNat fun n=>K (.int .u8 (Int.ofNat n)) s) c)=true:=h
  rw[cy]at h;obtain⟨kk,z,hi,h1⟩:=eY h;obtain⟨h2,h3⟩:=jP h1;rw[cy]at h3;obtain⟨b,hx,h4⟩:=jB h3;rw[HV]at h4;simp only[bf.run,hi,hx];cases hd:b.drop z.toNat with
  | nil=>rw[hd]at h4;exact no h4 rfl
  | cons d l =>
    rw[hd]at h4
    replace h4:(fN d.toNat fun n=>K (.int .u8 (Int.ofNat n)) s)=true:=h4
    rw[ig]at h4
    have hlt:z.toNat<b.length:=by
     rcases Nat.lt_or_ge z.toNat b.length with h|h
     ·exact h
     rw[List.drop_eq_nil_of_le h]at hd;cases hd
    have hg:b.getD z.toNat 0=d:=by
     rw[aj,aJ hlt];have:=gy hlt;rw[hd]at this;injection this with e1 e2;exact e1.symm
    exact⟨h2,ae,by rw[hg];exact ex h4⟩
 case wX el ln x i =>
  cases el with|mk g z0 =>
  replace h:(cA i t fun j=>ek j fun _ z=>jW z fun k=>cA x t fun a=>sK a fun cs=>bK (Nat.ble (Nat.succ k) ln)
   (fN (Nat.mul k z0) fun off=>bK (dY cs 0 (Nat.ble (Nat.add off z0))) (iK g (sI cs off z0 fun ds=>K (.agg ds) s) (bK (Nat.beq z0 1) (sH .undef cs off fun v=>K v s)))))=true:=h
  rw[cy]at h;obtain⟨kk,z,hi,h1⟩:=eY h;obtain⟨h2,h3⟩:=jP h1;rw[cy]at h3;obtain⟨cs,hx,h4⟩:=ua h3;rw[aL,d_,au,ig,aL,j0,d_,au,fD]at h4;obtain⟨h5,h6,h7⟩:=h4;simp only[bf.run,hi,hx];refine⟨h2,ae,h6,?_⟩;cases g with
  | true=>rw[if_pos rfl,wT]at h7;exact⟨fun h=>(by cases h),ex h7⟩
  | false=>rw[aq aT,aL,gg,wS]at h7;exact⟨fun _=>h7.1,ex h7.2⟩
 case ext x i =>
  replace h:(cA x t fun a=>JQ a fun vs=>bK (dY vs 0 (Nat.ble (Nat.succ i))) (sH .undef vs i fun v=>K v s))=true:=h
  rw[cy]at h;obtain⟨vs,hx,h1⟩:=Qn h;rw[aL,j0,d_,au,wS]at h1;simp only[bf.run,hx];exact⟨h1.1,ex h1.2⟩
 case call q f args =>
  cases q with
  | false=>exact absurd rfl hcl
  | true =>
    replace h:(cA f t fun g=>NS g (fun l=>false)<| xO g fun fn a b=>nY fn fun n=>nW args t fun az=>iM az b fun zs=>iM a zs fun ys=>q9 c n ys s K)=true:=h
    rw[cy]at h;rcases Qm h with⟨l,_,h1⟩|h
    ·exact no h1 rfl
    obtain⟨fn,a,b,hx,h1⟩:=AZ h;obtain⟨n,rfl,h2⟩:=rQ h1;rw[oY,kx,kx]at h2;simp only[bf.run,hx];rw[fY];exact aar hc h2 fun v s' hv=>ex hv
 case qG f args =>
  replace h:(cA f t fun g=>xO g fun fn a b=>nY fn fun n=>bK (fA a) (bK (fA b) (nW args t fun az=>@List.rec AV (fun _=>Bool) false (fun x r _=>U2 c n x r s K) az)))=true:=h
  rw[cy]at h;obtain⟨fn,a,b,hx,h1⟩:=AZ h;obtain⟨n,rfl,h2⟩:=rQ h1;rw[aL,aL,kC,kC,oY]at h2;obtain⟨rfl,rfl,h3⟩:=h2;simp only[bf.run,hx];generalize args.map (AX.ev (t.get .undef))=az at h3 |-;cases az with
  | nil=>exact no h3 rfl
  | cons x r=>exact aas hc h3
 case len q x =>
  replace h:(cA x t fun a=>iK q (jc a fun b=>dY b 0 fun n=>K (.int .i64 (Int.ofNat n)) s) (ae8 a fun n=>K (.int .i64 (Int.ofNat n)) s))=true:=h
  rw[cy,fD]at h;simp only[bf.run];generalize x.ev (t.get .undef)=v at h |-;cases q with
  | true =>
    rw[aB rfl]at h;obtain⟨b,rfl,h1⟩:=jB h;rw[j0]at h1;exact ex h1
  | false =>
    rw[aq aT]at h;cases v<;>first|exact no h rfl|skip
    case aP=>exact ex h
    case aH f el xs=>replace h:(dY xs 0 fun n=>K (.int .i64 (Int.ofNat n)) s)=true:=h;rw[j0]at h;exact ex h
    case own el l m lo n=>exact ex h
 case app T el x y =>
  replace h:(cA x t fun a=>cA y t fun b=>lA s T el a b K)=true:=h
  rw[cy,cy]at h;exact SQ h fun v s' hv=>ex hv
 case z6 el x =>
  replace h:(cA x t fun a=>ae9 a s el fun v=>K v s)=true:=h
  rw[cy]at h;simp only[bf.run];generalize x.ev (t.get .undef)=v at h |-;cases v<;>first|exact no h rfl|skip
  case aP=>exact ex h
  case own aS l m lo n =>
   obtain⟨h1,h2⟩:=aL.1 (show bK (eF aS el) (kR el l m s fun _ _=>bK (Nat.ble 1 n) (K (.dw el l m lo 0) s))=true from h);obtain⟨T,t',ho,h3⟩:=kT h2;rw[aL,d_,au]at h3;simp only[ho];exact⟨dZ.1 h1,trivial,by rw[bZ],h3.1,ex h3.2⟩
 case min x xs =>
  replace h:(cA x t fun a=>nW xs t fun ys=>FW true a ys fun v=>K v s)=true:=h
  rw[cy,oY]at h;exact H6 (K':=fun v=>Ex K v s.abs) (fun v hv=>ex hv) _ _ h
 case max x xs =>
  replace h:(cA x t fun a=>nW xs t fun ys=>FW false a ys fun v=>K v s)=true:=h
  rw[cy,oY]at h;exact H6 (K':=fun v=>Ex K v s.abs) (fun v hv=>ex hv) _ _ h
 case l7 el zero n cc =>
  replace h:(cA n t fun a=>ek a fun k z=>bK (jl k .i64) (jW z fun i=>cA cc t fun b=>ek b fun k' z'=>bK (jl k' .i64) (jW z' fun j=>bK (Nat.ble i j) (bK (mW j el) (bK (kF zero el) (Cb zero i fun xs=>jD .undef xs 0 .nil fun _ t'=>s.jG (.vec none el i t') fun l s'=>K (.own el l i 0 i) s'))))))=true:=h
  rw[cy]at h;obtain⟨k,z,hx,h1⟩:=eY h;obtain⟨e1,h2⟩:=aL.1 h1;obtain⟨e2,h3⟩:=jP h2;rw[cy]at h3;obtain⟨k',z',hy,h4⟩:=eY h3;obtain⟨e3,h5⟩:=aL.1 h4;obtain⟨e4,h6⟩:=jP h5;rw[aL,aL,aL,d_,au,nq,F0]at h6;obtain⟨e5,e6,e7,h7⟩:=h6;rw[ik]at e1 e3;subst e1;subst e3;obtain⟨t',h8,h9⟩:=l9 _ h7;obtain⟨s',h10,h11⟩:=St.kz h8;have hr:=pZ e6;simp only[bf.run,hx,hy];simp only[OB.abs]at h10;rw[cz]at h9;rw[h9]at h10;refine⟨e7,e2,ae,?_,s',h10.symm,h11⟩;have hr:z'.toNat*(el.sz+1)<=2^40:=hr;obtain⟨m,rfl⟩:=cn e4;simp only[fB]at hr
  exact_mod_cast hr
 case nw el =>
  obtain⟨s',h3,h4⟩:=St.kz (show(s.jG (.vec none el 0 .nil) fun l s'=>K (.own el l 0 0 0) s')=true from h);exact⟨s',by rw[h3];rfl,h4⟩
 case jO k T cs =>
  obtain⟨n,h1,h2,h3⟩:=H7 (show(Ce k t s fun n=>jD .undef cs 0 .nil fun m t'=>s.di n (.cells T m t') fun s'=>K (.ref n 0) s')=true from h);obtain⟨t',h4,h5⟩:=l9 _ h3;obtain⟨s',h6,h7⟩:=St.fx h4;simp only[bf.run,h1,h2];exact⟨s',by rw[h6];simp only[OB.abs,h5],h7⟩
 case oa q el zero n cc =>
  obtain⟨l,q1,q2,h⟩:=H7 (show(Ce q t s fun l=>cA n t fun a=>ek a fun k z=>bK (jl k .i64) (jW z fun i=>cA cc t fun b=>ek b fun k' z'=>bK (jl k' .i64) (jW z' fun j=>bK (Nat.ble 1 i) (bK (Nat.ble i j) (bK (mW j el) (bK (kF zero el) (Cb zero i fun xs=>jD .undef xs 0 .nil fun _ t'=>s.di l (.vec none el i t') fun s'=>K (.own el l i 0 i) s')))))))=true from h);rw[cy]at h;obtain⟨k,z,hx,h1⟩:=eY h;obtain⟨e1,h2⟩:=aL.1 h1;obtain⟨e2,h3⟩:=jP h2;rw[cy]at h3;obtain⟨k',z',hy,h4⟩:=eY h3;obtain⟨e3,h5⟩:=aL.1 h4;obtain⟨e4,h6⟩:=jP h5;rw[aL,aL,aL,aL,d_,d_,au,au,nq,F0]at h6;obtain⟨e0,e5,e6,e7,h7⟩:=h6;rw[ik]at e1 e3;subst e1;subst e3;obtain⟨t',h8,h9⟩:=l9 _ h7;obtain⟨s',h10,h11⟩:=St.fx h8;have hr:=pZ e6;simp only[bf.run,q1,q2,hx,hy];refine⟨e7,ae,ae,?_,s',?_,h11⟩
  ·have hr:z'.toNat*(el.sz+1)<=2^40:=hr;obtain⟨m,rfl⟩:=cn e4;simp only[fB]at hr
   exact_mod_cast hr
  rw[cz]at h9;rw[h10];simp only[OB.abs,h9]
 case n_ k T el x y =>
  obtain⟨n,h1,h2,h3⟩:=H7 (show(Ce k t s fun n=>cA x t fun a=>cA y t fun b=>aa8 a el (U5 b el fun ys=>bK (iq (fun a=>kF a el) ys) (jD .undef ys 0 .nil fun m t'=>bK (mW m el) (s.di n (.vec T el m t') fun s'=>K (.own el n m 0 m) s'))))=true from h);rw[cy,cy]at h3
  have e1:Il el (x.ev (t.get .undef))=true/\(U5 (y.ev (t.get .undef)) el fun ys=>bK (iq (fun a=>kF a el) ys) (jD .undef ys 0 .nil fun m t'=>bK (mW m el) (s.di n (.vec T el m t') fun s'=>K (.own el n m 0 m) s')))=true:=by
   generalize x.ev (t.get .undef)=v at h3 |-;cases v<;>first|exact no h3 rfl|skip
   case aP=>exact⟨rfl,h3⟩
   case aH f aS xs =>
    obtain⟨a1,b1⟩:=aL.1 (show bK f (bK (eF aS el) (bK (fA xs) _))=true from h3);obtain⟨a2,b2⟩:=aL.1 b1;obtain⟨a3,b3⟩:=aL.1 b2;rw[dZ]at a2;rw[kC]at a3;subst a1;subst a2;subst a3;exact⟨by simp[Il],b3⟩
  have e2:∃ ys,Im el (y.ev (t.get .undef))=some ys/\bK (iq (fun a=>kF a el) ys) (jD .undef ys 0 .nil fun m t'=>bK (mW m el) (s.di n (.vec T el m t') fun s'=>K (.own el n m 0 m) s'))=true:=by
   have h4:=e1.2;generalize y.ev (t.get .undef)=v at h4 |-;cases v<;>first|exact no h4 rfl|skip
   case aP=>exact⟨[],rfl,h4⟩
   case aH f aS xs =>
    obtain⟨a1,b1⟩:=aL.1 (show bK (eF aS el) _=true from h4);rw[dZ]at a1;subst a1;exact⟨xs,by simp[Im],b1⟩
  obtain⟨ys,e3,e4⟩:=e2;rw[aL,qx]at e4;obtain⟨t',h5,h6⟩:=l9 _ e4.2;rw[aL]at h5;obtain⟨s',h7,h8⟩:=St.fx h5.2;simp only[bf.run,h1,h2,e3];refine⟨e1.1,by rw[<-e4.1];congr 1;funext a;exact(nq a el).symm,pZ h5.1,s',?_,h8⟩;rw[h7];simp only[OB.abs,h6]
 case p_ neg k x y =>
  replace h:(cA x t fun a=>cA y t fun b=>Qa k a b fun r=>tB (P9 neg r) fun v=>K v s)=true:=h
  rw[cy,cy]at h;obtain⟨r,h1,h2⟩:=XY h;rw[sQ,SX]at h2;simp only[bf.run,h1];exact ex h2
 all_goals exact absurd rfl hcl
def afv{o:bf}{H:Prop}{c:Ctx}(hc:jm H c){t:Tr AV}{s:St}{K Kp:KT}(h:bf.K o c t s K Kp=true): ∃ out s',oZ K Kp out s'=true/\(H->o.run c.P (t.get .undef) s.abs (fun v σ'=>out = .ret v/\σ'=s'.abs) (fun v σ'=>out = .panic v/\σ'=s'.abs)):=by
 have plain:(∃ out s',oZ K Kp out s'=true/\o.run c.P (t.get .undef) s.abs (fun v σ'=>out = .ret v/\σ'=s'.abs) (fun v σ'=>out = .panic v/\σ'=s'.abs))-> ∃ out s',oZ K Kp out s'=true/\(H->o.run c.P (t.get .undef) s.abs (fun v σ'=>out = .ret v/\σ'=s'.abs) (fun v σ'=>out = .panic v/\σ'=s'.abs)):=fun⟨o,s',h1,h2⟩=>⟨o,s',h1,fun _=>h2⟩;by_cases hex:∃ o' xs,o = .ex o' xs
 ·obtain⟨o',xs,rfl⟩:=hex
  replace h:(nW xs t fun vs=>ef.K o' c vs s K Kp)=true:=h
  rw[oY]at h;exact plain (acT hc h)
 by_cases hcl:o.cls = .no
 ·cases o<;>first|(exact absurd ⟨_,_,rfl⟩ hex)|(simp[bf.cls]at hcl;done)|skip
  case kG mt el z n ps=>cases mt<;>(simp[bf.cls]at hcl)
  case call q f args =>
   cases q with
   | true=>exact absurd hcl (by simp[bf.cls])
   | false =>
     replace h:(cA f t fun g=>NS g (fun l=>iK false false (nW args t fun az=>Qb c.s9 l fun y=>y az s (oZ K Kp)))<| xO g fun fn a b=>nY fn fun n=>nW args t fun az=>iM az b fun zs=>iM a zs fun ys=>c.call n ys s (oZ K Kp))=true:=h
     rw[cy]at h;rcases Qm h with⟨l,hx,h1⟩|h
     ·replace h1:(nW args t fun az=>Qb c.s9 l fun y=>y az s (oZ K Kp))=true:=h1
      rw[oY]at h1;obtain⟨y,hy,h2⟩:=SP h1;obtain⟨out,s',h3,h4⟩:=hc.yield _ hy _ _ _ h2;refine⟨out,s',h3,fun hH=>?_⟩;simp only[bf.run,hx];rw[aq aT];refine(h4 hH).mono ?_;rintro o' σ' ⟨rfl,rfl⟩;cases o'<;>exact⟨rfl,rfl⟩
     obtain⟨fn,a,b,hx,h1⟩:=AZ h;obtain⟨n,rfl,h2⟩:=rQ h1;rw[oY,kx,kx]at h2;obtain⟨out,s',h3,h4⟩:=hc.call _ _ _ _ h2;refine⟨out,s',h3,fun hH=>?_⟩;simp only[bf.run,hx];rw[aq aT,fY];refine(h4 hH).mono ?_;rintro o' σ' ⟨rfl,rfl⟩;cases o'<;>exact⟨rfl,rfl⟩
  all_goals refine plain ?_
  case vi T x n =>
   replace h:(cA x t fun a=>cA n t fun b=>ek b fun k z=>bK (jl .i64 k) (aa7 a T z s K))=true:=h
   rw[cy,cy]at h;obtain⟨k,z,hn,h1⟩:=eY h;rw[aL,ik]at h1;obtain⟨rfl,h1⟩:=h1;generalize hx:x.ev (t.get .undef)=v at h1;cases v<;>first|exact no h1 rfl|skip
   case ew =>
    obtain⟨h2,h3⟩:=aL.1 (show bK (vQ z (Int.ofNat 0)) (K (.str []) s)=true from h1);rw[uY,beq_iff_eq]at h2;refine⟨.ret (.str []),s,h3,?_⟩;simp only[bf.run,hx,hn];exact⟨h2,trivial,trivial⟩
   case dw el l m lo off =>
    replace h1:U3 T z s K el l m lo off=true:=h1
    unfold U3 at h1;rw[aL,aL,aL,gg,gg,dZ]at h1;obtain⟨rfl,rfl,rfl,h2⟩:=h1;obtain⟨o,ho,h3⟩:=St.gD h2;obtain⟨T',aS,k,tr,rfl,h4⟩:=HX h3;rw[aL,aL,aL,dZ,gg]at h4;obtain⟨hT,rfl,rfl,h5⟩:=h4;obtain⟨hz,h6⟩:=jP h5;rw[aL,aL,aL,d_,d_,d_,au,au,au,lH]at h6;obtain⟨q1,q2,q3,h7⟩:=h6;obtain⟨b,e1,h8⟩:=Fc _ _ h7;obtain⟨s',e2,h9⟩:=St.fx h8;refine⟨.ret (.str b),s',h9,?_⟩;simp only[bf.run,hx,hn,ho,OB.abs]
    have hT:T'=some T:=by
     cases T' with
     | none=>exact no hT rfl
     | some a=>rw[gg.1 (show Nat.beq a T=true from hT)]
    refine⟨trivial,trivial,rfl,hT,by rw[bZ],ae,by rw[bZ];omega,by rw[bZ];omega,b,?_,rfl,by rw[e2];rfl⟩;rw[<-e1];have:=tZ (d:=AV.undef) (lo:=0) (k:=z.toNat) (n:=m) (t:=tr) ae;rw[List.drop_zero]at this;exact this
  case Gp x =>
   replace h:(cA x t fun a=>nF a fun l off=>s.dI l fun o=>onCells o fun _ n _=>bK (Nat.ble (Nat.succ off) n) (K (.ref l off) s))=true:=h
   rw[cy]at h;obtain⟨l,off,hx,h1⟩:=oD h;obtain⟨o,ho,h2⟩:=St.gD h1;obtain⟨T,n,t',rfl,h3⟩:=k_ h2;rw[aL,d_,au]at h3;refine⟨.ret (.ref l off),s,h3.2,?_⟩;simp only[bf.run,hx,ho,OB.abs];exact⟨by rw[bZ];exact h3.1,trivial,trivial⟩
  case Gq u x =>
   replace h:(cA x t fun a=>ae_ a s c.P u fun v=>K v s)=true:=h
   rw[cy]at h;generalize hx:x.ev (t.get .undef)=v at h;cases v<;>first|exact no h rfl|skip
   case ref l off =>
    obtain⟨o,ho,h2⟩:=St.gD (show(s.dI l fun o=>onCells o fun T n _=>@Option.rec TypeId (fun _=>Bool) false (fun T=>bK (liesAt c.P c.P.depth T (n / c.P.cellsOf T) off u 1) (K (.ref l off) s)) T)=true from h);obtain⟨T,n,t',rfl,h3⟩:=k_ h2;cases T with
    | none=>exact no h3 rfl
    | some T =>
      replace h3:bK (liesAt c.P c.P.depth T (n / c.P.cellsOf T) off u 1) (K (.ref l off) s)=true:=h3
      rw[aL]at h3;refine⟨.ret (.ref l off),s,h3.2,?_⟩;simp only[bf.run,hx,ho,OB.abs,bZ];exact⟨h3.1,trivial,trivial⟩
  case Dl neg x y =>
   replace h:(cA x t fun a=>cA y t fun b=>nF a fun l o=>nF b fun l' o'=>bK (Nat.beq l l') (bK (Nat.beq o o') (s.dI l fun ob=>onCells ob fun _ _ _=>tB (eE neg) fun v=>K v s)))=true:=h
   rw[cy,cy]at h;obtain⟨l,o,hx,h1⟩:=oD h;obtain⟨l',o',hy,h2⟩:=oD h1;rw[aL,aL,gg,gg]at h2;obtain⟨e1,e2,h3⟩:=h2;obtain⟨ob,ho,h4⟩:=St.gD h3;obtain⟨T,n,t',rfl,h5⟩:=k_ h4;rw[sQ,kS]at h5;refine⟨.ret (.bool neg.not),s,h5,?_⟩;simp only[bf.run,hx,hy,ho,OB.abs];exact⟨e1,e2,trivial,trivial⟩
  case Bd f x =>
   replace h:bK (c.ne f) (cA x t fun v=>K v s)=true:=h
   rw[aL,cy]at h;exact⟨.ret _,s,h.2,hc.ne _ h.1,rfl,rfl⟩
  case panic x =>
   replace h:(cA x t fun a=>JR a fun T v=>Kp (.iS T v) s)=true:=h
   rw[cy]at h;obtain⟨T,v,hx,h1⟩:=Qo h;refine⟨.panic (.iS T v),s,h1,?_⟩;simp only[bf.run,hx];exact⟨trivial,trivial⟩
  case hold =>
   obtain⟨s',h1,h2⟩:=St.kz (show(s.jG .resv fun l s'=>K (.ref l 0) s')=true from h);exact⟨.ret (.ref s.abs.length 0),s',h2,rfl,h1.symm⟩
  case Dm x =>
   replace h:(cA x t fun a=>jc a fun b=>s.jG (.fZ b 0) fun l s'=>K (.ref l 0) s')=true:=h
   rw[cy]at h;obtain⟨b,hx,h1⟩:=jB h;obtain⟨s',h2,h3⟩:=St.kz h1;refine⟨.ret (.ref s.abs.length 0),s',h3,?_⟩;simp only[bf.run,hx];exact⟨trivial,h2.symm⟩
  case Dn x =>
   replace h:(cA x t fun a=>nF a fun l z=>bK (Nat.beq z 0) (s.dI l fun o=>P6 o fun b p=>iK (dY b 0 (Nat.ble (Nat.succ p)))
    (fI (Utf8.decode ⟨b.toArray⟩ p).1 fun r=>fN (Nat.add p (Utf8.decode ⟨b.toArray⟩ p).2) fun q=>s.di l (.fZ b q) fun s'=>K (.bg [.bool true,.int .i64 (Int.ofNat p),.int .i32 r]) s')
    (K (.bg [.bool false]) s)))=true:=h
   rw[cy]at h;obtain⟨l,z,hx,h1⟩:=oD h;rw[aL,gg]at h1;obtain⟨rfl,h2⟩:=h1;obtain⟨ob,ho,h3⟩:=St.gD h2;obtain⟨b,p,rfl,h4⟩:=XV h3;rw[j0,d_,fD]at h4;by_cases hp:p<b.length
   ·rw[aB (fT (show p.succ<=b.length from hp)),wI,ig]at h4;obtain⟨s',h5,h6⟩:=St.fx h4;refine⟨.ret _,s',h6,?_⟩;simp only[bf.run,hx,ho,OB.abs,aB hp];exact⟨rfl,h5.symm⟩
   rw[aq (fun h=>hp (show p.succ<=b.length from of_decide_eq_true h))]at h4;refine⟨.ret _,s,h4,?_⟩;simp only[bf.run,hx,ho,OB.abs,aq hp];exact⟨trivial,trivial⟩
 obtain⟨v,σ',hD,s',rfl,hk⟩:=(wK hcl).1 (acU hc hcl h);exact plain ⟨.ret v,s',hk,(wK hcl).2 ⟨v,s'.abs,hD,rfl,rfl⟩⟩
