/- Part. -/
import Derived.Test.YtdohdkdejmhgnaaGreatDoorY11
set_option linter.all false
namespace Go.AM.B
noncomputable def bK (b x:Bool):Bool:=@Bool.rec (fun _=>Bool) false x b
noncomputable def iK (b x y:Bool):Bool:=@Bool.rec (fun _=>Bool) y x b
noncomputable def fN (n:Nat):(Nat->Bool)->Bool:=@Nat.rec (fun _=>(Nat->Bool)->Bool) (fun K=>K 0) (fun m _ K=>K (Nat.succ m)) n
noncomputable def fI (z:Int):(Int->Bool)->Bool:=@Int.rec (fun _=>(Int->Bool)->Bool) (fun n K=>fN n fun n=>K (Int.ofNat n)) (fun n K=>fN n fun n=>K (Int.negSucc n)) z
noncomputable def vQ (x:Int):Int->Bool:=@Int.rec (fun _=>Int->Bool)
 (fun a y=>@Int.rec (fun _=>Nat->Bool) (fun b a=>Nat.beq a b) (fun _ _=>false) y a)
 (fun a y=>@Int.rec (fun _=>Nat->Bool) (fun _ _=>false) (fun b a=>Nat.beq a b) y a) x
noncomputable def AO (x:Int):Int->Bool:=@Int.rec (fun _=>Int->Bool)
 (fun a y=>@Int.rec (fun _=>Nat->Bool) (fun b a=>Nat.ble (Nat.succ a) b) (fun _ _=>false) y a)
 (fun a y=>@Int.rec (fun _=>Nat->Bool) (fun _ _=>true) (fun b a=>Nat.ble (Nat.succ b) a) y a) x
noncomputable def eE (b:Bool):Bool:=@Bool.rec (fun _=>Bool) true false b
noncomputable def vC (a b:Bool):Bool:=@Bool.rec (fun _=>Bool->Bool) (fun b=>eE b) (fun b=>b) a b
inductive Tr (α : Type) where
 | nil
 | node (v : α) (l r:Tr α)
section
variable {α : Type}
noncomputable def Tr.dI (d : α):Tr α->Nat->(α->Bool)->Bool :=
 @Tr.rec α (fun _=>Nat->(α->Bool)->Bool) (fun _ K=>K d)
  (fun v _ _ il ir n K=>@Nat.rec (fun _=>Bool) (K v) (fun m _=>iK (Nat.beq (Nat.mod m 2) 0) (il (Nat.div m 2) K) (ir (Nat.div m 2) K)) n)
noncomputable def Tr.Z8 (u : α) (l r:Tr α) (ih:Tr α->Nat-> α->(Tr α->Bool)->Bool) (n:Nat) (v : α) (K:Tr α->Bool):Bool :=
 @Nat.rec (fun _=>Bool) (K (.node v l r)) (fun m _=>iK (Nat.beq (Nat.mod m 2) 0) (ih l (Nat.div m 2) v (fun l'=>K (.node u l' r))) (ih r (Nat.div m 2) v (fun r'=>K (.node u l r')))) n
noncomputable def Tr.di (d : α):Nat->Tr α->Nat-> α->(Tr α->Bool)->Bool :=
 @Nat.rec (fun _=>Tr α->Nat-> α->(Tr α->Bool)->Bool) (fun _ _ _ _=>false)
  (fun _ ih t=>@Tr.rec α (fun _=>Nat-> α->(Tr α->Bool)->Bool) (Tr.Z8 d .nil .nil ih) (fun u l r _ _=>Tr.Z8 u l r ih) t)
noncomputable def sH (d : α):List α->Nat->(α->Bool)->Bool :=
 @List.rec α (fun _=>Nat->(α->Bool)->Bool) (fun _ K=>K d) (fun a _ ih n K=>@Nat.rec (fun _=>Bool) (K a) (fun m _=>ih m K) n)
noncomputable def Ca:List α->Nat->(List α->Bool)->Bool :=
 @List.rec α (fun _=>Nat->(List α->Bool)->Bool) (fun _ K=>K []) (fun a l ih n K=>@Nat.rec (fun _=>Bool) (K (a::l)) (fun m _=>ih m K) n)
noncomputable def uy:List α->Nat->(List α->Bool)->Bool :=
 @List.rec α (fun _=>Nat->(List α->Bool)->Bool) (fun _ K=>K []) (fun a _ ih n K=>@Nat.rec (fun _=>Bool) (K []) (fun m _=>ih m (fun l=>K (a::l))) n)
noncomputable def sI (l:List α) (lo n:Nat) (K:List α->Bool):Bool:=Ca l lo fun m=>uy m n K
noncomputable def dY:List α->Nat->(Nat->Bool)->Bool :=
 @List.rec α (fun _=>Nat->(Nat->Bool)->Bool) (fun n K=>K n) (fun _ _ ih n K=>fN (Nat.succ n) fun m=>ih m K)
noncomputable def iM:List α->List α->(List α->Bool)->Bool :=
 @List.rec α (fun _=>List α->(List α->Bool)->Bool) (fun m K=>K m) (fun a _ ih m K=>ih m (fun l=>K (a::l)))
noncomputable def wG:List α->Nat-> α->(List α->Bool)->Bool :=
 @List.rec α (fun _=>Nat-> α->(List α->Bool)->Bool) (fun _ _ K=>K []) (fun a l ih n v K=>@Nat.rec (fun _=>Bool) (K (v::l)) (fun m _=>ih m v (fun l'=>K (a::l'))) n)
noncomputable def tW (zs:List α):Nat->List α->(List α->Bool)->Bool:=fun off cs K =>
 @List.rec α (fun _=>Nat->List α->(List α->Bool)->Bool) (fun _ cs K=>K cs) (fun a _ ih n cs K=>wG cs n a (fun cs'=>ih (Nat.succ n) cs' K)) zs off cs K
noncomputable def iq (f : α->Bool):List α->Bool:=@List.rec α (fun _=>Bool) true (fun a _ ih=>bK (f a) ih)
noncomputable def kQ {β : Type} (f : α->(β->Bool)->Bool):List α->(List β->Bool)->Bool :=
 @List.rec α (fun _=>(List β->Bool)->Bool) (fun K=>K []) (fun a _ ih K=>f a fun b=>ih fun l=>K (b::l))
noncomputable def lO (d : α):Nat->Nat->Tr α->(List α->Bool)->Bool :=
 @Nat.rec (fun _=>Nat->Tr α->(List α->Bool)->Bool) (fun _ _ K=>K []) (fun _ ih off t K=>Tr.dI d t off fun v=>fN (Nat.succ off) fun o=>ih o t fun l=>K (v::l))
noncomputable def jD (d : α):List α->Nat->Tr α->(Nat->Tr α->Bool)->Bool :=
 @List.rec α (fun _=>Nat->Tr α->(Nat->Tr α->Bool)->Bool) (fun n t K=>K n t) (fun a _ ih n t K=>Tr.di d 60 t n a fun t'=>fN (Nat.succ n) fun m=>ih m t' K)
end
noncomputable def CP:List UInt8->List UInt8->Bool :=
 @List.rec UInt8 (fun _=>List UInt8->Bool) (@List.rec UInt8 (fun _=>Bool) true (fun _ _ _=>false))
  (fun a _ ih m=>@List.rec UInt8 (fun _=>UInt8->(List UInt8->Bool)->Bool) (fun _ _=>false) (fun b l _ a ih=>bK (Nat.beq a.toNat b.toNat) (ih l)) m a ih)
noncomputable def GY:List UInt8->List UInt8->Bool :=
 @List.rec UInt8 (fun _=>List UInt8->Bool) (@List.rec UInt8 (fun _=>Bool) false (fun _ _ _=>true))
  (fun a _ ih m => @List.rec UInt8 (fun _ => UInt8 -> (List UInt8 -> Bool) -> Bool) (fun _ _ => false)
    (fun b l _ a ih=>iK (Nat.beq a.toNat b.toNat) (ih l) (Nat.ble (Nat.succ a.toNat) b.toNat)) m a ih)
noncomputable def eF (a b:El):Bool:=@El.rec (fun _=>El->Bool) (fun a z y=>@El.rec (fun _=>Bool->Nat->Bool) (fun a' z' a z=>bK (vC a a') (Nat.beq z z')) y a z) a b
inductive LM where
 | MN
 | XG
 | ret
 | ex (i:Nat)
 | gt (i:Nat)
inductive OB where
 | non
 | cells (T:Option TypeId) (n:Nat) (t:Tr AV)
 | vec (T:Option TypeId) (el:El) (n:Nat) (t:Tr AV)
 | fZ (s:List UInt8) (pos:Nat)
 | resv
 | map (es:List (AV × AV))
 | loop (m:LM)
structure St where
 n:Nat
 t:Tr OB
noncomputable def St.dI (s:St) (l:Nat) (K:OB->Bool):Bool:=@St.rec (fun _=>Nat->(OB->Bool)->Bool) (fun n t l K=>bK (Nat.ble (Nat.succ l) n) (Tr.dI .non t l K)) s l K
noncomputable def St.di (s:St) (l:Nat) (o:OB) (K:St->Bool):Bool:=@St.rec (fun _=>Nat->OB->(St->Bool)->Bool) (fun n t l o K=>bK (Nat.ble (Nat.succ l) n) (Tr.di .non 60 t l o fun t'=>K ⟨n,t'⟩)) s l o K
noncomputable def St.jG (s:St) (o:OB) (K:Nat->St->Bool):Bool:=@St.rec (fun _=>OB->(Nat->St->Bool)->Bool) (fun n t o K=>Tr.di .non 60 t n o fun t'=>fN (Nat.succ n) fun m=>K n ⟨m,t'⟩) s o K
noncomputable def onCells (o:OB) (K:Option TypeId->Nat->Tr AV->Bool):Bool:=@OB.rec (fun _=>(Option TypeId->Nat->Tr AV->Bool)->Bool) (fun _=>false) (fun T n t K=>K T n t) (fun _ _ _ _ _=>false) (fun _ _ _=>false) (fun _=>false) (fun _ _=>false) (fun _ _=>false) o K
noncomputable def JN (o:OB) (K:Option TypeId->El->Nat->Tr AV->Bool):Bool:=@OB.rec (fun _=>(Option TypeId->El->Nat->Tr AV->Bool)->Bool) (fun _=>false) (fun _ _ _ _=>false) (fun T el n t K=>K T el n t) (fun _ _ _=>false) (fun _=>false) (fun _ _=>false) (fun _ _=>false) o K
noncomputable def P6 (o:OB) (K:List UInt8->Nat->Bool):Bool:=@OB.rec (fun _=>(List UInt8->Nat->Bool)->Bool) (fun _=>false) (fun _ _ _ _=>false) (fun _ _ _ _ _=>false) (fun s p K=>K s p) (fun _=>false) (fun _ _=>false) (fun _ _=>false) o K
noncomputable def AP (o:OB) (K:Bool):Bool:=@OB.rec (fun _=>Bool->Bool) (fun _=>false) (fun _ _ _ _=>false) (fun _ _ _ _ _=>false) (fun _ _ _=>false) (fun K=>K) (fun _ _=>false) (fun _ _=>false) o K
noncomputable def nE (o:OB) (K:List (AV × AV)->Bool):Bool:=@OB.rec (fun _=>(List (AV × AV)->Bool)->Bool) (fun _=>false) (fun _ _ _ _=>false) (fun _ _ _ _ _=>false) (fun _ _ _=>false) (fun _=>false) (fun es K=>K es) (fun _ _=>false) o K
noncomputable def sJ (o:OB) (K:LM->Bool):Bool:=@OB.rec (fun _=>(LM->Bool)->Bool) (fun _=>false) (fun _ _ _ _=>false) (fun _ _ _ _ _=>false) (fun _ _ _=>false) (fun _=>false) (fun _ _=>false) (fun m K=>K m) o K
noncomputable def JO (m:LM) (x:Bool):Bool:=@LM.rec (fun _=>Bool) x false false (fun _=>false) (fun _=>false) m
noncomputable def UR (m:LM) (x:Bool):Bool:=@LM.rec (fun _=>Bool) false x false (fun _=>false) (fun _=>false) m
noncomputable def ek:AV->(IntKind->Int->Bool)->Bool :=
 @AV.rec (fun _=>(IntKind->Int->Bool)->Bool) (fun _=>PUnit)
  (fun _=>false)
  (fun _ _=>false)
  (fun k n K=>K k n)
  (fun _ _=>false)
  (fun _ _ _=>false)
  (fun _ _ _=>false)
  (fun _=>false)
  (fun _ _ _ _ _=>false)
  (fun _ _ _ _ _ _=>false)
  (fun _ _ _=>false)
  (fun _ _ _ _ _=>false)
  (fun _ _ _ _ _ _=>false)
  (fun _=>false)
  (fun _=>false)
  (fun _=>false)
  (fun _ _ _ _ _ _=>false)
  (fun _ _ _ _=>false)
  (fun _=>false)
  (fun _ _=>false)
  (fun _ _=>false)
  (fun _ _ _ _ _=>false)
  (fun _=>false)
  ⟨⟩ (fun _ _ _ _=>⟨⟩)
noncomputable def nV:AV->(Bool->Bool)->Bool :=
 @AV.rec (fun _=>(Bool->Bool)->Bool) (fun _=>PUnit)
  (fun _=>false)
  (fun b K=>K b)
  (fun _ _ _=>false)
  (fun _ _=>false)
  (fun _ _ _=>false)
  (fun _ _ _=>false)
  (fun _=>false)
  (fun _ _ _ _ _=>false)
  (fun _ _ _ _ _ _=>false)
  (fun _ _ _=>false)
  (fun _ _ _ _ _=>false)
  (fun _ _ _ _ _ _=>false)
  (fun _=>false)
  (fun _=>false)
  (fun _=>false)
  (fun _ _ _ _ _ _=>false)
  (fun _ _ _ _=>false)
  (fun _=>false)
  (fun _ _=>false)
  (fun _ _=>false)
  (fun _ _ _ _ _=>false)
  (fun _=>false)
  ⟨⟩ (fun _ _ _ _=>⟨⟩)
noncomputable def jc:AV->(List UInt8->Bool)->Bool :=
 @AV.rec (fun _=>(List UInt8->Bool)->Bool) (fun _=>PUnit)
  (fun _=>false)
  (fun _ _=>false)
  (fun _ _ _=>false)
  (fun s K=>K s)
  (fun _ _ _=>false)
  (fun _ _ _=>false)
  (fun _=>false)
  (fun _ _ _ _ _=>false)
  (fun _ _ _ _ _ _=>false)
  (fun _ _ _=>false)
  (fun _ _ _ _ _=>false)
  (fun _ _ _ _ _ _=>false)
  (fun _=>false)
  (fun _=>false)
  (fun _=>false)
  (fun _ _ _ _ _ _=>false)
  (fun _ _ _ _=>false)
  (fun _=>false)
  (fun _ _=>false)
  (fun _ _=>false)
  (fun _ _ _ _ _=>false)
  (fun _=>false)
  ⟨⟩ (fun _ _ _ _=>⟨⟩)
noncomputable def sK:AV->(List AV->Bool)->Bool :=
 @AV.rec (fun _=>(List AV->Bool)->Bool) (fun _=>PUnit)
  (fun _=>false)
  (fun _ _=>false)
  (fun _ _ _=>false)
  (fun _ _=>false)
  (fun cs _ K=>K cs)
  (fun _ _ _=>false)
  (fun _=>false)
  (fun _ _ _ _ _=>false)
  (fun _ _ _ _ _ _=>false)
  (fun _ _ _=>false)
  (fun _ _ _ _ _=>false)
  (fun _ _ _ _ _ _=>false)
  (fun _=>false)
  (fun _=>false)
  (fun _=>false)
  (fun _ _ _ _ _ _=>false)
  (fun _ _ _ _=>false)
  (fun _=>false)
  (fun _ _=>false)
  (fun _ _=>false)
  (fun _ _ _ _ _=>false)
  (fun _=>false)
  ⟨⟩ (fun _ _ _ _=>⟨⟩)
noncomputable def JQ:AV->(List AV->Bool)->Bool :=
 @AV.rec (fun _=>(List AV->Bool)->Bool) (fun _=>PUnit)
  (fun _=>false)
  (fun _ _=>false)
  (fun _ _ _=>false)
  (fun _ _=>false)
  (fun _ _ _=>false)
  (fun cs _ K=>K cs)
  (fun _=>false)
  (fun _ _ _ _ _=>false)
  (fun _ _ _ _ _ _=>false)
  (fun _ _ _=>false)
  (fun _ _ _ _ _=>false)
  (fun _ _ _ _ _ _=>false)
  (fun _=>false)
  (fun _=>false)
  (fun _=>false)
  (fun _ _ _ _ _ _=>false)
  (fun _ _ _ _=>false)
  (fun _=>false)
  (fun _ _=>false)
  (fun _ _=>false)
  (fun _ _ _ _ _=>false)
  (fun _=>false)
  ⟨⟩ (fun _ _ _ _=>⟨⟩)
noncomputable def nF:AV->(Nat->Nat->Bool)->Bool :=
 @AV.rec (fun _=>(Nat->Nat->Bool)->Bool) (fun _=>PUnit)
  (fun _=>false)
  (fun _ _=>false)
  (fun _ _ _=>false)
  (fun _ _=>false)
  (fun _ _ _=>false)
  (fun _ _ _=>false)
  (fun _=>false)
  (fun _ _ _ _ _=>false)
  (fun _ _ _ _ _ _=>false)
  (fun l off K=>K l off)
  (fun _ _ _ _ _=>false)
  (fun _ _ _ _ _ _=>false)
  (fun _=>false)
  (fun _=>false)
  (fun _=>false)
  (fun _ _ _ _ _ _=>false)
  (fun _ _ _ _=>false)
  (fun _=>false)
  (fun _ _=>false)
  (fun _ _=>false)
  (fun _ _ _ _ _=>false)
  (fun _=>false)
  ⟨⟩ (fun _ _ _ _=>⟨⟩)
noncomputable def xO:AV->(Fn->List AV->List AV->Bool)->Bool :=
 @AV.rec (fun _=>(Fn->List AV->List AV->Bool)->Bool) (fun _=>PUnit)
  (fun _=>false)
  (fun _ _=>false)
  (fun _ _ _=>false)
  (fun _ _=>false)
  (fun _ _ _=>false)
  (fun _ _ _=>false)
  (fun _=>false)
  (fun _ _ _ _ _=>false)
  (fun _ _ _ _ _ _=>false)
  (fun _ _ _=>false)
  (fun _ _ _ _ _=>false)
  (fun _ _ _ _ _ _=>false)
  (fun _=>false)
  (fun _=>false)
  (fun _=>false)
  (fun f first cap _ _ K=>K f first cap)
  (fun _ _ _ _=>false)
  (fun _=>false)
  (fun _ _=>false)
  (fun _ _=>false)
  (fun _ _ _ _ _=>false)
  (fun _=>false)
  ⟨⟩ (fun _ _ _ _=>⟨⟩)
noncomputable def JR:AV->(TypeId->AV->Bool)->Bool :=
 @AV.rec (fun _=>(TypeId->AV->Bool)->Bool) (fun _=>PUnit)
  (fun _=>false)
  (fun _ _=>false)
  (fun _ _ _=>false)
  (fun _ _=>false)
  (fun _ _ _=>false)
  (fun _ _ _=>false)
  (fun _=>false)
  (fun _ _ _ _ _=>false)
  (fun _ _ _ _ _ _=>false)
  (fun _ _ _=>false)
  (fun _ _ _ _ _=>false)
  (fun _ _ _ _ _ _=>false)
  (fun _=>false)
  (fun _=>false)
  (fun _=>false)
  (fun _ _ _ _ _ _=>false)
  (fun t v _ K=>K t v)
  (fun _=>false)
  (fun _ _=>false)
  (fun _ _=>false)
  (fun _ _ _ _ _=>false)
  (fun _=>false)
  ⟨⟩ (fun _ _ _ _=>⟨⟩)
noncomputable def oO:AV->(List AV->Bool)->Bool :=
 @AV.rec (fun _=>(List AV->Bool)->Bool) (fun _=>PUnit)
  (fun K=>K [.undef])
  (fun b K=>K [.bool b])
  (fun k n K=>K [.int k n])
  (fun s K=>K [.str s])
  (fun cs _ K=>K cs)
  (fun vs _ K=>K [.bg vs])
  (fun K=>K [.aP])
  (fun f el xs _ K=>K [.aH f el xs])
  (fun el l m lo n K=>K [.own el l m lo n])
  (fun l off K=>K [.ref l off])
  (fun el x off _ K=>K [.cN el x off])
  (fun el l m i off K=>K [.dw el l m i off])
  (fun K=>K [.ew])
  (fun K=>K [.ld])
  (fun K=>K [.eG])
  (fun f first cap _ _ K=>K [.fn f first cap])
  (fun t v _ K=>K [.iS t v])
  (fun K=>K [.iU])
  (fun l K=>K [.mp l])
  (fun l K=>K [.lW l])
  (fun el p n _ K=>K [.lX el p n])
  (fun K=>K [.lf])
  ⟨⟩ (fun _ _ _ _=>⟨⟩)
noncomputable def sL:AV->Bool :=
 @AV.rec (fun _=>Bool) (fun _=>PUnit)
  false
  (fun b=>true)
  (fun k n=>true)
  (fun s=>true)
  (fun _ _=>false)
  (fun _ _=>false)
  true
  (fun f el xs _=>true)
  (fun el l m lo n=>true)
  (fun l off=>true)
  (fun el x off _=>true)
  (fun el l m i off=>true)
  true
  true
  true
  (fun f first cap _ _=>true)
  (fun t v _=>true)
  true
  (fun l=>true)
  (fun l=>true)
  (fun el p n _=>true)
  true
  ⟨⟩ (fun _ _ _ _=>⟨⟩)
noncomputable def kF:AV->(El)->Bool :=
 @AV.rec (fun _=>(El)->Bool) (fun _=>PUnit)
  (fun _=>false)
  (fun b e=>@El.rec (fun _=>Bool) (fun a z=>bK (eE a) (Nat.beq z 1)) e)
  (fun k n e=>@El.rec (fun _=>Bool) (fun a z=>bK (eE a) (Nat.beq z 1)) e)
  (fun s e=>@El.rec (fun _=>Bool) (fun a z=>bK (eE a) (Nat.beq z 1)) e)
  (fun cs _ e=>@El.rec (fun _=>List AV->Bool) (fun a z cs=>bK a (bK (dY cs 0 (Nat.beq z)) (iq sL cs))) e cs)
  (fun _ _ _=>false)
  (fun e=>@El.rec (fun _=>Bool) (fun a z=>bK (eE a) (Nat.beq z 1)) e)
  (fun f el xs _ e=>@El.rec (fun _=>Bool) (fun a z=>bK (eE a) (Nat.beq z 1)) e)
  (fun el l m lo n e=>@El.rec (fun _=>Bool) (fun a z=>bK (eE a) (Nat.beq z 1)) e)
  (fun l off e=>@El.rec (fun _=>Bool) (fun a z=>bK (eE a) (Nat.beq z 1)) e)
  (fun el x off _ e=>@El.rec (fun _=>Bool) (fun a z=>bK (eE a) (Nat.beq z 1)) e)
  (fun el l m i off e=>@El.rec (fun _=>Bool) (fun a z=>bK (eE a) (Nat.beq z 1)) e)
  (fun e=>@El.rec (fun _=>Bool) (fun a z=>bK (eE a) (Nat.beq z 1)) e)
  (fun e=>@El.rec (fun _=>Bool) (fun a z=>bK (eE a) (Nat.beq z 1)) e)
  (fun e=>@El.rec (fun _=>Bool) (fun a z=>bK (eE a) (Nat.beq z 1)) e)
  (fun f first cap _ _ e=>@El.rec (fun _=>Bool) (fun a z=>bK (eE a) (Nat.beq z 1)) e)
  (fun t v _ e=>@El.rec (fun _=>Bool) (fun a z=>bK (eE a) (Nat.beq z 1)) e)
  (fun e=>@El.rec (fun _=>Bool) (fun a z=>bK (eE a) (Nat.beq z 1)) e)
  (fun l e=>@El.rec (fun _=>Bool) (fun a z=>bK (eE a) (Nat.beq z 1)) e)
  (fun l e=>@El.rec (fun _=>Bool) (fun a z=>bK (eE a) (Nat.beq z 1)) e)
  (fun el p n _ e=>@El.rec (fun _=>Bool) (fun a z=>bK (eE a) (Nat.beq z 1)) e)
  (fun e=>@El.rec (fun _=>Bool) (fun a z=>bK (eE a) (Nat.beq z 1)) e)
  ⟨⟩ (fun _ _ _ _=>⟨⟩)
noncomputable def cA (x:AX) (t:Tr AV) (K:AV->Bool):Bool:=@AX.rec (fun _=>Tr AV->(AV->Bool)->Bool) (fun n t K=>Tr.dI .undef t n K) (fun a _ K=>K a) x t K
noncomputable def nW:List AX->Tr AV->(List AV->Bool)->Bool:=@List.rec AX (fun _=>Tr AV->(List AV->Bool)->Bool) (fun _ K=>K []) (fun a _ ih t K=>cA a t fun v=>ih t fun l=>K (v::l))
noncomputable def US (el:El) (x:AV) (off:Nat) (ag:Bool) (n:Nat) (K:AV->Bool):Bool :=
 @El.rec (fun _=>AV->Nat->Bool->Nat->(AV->Bool)->Bool) (fun a z x off ag n K =>
  iK (bK (Nat.beq off 0) (bK (Nat.beq n z) (vC ag a))) (K x)
   (bK (Nat.ble (Nat.add off n) z) (sK x fun cs=>iK ag (sI cs off n fun ds=>K (.agg ds)) (bK (Nat.beq n 1) (sH .undef cs off K))))) el x off ag n K
noncomputable def aa5 (l off:Nat) (s:St) (ag:Bool) (n:Nat) (K:AV->Bool):Bool :=
 s.dI l fun o=>onCells o fun _ m t=>bK (Nat.ble (Nat.add off n) m) (iK ag (lO .undef n off t fun ds=>K (.agg ds)) (bK (Nat.beq n 1) (Tr.dI .undef t off K)))
noncomputable def kR (el:El) (l m:Nat) (s:St) (K:Option TypeId->Tr AV->Bool):Bool :=
 s.dI l fun o=>JN o fun T aS k t=>bK (eF aS el) (bK (Nat.beq m k) (K T t))
noncomputable def aa6 (el:El) (l m i off:Nat) (s:St) (ag:Bool) (n:Nat) (K:AV->Bool):Bool :=
 kR el l m s fun _ t=>bK (Nat.ble (Nat.succ i) m) (Tr.dI .undef t i fun x=>US el x off ag n K)
noncomputable def pC:AV->(St)->(Bool)->(Nat)->(AV->Bool)->Bool :=
 @AV.rec (fun _=>(St)->(Bool)->(Nat)->(AV->Bool)->Bool) (fun _=>PUnit)
  (fun _ _ _ _=>false)
  (fun _ _ _ _ _=>false)
  (fun _ _ _ _ _ _=>false)
  (fun _ _ _ _ _=>false)
  (fun _ _ _ _ _ _=>false)
  (fun _ _ _ _ _ _=>false)
  (fun _ _ _ _=>false)
  (fun _ _ _ _ _ _ _ _=>false)
  (fun _ _ _ _ _ _ _ _ _=>false)
  (fun l off s ag n K=>aa5 l off s ag n K)
  (fun el x off _ s ag n K=>US el x off ag n K)
  (fun el l m i off s ag n K=>aa6 el l m i off s ag n K)
  (fun _ _ _ _=>false)
  (fun _ _ _ _=>false)
  (fun _ _ _ _=>false)
  (fun _ _ _ _ _ _ _ _ _=>false)
  (fun _ _ _ _ _ _ _=>false)
  (fun _ _ _ _=>false)
  (fun _ _ _ _ _=>false)
  (fun _ _ _ _ _=>false)
  (fun _ _ _ _ _ _ _ _=>false)
  (fun _ _ _ _=>false)
  ⟨⟩ (fun _ _ _ _=>⟨⟩)
noncomputable def XH (l off:Nat) (s:St) (cs:List AV) (n:Nat) (K:St->Bool):Bool :=
 s.dI l fun o=>onCells o fun T m t=>bK (Nat.ble (Nat.add off n) m) (jD .undef cs off t fun _ t'=>s.di l (.cells T m t') K)
noncomputable def XI (el:El) (l m i off:Nat) (s:St) (v:AV) (cs:List AV) (n:Nat) (K:St->Bool):Bool :=
 kR el l m s fun T t=>bK (Nat.ble (Nat.succ i) m) (@El.rec (fun _=>Bool) (fun a z=>bK (Nat.ble (Nat.add off n) z)
  (iK a (Tr.dI .undef t i fun x => oO x fun ds => tW cs off ds fun es => Tr.di .undef 60 t i (.agg es) fun t' => s.di l (.vec T el m t') K)
    (bK (kF v el) (Tr.di .undef 60 t i v fun t'=>s.di l (.vec T el m t') K)))) el)
noncomputable def XJ:AV->(St)->(AV)->(List AV)->(Nat)->(St->Bool)->Bool :=
 @AV.rec (fun _=>(St)->(AV)->(List AV)->(Nat)->(St->Bool)->Bool) (fun _=>PUnit)
  (fun _ _ _ _ _=>false)
  (fun _ _ _ _ _ _=>false)
  (fun _ _ _ _ _ _ _=>false)
  (fun _ _ _ _ _ _=>false)
  (fun _ _ _ _ _ _ _=>false)
  (fun _ _ _ _ _ _ _=>false)
  (fun _ _ _ _ _=>false)
  (fun _ _ _ _ _ _ _ _ _=>false)
  (fun _ _ _ _ _ _ _ _ _ _=>false)
  (fun l off s v cs n K=>XH l off s cs n K)
  (fun _ _ _ _ _ _ _ _ _=>false)
  (fun el l m i off s v cs n K=>XI el l m i off s v cs n K)
  (fun _ _ _ _ _=>false)
  (fun _ _ _ _ _=>false)
  (fun _ _ _ _ _=>false)
  (fun _ _ _ _ _ _ _ _ _ _=>false)
  (fun _ _ _ _ _ _ _ _=>false)
  (fun _ _ _ _ _=>false)
  (fun _ _ _ _ _ _=>false)
  (fun _ _ _ _ _ _=>false)
  (fun _ _ _ _ _ _ _ _ _=>false)
  (fun _ _ _ _ _=>false)
  ⟨⟩ (fun _ _ _ _=>⟨⟩)
noncomputable def EU (s:St) (n:Nat) (p v:AV) (K:St->Bool):Bool:=oO v fun cs=>bK (dY cs 0 (Nat.beq n)) (bK (iq sL cs) (XJ p s v cs n K))
noncomputable def EW:List UInt8->(List AV->Bool)->Bool:=kQ fun b K=>fN b.toNat fun n=>K (.int .u8 (Int.ofNat n))
noncomputable def alC (el aS:El) (l m lo n:Nat) (s:St) (K:List AV->Bool):Bool:=bK (eF aS el) (kR el l m s fun _ t=>bK (Nat.ble (Nat.add lo n) m) (lO .undef n lo t K))
def rL: El:=⟨false,1⟩
noncomputable def wH:AV->(St)->(El)->(List AV->Bool)->Bool :=
 @AV.rec (fun _=>(St)->(El)->(List AV->Bool)->Bool) (fun _=>PUnit)
  (fun _ _ _=>false)
  (fun _ _ _ _=>false)
  (fun _ _ _ _ _=>false)
  (fun b s el K=>bK (eF el rL) (EW b K))
  (fun _ _ _ _ _=>false)
  (fun _ _ _ _ _=>false)
  (fun s el K=>K [])
  (fun f aS xs _ s el K=>bK (eF aS el) (K xs))
  (fun aS l m lo n s el K=>alC el aS l m lo n s K)
  (fun _ _ _ _ _=>false)
  (fun _ _ _ _ _ _ _=>false)
  (fun _ _ _ _ _ _ _ _=>false)
  (fun _ _ _=>false)
  (fun _ _ _=>false)
  (fun _ _ _=>false)
  (fun _ _ _ _ _ _ _ _=>false)
  (fun _ _ _ _ _ _=>false)
  (fun _ _ _=>false)
  (fun _ _ _ _=>false)
  (fun _ _ _ _=>false)
  (fun aS p n _ s el K=>bK (eF aS el) (bK (eF el rL) (pC p s true n fun v=>oO v K)))
  (fun _ _ _=>false)
  ⟨⟩ (fun _ _ _ _=>⟨⟩)
noncomputable def UU (a b:Option TypeId):Bool:=@Option.rec TypeId (fun _=>Option TypeId->Bool) (fun _=>true) (fun x b=>@Option.rec TypeId (fun _=>Nat->Bool) (fun _=>false) (fun y x=>Nat.beq x y) b x) a b
noncomputable def mW (n:Nat) (el:El):Bool:=@El.rec (fun _=>Nat->Bool) (fun _ z n=>Nat.ble (Nat.mul n (Nat.succ z)) 1099511627776) el n
noncomputable def EY (T:Option TypeId) (el:El) (ys:List AV) (s:St) (K:AV->St->Bool):Bool :=
 jD .undef ys 0 .nil fun k t=>bK (mW k el) (s.jG (.vec T el k t) fun l s'=>K (.own el l k 0 k) s')
noncomputable def fA {α : Type} (l:List α):Bool:=@List.rec α (fun _=>Bool) true (fun _ _ _=>false) l
noncomputable def aeX (aS:El) (l m lo n:Nat) (T:Option TypeId) (el:El) (ys:List AV) (s:St) (K:AV->St->Bool):Bool :=
 bK (eF aS el) (kR el l m s fun T' t=>bK (UU T' T) (bK (Nat.beq lo 0) (bK (Nat.beq n m) (jD .undef ys m t fun k t'=>bK (mW k el) (s.di l (.vec T' el k t') fun s'=>K (.own el l k 0 k) s')))))
noncomputable def aeY:AV->(Option TypeId)->(El)->(List AV)->(St)->(AV->St->Bool)->Bool :=
 @AV.rec (fun _=>(Option TypeId)->(El)->(List AV)->(St)->(AV->St->Bool)->Bool) (fun _=>PUnit)
  (fun _ _ _ _ _=>false)
  (fun _ _ _ _ _ _=>false)
  (fun _ _ _ _ _ _ _=>false)
  (fun _ _ _ _ _ _=>false)
  (fun _ _ _ _ _ _ _=>false)
  (fun _ _ _ _ _ _ _=>false)
  (fun T el ys s K=>iK (fA ys) (K .aP s) (EY T el ys s K))
  (fun f aS xs _ T el ys s K=>bK f (bK (eF aS el) (iK (fA ys) (K (.aH true el xs) s) (iM xs ys fun zs=>EY T el zs s K))))
  (fun aS l m lo n T el ys s K=>aeX aS l m lo n T el ys s K)
  (fun _ _ _ _ _ _ _=>false)
  (fun _ _ _ _ _ _ _ _ _=>false)
  (fun _ _ _ _ _ _ _ _ _ _=>false)
  (fun _ _ _ _ _=>false)
  (fun _ _ _ _ _=>false)
  (fun _ _ _ _ _=>false)
  (fun _ _ _ _ _ _ _ _ _ _=>false)
  (fun _ _ _ _ _ _ _ _=>false)
  (fun _ _ _ _ _=>false)
  (fun _ _ _ _ _ _=>false)
  (fun _ _ _ _ _ _=>false)
  (fun _ _ _ _ _ _ _ _ _=>false)
  (fun _ _ _ _ _=>false)
  ⟨⟩ (fun _ _ _ _=>⟨⟩)
noncomputable def lA (s:St) (T:Option TypeId) (el:El) (x y:AV) (K:AV->St->Bool):Bool:=wH y s el fun ys=>bK (iq (fun a=>kF a el) ys) (aeY x T el ys s K)
noncomputable def Z9 (k:IntKind):Nat:=@IntKind.rec (fun _=>Nat) 0 1 2 3 4 5 6 7 k
noncomputable def jl (a b:IntKind):Bool:=Nat.beq (Z9 a) (Z9 b)
noncomputable def FT (k:IntKind):Nat:=@IntKind.rec (fun _=>Nat) 8 16 32 64 8 16 32 64 k
noncomputable def xP (k:IntKind):Nat:=@IntKind.rec (fun _=>Nat) 128 32768 2147483648 9223372036854775808 256 65536 4294967296 18446744073709551616 k
noncomputable def UX (k:IntKind):Nat:=@IntKind.rec (fun _=>Nat) 128 32768 2147483648 9223372036854775808 0 0 0 0 k
noncomputable def MO (k:IntKind) (z:Int):Bool:=@Int.rec (fun _=>IntKind->Bool) (fun n k=>Nat.ble (Nat.succ n) (xP k)) (fun n k=>Nat.ble (Nat.succ n) (UX k)) z k
noncomputable def mX (k:IntKind) (z:Int) (K:AV->Bool):Bool:=iK (MO k z) (fI z fun y=>K (.int k y)) (fI (dQ k z) fun y=>K (.int k y))
noncomputable def tU (x y:Int):Int:=@Int.rec (fun _=>Int->Int) (fun a y=>@Int.rec (fun _=>Nat->Int) (fun b a=>Int.ofNat (Nat.add a b)) (fun b a=>Int.subNatNat a (Nat.succ b)) y a)
 (fun a y=>@Int.rec (fun _=>Nat->Int) (fun b a=>Int.subNatNat b (Nat.succ a)) (fun b a=>Int.negSucc (Nat.succ (Nat.add a b))) y a) x y
noncomputable def P7 (x:Int):Int:=@Int.rec (fun _=>Int) (fun a=>@Nat.rec (fun _=>Int) (Int.ofNat 0) (fun m _=>Int.negSucc m) a) (fun a=>Int.ofNat (Nat.succ a)) x
noncomputable def P8 (x y:Int) (f:Nat->Nat->Bool) (d:Bool):Bool:=@Int.rec (fun _=>Bool) (fun a=>@Int.rec (fun _=>Bool) (fun b=>f a b) (fun _=>d) y) (fun _=>d) x
noncomputable def UY (k:IntKind) (x y:Int) (K:AV->Bool):Bool:=P8 x y (fun a b=>mX k (Int.ofNat (Nat.mul a b)) K) (mX k (x*y) K)
noncomputable def UZ (k:IntKind) (x y:Int) (K:AV->Bool):Bool:=P8 x y (fun a b=>bK (eE (Nat.beq b 0)) (mX k (Int.ofNat (Nat.div a b)) K)) (bK (eE (vQ y 0)) (mX k (x.tdiv y) K))
noncomputable def U0 (k:IntKind) (x y:Int) (K:AV->Bool):Bool:=P8 x y (fun a b=>bK (eE (Nat.beq b 0)) (fN (Nat.mod a b) fun r=>K (.int k (Int.ofNat r)))) (bK (eE (vQ y 0)) (fI (x.tmod y) fun r=>K (.int k r)))
noncomputable def EZ (op:BinOp) (g:Nat->Nat->Nat) (k:IntKind) (x y:Int) (K:AV->Bool):Bool :=
 iK (bK (MO k x) (MO k y)) (P8 x y (fun a b=>fN (g a b) fun r=>K (.int k (Int.ofNat r))) (fI (jE op k x y) fun r=>K (.int k r))) (fI (jE op k x y) fun r=>K (.int k r))
noncomputable def Z_ (op:BinOp) (k:IntKind) (x y:Int) (K:AV->Bool):Bool:=fI (jE op k x y) fun r=>K (.int k r)
noncomputable def K8 (a b:Nat):Nat:=@Bool.rec (fun _=>Nat) b a (Nat.ble a b)
noncomputable def aac (k:IntKind) (x:Int) (n:Nat) (K:AV->Bool):Bool:=@Int.rec (fun _=>Bool) (fun a=>mX k (Int.ofNat (Nat.mul a (Nat.pow 2 (K8 n (FT k))))) K) (fun _=>mX k (x*2 ^ (Nat.min n k.bits)) K) x
noncomputable def aad (k:IntKind) (x:Int) (n:Nat) (K:AV->Bool):Bool:=@Int.rec (fun _=>Bool) (fun a=>fN (Nat.div a (Nat.pow 2 (K8 n (FT k)))) fun r=>K (.int k (Int.ofNat r))) (fun _=>fI (x.fdiv (2 ^ (Nat.min n k.bits))) fun r=>K (.int k r)) x
noncomputable def jW (x:Int) (K:Nat->Bool):Bool:=@Int.rec (fun _=>(Nat->Bool)->Bool) (fun n K=>K n) (fun _ _=>false) x K
noncomputable def eB (k k':IntKind) (b:Bool) (K:AV->Bool):Bool:=bK (jl k k') (@Bool.rec (fun _=>(AV->Bool)->Bool) (fun K=>K (.bool false)) (fun K=>K (.bool true)) b K)
noncomputable def tB (b:Bool) (K:AV->Bool):Bool:=@Bool.rec (fun _=>(AV->Bool)->Bool) (fun K=>K (.bool false)) (fun K=>K (.bool true)) b K
noncomputable def opI (op:BinOp):IntKind->Int->IntKind->Int->(AV->Bool)->Bool :=
 @BinOp.rec (fun _=>IntKind->Int->IntKind->Int->(AV->Bool)->Bool)
  (fun k a k' b K=>bK (jl k k') (mX k (tU a b) K))
  (fun k a k' b K=>bK (jl k k') (mX k (tU a (P7 b)) K))
  (fun k a k' b K=>bK (jl k k') (UY k a b K))
  (fun k a k' b K=>bK (jl k k') (UZ k a b K))
  (fun k a k' b K=>bK (jl k k') (U0 k a b K))
  (fun k a k' b K=>bK (jl k k') (EZ .and Nat.land k a b K))
  (fun k a k' b K=>bK (jl k k') (EZ .or Nat.lor k a b K))
  (fun k a k' b K=>bK (jl k k') (EZ .xor Nat.xor k a b K))
  (fun k a k' b K=>jW b fun n=>aac k a n K)
  (fun k a k' b K=>jW b fun n=>aad k a n K)
  (fun k a k' b K=>bK (jl k k') (Z_ .andNot k a b K))
  (fun k a k' b K=>eB k k' (vQ a b) K)
  (fun k a k' b K=>eB k k' (eE (vQ a b)) K)
  (fun k a k' b K=>eB k k' (AO a b) K)
  (fun k a k' b K=>eB k k' (eE (AO b a)) K)
  (fun k a k' b K=>eB k k' (AO b a) K)
  (fun k a k' b K=>eB k k' (eE (AO a b)) K) op
noncomputable def opS (op:BinOp):List UInt8->List UInt8->(AV->Bool)->Bool :=
 @BinOp.rec (fun _=>List UInt8->List UInt8->(AV->Bool)->Bool)
  (fun a b K=>dY a 0 fun n=>dY b n fun m=>bK (Nat.ble m 9223372036854775807) (iM a b fun c=>K (.str c)))
  (fun _ _ _=>false) (fun _ _ _=>false) (fun _ _ _=>false) (fun _ _ _=>false) (fun _ _ _=>false) (fun _ _ _=>false) (fun _ _ _=>false) (fun _ _ _=>false) (fun _ _ _=>false) (fun _ _ _=>false)
  (fun a b K=>tB (CP a b) K) (fun a b K=>tB (eE (CP a b)) K) (fun a b K=>tB (GY a b) K) (fun a b K=>tB (eE (GY b a)) K) (fun a b K=>tB (GY b a) K) (fun a b K=>tB (eE (GY a b)) K) op
noncomputable def aae:AV->(BinOp)->(AV)->(AV->Bool)->Bool :=
 @AV.rec (fun _=>(BinOp)->(AV)->(AV->Bool)->Bool) (fun _=>PUnit)
  (fun _ _ _=>false)
  (fun _ _ _ _=>false)
  (fun k n op y K=>ek y fun k' m=>opI op k n k' m K)
  (fun s op y K=>jc y fun t=>opS op s t K)
  (fun _ _ _ _ _=>false)
  (fun _ _ _ _ _=>false)
  (fun _ _ _=>false)
  (fun _ _ _ _ _ _ _=>false)
  (fun _ _ _ _ _ _ _ _=>false)
  (fun _ _ _ _ _=>false)
  (fun _ _ _ _ _ _ _=>false)
  (fun _ _ _ _ _ _ _ _=>false)
  (fun _ _ _=>false)
  (fun _ _ _=>false)
  (fun _ _ _=>false)
  (fun _ _ _ _ _ _ _ _=>false)
  (fun _ _ _ _ _ _=>false)
  (fun _ _ _=>false)
  (fun _ _ _ _=>false)
  (fun _ _ _ _=>false)
  (fun _ _ _ _ _ _ _=>false)
  (fun _ _ _=>false)
  ⟨⟩ (fun _ _ _ _=>⟨⟩)
noncomputable def unN (x:AV) (K:AV->Bool):Bool:=ek x fun k n=>mX k (P7 n) K
noncomputable def unX (x:AV) (K:AV->Bool):Bool:=ek x fun k n=>fI (jE .xor k (if k.signed then -1 else k.max) n) fun r=>K (.int k r)
noncomputable def unK (op:UnOp):AV->(AV->Bool)->Bool:=@UnOp.rec (fun _=>AV->(AV->Bool)->Bool) unN unX (fun x K=>nV x fun b=>tB (eE b) K) (fun _ _=>false) op
noncomputable def kdK (k:Kd):AV->AV->(Bool->Bool)->Bool:=@Kd.rec (fun _=>AV->AV->(Bool->Bool)->Bool)
 (fun x y K=>nV x fun a=>nV y fun b=>K (vC a b))
 (fun x y K=>ek x fun k a=>ek y fun k' b=>bK (jl k k') (K (vQ a b)))
 (fun x y K=>jc x fun a=>jc y fun b=>K (CP a b)) k
noncomputable def nK:List Kd->List AV->List AV->(Bool->Bool)->Bool:=@List.rec Kd (fun _=>List AV->List AV->(Bool->Bool)->Bool)
 (fun az bs K=>bK (fA az) (bK (fA bs) (K true)))
 (fun k _ ih az bs K=>@List.rec AV (fun _=>Bool) false (fun a az _=>@List.rec AV (fun _=>Bool) false (fun b bs _=>kdK k a b fun x=>ih az bs fun y=>K (bK x y)) bs) az)
noncomputable def U1 (ag:Bool) (ks:List Kd) (x y:AV) (K:Bool->Bool):Bool:=iK ag (sK x fun az=>sK y fun bs=>nK ks az bs K) (nK ks [x] [y] K)
noncomputable def P9 (neg b:Bool):Bool:=iK neg (eE b) b
noncomputable def P_:List (Nat × Nat × AX)->List AV->Tr AV->(List AV->Bool)->Bool:=@List.rec (Nat × Nat × AX) (fun _=>List AV->Tr AV->(List AV->Bool)->Bool)
 (fun z _ K=>K z)
 (fun p _ ih z t K => @Prod.rec Nat (Nat × AX) (fun _ => Bool) (fun off q => @Prod.rec Nat AX (fun _ => Bool) (fun n x => cA x t fun v => oO v fun cs =>
   bK (dY cs 0 (Nat.beq n)) (bK (iq sL cs) (bK (dY z 0 (Nat.ble (Nat.add off n))) (tW cs off z fun z'=>ih z' t K)))) q) p)
noncomputable def FU (el:El):List (Nat × AX)->List AV->Tr AV->(List AV->Bool)->Bool:=@List.rec (Nat × AX) (fun _=>List AV->Tr AV->(List AV->Bool)->Bool)
 (fun z _ K=>K z)
 (fun p _ ih z t K=>@Prod.rec Nat AX (fun _=>Bool) (fun i x=>cA x t fun v=>bK (kF v el) (bK (dY z 0 (Nat.ble (Nat.succ i))) (wG z i v fun z'=>ih z' t K))) p)
noncomputable def Cb (v:AV):Nat->(List AV->Bool)->Bool:=@Nat.rec (fun _=>(List AV->Bool)->Bool) (fun K=>K []) (fun _ ih K=>ih fun l=>K (v::l))
noncomputable def E0:List AV->(List UInt8->Bool)->Bool:=kQ fun a K=>ek a fun k z=>bK (jl k .u8) (jW z fun n=>bK (Nat.ble n 255) (K (UInt8.ofNat n)))
noncomputable def jA (x:Option AV) (d y:Nat) (K:Nat->Bool):Bool:=@Option.rec AV (fun _=>Nat->Nat->(Nat->Bool)->Bool) (fun d _ K=>K d) (fun v _ y K=>ek v fun _ z=>jW z fun n=>bK (Nat.ble n y) (K n)) x d y K
noncomputable def Cc (x:Option AX) (t:Tr AV) (K:Option AV->Bool):Bool:=@Option.rec AX (fun _=>Tr AV->(Option AV->Bool)->Bool) (fun _ K=>K none) (fun x t K=>cA x t fun v=>K (some v)) x t K
noncomputable def uz (k:NK):Nat:=@NK.rec (fun _=>Nat) 0 1 2 3 k
noncomputable def E5:AV->(NK)->(Bool->Bool)->Bool :=
 @AV.rec (fun _=>(NK)->(Bool->Bool)->Bool) (fun _=>PUnit)
  (fun _ _=>false)
  (fun _ _ _=>false)
  (fun _ _ _ _=>false)
  (fun _ _ _=>false)
  (fun _ _ _ _=>false)
  (fun _ _ _ _=>false)
  (fun _ _=>false)
  (fun _ _ _ _ _ _=>false)
  (fun _ _ _ _ _ _ _=>false)
  (fun l off k K=>bK (Nat.beq (uz k) 0) (K false))
  (fun el x off _ k K=>bK (Nat.beq (uz k) 0) (K false))
  (fun el l m i off k K=>bK (Nat.beq (uz k) 0) (K false))
  (fun k K=>bK (Nat.beq (uz k) 0) (K true))
  (fun k K=>bK (Nat.beq (uz k) 2) (K true))
  (fun k K=>bK (Nat.beq (uz k) 1) (K true))
  (fun f first cap _ _ k K=>bK (Nat.beq (uz k) 2) (K false))
  (fun t v _ k K=>bK (Nat.beq (uz k) 1) (K false))
  (fun k K=>bK (Nat.beq (uz k) 3) (K true))
  (fun l k K=>bK (Nat.beq (uz k) 3) (K false))
  (fun _ _ _=>false)
  (fun _ _ _ _ _ _=>false)
  (fun _ _=>false)
  ⟨⟩ (fun _ _ _ _=>⟨⟩)
noncomputable def Qa (k:NK) (x y:AV) (K:Bool->Bool):Bool:=E5 x k fun a=>E5 y k fun b=>iK a (K b) (bK b (K false))
noncomputable def nX:AV->Bool :=
 @AV.rec (fun _=>Bool) (fun _=>Bool)
  true
  (fun b=>true)
  (fun k n=>true)
  (fun s=>true)
  (fun cs ih=>ih)
  (fun vs ih=>ih)
  true
  (fun f el xs ih=>ih)
  (fun el l m lo n=>false)
  (fun l off=>false)
  (fun el x off ih=>ih)
  (fun el l m i off=>false)
  true
  true
  true
  (fun f first cap ih Cy=>bK ih Cy)
  (fun t v ih=>ih)
  true
  (fun l=>false)
  (fun l=>false)
  (fun el p n ih=>false)
  true
  true (fun _ _ a b=>bK a b)
noncomputable def sM:AV->Bool :=
 @AV.rec (fun _=>Bool) (fun _=>Bool)
  true
  (fun b=>true)
  (fun k n=>true)
  (fun s=>true)
  (fun cs ih=>ih)
  (fun vs ih=>ih)
  true
  (fun f el xs ih=>fA xs)
  (fun el l m lo n=>false)
  (fun l off=>false)
  (fun el x off ih=>false)
  (fun el l m i off=>false)
  true
  true
  true
  (fun f first cap ih Cy=>false)
  (fun t v ih=>ih)
  true
  (fun l=>false)
  (fun l=>false)
  (fun el p n ih=>false)
  true
  true (fun _ _ a b=>bK a b)
noncomputable def uA (T:Option TypeId):Bool:=@Option.rec TypeId (fun _=>Bool) true (fun _=>false) T
noncomputable def alD:AV->(St)->(AV->(AV->Bool)->Bool)->(AV->Bool)->Bool :=
 @AV.rec (fun _=>(St)->(AV->(AV->Bool)->Bool)->(AV->Bool)->Bool) (fun _=>PUnit)
  (fun st r K=>K (.undef))
  (fun b st r K=>K (.bool b))
  (fun k n st r K=>K (.int k n))
  (fun s st r K=>K (.str s))
  (fun cs _ st r K=>kQ r cs fun ds=>K (.agg ds))
  (fun vs _ st r K=>kQ r vs fun ds=>K (.bg ds))
  (fun st r K=>K (.aP))
  (fun f el xs _ st r K=>iK (iq nX xs) (K (.aH f el xs)) (kQ r xs fun ys=>K (.aH false el ys)))
  (fun el l m lo n st r K=>kR el l m st fun _ t=>bK (Nat.ble (Nat.add lo n) m) (lO .undef n lo t fun xs=>kQ r xs fun ys=>K (.aH false el ys)))
  (fun l off st r K=>bK (Nat.beq off 0) (st.dI l fun o=>onCells o fun T n t=>bK (uA T) (lO .undef n 0 t fun cs=>kQ r cs fun ds=>K (.cN ⟨true,n⟩ (.agg ds) 0))))
  (fun el x off _ st r K=>bK (nX (.cN el x off)) (K (.cN el x off)))
  (fun _ _ _ _ _ _ _ _=>false)
  (fun st r K=>K (.ew))
  (fun st r K=>K (.ld))
  (fun st r K=>K (.eG))
  (fun f first cap _ _ st r K=>bK (nX (.fn f first cap)) (K (.fn f first cap)))
  (fun t v _ st r K=>bK (nX (.iS t v)) (K (.iS t v)))
  (fun st r K=>K (.iU))
  (fun l st r K=>st.dI l fun o=>nE o fun _=>K .lf)
  (fun _ _ _ _=>false)
  (fun _ _ _ _ _ _ _=>false)
  (fun st r K=>K (.lf))
  ⟨⟩ (fun _ _ _ _=>⟨⟩)
noncomputable def alE:AV->(St)->(AV->(AV->Bool)->Bool)->(AV->Bool)->Bool :=
 @AV.rec (fun _=>(St)->(AV->(AV->Bool)->Bool)->(AV->Bool)->Bool) (fun _=>PUnit)
  (fun st r K=>K (.undef))
  (fun b st r K=>K (.bool b))
  (fun k n st r K=>K (.int k n))
  (fun s st r K=>K (.str s))
  (fun cs _ st r K=>iK (iq sM cs) (K (.agg cs)) (kQ r cs fun ds=>K (.agg ds)))
  (fun vs _ st r K=>iK (iq sM vs) (K (.bg vs)) (kQ r vs fun ds=>K (.bg ds)))
  (fun st r K=>K (.aP))
  (fun f el xs _ st r K=>bK (fA xs) (K (.aH f el [])))
  (fun el l m lo n st r K=>kR el l m st fun _ t=>bK (Nat.ble (Nat.add lo n) m) (lO .undef n lo t fun xs=>kQ r xs fun ys=>K (.aH false el ys)))
  (fun _ _ _ _ _=>false)
  (fun _ _ _ _ _ _ _=>false)
  (fun _ _ _ _ _ _ _ _=>false)
  (fun st r K=>K (.ew))
  (fun st r K=>K (.ld))
  (fun st r K=>K (.eG))
  (fun _ _ _ _ _ _ _ _=>false)
  (fun _ _ _ _ _ _=>false)
  (fun st r K=>K (.iU))
  (fun _ _ _ _=>false)
  (fun _ _ _ _=>false)
  (fun _ _ _ _ _ _ _=>false)
  (fun st r K=>K (.lf))
  ⟨⟩ (fun _ _ _ _=>⟨⟩)
noncomputable def K9 (s:St):Nat->AV->(AV->Bool)->Bool:=@Nat.rec (fun _=>AV->(AV->Bool)->Bool) (fun _ _=>false) (fun _ ih v K=>alE v s ih K)
noncomputable def tX (s:St):Nat->AV->(AV->Bool)->Bool:=@Nat.rec (fun _=>AV->(AV->Bool)->Bool) (fun _ _=>false) (fun _ ih v K=>alD v s ih K)
abbrev FV:=FuncId->List AV->St->(Out->St->Bool)->Bool
abbrev YK:=List AV->St->(Out->St->Bool)->Bool
abbrev CQ:=List (Nat × YK)
structure Ctx where
 P:Program
 ne:FuncId->Bool
 hs:FuncId->Hints
 GZ:CQ->FV
 s9:CQ
noncomputable def Ctx.call (c:Ctx):FV:=c.GZ c.s9
noncomputable def Ctx.oC (c:Ctx):FV:=c.GZ []
noncomputable def Qb:CQ->Nat->(YK->Bool)->Bool:=@List.rec (Nat × YK) (fun _=>Nat->(YK->Bool)->Bool) (fun _ _=>false) (fun p _ ih l K=>@Prod.rec Nat YK (fun _=>Bool) (fun m y=>iK (Nat.beq m l) (K y) (ih l K)) p)
noncomputable def Cd:List Nat->List AV->Tr AV->(Tr AV->Bool)->Bool:=@List.rec Nat (fun _=>List AV->Tr AV->(Tr AV->Bool)->Bool) (fun _ t K=>K t) (fun p _ ih az t K=>@List.rec AV (fun _=>Bool) (K t) (fun a r _=>Tr.di .undef 60 t p a fun t'=>ih r t' K) az)
abbrev KT:=AV->St->Bool
abbrev iY:=Ctx->Tr AV->St->KT->KT->Bool
noncomputable def alF (x:AX):iY:=fun _ t s K _=>cA x t fun v=>K v s
noncomputable def aeZ (c a b:AX):iY:=fun _ t s K _=>cA c t fun v=>nV v fun y=>iK y (cA a t fun v=>K v s) (cA b t fun v=>K v s)
noncomputable def acp (T:Option TypeId) (cs:List AV):iY:=fun _ _ s K _=>jD .undef cs 0 .nil fun n t'=>s.jG (.cells T n t') fun l s'=>K (.ref l 0) s'
noncomputable def ae0 (T:Option TypeId) (x:AX) (t:Tr AV) (s:St) (K:KT):Bool:=cA x t fun v=>oO v fun cs=>bK (iq sL cs) (jD .undef cs 0 .nil fun n t'=>s.jG (.cells T n t') fun l s'=>K (.ref l 0) s')
noncomputable def ai5 (x:AX):iY:=fun _ t s K _=>ae0 none x t s K
noncomputable def acq (z:List AV) (ps:List (Nat × Nat × AX)):iY:=fun _ t s K _=>P_ ps z t fun cs=>K (.agg cs) s
noncomputable def aaf (mt:Bool) (el:El) (zero:AV) (n:Nat) (ps:List (Nat × AX)):iY:=fun _ t s K _=>Cb zero n fun z=>FU el ps z t fun xs=>iK mt (jD .undef xs 0 .nil fun n' t'=>s.jG (.vec none el n' t') fun l s'=>K (.own el l n 0 n) s') (K (.aH true el xs) s)
noncomputable def o_load (ag:Bool) (n:Nat) (x:AX):iY:=fun _ t s K _=>cA x t fun v=>pC v s ag n fun u=>K u s
noncomputable def acr (n:Nat) (x v:AX):iY:=fun _ t s K _=>cA x t fun p=>cA v t fun u=>EU s n p u fun s'=>K (.bg []) s'
noncomputable def nY (f:Fn) (K:FuncId->Bool):Bool:=@Fn.rec (fun _=>(FuncId->Bool)->Bool) (fun n K=>K n) (fun _ _=>false) (fun _ _ _=>false) (fun _ _ _ _ _=>false) (fun _ _=>false) f K
noncomputable def XK:AV->(St)->(AV->St->Bool)->Bool :=
 @AV.rec (fun _=>(St)->(AV->St->Bool)->Bool) (fun _=>PUnit)
  (fun _ _=>false)
  (fun _ _ _=>false)
  (fun _ _ _ _=>false)
  (fun _ _ _=>false)
  (fun _ _ _ _=>false)
  (fun _ _ _ _=>false)
  (fun _ _=>false)
  (fun _ _ _ _ _ _=>false)
  (fun _ _ _ _ _ _ _=>false)
  (fun l off s K=>K (.ref l off) s)
  (fun el x off _ s K=>K (.cN el x off) s)
  (fun el l m i off s K=>K (.dw el l m i off) s)
  (fun _ _=>false)
  (fun _ _=>false)
  (fun _ _=>false)
  (fun f first cap _ _ s K=>nY f fun n=>K (.fn (.func n) first cap) s)
  (fun t v _ s K=>K (.iS t v) s)
  (fun _ _=>false)
  (fun _ _ _=>false)
  (fun _ _ _=>false)
  (fun _ _ _ _ _ _=>false)
  (fun _ _=>false)
  ⟨⟩ (fun _ _ _ _=>⟨⟩)
noncomputable def acs (x:AX):iY:=fun _ t s K _=>cA x t fun v=>XK v s K
noncomputable def ai6 (op:BinOp) (x y:AX):iY:=fun _ t s K _=>cA x t fun a=>cA y t fun b=>aae a op b fun v=>K v s
noncomputable def ai7 (neg ag:Bool) (ks:List Kd) (x y:AX):iY:=fun _ t s K _=>cA x t fun a=>cA y t fun b=>U1 ag ks a b fun r=>tB (P9 neg r) fun v=>K v s
noncomputable def alG (op:UnOp) (x:AX):iY:=fun _ t s K _=>cA x t fun a=>unK op a fun v=>K v s
noncomputable def ae1 (k:IntKind) (x:AX):iY:=fun _ t s K _=>cA x t fun a=>ek a fun _ n=>mX k n fun v=>K v s
noncomputable def ai8 (x:AX):iY:=fun _ t s K _=>cA x t fun a=>jc a fun b=>K (.str b) s
noncomputable def ai9 (x:AX):iY:=fun _ t s K _=>cA x t fun a=>jc a fun b=>EW b fun xs=>jD .undef xs 0 .nil fun n t'=>bK (Nat.ble n 1099511627776) (s.jG (.vec none rL n t') fun l s'=>K (.own rL l n 0 n) s')
noncomputable def Qc:AV->(Bool)->Bool :=
 @AV.rec (fun _=>(Bool)->Bool) (fun _=>PUnit)
  (fun K=>K)
  (fun b K=>K)
  (fun k n K=>K)
  (fun _ _=>false)
  (fun cs _ K=>K)
  (fun vs _ K=>K)
  (fun K=>K)
  (fun f el xs _ K=>K)
  (fun el l m lo n K=>K)
  (fun l off K=>K)
  (fun el x off _ K=>K)
  (fun el l m i off K=>K)
  (fun K=>K)
  (fun K=>K)
  (fun K=>K)
  (fun f first cap _ _ K=>K)
  (fun t v _ K=>K)
  (fun K=>K)
  (fun l K=>K)
  (fun l K=>K)
  (fun el p n _ K=>K)
  (fun K=>K)
  ⟨⟩ (fun _ _ _ _=>⟨⟩)
noncomputable def ai_ (x:AX):iY:=fun _ t s K _=>cA x t fun a=>Qc a (wH a s rL fun xs=>E0 xs fun b=>K (.str b) s)
noncomputable def acu (T:TypeId) (x:AX):iY:=fun _ t s K _=>cA x t fun a=>K (.iS T a) s
noncomputable def ae2 (f:Fn) (a b:List AX):iY:=fun _ t s K _=>nW a t fun az=>nW b t fun bz=>K (.fn f az bz) s
noncomputable def aja (x:AX) (lo hi:Option AX):iY:=fun _ t s K _=>cA x t fun a=>jc a fun b=>Cc hi t fun hv=>Cc lo t fun lv=>dY b 0 fun n=>jA hv n n fun h=>jA lv 0 h fun l=>fN (Nat.sub h l) fun k=>sI b l k fun c=>K (.str c) s
noncomputable def ajb (aS:El) (xs:List AV) (s:St) (el:El) (lv hv:Option AV) (K:KT):Bool:=bK (eF aS el) (dY xs 0 fun n=>jA hv n n fun h=>jA lv 0 h fun l=>fN (Nat.sub h l) fun k=>sI xs l k fun ys=>K (.aH false el ys) s)
noncomputable def ajc (aS:El) (l m o n:Nat) (s:St) (el:El) (lv hv:Option AV) (K:KT):Bool:=bK (eF aS el) (kR el l m s fun _ _=>bK (Nat.ble (Nat.add o n) m) (jA hv n n fun h=>jA lv 0 h fun k=>fN (Nat.add o k) fun o'=>fN (Nat.sub h k) fun n'=>K (.own el l m o' n') s))
noncomputable def ae3:AV->(St)->(El)->(Option AV)->(Option AV)->(AV->St->Bool)->Bool :=
 @AV.rec (fun _=>(St)->(El)->(Option AV)->(Option AV)->(AV->St->Bool)->Bool) (fun _=>PUnit)
  (fun _ _ _ _ _=>false)
  (fun _ _ _ _ _ _=>false)
  (fun _ _ _ _ _ _ _=>false)
  (fun _ _ _ _ _ _=>false)
  (fun _ _ _ _ _ _ _=>false)
  (fun _ _ _ _ _ _ _=>false)
  (fun s el lv hv K=>jA hv 0 0 fun h=>jA lv 0 h fun _=>K .aP s)
  (fun f aS xs _ s el lv hv K=>ajb aS xs s el lv hv K)
  (fun aS l m o n s el lv hv K=>ajc aS l m o n s el lv hv K)
  (fun _ _ _ _ _ _ _=>false)
  (fun _ _ _ _ _ _ _ _ _=>false)
  (fun _ _ _ _ _ _ _ _ _ _=>false)
  (fun _ _ _ _ _=>false)
  (fun _ _ _ _ _=>false)
  (fun _ _ _ _ _=>false)
  (fun _ _ _ _ _ _ _ _ _ _=>false)
  (fun _ _ _ _ _ _ _ _=>false)
  (fun _ _ _ _ _=>false)
  (fun _ _ _ _ _ _=>false)
  (fun _ _ _ _ _ _=>false)
  (fun _ _ _ _ _ _ _ _ _=>false)
  (fun _ _ _ _ _=>false)
  ⟨⟩ (fun _ _ _ _=>⟨⟩)
noncomputable def ajd (el:El) (x:AX) (lo hi:Option AX):iY:=fun _ t s K _=>cA x t fun a=>Cc hi t fun hv=>Cc lo t fun lv=>ae3 a s el lv hv K
noncomputable def xQ:AV->(Nat)->(AV->Bool)->Bool :=
 @AV.rec (fun _=>(Nat)->(AV->Bool)->Bool) (fun _=>PUnit)
  (fun _ _=>false)
  (fun _ _ _=>false)
  (fun _ _ _ _=>false)
  (fun _ _ _=>false)
  (fun _ _ _ _=>false)
  (fun _ _ _ _=>false)
  (fun _ _=>false)
  (fun _ _ _ _ _ _=>false)
  (fun _ _ _ _ _ _ _=>false)
  (fun l o off K=>fN (Nat.add o off) fun o'=>K (.ref l o'))
  (fun el y o _ off K=>fN (Nat.add o off) fun o'=>K (.cN el y o'))
  (fun el l m i o off K=>fN (Nat.add o off) fun o'=>K (.dw el l m i o'))
  (fun _ _=>false)
  (fun _ _=>false)
  (fun _ _=>false)
  (fun _ _ _ _ _ _ _=>false)
  (fun _ _ _ _ _=>false)
  (fun _ _=>false)
  (fun _ _ _=>false)
  (fun _ _ _=>false)
  (fun _ _ _ _ _ _=>false)
  (fun _ _=>false)
  ⟨⟩ (fun _ _ _ _=>⟨⟩)
noncomputable def acv (off:Nat) (x:AX):iY:=fun _ t s K _=>cA x t fun a=>xQ a off fun v=>K v s
noncomputable def acw (ag:Bool) (off n:Nat) (x:AX):iY:=fun _ t s K _=>cA x t fun a=>sK a fun cs=>bK (dY cs 0 (Nat.ble (Nat.add off n))) (iK ag (sI cs off n fun ds=>K (.agg ds) s) (bK (Nat.beq n 1) (sH .undef cs off fun v=>K v s)))
noncomputable def K_ (el:El):Nat:=@El.rec (fun _=>Nat) (fun _ z=>z) el
noncomputable def Qd:AV->(Nat)->(St)->(El)->(AV->Bool)->Bool :=
 @AV.rec (fun _=>(Nat)->(St)->(El)->(AV->Bool)->Bool) (fun _=>PUnit)
  (fun _ _ _ _=>false)
  (fun _ _ _ _ _=>false)
  (fun _ _ _ _ _ _=>false)
  (fun _ _ _ _ _=>false)
  (fun _ _ _ _ _ _=>false)
  (fun _ _ _ _ _ _=>false)
  (fun _ _ _ _=>false)
  (fun f aS xs _ k s el K=>bK (eF aS el) (bK (dY xs 0 (Nat.ble (Nat.succ k))) (sH .undef xs k fun y=>K (.cN el y 0))))
  (fun aS l m o n k s el K=>bK (eF aS el) (bK (Nat.ble (Nat.succ k) n) (kR el l m s fun _ _=>fN (Nat.add o k) fun i=>K (.dw el l m i 0))))
  (fun _ _ _ _ _ _=>false)
  (fun _ _ _ _ _ _ _ _=>false)
  (fun _ _ _ _ _ _ _ _ _=>false)
  (fun _ _ _ _=>false)
  (fun _ _ _ _=>false)
  (fun _ _ _ _=>false)
  (fun _ _ _ _ _ _ _ _ _=>false)
  (fun _ _ _ _ _ _ _=>false)
  (fun _ _ _ _=>false)
  (fun _ _ _ _ _=>false)
  (fun _ _ _ _ _=>false)
  (fun _ _ _ _ _ _ _ _=>false)
  (fun _ _ _ _=>false)
  ⟨⟩ (fun _ _ _ _=>⟨⟩)
noncomputable def acy (el:El) (arr:Option Nat) (x i:AX):iY:=fun _ t s K _=>cA i t fun j=>ek j fun _ z=>jW z fun k=>cA x t fun a =>
 @Option.rec Nat (fun _=>Bool) (Qd a k s el fun v=>K v s) (fun n=>bK (Nat.ble (Nat.succ k) n) (xQ a (Nat.mul k (K_ el)) fun v=>K v s)) arr
noncomputable def ae4 (x i:AX):iY:=fun _ t s K _=>cA i t fun j=>ek j fun _ z=>jW z fun k=>cA x t fun a=>jc a fun b=>Ca b k fun c=>@List.rec UInt8 (fun _=>Bool) false (fun d _ _=>fN d.toNat fun n=>K (.int .u8 (Int.ofNat n)) s) c
noncomputable def ae5 (el:El) (ln:Nat) (x i:AX):iY:=fun _ t s K _=>cA i t fun j=>ek j fun _ z=>jW z fun k=>cA x t fun a=>sK a fun cs=>bK (Nat.ble (Nat.succ k) ln)
 (@El.rec (fun _=>Bool) (fun g z=>fN (Nat.mul k z) fun off=>bK (dY cs 0 (Nat.ble (Nat.add off z))) (iK g (sI cs off z fun ds=>K (.agg ds) s) (bK (Nat.beq z 1) (sH .undef cs off fun v=>K v s)))) el)
noncomputable def aje (x:AX) (i:Nat):iY:=fun _ t s K _=>cA x t fun a=>JQ a fun vs=>bK (dY vs 0 (Nat.ble (Nat.succ i))) (sH .undef vs i fun v=>K v s)
noncomputable def uB (o:Out) (K:AV->Bool):Bool:=@Out.rec (fun _=>(AV->Bool)->Bool) (fun v K=>K v) (fun _ _=>false) o K
noncomputable def oZ (K Kp:KT) (o:Out):St->Bool:=@Out.rec (fun _=>KT->KT->St->Bool) (fun v K _ s=>K v s) (fun v _ Kp s=>Kp v s) o K Kp
noncomputable def q9 (c:Ctx) (n:FuncId) (az:List AV) (s:St) (K:KT):Bool :=
 iK (iq nX az) (c.oC n az ⟨0,.nil⟩ fun o s'=>uB o fun r=>tX s' 30 r fun r=>K r s)
  (kQ (tX s 30) az fun bz=>bK (iq nX bz) (c.oC n bz ⟨0,.nil⟩ fun o s'=>uB o fun r=>K9 s' 30 r fun r=>K r s))
noncomputable def NS:AV->(Nat->Bool)->(Bool)->Bool :=
 @AV.rec (fun _=>(Nat->Bool)->(Bool)->Bool) (fun _=>PUnit)
  (fun Y X=>X)
  (fun b Y X=>X)
  (fun k n Y X=>X)
  (fun s Y X=>X)
  (fun cs _ Y X=>X)
  (fun vs _ Y X=>X)
  (fun Y X=>X)
  (fun f el xs _ Y X=>X)
  (fun el l m lo n Y X=>X)
  (fun l off Y X=>X)
  (fun el x off _ Y X=>X)
  (fun el l m i off Y X=>X)
  (fun Y X=>X)
  (fun Y X=>X)
  (fun Y X=>X)
  (fun f first cap _ _ Y X=>X)
  (fun t v _ Y X=>X)
  (fun Y X=>X)
  (fun l Y X=>X)
  (fun l Y X=>Y l)
  (fun el p n _ Y X=>X)
  (fun Y X=>X)
  ⟨⟩ (fun _ _ _ _=>⟨⟩)
noncomputable def ae6 (q:Bool) (f:AX) (args:List AX):iY:=fun c t s K Kp=>cA f t fun g=>NS g (fun l=>iK q false (nW args t fun az=>Qb c.s9 l fun y=>y az s (oZ K Kp)))<| xO g fun fn a b=>nY fn fun n=>nW args t fun az=>iM az b fun zs=>iM a zs fun ys=>iK q (q9 c n ys s K) (c.call n ys s (oZ K Kp))
noncomputable def U2 (c:Ctx) (n:FuncId) (x:AV) (r:List AV) (s:St) (K:KT):Bool:=nF x fun l off=>bK (iq nX r) (s.dI l fun o=>onCells o fun T k tr=>bK (uA T) (lO .undef k 0 tr fun cs=>bK (iq nX cs)
 (St.jG ⟨0, .nil⟩ (.cells none k tr) fun _ s1 => c.oC n (.ref 0 off :: r) s1 fun o s' => uB o fun r0 => s'.dI 0 fun o' => onCells o' fun T' k' AS => bK (uA T') (s'.di 0 .non fun s2 => lO .undef k' 0 AS fun pg =>
   tX s2 30 r0 fun r=>kQ (tX s2 30) pg fun ds=>jD .undef ds 0 .nil fun k2 tr2=>s.di l (.cells none k2 tr2) fun s3=>K r s3))))
noncomputable def ae7 (f:AX) (args:List AX):iY:=fun c t s K _=>cA f t fun g=>xO g fun fn a b=>nY fn fun n=>bK (fA a) (bK (fA b) (nW args t fun az=>@List.rec AV (fun _=>Bool) false (fun x r _=>U2 c n x r s K) az))
noncomputable def ae8:AV->(Nat->Bool)->Bool :=
 @AV.rec (fun _=>(Nat->Bool)->Bool) (fun _=>PUnit)
  (fun _=>false)
  (fun _ _=>false)
  (fun _ _ _=>false)
  (fun _ _=>false)
  (fun _ _ _=>false)
  (fun _ _ _=>false)
  (fun K=>K 0)
  (fun f el xs _ K=>dY xs 0 K)
  (fun el l m lo n K=>K n)
  (fun _ _ _=>false)
  (fun _ _ _ _ _=>false)
  (fun _ _ _ _ _ _=>false)
  (fun _=>false)
  (fun _=>false)
  (fun _=>false)
  (fun _ _ _ _ _ _=>false)
  (fun _ _ _ _=>false)
  (fun _=>false)
  (fun _ _=>false)
  (fun _ _=>false)
  (fun _ _ _ _ _=>false)
  (fun _=>false)
  ⟨⟩ (fun _ _ _ _=>⟨⟩)
noncomputable def ajf (q:Bool) (x:AX):iY:=fun _ t s K _=>cA x t fun a=>iK q (jc a fun b=>dY b 0 fun n=>K (.int .i64 (Int.ofNat n)) s) (ae8 a fun n=>K (.int .i64 (Int.ofNat n)) s)
noncomputable def ajg (T:Option TypeId) (el:El) (x y:AX):iY:=fun _ t s K _=>cA x t fun a=>cA y t fun b=>lA s T el a b K
noncomputable def ae9:AV->(St)->(El)->(AV->Bool)->Bool :=
 @AV.rec (fun _=>(St)->(El)->(AV->Bool)->Bool) (fun _=>PUnit)
  (fun _ _ _=>false)
  (fun _ _ _ _=>false)
  (fun _ _ _ _ _=>false)
  (fun _ _ _ _=>false)
  (fun _ _ _ _ _=>false)
  (fun _ _ _ _ _=>false)
  (fun s el K=>K .ew)
  (fun _ _ _ _ _ _ _=>false)
  (fun aS l m lo n s el K=>bK (eF aS el) (kR el l m s fun _ _=>bK (Nat.ble 1 n) (K (.dw el l m lo 0))))
  (fun _ _ _ _ _=>false)
  (fun _ _ _ _ _ _ _=>false)
  (fun _ _ _ _ _ _ _ _=>false)
  (fun _ _ _=>false)
  (fun _ _ _=>false)
  (fun _ _ _=>false)
  (fun _ _ _ _ _ _ _ _=>false)
  (fun _ _ _ _ _ _=>false)
  (fun _ _ _=>false)
  (fun _ _ _ _=>false)
  (fun _ _ _ _=>false)
  (fun _ _ _ _ _ _ _=>false)
  (fun _ _ _=>false)
  ⟨⟩ (fun _ _ _ _=>⟨⟩)
noncomputable def ajh (el:El) (x:AX):iY:=fun _ t s K _=>cA x t fun a=>ae9 a s el fun v=>K v s
noncomputable def ae_:AV->(St)->(Program)->(TypeId)->(AV->Bool)->Bool :=
 @AV.rec (fun _=>(St)->(Program)->(TypeId)->(AV->Bool)->Bool) (fun _=>PUnit)
  (fun _ _ _ _=>false)
  (fun _ _ _ _ _=>false)
  (fun _ _ _ _ _ _=>false)
  (fun _ _ _ _ _=>false)
  (fun _ _ _ _ _ _=>false)
  (fun _ _ _ _ _ _=>false)
  (fun _ _ _ _=>false)
  (fun _ _ _ _ _ _ _ _=>false)
  (fun _ _ _ _ _ _ _ _ _=>false)
  (fun l off s P u K=>s.dI l fun o=>onCells o fun T n _=>@Option.rec TypeId (fun _=>Bool) false (fun T=>bK (liesAt P P.depth T (n / P.cellsOf T) off u 1) (K (.ref l off))) T)
  (fun _ _ _ _ _ _ _ _=>false)
  (fun _ _ _ _ _ _ _ _ _=>false)
  (fun _ _ _ _=>false)
  (fun _ _ _ _=>false)
  (fun _ _ _ _=>false)
  (fun _ _ _ _ _ _ _ _ _=>false)
  (fun _ _ _ _ _ _ _=>false)
  (fun _ _ _ _=>false)
  (fun _ _ _ _ _=>false)
  (fun _ _ _ _ _=>false)
  (fun _ _ _ _ _ _ _ _=>false)
  (fun _ _ _ _=>false)
  ⟨⟩ (fun _ _ _ _=>⟨⟩)
noncomputable def aji (x:AX):iY:=fun _ t s K _=>cA x t fun a=>nF a fun l off=>s.dI l fun o=>onCells o fun _ n _=>bK (Nat.ble (Nat.succ off) n) (K (.ref l off) s)
noncomputable def alH (T T':Option TypeId):Bool:=@Option.rec TypeId (fun _=>Bool) false (fun a=>@Option.rec TypeId (fun _=>Bool) false (fun b=>Nat.beq a b) T') T
noncomputable def U3 (T:TypeId) (z:Int) (s:St) (K:KT) (el:El) (l m lo off:Nat):Bool:=bK (Nat.beq lo 0) (bK (Nat.beq off 0) (bK (eF el rL) (s.dI l fun o=>JN o fun T' aS k t=>bK (alH T' (some T)) (bK (eF aS rL) (bK (Nat.beq m k) (jW z fun q=>bK (Nat.ble 1 q) (bK (Nat.ble q k) (bK (Nat.ble k 1099511627776)
 (lO .undef q 0 t fun xs=>E0 xs fun b=>s.di l .non fun s'=>K (.str b) s')))))))))
noncomputable def aa7:AV->(TypeId)->(Int)->(St)->(AV->St->Bool)->Bool :=
 @AV.rec (fun _=>(TypeId)->(Int)->(St)->(AV->St->Bool)->Bool) (fun _=>PUnit)
  (fun _ _ _ _=>false)
  (fun _ _ _ _ _=>false)
  (fun _ _ _ _ _ _=>false)
  (fun _ _ _ _ _=>false)
  (fun _ _ _ _ _ _=>false)
  (fun _ _ _ _ _ _=>false)
  (fun _ _ _ _=>false)
  (fun _ _ _ _ _ _ _ _=>false)
  (fun _ _ _ _ _ _ _ _ _=>false)
  (fun _ _ _ _ _ _=>false)
  (fun _ _ _ _ _ _ _ _=>false)
  (fun el l m i off T z s K=>U3 T z s K el l m i off)
  (fun T z s K=>bK (vQ z (Int.ofNat 0)) (K (.str []) s))
  (fun _ _ _ _=>false)
  (fun _ _ _ _=>false)
  (fun _ _ _ _ _ _ _ _ _=>false)
  (fun _ _ _ _ _ _ _=>false)
  (fun _ _ _ _=>false)
  (fun _ _ _ _ _=>false)
  (fun _ _ _ _ _=>false)
  (fun _ _ _ _ _ _ _ _=>false)
  (fun _ _ _ _=>false)
  ⟨⟩ (fun _ _ _ _=>⟨⟩)
noncomputable def afa (T:TypeId) (x n:AX):iY:=fun _ t s K _=>cA x t fun a=>cA n t fun b=>ek b fun k z=>bK (jl .i64 k) (aa7 a T z s K)
noncomputable def ajj (u:TypeId) (x:AX):iY:=fun c t s K _=>cA x t fun a=>ae_ a s c.P u fun v=>K v s
noncomputable def ajk (neg:Bool) (x y:AX):iY:=fun _ t s K _=>cA x t fun a=>cA y t fun b=>nF a fun l o=>nF b fun l' o'=>bK (Nat.beq l l') (bK (Nat.beq o o') (s.dI l fun ob=>onCells ob fun _ _ _=>tB (eE neg) fun v=>K v s))
noncomputable def acz (f:FuncId) (x:AX):iY:=fun c t s K _=>bK (c.ne f) (cA x t fun v=>K v s)
noncomputable def U4 (op:Bool) (a b:Int):Bool:=iK op (AO b a) (AO a b)
noncomputable def FW (op:Bool) (x:AV) (ys:List AV) (K:AV->Bool):Bool:=ek x fun k a=>@List.rec AV (fun _=>Int->Bool) (fun a=>K (.int k a)) (fun y _ ih a=>ek y fun _ b=>iK (U4 op a b) (ih b) (ih a)) ys a
noncomputable def XL (op:Bool) (x:AX) (xs:List AX):iY:=fun _ t s K _=>cA x t fun a=>nW xs t fun ys=>FW op a ys fun v=>K v s
noncomputable def XM (el:El) (zero:AV) (n c:AX):iY:=fun _ t s K _=>cA n t fun a=>ek a fun k z=>bK (jl k .i64) (jW z fun i=>cA c t fun b=>ek b fun k' z'=>bK (jl k' .i64) (jW z' fun j=>bK (Nat.ble i j) (bK (mW j el) (bK (kF zero el) (Cb zero i fun xs=>jD .undef xs 0 .nil fun _ t'=>s.jG (.vec none el i t') fun l s'=>K (.own el l i 0 i) s')))))
noncomputable def acA (x:AX):iY:=fun _ t s _ Kp=>cA x t fun a=>JR a fun T v=>Kp (.iS T v) s
noncomputable def acB (el:El):iY:=fun _ _ s K _=>s.jG (.vec none el 0 .nil) fun l s'=>K (.own el l 0 0 0) s'
noncomputable def afb:iY:=fun _ _ s K _=>s.jG .resv fun l s'=>K (.ref l 0) s'
noncomputable def afc (T:TypeId) (x:AX):iY:=fun _ t s K _=>ae0 (some T) x t s K
noncomputable def Ce (k:Nat) (t:Tr AV) (s:St) (K:Nat->Bool):Bool:=Tr.dI .undef t k fun v=>nF v fun n z=>bK (Nat.beq z 0) (s.dI n fun o=>AP o (K n))
noncomputable def XO (k:Nat) (T:Option TypeId) (cs:List AV):iY:=fun _ t s K _=>Ce k t s fun n=>jD .undef cs 0 .nil fun m t'=>s.di n (.cells T m t') fun s'=>K (.ref n 0) s'
noncomputable def aa8:AV->(El)->(Bool)->Bool :=
 @AV.rec (fun _=>(El)->(Bool)->Bool) (fun _=>PUnit)
  (fun _ _=>false)
  (fun _ _ _=>false)
  (fun _ _ _ _=>false)
  (fun _ _ _=>false)
  (fun _ _ _ _=>false)
  (fun _ _ _ _=>false)
  (fun el K=>K)
  (fun f aS xs _ el K=>bK f (bK (eF aS el) (bK (fA xs) K)))
  (fun _ _ _ _ _ _ _=>false)
  (fun _ _ _ _=>false)
  (fun _ _ _ _ _ _=>false)
  (fun _ _ _ _ _ _ _=>false)
  (fun _ _=>false)
  (fun _ _=>false)
  (fun _ _=>false)
  (fun _ _ _ _ _ _ _=>false)
  (fun _ _ _ _ _=>false)
  (fun _ _=>false)
  (fun _ _ _=>false)
  (fun _ _ _=>false)
  (fun _ _ _ _ _ _=>false)
  (fun _ _=>false)
  ⟨⟩ (fun _ _ _ _=>⟨⟩)
noncomputable def U5:AV->(El)->(List AV->Bool)->Bool :=
 @AV.rec (fun _=>(El)->(List AV->Bool)->Bool) (fun _=>PUnit)
  (fun _ _=>false)
  (fun _ _ _=>false)
  (fun _ _ _ _=>false)
  (fun _ _ _=>false)
  (fun _ _ _ _=>false)
  (fun _ _ _ _=>false)
  (fun el K=>K [])
  (fun f aS xs _ el K=>bK (eF aS el) (K xs))
  (fun _ _ _ _ _ _ _=>false)
  (fun _ _ _ _=>false)
  (fun _ _ _ _ _ _=>false)
  (fun _ _ _ _ _ _ _=>false)
  (fun _ _=>false)
  (fun _ _=>false)
  (fun _ _=>false)
  (fun _ _ _ _ _ _ _=>false)
  (fun _ _ _ _ _=>false)
  (fun _ _=>false)
  (fun _ _ _=>false)
  (fun _ _ _=>false)
  (fun _ _ _ _ _ _=>false)
  (fun _ _=>false)
  ⟨⟩ (fun _ _ _ _=>⟨⟩)
noncomputable def acC (k:Nat) (T:Option TypeId) (el:El) (x y:AX):iY:=fun _ t s K _=>Ce k t s fun n=>cA x t fun a=>cA y t fun b=>aa8 a el (U5 b el fun ys=>bK (iq (fun a=>kF a el) ys) (jD .undef ys 0 .nil fun m t'=>bK (mW m el) (s.di n (.vec T el m t') fun s'=>K (.own el n m 0 m) s')))
noncomputable def acD (k:Nat) (el:El) (zero:AV) (n c:AX):iY:=fun _ t s K _=>Ce k t s fun l=>cA n t fun a=>ek a fun k z=>bK (jl k .i64) (jW z fun i=>cA c t fun b=>ek b fun k' z'=>bK (jl k' .i64) (jW z' fun j=>bK (Nat.ble 1 i) (bK (Nat.ble i j) (bK (mW j el) (bK (kF zero el) (Cb zero i fun xs=>jD .undef xs 0 .nil fun _ t'=>s.di l (.vec none el i t') fun s'=>K (.own el l i 0 i) s'))))))
noncomputable def afd (x:AX):iY:=fun _ t s K _=>cA x t fun a=>jc a fun b=>s.jG (.fZ b 0) fun l s'=>K (.ref l 0) s'
noncomputable def afe (x:AX):iY:=fun _ t s K _=>cA x t fun a=>nF a fun l z=>bK (Nat.beq z 0) (s.dI l fun o=>P6 o fun b p=>iK (dY b 0 (Nat.ble (Nat.succ p)))
 (fI (Utf8.decode ⟨b.toArray⟩ p).1 fun r=>fN (Nat.add p (Utf8.decode ⟨b.toArray⟩ p).2) fun q=>s.di l (.fZ b q) fun s'=>K (.bg [.bool true,.int .i64 (Int.ofNat p),.int .i32 r]) s')
 (K (.bg [.bool false]) s))
noncomputable def acE (neg:Bool) (k:NK) (x y:AX):iY:=fun _ t s K _=>cA x t fun a=>cA y t fun b=>Qa k a b fun r=>tB (P9 neg r) fun v=>K v s
noncomputable def vR (l:List AV) (K:AV->Bool):Bool:=@List.rec AV (fun _=>(AV->Bool)->Bool) (fun _=>false) (fun a r _ K=>bK (fA r) (K a)) l K
noncomputable def rM (l:List AV) (K:AV->AV->Bool):Bool:=@List.rec AV (fun _=>(AV->AV->Bool)->Bool) (fun _=>false) (fun a r _ K=>vR r (K a)) l K
noncomputable def xR (l:List AV) (K:AV->AV->AV->Bool):Bool:=@List.rec AV (fun _=>(AV->AV->AV->Bool)->Bool) (fun _=>false) (fun a r _ K=>rM r (K a)) l K
noncomputable def XP (l:List AV) (K:AV->AV->AV->AV->Bool):Bool:=@List.rec AV (fun _=>(AV->AV->AV->AV->Bool)->Bool) (fun _=>false) (fun a r _ K=>xR r (K a)) l K
noncomputable def nZ (lo:Option AV) (hi mx:AV) (cap:Nat) (K:Nat->Nat->Nat->Bool):Bool:=jA (some mx) 0 cap fun m=>jA (some hi) 0 m fun h=>jA lo 0 h fun l=>K l h m
noncomputable def Cf:AV->(St)->(El)->(Option AV)->(AV)->(AV)->(AV->St->Bool)->Bool :=
 @AV.rec (fun _=>(St)->(El)->(Option AV)->(AV)->(AV)->(AV->St->Bool)->Bool) (fun _=>PUnit)
  (fun _ _ _ _ _ _=>false)
  (fun _ _ _ _ _ _ _=>false)
  (fun _ _ _ _ _ _ _ _=>false)
  (fun _ _ _ _ _ _ _=>false)
  (fun _ _ _ _ _ _ _ _=>false)
  (fun _ _ _ _ _ _ _ _=>false)
  (fun s el lo hi mx K=>nZ lo hi mx 0 fun _ _ _=>K .aP s)
  (fun f aS xs _ s el lo hi mx K=>bK (eF aS el) (dY xs 0 fun n=>nZ lo hi mx n fun l h m=>fN (Nat.sub h l) fun k=>sI xs l k fun ys=>iK (Nat.beq h m) (K (.aH true el ys) s) (K (.aH false el ys) s)))
  (fun aS l0 m0 o n s el lo hi mx K=>bK (eF aS el) (kR el l0 m0 s fun _ t=>bK (Nat.ble (Nat.add o n) m0) (nZ lo hi mx n fun l h m=>iK (Nat.beq m l) (K (.aH true el []) s) (bK (Nat.beq h m) (fN (Nat.add o l) fun o'=>fN (Nat.sub h l) fun k=>lO .undef k o' t fun ys=>s.di l0 .non fun s'=>K (.aH true el ys) s')))))
  (fun _ _ _ _ _ _ _ _=>false)
  (fun _ _ _ _ _ _ _ _ _ _=>false)
  (fun _ _ _ _ _ _ _ _ _ _ _=>false)
  (fun _ _ _ _ _ _=>false)
  (fun _ _ _ _ _ _=>false)
  (fun _ _ _ _ _ _=>false)
  (fun _ _ _ _ _ _ _ _ _ _ _=>false)
  (fun _ _ _ _ _ _ _ _ _=>false)
  (fun _ _ _ _ _ _=>false)
  (fun _ _ _ _ _ _ _=>false)
  (fun _ _ _ _ _ _ _=>false)
  (fun _ _ _ _ _ _ _ _ _ _=>false)
  (fun _ _ _ _ _ _=>false)
  ⟨⟩ (fun _ _ _ _=>⟨⟩)
noncomputable def Qe:AV->(St)->(El)->(Option AV)->(AV)->(AV)->(AV->St->Bool)->Bool :=
 @AV.rec (fun _=>(St)->(El)->(Option AV)->(AV)->(AV)->(AV->St->Bool)->Bool) (fun _=>PUnit)
  (fun _ _ _ _ _ _=>false)
  (fun _ _ _ _ _ _ _=>false)
  (fun _ _ _ _ _ _ _ _=>false)
  (fun _ _ _ _ _ _ _=>false)
  (fun _ _ _ _ _ _ _ _=>false)
  (fun _ _ _ _ _ _ _ _=>false)
  (fun s el lo hi mx K=>Cf .aP s el lo hi mx K)
  (fun f aS xs _ s el lo hi mx K=>Cf (.aH f aS xs) s el lo hi mx K)
  (fun aS l0 m0 o n s el lo hi mx K=>bK (eF aS el) (nZ lo hi mx 0 fun _ _ _=>K (.aH true el []) s))
  (fun _ _ _ _ _ _ _ _=>false)
  (fun _ _ _ _ _ _ _ _ _ _=>false)
  (fun _ _ _ _ _ _ _ _ _ _ _=>false)
  (fun _ _ _ _ _ _=>false)
  (fun _ _ _ _ _ _=>false)
  (fun _ _ _ _ _ _=>false)
  (fun _ _ _ _ _ _ _ _ _ _ _=>false)
  (fun _ _ _ _ _ _ _ _ _=>false)
  (fun _ _ _ _ _ _=>false)
  (fun _ _ _ _ _ _ _=>false)
  (fun _ _ _ _ _ _ _=>false)
  (fun _ _ _ _ _ _ _ _ _ _=>false)
  (fun _ _ _ _ _ _=>false)
  ⟨⟩ (fun _ _ _ _=>⟨⟩)
noncomputable def HT:AV->(AV)->(Bool->Bool)->Bool :=
 @AV.rec (fun _=>(AV)->(Bool->Bool)->Bool) (fun _=>PUnit)
  (fun _ _=>false)
  (fun _ _ _=>false)
  (fun k a q K=>ek q fun k' b=>bK (jl k k') (K (vQ a b)))
  (fun a q K=>jc q fun b=>K (CP a b))
  (fun _ _ _ _=>false)
  (fun _ _ _ _=>false)
  (fun _ _=>false)
  (fun _ _ _ _ _ _=>false)
  (fun _ _ _ _ _ _ _=>false)
  (fun _ _ _ _=>false)
  (fun _ _ _ _ _ _=>false)
  (fun _ _ _ _ _ _ _=>false)
  (fun _ _=>false)
  (fun _ _=>false)
  (fun _ _=>false)
  (fun _ _ _ _ _ _ _=>false)
  (fun _ _ _ _ _=>false)
  (fun _ _=>false)
  (fun _ _ _=>false)
  (fun _ _ _=>false)
  (fun _ _ _ _ _ _=>false)
  (fun _ _=>false)
  ⟨⟩ (fun _ _ _ _=>⟨⟩)
noncomputable def Cg (kd:Option IntKind) (k:AV):Bool:=@Option.rec IntKind (fun _=>Bool) (jc k fun _=>true) (fun q=>ek k fun k' _=>jl q k') kd
noncomputable def lkK (k:AV) (Kf:AV->Bool) (Kn:Bool):List (AV × AV)->Bool:=@List.rec (AV × AV) (fun _=>Bool) Kn (fun p _ ih=>@Prod.rec AV AV (fun _=>Bool) (fun q v=>HT k q fun b=>iK b (Kf v) ih) p)
noncomputable def AU (k v:AV):List (AV × AV)->(List (AV × AV)->Bool)->Bool:=@List.rec (AV × AV) (fun _=>(List (AV × AV)->Bool)->Bool) (fun K=>K [(k,v)]) (fun p r ih K=>@Prod.rec AV AV (fun _=>Bool) (fun q u=>HT k q fun b=>iK b (K ((k,v)::r)) (ih fun r'=>K ((q,u)::r'))) p)
noncomputable def E6 (ok:Bool) (v:AV) (b:Bool) (K:AV->Bool):Bool:=iK ok (K (.bg [v,.bool b])) (K v)
abbrev nn:=Ctx->List AV->St->KT->KT->Bool
noncomputable def ajl (el:El) (lo:Bool):nn:=fun _ vs s K _=>iK lo (XP vs fun x l h m=>Cf x s el (some l) h m K) (xR vs fun x h m=>Cf x s el none h m K)
noncomputable def aff (el:El) (lo:Bool):nn:=fun _ vs s K _=>iK lo (XP vs fun x l h m=>Qe x s el (some l) h m K) (xR vs fun x h m=>Qe x s el none h m K)
noncomputable def acF:nn:=fun _ vs s K _=>bK (fA vs) (s.jG (.map []) fun l s'=>K (.mp l) s')
noncomputable def aa9:AV->(AV)->(St)->(Bool)->(AV)->(AV->Bool)->Bool :=
 @AV.rec (fun _=>(AV)->(St)->(Bool)->(AV)->(AV->Bool)->Bool) (fun _=>PUnit)
  (fun _ _ _ _ _=>false)
  (fun _ _ _ _ _ _=>false)
  (fun _ _ _ _ _ _ _=>false)
  (fun _ _ _ _ _ _=>false)
  (fun _ _ _ _ _ _ _=>false)
  (fun _ _ _ _ _ _ _=>false)
  (fun _ _ _ _ _=>false)
  (fun _ _ _ _ _ _ _ _ _=>false)
  (fun _ _ _ _ _ _ _ _ _ _=>false)
  (fun _ _ _ _ _ _ _=>false)
  (fun _ _ _ _ _ _ _ _ _=>false)
  (fun _ _ _ _ _ _ _ _ _ _=>false)
  (fun _ _ _ _ _=>false)
  (fun _ _ _ _ _=>false)
  (fun _ _ _ _ _=>false)
  (fun _ _ _ _ _ _ _ _ _ _=>false)
  (fun _ _ _ _ _ _ _ _=>false)
  (fun k s ok zero K=>E6 ok zero false K)
  (fun l k s ok zero K=>s.dI l fun o=>nE o fun es=>lkK k (fun v=>E6 ok v true K) (E6 ok zero false K) es)
  (fun _ _ _ _ _ _=>false)
  (fun _ _ _ _ _ _ _ _ _=>false)
  (fun _ _ _ _ _=>false)
  ⟨⟩ (fun _ _ _ _=>⟨⟩)
noncomputable def XQ (kd:Option IntKind) (ok:Bool) (zero:AV):nn:=fun _ vs s K _=>rM vs fun x k=>bK (Cg kd k) (aa9 x k s ok zero fun v=>K v s)
noncomputable def E7:AV->(Nat->Bool)->Bool :=
 @AV.rec (fun _=>(Nat->Bool)->Bool) (fun _=>PUnit)
  (fun _=>false)
  (fun _ _=>false)
  (fun _ _ _=>false)
  (fun _ _=>false)
  (fun _ _ _=>false)
  (fun _ _ _=>false)
  (fun _=>false)
  (fun _ _ _ _ _=>false)
  (fun _ _ _ _ _ _=>false)
  (fun _ _ _=>false)
  (fun _ _ _ _ _=>false)
  (fun _ _ _ _ _ _=>false)
  (fun _=>false)
  (fun _=>false)
  (fun _=>false)
  (fun _ _ _ _ _ _=>false)
  (fun _ _ _ _=>false)
  (fun _=>false)
  (fun l K=>K l)
  (fun _ _=>false)
  (fun _ _ _ _ _=>false)
  (fun _=>false)
  ⟨⟩ (fun _ _ _ _=>⟨⟩)
noncomputable def Qf (kd:Option IntKind):nn:=fun _ vs s K _=>xR vs fun x k v=>bK (Cg kd k) (E7 x fun l=>s.dI l fun o=>nE o fun es=>AU k v es fun es'=>s.di l (.map es') fun s'=>K (.bg []) s')
noncomputable def aa_:AV->(St)->(AV->Bool)->Bool :=
 @AV.rec (fun _=>(St)->(AV->Bool)->Bool) (fun _=>PUnit)
  (fun _ _=>false)
  (fun _ _ _=>false)
  (fun _ _ _ _=>false)
  (fun _ _ _=>false)
  (fun _ _ _ _=>false)
  (fun _ _ _ _=>false)
  (fun _ _=>false)
  (fun _ _ _ _ _ _=>false)
  (fun _ _ _ _ _ _ _=>false)
  (fun _ _ _ _=>false)
  (fun _ _ _ _ _ _=>false)
  (fun _ _ _ _ _ _ _=>false)
  (fun _ _=>false)
  (fun _ _=>false)
  (fun _ _=>false)
  (fun _ _ _ _ _ _ _=>false)
  (fun _ _ _ _ _=>false)
  (fun s K=>K (.int .i64 0))
  (fun l s K=>s.dI l fun o=>nE o fun es=>dY es 0 fun n=>K (.int .i64 (Int.ofNat n)))
  (fun _ _ _=>false)
  (fun _ _ _ _ _ _=>false)
  (fun _ _=>false)
  ⟨⟩ (fun _ _ _ _=>⟨⟩)
noncomputable def afg:nn:=fun _ vs s K _=>vR vs fun x=>aa_ x s fun v=>K v s
noncomputable def alI:AV->Bool :=
 @AV.rec (fun _=>Bool) (fun _=>PUnit)
  false
  (fun _=>false)
  (fun _ _=>false)
  (fun _=>false)
  (fun _ _=>false)
  (fun _ _=>false)
  false
  (fun _ _ _ _=>false)
  (fun _ _ _ _ _=>false)
  (fun l off=>true)
  (fun el x off _=>true)
  (fun el l m i off=>true)
  false
  false
  false
  (fun _ _ _ _ _=>false)
  (fun _ _ _=>false)
  false
  (fun _=>false)
  (fun _=>false)
  (fun _ _ _ _=>false)
  false
  ⟨⟩ (fun _ _ _ _=>⟨⟩)
noncomputable def Ch (el:El) (n:Nat) (p:AV) (lo hi:Option AV) (K:AV->Bool):Bool:=bK (alI p) (jA hi n n fun h=>jA lo 0 h fun l=>iK (Nat.beq h l) (K (.aH false el [])) (xQ p (Nat.mul l (K_ el)) fun q=>fN (Nat.sub h l) fun k=>K (.lX el q k)))
noncomputable def ajm (el:El) (n:Nat) (lo hi:Bool):nn:=fun _ vs s K _=>iK lo (iK hi (xR vs fun p a b=>Ch el n p (some a) (some b) fun v=>K v s) (rM vs fun p a=>Ch el n p (some a) none fun v=>K v s))
 (iK hi (rM vs fun p b=>Ch el n p none (some b) fun v=>K v s) (vR vs fun p=>Ch el n p none none fun v=>K v s))
noncomputable def U6:AV->(El)->(List AV)->(St)->(AV->St->Bool)->Bool :=
 @AV.rec (fun _=>(El)->(List AV)->(St)->(AV->St->Bool)->Bool) (fun _=>PUnit)
  (fun _ _ _ _=>false)
  (fun _ _ _ _ _=>false)
  (fun _ _ _ _ _ _=>false)
  (fun _ _ _ _ _=>false)
  (fun _ _ _ _ _ _=>false)
  (fun _ _ _ _ _ _=>false)
  (fun el ys s K=>K (.int .i64 0) s)
  (fun f aS xs _ el ys s K=>bK (fA xs) (bK (eF aS el) (K (.int .i64 0) s)))
  (fun aS l m o n el ys s K=>bK (eF aS el) (kR el l m s fun T t=>bK (Nat.ble (Nat.add o n) m) (uy ys n fun zs=>dY zs 0 fun k=>jD .undef zs o t fun _ t'=>s.di l (.vec T el m t') fun s'=>K (.int .i64 (Int.ofNat k)) s')))
  (fun _ _ _ _ _ _=>false)
  (fun _ _ _ _ _ _ _ _=>false)
  (fun _ _ _ _ _ _ _ _ _=>false)
  (fun _ _ _ _=>false)
  (fun _ _ _ _=>false)
  (fun _ _ _ _=>false)
  (fun _ _ _ _ _ _ _ _ _=>false)
  (fun _ _ _ _ _ _ _=>false)
  (fun _ _ _ _=>false)
  (fun _ _ _ _ _=>false)
  (fun _ _ _ _ _=>false)
  (fun aS p n _ el ys s K=>bK (eF aS el) (bK (eF el rL) (uy ys n fun zs=>dY zs 0 fun k=>EU s k p (.agg zs) fun s'=>K (.int .i64 (Int.ofNat k)) s')))
  (fun _ _ _ _=>false)
  ⟨⟩ (fun _ _ _ _=>⟨⟩)
noncomputable def afh (el:El):nn:=fun _ vs s K _=>rM vs fun x y=>wH y s el fun ys=>bK (iq (fun a=>kF a el) ys) (U6 x el ys s K)
noncomputable def aag (aS:El) (l m lo n:Nat) (el:El) (y:AV) (s:St) (K:KT):Bool:=bK (eF aS el) (wH y s el fun ys=>bK (iq (fun a=>kF a el) ys) (kR el l m s fun _ t=>bK (Nat.beq (Nat.add lo n) m) (lO .undef n lo t fun xs=>iM xs ys fun zs=>s.di l .non fun s1=>jD .undef zs 0 .nil fun k t'=>bK (mW k el) (s1.jG (.vec none el k t') fun l' s2=>K (.own el l' k 0 k) s2))))
noncomputable def aah:AV->(El)->(AV)->(St)->(AV->St->Bool)->Bool :=
 @AV.rec (fun _=>(El)->(AV)->(St)->(AV->St->Bool)->Bool) (fun _=>PUnit)
  (fun el y s K=>lA s none el (.undef) y K)
  (fun b el y s K=>lA s none el (.bool b) y K)
  (fun k n el y s K=>lA s none el (.int k n) y K)
  (fun b el y s K=>lA s none el (.str b) y K)
  (fun cs _ el y s K=>lA s none el (.agg cs) y K)
  (fun vs _ el y s K=>lA s none el (.bg vs) y K)
  (fun el y s K=>lA s none el (.aP) y K)
  (fun f aS xs _ el y s K=>lA s none el (.aH f aS xs) y K)
  (fun aS l m lo n el y s K=>@Nat.rec (fun _=>Bool) (lA s none el (.own aS l m 0 n) y K) (fun lo _=>aag aS l m (Nat.succ lo) n el y s K) lo)
  (fun l off el y s K=>lA s none el (.ref l off) y K)
  (fun aS x off _ el y s K=>lA s none el (.cN aS x off) y K)
  (fun aS l m i off el y s K=>lA s none el (.dw aS l m i off) y K)
  (fun el y s K=>lA s none el (.ew) y K)
  (fun el y s K=>lA s none el (.ld) y K)
  (fun el y s K=>lA s none el (.eG) y K)
  (fun f first cap _ _ el y s K=>lA s none el (.fn f first cap) y K)
  (fun t v _ el y s K=>lA s none el (.iS t v) y K)
  (fun el y s K=>lA s none el (.iU) y K)
  (fun l el y s K=>lA s none el (.mp l) y K)
  (fun l el y s K=>lA s none el (.lW l) y K)
  (fun aS p n _ el y s K=>lA s none el (.lX aS p n) y K)
  (fun el y s K=>lA s none el (.lf) y K)
  ⟨⟩ (fun _ _ _ _=>⟨⟩)
noncomputable def ajn:AV->Bool :=
 @AV.rec (fun _=>Bool) (fun _=>PUnit)
  false
  (fun _=>false)
  (fun _ _=>false)
  (fun _=>false)
  (fun _ _=>false)
  (fun _ _=>false)
  true
  (fun _ _ _ _=>false)
  (fun _ _ _ _ _=>false)
  (fun _ _=>false)
  (fun _ _ _ _=>false)
  (fun _ _ _ _ _=>false)
  false
  false
  false
  (fun _ _ _ _ _=>false)
  (fun _ _ _=>false)
  false
  (fun _=>false)
  (fun _=>false)
  (fun _ _ _ _=>false)
  false
  ⟨⟩ (fun _ _ _ _=>⟨⟩)
noncomputable def ajo:AV->Bool :=
 @AV.rec (fun _=>Bool) (fun _=>PUnit)
  false
  (fun _=>false)
  (fun _ _=>false)
  (fun _=>false)
  (fun _ _=>false)
  (fun _ _=>false)
  false
  (fun _ _ _ _=>false)
  (fun _ _ _ _ _=>false)
  (fun _ _=>false)
  (fun _ _ _ _=>false)
  (fun _ _ _ _ _=>false)
  true
  false
  false
  (fun _ _ _ _ _=>false)
  (fun _ _ _=>false)
  false
  (fun _=>false)
  (fun _=>false)
  (fun _ _ _ _=>false)
  false
  ⟨⟩ (fun _ _ _ _=>⟨⟩)
noncomputable def ajp:AV->Bool :=
 @AV.rec (fun _=>Bool) (fun _=>PUnit)
  false
  (fun _=>false)
  (fun _ _=>false)
  (fun _=>false)
  (fun _ _=>false)
  (fun _ _=>false)
  false
  (fun _ _ _ _=>false)
  (fun _ _ _ _ _=>false)
  (fun _ _=>false)
  (fun _ _ _ _=>false)
  (fun _ _ _ _ _=>false)
  false
  true
  false
  (fun _ _ _ _ _=>false)
  (fun _ _ _=>false)
  false
  (fun _=>false)
  (fun _=>false)
  (fun _ _ _ _=>false)
  false
  ⟨⟩ (fun _ _ _ _=>⟨⟩)
noncomputable def ajq:AV->Bool :=
 @AV.rec (fun _=>Bool) (fun _=>PUnit)
  false
  (fun _=>false)
  (fun _ _=>false)
  (fun _=>false)
  (fun _ _=>false)
  (fun _ _=>false)
  false
  (fun _ _ _ _=>false)
  (fun _ _ _ _ _=>false)
  (fun _ _=>false)
  (fun _ _ _ _=>false)
  (fun _ _ _ _ _=>false)
  false
  false
  true
  (fun _ _ _ _ _=>false)
  (fun _ _ _=>false)
  false
  (fun _=>false)
  (fun _=>false)
  (fun _ _ _ _=>false)
  false
  ⟨⟩ (fun _ _ _ _=>⟨⟩)
noncomputable def ajr:AV->Bool :=
 @AV.rec (fun _=>Bool) (fun _=>PUnit)
  false
  (fun _=>false)
  (fun _ _=>false)
  (fun _=>false)
  (fun _ _=>false)
  (fun _ _=>false)
  false
  (fun _ _ _ _=>false)
  (fun _ _ _ _ _=>false)
  (fun _ _=>false)
  (fun _ _ _ _=>false)
  (fun _ _ _ _ _=>false)
  false
  false
  false
  (fun _ _ _ _ _=>false)
  (fun _ _ _=>false)
  true
  (fun _=>false)
  (fun _=>false)
  (fun _ _ _ _=>false)
  false
  ⟨⟩ (fun _ _ _ _=>⟨⟩)
noncomputable def jy (f:AV->AV->Bool):List AV->List AV->Bool:=@List.rec AV (fun _=>List AV->Bool) fA (fun a _ ih ds=>@List.rec AV (fun _=>Bool) false (fun d r _=>bK (f a d) (ih r)) ds)
noncomputable def abb:AV->(Bool)->(El)->(List AV)->(AV->AV->Bool)->Bool :=
 @AV.rec (fun _=>(Bool)->(El)->(List AV)->(AV->AV->Bool)->Bool) (fun _=>PUnit)
  (fun _ _ _ _=>false)
  (fun _ _ _ _ _=>false)
  (fun _ _ _ _ _ _=>false)
  (fun _ _ _ _ _=>false)
  (fun _ _ _ _ _ _=>false)
  (fun _ _ _ _ _ _=>false)
  (fun _ _ _ _=>false)
  (fun f el xs _ f0 el0 xs0 ih=>bK (vC f0 f) (bK (eF el0 el) (jy ih xs0 xs)))
  (fun _ _ _ _ _ _ _ _ _=>false)
  (fun _ _ _ _ _ _=>false)
  (fun _ _ _ _ _ _ _ _=>false)
  (fun _ _ _ _ _ _ _ _ _=>false)
  (fun _ _ _ _=>false)
  (fun _ _ _ _=>false)
  (fun _ _ _ _=>false)
  (fun _ _ _ _ _ _ _ _ _=>false)
  (fun _ _ _ _ _ _ _=>false)
  (fun _ _ _ _=>false)
  (fun _ _ _ _ _=>false)
  (fun _ _ _ _ _=>false)
  (fun _ _ _ _ _ _ _ _=>false)
  (fun _ _ _ _=>false)
  ⟨⟩ (fun _ _ _ _=>⟨⟩)
noncomputable def abd:AV->(El)->(Nat)->(Nat)->(Nat)->(Nat)->Bool :=
 @AV.rec (fun _=>(El)->(Nat)->(Nat)->(Nat)->(Nat)->Bool) (fun _=>PUnit)
  (fun _ _ _ _ _=>false)
  (fun _ _ _ _ _ _=>false)
  (fun _ _ _ _ _ _ _=>false)
  (fun _ _ _ _ _ _=>false)
  (fun _ _ _ _ _ _ _=>false)
  (fun _ _ _ _ _ _ _=>false)
  (fun _ _ _ _ _=>false)
  (fun _ _ _ _ _ _ _ _ _=>false)
  (fun el l m lo n el0 l0 m0 o0 n0=>bK (eF el0 el) (bK (Nat.beq l0 l) (bK (Nat.beq m0 m) (bK (Nat.beq o0 lo) (Nat.beq n0 n)))))
  (fun _ _ _ _ _ _ _=>false)
  (fun _ _ _ _ _ _ _ _ _=>false)
  (fun _ _ _ _ _ _ _ _ _ _=>false)
  (fun _ _ _ _ _=>false)
  (fun _ _ _ _ _=>false)
  (fun _ _ _ _ _=>false)
  (fun _ _ _ _ _ _ _ _ _ _=>false)
  (fun _ _ _ _ _ _ _ _=>false)
  (fun _ _ _ _ _=>false)
  (fun _ _ _ _ _ _=>false)
  (fun _ _ _ _ _ _=>false)
  (fun _ _ _ _ _ _ _ _ _=>false)
  (fun _ _ _ _ _=>false)
  ⟨⟩ (fun _ _ _ _=>⟨⟩)
noncomputable def eqP:AV->(AV->AV->Bool)->(AV)->Bool :=
 @AV.rec (fun _=>(AV->AV->Bool)->(AV)->Bool) (fun _=>PUnit)
  (fun _ _=>false)
  (fun b ih y=>nV y fun b'=>vC b b')
  (fun k n ih y=>ek y fun k' n'=>bK (jl k k') (vQ n n'))
  (fun s ih y=>jc y fun s'=>CP s s')
  (fun cs _ ih y=>sK y fun ds=>jy ih cs ds)
  (fun vs _ ih y=>JQ y fun ds=>jy ih vs ds)
  (fun ih y=>ajn y)
  (fun f el xs _ ih y=>abb y f el xs ih)
  (fun el l m lo n ih y=>abd y el l m lo n)
  (fun l off ih y=>nF y fun l' o'=>bK (Nat.beq l l') (Nat.beq off o'))
  (fun _ _ _ _ _ _=>false)
  (fun _ _ _ _ _ _ _=>false)
  (fun ih y=>ajo y)
  (fun ih y=>ajp y)
  (fun ih y=>ajq y)
  (fun _ _ _ _ _ _ _=>false)
  (fun _ _ _ _ _=>false)
  (fun ih y=>ajr y)
  (fun l ih y=>E7 y fun l'=>Nat.beq l l')
  (fun _ _ _=>false)
  (fun _ _ _ _ _ _=>false)
  (fun _ _=>false)
  ⟨⟩ (fun _ _ _ _=>⟨⟩)
noncomputable def rN:Nat->AV->AV->Bool:=@Nat.rec (fun _=>AV->AV->Bool) (fun _ _=>false) (fun _ ih a b=>eqP a ih b)
noncomputable def sN (k:Nat):AV->Bool :=
 @AV.rec (fun _=>Bool) (fun _=>Bool)
  true
  (fun b=>true)
  (fun k n=>true)
  (fun s=>true)
  (fun cs ih=>ih)
  (fun vs ih=>ih)
  true
  (fun f el xs ih=>ih)
  (fun el l m lo n=>eE (Nat.beq l k))
  (fun l off=>eE (Nat.beq l k))
  (fun el x off ih=>ih)
  (fun el l m i off=>eE (Nat.beq l k))
  true
  true
  true
  (fun f first cap ih Cy=>bK ih Cy)
  (fun t v ih=>ih)
  true
  (fun l=>eE (Nat.beq l k))
  (fun l=>eE (Nat.beq l k))
  (fun el p n ih=>ih)
  true
  true (fun _ _ a b=>bK a b)
noncomputable def E8 {α : Type} (f : α->Bool):Tr α->Bool:=@Tr.rec α (fun _=>Bool) true (fun v _ _ il ir=>bK (f v) (bK il ir))
noncomputable def aai (k:Nat):OB->Bool:=@OB.rec (fun _=>Bool) true (fun _ _ t=>E8 (sN k) t) (fun _ _ _ t=>E8 (sN k) t) (fun _ _=>true) true (fun es=>iq (fun p=>@Prod.rec AV AV (fun _=>Bool) (fun a b=>bK (sN k a) (sN k b)) p) es) (fun _=>false)
noncomputable def U7 (k:Nat) (s:St):Bool:=@St.rec (fun _=>Bool) (fun _ t=>E8 (aai k) t) s
noncomputable def XR (o:OB) (x y:Bool):Bool:=@OB.rec (fun _=>Bool) y (fun _ _ _=>y) (fun _ _ _ _=>y) (fun _ _=>y) x (fun _=>y) (fun _=>y) o
noncomputable def U8 (az:List AV) (s s2:St) (p:AV):Bool:=nF p fun m z=>bK (Nat.beq z 0) (s2.dI m fun o2=>XR o2 (s.dI m fun o=>AP o (bK (iq (sN m) az) (U7 m s))) true)
noncomputable def sO (az:List AV) (s s2:St):List (Bool × Nat)->List AV->Bool->Bool:=@List.rec (Bool × Nat) (fun _=>List AV->Bool->Bool) (fun _ K=>K) (fun p _ ih ps K=>@List.rec AV (fun _=>Bool) false (fun a r _=>@Prod.rec Bool Nat (fun _=>Bool) (fun ag n=>@Nat.rec (fun _=>Bool) (bK (U8 az s s2 a) (ih r K)) (fun m _=>fN (Nat.succ m) fun n=>pC a s ag n fun v=>pC a s2 ag n fun u=>bK (rN 30 v u) (ih r K)) n) p) ps)
noncomputable def alJ (n:FuncId) (k:Nat) (iT:List (Bool × Nat)):nn:=fun c vs s K _=>@List.rec AV (fun _=>Bool) false (fun x r _=>uy (x::r) k fun az=>c.oC n az s fun o s'=>uB o fun v=>Ca (x::r) k fun ps=>sO az s s' iT ps (K v s')) vs
noncomputable def abe:AV->(St)->(Bool->Bool)->Bool :=
 @AV.rec (fun _=>(St)->(Bool->Bool)->Bool) (fun _=>PUnit)
  (fun _ _=>false)
  (fun _ _ _=>false)
  (fun _ _ _ _=>false)
  (fun _ _ _=>false)
  (fun _ _ _ _=>false)
  (fun _ _ _ _=>false)
  (fun s K=>K true)
  (fun f el xs _ s K=>iK (fA xs) false (K false))
  (fun el l m lo n s K=>s.dI l fun o=>JN o fun _ _ k _=>bK (Nat.beq m k) (bK (Nat.ble 1 n) (K false)))
  (fun _ _ _ _=>false)
  (fun _ _ _ _ _ _=>false)
  (fun _ _ _ _ _ _ _=>false)
  (fun _ _=>false)
  (fun _ _=>false)
  (fun _ _=>false)
  (fun _ _ _ _ _ _ _=>false)
  (fun _ _ _ _ _=>false)
  (fun _ _=>false)
  (fun _ _ _=>false)
  (fun _ _ _=>false)
  (fun el p n _ s K=>K false)
  (fun _ _=>false)
  ⟨⟩ (fun _ _ _ _=>⟨⟩)
noncomputable def afi (neg:Bool):nn:=fun _ vs s K _=>vR vs fun x=>abe x s fun r=>K (.bool (iK neg (eE r) r)) s
noncomputable def abf:AV->(El)->(List AV)->(Nat)->(St)->(AV->Bool)->Bool :=
 @AV.rec (fun _=>(El)->(List AV)->(Nat)->(St)->(AV->Bool)->Bool) (fun _=>PUnit)
  (fun _ _ _ _ _=>false)
  (fun _ _ _ _ _ _=>false)
  (fun _ _ _ _ _ _ _=>false)
  (fun _ _ _ _ _ _=>false)
  (fun _ _ _ _ _ _ _=>false)
  (fun _ _ _ _ _ _ _=>false)
  (fun el ys n s K=>bK (mW n el) (K (.aH false el ys)))
  (fun f aS xs _ el ys n s K=>bK f (bK (eF aS el) (dY xs n fun m=>bK (mW m el) (iM xs ys fun zs=>K (.aH false el zs)))))
  (fun _ _ _ _ _ _ _ _ _ _=>false)
  (fun _ _ _ _ _ _ _=>false)
  (fun _ _ _ _ _ _ _ _ _=>false)
  (fun _ _ _ _ _ _ _ _ _ _=>false)
  (fun _ _ _ _ _=>false)
  (fun _ _ _ _ _=>false)
  (fun _ _ _ _ _=>false)
  (fun _ _ _ _ _ _ _ _ _ _=>false)
  (fun _ _ _ _ _ _ _ _=>false)
  (fun _ _ _ _ _=>false)
  (fun _ _ _ _ _ _=>false)
  (fun _ _ _ _ _ _=>false)
  (fun _ _ _ _ _ _ _ _ _=>false)
  (fun _ _ _ _ _=>false)
  ⟨⟩ (fun _ _ _ _=>⟨⟩)
noncomputable def afj (el:El):nn:=fun _ vs s K _=>rM vs fun x y=>wH y s el fun ys=>bK (iq (fun a=>kF a el) ys) (dY ys 0 fun n=>bK (eE (Nat.beq n 0)) (abf x el ys n s fun v=>K v s))
noncomputable def ajs (el:El):nn:=fun _ vs s K _=>rM vs fun x y=>aah x el y s K
noncomputable def ajt (name:String):nn:=fun c vs s K Kp=>@List.rec AV (fun _=>Bool) false (fun x r _=>JR x fun T v=>@Option.rec FuncId (fun _=>Bool) false (fun f=>c.oC f (v::r) s (oZ K Kp)) (z7 c.P T name)) vs
noncomputable def afk:AV->(TypeId)->(Bool)->(AV)->(AV->Bool)->Bool :=
 @AV.rec (fun _=>(TypeId)->(Bool)->(AV)->(AV->Bool)->Bool) (fun _=>PUnit)
  (fun _ _ _ _=>false)
  (fun _ _ _ _ _=>false)
  (fun _ _ _ _ _ _=>false)
  (fun _ _ _ _ _=>false)
  (fun _ _ _ _ _ _=>false)
  (fun _ _ _ _ _ _=>false)
  (fun _ _ _ _=>false)
  (fun _ _ _ _ _ _ _ _=>false)
  (fun _ _ _ _ _ _ _ _ _=>false)
  (fun _ _ _ _ _ _=>false)
  (fun _ _ _ _ _ _ _ _=>false)
  (fun _ _ _ _ _ _ _ _ _=>false)
  (fun _ _ _ _=>false)
  (fun _ _ _ _=>false)
  (fun T ok z K=>bK ok (K (.bg [z,.bool false])))
  (fun _ _ _ _ _ _ _ _ _=>false)
  (fun t v _ T ok z K=>iK (Nat.beq t T) (iK ok (K (.bg [v,.bool true])) (K v)) (bK ok (K (.bg [z,.bool false]))))
  (fun _ _ _ _=>false)
  (fun _ _ _ _ _=>false)
  (fun _ _ _ _ _=>false)
  (fun _ _ _ _ _ _ _ _=>false)
  (fun _ _ _ _=>false)
  ⟨⟩ (fun _ _ _ _=>⟨⟩)
noncomputable def aju (T:TypeId) (ok:Bool) (z:AV):nn:=fun _ vs s K _=>vR vs fun x=>afk x T ok z fun v=>K v s
noncomputable def afl:AV->(Nat)->(St)->(AV->St->Bool)->Bool :=
 @AV.rec (fun _=>(Nat)->(St)->(AV->St->Bool)->Bool) (fun _=>PUnit)
  (fun _ _ _=>false)
  (fun _ _ _ _=>false)
  (fun _ _ _ _ _=>false)
  (fun _ _ _ _=>false)
  (fun _ _ _ _ _=>false)
  (fun _ _ _ _ _=>false)
  (fun _ _ _=>false)
  (fun f aS xs _ n s K=>bK (eF aS rL) (bK (Nat.ble 1 n) (bK (dY xs 0 (Nat.ble n)) (uy xs n fun ys=>K (.cN ⟨true,n⟩ (.agg ys) 0) s))))
  (fun aS l m o k n s K=>bK (eF aS rL) (kR rL l m s fun _ t=>bK (Nat.ble (Nat.add o k) m) (bK (Nat.ble 1 n) (bK (Nat.ble n k) (lO .undef n o t fun ys=>s.di l .non fun s'=>K (.cN ⟨true,n⟩ (.agg ys) 0) s')))))
  (fun _ _ _ _ _=>false)
  (fun _ _ _ _ _ _ _=>false)
  (fun _ _ _ _ _ _ _ _=>false)
  (fun _ _ _=>false)
  (fun _ _ _=>false)
  (fun _ _ _=>false)
  (fun _ _ _ _ _ _ _ _=>false)
  (fun _ _ _ _ _ _=>false)
  (fun _ _ _=>false)
  (fun _ _ _ _=>false)
  (fun _ _ _ _=>false)
  (fun _ _ _ _ _ _ _=>false)
  (fun _ _ _=>false)
  ⟨⟩ (fun _ _ _ _=>⟨⟩)
noncomputable def ajv (n:Nat):nn:=fun _ vs s K _=>vR vs fun x=>afl x n s K
noncomputable def XS (k:AV) (Kf:Nat->AV->Bool) (Kn:Nat->Bool):List (AV × AV)->Nat->Bool:=@List.rec (AV × AV) (fun _=>Nat->Bool) (fun i=>Kn i) (fun p _ ih i=>@Prod.rec AV AV (fun _=>Bool) (fun q v=>HT k q fun b=>iK b (Kf i v) (fN (Nat.succ i) ih)) p)
noncomputable def afm (kd:Option IntKind) (z:AV):nn:=fun _ vs s K _=>rM vs fun x k=>bK (Cg kd k) (E7 x fun l=>s.dI l fun o=>nE o fun es=>XS k (fun i v=>K (.bg [v,.int .i64 (Int.ofNat i)]) s) (fun i=>iM es [(k,z)] fun es'=>s.di l (.map es') fun s'=>K (.bg [z,.int .i64 (Int.ofNat i)]) s') es 0)
noncomputable def afn:nn:=fun _ vs s K _=>xR vs fun x b v=>E7 x fun l=>ek b fun k z=>bK (jl k .i64) (jW z fun i=>s.dI l fun o=>nE o fun es=>bK (dY es 0 (Nat.ble (Nat.succ i))) (sH default es i fun p=>@Prod.rec AV AV (fun _=>Bool) (fun q _=>wG es i (q,v) fun es'=>s.di l (.map es') fun s'=>K (.bg []) s') p))
noncomputable def afo:AV->(El)->(AV)->(St)->(St->Bool)->Bool :=
 @AV.rec (fun _=>(El)->(AV)->(St)->(St->Bool)->Bool) (fun _=>PUnit)
  (fun _ _ _ _=>false)
  (fun _ _ _ _ _=>false)
  (fun _ _ _ _ _ _=>false)
  (fun _ _ _ _ _=>false)
  (fun _ _ _ _ _ _=>false)
  (fun _ _ _ _ _ _=>false)
  (fun el z s K=>K s)
  (fun f aS xs _ el z s K=>bK (fA xs) (K s))
  (fun aS l m o n el z s K=>bK (eF aS el) (bK (kF z el) (kR el l m s fun T t=>bK (Nat.ble (Nat.add o n) m) (Cb z n fun zs=>jD .undef zs o t fun _ t'=>s.di l (.vec T el m t') fun s'=>K s'))))
  (fun _ _ _ _ _ _=>false)
  (fun _ _ _ _ _ _ _ _=>false)
  (fun _ _ _ _ _ _ _ _ _=>false)
  (fun _ _ _ _=>false)
  (fun _ _ _ _=>false)
  (fun _ _ _ _=>false)
  (fun _ _ _ _ _ _ _ _ _=>false)
  (fun _ _ _ _ _ _ _=>false)
  (fun _ _ _ _=>false)
  (fun _ _ _ _ _=>false)
  (fun _ _ _ _ _=>false)
  (fun _ _ _ _ _ _ _ _=>false)
  (fun _ _ _ _=>false)
  ⟨⟩ (fun _ _ _ _=>⟨⟩)
noncomputable def ajw (el:El) (z:AV):nn:=fun _ vs s K _=>vR vs fun x=>afo x el z s fun s'=>K (.bg []) s'
noncomputable def alK (_:FuncId):nn:=fun _ _ _ _ _=>false
noncomputable def ef.K:ef->nn:=@ef.rec (fun _=>nn) ajl acF XQ Qf afg ajm afh ajt ajs aff afj alJ afi aju ajv afm afn ajw alK (fun _ _ _ _ _=>false) (fun _ _ _ _ _ _=>false)
noncomputable def alL (o:ef) (xs:List AX):iY:=fun c t s K Kp=>nW xs t fun vs=>ef.K o c vs s K Kp
noncomputable def bf.K:bf->iY:=@bf.rec (fun _=>iY) alL alF aeZ acp ai5 acq aaf o_load acr acs ai6 ai7 alG ae1 ai8 ai9 ai_ acu ae2 aja ajd acv acw acy ae4 ae5 aje ae6
 ae7 ajf ajg ajh afa aji ajj ajk acz (XL true) (XL false) XM acA acB afb afc XO acC afd afe acE acD
abbrev QK:=nx->Tr AV->St->Bool
noncomputable def E9 (t:Tr AV) (d:Option Nat) (v:AV) (K:Tr AV->Bool):Bool:=@Option.rec Nat (fun _=>Tr AV->AV->(Tr AV->Bool)->Bool) (fun t _ K=>K t) (fun d t v K=>Tr.di .undef 60 t d v K) d t v K
noncomputable def U9 (op:bf) (d:Option Nat) (ih:QK->Tr AV->St->Bool) (c:Ctx) (Q:QK) (t:Tr AV) (s:St):Bool:=bf.K op c t s (fun v s'=>E9 t d v fun t'=>ih Q t' s') (fun v s'=>Q (.panic v) t s')
noncomputable def aaj (d:Option Nat) (ih:QK->Tr AV->St->Bool) (Q:QK) (t:Tr AV) (s:St):Bool:=E9 t d (.bg []) fun t'=>ih Q t' s
noncomputable def gdP:AV->(Bool)->(Bool->Bool)->Bool :=
 @AV.rec (fun _=>(Bool)->(Bool->Bool)->Bool) (fun _=>PUnit)
  (fun _ _=>false)
  (fun x b K=>K (vC x b))
  (fun _ _ _ _=>false)
  (fun _ _ _=>false)
  (fun _ _ _ _=>false)
  (fun vs _ b K=>bK (fA vs) (K false))
  (fun _ _=>false)
  (fun _ _ _ _ _ _=>false)
  (fun _ _ _ _ _ _ _=>false)
  (fun _ _ _ _=>false)
  (fun _ _ _ _ _ _=>false)
  (fun _ _ _ _ _ _ _=>false)
  (fun _ _=>false)
  (fun _ _=>false)
  (fun _ _=>false)
  (fun _ _ _ _ _ _ _=>false)
  (fun _ _ _ _ _=>false)
  (fun _ _=>false)
  (fun _ _ _=>false)
  (fun _ _ _=>false)
  (fun _ _ _ _ _ _=>false)
  (fun _ _=>false)
  ⟨⟩ (fun _ _ _ _=>⟨⟩)
noncomputable def sP:List bV->Ctx->QK->Tr AV->St->Bool:=@List.rec bV (fun _=>Ctx->QK->Tr AV->St->Bool) (fun _ Q t s=>Q .normal t s)
 (fun g _ ih c Q t s => @bV.rec (fun _ => Bool) (fun op d gd => @Option.rec (Nat × Bool) (fun _ => Bool) (U9 op d (ih c) c Q t s)
   (fun p=>@Prod.rec Nat Bool (fun _=>Bool) (fun k b=>Tr.dI .undef t k fun v=>gdP v b fun y=>iK y (U9 op d (ih c) c Q t s) (aaj d (ih c) Q t s)) p) gd) g)
noncomputable def alM:AV->Option Nat :=
 @AV.rec (fun _=>Option Nat) (fun _=>PUnit)
  none
  (fun _=>none)
  (fun _ _=>none)
  (fun _=>none)
  (fun _ _=>none)
  (fun _ _=>none)
  none
  (fun _ _ _ _=>none)
  (fun _ _ _ _ _=>none)
  (fun l _=>some l)
  (fun _ _ _ _=>none)
  (fun _ l _ _ _=>some l)
  none
  none
  none
  (fun _ _ _ _ _=>none)
  (fun _ _ _=>none)
  none
  (fun _=>none)
  (fun _=>none)
  (fun _ _ _ _=>none)
  none
  ⟨⟩ (fun _ _ _ _=>⟨⟩)
noncomputable def aak:AV->Option Nat :=
 @AV.rec (fun _=>Option Nat) (fun _=>PUnit)
  none
  (fun _=>none)
  (fun _ _=>none)
  (fun _=>none)
  (fun _ _=>none)
  (fun _ _=>none)
  none
  (fun _ _ _ _=>none)
  (fun el l m lo n=>some l)
  (fun l off=>some l)
  (fun _ _ _ _=>none)
  (fun el l m i off=>some l)
  none
  none
  none
  (fun _ _ _ _ _=>none)
  (fun _ _ _=>none)
  none
  (fun l=>some l)
  (fun _=>none)
  (fun el p n _=>alM p)
  none
  ⟨⟩ (fun _ _ _ _=>⟨⟩)
noncomputable def JT (x y:AV):Bool:=@Option.rec Nat (fun _=>Bool) true (fun l=>@Option.rec Nat (fun _=>Bool) true (fun l'=>eE (Nat.beq l l')) (aak y)) (aak x)
noncomputable def JU:List (AX × AX)->Tr AV->Bool:=@List.rec (AX × AX) (fun _=>Tr AV->Bool) (fun _=>true) (fun p _ ih t=>@Prod.rec AX AX (fun _=>Bool) (fun x y=>cA x t fun a=>cA y t fun b=>bK (JT a b) (ih t)) p)
noncomputable def y8 (K:Tr AV->St->Bool) (Q:QK):QK:=fun x t s=>@nx.rec (fun _=>(Tr AV->St->Bool)->(QK)->Tr AV->St->Bool)
 (fun K Q t s=>K t s)
 (fun id K Q t s=>Q (.exit id) t s)
 (fun l K Q t s=>Q (.goto l) t s)
 (fun K Q t s=>Q (.ret ) t s)
 (fun v K Q t s=>Q (.panic v) t s)
  x K Q t s
noncomputable def XT (i:Nat) (Q:QK):QK:=fun x t s=>@nx.rec (fun _=>(Nat)->(QK)->Tr AV->St->Bool)
 (fun i Q t s=>Q (.normal ) t s)
 (fun id i Q t s=>iK (Nat.beq id i) (Q .normal t s) (Q (.exit id) t s))
 (fun l i Q t s=>Q (.goto l) t s)
 (fun i Q t s=>Q (.ret ) t s)
 (fun v i Q t s=>Q (.panic v) t s)
  x i Q t s
noncomputable def abg (fO:List (AX × AX)) (Q:QK):QK:=fun x t s=>@nx.rec (fun _=>(List (AX × AX))->(QK)->Tr AV->St->Bool)
 (fun fO Q t s=>bK (JU fO t) (Q .normal t s))
 (fun id fO Q t s=>Q (.exit id) t s)
 (fun l fO Q t s=>Q (.goto l) t s)
 (fun fO Q t s=>Q (.ret ) t s)
 (fun v fO Q t s=>bK (eE (qc fO)) (Q (.panic v) t s))
  x fO Q t s
noncomputable def NU (i:Nat) (J:Tr AV->St->Bool) (Q:QK):QK:=fun x t s=>@nx.rec (fun _=>(Nat)->(Tr AV->St->Bool)->(QK)->Tr AV->St->Bool)
 (fun i J Q t s=>Q (.normal ) t s)
 (fun id i J Q t s=>Q (.exit id) t s)
 (fun l i J Q t s=>bK (Nat.beq l i) (J t s))
 (fun i J Q t s=>Q (.ret ) t s)
 (fun v i J Q t s=>Q (.panic v) t s)
  x i J Q t s
noncomputable def U_:Nat->(QK->Tr AV->St->Bool)->QK->Tr AV->St->Bool:=@Nat.rec (fun _=>(QK->Tr AV->St->Bool)->QK->Tr AV->St->Bool) (fun _ _ _ _=>false) (fun _ ih b Q t s=>b (y8 (ih b Q) Q) t s)
noncomputable def AW (l:Nat):Nat->(QK->Tr AV->St->Bool)->QK->Tr AV->St->Bool:=@Nat.rec (fun _=>(QK->Tr AV->St->Bool)->QK->Tr AV->St->Bool) (fun _ _ _ _=>false) (fun _ ih b Q t s=>b (NU l (ih b Q) Q) t s)
noncomputable def afp (l:Nat) (K:Out->St->Bool):QK:=fun x _ s=>s.dI l fun ob=>sJ ob fun m=>UR m (@nx.rec (fun _=>Bool)
 (s.di l (.loop .MN) fun s'=>K (.ret (.bool true)) s')
 (fun i=>s.di l (.loop (.ex i)) fun s'=>K (.ret (.bool false)) s')
 (fun i=>s.di l (.loop (.gt i)) fun s'=>K (.ret (.bool false)) s')
 (s.di l (.loop .ret) fun s'=>K (.ret (.bool false)) s')
 (fun _=>false) x)
noncomputable def afq (l:Nat) (body:QK->Tr AV->St->Bool) (K:Out->St->Bool):QK:=fun x t s=>@nx.rec (fun _=>Bool)
 (s.dI l fun ob=>sJ ob fun m=>JO m (s.di l (.loop .XG) fun s'=>body (afp l K) t s')) (fun _=>false) (fun _=>false) false (fun _=>false) x
noncomputable def Qg (l:Nat) (ps:List Nat) (LZ body:QK->Tr AV->St->Bool) (t:Tr AV):YK:=fun az s K=>bK (dY az 0 fun n=>dY ps 0 (Nat.beq n)) (s.dI l fun ob=>sJ ob fun m=>JO m (Cd ps az t fun t1=>LZ (afq l body K) t1 s))
noncomputable def abh (l:Nat) (Q:QK) (t:Tr AV) (o:Out) (s:St):Bool:=@Out.rec (fun _=>Bool) (fun _=>s.dI l fun ob=>sJ ob fun m=>s.di l .non fun s'=>@LM.rec (fun _=>Bool) (Q .normal t s') false (Q .ret t s') (fun i=>Q (.exit i) t s') (fun i=>Q (.goto i) t s') m) (fun _=>false) o
noncomputable def JV (l:Nat):CQ->Bool:=@List.rec (Nat × YK) (fun _=>Bool) true (fun p _ ih=>@Prod.rec Nat YK (fun _=>Bool) (fun m _=>bK (eE (Nat.beq m l)) ih) p)
noncomputable def ajx (f:AX) (ps:List Nat) (LZ body:QK->Tr AV->St->Bool) (c:Ctx) (Q:QK) (t:Tr AV) (s:St):Bool:=cA f t fun g=>xO g fun fn a b=>nY fn fun n=>s.jG (.loop .MN) fun l s1=>bK (JV l c.s9) (iM a (.lW l::b) fun az=>c.GZ ((l,Qg l ps LZ body t)::c.s9) n az s1 (abh l Q t))
noncomputable def jr:cQ->Ctx->QK->Tr AV->St->Bool:=@cQ.rec (fun _=>Ctx->QK->Tr AV->St->Bool)
 (fun _ Q t s=>Q .normal t s)
 (fun ops c Q t s=>sP ops c Q t s)
 (fun ops fO c Q t s=>sP ops c (abg fO Q) t s)
 (fun _ _ pN qN c Q t s=>pN c (y8 (qN c Q) Q) t s)
 (fun x _ _ pN qN c Q t s=>cA x t fun v=>nV v fun b=>iK b (pN c Q t s) (qN c Q t s))
 (fun id _ ih c Q t s=>ih c (XT id Q) t s)
 (fun _ ih c Q t s=>U_ 1000000 (ih c) Q t s)
 (fun id _ Q t s=>Q (.exit id) t s)
 (fun _ Q t s=>Q .ret t s)
 (fun l _ _ GH Wv c Q t s=>GH c (NU l (AW l 1000000 (Wv c) Q) Q) t s)
 (fun _ _ Q t s=>Q .normal t s)
 (fun l _ Q t s=>Q (.goto l) t s)
 (fun f _ ps _ _ _ _ pN qN c Q t s=>ajx f ps (pN c) (qN c) c Q t s)
 (fun _ _ _ _=>false)
noncomputable def xS:List kp->Tr AV->St->(List AV->Bool)->Bool:=@List.rec kp (fun _=>Tr AV->St->(List AV->Bool)->Bool) (fun _ _ K=>K [])
 (fun r _ ih t s K=>@kp.rec (fun _=>Bool) (fun n=>Tr.dI .undef t n fun v=>ih t s fun vs=>K (v::vs)) (fun n ag m=>Tr.dI .undef t n fun p=>pC p s ag m fun v=>ih t s fun vs=>K (v::vs)) r)
noncomputable def lT (vs:List AV) (K:AV->Bool):Bool:=@List.rec AV (fun _=>Bool) (K (.bg [])) (fun a l _=>@List.rec AV (fun _=>Bool) (K a) (fun _ _ _=>K (.bg vs)) l) vs
noncomputable def xU (rs:List kp) (K:Out->St->Bool):QK:=fun x t s=>@nx.rec (fun _=>List kp->(Out->St->Bool)->Tr AV->St->Bool)
 (fun rs K t s=>xS rs t s fun vs=>lT vs fun v=>K (.ret v) s) (fun _ _ _ _ _=>false) (fun _ _ _ _ _=>false)
 (fun rs K t s=>xS rs t s fun vs=>lT vs fun v=>K (.ret v) s) (fun v _ K _ s=>K (.panic v) s) x rs K t s
def aal(P:Program)(hs:FuncId->Hints)(n:FuncId): Option FG:=match P.funcs[n]? with
 | some fn => match fn.name == "runtime.NumGoroutine" with
   | true=>none
   | false=>tu P (hs n) fn
 | none=>none
def aam(P:Program)(hs:FuncId->Hints)(n:FuncId): Option JM:=match P.funcs[n]? with
 | some fn => match fn.name == "runtime.NumGoroutine" with
   | true=>none
   | false=>EN P (hs n) fn
 | none=>none
def aan(P:Program)(hs:FuncId->Hints)(n:FuncId): Option B8:=match P.funcs[n]? with
 | some fn => match fn.name == "runtime.NumGoroutine" with
   | true=>none
   | false=>HS P (hs n) fn
 | none=>none
def Va(P:Program)(hs:FuncId->Hints)(n:FuncId): Option xN:=match P.funcs[n]? with
 | some fn => match fn.name == "runtime.NumGoroutine" with
   | true=>none
   | false=>EK P (hs n) fn
 | none=>none
noncomputable def Vb:List (AX × Option Nat)->Tr AV->(Tr AV->Bool)->Bool:=@List.rec (AX × Option Nat) (fun _=>Tr AV->(Tr AV->Bool)->Bool) (fun t K=>K t)
 (fun p _ ih t K=>@Prod.rec AX (Option Nat) (fun _=>Bool) (fun x d=>cA x t fun v=>E9 t d v fun t'=>ih t' K) p)
noncomputable def Vc (K:St->Bool):QK:=fun x _ s=>@nx.rec (fun _=>(St->Bool)->St->Bool) (fun K s=>K s) (fun _ _ _=>false) (fun _ _ _=>false) (fun K s=>K s) (fun _ _ _=>false) x K s
noncomputable def Vd (c:Ctx) (n:FuncId) (args:List AV) (pv:AV) (s:St) (K:St->Bool):Bool:=@Option.rec xN (fun _=>Bool) false
 (fun rf=>@xN.rec (fun _=>Bool) (fun nt k _ gs=>bK (dY args 0 fun m=>Nat.ble m nt) (jD .undef args 0 .nil fun _ t=>Tr.di .undef 60 t k pv fun t=>sP gs c (Vc K) t s)) rf) (Va c.P c.hs n)
noncomputable def La (c:Ctx) (n:FuncId) (args:List AV) (pv:AV) (s:St) (K:St->Bool):Bool:=@Option.rec B8 (fun _=>Bool) (Vd c n args pv s K)
 (fun rf=>@B8.rec (fun _=>Bool) (fun nt k SL rest=>bK (dY args 0 fun m=>Nat.ble m nt) (jD .undef args 0 .nil fun _ t=>Tr.di .undef 60 t k pv fun t=>Vb SL t fun t=>jr rest c (Vc K) t s)) rf) (aan c.P c.hs n)
noncomputable def HU (c:Ctx) (rs:List kp) (K:Out->St->Bool) (n:FuncId) (args:List AV):QK:=fun x t s=>@nx.rec (fun _=>Bool)
 (La c n args .eG s fun s'=>xS rs t s' fun vs=>lT vs fun v=>K (.ret v) s') (fun _=>false) (fun _=>false)
 (La c n args .eG s fun s'=>xS rs t s' fun vs=>lT vs fun v=>K (.ret v) s')
 (fun v=>La c n args v s fun s'=>xS rs t s' fun vs=>lT vs fun v=>K (.ret v) s') x
noncomputable def JW:sG->Ctx->QK->(FuncId->List AV->QK)->Tr AV->St->Bool:=@sG.rec (fun _=>Ctx->QK->(FuncId->List AV->QK)->Tr AV->St->Bool)
 (fun a _ ih c Q QD t s=>jr a c (y8 (ih c Q QD) Q) t s)
 (fun ops x rest c Q QD t s=>sP ops c (y8 (fun t s=>cA x t fun v=>xO v fun f a b=>nY f fun n=>iM a b fun az=>jr rest c (QD n az) t s) Q) t s)
abbrev pY:=List AV->St->(AV->St->Bool)->Bool->Bool
noncomputable def Ci (P:Program) (ne:FuncId->Bool) (hs:FuncId->Hints) (df:FuncId->Bool) (ih:CQ->FV) (Γ : CQ) (n:FuncId) (args:List AV) (s:St) (K:Out->St->Bool):Bool:=iK (df n)
 (@Option.rec JM (fun _=>Bool) false (fun af=>@JM.rec (fun _=>Bool) (fun nt rs body=>bK (dY args 0 fun k=>Nat.ble k nt) (jD .undef args 0 .nil fun _ t=>JW body ⟨P,ne,hs,ih,Γ⟩ (xU rs K) (HU ⟨P,ne,hs,ih,Γ⟩ rs K) t s)) af) (aam P hs n))
 (@Option.rec FG (fun _=>Bool) false (fun af=>@FG.rec (fun _=>Bool) (fun nt rs body=>bK (dY args 0 fun k=>Nat.ble k nt) (jD .undef args 0 .nil fun _ t=>jr body ⟨P,ne,hs,ih,Γ⟩ (xU rs K) t s)) af) (aal P hs n))
noncomputable def pD (P:Program) (ne:FuncId->Bool) (hs:FuncId->Hints) (df:FuncId->Bool) (ex:FuncId->Option pY):Nat->CQ->FV:=@Nat.rec (fun _=>CQ->FV) (fun _ _ _ _ _=>false)
 (fun _ ih Γ n args s K=>@Option.rec pY (fun _=>Bool) (Ci P ne hs df ih Γ n args s K) (fun f=>f args s (fun r s1=>K (.ret r) s1) (Ci P ne hs df ih Γ n args s K)) (ex n))
def aL{b x:Bool}: bK b x=true↔b=true/\x=true:=by cases b<;>simp[bK]
def ig(n:Nat)(K:Nat->Bool): fN n K=K n:=by cases n<;>rfl
def wI(z:Int)(K:Int->Bool): fI z K=K z:=by cases z<;>exact ig _ _
def kS(b:Bool): eE b = !b:=by cases b<;>rfl
def tY(a b:Bool): vC a b=(a==b):=by cases a<;>cases b<;>rfl
def fD(b x y:Bool): iK b x y=if b then x else y:=by cases b<;>rfl
def gg{a b:Nat}: Nat.beq a b=true↔a=b:=⟨Nat.eq_of_beq_eq_true,fun h=>by subst h;exact Nat.beq_refl _⟩
def pE(a b:Nat): Nat.beq a b=decide (a=b):=by
 by_cases h:a=b
 ·subst h;simp[Nat.beq_refl]
 have:Nat.beq a b≠true:=fun e=>h (gg.1 e);simp[h];exact gN _ ▸ this
def d_(a b:Nat): Nat.ble a b=decide (a<=b):=by
 by_cases h:a<=b
 ·simp[h,Nat.ble_eq_true_of_le h]
 have:Nat.ble a b≠true:=fun e=>h (Nat.le_of_ble_eq_true e);simp[h];exact gN _ ▸ this
def uY(x y:Int): vQ x y=(x==y):=by
 cases x<;>cases y<;>simp only[vQ,pE]<;>rw[Bool.eq_iff_iff]<;>simp<;>omega
def E_(x y:Int): AO x y=decide (x<y):=by
 cases x<;>cases y<;>simp only[AO,d_]<;>rw[Bool.eq_iff_iff]<;>simp<;>omega
section
variable {α : Type}
def Tr.val(d : α): Tr α-> α
 | .nil=>d
 | .node v _ _=>v
def Tr.get(d : α): Tr α->Nat-> α
 | .nil,_=>d
 | .node v _ _,0=>v
 | .node _ l r,m+1=>if m % 2=0 then l.get d (m / 2)else r.get d (m / 2)
def Tr.oX(d : α)(t:Tr α): ∀(n:Nat) (K : α->Bool),t.dI d n K=K (t.get d n):=by
 induction t with
 | nil=>intro n K;rfl
 | node v l r il ir =>
   intro n K;cases n with
   | zero=>rfl
   | succ m =>
     show iK (Nat.beq (Nat.mod m 2) 0) (l.dI d (m / 2) K) (r.dI d (m / 2) K)=K (if m % 2=0 then l.get d (m / 2)else r.get d (m / 2));rw[il,ir,fD,pE,show Nat.mod m 2=m % 2 from rfl];by_cases h:m % 2=0<;>simp[h]
def Tr.fx(d : α): ∀(f:Nat) (t:Tr α) (n:Nat) (v : α) (K:Tr α->Bool),Tr.di d f t n v K=true-> ∃ t',K t'=true/\ ∀ m,t'.get d m=if m=n then v else t.get d m:=by
 intro f
 induction f with
 | zero=>intro t n v K h;cases h
 | succ f ih =>
   intro t n v K h
   have key:∀ (u : α) (l r:Tr α),(∀ m,t.get d m=(Tr.node u l r).get d m)->Tr.Z8 u l r (Tr.di d f) n v K=true-> ∃ t',K t'=true/\ ∀ m,t'.get d m=if m=n then v else t.get d m:=by
    intro u l r ht h;cases n with
    | zero=>exact⟨.node v l r,h,fun m=>by cases m with|zero=>rfl|succ m=>rw[ht];rfl⟩
    | succ n =>
      have h:iK (Nat.beq (Nat.mod n 2) 0) (Tr.di d f l (n / 2) v fun l'=>K (.node u l' r)) (Tr.di d f r (n / 2) v fun r'=>K (.node u l r'))=true:=h;rw[fD,pE,show Nat.mod n 2=n % 2 from rfl]at h;by_cases h2:n % 2=0
      ·simp only[h2,decide_true,if_true]at h;obtain⟨l',h3,h4⟩:=ih _ _ _ _ h;refine⟨.node u l' r,h3,fun m=>?_⟩;rw[ht];cases m with
       | zero=>rfl
       | succ m =>
         show(if m % 2=0 then l'.get d (m / 2)else r.get d (m / 2))=if m+1=n+1 then v else(if m % 2=0 then l.get d (m / 2)else r.get d (m / 2))
         by_cases h5:m % 2=0
         ·rw[aB h5,h4,aB h5];by_cases h6:m / 2=n / 2
          ·rw[aB h6,aB ae]
          rw[aq h6,aq ae]
         rw[aq h5,aq h5,aq ae]
      simp only[h2,decide_false,aN,if_false]at h;obtain⟨r',h3,h4⟩:=ih _ _ _ _ h;refine⟨.node u l r',h3,fun m=>?_⟩;rw[ht];cases m with
      | zero=>rfl
      | succ m =>
        show(if m % 2=0 then l.get d (m / 2)else r'.get d (m / 2))=if m+1=n+1 then v else(if m % 2=0 then l.get d (m / 2)else r.get d (m / 2))
        by_cases h5:m % 2=0
        ·rw[aB h5,aB h5,aq ae]
        rw[aq h5,h4,aq h5];by_cases h6:m / 2=n / 2
        ·rw[aB h6,aB ae]
        rw[aq h6,aq ae]
   cases t with
   | nil=>exact key d .nil .nil (fun m=>by cases m with|zero=>rfl|succ m=>simp only[Tr.get];split<;>rfl) h
   | node u l r=>exact key u l r (fun _=>rfl) h
def wS(d : α)(l:List α): ∀(n:Nat) (K : α->Bool),sH d l n K=K (l.getD n d):=by
 induction l with
 | nil=>intro n K;rfl
 | cons a l ih => intro n K; cases n with
   | zero=>rfl
   | succ n=>exact ih n K
def HV(l:List α): ∀(n:Nat) (K:List α->Bool),Ca l n K=K (l.drop n):=by
 induction l with
 | nil=>intro n K;cases n<;>rfl
 | cons a l ih => intro n K; cases n with
   | zero=>rfl
   | succ n=>exact ih n K
def xV(l:List α): ∀(n:Nat) (K:List α->Bool),uy l n K=K (l.take n):=by
 induction l with
 | nil=>intro n K;cases n<;>rfl
 | cons a l ih => intro n K; cases n with
   | zero=>rfl
   | succ n=>exact ih n _
def wT(l:List α)(lo n:Nat)(K:List α->Bool): sI l lo n K=K ((l.drop lo).take n):=by rw[sI,HV,xV]
def Lb(l:List α): ∀(n:Nat) (K:Nat->Bool),dY l n K=K (n+l.length):=by
 induction l with
 | nil=>intro n K;rfl
 | cons a l ih =>
   intro n K;show(fN (Nat.succ n) fun m=>dY l m K)=_;rw[ig,ih,aE];congr 1;omega
def j0(l:List α)(K:Nat->Bool): dY l 0 K=K l.length:=by rw[Lb,bp]
def kx(l m:List α): ∀(K:List α->Bool),iM l m K=K (l++m):=by
 induction l with
 | nil=>intro K;rfl
 | cons a l ih=>intro K;exact ih _
def HW(l:List α): ∀(n:Nat) (v : α) (K:List α->Bool),wG l n v K=K (l.set n v):=by
 induction l with
 | nil=>intro n v K;rfl
 | cons a l ih => intro n v K; cases n with
   | zero=>rfl
   | succ n=>exact ih n v _
def qx(f : α->Bool)(l:List α): iq f l=l.all f:=by
 induction l with
 | nil=>rfl
 | cons a l ih =>
   show bK (f a) (iq f l)=_;rw[ih];cases h:f a<;>simp[h,bK]
def FX{β : Type}{f : α->(β->Bool)->Bool}{R : α-> β->Prop}(hf:∀ a K,f a K=true-> ∃ b,R a b/\K b=true)(l:List α): ∀(K:List β->Bool),kQ f l K=true-> ∃ m:List β,l.length=m.length/\(∀ p ∈ l.zip m,R p.1 p.2)/\K m=true:=by
 induction l with
 | nil=>intro K h;exact⟨[],rfl,fun p hp=>(by cases hp),h⟩
 | cons a l ih =>
   intro K h;have h:(f a fun b=>kQ f l fun m=>K (b::m))=true:=h;obtain⟨b,h1,h2⟩:=hf _ _ h;obtain⟨m,h3,h4,h5⟩:=ih _ h2;refine⟨b::m,by simp[h3],fun p hp=>?_,h5⟩;rw[List.zip_cons_cons,fj]at hp;rcases hp with rfl|hp
   ·exact h1
   exact h4 p hp
def acG{β : Type}{f : α->(β->Bool)->Bool}{g : α-> β}(hf:∀ a K,f a K=K (g a))(l:List α): ∀(K:List β->Bool),kQ f l K=K (l.map g):=by
 induction l with
 | nil=>intro K;rfl
 | cons a l ih=>intro K;show(f a fun b=>kQ f l fun m=>K (b::m))=_;rw[hf,ih];rfl
def aH(d : α)(off n:Nat)(t:Tr α): List α:=(List.range' off n).map (t.get d)
def lH(d : α): ∀(n off:Nat) (t:Tr α) (K:List α->Bool),lO d n off t K=K (aH d off n t):=by
 intro n
 induction n with
 | zero=>intro off t K;rfl
 | succ n ih =>
   intro off t K;show(Tr.dI d t off fun v=>fN (Nat.succ off) fun o=>lO d n o t fun l=>K (v::l))=_;rw[Tr.oX,ig,ih];simp[aH,List.range'_succ]
def Fa(d : α)(l:List α): ∀(n:Nat) (t:Tr α) (K:Nat->Tr α->Bool),jD d l n t K=true-> ∃ t',K (n+l.length) t'=true/\ ∀ m,t'.get d m=if n<=m/\m<n+l.length then l.getD (m-n) d else t.get d m:=by
 induction l with
 | nil=>intro n t K h;exact⟨t,h,fun m=>by rw[aq (by simp<;>omega)]⟩
 | cons a l ih =>
   intro n t K h;have h:(Tr.di d 60 t n a fun t'=>fN (Nat.succ n) fun m=>jD d l m t' K)=true:=h;obtain⟨t1,h1,h2⟩:=Tr.fx _ _ _ _ _ _ h;rw[ig]at h1;obtain⟨t2,h3,h4⟩:=ih _ _ _ h1;refine⟨t2,by rw[aE,show n+(l.length+1)=n.succ+l.length by omega];exact h3,fun m=>?_⟩;rw[h4,h2,aE];by_cases e:m=n
   ·subst e;rw[aq ae,aB rfl,aB ae,Nat.sub_self];rfl
   rw[aq e];by_cases e2:n.succ<=m/\m<n.succ+l.length
   ·rw[aB e2,aB ae,show m-n=(m-n.succ)+1 by omega];rfl
   rw[aq e2,aq ae]
def bZ(d : α)(off n:Nat)(t:Tr α): (aH d off n t).length=n:=by simp[aH]
def rO(d : α){off n:Nat}{t:Tr α}{i:Nat}(h:i<n)(e : α): (aH d off n t).getD i e=t.get d (off+i):=by
 rw[aj,aJ (by rw[bZ];exact h)];simp[aH]
def tZ(d : α){lo k n:Nat}{t:Tr α}(h:lo+k<=n): ((aH d 0 n t).drop lo).take k=aH d lo k t:=by
 apply List.ext_getElem
 ·simp[aH];omega
 intro i h1 h2;simp[aH]
def AY(d : α){n:Nat}{t:Tr α}{l:List α}(hl:l.length=n)(h:∀ i,i<n->t.get d i=l.getD i d): aH d 0 n t=l:=by
 apply List.ext_getElem
 ·simp[aH,hl]
 intro i h1 h2;have:=h i (by rw[bZ]at h1;exact h1);rw[aj,aJ h2]at this;simpa[aH]using this
def l9(d : α){l:List α}{K:Nat->Tr α->Bool}(h:jD d l 0 .nil K=true): ∃ t,K l.length t=true/\aH d 0 l.length t=l:=by
 obtain⟨t,h1,h2⟩:=Fa d l 0 .nil K h;rw[bp]at h1;exact⟨t,h1,AY d rfl fun i hi=>by rw[h2,aB ae,Nat.sub_zero]⟩
def acH(d : α){l:List α}{n:Nat}{t:Tr α}{K:Nat->Tr α->Bool}(h:jD d l n t K=true): ∃ t',K (n+l.length) t'=true/\aH d 0 (n+l.length) t'=aH d 0 n t++l:=by
 obtain⟨t',h1,h2⟩:=Fa d l n t K h;refine⟨t',h1,AY d (by simp[aH]) fun i hi=>?_⟩;rw[h2];by_cases e:n<=i
 ·rw[aB ⟨e,hi⟩,aj,aj,bx (by simpa[aH]using e)];simp[aH]
 rw[aq ae,List.getD_eq_getElem?_getD,aO (by simp[aH];omega),← List.getD_eq_getElem?_getD,rO d ae,bp]
end
def Ld(v:List AV): ∀(cs:List AV) (off:Nat),(dm cs off v).length=cs.length:=by
 induction v with
 | nil=>intro cs off;rfl
 | cons a v ih=>intro cs off;rw[dm,ih,eC]
def Qh(v:List AV): ∀(cs:List AV) (off i:Nat),off+v.length<=cs.length->(dm cs off v).getD i .undef=if off<=i/\i<off+v.length then v.getD (i-off) .undef else cs.getD i .undef:=by
 induction v with
 | nil=>intro cs off i h;rw[aq (by simp<;>omega)];rfl
 | cons a v ih =>
   intro cs off i h;rw[aE]at h |-;rw[dm,ih _ _ _ (by rw[eC];omega)];by_cases e:i=off
   ·subst e;rw[aq ae,aB ae,Nat.sub_self,aj,bI ae];rfl
   have hs:(cs.set off a).getD i .undef=cs.getD i .undef:=by rw[aj,aI (fun h=>e h.symm),<-aj]
   by_cases e2:off+1<=i/\i<off+1+v.length
   ·rw[aB e2,aB ae,show i-off=(i-(off+1))+1 by omega];rfl
   rw[aq e2,aq ae,hs]
def Le{vs:List AV}{off n:Nat}{t:Tr AV}{K:Nat->Tr AV->Bool}(hn:off+vs.length<=n)(h:jD .undef vs off t K=true): ∃ k t',K k t'=true/\aH .undef 0 n t'=dm (aH .undef 0 n t) off vs:=by
 obtain⟨t',h1,h2⟩:=Fa _ _ _ _ _ h;refine⟨_,t',h1,AY _ (by rw[Ld,bZ]) fun i hi=>?_⟩;rw[h2,Qh _ _ _ _ (by rw[bZ];exact hn),rO _ hi,bp]
def G0(zs:List AV): ∀(off:Nat) (cs:List AV) (K:List AV->Bool),tW zs off cs K=K (dm cs off zs):=by
 induction zs with
 | nil=>intro off cs K;rfl
 | cons a zs ih =>
   intro off cs K;show(wG cs off a fun cs'=>tW zs (Nat.succ off) cs' K)=_;rw[HW,ih];rfl
def Qi{n i:Nat}{t:Tr AV}{v:AV}{K:Tr AV->Bool}(hi:i<n)(h:Tr.di .undef 60 t i v K=true): ∃ t',K t'=true/\aH .undef 0 n t'=(aH .undef 0 n t).set i v:=by
 obtain⟨t',h1,h2⟩:=Tr.fx _ _ _ _ _ _ h;refine⟨t',h1,AY _ (by rw[eC,bZ]) fun j hj=>?_⟩;rw[h2];by_cases e:j=i
 ·subst e;rw[aB rfl,aj,bI (by rw[bZ];exact hj)];rfl
 rw[aq e,aj,aI (fun h=>e h.symm),<-aj,rO _ hj,bp]
def Fb(a:List UInt8): ∀ b,CP a b=(a==b):=by
 induction a with
 | nil=>intro b;cases b<;>rfl
 | cons x a ih =>
   intro b;cases b with
   | nil=>rfl
   | cons y b =>
     show bK (Nat.beq x.toNat y.toNat) (CP a b)=_;rw[ih,pE,List.cons_beq_cons];by_cases h:x=y
     ·subst h;simp[bK]
     have:x.toNat≠y.toNat:=fun e=>h (UInt8.toNat_inj.1 e);simp[this,h,bK]
def JX(a:List UInt8): ∀ b,GY a b=Op.bytesLess a b:=by
 induction a with
 | nil=>intro b;cases b<;>rfl
 | cons x a ih =>
   intro b;cases b with
   | nil=>rfl
   | cons y b =>
     show iK (Nat.beq x.toNat y.toNat) (GY a b) (Nat.ble (Nat.succ x.toNat) y.toNat)=(x<y ||(x==y && Op.bytesLess a b));rw[ih,pE,d_,fD];by_cases h:x=y
     ·subst h;simp
     have h1:x.toNat≠y.toNat:=fun e=>h (UInt8.toNat_inj.1 e);have h2:(x==y)=false:=by simpa using h
     simp only[h1,decide_false,aN,if_false,h2,iy,Bool.or_false];rw[cq];simp[UInt8.lt_iff_toNat_lt];omega
def dZ{a b:El}: eF a b=true↔a=b:=by
 cases a;cases b;simp only[eF,aL,tY,gg,El.mk.injEq,beq_iff_eq]
def LM.st: LM->LoopState
 | .MN=> .ready
 | .XG=> .busy
 | _=> .done
def LM.pe: LM->Option Code
 | .ret=>some .ret
 | .ex i=>some (.exit i)
 | .gt i=>some (.goto i)
 | _=>none
structure LD where
 nt:Nat
 e:Nat->AV
 ps:Array Tmp
 ca:Code
 cb:Code
deriving Inhabited
class LV where
 v:Nat->LD
def LD.obj(d:LD)(st:LoopState)(pe:Option Code): bG:= .loop d.nt d.e d.ps d.ca d.cb st pe
def OB.abs[LV](i:Nat): OB->bG
 | .non=> .dead
 | .cells T n t=> .bH T (aH .undef 0 n t)
 | .vec T el n t=> .bW T el (aH .undef 0 n t)
 | .fZ s p=> .fZ s p
 | .resv=> .resv
 | .map es=> .map es
 | .loop m=>(LV.v i).obj m.st m.pe
section
variable [LV]
def St.abs(s:St): ai:=(List.range s.n).map fun i=>(s.t.get .non i).abs i
def St.Lf(s:St): s.abs.length=s.n:=by simp[St.abs]
def St.gD{s:St}{l:Nat}{K:OB->Bool}(h:s.dI l K=true): ∃ o,s.abs[l]? = some (o.abs l)/\K o=true:=by
 cases s with|mk n t =>
 have h:bK (Nat.ble (Nat.succ l) n) (Tr.dI .non t l K)=true:=h;rw[aL,d_,Tr.oX,au]at h;exact⟨t.get .non l,by have:l<n:=h.1;simp[St.abs,this],h.2⟩
def St.Qj{s:St}{l:Nat}{o:OB}{K:St->Bool}(h:s.di l o K=true): ∃ s',(s'.n=s.n/\l<s.n/\ ∀ i,s'.t.get .non i=if i=l then o else s.t.get .non i)/\K s'=true:=by
 cases s with|mk n t =>
 have h:bK (Nat.ble (Nat.succ l) n) (Tr.di .non 60 t l o fun t'=>K ⟨n,t'⟩)=true:=h;rw[aL,d_,au]at h;obtain⟨t',h1,h2⟩:=Tr.fx _ _ _ _ _ _ h.2;exact⟨⟨n,t'⟩,⟨rfl,h.1,h2⟩,h1⟩
def St.SO{s s':St}{l:Nat}{o:OB}(h:s'.n=s.n/\l<s.n/\ ∀ i,s'.t.get .non i=if i=l then o else s.t.get .non i): s'.abs=s.abs.set l (o.abs l):=by
 obtain⟨h1,h0,h2⟩:=h;apply List.ext_getElem
 ·simp[St.abs,h1]
 intro i h3 h4;simp only[St.abs,List.getElem_map,List.getElem_range,List.getElem_set,h2];by_cases e:i=l
 ·subst e;simp
 rw[aq e,aq (fun h=>e h.symm)]
def St.fx{s:St}{l:Nat}{o:OB}{K:St->Bool}(h:s.di l o K=true): ∃ s',s'.abs=s.abs.set l (o.abs l)/\K s'=true:=by
 obtain⟨s',h1,h2⟩:=St.Qj h;exact⟨s',St.SO h1,h2⟩
def St.MP{s:St}{o:OB}{K:Nat->St->Bool}(h:s.jG o K=true): ∃ s',(s'.n=s.n+1/\ ∀ i,s'.t.get .non i=if i=s.n then o else s.t.get .non i)/\K s.n s'=true:=by
 cases s with|mk n t =>
 have h:(Tr.di .non 60 t n o fun t'=>fN (Nat.succ n) fun m=>K n ⟨m,t'⟩)=true:=h;obtain⟨t',h1,h2⟩:=Tr.fx _ _ _ _ _ _ h;rw[ig]at h1;exact⟨⟨n+1,t'⟩,⟨rfl,h2⟩,h1⟩
def St.Qk{s s':St}{o:OB}(h:s'.n=s.n+1/\ ∀ i,s'.t.get .non i=if i=s.n then o else s.t.get .non i): s'.abs=s.abs++[o.abs s.abs.length]:=by
 obtain⟨h1,h2⟩:=h;apply List.ext_getElem
 ·simp[St.abs,h1]
 intro i h3 h4;simp only[St.abs,List.getElem_map,List.getElem_range,h2];by_cases e:i=s.n
 ·subst e;simp
 simp[St.abs,h1]at h3;rw[aq e,List.getElem_append_left (by simp;omega)];simp
def St.kz{s:St}{o:OB}{K:Nat->St->Bool}(h:s.jG o K=true): ∃ s',s'.abs=s.abs++[o.abs s.abs.length]/\K s.abs.length s'=true:=by
 obtain⟨s',h1,h2⟩:=St.MP h;exact⟨s',St.Qk h1,by rw[St.Lf];exact h2⟩
end
def St.XU{V V':LV}{s:St}(h:∀ i,i<s.n->V'.v i=V.v i\/s.t.get .non i = .non): @St.abs V' s = @St.abs V s:=by
 unfold St.abs;apply List.map_congr_left;intro i hi;rcases h i (by simpa using hi)with e|e
 ·generalize s.t.get .non i=ob;cases ob<;>first|rfl|simp only[OB.abs,e]
 rw[e];rfl
def k_{o:OB}{K:Option TypeId->Nat->Tr AV->Bool}(h:onCells o K=true): ∃ T n t,o = .cells T n t/\K T n t=true:=by cases o<;>first|exact absurd (show false=true from h) Bool.false_ne_true|exact⟨_,_,_,rfl,h⟩
def HX{o:OB}{K:Option TypeId->El->Nat->Tr AV->Bool}(h:JN o K=true): ∃ T el n t,o = .vec T el n t/\K T el n t=true:=by cases o<;>first|exact absurd (show false=true from h) Bool.false_ne_true|exact⟨_,_,_,_,rfl,h⟩
def XV{o:OB}{K:List UInt8->Nat->Bool}(h:P6 o K=true): ∃ s p,o = .fZ s p/\K s p=true:=by cases o<;>first|exact absurd (show false=true from h) Bool.false_ne_true|exact⟨_,_,rfl,h⟩
def MQ{o:OB}{K:Bool}(h:AP o K=true): o = .resv/\K=true:=by cases o<;>first|exact absurd (show false=true from h) Bool.false_ne_true|exact⟨rfl,h⟩
def t_{o:OB}{K:List (AV × AV)->Bool}(h:nE o K=true): ∃ es,o = .map es/\K es=true:=by cases o<;>first|exact absurd (show false=true from h) Bool.false_ne_true|exact⟨_,rfl,h⟩
def y9{o:OB}{K:LM->Bool}(h:sJ o K=true): ∃ m,o = .loop m/\K m=true:=by cases o<;>first|exact absurd (show false=true from h) Bool.false_ne_true|exact⟨_,rfl,h⟩
def Ql{m:LM}{x:Bool}(h:JO m x=true): m = .MN/\x=true:=by cases m<;>first|exact absurd (show false=true from h) Bool.false_ne_true|exact⟨rfl,h⟩
def aao{m:LM}{x:Bool}(h:UR m x=true): m = .XG/\x=true:=by cases m<;>first|exact absurd (show false=true from h) Bool.false_ne_true|exact⟨rfl,h⟩
def Qm{g:AV}{Y:Nat->Bool}{X:Bool}(h:NS g Y X=true): (∃ l,g = .lW l/\Y l=true)\/X=true:=by cases g<;>first|exact .inr h|exact .inl ⟨_,rfl,h⟩
def SP: ∀ {Γ : CQ} {l:Nat} {K:YK->Bool},Qb Γ l K=true-> ∃ y,(l,y) ∈ Γ/\K y=true
 | [],_,_,h=>absurd (show false=true from h) gP
 | (m, y) :: r, l, K, h => by
   replace h:iK (Nat.beq m l) (K y) (Qb r l K)=true:=h
   rw[fD]at h;split at h
   ·rename_i e;obtain rfl:=gg.1 e;exact⟨y,aT,h⟩
   obtain⟨z,h1,h2⟩:=SP h;exact⟨z,cP _ h1,h2⟩
def MR: ∀ {Γ : CQ} {l:Nat},JV l Γ = true-> ∀ p ∈ Γ,p.1≠l
 | [],_,_,p,hp=>by cases hp
 | (m, y) :: r, l, h, p, hp => by
   replace h:bK (eE (Nat.beq m l)) (JV l r)=true:=h
   rw[aL,kS,pE]at h;rcases List.mem_cons.1 hp with rfl|hp
   ·simpa using h.1
   exact MR h.2 p hp
def G1: ∀(ps:List Nat) (az:List AV) (t:Tr AV) {K:Tr AV->Bool},Cd ps az t K=true-> ∃ t',t'.get .undef=nJ ps az (t.get .undef)/\K t'=true
 | [],az,t,K,h=>⟨t,by cases az<;>rfl,h⟩
 | p::ps,[],t,K,h=>⟨t,rfl,h⟩
 | p :: ps, a :: az, t, K, h => by
   obtain⟨t1,h1,h2⟩:=Tr.fx _ _ _ _ _ _ (show Tr.di .undef 60 t p a (fun t'=>Cd ps az t' K)=true from h);obtain⟨t',h3,h4⟩:=G1 ps az t1 h1;refine⟨t',?_,h4⟩;rw[h3];show nJ ps az (t1.get .undef)=nJ ps az (cZ (t.get .undef) (some p) a)
   congr 1
   funext m;exact h2 m
def eY{x:AV}{K:IntKind->Int->Bool}(h:ek x K=true): ∃ k n,x = .int k n/\K k n=true:=by cases x<;>first|exact absurd (show false=true from h) Bool.false_ne_true|exact⟨_,_,rfl,h⟩
def rP{x:AV}{K:Bool->Bool}(h:nV x K=true): ∃ b,x = .bool b/\K b=true:=by cases x<;>first|exact absurd (show false=true from h) Bool.false_ne_true|exact⟨_,rfl,h⟩
def jB{x:AV}{K:List UInt8->Bool}(h:jc x K=true): ∃ b,x = .str b/\K b=true:=by cases x<;>first|exact absurd (show false=true from h) Bool.false_ne_true|exact⟨_,rfl,h⟩
def ua{x:AV}{K:List AV->Bool}(h:sK x K=true): ∃ b,x = .agg b/\K b=true:=by cases x<;>first|exact absurd (show false=true from h) Bool.false_ne_true|exact⟨_,rfl,h⟩
def Qn{x:AV}{K:List AV->Bool}(h:JQ x K=true): ∃ b,x = .bg b/\K b=true:=by cases x<;>first|exact absurd (show false=true from h) Bool.false_ne_true|exact⟨_,rfl,h⟩
def oD{x:AV}{K:Nat->Nat->Bool}(h:nF x K=true): ∃ l off,x = .ref l off/\K l off=true:=by cases x<;>first|exact absurd (show false=true from h) Bool.false_ne_true|exact⟨_,_,rfl,h⟩
def AZ{x:AV}{K:Fn->List AV->List AV->Bool}(h:xO x K=true): ∃ f a b,x = .fn f a b/\K f a b=true:=by cases x<;>first|exact absurd (show false=true from h) Bool.false_ne_true|exact⟨_,_,_,rfl,h⟩
def Qo{x:AV}{K:TypeId->AV->Bool}(h:JR x K=true): ∃ t v,x = .iS t v/\K t v=true:=by cases x<;>first|exact absurd (show false=true from h) Bool.false_ne_true|exact⟨_,_,rfl,h⟩
def rQ{f:Fn}{K:FuncId->Bool}(h:nY f K=true): ∃ n,f = .func n/\K n=true:=by cases f<;>first|exact absurd (show false=true from h) Bool.false_ne_true|exact⟨_,rfl,h⟩
def rR(x:AV)(K:List AV->Bool): oO x K=K x.cells:=by cases x<;>rfl
def aap(x:AV): sL x=x.scalar:=by cases x<;>rfl
def A0(l:List AV): iq sL l=l.all AV.scalar:=by rw[qx];congr 1;funext x;exact aap x
def nq(x:AV)(el:El): kF x el=x.fits el:=by
 cases el with|mk a z =>
 cases x<;>first
  | rfl
  | (show bK (eE a) (Nat.beq z 1) = (!a && z == 1)
     rw[kS,pE];cases a<;>simp[bK]<;>rfl)
  | (rename_i cs
     show bK a (bK (dY cs 0 (Nat.beq z)) (iq sL cs))=(a && cs.length==z && cs.all AV.scalar);rw[j0,pE,A0];cases a<;>simp[bK];by_cases h:z=cs.length
     ·subst h;simp
     ·have:¬ cs.length=z:=fun e=>h e.symm;simp[h,this])
def kC{α : Type}{l:List α}: fA l=true↔l=[]:=by cases l<;>simp[fA]
def cy(x:AX)(t:Tr AV)(K:AV->Bool): cA x t K=K (x.ev (t.get .undef)):=by
 cases x with
 | t n=>exact Tr.oX _ _ _ _
 | c a=>rfl
def oY(l:List AX)(t:Tr AV): ∀(K:List AV->Bool),nW l t K=K (l.map (AX.ev (t.get .undef))):=by
 induction l with
 | nil=>intro K;rfl
 | cons a l ih=>intro K;show(cA a t fun v=>nW l t fun l=>K (v::l))=_;rw[cy,ih];rfl
