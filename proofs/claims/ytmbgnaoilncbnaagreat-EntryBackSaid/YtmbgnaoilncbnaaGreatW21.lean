/- Part of a proof: see Root. -/
import Derived.Test.YtmbgnaoilncbnaaGreatW20
set_option linter.unnecessarySimpa false
set_option linter.unusedSimpArgs false
set_option linter.unusedVariables false
namespace Go.AM.B
noncomputable def bK (b x : Bool) : Bool := @Bool.rec (fun _ => Bool) false x b
noncomputable def iK (b x y : Bool) : Bool := @Bool.rec (fun _ => Bool) y x b
noncomputable def fN (n : Nat) : (Nat → Bool) → Bool := @Nat.rec (fun _ => (Nat → Bool) → Bool) (fun K => K 0) (fun m _ K => K (Nat.succ m)) n
noncomputable def fI (z : Int) : (Int → Bool) → Bool := @Int.rec (fun _ => (Int → Bool) → Bool) (fun n K => fN n fun n => K (Int.ofNat n)) (fun n K => fN n fun n => K (Int.negSucc n)) z
noncomputable def eqI (x : Int) : Int → Bool := @Int.rec (fun _ => Int → Bool)
  (fun a y => @Int.rec (fun _ => Nat → Bool) (fun b a => Nat.beq a b) (fun _ _ => false) y a)
  (fun a y => @Int.rec (fun _ => Nat → Bool) (fun _ _ => false) (fun b a => Nat.beq a b) y a) x
noncomputable def ltI (x : Int) : Int → Bool := @Int.rec (fun _ => Int → Bool)
  (fun a y => @Int.rec (fun _ => Nat → Bool) (fun b a => Nat.ble (Nat.succ a) b) (fun _ _ => false) y a)
  (fun a y => @Int.rec (fun _ => Nat → Bool) (fun _ _ => true) (fun b a => Nat.ble (Nat.succ b) a) y a) x
noncomputable def notK (b : Bool) : Bool := @Bool.rec (fun _ => Bool) true false b
noncomputable def beqB (a b : Bool) : Bool := @Bool.rec (fun _ => Bool → Bool) (fun b => notK b) (fun b => b) a b
inductive Tr (α : Type) where
  | nil
  | node (v : α) (l r : Tr α)
section
variable {α : Type}
noncomputable def Tr.getK (d : α) : Tr α → Nat → (α → Bool) → Bool :=
  @Tr.rec α (fun _ => Nat → (α → Bool) → Bool) (fun _ K => K d)
    (fun v _ _ il ir n K => @Nat.rec (fun _ => Bool) (K v) (fun m _ => iK (Nat.beq (Nat.mod m 2) 0) (il (Nat.div m 2) K) (ir (Nat.div m 2) K)) n)
noncomputable def Tr.setN (u : α) (l r : Tr α) (ih : Tr α → Nat → α → (Tr α → Bool) → Bool) (n : Nat) (v : α) (K : Tr α → Bool) : Bool :=
  @Nat.rec (fun _ => Bool) (K (.node v l r)) (fun m _ => iK (Nat.beq (Nat.mod m 2) 0) (ih l (Nat.div m 2) v (fun l' => K (.node u l' r))) (ih r (Nat.div m 2) v (fun r' => K (.node u l r')))) n
noncomputable def Tr.setK (d : α) : Nat → Tr α → Nat → α → (Tr α → Bool) → Bool :=
  @Nat.rec (fun _ => Tr α → Nat → α → (Tr α → Bool) → Bool) (fun _ _ _ _ => false)
    (fun _ ih t => @Tr.rec α (fun _ => Nat → α → (Tr α → Bool) → Bool) (Tr.setN d .nil .nil ih) (fun u l r _ _ => Tr.setN u l r ih) t)
noncomputable def nthK (d : α) : List α → Nat → (α → Bool) → Bool :=
  @List.rec α (fun _ => Nat → (α → Bool) → Bool) (fun _ K => K d) (fun a _ ih n K => @Nat.rec (fun _ => Bool) (K a) (fun m _ => ih m K) n)
noncomputable def dropK : List α → Nat → (List α → Bool) → Bool :=
  @List.rec α (fun _ => Nat → (List α → Bool) → Bool) (fun _ K => K []) (fun a l ih n K => @Nat.rec (fun _ => Bool) (K (a :: l)) (fun m _ => ih m K) n)
noncomputable def takeK : List α → Nat → (List α → Bool) → Bool :=
  @List.rec α (fun _ => Nat → (List α → Bool) → Bool) (fun _ K => K []) (fun a _ ih n K => @Nat.rec (fun _ => Bool) (K []) (fun m _ => ih m (fun l => K (a :: l))) n)
noncomputable def cutK (l : List α) (lo n : Nat) (K : List α → Bool) : Bool := dropK l lo fun m => takeK m n K
noncomputable def lenK : List α → Nat → (Nat → Bool) → Bool :=
  @List.rec α (fun _ => Nat → (Nat → Bool) → Bool) (fun n K => K n) (fun _ _ ih n K => fN (Nat.succ n) fun m => ih m K)
noncomputable def appendK : List α → List α → (List α → Bool) → Bool :=
  @List.rec α (fun _ => List α → (List α → Bool) → Bool) (fun m K => K m) (fun a _ ih m K => ih m (fun l => K (a :: l)))
noncomputable def setLK : List α → Nat → α → (List α → Bool) → Bool :=
  @List.rec α (fun _ => Nat → α → (List α → Bool) → Bool) (fun _ _ K => K []) (fun a l ih n v K => @Nat.rec (fun _ => Bool) (K (v :: l)) (fun m _ => ih m v (fun l' => K (a :: l'))) n)
noncomputable def setManyK (zs : List α) : Nat → List α → (List α → Bool) → Bool := fun off cs K =>
  @List.rec α (fun _ => Nat → List α → (List α → Bool) → Bool) (fun _ cs K => K cs) (fun a _ ih n cs K => setLK cs n a (fun cs' => ih (Nat.succ n) cs' K)) zs off cs K
noncomputable def allB (f : α → Bool) : List α → Bool := @List.rec α (fun _ => Bool) true (fun a _ ih => bK (f a) ih)
noncomputable def mapK {β : Type} (f : α → (β → Bool) → Bool) : List α → (List β → Bool) → Bool :=
  @List.rec α (fun _ => (List β → Bool) → Bool) (fun K => K []) (fun a _ ih K => f a fun b => ih fun l => K (b :: l))
noncomputable def lstK (d : α) : Nat → Nat → Tr α → (List α → Bool) → Bool :=
  @Nat.rec (fun _ => Nat → Tr α → (List α → Bool) → Bool) (fun _ _ K => K []) (fun _ ih off t K => Tr.getK d t off fun v => fN (Nat.succ off) fun o => ih o t fun l => K (v :: l))
noncomputable def ofK (d : α) : List α → Nat → Tr α → (Nat → Tr α → Bool) → Bool :=
  @List.rec α (fun _ => Nat → Tr α → (Nat → Tr α → Bool) → Bool) (fun n t K => K n t) (fun a _ ih n t K => Tr.setK d 60 t n a fun t' => fN (Nat.succ n) fun m => ih m t' K)
end
noncomputable def eqS : List UInt8 → List UInt8 → Bool :=
  @List.rec UInt8 (fun _ => List UInt8 → Bool) (@List.rec UInt8 (fun _ => Bool) true (fun _ _ _ => false))
    (fun a _ ih m => @List.rec UInt8 (fun _ => UInt8 → (List UInt8 → Bool) → Bool) (fun _ _ => false) (fun b l _ a ih => bK (Nat.beq a.toNat b.toNat) (ih l)) m a ih)
noncomputable def ltS : List UInt8 → List UInt8 → Bool :=
  @List.rec UInt8 (fun _ => List UInt8 → Bool) (@List.rec UInt8 (fun _ => Bool) false (fun _ _ _ => true))
    (fun a _ ih m => @List.rec UInt8 (fun _ => UInt8 → (List UInt8 → Bool) → Bool) (fun _ _ => false)
      (fun b l _ a ih => iK (Nat.beq a.toNat b.toNat) (ih l) (Nat.ble (Nat.succ a.toNat) b.toNat)) m a ih)
noncomputable def elEq (a b : El) : Bool := @El.rec (fun _ => El → Bool) (fun a z y => @El.rec (fun _ => Bool → Nat → Bool) (fun a' z' a z => bK (beqB a a') (Nat.beq z z')) y a z) a b
inductive OB where
  | non
  | cells (T : Option TypeId) (n : Nat) (t : Tr AV)
  | vec (T : Option TypeId) (el : El) (n : Nat) (t : Tr AV)
  | siter (s : List UInt8) (pos : Nat)
  | resv
structure St where
  n : Nat
  t : Tr OB
noncomputable def St.getK (s : St) (l : Nat) (K : OB → Bool) : Bool := @St.rec (fun _ => Nat → (OB → Bool) → Bool) (fun n t l K => bK (Nat.ble (Nat.succ l) n) (Tr.getK .non t l K)) s l K
noncomputable def St.setK (s : St) (l : Nat) (o : OB) (K : St → Bool) : Bool := @St.rec (fun _ => Nat → OB → (St → Bool) → Bool) (fun n t l o K => bK (Nat.ble (Nat.succ l) n) (Tr.setK .non 60 t l o fun t' => K ⟨n, t'⟩)) s l o K
noncomputable def St.pushK (s : St) (o : OB) (K : Nat → St → Bool) : Bool := @St.rec (fun _ => OB → (Nat → St → Bool) → Bool) (fun n t o K => Tr.setK .non 60 t n o fun t' => fN (Nat.succ n) fun m => K n ⟨m, t'⟩) s o K
noncomputable def onCells (o : OB) (K : Option TypeId → Nat → Tr AV → Bool) : Bool := @OB.rec (fun _ => (Option TypeId → Nat → Tr AV → Bool) → Bool) (fun _ => false) (fun T n t K => K T n t) (fun _ _ _ _ _ => false) (fun _ _ _ => false) (fun _ => false) o K
noncomputable def onVec (o : OB) (K : Option TypeId → El → Nat → Tr AV → Bool) : Bool := @OB.rec (fun _ => (Option TypeId → El → Nat → Tr AV → Bool) → Bool) (fun _ => false) (fun _ _ _ _ => false) (fun T el n t K => K T el n t) (fun _ _ _ => false) (fun _ => false) o K
noncomputable def onIter (o : OB) (K : List UInt8 → Nat → Bool) : Bool := @OB.rec (fun _ => (List UInt8 → Nat → Bool) → Bool) (fun _ => false) (fun _ _ _ _ => false) (fun _ _ _ _ _ => false) (fun s p K => K s p) (fun _ => false) o K
noncomputable def onResv (o : OB) (K : Bool) : Bool := @OB.rec (fun _ => Bool → Bool) (fun _ => false) (fun _ _ _ _ => false) (fun _ _ _ _ _ => false) (fun _ _ _ => false) (fun K => K) o K
noncomputable def onInt : AV → (IntKind → Int → Bool) → Bool :=
  @AV.rec (fun _ => (IntKind → Int → Bool) → Bool) (fun _ => PUnit)
    (fun _ => false)
    (fun _ _ => false)
    (fun k n K => K k n)
    (fun _ _ => false)
    (fun _ _ _ => false)
    (fun _ _ _ => false)
    (fun _ => false)
    (fun _ _ _ _ _ => false)
    (fun _ _ _ _ _ _ => false)
    (fun _ _ _ => false)
    (fun _ _ _ _ _ => false)
    (fun _ _ _ _ _ _ => false)
    (fun _ => false)
    (fun _ => false)
    (fun _ => false)
    (fun _ _ _ _ _ _ => false)
    (fun _ _ _ _ => false)
    (fun _ => false)
    (fun _ _ => false)
    (fun _ _ => false)
    ⟨⟩ (fun _ _ _ _ => ⟨⟩)
noncomputable def onBool : AV → (Bool → Bool) → Bool :=
  @AV.rec (fun _ => (Bool → Bool) → Bool) (fun _ => PUnit)
    (fun _ => false)
    (fun b K => K b)
    (fun _ _ _ => false)
    (fun _ _ => false)
    (fun _ _ _ => false)
    (fun _ _ _ => false)
    (fun _ => false)
    (fun _ _ _ _ _ => false)
    (fun _ _ _ _ _ _ => false)
    (fun _ _ _ => false)
    (fun _ _ _ _ _ => false)
    (fun _ _ _ _ _ _ => false)
    (fun _ => false)
    (fun _ => false)
    (fun _ => false)
    (fun _ _ _ _ _ _ => false)
    (fun _ _ _ _ => false)
    (fun _ => false)
    (fun _ _ => false)
    (fun _ _ => false)
    ⟨⟩ (fun _ _ _ _ => ⟨⟩)
noncomputable def onStr : AV → (List UInt8 → Bool) → Bool :=
  @AV.rec (fun _ => (List UInt8 → Bool) → Bool) (fun _ => PUnit)
    (fun _ => false)
    (fun _ _ => false)
    (fun _ _ _ => false)
    (fun s K => K s)
    (fun _ _ _ => false)
    (fun _ _ _ => false)
    (fun _ => false)
    (fun _ _ _ _ _ => false)
    (fun _ _ _ _ _ _ => false)
    (fun _ _ _ => false)
    (fun _ _ _ _ _ => false)
    (fun _ _ _ _ _ _ => false)
    (fun _ => false)
    (fun _ => false)
    (fun _ => false)
    (fun _ _ _ _ _ _ => false)
    (fun _ _ _ _ => false)
    (fun _ => false)
    (fun _ _ => false)
    (fun _ _ => false)
    ⟨⟩ (fun _ _ _ _ => ⟨⟩)
noncomputable def onAgg : AV → (List AV → Bool) → Bool :=
  @AV.rec (fun _ => (List AV → Bool) → Bool) (fun _ => PUnit)
    (fun _ => false)
    (fun _ _ => false)
    (fun _ _ _ => false)
    (fun _ _ => false)
    (fun cs _ K => K cs)
    (fun _ _ _ => false)
    (fun _ => false)
    (fun _ _ _ _ _ => false)
    (fun _ _ _ _ _ _ => false)
    (fun _ _ _ => false)
    (fun _ _ _ _ _ => false)
    (fun _ _ _ _ _ _ => false)
    (fun _ => false)
    (fun _ => false)
    (fun _ => false)
    (fun _ _ _ _ _ _ => false)
    (fun _ _ _ _ => false)
    (fun _ => false)
    (fun _ _ => false)
    (fun _ _ => false)
    ⟨⟩ (fun _ _ _ _ => ⟨⟩)
noncomputable def onTup : AV → (List AV → Bool) → Bool :=
  @AV.rec (fun _ => (List AV → Bool) → Bool) (fun _ => PUnit)
    (fun _ => false)
    (fun _ _ => false)
    (fun _ _ _ => false)
    (fun _ _ => false)
    (fun _ _ _ => false)
    (fun cs _ K => K cs)
    (fun _ => false)
    (fun _ _ _ _ _ => false)
    (fun _ _ _ _ _ _ => false)
    (fun _ _ _ => false)
    (fun _ _ _ _ _ => false)
    (fun _ _ _ _ _ _ => false)
    (fun _ => false)
    (fun _ => false)
    (fun _ => false)
    (fun _ _ _ _ _ _ => false)
    (fun _ _ _ _ => false)
    (fun _ => false)
    (fun _ _ => false)
    (fun _ _ => false)
    ⟨⟩ (fun _ _ _ _ => ⟨⟩)
noncomputable def onRef : AV → (Nat → Nat → Bool) → Bool :=
  @AV.rec (fun _ => (Nat → Nat → Bool) → Bool) (fun _ => PUnit)
    (fun _ => false)
    (fun _ _ => false)
    (fun _ _ _ => false)
    (fun _ _ => false)
    (fun _ _ _ => false)
    (fun _ _ _ => false)
    (fun _ => false)
    (fun _ _ _ _ _ => false)
    (fun _ _ _ _ _ _ => false)
    (fun l off K => K l off)
    (fun _ _ _ _ _ => false)
    (fun _ _ _ _ _ _ => false)
    (fun _ => false)
    (fun _ => false)
    (fun _ => false)
    (fun _ _ _ _ _ _ => false)
    (fun _ _ _ _ => false)
    (fun _ => false)
    (fun _ _ => false)
    (fun _ _ => false)
    ⟨⟩ (fun _ _ _ _ => ⟨⟩)
noncomputable def onFn : AV → (Fn → List AV → List AV → Bool) → Bool :=
  @AV.rec (fun _ => (Fn → List AV → List AV → Bool) → Bool) (fun _ => PUnit)
    (fun _ => false)
    (fun _ _ => false)
    (fun _ _ _ => false)
    (fun _ _ => false)
    (fun _ _ _ => false)
    (fun _ _ _ => false)
    (fun _ => false)
    (fun _ _ _ _ _ => false)
    (fun _ _ _ _ _ _ => false)
    (fun _ _ _ => false)
    (fun _ _ _ _ _ => false)
    (fun _ _ _ _ _ _ => false)
    (fun _ => false)
    (fun _ => false)
    (fun _ => false)
    (fun f first cap _ _ K => K f first cap)
    (fun _ _ _ _ => false)
    (fun _ => false)
    (fun _ _ => false)
    (fun _ _ => false)
    ⟨⟩ (fun _ _ _ _ => ⟨⟩)
noncomputable def onIfc : AV → (TypeId → AV → Bool) → Bool :=
  @AV.rec (fun _ => (TypeId → AV → Bool) → Bool) (fun _ => PUnit)
    (fun _ => false)
    (fun _ _ => false)
    (fun _ _ _ => false)
    (fun _ _ => false)
    (fun _ _ _ => false)
    (fun _ _ _ => false)
    (fun _ => false)
    (fun _ _ _ _ _ => false)
    (fun _ _ _ _ _ _ => false)
    (fun _ _ _ => false)
    (fun _ _ _ _ _ => false)
    (fun _ _ _ _ _ _ => false)
    (fun _ => false)
    (fun _ => false)
    (fun _ => false)
    (fun _ _ _ _ _ _ => false)
    (fun t v _ K => K t v)
    (fun _ => false)
    (fun _ _ => false)
    (fun _ _ => false)
    ⟨⟩ (fun _ _ _ _ => ⟨⟩)
noncomputable def cellsK : AV → (List AV → Bool) → Bool :=
  @AV.rec (fun _ => (List AV → Bool) → Bool) (fun _ => PUnit)
    (fun K => K [.undef])
    (fun b K => K [.bool b])
    (fun k n K => K [.int k n])
    (fun s K => K [.str s])
    (fun cs _ K => K cs)
    (fun vs _ K => K [.tup vs])
    (fun K => K [.nils])
    (fun f el xs _ K => K [.lst f el xs])
    (fun el l m lo n K => K [.own el l m lo n])
    (fun l off K => K [.ref l off])
    (fun el x off _ K => K [.eref el x off])
    (fun el l m i off K => K [.vref el l m i off])
    (fun K => K [.nilp])
    (fun K => K [.nilf])
    (fun K => K [.nili])
    (fun f first cap _ _ K => K [.fn f first cap])
    (fun t v _ K => K [.ifc t v])
    (fun K => K [.nilm])
    (fun l K => K [.mp l])
    (fun l K => K [.yld l])
    ⟨⟩ (fun _ _ _ _ => ⟨⟩)
noncomputable def scalB : AV → Bool :=
  @AV.rec (fun _ => Bool) (fun _ => PUnit)
    false
    (fun b  => true)
    (fun k n  => true)
    (fun s  => true)
    (fun _ _ => false)
    (fun _ _ => false)
    true
    (fun f el xs _  => true)
    (fun el l m lo n  => true)
    (fun l off  => true)
    (fun el x off _  => true)
    (fun el l m i off  => true)
    true
    true
    true
    (fun f first cap _ _  => true)
    (fun t v _  => true)
    true
    (fun l  => true)
    (fun l  => true)
    ⟨⟩ (fun _ _ _ _ => ⟨⟩)
noncomputable def fitsB : AV → (El) → Bool :=
  @AV.rec (fun _ => (El) → Bool) (fun _ => PUnit)
    (fun _ => false)
    (fun b e => @El.rec (fun _ => Bool) (fun a z => bK (notK a) (Nat.beq z 1)) e)
    (fun k n e => @El.rec (fun _ => Bool) (fun a z => bK (notK a) (Nat.beq z 1)) e)
    (fun s e => @El.rec (fun _ => Bool) (fun a z => bK (notK a) (Nat.beq z 1)) e)
    (fun cs _ e => @El.rec (fun _ => List AV → Bool) (fun a z cs => bK a (bK (lenK cs 0 (Nat.beq z)) (allB scalB cs))) e cs)
    (fun _ _ _ => false)
    (fun e => @El.rec (fun _ => Bool) (fun a z => bK (notK a) (Nat.beq z 1)) e)
    (fun f el xs _ e => @El.rec (fun _ => Bool) (fun a z => bK (notK a) (Nat.beq z 1)) e)
    (fun el l m lo n e => @El.rec (fun _ => Bool) (fun a z => bK (notK a) (Nat.beq z 1)) e)
    (fun l off e => @El.rec (fun _ => Bool) (fun a z => bK (notK a) (Nat.beq z 1)) e)
    (fun el x off _ e => @El.rec (fun _ => Bool) (fun a z => bK (notK a) (Nat.beq z 1)) e)
    (fun el l m i off e => @El.rec (fun _ => Bool) (fun a z => bK (notK a) (Nat.beq z 1)) e)
    (fun e => @El.rec (fun _ => Bool) (fun a z => bK (notK a) (Nat.beq z 1)) e)
    (fun e => @El.rec (fun _ => Bool) (fun a z => bK (notK a) (Nat.beq z 1)) e)
    (fun e => @El.rec (fun _ => Bool) (fun a z => bK (notK a) (Nat.beq z 1)) e)
    (fun f first cap _ _ e => @El.rec (fun _ => Bool) (fun a z => bK (notK a) (Nat.beq z 1)) e)
    (fun t v _ e => @El.rec (fun _ => Bool) (fun a z => bK (notK a) (Nat.beq z 1)) e)
    (fun e => @El.rec (fun _ => Bool) (fun a z => bK (notK a) (Nat.beq z 1)) e)
    (fun l e => @El.rec (fun _ => Bool) (fun a z => bK (notK a) (Nat.beq z 1)) e)
    (fun l e => @El.rec (fun _ => Bool) (fun a z => bK (notK a) (Nat.beq z 1)) e)
    ⟨⟩ (fun _ _ _ _ => ⟨⟩)
noncomputable def evK (x : AX) (t : Tr AV) (K : AV → Bool) : Bool := @AX.rec (fun _ => Tr AV → (AV → Bool) → Bool) (fun n t K => Tr.getK .undef t n K) (fun a _ K => K a) x t K
noncomputable def evsK : List AX → Tr AV → (List AV → Bool) → Bool := @List.rec AX (fun _ => Tr AV → (List AV → Bool) → Bool) (fun _ K => K []) (fun a _ ih t K => evK a t fun v => ih t fun l => K (v :: l))
noncomputable def partK (el : El) (x : AV) (off : Nat) (ag : Bool) (n : Nat) (K : AV → Bool) : Bool :=
  @El.rec (fun _ => AV → Nat → Bool → Nat → (AV → Bool) → Bool) (fun a z x off ag n K =>
    iK (bK (Nat.beq off 0) (bK (Nat.beq n z) (beqB ag a))) (K x)
      (bK (Nat.ble (Nat.add off n) z) (onAgg x fun cs => iK ag (cutK cs off n fun ds => K (.agg ds)) (bK (Nat.beq n 1) (nthK .undef cs off K))))) el x off ag n K
noncomputable def loadR (l off : Nat) (s : St) (ag : Bool) (n : Nat) (K : AV → Bool) : Bool :=
  s.getK l fun o => onCells o fun _ m t => bK (Nat.ble (Nat.add off n) m) (iK ag (lstK .undef n off t fun ds => K (.agg ds)) (bK (Nat.beq n 1) (Tr.getK .undef t off K)))
noncomputable def vecK (el : El) (l m : Nat) (s : St) (K : Option TypeId → Tr AV → Bool) : Bool :=
  s.getK l fun o => onVec o fun T el' k t => bK (elEq el' el) (bK (Nat.beq m k) (K T t))
noncomputable def loadV (el : El) (l m i off : Nat) (s : St) (ag : Bool) (n : Nat) (K : AV → Bool) : Bool :=
  vecK el l m s fun _ t => bK (Nat.ble (Nat.succ i) m) (Tr.getK .undef t i fun x => partK el x off ag n K)
noncomputable def loadK : AV → (St) → (Bool) → (Nat) → (AV → Bool) → Bool :=
  @AV.rec (fun _ => (St) → (Bool) → (Nat) → (AV → Bool) → Bool) (fun _ => PUnit)
    (fun _ _ _ _ => false)
    (fun _ _ _ _ _ => false)
    (fun _ _ _ _ _ _ => false)
    (fun _ _ _ _ _ => false)
    (fun _ _ _ _ _ _ => false)
    (fun _ _ _ _ _ _ => false)
    (fun _ _ _ _ => false)
    (fun _ _ _ _ _ _ _ _ => false)
    (fun _ _ _ _ _ _ _ _ _ => false)
    (fun l off s ag n K => loadR l off s ag n K)
    (fun el x off _ s ag n K => partK el x off ag n K)
    (fun el l m i off s ag n K => loadV el l m i off s ag n K)
    (fun _ _ _ _ => false)
    (fun _ _ _ _ => false)
    (fun _ _ _ _ => false)
    (fun _ _ _ _ _ _ _ _ _ => false)
    (fun _ _ _ _ _ _ _ => false)
    (fun _ _ _ _ => false)
    (fun _ _ _ _ _ => false)
    (fun _ _ _ _ _ => false)
    ⟨⟩ (fun _ _ _ _ => ⟨⟩)
noncomputable def storeR (l off : Nat) (s : St) (cs : List AV) (n : Nat) (K : St → Bool) : Bool :=
  s.getK l fun o => onCells o fun T m t => bK (Nat.ble (Nat.add off n) m) (ofK .undef cs off t fun _ t' => s.setK l (.cells T m t') K)
noncomputable def storeV (el : El) (l m i off : Nat) (s : St) (v : AV) (cs : List AV) (n : Nat) (K : St → Bool) : Bool :=
  vecK el l m s fun T t => bK (Nat.ble (Nat.succ i) m) (@El.rec (fun _ => Bool) (fun a z => bK (Nat.ble (Nat.add off n) z)
    (iK a (Tr.getK .undef t i fun x => cellsK x fun ds => setManyK cs off ds fun es => Tr.setK .undef 60 t i (.agg es) fun t' => s.setK l (.vec T el m t') K)
      (bK (fitsB v el) (Tr.setK .undef 60 t i v fun t' => s.setK l (.vec T el m t') K)))) el)
noncomputable def storeP : AV → (St) → (AV) → (List AV) → (Nat) → (St → Bool) → Bool :=
  @AV.rec (fun _ => (St) → (AV) → (List AV) → (Nat) → (St → Bool) → Bool) (fun _ => PUnit)
    (fun _ _ _ _ _ => false)
    (fun _ _ _ _ _ _ => false)
    (fun _ _ _ _ _ _ _ => false)
    (fun _ _ _ _ _ _ => false)
    (fun _ _ _ _ _ _ _ => false)
    (fun _ _ _ _ _ _ _ => false)
    (fun _ _ _ _ _ => false)
    (fun _ _ _ _ _ _ _ _ _ => false)
    (fun _ _ _ _ _ _ _ _ _ _ => false)
    (fun l off s v cs n K => storeR l off s cs n K)
    (fun _ _ _ _ _ _ _ _ _ => false)
    (fun el l m i off s v cs n K => storeV el l m i off s v cs n K)
    (fun _ _ _ _ _ => false)
    (fun _ _ _ _ _ => false)
    (fun _ _ _ _ _ => false)
    (fun _ _ _ _ _ _ _ _ _ _ => false)
    (fun _ _ _ _ _ _ _ _ => false)
    (fun _ _ _ _ _ => false)
    (fun _ _ _ _ _ _ => false)
    (fun _ _ _ _ _ _ => false)
    ⟨⟩ (fun _ _ _ _ => ⟨⟩)
noncomputable def storeK (s : St) (n : Nat) (p v : AV) (K : St → Bool) : Bool := cellsK v fun cs => bK (lenK cs 0 (Nat.beq n)) (bK (allB scalB cs) (storeP p s v cs n K))
noncomputable def byteAV : List UInt8 → (List AV → Bool) → Bool := mapK fun b K => fN b.toNat fun n => K (.int .u8 (Int.ofNat n))
noncomputable def ownK (el el' : El) (l m lo n : Nat) (s : St) (K : List AV → Bool) : Bool := bK (elEq el' el) (vecK el l m s fun _ t => bK (Nat.ble (Nat.add lo n) m) (lstK .undef n lo t K))
def el8 : El := ⟨false, 1⟩
noncomputable def listK : AV → (St) → (El) → (List AV → Bool) → Bool :=
  @AV.rec (fun _ => (St) → (El) → (List AV → Bool) → Bool) (fun _ => PUnit)
    (fun _ _ _ => false)
    (fun _ _ _ _ => false)
    (fun _ _ _ _ _ => false)
    (fun b s el K => bK (elEq el el8) (byteAV b K))
    (fun _ _ _ _ _ => false)
    (fun _ _ _ _ _ => false)
    (fun s el K => K [])
    (fun f el' xs _ s el K => bK (elEq el' el) (K xs))
    (fun el' l m lo n s el K => ownK el el' l m lo n s K)
    (fun _ _ _ _ _ => false)
    (fun _ _ _ _ _ _ _ => false)
    (fun _ _ _ _ _ _ _ _ => false)
    (fun _ _ _ => false)
    (fun _ _ _ => false)
    (fun _ _ _ => false)
    (fun _ _ _ _ _ _ _ _ => false)
    (fun _ _ _ _ _ _ => false)
    (fun _ _ _ => false)
    (fun _ _ _ _ => false)
    (fun _ _ _ _ => false)
    ⟨⟩ (fun _ _ _ _ => ⟨⟩)
noncomputable def tyMay (a b : Option TypeId) : Bool := @Option.rec TypeId (fun _ => Option TypeId → Bool) (fun _ => true) (fun x b => @Option.rec TypeId (fun _ => Nat → Bool) (fun _ => false) (fun y x => Nat.beq x y) b x) a b
noncomputable def roomB (n : Nat) (el : El) : Bool := @El.rec (fun _ => Nat → Bool) (fun _ z n => Nat.ble (Nat.mul n (Nat.succ z)) 1099511627776) el n
noncomputable def newVec (T : Option TypeId) (el : El) (ys : List AV) (s : St) (K : AV → St → Bool) : Bool :=
  ofK .undef ys 0 .nil fun k t => bK (roomB k el) (s.pushK (.vec T el k t) fun l s' => K (.own el l k 0 k) s')
noncomputable def isNilL {α : Type} (l : List α) : Bool := @List.rec α (fun _ => Bool) true (fun _ _ _ => false) l
noncomputable def appOwn (el' : El) (l m lo n : Nat) (T : Option TypeId) (el : El) (ys : List AV) (s : St) (K : AV → St → Bool) : Bool :=
  bK (elEq el' el) (vecK el l m s fun T' t => bK (tyMay T' T) (bK (Nat.beq lo 0) (bK (Nat.beq n m) (ofK .undef ys m t fun k t' => bK (roomB k el) (s.setK l (.vec T' el k t') fun s' => K (.own el l k 0 k) s')))))
noncomputable def appP : AV → (Option TypeId) → (El) → (List AV) → (St) → (AV → St → Bool) → Bool :=
  @AV.rec (fun _ => (Option TypeId) → (El) → (List AV) → (St) → (AV → St → Bool) → Bool) (fun _ => PUnit)
    (fun _ _ _ _ _ => false)
    (fun _ _ _ _ _ _ => false)
    (fun _ _ _ _ _ _ _ => false)
    (fun _ _ _ _ _ _ => false)
    (fun _ _ _ _ _ _ _ => false)
    (fun _ _ _ _ _ _ _ => false)
    (fun T el ys s K => iK (isNilL ys) (K .nils s) (newVec T el ys s K))
    (fun f el' xs _ T el ys s K => bK f (bK (elEq el' el) (iK (isNilL ys) (K (.lst true el xs) s) (appendK xs ys fun zs => newVec T el zs s K))))
    (fun el' l m lo n T el ys s K => appOwn el' l m lo n T el ys s K)
    (fun _ _ _ _ _ _ _ => false)
    (fun _ _ _ _ _ _ _ _ _ => false)
    (fun _ _ _ _ _ _ _ _ _ _ => false)
    (fun _ _ _ _ _ => false)
    (fun _ _ _ _ _ => false)
    (fun _ _ _ _ _ => false)
    (fun _ _ _ _ _ _ _ _ _ _ => false)
    (fun _ _ _ _ _ _ _ _ => false)
    (fun _ _ _ _ _ => false)
    (fun _ _ _ _ _ _ => false)
    (fun _ _ _ _ _ _ => false)
    ⟨⟩ (fun _ _ _ _ => ⟨⟩)
noncomputable def appK (s : St) (T : Option TypeId) (el : El) (x y : AV) (K : AV → St → Bool) : Bool := listK y s el fun ys => bK (allB (fun a => fitsB a el) ys) (appP x T el ys s K)
noncomputable def kNum (k : IntKind) : Nat := @IntKind.rec (fun _ => Nat) 0 1 2 3 4 5 6 7 k
noncomputable def kEq (a b : IntKind) : Bool := Nat.beq (kNum a) (kNum b)
noncomputable def kBits (k : IntKind) : Nat := @IntKind.rec (fun _ => Nat) 8 16 32 64 8 16 32 64 k
noncomputable def kLim (k : IntKind) : Nat := @IntKind.rec (fun _ => Nat) 128 32768 2147483648 9223372036854775808 256 65536 4294967296 18446744073709551616 k
noncomputable def kNeg (k : IntKind) : Nat := @IntKind.rec (fun _ => Nat) 128 32768 2147483648 9223372036854775808 0 0 0 0 k
noncomputable def inB (k : IntKind) (z : Int) : Bool := @Int.rec (fun _ => IntKind → Bool) (fun n k => Nat.ble (Nat.succ n) (kLim k)) (fun n k => Nat.ble (Nat.succ n) (kNeg k)) z k
noncomputable def wrapF (k : IntKind) (z : Int) (K : AV → Bool) : Bool := iK (inB k z) (fI z fun y => K (.int k y)) (fI (wrapK k z) fun y => K (.int k y))
noncomputable def addI (x y : Int) : Int := @Int.rec (fun _ => Int → Int) (fun a y => @Int.rec (fun _ => Nat → Int) (fun b a => Int.ofNat (Nat.add a b)) (fun b a => Int.subNatNat a (Nat.succ b)) y a)
  (fun a y => @Int.rec (fun _ => Nat → Int) (fun b a => Int.subNatNat b (Nat.succ a)) (fun b a => Int.negSucc (Nat.succ (Nat.add a b))) y a) x y
noncomputable def negI (x : Int) : Int := @Int.rec (fun _ => Int) (fun a => @Nat.rec (fun _ => Int) (Int.ofNat 0) (fun m _ => Int.negSucc m) a) (fun a => Int.ofNat (Nat.succ a)) x
noncomputable def nat2 (x y : Int) (f : Nat → Nat → Bool) (d : Bool) : Bool := @Int.rec (fun _ => Bool) (fun a => @Int.rec (fun _ => Bool) (fun b => f a b) (fun _ => d) y) (fun _ => d) x
noncomputable def mulF (k : IntKind) (x y : Int) (K : AV → Bool) : Bool := nat2 x y (fun a b => wrapF k (Int.ofNat (Nat.mul a b)) K) (wrapF k (x * y) K)
noncomputable def quoF (k : IntKind) (x y : Int) (K : AV → Bool) : Bool := nat2 x y (fun a b => bK (notK (Nat.beq b 0)) (wrapF k (Int.ofNat (Nat.div a b)) K)) (bK (notK (eqI y 0)) (wrapF k (x.tdiv y) K))
noncomputable def remF (k : IntKind) (x y : Int) (K : AV → Bool) : Bool := nat2 x y (fun a b => bK (notK (Nat.beq b 0)) (fN (Nat.mod a b) fun r => K (.int k (Int.ofNat r)))) (bK (notK (eqI y 0)) (fI (x.tmod y) fun r => K (.int k r)))
noncomputable def bitF (op : BinOp) (g : Nat → Nat → Nat) (k : IntKind) (x y : Int) (K : AV → Bool) : Bool :=
  iK (bK (inB k x) (inB k y)) (nat2 x y (fun a b => fN (g a b) fun r => K (.int k (Int.ofNat r))) (fI (bitsK op k x y) fun r => K (.int k r))) (fI (bitsK op k x y) fun r => K (.int k r))
noncomputable def bitS (op : BinOp) (k : IntKind) (x y : Int) (K : AV → Bool) : Bool := fI (bitsK op k x y) fun r => K (.int k r)
noncomputable def minN (a b : Nat) : Nat := @Bool.rec (fun _ => Nat) b a (Nat.ble a b)
noncomputable def shlF (k : IntKind) (x : Int) (n : Nat) (K : AV → Bool) : Bool := @Int.rec (fun _ => Bool) (fun a => wrapF k (Int.ofNat (Nat.mul a (Nat.pow 2 (minN n (kBits k))))) K) (fun _ => wrapF k (x * 2 ^ (Nat.min n k.bits)) K) x
noncomputable def shrF (k : IntKind) (x : Int) (n : Nat) (K : AV → Bool) : Bool := @Int.rec (fun _ => Bool) (fun a => fN (Nat.div a (Nat.pow 2 (minN n (kBits k)))) fun r => K (.int k (Int.ofNat r))) (fun _ => fI (x.fdiv (2 ^ (Nat.min n k.bits))) fun r => K (.int k r)) x
noncomputable def natI (x : Int) (K : Nat → Bool) : Bool := @Int.rec (fun _ => (Nat → Bool) → Bool) (fun n K => K n) (fun _ _ => false) x K
noncomputable def eB (k k' : IntKind) (b : Bool) (K : AV → Bool) : Bool := bK (kEq k k') (@Bool.rec (fun _ => (AV → Bool) → Bool) (fun K => K (.bool false)) (fun K => K (.bool true)) b K)
noncomputable def tB (b : Bool) (K : AV → Bool) : Bool := @Bool.rec (fun _ => (AV → Bool) → Bool) (fun K => K (.bool false)) (fun K => K (.bool true)) b K
noncomputable def opI (op : BinOp) : IntKind → Int → IntKind → Int → (AV → Bool) → Bool :=
  @BinOp.rec (fun _ => IntKind → Int → IntKind → Int → (AV → Bool) → Bool)
    (fun k a k' b K => bK (kEq k k') (wrapF k (addI a b) K))
    (fun k a k' b K => bK (kEq k k') (wrapF k (addI a (negI b)) K))
    (fun k a k' b K => bK (kEq k k') (mulF k a b K))
    (fun k a k' b K => bK (kEq k k') (quoF k a b K))
    (fun k a k' b K => bK (kEq k k') (remF k a b K))
    (fun k a k' b K => bK (kEq k k') (bitF .and Nat.land k a b K))
    (fun k a k' b K => bK (kEq k k') (bitF .or Nat.lor k a b K))
    (fun k a k' b K => bK (kEq k k') (bitF .xor Nat.xor k a b K))
    (fun k a k' b K => natI b fun n => shlF k a n K)
    (fun k a k' b K => natI b fun n => shrF k a n K)
    (fun k a k' b K => bK (kEq k k') (bitS .andNot k a b K))
    (fun k a k' b K => eB k k' (eqI a b) K)
    (fun k a k' b K => eB k k' (notK (eqI a b)) K)
    (fun k a k' b K => eB k k' (ltI a b) K)
    (fun k a k' b K => eB k k' (notK (ltI b a)) K)
    (fun k a k' b K => eB k k' (ltI b a) K)
    (fun k a k' b K => eB k k' (notK (ltI a b)) K) op
noncomputable def opS (op : BinOp) : List UInt8 → List UInt8 → (AV → Bool) → Bool :=
  @BinOp.rec (fun _ => List UInt8 → List UInt8 → (AV → Bool) → Bool)
    (fun a b K => lenK a 0 fun n => lenK b n fun m => bK (Nat.ble m 9223372036854775807) (appendK a b fun c => K (.str c)))
    (fun _ _ _ => false) (fun _ _ _ => false) (fun _ _ _ => false) (fun _ _ _ => false) (fun _ _ _ => false) (fun _ _ _ => false) (fun _ _ _ => false) (fun _ _ _ => false) (fun _ _ _ => false) (fun _ _ _ => false)
    (fun a b K => tB (eqS a b) K) (fun a b K => tB (notK (eqS a b)) K) (fun a b K => tB (ltS a b) K) (fun a b K => tB (notK (ltS b a)) K) (fun a b K => tB (ltS b a) K) (fun a b K => tB (notK (ltS a b)) K) op
noncomputable def binP : AV → (BinOp) → (AV) → (AV → Bool) → Bool :=
  @AV.rec (fun _ => (BinOp) → (AV) → (AV → Bool) → Bool) (fun _ => PUnit)
    (fun _ _ _ => false)
    (fun _ _ _ _ => false)
    (fun k n op y K => onInt y fun k' m => opI op k n k' m K)
    (fun s op y K => onStr y fun t => opS op s t K)
    (fun _ _ _ _ _ => false)
    (fun _ _ _ _ _ => false)
    (fun _ _ _ => false)
    (fun _ _ _ _ _ _ _ => false)
    (fun _ _ _ _ _ _ _ _ => false)
    (fun _ _ _ _ _ => false)
    (fun _ _ _ _ _ _ _ => false)
    (fun _ _ _ _ _ _ _ _ => false)
    (fun _ _ _ => false)
    (fun _ _ _ => false)
    (fun _ _ _ => false)
    (fun _ _ _ _ _ _ _ _ => false)
    (fun _ _ _ _ _ _ => false)
    (fun _ _ _ => false)
    (fun _ _ _ _ => false)
    (fun _ _ _ _ => false)
    ⟨⟩ (fun _ _ _ _ => ⟨⟩)
noncomputable def unN (x : AV) (K : AV → Bool) : Bool := onInt x fun k n => wrapF k (negI n) K
noncomputable def unX (x : AV) (K : AV → Bool) : Bool := onInt x fun k n => fI (bitsK .xor k (if k.signed then -1 else k.max) n) fun r => K (.int k r)
noncomputable def unK (op : UnOp) : AV → (AV → Bool) → Bool := @UnOp.rec (fun _ => AV → (AV → Bool) → Bool) unN unX (fun x K => onBool x fun b => tB (notK b) K) (fun _ _ => false) op
noncomputable def kdK (k : Kd) : AV → AV → (Bool → Bool) → Bool := @Kd.rec (fun _ => AV → AV → (Bool → Bool) → Bool)
  (fun x y K => onBool x fun a => onBool y fun b => K (beqB a b))
  (fun x y K => onInt x fun k a => onInt y fun k' b => bK (kEq k k') (K (eqI a b)))
  (fun x y K => onStr x fun a => onStr y fun b => K (eqS a b)) k
noncomputable def kdsK : List Kd → List AV → List AV → (Bool → Bool) → Bool := @List.rec Kd (fun _ => List AV → List AV → (Bool → Bool) → Bool)
  (fun az bs K => bK (isNilL az) (bK (isNilL bs) (K true)))
  (fun k _ ih az bs K => @List.rec AV (fun _ => Bool) false (fun a az _ => @List.rec AV (fun _ => Bool) false (fun b bs _ => kdK k a b fun x => ih az bs fun y => K (bK x y)) bs) az)
noncomputable def eqfK (ag : Bool) (ks : List Kd) (x y : AV) (K : Bool → Bool) : Bool := iK ag (onAgg x fun az => onAgg y fun bs => kdsK ks az bs K) (kdsK ks [x] [y] K)
noncomputable def negB (neg b : Bool) : Bool := iK neg (notK b) b
noncomputable def buildK : List (Nat × Nat × AX) → List AV → Tr AV → (List AV → Bool) → Bool := @List.rec (Nat × Nat × AX) (fun _ => List AV → Tr AV → (List AV → Bool) → Bool)
  (fun z _ K => K z)
  (fun p _ ih z t K => @Prod.rec Nat (Nat × AX) (fun _ => Bool) (fun off q => @Prod.rec Nat AX (fun _ => Bool) (fun n x => evK x t fun v => cellsK v fun cs =>
    bK (lenK cs 0 (Nat.beq n)) (bK (allB scalB cs) (bK (lenK z 0 (Nat.ble (Nat.add off n))) (setManyK cs off z fun z' => ih z' t K)))) q) p)
noncomputable def bsliceK (el : El) : List (Nat × AX) → List AV → Tr AV → (List AV → Bool) → Bool := @List.rec (Nat × AX) (fun _ => List AV → Tr AV → (List AV → Bool) → Bool)
  (fun z _ K => K z)
  (fun p _ ih z t K => @Prod.rec Nat AX (fun _ => Bool) (fun i x => evK x t fun v => bK (fitsB v el) (bK (lenK z 0 (Nat.ble (Nat.succ i))) (setLK z i v fun z' => ih z' t K))) p)
noncomputable def repK (v : AV) : Nat → (List AV → Bool) → Bool := @Nat.rec (fun _ => (List AV → Bool) → Bool) (fun K => K []) (fun _ ih K => ih fun l => K (v :: l))
noncomputable def bytesK : List AV → (List UInt8 → Bool) → Bool := mapK fun a K => onInt a fun k z => bK (kEq k .u8) (natI z fun n => bK (Nat.ble n 255) (K (UInt8.ofNat n)))
noncomputable def boundK (x : Option AV) (d y : Nat) (K : Nat → Bool) : Bool := @Option.rec AV (fun _ => Nat → Nat → (Nat → Bool) → Bool) (fun d _ K => K d) (fun v _ y K => onInt v fun _ z => natI z fun n => bK (Nat.ble n y) (K n)) x d y K
noncomputable def evOK (x : Option AX) (t : Tr AV) (K : Option AV → Bool) : Bool := @Option.rec AX (fun _ => Tr AV → (Option AV → Bool) → Bool) (fun _ K => K none) (fun x t K => evK x t fun v => K (some v)) x t K
noncomputable def nkNum (k : NK) : Nat := @NK.rec (fun _ => Nat) 0 1 2 3 k
noncomputable def isNilP : AV → (NK) → (Bool → Bool) → Bool :=
  @AV.rec (fun _ => (NK) → (Bool → Bool) → Bool) (fun _ => PUnit)
    (fun _ _ => false)
    (fun _ _ _ => false)
    (fun _ _ _ _ => false)
    (fun _ _ _ => false)
    (fun _ _ _ _ => false)
    (fun _ _ _ _ => false)
    (fun _ _ => false)
    (fun _ _ _ _ _ _ => false)
    (fun _ _ _ _ _ _ _ => false)
    (fun l off k K => bK (Nat.beq (nkNum k) 0) (K false))
    (fun el x off _ k K => bK (Nat.beq (nkNum k) 0) (K false))
    (fun el l m i off k K => bK (Nat.beq (nkNum k) 0) (K false))
    (fun k K => bK (Nat.beq (nkNum k) 0) (K true))
    (fun k K => bK (Nat.beq (nkNum k) 2) (K true))
    (fun k K => bK (Nat.beq (nkNum k) 1) (K true))
    (fun f first cap _ _ k K => bK (Nat.beq (nkNum k) 2) (K false))
    (fun t v _ k K => bK (Nat.beq (nkNum k) 1) (K false))
    (fun k K => bK (Nat.beq (nkNum k) 3) (K true))
    (fun l k K => bK (Nat.beq (nkNum k) 3) (K false))
    (fun _ _ _ => false)
    ⟨⟩ (fun _ _ _ _ => ⟨⟩)
noncomputable def nilEqK (k : NK) (x y : AV) (K : Bool → Bool) : Bool := isNilP x k fun a => isNilP y k fun b => iK a (K b) (bK b (K false))
noncomputable def purB : AV → Bool :=
  @AV.rec (fun _ => Bool) (fun _ => Bool)
    true
    (fun b => true)
    (fun k n => true)
    (fun s => true)
    (fun cs ih => ih)
    (fun vs ih => ih)
    true
    (fun f el xs ih => ih)
    (fun el l m lo n => false)
    (fun l off => false)
    (fun el x off ih => ih)
    (fun el l m i off => false)
    true
    true
    true
    (fun f first cap ih ih2 => bK ih ih2)
    (fun t v ih => ih)
    true
    (fun l => false)
    (fun l => false)
    true (fun _ _ a b => bK a b)
noncomputable def flatB : AV → Bool :=
  @AV.rec (fun _ => Bool) (fun _ => Bool)
    true
    (fun b => true)
    (fun k n => true)
    (fun s => true)
    (fun cs ih => ih)
    (fun vs ih => ih)
    true
    (fun f el xs ih => isNilL xs)
    (fun el l m lo n => false)
    (fun l off => false)
    (fun el x off ih => false)
    (fun el l m i off => false)
    true
    true
    true
    (fun f first cap ih ih2 => false)
    (fun t v ih => false)
    true
    (fun l => false)
    (fun l => false)
    true (fun _ _ a b => bK a b)
noncomputable def frzP : AV → (St) → (AV → (AV → Bool) → Bool) → (AV → Bool) → Bool :=
  @AV.rec (fun _ => (St) → (AV → (AV → Bool) → Bool) → (AV → Bool) → Bool) (fun _ => PUnit)
    (fun st r K => K (.undef))
    (fun b st r K => K (.bool b))
    (fun k n st r K => K (.int k n))
    (fun s st r K => K (.str s))
    (fun cs _ st r K => mapK r cs fun ds => K (.agg ds))
    (fun vs _ st r K => mapK r vs fun ds => K (.tup ds))
    (fun st r K => K (.nils))
    (fun f el xs _ st r K => iK (allB purB xs) (K (.lst f el xs)) (mapK r xs fun ys => K (.lst false el ys)))
    (fun el l m lo n st r K => vecK el l m st fun _ t => bK (Nat.beq lo 0) (bK (Nat.beq n m) (lstK .undef m 0 t fun xs => mapK r xs fun ys => K (.lst false el ys))))
    (fun _ _ _ _ _ => false)
    (fun el x off _ st r K => bK (purB (.eref el x off)) (K (.eref el x off)))
    (fun _ _ _ _ _ _ _ _ => false)
    (fun st r K => K (.nilp))
    (fun st r K => K (.nilf))
    (fun st r K => K (.nili))
    (fun f first cap _ _ st r K => bK (purB (.fn f first cap)) (K (.fn f first cap)))
    (fun t v _ st r K => bK (purB (.ifc t v)) (K (.ifc t v)))
    (fun st r K => K (.nilm))
    (fun _ _ _ _ => false)
    (fun _ _ _ _ => false)
    ⟨⟩ (fun _ _ _ _ => ⟨⟩)
noncomputable def frzK (s : St) : Nat → AV → (AV → Bool) → Bool := @Nat.rec (fun _ => AV → (AV → Bool) → Bool) (fun _ _ => false) (fun _ ih v K => frzP v s ih K)
abbrev CallK := FuncId → List AV → St → (Out → St → Bool) → Bool
structure Ctx where
  P : Program
  ne : FuncId → Bool
  hs : FuncId → Hints
  call : CallK
abbrev KT := AV → St → Bool
abbrev OpT := Ctx → Tr AV → St → KT → KT → Bool
noncomputable def o_mv (x : AX) : OpT := fun _ t s K _ => evK x t fun v => K v s
noncomputable def o_pick (c a b : AX) : OpT := fun _ t s K _ => evK c t fun v => onBool v fun y => iK y (evK a t fun v => K v s) (evK b t fun v => K v s)
noncomputable def o_alloc (T : Option TypeId) (cs : List AV) : OpT := fun _ _ s K _ => ofK .undef cs 0 .nil fun n t' => s.pushK (.cells T n t') fun l s' => K (.ref l 0) s'
noncomputable def boxK (T : Option TypeId) (x : AX) (t : Tr AV) (s : St) (K : KT) : Bool := evK x t fun v => cellsK v fun cs => bK (allB scalB cs) (ofK .undef cs 0 .nil fun n t' => s.pushK (.cells T n t') fun l s' => K (.ref l 0) s')
noncomputable def o_box (x : AX) : OpT := fun _ t s K _ => boxK none x t s K
noncomputable def o_build (z : List AV) (ps : List (Nat × Nat × AX)) : OpT := fun _ t s K _ => buildK ps z t fun cs => K (.agg cs) s
noncomputable def o_bslice (mt : Bool) (el : El) (zero : AV) (n : Nat) (ps : List (Nat × AX)) : OpT := fun _ t s K _ => repK zero n fun z => bsliceK el ps z t fun xs => iK mt (ofK .undef xs 0 .nil fun n' t' => s.pushK (.vec none el n' t') fun l s' => K (.own el l n 0 n) s') (K (.lst true el xs) s)
noncomputable def o_load (ag : Bool) (n : Nat) (x : AX) : OpT := fun _ t s K _ => evK x t fun v => loadK v s ag n fun u => K u s
noncomputable def o_store (n : Nat) (x v : AX) : OpT := fun _ t s K _ => evK x t fun p => evK v t fun u => storeK s n p u fun s' => K (.tup []) s'
noncomputable def onFunc (f : Fn) (K : FuncId → Bool) : Bool := @Fn.rec (fun _ => (FuncId → Bool) → Bool) (fun n K => K n) (fun _ _ => false) (fun _ _ _ => false) (fun _ _ _ _ _ => false) (fun _ _ => false) f K
noncomputable def nilckP : AV → (St) → (AV → St → Bool) → Bool :=
  @AV.rec (fun _ => (St) → (AV → St → Bool) → Bool) (fun _ => PUnit)
    (fun _ _ => false)
    (fun _ _ _ => false)
    (fun _ _ _ _ => false)
    (fun _ _ _ => false)
    (fun _ _ _ _ => false)
    (fun _ _ _ _ => false)
    (fun _ _ => false)
    (fun _ _ _ _ _ _ => false)
    (fun _ _ _ _ _ _ _ => false)
    (fun l off s K => K (.ref l off) s)
    (fun el x off _ s K => K (.eref el x off) s)
    (fun el l m i off s K => K (.vref el l m i off) s)
    (fun _ _ => false)
    (fun _ _ => false)
    (fun _ _ => false)
    (fun f first cap _ _ s K => onFunc f fun n => K (.fn (.func n) first cap) s)
    (fun t v _ s K => K (.ifc t v) s)
    (fun _ _ => false)
    (fun _ _ _ => false)
    (fun _ _ _ => false)
    ⟨⟩ (fun _ _ _ _ => ⟨⟩)
noncomputable def o_nilck (x : AX) : OpT := fun _ t s K _ => evK x t fun v => nilckP v s K
noncomputable def o_bin (op : BinOp) (x y : AX) : OpT := fun _ t s K _ => evK x t fun a => evK y t fun b => binP a op b fun v => K v s
noncomputable def o_eqf (neg ag : Bool) (ks : List Kd) (x y : AX) : OpT := fun _ t s K _ => evK x t fun a => evK y t fun b => eqfK ag ks a b fun r => tB (negB neg r) fun v => K v s
noncomputable def o_un (op : UnOp) (x : AX) : OpT := fun _ t s K _ => evK x t fun a => unK op a fun v => K v s
noncomputable def o_cint (k : IntKind) (x : AX) : OpT := fun _ t s K _ => evK x t fun a => onInt a fun _ n => wrapF k n fun v => K v s
noncomputable def o_cid (x : AX) : OpT := fun _ t s K _ => evK x t fun a => onStr a fun b => K (.str b) s
noncomputable def o_s2b (x : AX) : OpT := fun _ t s K _ => evK x t fun a => onStr a fun b => byteAV b fun xs => ofK .undef xs 0 .nil fun n t' => bK (Nat.ble n 1099511627776) (s.pushK (.vec none el8 n t') fun l s' => K (.own el8 l n 0 n) s')
noncomputable def notStr : AV → (Bool) → Bool :=
  @AV.rec (fun _ => (Bool) → Bool) (fun _ => PUnit)
    (fun K => K)
    (fun b K => K)
    (fun k n K => K)
    (fun _ _ => false)
    (fun cs _ K => K)
    (fun vs _ K => K)
    (fun K => K)
    (fun f el xs _ K => K)
    (fun el l m lo n K => K)
    (fun l off K => K)
    (fun el x off _ K => K)
    (fun el l m i off K => K)
    (fun K => K)
    (fun K => K)
    (fun K => K)
    (fun f first cap _ _ K => K)
    (fun t v _ K => K)
    (fun K => K)
    (fun l K => K)
    (fun l K => K)
    ⟨⟩ (fun _ _ _ _ => ⟨⟩)
noncomputable def o_b2s (x : AX) : OpT := fun _ t s K _ => evK x t fun a => notStr a (listK a s el8 fun xs => bytesK xs fun b => K (.str b) s)
noncomputable def o_mkifc (T : TypeId) (x : AX) : OpT := fun _ t s K _ => evK x t fun a => K (.ifc T a) s
noncomputable def o_mkfn (f : Fn) (a b : List AX) : OpT := fun _ t s K _ => evsK a t fun az => evsK b t fun bz => K (.fn f az bz) s
noncomputable def o_slS (x : AX) (lo hi : Option AX) : OpT := fun _ t s K _ => evK x t fun a => onStr a fun b => evOK hi t fun hv => evOK lo t fun lv => lenK b 0 fun n => boundK hv n n fun h => boundK lv 0 h fun l => fN (Nat.sub h l) fun k => cutK b l k fun c => K (.str c) s
noncomputable def slLst (el' : El) (xs : List AV) (s : St) (el : El) (lv hv : Option AV) (K : KT) : Bool := bK (elEq el' el) (lenK xs 0 fun n => boundK hv n n fun h => boundK lv 0 h fun l => fN (Nat.sub h l) fun k => cutK xs l k fun ys => K (.lst false el ys) s)
noncomputable def slOwn (el' : El) (l m o n : Nat) (s : St) (el : El) (lv hv : Option AV) (K : KT) : Bool := bK (elEq el' el) (vecK el l m s fun _ _ => bK (Nat.ble (Nat.add o n) m) (boundK hv n n fun h => boundK lv 0 h fun k => fN (Nat.add o k) fun o' => fN (Nat.sub h k) fun n' => K (.own el l m o' n') s))
noncomputable def slLP : AV → (St) → (El) → (Option AV) → (Option AV) → (AV → St → Bool) → Bool :=
  @AV.rec (fun _ => (St) → (El) → (Option AV) → (Option AV) → (AV → St → Bool) → Bool) (fun _ => PUnit)
    (fun _ _ _ _ _ => false)
    (fun _ _ _ _ _ _ => false)
    (fun _ _ _ _ _ _ _ => false)
    (fun _ _ _ _ _ _ => false)
    (fun _ _ _ _ _ _ _ => false)
    (fun _ _ _ _ _ _ _ => false)
    (fun s el lv hv K => boundK hv 0 0 fun h => boundK lv 0 h fun _ => K .nils s)
    (fun f el' xs _ s el lv hv K => slLst el' xs s el lv hv K)
    (fun el' l m o n s el lv hv K => slOwn el' l m o n s el lv hv K)
    (fun _ _ _ _ _ _ _ => false)
    (fun _ _ _ _ _ _ _ _ _ => false)
    (fun _ _ _ _ _ _ _ _ _ _ => false)
    (fun _ _ _ _ _ => false)
    (fun _ _ _ _ _ => false)
    (fun _ _ _ _ _ => false)
    (fun _ _ _ _ _ _ _ _ _ _ => false)
    (fun _ _ _ _ _ _ _ _ => false)
    (fun _ _ _ _ _ => false)
    (fun _ _ _ _ _ _ => false)
    (fun _ _ _ _ _ _ => false)
    ⟨⟩ (fun _ _ _ _ => ⟨⟩)
noncomputable def o_slL (el : El) (x : AX) (lo hi : Option AX) : OpT := fun _ t s K _ => evK x t fun a => evOK hi t fun hv => evOK lo t fun lv => slLP a s el lv hv K
noncomputable def faddrP : AV → (Nat) → (AV → Bool) → Bool :=
  @AV.rec (fun _ => (Nat) → (AV → Bool) → Bool) (fun _ => PUnit)
    (fun _ _ => false)
    (fun _ _ _ => false)
    (fun _ _ _ _ => false)
    (fun _ _ _ => false)
    (fun _ _ _ _ => false)
    (fun _ _ _ _ => false)
    (fun _ _ => false)
    (fun _ _ _ _ _ _ => false)
    (fun _ _ _ _ _ _ _ => false)
    (fun l o off K => fN (Nat.add o off) fun o' => K (.ref l o'))
    (fun el y o _ off K => fN (Nat.add o off) fun o' => K (.eref el y o'))
    (fun el l m i o off K => fN (Nat.add o off) fun o' => K (.vref el l m i o'))
    (fun _ _ => false)
    (fun _ _ => false)
    (fun _ _ => false)
    (fun _ _ _ _ _ _ _ => false)
    (fun _ _ _ _ _ => false)
    (fun _ _ => false)
    (fun _ _ _ => false)
    (fun _ _ _ => false)
    ⟨⟩ (fun _ _ _ _ => ⟨⟩)
noncomputable def o_faddr (off : Nat) (x : AX) : OpT := fun _ t s K _ => evK x t fun a => faddrP a off fun v => K v s
noncomputable def o_field (ag : Bool) (off n : Nat) (x : AX) : OpT := fun _ t s K _ => evK x t fun a => onAgg a fun cs => bK (lenK cs 0 (Nat.ble (Nat.add off n))) (iK ag (cutK cs off n fun ds => K (.agg ds) s) (bK (Nat.beq n 1) (nthK .undef cs off fun v => K v s)))
noncomputable def elSz (el : El) : Nat := @El.rec (fun _ => Nat) (fun _ z => z) el
noncomputable def iaddrL : AV → (Nat) → (St) → (El) → (AV → Bool) → Bool :=
  @AV.rec (fun _ => (Nat) → (St) → (El) → (AV → Bool) → Bool) (fun _ => PUnit)
    (fun _ _ _ _ => false)
    (fun _ _ _ _ _ => false)
    (fun _ _ _ _ _ _ => false)
    (fun _ _ _ _ _ => false)
    (fun _ _ _ _ _ _ => false)
    (fun _ _ _ _ _ _ => false)
    (fun _ _ _ _ => false)
    (fun f el' xs _ k s el K => bK (elEq el' el) (bK (lenK xs 0 (Nat.ble (Nat.succ k))) (nthK .undef xs k fun y => K (.eref el y 0))))
    (fun el' l m o n k s el K => bK (elEq el' el) (bK (Nat.ble (Nat.succ k) n) (vecK el l m s fun _ _ => fN (Nat.add o k) fun i => K (.vref el l m i 0))))
    (fun _ _ _ _ _ _ => false)
    (fun _ _ _ _ _ _ _ _ => false)
    (fun _ _ _ _ _ _ _ _ _ => false)
    (fun _ _ _ _ => false)
    (fun _ _ _ _ => false)
    (fun _ _ _ _ => false)
    (fun _ _ _ _ _ _ _ _ _ => false)
    (fun _ _ _ _ _ _ _ => false)
    (fun _ _ _ _ => false)
    (fun _ _ _ _ _ => false)
    (fun _ _ _ _ _ => false)
    ⟨⟩ (fun _ _ _ _ => ⟨⟩)
noncomputable def o_iaddr (el : El) (arr : Option Nat) (x i : AX) : OpT := fun _ t s K _ => evK i t fun j => onInt j fun _ z => natI z fun k => evK x t fun a =>
  @Option.rec Nat (fun _ => Bool) (iaddrL a k s el fun v => K v s) (fun n => bK (Nat.ble (Nat.succ k) n) (faddrP a (Nat.mul k (elSz el)) fun v => K v s)) arr
noncomputable def o_idxS (x i : AX) : OpT := fun _ t s K _ => evK i t fun j => onInt j fun _ z => natI z fun k => evK x t fun a => onStr a fun b => dropK b k fun c => @List.rec UInt8 (fun _ => Bool) false (fun d _ _ => fN d.toNat fun n => K (.int .u8 (Int.ofNat n)) s) c
noncomputable def o_idxA (el : El) (ln : Nat) (x i : AX) : OpT := fun _ t s K _ => evK i t fun j => onInt j fun _ z => natI z fun k => evK x t fun a => onAgg a fun cs => bK (Nat.ble (Nat.succ k) ln)
  (@El.rec (fun _ => Bool) (fun g z => fN (Nat.mul k z) fun off => bK (lenK cs 0 (Nat.ble (Nat.add off z))) (iK g (cutK cs off z fun ds => K (.agg ds) s) (bK (Nat.beq z 1) (nthK .undef cs off fun v => K v s)))) el)
noncomputable def o_ext (x : AX) (i : Nat) : OpT := fun _ t s K _ => evK x t fun a => onTup a fun vs => bK (lenK vs 0 (Nat.ble (Nat.succ i))) (nthK .undef vs i fun v => K v s)
noncomputable def onRet (o : Out) (K : AV → Bool) : Bool := @Out.rec (fun _ => (AV → Bool) → Bool) (fun v K => K v) (fun _ _ => false) o K
noncomputable def outK (K Kp : KT) (o : Out) : St → Bool := @Out.rec (fun _ => KT → KT → St → Bool) (fun v K _ s => K v s) (fun v _ Kp s => Kp v s) o K Kp
noncomputable def callD (c : Ctx) (n : FuncId) (az : List AV) (s : St) (K : KT) : Bool :=
  iK (allB purB az) (c.call n az ⟨0, .nil⟩ fun o s' => onRet o fun r => frzK s' 30 r fun r => K r s)
    (mapK (frzK s 30) az fun bz => bK (allB purB bz) (c.call n bz ⟨0, .nil⟩ fun o s' => onRet o fun r => frzK s' 30 r fun r => bK (flatB r) (K r s)))
noncomputable def o_call (q : Bool) (f : AX) (args : List AX) : OpT := fun c t s K Kp => evK f t fun g => onFn g fun fn a b => onFunc fn fun n => evsK args t fun az => appendK az b fun zs => appendK a zs fun ys => iK q (callD c n ys s K) (c.call n ys s (outK K Kp))
noncomputable def o_no {α : Type} (_ : α) : OpT := fun _ _ _ _ _ => false
noncomputable def lenP : AV → (Nat → Bool) → Bool :=
  @AV.rec (fun _ => (Nat → Bool) → Bool) (fun _ => PUnit)
    (fun _ => false)
    (fun _ _ => false)
    (fun _ _ _ => false)
    (fun _ _ => false)
    (fun _ _ _ => false)
    (fun _ _ _ => false)
    (fun K => K 0)
    (fun f el xs _ K => lenK xs 0 K)
    (fun el l m lo n K => K n)
    (fun _ _ _ => false)
    (fun _ _ _ _ _ => false)
    (fun _ _ _ _ _ _ => false)
    (fun _ => false)
    (fun _ => false)
    (fun _ => false)
    (fun _ _ _ _ _ _ => false)
    (fun _ _ _ _ => false)
    (fun _ => false)
    (fun _ _ => false)
    (fun _ _ => false)
    ⟨⟩ (fun _ _ _ _ => ⟨⟩)
noncomputable def o_len (q : Bool) (x : AX) : OpT := fun _ t s K _ => evK x t fun a => iK q (onStr a fun b => lenK b 0 fun n => K (.int .i64 (Int.ofNat n)) s) (lenP a fun n => K (.int .i64 (Int.ofNat n)) s)
noncomputable def o_app (T : Option TypeId) (el : El) (x y : AX) : OpT := fun _ t s K _ => evK x t fun a => evK y t fun b => appK s T el a b K
noncomputable def usdP : AV → (St) → (El) → (AV → Bool) → Bool :=
  @AV.rec (fun _ => (St) → (El) → (AV → Bool) → Bool) (fun _ => PUnit)
    (fun _ _ _ => false)
    (fun _ _ _ _ => false)
    (fun _ _ _ _ _ => false)
    (fun _ _ _ _ => false)
    (fun _ _ _ _ _ => false)
    (fun _ _ _ _ _ => false)
    (fun s el K => K .nilp)
    (fun _ _ _ _ _ _ _ => false)
    (fun el' l m lo n s el K => bK (elEq el' el) (vecK el l m s fun _ _ => bK (Nat.ble 1 n) (K (.vref el l m lo 0))))
    (fun _ _ _ _ _ => false)
    (fun _ _ _ _ _ _ _ => false)
    (fun _ _ _ _ _ _ _ _ => false)
    (fun _ _ _ => false)
    (fun _ _ _ => false)
    (fun _ _ _ => false)
    (fun _ _ _ _ _ _ _ _ => false)
    (fun _ _ _ _ _ _ => false)
    (fun _ _ _ => false)
    (fun _ _ _ _ => false)
    (fun _ _ _ _ => false)
    ⟨⟩ (fun _ _ _ _ => ⟨⟩)
noncomputable def o_usd (el : El) (x : AX) : OpT := fun _ t s K _ => evK x t fun a => usdP a s el fun v => K v s
noncomputable def u2pP : AV → (St) → (Program) → (TypeId) → (AV → Bool) → Bool :=
  @AV.rec (fun _ => (St) → (Program) → (TypeId) → (AV → Bool) → Bool) (fun _ => PUnit)
    (fun _ _ _ _ => false)
    (fun _ _ _ _ _ => false)
    (fun _ _ _ _ _ _ => false)
    (fun _ _ _ _ _ => false)
    (fun _ _ _ _ _ _ => false)
    (fun _ _ _ _ _ _ => false)
    (fun _ _ _ _ => false)
    (fun _ _ _ _ _ _ _ _ => false)
    (fun _ _ _ _ _ _ _ _ _ => false)
    (fun l off s P u K => s.getK l fun o => onCells o fun T n _ => @Option.rec TypeId (fun _ => Bool) false (fun T => bK (liesAt P P.depth T (n / P.cellsOf T) off u 1) (K (.ref l off))) T)
    (fun _ _ _ _ _ _ _ _ => false)
    (fun _ _ _ _ _ _ _ _ _ => false)
    (fun _ _ _ _ => false)
    (fun _ _ _ _ => false)
    (fun _ _ _ _ => false)
    (fun _ _ _ _ _ _ _ _ _ => false)
    (fun _ _ _ _ _ _ _ => false)
    (fun _ _ _ _ => false)
    (fun _ _ _ _ _ => false)
    (fun _ _ _ _ _ => false)
    ⟨⟩ (fun _ _ _ _ => ⟨⟩)
noncomputable def o_p2u (x : AX) : OpT := fun _ t s K _ => evK x t fun a => onRef a fun l off => s.getK l fun o => onCells o fun _ n _ => bK (Nat.ble (Nat.succ off) n) (K (.ref l off) s)
noncomputable def o_u2p (u : TypeId) (x : AX) : OpT := fun c t s K _ => evK x t fun a => u2pP a s c.P u fun v => K v s
noncomputable def o_eqp (neg : Bool) (x y : AX) : OpT := fun _ t s K _ => evK x t fun a => evK y t fun b => onRef a fun l o => onRef b fun l' o' => bK (Nat.beq l l') (bK (Nat.beq o o') (s.getK l fun ob => onCells ob fun _ _ _ => tB (notK neg) fun v => K v s))
noncomputable def o_noesc (f : FuncId) (x : AX) : OpT := fun c t s K _ => bK (c.ne f) (evK x t fun v => K v s)
noncomputable def minP (op : Bool) (a b : Int) : Bool := iK op (ltI b a) (ltI a b)
noncomputable def minsK (op : Bool) (x : AV) (ys : List AV) (K : AV → Bool) : Bool := onInt x fun k a => @List.rec AV (fun _ => Int → Bool) (fun a => K (.int k a)) (fun y _ ih a => onInt y fun _ b => iK (minP op a b) (ih b) (ih a)) ys a
noncomputable def o_mins (op : Bool) (x : AX) (xs : List AX) : OpT := fun _ t s K _ => evK x t fun a => evsK xs t fun ys => minsK op a ys fun v => K v s
noncomputable def o_mkslice (el : El) (zero : AV) (n c : AX) : OpT := fun _ t s K _ => evK n t fun a => onInt a fun k z => bK (kEq k .i64) (natI z fun i => evK c t fun b => onInt b fun k' z' => bK (kEq k' .i64) (natI z' fun j => bK (Nat.ble i j) (bK (roomB j el) (bK (fitsB zero el) (repK zero i fun xs => ofK .undef xs 0 .nil fun _ t' => s.pushK (.vec none el i t') fun l s' => K (.own el l i 0 i) s')))))
noncomputable def o_panic (x : AX) : OpT := fun _ t s _ Kp => evK x t fun a => onIfc a fun T v => Kp (.ifc T v) s
noncomputable def o_mkvec (el : El) : OpT := fun _ _ s K _ => s.pushK (.vec none el 0 .nil) fun l s' => K (.own el l 0 0 0) s'
noncomputable def o_hold : OpT := fun _ _ s K _ => s.pushK .resv fun l s' => K (.ref l 0) s'
noncomputable def o_boxT (T : TypeId) (x : AX) : OpT := fun _ t s K _ => boxK (some T) x t s K
noncomputable def heldK (k : Nat) (t : Tr AV) (s : St) (K : Nat → Bool) : Bool := Tr.getK .undef t k fun v => onRef v fun n z => bK (Nat.beq z 0) (s.getK n fun o => onResv o (K n))
noncomputable def o_allocAt (k : Nat) (T : Option TypeId) (cs : List AV) : OpT := fun _ t s K _ => heldK k t s fun n => ofK .undef cs 0 .nil fun m t' => s.setK n (.cells T m t') fun s' => K (.ref n 0) s'
noncomputable def noneP : AV → (El) → (Bool) → Bool :=
  @AV.rec (fun _ => (El) → (Bool) → Bool) (fun _ => PUnit)
    (fun _ _ => false)
    (fun _ _ _ => false)
    (fun _ _ _ _ => false)
    (fun _ _ _ => false)
    (fun _ _ _ _ => false)
    (fun _ _ _ _ => false)
    (fun el K => K)
    (fun f el' xs _ el K => bK f (bK (elEq el' el) (bK (isNilL xs) K)))
    (fun _ _ _ _ _ _ _ => false)
    (fun _ _ _ _ => false)
    (fun _ _ _ _ _ _ => false)
    (fun _ _ _ _ _ _ _ => false)
    (fun _ _ => false)
    (fun _ _ => false)
    (fun _ _ => false)
    (fun _ _ _ _ _ _ _ => false)
    (fun _ _ _ _ _ => false)
    (fun _ _ => false)
    (fun _ _ _ => false)
    (fun _ _ _ => false)
    ⟨⟩ (fun _ _ _ _ => ⟨⟩)
noncomputable def pureP : AV → (El) → (List AV → Bool) → Bool :=
  @AV.rec (fun _ => (El) → (List AV → Bool) → Bool) (fun _ => PUnit)
    (fun _ _ => false)
    (fun _ _ _ => false)
    (fun _ _ _ _ => false)
    (fun _ _ _ => false)
    (fun _ _ _ _ => false)
    (fun _ _ _ _ => false)
    (fun el K => K [])
    (fun f el' xs _ el K => bK (elEq el' el) (K xs))
    (fun _ _ _ _ _ _ _ => false)
    (fun _ _ _ _ => false)
    (fun _ _ _ _ _ _ => false)
    (fun _ _ _ _ _ _ _ => false)
    (fun _ _ => false)
    (fun _ _ => false)
    (fun _ _ => false)
    (fun _ _ _ _ _ _ _ => false)
    (fun _ _ _ _ _ => false)
    (fun _ _ => false)
    (fun _ _ _ => false)
    (fun _ _ _ => false)
    ⟨⟩ (fun _ _ _ _ => ⟨⟩)
noncomputable def o_appAt (k : Nat) (T : Option TypeId) (el : El) (x y : AX) : OpT := fun _ t s K _ => heldK k t s fun n => evK x t fun a => evK y t fun b => noneP a el (pureP b el fun ys => bK (allB (fun a => fitsB a el) ys) (ofK .undef ys 0 .nil fun m t' => bK (roomB m el) (s.setK n (.vec T el m t') fun s' => K (.own el n m 0 m) s')))
noncomputable def o_rngS (x : AX) : OpT := fun _ t s K _ => evK x t fun a => onStr a fun b => s.pushK (.siter b 0) fun l s' => K (.ref l 0) s'
noncomputable def o_nxtS (x : AX) : OpT := fun _ t s K _ => evK x t fun a => onRef a fun l z => bK (Nat.beq z 0) (s.getK l fun o => onIter o fun b p => iK (lenK b 0 (Nat.ble (Nat.succ p)))
  (fI (Utf8.decode ⟨b.toArray⟩ p).1 fun r => fN (Nat.add p (Utf8.decode ⟨b.toArray⟩ p).2) fun q => s.setK l (.siter b q) fun s' => K (.tup [.bool true, .int .i64 (Int.ofNat p), .int .i32 r]) s')
  (K (.tup [.bool false]) s))
noncomputable def o_eqnil (neg : Bool) (k : NK) (x y : AX) : OpT := fun _ t s K _ => evK x t fun a => evK y t fun b => nilEqK k a b fun r => tB (negB neg r) fun v => K v s
noncomputable def AOp.K : AOp → OpT := @AOp.rec (fun _ => OpT) o_mv o_pick o_alloc o_box o_build o_bslice o_load o_store o_nilck o_bin o_eqf o_un o_cint o_cid o_s2b o_b2s o_mkifc o_mkfn o_slS o_slL o_faddr o_field o_iaddr o_idxS o_idxA o_ext o_call
  (fun f _ => o_no f) o_len o_app o_usd (fun T _ _ => o_no T) o_p2u o_u2p o_eqp o_noesc (o_mins true) (o_mins false) o_mkslice o_panic o_mkvec o_hold o_boxT o_allocAt o_appAt o_rngS o_nxtS o_eqnil
abbrev QK := AExit → Tr AV → St → Bool
noncomputable def updK (t : Tr AV) (d : Option Nat) (v : AV) (K : Tr AV → Bool) : Bool := @Option.rec Nat (fun _ => Tr AV → AV → (Tr AV → Bool) → Bool) (fun t _ K => K t) (fun d t v K => Tr.setK .undef 60 t d v K) d t v K
noncomputable def goOp (op : AOp) (d : Option Nat) (ih : QK → Tr AV → St → Bool) (c : Ctx) (Q : QK) (t : Tr AV) (s : St) : Bool := AOp.K op c t s (fun v s' => updK t d v fun t' => ih Q t' s') (fun v s' => Q (.panic v) t s')
noncomputable def skOp (d : Option Nat) (ih : QK → Tr AV → St → Bool) (Q : QK) (t : Tr AV) (s : St) : Bool := updK t d (.tup []) fun t' => ih Q t' s
noncomputable def gdP : AV → (Bool) → (Bool → Bool) → Bool :=
  @AV.rec (fun _ => (Bool) → (Bool → Bool) → Bool) (fun _ => PUnit)
    (fun _ _ => false)
    (fun x b K => K (beqB x b))
    (fun _ _ _ _ => false)
    (fun _ _ _ => false)
    (fun _ _ _ _ => false)
    (fun vs _ b K => bK (isNilL vs) (K false))
    (fun _ _ => false)
    (fun _ _ _ _ _ _ => false)
    (fun _ _ _ _ _ _ _ => false)
    (fun _ _ _ _ => false)
    (fun _ _ _ _ _ _ => false)
    (fun _ _ _ _ _ _ _ => false)
    (fun _ _ => false)
    (fun _ _ => false)
    (fun _ _ => false)
    (fun _ _ _ _ _ _ _ => false)
    (fun _ _ _ _ _ => false)
    (fun _ _ => false)
    (fun _ _ _ => false)
    (fun _ _ _ => false)
    ⟨⟩ (fun _ _ _ _ => ⟨⟩)
noncomputable def opsK : List GOp → Ctx → QK → Tr AV → St → Bool := @List.rec GOp (fun _ => Ctx → QK → Tr AV → St → Bool) (fun _ Q t s => Q .normal t s)
  (fun g _ ih c Q t s => @GOp.rec (fun _ => Bool) (fun op d gd => @Option.rec (Nat × Bool) (fun _ => Bool) (goOp op d (ih c) c Q t s)
    (fun p => @Prod.rec Nat Bool (fun _ => Bool) (fun k b => Tr.getK .undef t k fun v => gdP v b fun y => iK y (goOp op d (ih c) c Q t s) (skOp d (ih c) Q t s)) p) gd) g)
noncomputable def objK (x : AV) : Option Nat := @AV.rec (fun _ => Option Nat) (fun _ => PUnit) none (fun _ => none) (fun _ _ => none) (fun _ => none) (fun _ _ => none) (fun _ _ => none) none (fun _ _ _ _ => none) (fun _ l _ _ _ => some l) (fun l _ => some l) (fun _ _ _ _ => none) (fun _ l _ _ _ => some l) none none none (fun _ _ _ _ _ => none) (fun _ _ _ => none) none (fun _ => none) (fun _ => none) ⟨⟩ (fun _ _ _ _ => ⟨⟩) x
noncomputable def apart1 (x y : AV) : Bool := @Option.rec Nat (fun _ => Bool) true (fun l => @Option.rec Nat (fun _ => Bool) true (fun l' => notK (Nat.beq l l')) (objK y)) (objK x)
noncomputable def apartK : List (AX × AX) → Tr AV → Bool := @List.rec (AX × AX) (fun _ => Tr AV → Bool) (fun _ => true) (fun p _ ih t => @Prod.rec AX AX (fun _ => Bool) (fun x y => evK x t fun a => evK y t fun b => bK (apart1 a b) (ih t)) p)
noncomputable def thenK (K : Tr AV → St → Bool) (Q : QK) : QK := fun x t s => @AExit.rec (fun _ => (Tr AV → St → Bool) → (QK) → Tr AV → St → Bool)
 (fun K Q t s => K t s)
 (fun id K Q t s => Q (.exit id) t s)
 (fun l K Q t s => Q (.goto l) t s)
 (fun K Q t s => Q (.ret ) t s)
 (fun v K Q t s => Q (.panic v) t s)
  x K Q t s
noncomputable def blockK (i : Nat) (Q : QK) : QK := fun x t s => @AExit.rec (fun _ => (Nat) → (QK) → Tr AV → St → Bool)
 (fun i Q t s => Q (.normal ) t s)
 (fun id i Q t s => iK (Nat.beq id i) (Q .normal t s) (Q (.exit id) t s))
 (fun l i Q t s => Q (.goto l) t s)
 (fun i Q t s => Q (.ret ) t s)
 (fun v i Q t s => Q (.panic v) t s)
  x i Q t s
noncomputable def condK (prs : List (AX × AX)) (Q : QK) : QK := fun x t s => @AExit.rec (fun _ => (List (AX × AX)) → (QK) → Tr AV → St → Bool)
 (fun prs Q t s => bK (apartK prs t) (Q .normal t s))
 (fun id prs Q t s => Q (.exit id) t s)
 (fun l prs Q t s => Q (.goto l) t s)
 (fun prs Q t s => Q (.ret ) t s)
 (fun v prs Q t s => Q (.panic v) t s)
  x prs Q t s
noncomputable def jumpK (i : Nat) (J : Tr AV → St → Bool) (Q : QK) : QK := fun x t s => @AExit.rec (fun _ => (Nat) → (Tr AV → St → Bool) → (QK) → Tr AV → St → Bool)
 (fun i J Q t s => Q (.normal ) t s)
 (fun id i J Q t s => Q (.exit id) t s)
 (fun l i J Q t s => bK (Nat.beq l i) (J t s))
 (fun i J Q t s => Q (.ret ) t s)
 (fun v i J Q t s => Q (.panic v) t s)
  x i J Q t s
noncomputable def loopB : Nat → (QK → Tr AV → St → Bool) → QK → Tr AV → St → Bool := @Nat.rec (fun _ => (QK → Tr AV → St → Bool) → QK → Tr AV → St → Bool) (fun _ _ _ _ => false) (fun _ ih b Q t s => b (thenK (ih b Q) Q) t s)
noncomputable def scopeB (l : Nat) : Nat → (QK → Tr AV → St → Bool) → QK → Tr AV → St → Bool := @Nat.rec (fun _ => (QK → Tr AV → St → Bool) → QK → Tr AV → St → Bool) (fun _ _ _ _ => false) (fun _ ih b Q t s => b (jumpK l (ih b Q) Q) t s)
noncomputable def codeK : ACode → Ctx → QK → Tr AV → St → Bool := @ACode.rec (fun _ => Ctx → QK → Tr AV → St → Bool)
  (fun _ Q t s => Q .normal t s)
  (fun ops c Q t s => opsK ops c Q t s)
  (fun ops prs c Q t s => opsK ops c (condK prs Q) t s)
  (fun _ _ iha ihb c Q t s => iha c (thenK (ihb c Q) Q) t s)
  (fun x _ _ iha ihb c Q t s => evK x t fun v => onBool v fun b => iK b (iha c Q t s) (ihb c Q t s))
  (fun id _ ih c Q t s => ih c (blockK id Q) t s)
  (fun _ ih c Q t s => loopB 1000000 (ih c) Q t s)
  (fun id _ Q t s => Q (.exit id) t s)
  (fun _ Q t s => Q .ret t s)
  (fun l _ _ ihc ihr c Q t s => ihc c (jumpK l (scopeB l 1000000 (ihr c) Q) Q) t s)
  (fun _ _ Q t s => Q .normal t s)
  (fun l _ Q t s => Q (.goto l) t s)
  (fun _ _ _ _ _ _ _ _ _ _ _ => false)
  (fun _ _ _ _ => false)
noncomputable def resK : List ARes → Tr AV → St → (List AV → Bool) → Bool := @List.rec ARes (fun _ => Tr AV → St → (List AV → Bool) → Bool) (fun _ _ K => K [])
  (fun r _ ih t s K => @ARes.rec (fun _ => Bool) (fun n => Tr.getK .undef t n fun v => ih t s fun vs => K (v :: vs)) (fun n ag m => Tr.getK .undef t n fun p => loadK p s ag m fun v => ih t s fun vs => K (v :: vs)) r)
noncomputable def oneK (vs : List AV) (K : AV → Bool) : Bool := @List.rec AV (fun _ => Bool) (K (.tup [])) (fun a l _ => @List.rec AV (fun _ => Bool) (K a) (fun _ _ _ => K (.tup vs)) l) vs
noncomputable def retK (rs : List ARes) (K : Out → St → Bool) : QK := fun x t s => @AExit.rec (fun _ => List ARes → (Out → St → Bool) → Tr AV → St → Bool)
  (fun rs K t s => resK rs t s fun vs => oneK vs fun v => K (.ret v) s) (fun _ _ _ _ _ => false) (fun _ _ _ _ _ => false)
  (fun rs K t s => resK rs t s fun vs => oneK vs fun v => K (.ret v) s) (fun v _ K _ s => K (.panic v) s) x rs K t s
def tblE (P : Program) (hs : FuncId → Hints) (n : FuncId) : Option AFunc := match P.funcs[n]? with
  | some fn => match fn.name == "runtime.NumGoroutine" with
    | true => none
    | false => compileF P (hs n) fn
  | none => none
def tblD (P : Program) (hs : FuncId → Hints) (n : FuncId) : Option DFunc := match P.funcs[n]? with
  | some fn => match fn.name == "runtime.NumGoroutine" with
    | true => none
    | false => compileDF P (hs n) fn
  | none => none
def tblR (P : Program) (hs : FuncId → Hints) (n : FuncId) : Option RFunc := match P.funcs[n]? with
  | some fn => match fn.name == "runtime.NumGoroutine" with
    | true => none
    | false => compileR P (hs n) fn
  | none => none
noncomputable def mvsK : List (AX × Option Nat) → Tr AV → (Tr AV → Bool) → Bool := @List.rec (AX × Option Nat) (fun _ => Tr AV → (Tr AV → Bool) → Bool) (fun t K => K t)
  (fun p _ ih t K => @Prod.rec AX (Option Nat) (fun _ => Bool) (fun x d => evK x t fun v => updK t d v fun t' => ih t' K) p)
noncomputable def endK (K : St → Bool) : QK := fun x _ s => @AExit.rec (fun _ => (St → Bool) → St → Bool) (fun K s => K s) (fun _ _ _ => false) (fun _ _ _ => false) (fun K s => K s) (fun _ _ _ => false) x K s
noncomputable def defK (c : Ctx) (n : FuncId) (args : List AV) (pv : AV) (s : St) (K : St → Bool) : Bool := @Option.rec RFunc (fun _ => Bool) false
  (fun rf => @RFunc.rec (fun _ => Bool) (fun nt k mvs rest => bK (lenK args 0 fun m => Nat.ble m nt) (ofK .undef args 0 .nil fun _ t => Tr.setK .undef 60 t k pv fun t => mvsK mvs t fun t => codeK rest c (endK K) t s)) rf) (tblR c.P c.hs n)
noncomputable def dfrK (c : Ctx) (rs : List ARes) (K : Out → St → Bool) (n : FuncId) (args : List AV) : QK := fun x t s => @AExit.rec (fun _ => Bool)
  (defK c n args .nili s fun s' => resK rs t s' fun vs => oneK vs fun v => K (.ret v) s') (fun _ => false) (fun _ => false)
  (defK c n args .nili s fun s' => resK rs t s' fun vs => oneK vs fun v => K (.ret v) s')
  (fun v => defK c n args v s fun s' => resK rs t s' fun vs => oneK vs fun v => K (.ret v) s') x
noncomputable def dcodeK : DCode → Ctx → QK → (FuncId → List AV → QK) → Tr AV → St → Bool := @DCode.rec (fun _ => Ctx → QK → (FuncId → List AV → QK) → Tr AV → St → Bool)
  (fun a _ ih c Q QD t s => codeK a c (thenK (ih c Q QD) Q) t s)
  (fun ops x rest c Q QD t s => opsK ops c (thenK (fun t s => evK x t fun v => onFn v fun f a b => onFunc f fun n => appendK a b fun az => codeK rest c (QD n az) t s) Q) t s)
noncomputable def callK (P : Program) (ne : FuncId → Bool) (hs : FuncId → Hints) (df : FuncId → Bool) : Nat → CallK := @Nat.rec (fun _ => CallK) (fun _ _ _ _ => false)
  (fun _ ih n args s K => iK (df n)
    (@Option.rec DFunc (fun _ => Bool) false (fun af => @DFunc.rec (fun _ => Bool) (fun nt rs body => bK (lenK args 0 fun k => Nat.ble k nt) (ofK .undef args 0 .nil fun _ t => dcodeK body ⟨P, ne, hs, ih⟩ (retK rs K) (dfrK ⟨P, ne, hs, ih⟩ rs K) t s)) af) (tblD P hs n))
    (@Option.rec AFunc (fun _ => Bool) false (fun af => @AFunc.rec (fun _ => Bool) (fun nt rs body => bK (lenK args 0 fun k => Nat.ble k nt) (ofK .undef args 0 .nil fun _ t => codeK body ⟨P, ne, hs, ih⟩ (retK rs K) t s)) af) (tblE P hs n)))
end Go.AM.B
