/- Part. -/
import Derived.Test.YtcjcnfcedihckaaGreatDoorW02
import Derived.Laws.Sem
set_option linter.all false
namespace Go.AM
def wh: Value->Option AV
 | .bool b=>some (.bool b)
 | .int k n=>some (.int k n)
 | .string s=>some (.str s.data.toList)
 | .pointer none=>some .iX
 | .slice none l c=>if l=0/\c=0 then some .au else none
 | .map none=>some .lG
 | .nilFunc=>some .rK
 | .nilIface=>some .jn
 | _=>none
def GD: List Value->Option (List AV)
 | []=>some []
 | v :: vs => match wh v, GD vs with
   | some a,some az=>some (a::az)
   | _,_=>none
def Up: Value->Option AV
 | .agg cs=>(GD cs.toList).map .agg
 | v=>wh v
def cX(nt:Nat): Operand->Option AX
 | .tmp t=>if t<nt then some (.t t)else none
 | .const v=>(Up v).map .c
 | .func f=>some (.c (.fn (.func f) [] []))
 | .global _=>none
def Bh(nt:Nat): List Operand->Option (List AX)
 | []=>some []
 | x :: xs => match cX nt x, Bh nt xs with
   | some a,some az=>some (a::az)
   | _,_=>none
def QS(nt:Nat): Option Operand->Option (Option AX)
 | none=>some none
 | some x=>(cX nt x).map some
def pI{α : Type}(nt:Nat)(at_:Nat->Option α): List (Nat × Operand)->Option (List (α × AX))
 | []=>some []
 | (i, x) :: r => match at_ i, cX nt x, pI nt at_ r with
   | some p,some a,some az=>some ((p,a)::az)
   | _,_,_=>none
section
variable (P:Program)
def lH(t:TypeId): Option Bool :=
 match P.underlying t with
 | some (.struct _)|some (.array _ _)=>some true
 | some _=>some false
 | none=>none
def iP(t:TypeId): Option El :=
 match lH P t,P.info? t with
 | some ag,some i=>if(ag || i.size==1) && i.bytes<=24*(i.size+1) && i.size<=1000 && i.zero.any (fun v=>v.cells.size==i.size)then some ⟨ag,i.size⟩else none
 | _,_=>none
def jf(t:TypeId): Option AV:=(P.info? t).bind fun i=>i.zero.bind Up
def uN(fk:TypeId->Option (List Kd)): Nat->List Field->Option (List Kd)
 | _,[]=>some []
 | off, f :: fs => if f.name == "_" || f.offset != off then none else match fk f.type, P.info? f.type with
   | some ks,some i=>if i.size==ks.length then(uN fk (off+ks.length) fs).map (ks++ ·)else none
   | _,_=>none
def oc: (d:Nat)->TypeId->Option (List Kd)
 | 0,_=>none
 | d + 1, t => match P.underlying t with
   | some .bool=>some [.b]
   | some (.int _)=>some [.i]
   | some .string=>some [.s]
   | some (.struct fs)=>if P.stoodInHeld t then none else uN P (oc d) 0 fs.toList
   | some (.array n e) => match oc d e, P.info? e with
     | some ks,some i=>if i.size==ks.length && P.cellsOf e==ks.length then some (List.replicate n ks).flatten else none
     | _,_=>none
   | _=>none
structure Hints where
 mt:List Nat:=[]
 MQ:List Nat:=[]
 abJ:List (Nat × El):=[]
 Uq:List Nat:=[]
 mth:List Nat:=[]
 rsv:List (Nat × Nat):=[]
def wV(b:Bool)(t:TypeId): Option TypeId:=if b then some t else none
def xW(b:Bool)(t:TypeId): wV b t=none\/wV b t=some t:=by cases b<;>simp[wV]
def oq: Operand->Bool
 | .const (.slice none l c)=>l==0 && c==0
 | _=>false
def kQ: Operand->Bool
 | .const (.pointer none) | .const .nilIface | .const .nilFunc | .const (.map none)=>true
 | _=>false
def IS: TypeDesc->Option NK
 | .pointer _=>some .p
 | .interface _=>some .i
 | .func ..=>some .f
 | .map ..=>some .m
 | _=>none
def y8: TypeDesc->Option (Option IntKind)
 | .string=>some none
 | .int k=>some (some k)
 | _=>none
def Zp: Operand->Option FuncId
 | .func f => match P.funcs[f]? with
   | some fn=>if fn.body.isNone then some f else none
   | none=>none
 | _=>none
def Ur(m q:Bool)(f:AX)(args:List AX): br:=if m then .rL f args else .call q f args
def Zq(d:Bool)(el:El)(lo:Bool): fM:=if d then .IP el lo else .Zl el lo
def IU: Option Nat->List Nat->Bool
 | some d,l=>l.contains d
 | none,_=>false
def afl(h:Hints): Option Nat->List (Nat × El)
 | some d=>h.abJ.filterMap fun(k,el)=>if k / 100000=d+1 then some (k % 100000,el)else none
 | none=>[]
def Xu(l:List (Nat × El))(m q:Bool)(f:AX)(args:List AX): br:=match l,f with
 | l@(_::_),.c (.fn (.func n) [] [])=> .ex (.cw n args.length (l.map fun p=>(p.2.ag,p.2.sz))) (args++l.map fun p=> .t p.1)
 | _,_=>Ur m q f args
def adT(h:Hints): Option Nat->Bool
 | some d=>h.mth.contains (200000+d)
 | none=>false
def Xv(p:Bool)(l:List (Nat × El))(m q:Bool)(f:AX)(args:List AX): br:=match p,f with
 | true,.c (.fn (.func n) [] [])=> .ex (.pc n) args
 | _,_=>Xu l m q f args
def u7(nt:Nat)(h:Hints)(draw:Bool)(o:Oper): Option br :=
 let has (l:List Nat):Bool:=match o.dst with
  | some d=>l.contains d
  | none=>false
 let vec:Option El:=match o.dst with
  | some d=>h.abJ.lookup d
  | none=>none
 match o.op with
 | .move x=>(cX nt x).map fun a=>if !draw && IU o.dst h.MQ then .ex .Uk [a]else .mv a
 | .assign x => match vec with
   | some el=>if oq x then some (.lp el)else (cX nt x).map .mv
   | none=>(cX nt x).map .mv
 | .pick c a b => match cX nt c, cX nt a, cX nt b with
   | some c,some a,some b=>some (.pick c a b)
   | _,_,_=>none
 | .alloc t => match jf P t with
   | some z=>if z.cells.all AV.scalar then some (match o.dst.bind (fun d=>h.rsv.lookup d)with|some i=> .lu (nt+i) (wV (has h.Uq) t) z.cells|none=> .alloc (wV (has h.Uq) t) z.cells)else none
   | none=>none
 | .box t x=>(cX nt x).map fun ax=>if IU o.dst h.Uq then .wU t ax else .box ax
 | .build t parts => match jf P t, P.underlying t with
   | some z, some (.struct fs) =>
     if fs.toList.all (fun f=>(P.info? f.type).isSome) && z.cells.all AV.scalar then
      (pI nt (fun i=>(fs[i]?).map fun f=>(f.offset,P.cellsOf f.type)) parts.toList).map fun ps=> .build z.cells (ps.map fun p=>(p.1.1,p.1.2,p.2))
     else none
   | some z, some (.array _ el) =>
     if(P.info? el).isSome && z.cells.all AV.scalar then
      (pI nt (fun i=>some (i*P.cellsOf el,P.cellsOf el)) parts.toList).map fun ps=> .build z.cells (ps.map fun p=>(p.1.1,p.1.2,p.2))
     else none
   | _,_=>none
 | .buildSlice t n parts => match P.underlying t with
   | some (.slice e) => match iP P e, jf P e with
     | some el,some z=>if n*el.sz<=2 ^ 24 && z.fits el then(pI nt some parts.toList).map fun ps=> .jI (has h.mt) el z n ps else none
     | _,_=>none
   | _=>none
 | .load t a => match lH P t, P.info? t, cX nt a with
   | some ag,some i,some x=>if ag || i.size==1 then some (.load ag i.size x)else none
   | _,_,_=>none
 | .store t a v => match P.info? t, cX nt a, cX nt v with
   | some i,some x,some y=>some (.store i.size x y)
   | _,_,_=>none
 | .nilCheck x=>(cX nt x).map .qd
 | .binOp op t x y _ => match cX nt x, cX nt y with
   | some a, some b =>
     match P.underlying t with
     | some (.int _)|some .string=>some (.bin op a b)
     | some (.slice _) => if oq y then (match op with
        | .eql=>some (.ex (.Fc false) [a])
        | .neq=>some (.ex (.Fc true) [a])
        | _=>none)else none
     | some d =>
       match IS d with
       | some k =>
         if k == .p && !(kQ x || kQ y)then
          match d with
          | .pointer te => match P.info? te, op with
            | some _,.eql=>some (.Es false a b)
            | some _,.neq=>some (.Es true a b)
            | _,_=>none
          | _=>none
         else if kQ x || kQ y then
          match op with
          | .eql=>some (.qf false k a b)
          | .neq=>some (.qf true k a b)
          | _=>none
         else none
       | none =>
       match oc P 12 t,lH P t,P.info? t with
       | some ks, some ag, some i =>
         if i.size==ks.length && (!ag || !P.eqGuardType P.depth t)then
          match op with
          | .eql=>some (.r_ false ag ks a b)
          | .neq=>some (.r_ true ag ks a b)
          | _=>none
         else none
       | _,_,_=>none
     | none=>none
   | _,_=>none
 | .unOp op _ x=>(cX nt x).map (.un op)
 | .convert s d x => match P.underlying s, P.underlying d, cX nt x with
   | some (.int _),some (.int k),some a=>some (.nw k a)
   | some .string,some .string,some a=>some (.QK a)
   | some .string, some (.slice e), some a => match P.underlying e, P.info? e with
     | some (.int .u8),some i=>if i.size==1 && i.bytes<=48 then some (.QL a)else none
     | _,_=>none
   | some (.slice e), some .string, some a => match P.underlying e, P.info? e with
     | some (.int .u8),some i=>if i.size==1 then some (.uZ a)else none
     | _,_=>none
   | some (.pointer t), some .unsafePointer, some a => match P.info? t with
     | some i=>if i.size==0 then none else some (.Gt a)
     | none=>none
   | some .unsafePointer, some (.pointer t), some a => match P.info? t with
     | some _=>some (.Gu t a)
     | none=>none
   | _,_,_=>none
 | .makeInterface t x => match P.underlying t with
   | some (.interface _)|none=>none
   | _=>(cX nt x).map (.DK t)
 | .makeFunc fn first cap => match Bh nt first.toList, Bh nt cap.toList with
   | some a,some b=>some (.wS fn a b)
   | _,_=>none
 | .slice t x lo hi mx => match cX nt x, QS nt lo, QS nt hi, QS nt mx with
   | some a, some l, some h, some m =>
     match P.underlying t with
     | some .string=>if m.isNone then some (.pH a l h)else none
     | some (.slice e) => match m, h with
       | none,_=>(iP P e).map fun el=> .tS el a l h
       | some mx,some hi=>(iP P e).map fun el=> .ex (Zq draw el l.isSome) (a::l.toList++[hi,mx])
       | _,_=>none
     | some (.array n e)=>if m.isNone then(iP P e).map fun el=> .ex (.J7 el n l.isSome h.isSome) (a::l.toList++h.toList)else none
     | _=>none
   | _,_,_,_=>none
 | .fieldAddr s x f => match P.underlying s, cX nt x with
   | some (.struct fs),some a=>(fs[f]?).bind fun fi=>if((P.info? fi.type).map (·.size)).getD 0==0 then none else some (.po fi.offset a)
   | _,_=>none
 | .field s x f => match P.underlying s, cX nt x with
   | some (.struct fs), some a => (fs[f]?).bind fun fi => match lH P fi.type, P.info? fi.type with
     | some ag,some i=>if ag || i.size==1 then some (.field ag fi.offset i.size a)else none
     | _,_=>none
   | _,_=>none
 | .indexAddr t x i => match P.underlying t, cX nt x, cX nt i with
   | some (.slice e),some a,some b=>(iP P e).map fun el=> .gG el none a b
   | some (.array n e),some a,some b=>(iP P e).map fun el=> .gG el (some n) a b
   | _,_,_=>none
 | .index t x i => match P.underlying t, cX nt x, cX nt i with
   | some .string,some a,some b=>some (.j_ a b)
   | some (.array n e),some a,some b=>(iP P e).map fun el=> .yJ el n a b
   | _,_,_=>none
 | .extract x i=>(cX nt x).map fun a=> .ext a i
 | .makeSlice t l c => match P.underlying t, cX nt l, cX nt c with
   | some (.slice e), some a, some b => match iP P e, jf P e with
     | some el,some z=>some (match o.dst.bind (fun d=>h.rsv.lookup d)with|some i=> .pz (nt+i) el z a b|none=> .nS el z a b)
     | _,_=>none
   | _,_,_=>none
 | .panic x=>(cX nt x).map .panic
 | .makeMap t none=>some (.ex .Gr [])
 | .lookup t x k ok => match P.underlying t, cX nt x, cX nt k with
   | some (.map key elem), some a, some b => match (P.underlying key).bind y8, jf P elem with
     | some kd,some z=>some (.ex (.Fa kd ok z) [a,b])
     | _,_=>none
   | _,_,_=>none
 | .mapUpdate t m k v | .insert t m k v => match P.underlying t, cX nt m, cX nt k, cX nt v with
   | some (.map key _), some a, some b, some c => match (P.underlying key).bind y8 with
     | some kd=>some (.ex (.Gs kd) [a,b,c])
     | none=>none
   | _,_,_,_=>none
 | .mapEntry t m k => match P.underlying t, cX nt m, cX nt k with
   | some (.map key elem), some a, some b => match (P.underlying key).bind y8, jf P elem with
     | some kd,some z=>some (.ex (.Xo kd z) [a,b])
     | _,_=>none
   | _,_,_=>none
 | .entryStore _ m s v => match cX nt m, cX nt s, cX nt v with
   | some a,some b,some c=>some (.ex .R0 [a,b,c])
   | _,_,_=>none
 | .sliceToArrayPointer t x => match P.underlying t, cX nt x with
   | some (.array n _),some a=>some (.ex (.s2a n) [a])
   | _,_=>none
 | .typeAssert x _ T ok => match P.underlying T with
   | some (.interface _)=>none
   | none=>none
   | some _ => match cX nt x, jf P T with
     | some a,some z=>some (.ex (.Uj T ok z) [a])
     | _,_=>none
 | .range t x => match P.underlying t with
   | some .string=>(cX nt x).map .Fe
   | _=>none
 | .next x b=>if b then(cX nt x).map .Ff else none
 | .call c => match c.callee with
   | .value f => match Zp P f, cX nt f, Bh nt c.args.toList with
     | some g,_,some [a]=>some (.DL g a)
     | _,some a,some az=>some (Xv (draw && adT h o.dst) (if draw then afl h o.dst else []) (draw && has h.mth) (if draw then !has h.MQ else has h.MQ) a az)
     | _,_,_=>none
   | .invoke r name => match cX nt r, Bh nt c.args.toList with
     | some a,some az=>some (.ex (.inv name) (a::az))
     | _,_=>none
   | .builtin .len => match c.argTypes[0]?, c.args.toList with
     | some t, [x] => match P.underlying t with
       | some .string=>(cX nt x).map (.len true)
       | some (.slice _)=>(cX nt x).map (.len false)
       | some (.map _ _)=>(cX nt x).map fun a=> .ex .Fb [a]
       | _=>none
     | _,_=>none
   | .builtin .append => match c.argTypes[0]?, c.argTypes[1]?, c.args.toList with
     | some t, some u, [x, y] => match P.underlying t, P.underlying u, cX nt x, cX nt y with
       | some (.slice e),some (.slice _),some a,some b=>(iP P e).map fun el=>if IU o.dst h.mt then .ex (.Zm el) [a,b]else if IU o.dst h.MQ then .ex (.IQ el) [a,b]else (match o.dst.bind (fun d=>h.rsv.lookup d)with|some i=> .pq (nt+i) none el a b|none=> .app (wV (has h.Uq) e) el a b)
       | some (.slice e),some .string,some a,some b=>(iP P e).map fun el=>if IU o.dst h.mt then .ex (.Zm el) [a,b]else .app (wV (has h.Uq) e) el a b
       | _,_,_,_=>none
     | _,_,_=>none
   | .builtin .copy => match c.argTypes[0]?, c.args.toList with
     | some t, [x, y] => match P.underlying t, cX nt x, cX nt y with
       | some (.slice e),some a,some b=>(iP P e).map fun el=> .ex (.copy el) [a,b]
       | _,_,_=>none
     | _,_=>none
   | .builtin .clear => match c.argTypes[0]?, c.args.toList with
     | some t, [x] => match P.underlying t, cX nt x with
       | some (.slice e), some a => match iP P e, jf P e with
         | some el,some z=>some (.ex (.clr el z) [a])
         | _,_=>none
       | _,_=>none
     | _,_=>none
   | .builtin .unsafeSliceData => match c.argTypes[0]?, c.args.toList with
     | some t, [x] => match P.underlying t, cX nt x with
       | some (.slice e),some a=>(iP P e).map fun el=> .Bf el a
       | _,_=>none
     | _,_=>none
   | .builtin .unsafeString => match c.argTypes.toList, c.args.toList with
     | [t, _], [x, y] => match P.underlying t, cX nt x, cX nt y with
       | some (.pointer e),some a,some b=>if P.cellsOf e==1 then some (.wT e a b)else none
       | _,_,_=>none
     | _,_=>none
   | .builtin .min => match Bh nt c.args.toList with
     | some (a::az)=>some (.min a az)
     | _=>none
   | .builtin .max => match Bh nt c.args.toList with
     | some (a::az)=>some (.max a az)
     | _=>none
   | _=>none
 | _=>none
end
end Go.AM
namespace Go.AM
structure fY (nt:Nat) (g:aJ) (w:World) (e:Env) (tmps:Array Value):Prop where
 size:tmps.size=nt
 rel:∀ t,t<nt->VR g w (e t) (tmps.getD t Go.undef)
def fY.mono{nt:Nat}{g g':aJ}{w w':World}{e:Env}{tmps:Array Value}(h:fY nt g w e tmps)(hm:kK g w g' w'): fY nt g' w' e tmps :=
 ⟨h.size,fun t ht=>(h.rel t ht).mono hm⟩
def fY.put{nt:Nat}{g:aJ}{w:World}{e:Env}{a:Act}(h:fY nt g w e a.tmps)(d:Option Nat){x:AV}{v:Value}(hv:VR g w x v): fY nt g w (fm e d x) (a.put d v).tmps:=by
 cases d with
 | none=>exact h
 | some d =>
   refine⟨by simp[Act.put,h.size],fun t ht=>?_⟩;simp only[fm,Act.put];by_cases e1:t=d
   ·subst e1;have:t<a.tmps.size:=by rw[h.size];exact ht
    simp[this,hv]
   ·have:=h.rel t ht;simp only[if_neg e1];simpa[Array.getElem?_setIfInBounds_ne (Ne.symm e1)]using this
def Kj{v:Value}{a:AV}(h:wh v=some a)(g:aJ)(w:World): VR g w a v/\a.scalar=true:=by
 cases v<;>simp only[wh]at h
 case bool b=>cases h;exact⟨.bool b,rfl⟩
 case int k n=>cases h;exact⟨.int k n,rfl⟩
 case string s=>cases h;exact⟨by simpa using VR.str (g:=g) (w:=w) s.data.toList,rfl⟩
 case pointer p=>cases p<;>simp[wh]at h;subst h;exact⟨.iX,rfl⟩
 case slice p l c =>
  cases p with
  | none =>
    simp only[wh]at h;split at h
    ·rename_i e;obtain⟨rfl,rfl⟩:=e;cases h;exact⟨.au,rfl⟩
    ·cases h
  | some p=>simp[wh]at h
 case map p=>cases p<;>simp[wh]at h;subst h;exact⟨.lG,rfl⟩
 case nilFunc=>cases h;exact⟨.rK,rfl⟩
 case nilIface=>cases h;exact⟨.jn,rfl⟩
 all_goals cases h
def R_ {vs : List Value} {az : List AV} (h : GD vs = some az) (g : aJ) (w : World) :
    az.length=vs.length/\az.all AV.scalar=true/\ ∀ i,i<az.length->VR g w (az.getD i .undef) (vs.getD i Go.undef):=by
 induction vs generalizing az with
 | nil=>cases h;exact⟨rfl,rfl,fun i hi=>absurd hi (Nat.not_lt_zero _)⟩
 | cons v vs ih =>
   simp only[GD]at h;split at h
   ·rename_i a az' h1 h2;cases h;obtain⟨i1,i2,i3⟩:=ih h2;obtain⟨j1,j2⟩:=Kj h1 g w;refine⟨by simp[i1],by simpa[j2]using i2,fun i hi=>?_⟩;cases i with
    | zero=>simpa using j1
    | succ i=>simpa using i3 i (by simpa using hi)
   ·cases h
def IV{v:Value}{a:AV}(h:Up v=some a)(g:aJ)(w:World): VR g w a v/\a.cells.all AV.scalar=true:=by
 by_cases hv:∃ cs,v = .agg cs
 ·obtain⟨cs,rfl⟩:=hv;simp only[Up,aW]at h;obtain⟨az,h1,rfl⟩:=h;obtain⟨i1,i2,i3⟩:=R_ h1 g w;exact⟨.agg az cs (by simpa using i1) i2 (fun i hi=>by simpa using i3 i hi),i2⟩
 ·have h' : wh v = some a := by
   cases v<;>simp only[Up]at h<;>first|exact h|exact absurd ⟨_,rfl⟩ hv
  obtain⟨j1,j2⟩:=Kj h' g w;refine⟨j1,?_⟩;cases a<;>simp[AV.scalar]at j2<;>simp[AV.cells,AV.scalar]
def bT{nt:Nat}{x:Operand}{ax:AX}{g:aJ}{w:World}{e:Env}{a:Act}(h:cX nt x=some ax)(hE:fY nt g w e a.tmps): VR g w (ax.ev e) (a.eval x):=by
 cases x with
 | tmp t =>
   simp only[cX]at h;split at h
   ·cases h;exact hE.rel t ‹_›
   ·cases h
 | const v =>
   simp only[cX,aW]at h;obtain⟨b,h1,rfl⟩:=h;exact(IV h1 g w).1
 | global n=>cases h
 | func f=>cases h;exact .fn _ [] [] #[] #[] rfl rfl (fun i hi=>absurd hi (Nat.not_lt_zero _)) (fun i hi=>absurd hi (Nat.not_lt_zero _))
def aai {nt : Nat} {xs : List Operand} {az : List AX} {g : aJ} {w : World} {e : Env} {a : Act} (h : Bh nt xs = some az) (hE : fY nt g w e a.tmps) :
    az.length=xs.length/\ ∀ i,i<az.length->VR g w ((az.map (AX.ev e)).getD i .undef) ((xs.map a.eval).getD i Go.undef):=by
 induction xs generalizing az with
 | nil=>cases h;exact⟨rfl,fun i hi=>absurd hi (Nat.not_lt_zero _)⟩
 | cons x xs ih =>
   simp only[Bh]at h;split at h
   ·rename_i b bs h1 h2;cases h;obtain⟨i1,i2⟩:=ih h2;refine⟨by simp[i1],fun i hi=>?_⟩;cases i with
    | zero=>simpa using bT h1 hE
    | succ i=>simpa using i2 i (by simpa using hi)
   ·cases h
def L8{v:Value}(h:v.oneCell'=true): v.cells = #[v]:=by
 cases v<;>first|rfl|(simp[Value.oneCell']at h;done)
def kU {g : aJ} {w : World} {a : AV} {v : Value} (h : VR g w a v) (hs : a.cells.all AV.scalar = true) :
    a.cells.length=v.cells.size/\ ∀ i,i<a.cells.length->VR g w (a.cells.getD i .undef) (v.cells.getD i Go.undef):=by
 by_cases hv:∃ cs,a = .agg cs
 ·obtain⟨cs,rfl⟩:=hv;cases h with
  | agg cs vs hl hs h=>exact⟨hl,h⟩
 ·have hc:a.cells=[a]:=by cases a<;>first|rfl|exact absurd ⟨_,rfl⟩ hv
  rw[hc]at hs;have hsc:a.scalar=true:=by simpa using hs
  have h1:=L8 (h.DI hsc);rw[hc,h1];refine⟨rfl,fun i hi=>?_⟩;have:i=0:=by simpa using hi
  subst this;simpa using h
def wj{cs:List AV}(h:cs.all AV.scalar=true){i:Nat}(hi:i<cs.length): (cs.getD i .undef).scalar=true:=by
 have:=aX.1 h (cs[i]) (cU _);simpa[hi]using this
def bC(P:Program)(s:Sem Value)(g:aJ)(w:World)(σ : ae)(K:AV->ae->Prop): Prop :=
 ∃ v w' g' av σ',s.run P w = .ok v w'/\Rel g' w' σ'/\fC σ g w σ' g' w'/\VR g' w' av v/\K av σ'
def bC.pure {P : Program} {s : Sem Value} {g : aJ} {w : World} {σ : ae} {K : AV -> ae -> Prop} {v : Value} {av : AV} (hR : Rel g w σ) (h : s.run P w = .ok v w) (hv : VR g w av v) (hk : K av σ) :
    bC P s g w σ K:=⟨v,w,g,av,σ,h,hR,.refl _ _ _,hv,hk⟩
section
variable {P:Program} {g:aJ} {w:World} {σ : ae} {K:AV->ae->Prop}
def run_typeInfo{t:TypeId}{i:TypeInfo}(h:P.info? t=some i)(w:World): (typeInfo t).run P w = .ok i w:=by
 simp[typeInfo,h]
def aQ{t:TypeId}{d:TypeDesc}(h:P.underlying t=some d)(w:World): (underlying t).run P w = .ok d w:=by
 simp[underlying,h]
def cW{t:TypeId}{i:TypeInfo}(h:P.info? t=some i)(w:World): (sizeOf t).run P w = .ok i.size w:=by
 simp[sizeOf,run_typeInfo h]
def jR{t:TypeId}{b:Bool}(h:lH P t=some b)(w:World): (isAgg t).run P w = .ok b w:=by
 unfold lH at h;split at h
 ·rename_i hu;cases h;simp[isAgg,aQ hu]
 ·rename_i hu;cases h;simp[isAgg,aQ hu]
 ·rename_i d h1 h2 hu;cases h;simp only[isAgg,Sem.run_bind,aQ hu,Result.andThen_ok];cases d<;>first|rfl|exact absurd hu (h1 _)|exact absurd hu (h2 _ _)
 ·cases h
def rO{t:TypeId}{z:AV}(h:jf P t=some z)(w:World): ∃ v,(zeroValue t).run P w = .ok v w/\ ∀ g w,VR g w z v/\z.cells.all AV.scalar=true:=by
 unfold jf at h;cases hi:P.info? t with
 | none=>simp[hi]at h
 | some i =>
   simp only[hi,gW]at h;cases hz:i.zero with
   | none=>simp[hz]at h
   | some v =>
     simp only[hz,gW]at h;exact⟨v,by simp[zeroValue,run_typeInfo hi,hz],fun g w=>IV h g w⟩
def mP(w:World)(vs:Array Value)(t:TypeId): Row (w.alloc (.cells vs t)) w.heap.size vs:=by
 refine⟨t,(0,0),heap_alloc_new w _,fun i _=>?_⟩;exact World.frozen?_alloc_new w vs t i
def B4 (hR : Rel g w σ) (t : TypeId) {cs : List AV} {vs : Array Value} (hs : cs.all AV.scalar = true) (hl : cs.length = vs.size)
    (h:∀ i,i<cs.length->VR g w (cs.getD i .undef) (vs.getD i Go.undef))
    (T : Option TypeId) (hT : T = none \/ T = some t) : ∃ g', Rel g' (w.alloc (.cells vs t)) (σ ++ [.cg T cs]) /\ fC σ g w (σ ++ [.cg T cs]) g' (w.alloc (.cells vs t)) /\
      VR g' (w.alloc (.cells vs t)) (.ref σ.length 0) (.pointer (some ⟨w.heap.size,0,none⟩)):=by
 have hm:=kj g w (.cells vs t) 1 (some w.heap.size) 0 hR.lt
 have hty:uc (w.alloc (.cells vs t)) w.heap.size cs.length T:=by
  rcases hT with rfl|rfl
  ·trivial
  ·have:(w.alloc (.cells vs t)).heap[w.heap.size]? = some (.cells vs t):=by show(w.heap.push _)[w.heap.size]? = _;simp
   simp only[uc,World.shape?,this,hl]
 obtain⟨h1,h2⟩:=hR.pF (.cells vs t) (.cg T cs) 1 0
  ⟨by simp[aJ.push],hs,w.heap.size,vs,by simp[aJ.push],mP w vs t,hl.symm,fun i hi=>(h i hi).mono hm,hty⟩
 refine⟨_,h1,h2,.ref _ _ _ ⟨by simp[aJ.push,hR.len],_,rfl,fun _=>⟨by simp[aJ.push,hR.len],rfl⟩⟩⟩
def Pg {t : TypeId} {T : Option TypeId} (hT : T = none \/ T = some t) {z : AV} (hR : Rel g w σ) (hz : jf P t = some z) (hK : K (.ref σ.length 0) (σ ++ [.cg T z.cells])) :
    bC P (Instr.alloc t true (.tuple #[])) g w σ K:=by
 obtain⟨v,h1,h2⟩:=rO hz w;obtain⟨h3,h4⟩:=h2 g w;obtain⟨h5,h6⟩:=kU h3 h4;obtain⟨g',r1,r2,r3⟩:=B4 hR t h4 h5 h6 T hT;refine⟨_,_,g',_,_,?_,r1,r2,r3,hK⟩;simp[Instr.alloc,h1,newVar,newRow]
def L9 {t : TypeId} {T : Option TypeId} (hT : T = none \/ T = some t) {n : Nat} {z : AV} (hR : Rel g w σ) (hn : σ[n]? = some .resv) (hz : jf P t = some z) (hK : K (.ref n 0) (σ.set n (.cg T z.cells))) :
    bC P (Instr.alloc t true (.tuple #[])) g w σ K:=by
 obtain⟨v,h1,h2⟩:=rO hz w;obtain⟨h3,h4⟩:=h2 g w;obtain⟨h5,h6⟩:=kU h3 h4;obtain⟨lg,hb0,_⟩:=hR.ok n _ hn;have hnn:n<g.n:=by rw[<-hR.len];exact(aP.1 hn).1
 have hty:∀ vs:Array Value,z.cells.length=vs.size->uc (w.alloc (.cells vs t)) w.heap.size z.cells.length T:=fun vs hl=>by
  rcases hT with rfl|rfl
  ·trivial
  ·have:(w.alloc (.cells vs t)).heap[w.heap.size]? = some (.cells vs t):=by show(w.heap.push _)[w.heap.size]? = _;simp
   simp only[uc,World.shape?,this,hl]
 obtain⟨r1,r2⟩:=hR.change (w':=w.alloc (.cells _ t)) (o':= .cg T z.cells) hn rfl 1 (some w.heap.size) 0 0 (by omega) (fun h=>by omega) (by simp) rfl rfl rfl
  (fun b hb _=>heap_alloc_old w _ hb) (fun b hb=>by cases hb;exact .inr (Nat.le_refl _))
  (fun hm=>⟨by simp[aJ.reset],h4,w.heap.size,_,by simp[aJ.reset],mP w _ t,h5.symm,fun i hi=>(h6 i hi).mono hm,hty _ h5⟩)
 refine⟨_,_,_,_,_,?_,r1,r2,.ref _ _ _ ⟨⟨hnn,by simp[aJ.reset]⟩,⟨w.heap.size,0,none⟩,rfl,fun _=>⟨by simp[aJ.reset],rfl⟩⟩,hK⟩;simp[Instr.alloc,h1,newVar,newRow]
def Us {t : TypeId} {a : AV} {v : Value} (hR : Rel g w σ) (hv : VR g w a v) (hs : a.cells.all AV.scalar = true) (hK : K (.ref σ.length 0) (σ ++ [.cells a.cells])) :
    bC P (Instr.box t v) g w σ K:=by
 obtain⟨h5,h6⟩:=kU hv hs;obtain⟨g',r1,r2,r3⟩:=B4 hR t hs h5 h6 none (.inl rfl);refine⟨_,_,g',_,_,?_,r1,r2,r3,hK⟩;simp[Instr.box,newVar,newRow]
def Sb {t : TypeId} {a : AV} {v : Value} (hR : Rel g w σ) (hv : VR g w a v) (hs : a.cells.all AV.scalar = true) (hK : K (.ref σ.length 0) (σ ++ [.cg (some t) a.cells])) :
    bC P (Instr.box t v) g w σ K:=by
 obtain⟨h5,h6⟩:=kU hv hs;obtain⟨g',r1,r2,r3⟩:=B4 hR t hs h5 h6 (some t) (.inr rfl);refine⟨_,_,g',_,_,?_,r1,r2,r3,hK⟩;simp[Instr.box,newVar,newRow]
def run_loadCells {b o : Nat} {n : Nat} (hc : ∀ c, c < n -> (w.cell? ⟨b, o + c, none⟩).isSome = true) :
    ∀(i:Nat) (acc:Array Value) (m:Nat),i+m=n->(loadCellsFrom ⟨b,o,none⟩ i m acc).run P w = .ok (acc++((List.range' i m).map fun c=>dD w ⟨b,o+c,none⟩).toArray) w:=by
 intro i acc m
 induction m generalizing i acc with
 | zero=>intro _;simp[loadCellsFrom]
 | succ m ih =>
   intro hi;have h1:=hc i (by omega)
   have ha:(⟨b,o,none⟩:Addr).add i=⟨b,o+i,none⟩:=by
    unfold Addr.add;split
    ·rename_i h0;subst h0;rfl
    ·rfl
   obtain⟨v,hv⟩:=fA.1 h1;simp only[loadCellsFrom,Sem.run_bind,run_load,ha,hv,Result.andThen_ok];rw[ih (i+1) (acc.push v) (by omega)];simp[List.range'_succ,dD,hv]
def Fj {t : TypeId} {ag : Bool} {i : TypeInfo} {b o : Nat} (hA : lH P t = some ag) (hi : P.info? t = some i) (h1 : ag = false -> i.size = 1)
    (hc:∀ c,c<i.size->(w.cell? ⟨b,o+c,none⟩).isSome=true) :
    (loadVar t ⟨b,o,none⟩).run P w = .ok (if ag then .agg ((List.range i.size).map fun c=>dD w ⟨b,o+c,none⟩).toArray else dD w ⟨b,o,none⟩) w:=by
 cases ag with
 | true =>
   have:=run_loadCells (P:=P) hc 0 #[] i.size (by omega);simp[loadVar,jR hA,cW hi,loadCells,this,List.range_eq_range']
 | false =>
   have h2:=hc 0 (by rw[h1 rfl];omega);obtain⟨v,hv⟩:=fA.1 h2;simp only[cQ]at hv;simp[loadVar,jR hA,hv,dD]
end
end Go.AM
namespace Go.AM
section
variable {P:Program} {g:aJ} {w:World} {σ : ae} {K:AV->ae->Prop}
def Fk {g : aJ} {w : World} {ag : Bool} {n : Nat} {b o : Nat} {cs : List AV} (h1 : ag = false -> n = 1) (hl : cs.length = n) (hs : ag = true -> cs.all AV.scalar = true)
    (h:∀ c,c<n->VR g w (cs.getD c .undef) (dD w ⟨b,o+c,none⟩)) :
    VR g w (if ag then .agg cs else cs.getD 0 .undef) (if ag then .agg ((List.range n).map fun c=>dD w ⟨b,o+c,none⟩).toArray else dD w ⟨b,o,none⟩):=by
 cases ag with
 | true =>
   refine .agg cs _ (by simp[hl]) (hs rfl) (fun i hi=>?_);have:=h i (by omega);have h2:i<n:=by omega
   simpa[h2]using this
 | false =>
   have:=h 0 (by rw[h1 rfl];omega);simpa using this
def ia{cs:List AV}{off n c:Nat}(hc:c<n): ((cs.drop off).take n).getD c .undef=cs.getD (off+c) .undef:=by
 simp[hc]
def oM{cs:List AV}(h:cs.all AV.scalar=true)(off n:Nat): ((cs.drop off).take n).all AV.scalar=true:=by
 rw[aX]at h ⊢;exact fun x hx=>h x (List.mem_of_mem_drop (dn hx))
def IW{el:El}{x:AV}(h:x.fits el=true)(ha:el.ag=false): el.sz=1:=by
 cases x<;>simp_all[AV.fits]
def Sc {g : aJ} {w : World} {el : El} {x : AV} {b o : Nat} (hel : el.ag = false -> el.sz = 1) (ft : x.fits el = true)
    (h:∀ c,c<el.sz->VR g w (x.cell c) (dD w ⟨b,o+c,none⟩)) :
    VR g w x (if el.ag then .agg ((List.range el.sz).map fun c=>dD w ⟨b,o+c,none⟩).toArray else dD w ⟨b,o,none⟩):=by
 by_cases hx:∃ cs,x = .agg cs
 ·obtain⟨cs,rfl⟩:=hx;simp only[AV.fits,aq,beq_iff_eq]at ft;obtain⟨⟨h1,h2⟩,h3⟩:=ft;have:=Fk (g:=g) (w:=w) (ag:=el.ag) (n:=el.sz) (b:=b) (o:=o) (cs:=cs) hel h2 (fun _=>h3) h;rw[h1]at this ⊢;simpa using this
 ·have hag : el.ag = false := by
   cases x<;>first
    | exact absurd ⟨_,rfl⟩ hx
    |(simp only[AV.fits,aq,cF]at ft;exact ft.1)
    | cases ft
  have h0:=h 0 (by rw[hel hag];omega);have hc:x.cell 0=x:=by cases x<;>first|rfl|exact absurd ⟨_,rfl⟩ hx
  rw[hc]at h0;rw[hag];simpa using h0
def GF {t : TypeId} {ag : Bool} {i : TypeInfo} {el : El} {x : AV} {b o off : Nat} (hel : el.ag = false -> el.sz = 1) (hA : lH P t = some ag) (hi : P.info? t = some i) (h1 : ag = false -> i.size = 1)
    (ft:x.fits el=true) (hc:∀ c,c<el.sz->(w.cell? ⟨b,o+c,none⟩).isSome=true)
    (h:∀ c,c<el.sz->VR g w (x.cell c) (dD w ⟨b,o+c,none⟩)) {K:AV->Prop} (hK:partOf el x off ag i.size K) :
    ∃ v av,(loadVar t ⟨b,o+off,none⟩).run P w = .ok v w/\VR g w av v/\K av:=by
 unfold partOf at hK;split at hK
 ·rename_i e;obtain⟨rfl,e2,rfl⟩:=e;refine⟨_,x,Fj hA hi h1 (fun c ko=>hc c (by omega)),?_,hK⟩;have:=Sc hel ft h;rw[<-e2]at this;simpa using this
 ·obtain⟨h2,h3⟩:=hK;cases x<;>simp only at h3
  case agg cs =>
   obtain⟨h4,h5⟩:=h3;simp only[AV.fits,aq,beq_iff_eq]at ft;obtain⟨⟨_,hl⟩,hs⟩:=ft;have e:∀ c,(⟨b,o+off+c,none⟩:Addr)=⟨b,o+(off+c),none⟩:=fun c=>by rw[Nat.add_assoc]
   refine⟨_,_,Fj hA hi h1 (fun c ko=>by rw[e];exact hc (off+c) (by omega)),?_,h4⟩
   have:=Fk (g:=g) (w:=w) (ag:=ag) (n:=i.size) (b:=b) (o:=o+off) (cs:=(cs.drop off).take i.size) h1 (by simp;omega) (fun _=>oM hs _ _)
    (fun c ko=>by rw[ia ko,e];exact h (off+c) (by omega))
   cases ag with
   | true=>simpa using this
   | false =>
     rw[h1 rfl]at this;have e0:((cs.drop off).take 1).getD 0 .undef=cs.getD off .undef:=by rw[ia (by omega)];rfl
     simp only[aB,if_false]at this ⊢;rw[e0]at this;exact this
def Kk {t : TypeId} {ag : Bool} {i : TypeInfo} {p : AV} {v : Value} (hR : Rel g w σ) (hA : lH P t = some ag) (hi : P.info? t = some i) (h1 : ag = false -> i.size = 1)
    (hv:VR g w p v)
    {K:AV->Prop} (hK:iI σ ag i.size p K):∃ u av,(Instr.loadAt t v).run P w = .ok u w/\VR g w av u/\K av:=by
 cases hv<;>simp only[iI]at hK
 case ref l off h =>
  obtain⟨hl,A,rfl,vP⟩:=h;split at hK
  ·rename_i cs hcs;obtain⟨k1,k2,k3⟩:=hK;obtain⟨o1,o2,b,vs,o3,o4,o5,o6,_⟩:=hR.ok l _ hcs;obtain⟨a1,a2⟩:=vP o1;have hb:A.block=b:=by rw[a1]at o3;cases o3;rfl
   rw[a2,hb];have hcell:∀ c,c<i.size->w.cell? ⟨b,off+c,none⟩=some (vs.getD (off+c) Go.undef):=fun c hc=>o4.cell (by omega);have hD:∀ c,c<i.size->dD w ⟨b,off+c,none⟩=vs.getD (off+c) Go.undef:=fun c hc=>by simp[dD,hcell c hc]
   have hrun:=Fj (P:=P) (w:=w) (b:=b) (o:=off) hA hi h1 (fun c hc=>by simp[hcell c hc]);refine⟨_,_,by simpa[Instr.loadAt,Instr.sureAddr]using hrun,?_,k3⟩
   have:=Fk (g:=g) (w:=w) (ag:=ag) (n:=i.size) (b:=b) (o:=off) (cs:=(cs.drop off).take i.size) h1 (by simp;omega) (fun _=>oM o2 _ _)
    (fun c hc=>by rw[ia hc,hD c hc];exact o6 (off+c) (by omega))
   cases ag with
   | true=>simpa using this
   | false =>
     rw[h1 rfl]at this;have e0:((cs.drop off).take 1).getD 0 .undef=cs.getD off .undef:=by rw[ia (by omega)];rfl
     simp only[aB,if_false]at this ⊢;rw[e0]at this;exact this
  ·exact hK.elim
 case dY el x off b o hi' ft hc h =>
  have hel:el.ag=false->el.sz=1:=IW ft;obtain⟨v,av,r1,r2,r3⟩:=GF (P:=P) hel hA hi h1 ft hc h hK;exact⟨_,_,by simpa[Instr.loadAt,Instr.sureAddr]using r1,r2,r3⟩
 case eJ el l m j off h =>
  obtain⟨hl,hm,A,rfl,vP⟩:=h;split at hK
  ·rename_i bq xs hxs;obtain⟨rfl,rfl,k3,k4⟩:=hK;obtain⟨o1,o2,o3⟩:=hR.ok l _ hxs;rcases o3 with⟨rfl,_,_⟩|⟨b,vs,b1,b2,b3,b4,b5,_⟩
   ·exact absurd k3 (cG _)
   ·obtain⟨a1,a2⟩:=vP o1.symm;have hb:A.block=b:=by rw[a1]at b1;cases b1;rfl
    rw[a2,hb]
    have hlt:∀ c,c<bq.sz->g.off l+j*bq.sz+c<vs.size:=fun c hc=>by
     rw[b3];have:j*bq.sz+bq.sz<=g.cap l*bq.sz:=by rw[<-cM];exact aY _ (by omega)
     omega
    have hcell:∀ c,c<bq.sz->w.cell? ⟨b,g.off l+j*bq.sz+c,none⟩=some (vs.getD (g.off l+j*bq.sz+c) Go.undef):=fun c hc=>b2.cell (hlt c hc);have hsome:∀ c,c<bq.sz->(w.cell? ⟨b,g.off l+j*bq.sz+c,none⟩).isSome=true:=fun c hc=>by rw[hcell c hc];rfl
    have hD:∀ c,c<bq.sz->dD w ⟨b,g.off l+j*bq.sz+c,none⟩=vs.getD (g.off l+j*bq.sz+c) Go.undef:=fun c hc=>by unfold dD;rw[hcell c hc];rfl
    obtain⟨v,av,r1,r2,r3⟩:=GF (P:=P) (g:=g) (b:=b) (o:=g.off l+j*bq.sz) (IW (o2 j k3)) hA hi h1 (o2 j k3) hsome
     (fun c hc=>by rw[hD c hc];exact b5 j c k3 hc) k4
    exact⟨_,_,by simpa[Instr.loadAt,Instr.sureAddr]using r1,r2,r3⟩
  ·exact hK.elim
def GG {n : Nat} {p : AV} {A : Addr} (hR : Rel g w σ) (hv : VR g w p (.pointer (some A))) {K : AV -> Prop} (hK : iI σ true n p K) :
    ∃ b o cs,A=⟨b,o,none⟩/\cs.length=n/\cs.all AV.scalar=true/\K (.agg cs)/\(∀ c,c<n->(w.cell? ⟨b,o+c,none⟩).isSome=true)/\ ∀ c,c<n->VR g w (cs.getD c .undef) (dD w ⟨b,o+c,none⟩):=by
 have part:∀ {el:El} {x:AV} {b o off:Nat},x.fits el=true->(∀ c,c<el.sz->(w.cell? ⟨b,o+c,none⟩).isSome=true)->(∀ c,c<el.sz->VR g w (x.cell c) (dD w ⟨b,o+c,none⟩))->partOf el x off true n K ->
  ∃ cs,cs.length=n/\cs.all AV.scalar=true/\K (.agg cs)/\(∀ c,c<n->(w.cell? ⟨b,o+off+c,none⟩).isSome=true)/\ ∀ c,c<n->VR g w (cs.getD c .undef) (dD w ⟨b,o+off+c,none⟩):=by
  intro el x b o off ft hc h hK;unfold partOf at hK;split at hK
  ·rename_i e;obtain⟨rfl,rfl,e3⟩:=e;cases x<;>simp only[AV.fits,<-e3,Bool.not_true,Bool.false_and,Bool.true_and,Bool.false_eq_true,Bool.and_eq_true,beq_iff_eq]at ft;exact⟨_,ft.1,ft.2,hK,hc,h⟩
  ·obtain⟨h2,h3⟩:=hK;cases x<;>simp only at h3
   case agg cs =>
    simp only[AV.fits,aq,beq_iff_eq]at ft;obtain⟨⟨_,hl⟩,hs⟩:=ft;refine⟨(cs.drop off).take n,by simp;omega,oM hs _ _,by simpa using h3.1,fun c ko=>by rw[Nat.add_assoc];exact hc _ (by omega),fun c ko=>?_⟩;rw[ia ko,Nat.add_assoc];exact h (off+c) (by omega)
 cases hv<;>simp only[iI]at hK
 case ref l off h =>
  obtain⟨hl,A',e,vP⟩:=h;cases e;split at hK
  ·rename_i cs hcs;obtain⟨k1,_,k3⟩:=hK;obtain⟨o1,o2,b,vs,o3,o4,o5,o6,_⟩:=hR.ok l _ hcs;obtain⟨a1,a2⟩:=vP o1;have hb:A.block=b:=by rw[a1]at o3;cases o3;rfl
   rw[hb]at a2;have hcell:∀ c,c<n->w.cell? ⟨b,off+c,none⟩=some (vs.getD (off+c) Go.undef):=fun c hc=>o4.cell (by omega);refine⟨b,off,(cs.drop off).take n,a2,by simp;omega,oM o2 _ _,by simpa using k3,fun c hc=>by rw[hcell c hc];rfl,fun c hc=>?_⟩;rw[ia hc];have:dD w ⟨b,off+c,none⟩=vs.getD (off+c) Go.undef:=by simp[dD,hcell c hc]
   rw[this];exact o6 (off+c) (by omega)
  ·exact hK.elim
 case dY el x off b o hi' ft hc h =>
  obtain⟨cs,h1,h2,h3,h4,h5⟩:=part ft hc h hK;exact⟨b,o+off,cs,rfl,h1,h2,h3,h4,h5⟩
 case eJ el l m j off h =>
  obtain⟨hl,hm,A',e,vP⟩:=h;cases e;split at hK
  ·rename_i bq xs hxs;obtain⟨rfl,rfl,k3,k4⟩:=hK;obtain⟨o1,o2,o3⟩:=hR.ok l _ hxs;rcases o3 with⟨rfl,_,_⟩|⟨b,vs,b1,b2,b3,b4,b5,_⟩
   ·exact absurd k3 (cG _)
   ·obtain⟨a1,a2⟩:=vP o1.symm;have hb:A.block=b:=by rw[a1]at b1;cases b1;rfl
    rw[hb]at a2
    have hlt:∀ c,c<bq.sz->g.off l+j*bq.sz+c<vs.size:=fun c hc=>by
     rw[b3];have:j*bq.sz+bq.sz<=g.cap l*bq.sz:=by rw[<-cM];exact aY _ (by omega)
     omega
    have hcell:∀ c,c<bq.sz->w.cell? ⟨b,g.off l+j*bq.sz+c,none⟩=some (vs.getD (g.off l+j*bq.sz+c) Go.undef):=fun c hc=>b2.cell (hlt c hc);have hD:∀ c,c<bq.sz->dD w ⟨b,g.off l+j*bq.sz+c,none⟩=vs.getD (g.off l+j*bq.sz+c) Go.undef:=fun c hc=>by unfold dD;rw[hcell c hc];rfl
    obtain⟨cs,h1,h2,h3,h4,h5⟩:=part (b:=b) (o:=g.off l+j*bq.sz) (o2 j k3) (fun c hc=>by rw[hcell c hc];rfl) (fun c hc=>by rw[hD c hc];exact b5 j c k3 hc) k4;exact⟨b,_,cs,a2,h1,h2,h3,h4,h5⟩
  ·exact hK.elim
def Sd {t : TypeId} {ag : Bool} {i : TypeInfo} {p : AV} {v : Value} (hR : Rel g w σ) (hA : lH P t = some ag) (hi : P.info? t = some i) (h1 : ag = false -> i.size = 1)
    (hv:VR g w p v) (hK:iI σ ag i.size p fun v=>K v σ):bC P (Instr.loadAt t v) g w σ K:=by
 obtain⟨u,av,r1,r2,r3⟩:=Kk (P:=P) hR hA hi h1 hv hK;exact bC.pure hR r1 r2 r3
end
