/- Part. -/
import Derived.Test.YtcjcnfcedihckaaGreatDoorV02
import Derived.Laws.Sem
set_option linter.all false
namespace Go.AM
def ux: Value->Option AV
 | .bool b=>some (.bool b)
 | .int k n=>some (.int k n)
 | .string s=>some (.str s.data.toList)
 | .pointer none=>some .iE
 | .slice none l c=>if l=0/\c=0 then some .ai else none
 | .map none=>some .mg
 | .nilFunc=>some .qo
 | .nilIface=>some .ja
 | _=>none
def FP: List Value->Option (List AV)
 | []=>some []
 | v :: vs => match ux v, FP vs with
   | some a,some az=>some (a::az)
   | _,_=>none
def Sz: Value->Option AV
 | .agg cs=>(FP cs.toList).map .agg
 | v=>ux v
def cX(nt:Nat): Operand->Option AX
 | .tmp t=>if t<nt then some (.t t)else none
 | .const v=>(Sz v).map .c
 | .func f=>some (.c (.fn (.func f) [] []))
 | .global _=>none
def A1(nt:Nat): List Operand->Option (List AX)
 | []=>some []
 | x :: xs => match cX nt x, A1 nt xs with
   | some a,some az=>some (a::az)
   | _,_=>none
def Px(nt:Nat): Option Operand->Option (Option AX)
 | none=>some none
 | some x=>(cX nt x).map some
def oe{α : Type}(nt:Nat)(at_:Nat->Option α): List (Nat × Operand)->Option (List (α × AX))
 | []=>some []
 | (i, x) :: r => match at_ i, cX nt x, oe nt at_ r with
   | some p,some a,some az=>some ((p,a)::az)
   | _,_,_=>none
section
variable (P:Program)
def kD(t:TypeId): Option Bool :=
 match P.underlying t with
 | some (.struct _)|some (.array _ _)=>some true
 | some _=>some false
 | none=>none
def kK(t:TypeId): Option El :=
 match kD P t,P.info? t with
 | some ag,some i=>if(ag || i.size==1) && i.bytes<=24*(i.size+1) && i.size<=1000 && i.zero.any (fun v=>v.cells.size==i.size)then some ⟨ag,i.size⟩else none
 | _,_=>none
def lj(t:TypeId): Option AV:=(P.info? t).bind fun i=>i.zero.bind Sz
def tg(fk:TypeId->Option (List Kd)): Nat->List Field->Option (List Kd)
 | _,[]=>some []
 | off, f :: fs => if f.name == "_" || f.offset != off then none else match fk f.type, P.info? f.type with
   | some ks,some i=>if i.size==ks.length then(tg fk (off+ks.length) fs).map (ks++ ·)else none
   | _,_=>none
def mU: (d:Nat)->TypeId->Option (List Kd)
 | 0,_=>none
 | d + 1, t => match P.underlying t with
   | some .bool=>some [.b]
   | some (.int _)=>some [.i]
   | some .string=>some [.s]
   | some (.struct fs)=>if P.stoodInHeld t then none else tg P (mU d) 0 fs.toList
   | some (.array n e) => match mU d e, P.info? e with
     | some ks,some i=>if i.size==ks.length && P.cellsOf e==ks.length then some (List.replicate n ks).flatten else none
     | _,_=>none
   | _=>none
structure Hints where
 mt:List Nat:=[]
 QJ:List Nat:=[]
 YO:List (Nat × El):=[]
 WD:List Nat:=[]
 YP:List Nat:=[]
 rsv:List (Nat × Nat):=[]
def xN(b:Bool)(t:TypeId): Option TypeId:=if b then some t else none
def A2(b:Bool)(t:TypeId): xN b t=none\/xN b t=some t:=by cases b<;>simp[xN]
def qV: Operand->Bool
 | .const (.slice none l c)=>l==0 && c==0
 | _=>false
def j7: Operand->Bool
 | .const (.pointer none) | .const .nilIface | .const .nilFunc | .const (.map none)=>true
 | _=>false
def HW: TypeDesc->Option NK
 | .pointer _=>some .p
 | .interface _=>some .i
 | .func ..=>some .f
 | .map ..=>some .m
 | _=>none
def WE: Operand->Option FuncId
 | .func f => match P.funcs[f]? with
   | some fn=>if fn.body.isNone then some f else none
   | none=>none
 | _=>none
def SA(m q:Bool)(f:AX)(args:List AX): br:=if m then .mJ f args else .call q f args
def U7: Option Nat->List Nat->Bool
 | some d,l=>l.contains d
 | none,_=>false
def acA(h:Hints): Option Nat->List (Nat × El)
 | some d=>h.YO.filterMap fun(k,el)=>if k / 100000=d+1 then some (k % 100000,el)else none
 | none=>[]
def U8(l:List (Nat × El))(m q:Bool)(f:AX)(args:List AX): br:=match l,f with
 | l@(_::_),.c (.fn (.func n) [] [])=> .ex (.cw n args.length (l.map fun p=>(p.2.ag,p.2.sz))) (args++l.map fun p=> .t p.1)
 | _,_=>SA m q f args
def aaZ(h:Hints): Option Nat->Bool
 | some d=>h.YP.contains (200000+d)
 | none=>false
def U9(p:Bool)(l:List (Nat × El))(m q:Bool)(f:AX)(args:List AX): br:=match p,f with
 | true,.c (.fn (.func n) [] [])=> .ex (.pc n) args
 | _,_=>U8 l m q f args
def tH(nt:Nat)(h:Hints)(draw:Bool)(o:Oper): Option br :=
 let has (l:List Nat):Bool:=match o.dst with
  | some d=>l.contains d
  | none=>false
 let vec:Option El:=match o.dst with
  | some d=>h.YO.lookup d
  | none=>none
 match o.op with
 | .move x=>(cX nt x).map fun a=>if !draw && U7 o.dst h.QJ then .ex .WA [a]else .mv a
 | .assign x => match vec with
   | some el=>if qV x then some (.jI el)else (cX nt x).map .mv
   | none=>(cX nt x).map .mv
 | .pick c a b => match cX nt c, cX nt a, cX nt b with
   | some c,some a,some b=>some (.pick c a b)
   | _,_,_=>none
 | .alloc t => match lj P t with
   | some z=>if z.cells.all AV.scalar then some (.alloc (xN (has h.WD) t) z.cells)else none
   | none=>none
 | .box t x=>(cX nt x).map fun ax=>if U7 o.dst h.WD then .vt t ax else .box ax
 | .build t parts => match lj P t, P.underlying t with
   | some z, some (.struct fs) =>
     if fs.toList.all (fun f=>(P.info? f.type).isSome) && z.cells.all AV.scalar then
      (oe nt (fun i=>(fs[i]?).map fun f=>(f.offset,P.cellsOf f.type)) parts.toList).map fun ps=> .build z.cells (ps.map fun p=>(p.1.1,p.1.2,p.2))
     else none
   | some z, some (.array _ el) =>
     if(P.info? el).isSome && z.cells.all AV.scalar then
      (oe nt (fun i=>some (i*P.cellsOf el,P.cellsOf el)) parts.toList).map fun ps=> .build z.cells (ps.map fun p=>(p.1.1,p.1.2,p.2))
     else none
   | _,_=>none
 | .buildSlice t n parts => match P.underlying t with
   | some (.slice e) => match kK P e, lj P e with
     | some el,some z=>if n*el.sz<=2 ^ 24 && z.fits el then(oe nt some parts.toList).map fun ps=> .iG (has h.mt) el z n ps else none
     | _,_=>none
   | _=>none
 | .load t a => match kD P t, P.info? t, cX nt a with
   | some ag,some i,some x=>if ag || i.size==1 then some (.load ag i.size x)else none
   | _,_,_=>none
 | .store t a v => match P.info? t, cX nt a, cX nt v with
   | some i,some x,some y=>some (.store i.size x y)
   | _,_,_=>none
 | .nilCheck x=>(cX nt x).map .kI
 | .binOp op t x y _ => match cX nt x, cX nt y with
   | some a, some b =>
     match P.underlying t with
     | some (.int _)|some .string=>some (.bin op a b)
     | some d =>
       match HW d with
       | some k =>
         if k == .p && !(j7 x || j7 y)then
          match d with
          | .pointer te => match P.info? te, op with
            | some _,.eql=>some (.Dl false a b)
            | some _,.neq=>some (.Dl true a b)
            | _,_=>none
          | _=>none
         else if j7 x || j7 y then
          match op with
          | .eql=>some (.oT false k a b)
          | .neq=>some (.oT true k a b)
          | _=>none
         else none
       | none =>
       match mU P 12 t,kD P t,P.info? t with
       | some ks, some ag, some i =>
         if i.size==ks.length && (!ag || !P.eqGuardType P.depth t)then
          match op with
          | .eql=>some (.oa false ag ks a b)
          | .neq=>some (.oa true ag ks a b)
          | _=>none
         else none
       | _,_,_=>none
     | none=>none
   | _,_=>none
 | .unOp op _ x=>(cX nt x).map (.un op)
 | .convert s d x => match P.underlying s, P.underlying d, cX nt x with
   | some (.int _),some (.int k),some a=>some (.ld k a)
   | some .string,some .string,some a=>some (.Pt a)
   | some (.slice e), some .string, some a => match P.underlying e, P.info? e with
     | some (.int .u8),some i=>if i.size==1 then some (.sj a)else none
     | _,_=>none
   | some (.pointer t), some .unsafePointer, some a => match P.info? t with
     | some i=>if i.size==0 then none else some (.FE a)
     | none=>none
   | some .unsafePointer, some (.pointer t), some a => match P.info? t with
     | some _=>some (.FF t a)
     | none=>none
   | _,_,_=>none
 | .makeInterface t x => match P.underlying t with
   | some (.interface _)|none=>none
   | _=>(cX nt x).map (.CM t)
 | .makeFunc fn first cap => match A1 nt first.toList, A1 nt cap.toList with
   | some a,some b=>some (.vp fn a b)
   | _,_=>none
 | .slice t x lo hi mx => match cX nt x, Px nt lo, Px nt hi, Px nt mx with
   | some a, some l, some h, some m =>
     match P.underlying t with
     | some .string=>if m.isNone then some (.lf a l h)else none
     | some (.slice e) => match m, h with
       | none,_=>(kK P e).map fun el=> .tF el a l h
       | _,_=>none
     | _=>none
   | _,_,_,_=>none
 | .fieldAddr s x f => match P.underlying s, cX nt x with
   | some (.struct fs),some a=>(fs[f]?).bind fun fi=>if((P.info? fi.type).map (·.size)).getD 0==0 then none else some (.gQ fi.offset a)
   | _,_=>none
 | .field s x f => match P.underlying s, cX nt x with
   | some (.struct fs), some a => (fs[f]?).bind fun fi => match kD P fi.type, P.info? fi.type with
     | some ag,some i=>if ag || i.size==1 then some (.field ag fi.offset i.size a)else none
     | _,_=>none
   | _,_=>none
 | .indexAddr t x i => match P.underlying t, cX nt x, cX nt i with
   | some (.slice e),some a,some b=>(kK P e).map fun el=> .eH el none a b
   | some (.array n e),some a,some b=>(kK P e).map fun el=> .eH el (some n) a b
   | _,_,_=>none
 | .index t x i => match P.underlying t, cX nt x, cX nt i with
   | some .string,some a,some b=>some (.fU a b)
   | some (.array n e),some a,some b=>(kK P e).map fun el=> .xe el n a b
   | _,_,_=>none
 | .extract x i=>(cX nt x).map fun a=> .ext a i
 | .makeSlice t l c => match P.underlying t, cX nt l, cX nt c with
   | some (.slice e), some a, some b => match kK P e, lj P e with
     | some el,some z=>some (.mK el z a b)
     | _,_=>none
   | _,_,_=>none
 | .panic x=>(cX nt x).map .panic
 | .typeAssert x _ T ok => match P.underlying T with
   | some (.interface _)=>none
   | none=>none
   | some _ => match cX nt x, lj P T with
     | some a,some z=>some (.ex (.Ss T ok z) [a])
     | _,_=>none
 | .range t x => match P.underlying t with
   | some .string=>(cX nt x).map .D3
   | _=>none
 | .next x b=>if b then(cX nt x).map .D4 else none
 | .call c => match c.callee with
   | .value f => match WE P f, cX nt f, A1 nt c.args.toList with
     | some g,_,some [a]=>some (.CN g a)
     | _,some a,some az=>some (U9 (draw && aaZ h o.dst) (if draw then acA h o.dst else []) (draw && has h.YP) (if draw then !has h.QJ else has h.QJ) a az)
     | _,_,_=>none
   | .invoke _ _=>none
   | .builtin .len => match c.argTypes[0]?, c.args.toList with
     | some t, [x] => match P.underlying t with
       | some .string=>(cX nt x).map (.len true)
       | some (.slice _)=>(cX nt x).map (.len false)
       | _=>none
     | _,_=>none
   | .builtin .append => match c.argTypes[0]?, c.argTypes[1]?, c.args.toList with
     | some t, some u, [x, y] => match P.underlying t, P.underlying u, cX nt x, cX nt y with
       | some (.slice e),some (.slice _),some a,some b=>(kK P e).map fun el=> .app (xN (has h.WD) e) el a b
       | some (.slice e),some .string,some a,some b=>(kK P e).map fun el=> .app (xN (has h.WD) e) el a b
       | _,_,_,_=>none
     | _,_,_=>none
   | .builtin .unsafeSliceData => match c.argTypes[0]?, c.args.toList with
     | some t, [x] => match P.underlying t, cX nt x with
       | some (.slice e),some a=>(kK P e).map fun el=> .zZ el a
       | _,_=>none
     | _,_=>none
   | .builtin .unsafeString => match c.argTypes.toList, c.args.toList with
     | [t, _], [x, y] => match P.underlying t, cX nt x, cX nt y with
       | some (.pointer e),some a,some b=>if P.cellsOf e==1 then some (.vq e a b)else none
       | _,_,_=>none
     | _,_=>none
   | .builtin .min => match A1 nt c.args.toList with
     | some (a::az)=>some (.min a az)
     | _=>none
   | .builtin .max => match A1 nt c.args.toList with
     | some (a::az)=>some (.max a az)
     | _=>none
   | _=>none
 | _=>none
end
end Go.AM
namespace Go.AM
structure ic (nt:Nat) (g:aM) (w:World) (e:Env) (tmps:Array Value):Prop where
 size:tmps.size=nt
 rel:∀ t,t<nt->VR g w (e t) (tmps.getD t Go.undef)
def ic.mono{nt:Nat}{g g':aM}{w w':World}{e:Env}{tmps:Array Value}(h:ic nt g w e tmps)(hm:kH g w g' w'): ic nt g' w' e tmps :=
 ⟨h.size,fun t ht=>(h.rel t ht).mono hm⟩
def ic.put{nt:Nat}{g:aM}{w:World}{e:Env}{a:Act}(h:ic nt g w e a.tmps)(d:Option Nat){x:AV}{v:Value}(hv:VR g w x v): ic nt g w (eC e d x) (a.put d v).tmps:=by
 cases d with
 | none=>exact h
 | some d =>
   refine⟨by simp[Act.put,h.size],fun t ht=>?_⟩;simp only[eC,Act.put];by_cases e1:t=d
   ·subst e1;have:t<a.tmps.size:=by rw[h.size];exact ht
    simp[this,hv]
   ·have:=h.rel t ht;simp only[if_neg e1];simpa[Array.getElem?_setIfInBounds_ne (Ne.symm e1)]using this
def JA{v:Value}{a:AV}(h:ux v=some a)(g:aM)(w:World): VR g w a v/\a.scalar=true:=by
 cases v<;>simp only[ux]at h
 case bool b=>cases h;exact⟨.bool b,rfl⟩
 case int k n=>cases h;exact⟨.int k n,rfl⟩
 case string s=>cases h;exact⟨by simpa using VR.str (g:=g) (w:=w) s.data.toList,rfl⟩
 case pointer p=>cases p<;>simp[ux]at h;subst h;exact⟨.iE,rfl⟩
 case slice p l c =>
  cases p with
  | none =>
    simp only[ux]at h;split at h
    ·rename_i e;obtain⟨rfl,rfl⟩:=e;cases h;exact⟨.ai,rfl⟩
    ·cases h
  | some p=>simp[ux]at h
 case map p=>cases p<;>simp[ux]at h;subst h;exact⟨.mg,rfl⟩
 case nilFunc=>cases h;exact⟨.qo,rfl⟩
 case nilIface=>cases h;exact⟨.ja,rfl⟩
 all_goals cases h
def QK {vs : List Value} {az : List AV} (h : FP vs = some az) (g : aM) (w : World) :
    az.length=vs.length/\az.all AV.scalar=true/\ ∀ i,i<az.length->VR g w (az.getD i .undef) (vs.getD i Go.undef):=by
 induction vs generalizing az with
 | nil=>cases h;exact⟨rfl,rfl,fun i hi=>absurd hi (Nat.not_lt_zero _)⟩
 | cons v vs ih =>
   simp only[FP]at h;split at h
   ·rename_i a az' h1 h2;cases h;obtain⟨i1,i2,i3⟩:=ih h2;obtain⟨j1,j2⟩:=JA h1 g w;refine⟨by simp[i1],by simpa[j2]using i2,fun i hi=>?_⟩;cases i with
    | zero=>simpa using j1
    | succ i=>simpa using i3 i (by simpa using hi)
   ·cases h
def HX{v:Value}{a:AV}(h:Sz v=some a)(g:aM)(w:World): VR g w a v/\a.cells.all AV.scalar=true:=by
 by_cases hv:∃ cs,v = .agg cs
 ·obtain⟨cs,rfl⟩:=hv;simp only[Sz,aW]at h;obtain⟨az,h1,rfl⟩:=h;obtain⟨i1,i2,i3⟩:=QK h1 g w;exact⟨.agg az cs (by simpa using i1) i2 (fun i hi=>by simpa using i3 i hi),i2⟩
 ·have h' : ux v = some a := by
   cases v<;>simp only[Sz]at h<;>first|exact h|exact absurd ⟨_,rfl⟩ hv
  obtain⟨j1,j2⟩:=JA h' g w;refine⟨j1,?_⟩;cases a<;>simp[AV.scalar]at j2<;>simp[AV.cells,AV.scalar]
def cG{nt:Nat}{x:Operand}{ax:AX}{g:aM}{w:World}{e:Env}{a:Act}(h:cX nt x=some ax)(hE:ic nt g w e a.tmps): VR g w (ax.ev e) (a.eval x):=by
 cases x with
 | tmp t =>
   simp only[cX]at h;split at h
   ·cases h;exact hE.rel t ‹_›
   ·cases h
 | const v =>
   simp only[cX,aW]at h;obtain⟨b,h1,rfl⟩:=h;exact(HX h1 g w).1
 | global n=>cases h
 | func f=>cases h;exact .fn _ [] [] #[] #[] rfl rfl (fun i hi=>absurd hi (Nat.not_lt_zero _)) (fun i hi=>absurd hi (Nat.not_lt_zero _))
def Xv {nt : Nat} {xs : List Operand} {az : List AX} {g : aM} {w : World} {e : Env} {a : Act} (h : A1 nt xs = some az) (hE : ic nt g w e a.tmps) :
    az.length=xs.length/\ ∀ i,i<az.length->VR g w ((az.map (AX.ev e)).getD i .undef) ((xs.map a.eval).getD i Go.undef):=by
 induction xs generalizing az with
 | nil=>cases h;exact⟨rfl,fun i hi=>absurd hi (Nat.not_lt_zero _)⟩
 | cons x xs ih =>
   simp only[A1]at h;split at h
   ·rename_i b bs h1 h2;cases h;obtain⟨i1,i2⟩:=ih h2;refine⟨by simp[i1],fun i hi=>?_⟩;cases i with
    | zero=>simpa using cG h1 hE
    | succ i=>simpa using i2 i (by simpa using hi)
   ·cases h
def KC{v:Value}(h:v.oneCell'=true): v.cells = #[v]:=by
 cases v<;>first|rfl|(simp[Value.oneCell']at h;done)
def kS {g : aM} {w : World} {a : AV} {v : Value} (h : VR g w a v) (hs : a.cells.all AV.scalar = true) :
    a.cells.length=v.cells.size/\ ∀ i,i<a.cells.length->VR g w (a.cells.getD i .undef) (v.cells.getD i Go.undef):=by
 by_cases hv:∃ cs,a = .agg cs
 ·obtain⟨cs,rfl⟩:=hv;cases h with
  | agg cs vs hl hs h=>exact⟨hl,h⟩
 ·have hc:a.cells=[a]:=by cases a<;>first|rfl|exact absurd ⟨_,rfl⟩ hv
  rw[hc]at hs;have hsc:a.scalar=true:=by simpa using hs
  have h1:=KC (h.CK hsc);rw[hc,h1];refine⟨rfl,fun i hi=>?_⟩;have:i=0:=by simpa using hi
  subst this;simpa using h
def yT{cs:List AV}(h:cs.all AV.scalar=true){i:Nat}(hi:i<cs.length): (cs.getD i .undef).scalar=true:=by
 have:=bq.1 h (cs[i]) (dD _);simpa[hi]using this
def bQ(P:Program)(s:Sem Value)(g:aM)(w:World)(σ : ae)(K:AV->ae->Prop): Prop :=
 ∃ v w' g' av σ',s.run P w = .ok v w'/\Rel g' w' σ'/\ik σ g w σ' g' w'/\VR g' w' av v/\K av σ'
def bQ.pure {P : Program} {s : Sem Value} {g : aM} {w : World} {σ : ae} {K : AV -> ae -> Prop} {v : Value} {av : AV} (hR : Rel g w σ) (h : s.run P w = .ok v w) (hv : VR g w av v) (hk : K av σ) :
    bQ P s g w σ K:=⟨v,w,g,av,σ,h,hR,.refl _ _ _,hv,hk⟩
section
variable {P:Program} {g:aM} {w:World} {σ : ae} {K:AV->ae->Prop}
def run_typeInfo{t:TypeId}{i:TypeInfo}(h:P.info? t=some i)(w:World): (typeInfo t).run P w = .ok i w:=by
 simp[typeInfo,h]
def a_{t:TypeId}{d:TypeDesc}(h:P.underlying t=some d)(w:World): (underlying t).run P w = .ok d w:=by
 simp[underlying,h]
def dw{t:TypeId}{i:TypeInfo}(h:P.info? t=some i)(w:World): (sizeOf t).run P w = .ok i.size w:=by
 simp[sizeOf,run_typeInfo h]
def jt{t:TypeId}{b:Bool}(h:kD P t=some b)(w:World): (isAgg t).run P w = .ok b w:=by
 unfold kD at h;split at h
 ·rename_i hu;cases h;simp[isAgg,a_ hu]
 ·rename_i hu;cases h;simp[isAgg,a_ hu]
 ·rename_i d h1 h2 hu;cases h;simp only[isAgg,Sem.run_bind,a_ hu,Result.andThen_ok];cases d<;>first|rfl|exact absurd hu (h1 _)|exact absurd hu (h2 _ _)
 ·cases h
def yU{t:TypeId}{z:AV}(h:lj P t=some z)(w:World): ∃ v,(zeroValue t).run P w = .ok v w/\ ∀ g w,VR g w z v/\z.cells.all AV.scalar=true:=by
 unfold lj at h;cases hi:P.info? t with
 | none=>simp[hi]at h
 | some i =>
   simp only[hi,gk]at h;cases hz:i.zero with
   | none=>simp[hz]at h
   | some v =>
     simp only[hz,gk]at h;exact⟨v,by simp[zeroValue,run_typeInfo hi,hz],fun g w=>HX h g w⟩
def tI(w:World)(vs:Array Value)(t:TypeId): Row (w.alloc (.cells vs t)) w.heap.size vs:=by
 refine⟨t,(0,0),heap_alloc_new w _,fun i _=>?_⟩;exact World.frozen?_alloc_new w vs t i
def A3 (hR : Rel g w σ) (t : TypeId) {cs : List AV} {vs : Array Value} (hs : cs.all AV.scalar = true) (hl : cs.length = vs.size)
    (h:∀ i,i<cs.length->VR g w (cs.getD i .undef) (vs.getD i Go.undef))
    (T : Option TypeId) (hT : T = none \/ T = some t) : ∃ g', Rel g' (w.alloc (.cells vs t)) (σ ++ [.bM T cs]) /\ ik σ g w (σ ++ [.bM T cs]) g' (w.alloc (.cells vs t)) /\
      VR g' (w.alloc (.cells vs t)) (.ref σ.length 0) (.pointer (some ⟨w.heap.size,0,none⟩)):=by
 have hm:=nY g w (.cells vs t) 1 (some w.heap.size) 0 hR.lt
 have hty:vi (w.alloc (.cells vs t)) w.heap.size cs.length T:=by
  rcases hT with rfl|rfl
  ·trivial
  ·have:(w.alloc (.cells vs t)).heap[w.heap.size]? = some (.cells vs t):=by show(w.heap.push _)[w.heap.size]? = _;simp
   simp only[vi,World.shape?,this,hl]
 obtain⟨h1,h2⟩:=hR.yK (.cells vs t) (.bM T cs) 1 0
  ⟨by simp[aM.push],hs,w.heap.size,vs,by simp[aM.push],tI w vs t,hl.symm,fun i hi=>(h i hi).mono hm,hty⟩
 refine⟨_,h1,h2,.ref _ _ _ ⟨by simp[aM.push,hR.len],_,rfl,fun _=>⟨by simp[aM.push,hR.len],rfl⟩⟩⟩
def N8 {t : TypeId} {T : Option TypeId} (hT : T = none \/ T = some t) {z : AV} (hR : Rel g w σ) (hz : lj P t = some z) (hK : K (.ref σ.length 0) (σ ++ [.bM T z.cells])) :
    bQ P (Instr.alloc t true (.tuple #[])) g w σ K:=by
 obtain⟨v,h1,h2⟩:=yU hz w;obtain⟨h3,h4⟩:=h2 g w;obtain⟨h5,h6⟩:=kS h3 h4;obtain⟨g',r1,r2,r3⟩:=A3 hR t h4 h5 h6 T hT;refine⟨_,_,g',_,_,?_,r1,r2,r3,hK⟩;simp[Instr.alloc,h1,newVar,newRow]
def SB {t : TypeId} {a : AV} {v : Value} (hR : Rel g w σ) (hv : VR g w a v) (hs : a.cells.all AV.scalar = true) (hK : K (.ref σ.length 0) (σ ++ [.cells a.cells])) :
    bQ P (Instr.box t v) g w σ K:=by
 obtain⟨h5,h6⟩:=kS hv hs;obtain⟨g',r1,r2,r3⟩:=A3 hR t hs h5 h6 none (.inl rfl);refine⟨_,_,g',_,_,?_,r1,r2,r3,hK⟩;simp[Instr.box,newVar,newRow]
def QL {t : TypeId} {a : AV} {v : Value} (hR : Rel g w σ) (hv : VR g w a v) (hs : a.cells.all AV.scalar = true) (hK : K (.ref σ.length 0) (σ ++ [.bM (some t) a.cells])) :
    bQ P (Instr.box t v) g w σ K:=by
 obtain⟨h5,h6⟩:=kS hv hs;obtain⟨g',r1,r2,r3⟩:=A3 hR t hs h5 h6 (some t) (.inr rfl);refine⟨_,_,g',_,_,?_,r1,r2,r3,hK⟩;simp[Instr.box,newVar,newRow]
def run_loadCells {b o : Nat} {n : Nat} (hc : ∀ c, c < n -> (w.cell? ⟨b, o + c, none⟩).isSome = true) :
    ∀(i:Nat) (acc:Array Value) (m:Nat),i+m=n->(loadCellsFrom ⟨b,o,none⟩ i m acc).run P w = .ok (acc++((List.range' i m).map fun c=>dP w ⟨b,o+c,none⟩).toArray) w:=by
 intro i acc m
 induction m generalizing i acc with
 | zero=>intro _;simp[loadCellsFrom]
 | succ m ih =>
   intro hi;have h1:=hc i (by omega)
   have ha:(⟨b,o,none⟩:Addr).add i=⟨b,o+i,none⟩:=by
    unfold Addr.add;split
    ·rename_i h0;subst h0;rfl
    ·rfl
   obtain⟨v,hv⟩:=eM.1 h1;simp only[loadCellsFrom,Sem.run_bind,run_load,ha,hv,Result.andThen_ok];rw[ih (i+1) (acc.push v) (by omega)];simp[List.range'_succ,dP,hv]
def D9 {t : TypeId} {ag : Bool} {i : TypeInfo} {b o : Nat} (hA : kD P t = some ag) (hi : P.info? t = some i) (h1 : ag = false -> i.size = 1)
    (hc:∀ c,c<i.size->(w.cell? ⟨b,o+c,none⟩).isSome=true) :
    (loadVar t ⟨b,o,none⟩).run P w = .ok (if ag then .agg ((List.range i.size).map fun c=>dP w ⟨b,o+c,none⟩).toArray else dP w ⟨b,o,none⟩) w:=by
 cases ag with
 | true =>
   have:=run_loadCells (P:=P) hc 0 #[] i.size (by omega);simp[loadVar,jt hA,dw hi,loadCells,this,List.range_eq_range']
 | false =>
   have h2:=hc 0 (by rw[h1 rfl];omega);obtain⟨v,hv⟩:=eM.1 h2;simp only[de]at hv;simp[loadVar,jt hA,hv,dP]
end
end Go.AM
namespace Go.AM
section
variable {P:Program} {g:aM} {w:World} {σ : ae} {K:AV->ae->Prop}
def D_ {g : aM} {w : World} {ag : Bool} {n : Nat} {b o : Nat} {cs : List AV} (h1 : ag = false -> n = 1) (hl : cs.length = n) (hs : ag = true -> cs.all AV.scalar = true)
    (h:∀ c,c<n->VR g w (cs.getD c .undef) (dP w ⟨b,o+c,none⟩)) :
    VR g w (if ag then .agg cs else cs.getD 0 .undef) (if ag then .agg ((List.range n).map fun c=>dP w ⟨b,o+c,none⟩).toArray else dP w ⟨b,o,none⟩):=by
 cases ag with
 | true =>
   refine .agg cs _ (by simp[hl]) (hs rfl) (fun i hi=>?_);have:=h i (by omega);have h2:i<n:=by omega
   simpa[h2]using this
 | false =>
   have:=h 0 (by rw[h1 rfl];omega);simpa using this
def jb{cs:List AV}{off n c:Nat}(hc:c<n): ((cs.drop off).take n).getD c .undef=cs.getD (off+c) .undef:=by
 simp[hc]
def nD{cs:List AV}(h:cs.all AV.scalar=true)(off n:Nat): ((cs.drop off).take n).all AV.scalar=true:=by
 rw[bq]at h ⊢;exact fun x hx=>h x (List.mem_of_mem_drop (List.mem_of_mem_take hx))
def HY{el:El}{x:AV}(h:x.fits el=true)(ha:el.ag=false): el.sz=1:=by
 cases x<;>simp_all[AV.fits]
def QM {g : aM} {w : World} {el : El} {x : AV} {b o : Nat} (hel : el.ag = false -> el.sz = 1) (ft : x.fits el = true)
    (h:∀ c,c<el.sz->VR g w (x.cell c) (dP w ⟨b,o+c,none⟩)) :
    VR g w x (if el.ag then .agg ((List.range el.sz).map fun c=>dP w ⟨b,o+c,none⟩).toArray else dP w ⟨b,o,none⟩):=by
 by_cases hx:∃ cs,x = .agg cs
 ·obtain⟨cs,rfl⟩:=hx;simp only[AV.fits,aD,beq_iff_eq]at ft;obtain⟨⟨h1,h2⟩,h3⟩:=ft;have:=D_ (g:=g) (w:=w) (ag:=el.ag) (n:=el.sz) (b:=b) (o:=o) (cs:=cs) hel h2 (fun _=>h3) h;rw[h1]at this ⊢;simpa using this
 ·have hag : el.ag = false := by
   cases x<;>first
    | exact absurd ⟨_,rfl⟩ hx
    |(simp only[AV.fits,aD,bW]at ft;exact ft.1)
    | cases ft
  have h0:=h 0 (by rw[hel hag];omega);have hc:x.cell 0=x:=by cases x<;>first|rfl|exact absurd ⟨_,rfl⟩ hx
  rw[hc]at h0;rw[hag];simpa using h0
def FQ {t : TypeId} {ag : Bool} {i : TypeInfo} {el : El} {x : AV} {b o off : Nat} (hel : el.ag = false -> el.sz = 1) (hA : kD P t = some ag) (hi : P.info? t = some i) (h1 : ag = false -> i.size = 1)
    (ft:x.fits el=true) (hc:∀ c,c<el.sz->(w.cell? ⟨b,o+c,none⟩).isSome=true)
    (h:∀ c,c<el.sz->VR g w (x.cell c) (dP w ⟨b,o+c,none⟩)) {K:AV->Prop} (hK:partOf el x off ag i.size K) :
    ∃ v av,(loadVar t ⟨b,o+off,none⟩).run P w = .ok v w/\VR g w av v/\K av:=by
 unfold partOf at hK;split at hK
 ·rename_i e;obtain⟨rfl,e2,rfl⟩:=e;refine⟨_,x,D9 hA hi h1 (fun c kR=>hc c (by omega)),?_,hK⟩;have:=QM hel ft h;rw[<-e2]at this;simpa using this
 ·obtain⟨h2,h3⟩:=hK;cases x<;>simp only at h3
  case agg cs =>
   obtain⟨h4,h5⟩:=h3;simp only[AV.fits,aD,beq_iff_eq]at ft;obtain⟨⟨_,hl⟩,hs⟩:=ft;have e:∀ c,(⟨b,o+off+c,none⟩:Addr)=⟨b,o+(off+c),none⟩:=fun c=>by rw[c8]
   refine⟨_,_,D9 hA hi h1 (fun c kR=>by rw[e];exact hc (off+c) (by omega)),?_,h4⟩
   have:=D_ (g:=g) (w:=w) (ag:=ag) (n:=i.size) (b:=b) (o:=o+off) (cs:=(cs.drop off).take i.size) h1 (by simp;omega) (fun _=>nD hs _ _)
    (fun c kR=>by rw[jb kR,e];exact h (off+c) (by omega))
   cases ag with
   | true=>simpa using this
   | false =>
     rw[h1 rfl]at this;have e0:((cs.drop off).take 1).getD 0 .undef=cs.getD off .undef:=by rw[jb (by omega)];rfl
     simp only[Bool.false_eq_true,if_false]at this ⊢;rw[e0]at this;exact this
def JB {t : TypeId} {ag : Bool} {i : TypeInfo} {p : AV} {v : Value} (hR : Rel g w σ) (hA : kD P t = some ag) (hi : P.info? t = some i) (h1 : ag = false -> i.size = 1)
    (hv:VR g w p v)
    {K:AV->Prop} (hK:ia σ ag i.size p K):∃ u av,(Instr.loadAt t v).run P w = .ok u w/\VR g w av u/\K av:=by
 cases hv<;>simp only[ia]at hK
 case ref l off h =>
  obtain⟨hl,A,rfl,uh⟩:=h;split at hK
  ·rename_i cs hcs;obtain⟨k1,k2,k3⟩:=hK;obtain⟨o1,o2,b,vs,o3,o4,o5,o6,_⟩:=hR.ok l _ hcs;obtain⟨a1,a2⟩:=uh o1;have hb:A.block=b:=by rw[a1]at o3;cases o3;rfl
   rw[a2,hb];have hcell:∀ c,c<i.size->w.cell? ⟨b,off+c,none⟩=some (vs.getD (off+c) Go.undef):=fun c hc=>o4.cell (by omega);have hD:∀ c,c<i.size->dP w ⟨b,off+c,none⟩=vs.getD (off+c) Go.undef:=fun c hc=>by simp[dP,hcell c hc]
   have hrun:=D9 (P:=P) (w:=w) (b:=b) (o:=off) hA hi h1 (fun c hc=>by simp[hcell c hc]);refine⟨_,_,by simpa[Instr.loadAt,Instr.sureAddr]using hrun,?_,k3⟩
   have:=D_ (g:=g) (w:=w) (ag:=ag) (n:=i.size) (b:=b) (o:=off) (cs:=(cs.drop off).take i.size) h1 (by simp;omega) (fun _=>nD o2 _ _)
    (fun c hc=>by rw[jb hc,hD c hc];exact o6 (off+c) (by omega))
   cases ag with
   | true=>simpa using this
   | false =>
     rw[h1 rfl]at this;have e0:((cs.drop off).take 1).getD 0 .undef=cs.getD off .undef:=by rw[jb (by omega)];rfl
     simp only[Bool.false_eq_true,if_false]at this ⊢;rw[e0]at this;exact this
  ·exact hK.elim
 case eA el x off b o hi' ft hc h =>
  have hel:el.ag=false->el.sz=1:=HY ft;obtain⟨v,av,r1,r2,r3⟩:=FQ (P:=P) hel hA hi h1 ft hc h hK;exact⟨_,_,by simpa[Instr.loadAt,Instr.sureAddr]using r1,r2,r3⟩
 case eG el l m j off h =>
  obtain⟨hl,hm,A,rfl,uh⟩:=h;split at hK
  ·rename_i bz xs hxs;obtain⟨rfl,rfl,k3,k4⟩:=hK;obtain⟨o1,o2,o3⟩:=hR.ok l _ hxs;rcases o3 with⟨rfl,_,_⟩|⟨b,vs,b1,b2,b3,b4,b5,_⟩
   ·exact absurd k3 (dL _)
   ·obtain⟨a1,a2⟩:=uh o1.symm;have hb:A.block=b:=by rw[a1]at b1;cases b1;rfl
    rw[a2,hb]
    have hlt:∀ c,c<bz.sz->g.off l+j*bz.sz+c<vs.size:=fun c hc=>by
     rw[b3];have:j*bz.sz+bz.sz<=g.cap l*bz.sz:=by rw[<-cV];exact bE _ (by omega)
     omega
    have hcell:∀ c,c<bz.sz->w.cell? ⟨b,g.off l+j*bz.sz+c,none⟩=some (vs.getD (g.off l+j*bz.sz+c) Go.undef):=fun c hc=>b2.cell (hlt c hc);have hsome:∀ c,c<bz.sz->(w.cell? ⟨b,g.off l+j*bz.sz+c,none⟩).isSome=true:=fun c hc=>by rw[hcell c hc];rfl
    have hD:∀ c,c<bz.sz->dP w ⟨b,g.off l+j*bz.sz+c,none⟩=vs.getD (g.off l+j*bz.sz+c) Go.undef:=fun c hc=>by unfold dP;rw[hcell c hc];rfl
    obtain⟨v,av,r1,r2,r3⟩:=FQ (P:=P) (g:=g) (b:=b) (o:=g.off l+j*bz.sz) (HY (o2 j k3)) hA hi h1 (o2 j k3) hsome
     (fun c hc=>by rw[hD c hc];exact b5 j c k3 hc) k4
    exact⟨_,_,by simpa[Instr.loadAt,Instr.sureAddr]using r1,r2,r3⟩
  ·exact hK.elim
def QN {n : Nat} {p : AV} {A : Addr} (hR : Rel g w σ) (hv : VR g w p (.pointer (some A))) {K : AV -> Prop} (hK : ia σ true n p K) :
    ∃ b o cs,A=⟨b,o,none⟩/\cs.length=n/\cs.all AV.scalar=true/\K (.agg cs)/\(∀ c,c<n->(w.cell? ⟨b,o+c,none⟩).isSome=true)/\ ∀ c,c<n->VR g w (cs.getD c .undef) (dP w ⟨b,o+c,none⟩):=by
 have part:∀ {el:El} {x:AV} {b o off:Nat},x.fits el=true->(∀ c,c<el.sz->(w.cell? ⟨b,o+c,none⟩).isSome=true)->(∀ c,c<el.sz->VR g w (x.cell c) (dP w ⟨b,o+c,none⟩))->partOf el x off true n K ->
  ∃ cs,cs.length=n/\cs.all AV.scalar=true/\K (.agg cs)/\(∀ c,c<n->(w.cell? ⟨b,o+off+c,none⟩).isSome=true)/\ ∀ c,c<n->VR g w (cs.getD c .undef) (dP w ⟨b,o+off+c,none⟩):=by
  intro el x b o off ft hc h hK;unfold partOf at hK;split at hK
  ·rename_i e;obtain⟨rfl,rfl,e3⟩:=e;cases x<;>simp only[AV.fits,<-e3,Bool.not_true,Bool.false_and,Bool.true_and,Bool.false_eq_true,Bool.and_eq_true,beq_iff_eq]at ft;exact⟨_,ft.1,ft.2,hK,hc,h⟩
  ·obtain⟨h2,h3⟩:=hK;cases x<;>simp only at h3
   case agg cs =>
    simp only[AV.fits,aD,beq_iff_eq]at ft;obtain⟨⟨_,hl⟩,hs⟩:=ft;refine⟨(cs.drop off).take n,by simp;omega,nD hs _ _,by simpa using h3.1,fun c kR=>by rw[c8];exact hc _ (by omega),fun c kR=>?_⟩;rw[jb kR,c8];exact h (off+c) (by omega)
 cases hv<;>simp only[ia]at hK
 case ref l off h =>
  obtain⟨hl,A',e,uh⟩:=h;cases e;split at hK
  ·rename_i cs hcs;obtain⟨k1,_,k3⟩:=hK;obtain⟨o1,o2,b,vs,o3,o4,o5,o6,_⟩:=hR.ok l _ hcs;obtain⟨a1,a2⟩:=uh o1;have hb:A.block=b:=by rw[a1]at o3;cases o3;rfl
   rw[hb]at a2;have hcell:∀ c,c<n->w.cell? ⟨b,off+c,none⟩=some (vs.getD (off+c) Go.undef):=fun c hc=>o4.cell (by omega);refine⟨b,off,(cs.drop off).take n,a2,by simp;omega,nD o2 _ _,by simpa using k3,fun c hc=>by rw[hcell c hc];rfl,fun c hc=>?_⟩;rw[jb hc];have:dP w ⟨b,off+c,none⟩=vs.getD (off+c) Go.undef:=by simp[dP,hcell c hc]
   rw[this];exact o6 (off+c) (by omega)
  ·exact hK.elim
 case eA el x off b o hi' ft hc h =>
  obtain⟨cs,h1,h2,h3,h4,h5⟩:=part ft hc h hK;exact⟨b,o+off,cs,rfl,h1,h2,h3,h4,h5⟩
 case eG el l m j off h =>
  obtain⟨hl,hm,A',e,uh⟩:=h;cases e;split at hK
  ·rename_i bz xs hxs;obtain⟨rfl,rfl,k3,k4⟩:=hK;obtain⟨o1,o2,o3⟩:=hR.ok l _ hxs;rcases o3 with⟨rfl,_,_⟩|⟨b,vs,b1,b2,b3,b4,b5,_⟩
   ·exact absurd k3 (dL _)
   ·obtain⟨a1,a2⟩:=uh o1.symm;have hb:A.block=b:=by rw[a1]at b1;cases b1;rfl
    rw[hb]at a2
    have hlt:∀ c,c<bz.sz->g.off l+j*bz.sz+c<vs.size:=fun c hc=>by
     rw[b3];have:j*bz.sz+bz.sz<=g.cap l*bz.sz:=by rw[<-cV];exact bE _ (by omega)
     omega
    have hcell:∀ c,c<bz.sz->w.cell? ⟨b,g.off l+j*bz.sz+c,none⟩=some (vs.getD (g.off l+j*bz.sz+c) Go.undef):=fun c hc=>b2.cell (hlt c hc);have hD:∀ c,c<bz.sz->dP w ⟨b,g.off l+j*bz.sz+c,none⟩=vs.getD (g.off l+j*bz.sz+c) Go.undef:=fun c hc=>by unfold dP;rw[hcell c hc];rfl
    obtain⟨cs,h1,h2,h3,h4,h5⟩:=part (b:=b) (o:=g.off l+j*bz.sz) (o2 j k3) (fun c hc=>by rw[hcell c hc];rfl) (fun c hc=>by rw[hD c hc];exact b5 j c k3 hc) k4;exact⟨b,_,cs,a2,h1,h2,h3,h4,h5⟩
  ·exact hK.elim
def QO {t : TypeId} {ag : Bool} {i : TypeInfo} {p : AV} {v : Value} (hR : Rel g w σ) (hA : kD P t = some ag) (hi : P.info? t = some i) (h1 : ag = false -> i.size = 1)
    (hv:VR g w p v) (hK:ia σ ag i.size p fun v=>K v σ):bQ P (Instr.loadAt t v) g w σ K:=by
 obtain⟨u,av,r1,r2,r3⟩:=JB (P:=P) hR hA hi h1 hv hK;exact bQ.pure hR r1 r2 r3
end
end Go.AM
namespace Go.AM
section
variable {P:Program} {g:aM} {w:World} {σ : ae} {K:AV->ae->Prop}
def add_plain(b o n:Nat): (⟨b,o,none⟩:Addr).add n=⟨b,o+n,none⟩:=by
 unfold Addr.add;split
 ·rename_i h;subst h;rfl
 ·rfl
def sx {b o : Nat} : ∀ (us : List Value) (w : World) (vs : Array Value) (i : Nat), Row w b vs -> o + i + us.length <= vs.size -> (∀ u ∈ us, u.oneCell' = true) ->
    (storeCells ⟨b,o,none⟩ us i).run P w = .ok () (setRow w b (o+i) us):=by
 intro us
 induction us with
 | nil=>intro w vs i _ _ _;rfl
 | cons u us ih =>
   intro w vs i hr hl h1;simp only[List.length_cons]at hl;have hc:=hr.cell (i:=o+i) (by omega);obtain⟨T,fz,_,hf⟩:=id hr;simp only[storeCells,Sem.run_bind,add_plain];rw[run_store P w _ u .plain (h1 u (List.mem_cons_self ..)),hc];simp only[hf (o+i) (by omega),Bool.false_eq_true,if_false,Result.andThen_ok];rw[ih _ (vs.setIfInBounds (o+i) u) (i+1) (hr.set (o+i) u) (by simp;omega) (fun x hx=>h1 x (cE _ hx))];rfl
def kX(cs:List AV)(i:Nat)(az:List AV): (eK cs i az).length=cs.length:=by
 induction az generalizing cs i with
 | nil=>rfl
 | cons a az ih=>simp[eK,ih]
def vu (cs : List AV) (i : Nat) (az : List AV) (hi : i + az.length <= cs.length) (j : Nat) :
    (eK cs i az).getD j .undef=if i<=j/\j<i+az.length then az.getD (j-i) .undef else cs.getD j .undef:=by
 induction az generalizing cs i with
 | nil=>simp[eK];intro h1 h2;omega
 | cons a az ih =>
   simp only[List.length_cons]at hi;rw[eK,ih (cs.set i a) (i+1) (by simp;omega)];by_cases h1:i+1<=j/\j<i+1+az.length
   ·rw[if_pos h1,if_pos (by simp only[List.length_cons];omega)];obtain⟨k,rfl⟩:∃ k,j=i+1+k:=⟨j-(i+1),by omega⟩;rw[show i+1+k-(i+1)=k by omega,show i+1+k-i=k+1 by omega];simp
   ·rw[if_neg h1];by_cases h2:j=i
    ·subst h2;rw[if_pos (by simp only[List.length_cons];omega)];have hlt:j<cs.length:=by omega
     simp[hlt]
    ·rw[if_neg (by simp only[List.length_cons];omega)];simp[List.getElem?_set_ne (Ne.symm h2)]
def xh{cs:List AV}(h:cs.all AV.scalar=true)(i:Nat){az:List AV}(ha:az.all AV.scalar=true): (eK cs i az).all AV.scalar=true:=by
 induction az generalizing cs i with
 | nil=>exact h
 | cons a az ih =>
   simp only[List.all_cons,aD]at ha;refine ih ?_ (i+1) ha.2;rw[bq]at h ⊢;intro x hx;rcases List.mem_or_eq_of_mem_set hx with hx|rfl
   ·exact h x hx
   ·exact ha.1
def LQ{g:aM}{w:World}{a:AV}{v:Value}(h:VR g w a v)(hs:a.cells.all AV.scalar=true): ∀ u ∈ v.cells.toList,u.oneCell'=true:=by
 obtain⟨h1,h2⟩:=kS h hs;intro u hu;obtain⟨i,hi,rfl⟩:=List.mem_iff_getElem.1 hu;simp at hi;have:=(h2 i (by omega)).CK (yT hs (by omega));simpa[hi]using this
def N9 {n : Nat} {p x : AV} {v : Value} {us : List Value} {Kσ : ae -> Prop} (hR : Rel g w σ) (hv : VR g w p v) (c1 : x.cells.length = us.length)
    (c2:∀ i,i<x.cells.length->VR g w (x.cells.getD i .undef) (us.getD i Go.undef)) (h1:∀ u ∈ us,u.oneCell'=true)
    (hK:mL σ n p x Kσ) :
    ∃ A w' g' σ',v = .pointer (some A)/\(storeCells A us).run P w = .ok () w'/\Rel g' w' σ'/\ik σ g w σ' g' w'/\Kσ σ':=by
 obtain⟨hn,hs,hK⟩:=hK;cases hv<;>simp only at hK
 case ref l off h =>
  obtain⟨hl,A,rfl,uh⟩:=h;split at hK
  ·rename_i T cs hcs;obtain⟨k1,k2⟩:=hK;obtain⟨o1,o2,b,vs,o3,o4,o5,o6,o7⟩:=hR.ok l _ hcs;obtain⟨a1,a2⟩:=uh o1;have hb:A.block=b:=by rw[a1]at o3;cases o3;rfl
   have hrun:=sx (P:=P) (b:=b) (o:=off) us w vs 0 o4 (by simp;omega) h1;obtain⟨f1,f2,f3,f4,f5⟩:=vm w b (off+0) us
   obtain⟨r1,r2⟩:=hR.update (o':= .bM T (eK cs off x.cells)) hcs rfl o3 f1 f2 f3 f4 f5
    (fun hm => ⟨o1, xh o2 _ hs, b, _, o3, o4.setRow (off + 0) _, by rw [size_putRow, kX]; exact o5, fun j hj => by
      rw[kX]at hj;rw[vu _ _ _ (by omega),pM _ _ _ (by simp;omega)];simp only[de,<-c1];split
      ·rename_i hh;have:=(c2 (j-off) (by omega)).mono hm;simpa using this
      ·exact(o6 j hj).mono hm,by
       cases T with
       | none=>trivial
       | some T=>rw[kX];exact(vo _ _ _ _ _).trans o7⟩)
   refine⟨A,_,g,_,rfl,?_,r1,r2,k2⟩;rw[a2,hb];simpa using hrun
  ·exact hK.elim
 case eG el l m j off h =>
  obtain⟨hl,hm,A,rfl,uh⟩:=h;split at hK
  ·rename_i T bz xs hxs;obtain⟨rfl,rfl,k3,k4,k5,k6⟩:=hK;obtain⟨o1,o2,o3⟩:=hR.ok l _ hxs;rcases o3 with⟨rfl,_,_⟩|⟨b,vs,b1,b2,b3,b4,b5,b6⟩
   ·exact absurd k3 (dL _)
   ·obtain⟨a1,a2⟩:=uh o1.symm;have hb:A.block=b:=by rw[a1]at b1;cases b1;rfl
    have hrow:g.off l+j*bz.sz+bz.sz<=vs.size:=by
     rw[b3];have:j*bz.sz+bz.sz<=g.cap l*bz.sz:=by rw[<-cV];exact bE _ (by omega)
     omega
    have hrun:=sx (P:=P) (b:=b) (o:=g.off l+j*bz.sz+off) us w vs 0 b2 (by simp;omega) h1;obtain⟨f1,f2,f3,f4,f5⟩:=vm w b (g.off l+j*bz.sz+off+0) us;have hfit:=o2 j k3
    have hnew:(if bz.ag then AV.agg (eK (xs.getD j .undef).cells off x.cells)else x).fits bz=true /\
     ∀ c,c<bz.sz->(if bz.ag then AV.agg (eK (xs.getD j .undef).cells off x.cells)else x).cell c=(if off<=c/\c<off+n then x.cells.getD (c-off) .undef else(xs.getD j .undef).cell c):=by
     cases hag:bz.ag with
     | true =>
       generalize hy:xs.getD j .undef=y at hfit;cases y<;>simp only[AV.fits,hag,Bool.not_true,Bool.false_and,Bool.true_and,Bool.and_eq_true,beq_iff_eq,Bool.false_eq_true]at hfit
       case agg cs =>
        refine⟨?_,fun c hc=>?_⟩
        ·show(bz.ag && (eK cs off x.cells).length==bz.sz && (eK cs off x.cells).all AV.scalar)=true;rw[hag,kX,xh hfit.2 off hs,hfit.1];simp
        ·show(eK cs off x.cells).getD c .undef=_;rw[vu _ _ _ (by omega),hn];rfl
     | false =>
       have hx:=k5 hag;have hsz:=HY hfit hag
       have pD:x.cells=[x]/\ ∀ c,x.cell c=x:=by
        cases x<;>first
         |(simp[AV.fits,hag]at hx;done)
         | exact⟨rfl,fun _=>rfl⟩
       have hn1:n=1:=by rw[<-hn,pD.1];rfl
       refine⟨by simpa using hx,fun c hc=>?_⟩;have h0:c=0/\off=0:=by omega
       obtain⟨rfl,rfl⟩:=h0;rw[if_neg (by simp),pD.2,if_pos (by omega),pD.1];rfl
    obtain⟨n1,n2⟩:=hnew;generalize (if bz.ag then AV.agg (eK (xs.getD j .undef).cells off x.cells)else x)=y at n1 n2 k6
    obtain⟨r1,r2⟩:=hR.update (o':= .cy T bz (xs.set j y)) hxs rfl b1 f1 f2 f3 f4 f5
     (fun hm => ⟨by simpa using o1, fun i' hi' => by
       simp only[List.length_set]at hi';by_cases e:i'=j
       ·subst e;simpa[k3]using n1
       ·have:=o2 i' hi';simpa[List.getElem?_set_ne (Ne.symm e)]using this,
       .inr ⟨b,_,b1,b2.setRow _ _,by rw[size_putRow];exact b3,by simpa using b4,fun i' c hi' hc=>by
        simp only[List.length_set]at hi';rw[pM _ _ _ (by simp;omega)];simp only[de,<-c1,hn];by_cases e:i'=j
        ·subst e;rw[show (xs.set i' y).getD i' .undef=y by simp[k3],n2 c hc];by_cases h2:off<=c/\c<off+n
         ·rw[if_pos h2,if_pos (by omega),show g.off l+i'*bz.sz+c-(g.off l+i'*bz.sz+off)=c-off by omega];have:=(c2 (c-off) (by omega)).mono hm;simpa using this
         ·rw[if_neg h2,if_neg (by omega)];exact(b5 i' c hi' hc).mono hm
        ·rw[show (xs.set j y).getD i' .undef=xs.getD i' .undef by simp[List.getElem?_set_ne (Ne.symm e)]]
         have hne:¬ (g.off l+j*bz.sz+off<=g.off l+i'*bz.sz+c/\g.off l+i'*bz.sz+c<g.off l+j*bz.sz+off+n):=by
          rintro⟨q1,q2⟩;rcases Nat.lt_or_gt_of_ne e with h2|h2
          ·have:(i'+1)*bz.sz<=j*bz.sz:=bE _ h2;rw[cV]at this;omega
          ·have:(j+1)*bz.sz<=i'*bz.sz:=bE _ h2;rw[cV]at this;omega
         rw[if_neg hne];exact(b5 i' c hi' hc).mono hm,by
        cases T with
        | none=>trivial
        | some T=>rw[size_putRow];exact⟨(vo _ _ _ _ _).trans b6.1,b6.2⟩⟩⟩)
    refine⟨A,_,g,_,rfl,?_,r1,r2,k6⟩;rw[a2,hb];simpa using hrun
  ·exact hK.elim
def N_ {t : TypeId} {i : TypeInfo} {p x : AV} {v u : Value} (hR : Rel g w σ) (hi : P.info? t = some i) (hv : VR g w p v) (hu : VR g w x u)
    (hK:mL σ i.size p x fun σ'=>K (.bJ []) σ') :
    ∃ w' g' σ',(Instr.storeAt t v u).run P w = .ok () w'/\Rel g' w' σ'/\ik σ g w σ' g' w'/\K (.bJ []) σ':=by
 obtain⟨c1,c2⟩:=kS hu hK.2.1;obtain⟨A,w',g',σ',rfl,h2,h3,h4,h5⟩:=N9 (P:=P) (us:=u.cells.toList) hR hv (by simpa using c1) (fun i hi=>by simpa using c2 i hi) (LQ hu hK.2.1) hK;refine⟨w',g',σ',?_,h3,h4,h5⟩;have hn:=hK.1;simp only[Instr.storeAt,Instr.sureAddr,Sem.run_bind,Sem.run_pure,Result.andThen_ok,storeVar,dw hi];have e1:¬ u.cells.size≠i.size:=by omega
 simp only[if_neg e1,Sem.run_pure,Result.andThen_ok];exact h2
end
