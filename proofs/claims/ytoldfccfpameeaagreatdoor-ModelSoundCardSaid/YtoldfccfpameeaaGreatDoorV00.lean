/- Part. -/
import Derived.Test.YtoldfccfpameeaaGreatDoorProg
import Derived.Lib.ItoaMem
import Derived.KernelRfl
import Derived.Calls
import Derived.Orders
import Derived.Below
import Derived.RangeFuncIn
import Derived.RangeFuncLeaves
import Derived.RangeFuncRecord
import Derived.OrdersIn
set_option linter.all false
def cq{α : Sort _}(a : α): ∃ b,a=b:=⟨a,rfl⟩
def ND{p:Prop}(h:p:=by constructor<;>first|kernel_rfl|decide|(intro w;kernel_rfl)|(constructor<;>first|kernel_rfl|decide|(intro w;kernel_rfl))): p:=h
def ae{p:Prop}(h:p:=by omega): p:=h
def aR{p:Prop}(h:p:=by simp): p:=h
def da{p:Prop}(h:p:=by decide): p:=h
def iQ{p:Prop}(h:p:=by kernel_rfl): p:=h
namespace Go.Proofs
noncomputable abbrev aI:=Tryz.prog
end Go.Proofs
namespace Go
def aj:=@if_neg
def au:=@if_pos
def bj:=@congrArg
def aD:=@Bool.and_eq_true
def aq:=@List.getD_eq_getElem?_getD
def aA:=@List.length_append
def aF:=@List.getElem?_set_ne
def aM:=@decide_eq_true_eq
def aO:=@List.length_cons
def aE:=@List.getElem?_eq_some_iff
def bf:=@Nat.le_refl
def aP:=@Bool.false_eq_true
def aG:=@List.getElem?_eq_getElem
def aH:=@List.getElem?_append_left
def aV:=@List.append_assoc
def aZ:=@List.all_eq_true
def bB:=@List.map_cons
def bu:=@List.length_nil
def bJ:=@Nat.zero_add
def bn:=@Int.cast_ofNat_Int
def bC:=@Int.natCast_add
def bg:=@Option.map_eq_some_iff
def cj:=@Nat.add_mul
def bN:=@decide_eq_true
def bw:=@List.getElem?_set_self
def bO:=@Option.getD_some
def bQ:=@List.cons_append
def bq:=@List.getElem?_append_right
def bW:=@List.append_nil
def bX:=@List.nil_append
def cY:=@List.map_nil
def cZ:=@Nat.le_trans
def bM:=@Nat.mul_le_mul_right
def bH:=@List.take_of_length_le
def bP:=@List.getElem_of_mem
def cH:=@Bool.or_eq_true
def cI:=@decide_eq_false
def dG:=@List.mem_map
def cQ:=@Bool.eq_iff_iff
def dB:=@Nat.add_assoc
def c9:=@Nat.not_lt_zero
def c_:=@Option.map_some
def ew:=@Nat.zero_le
def bT:=@List.getElem?_cons_succ
def d_:=@List.set_set
def dF:=@List.length_map
def c7:=@Nat.lt_of_lt_of_le
def eG:=@Nat.succ_mul
def dM:=@List.length_set
def cy:=@List.drop_of_length_le
def dK:=@List.getElem_mem
def dL:=@List.length_take
def cz:=@List.getElem?_cons_zero
def eV:=@Nat.add_zero
def de:=@List.getD_cons_zero
def dm:=@List.mem_cons_of_mem
def dn:=@List.length_eq_zero_iff
def eN:=@List.mem_range
def eu:=@List.length_drop
def ey:=@Bool.not_eq_true'
def eU:=@List.drop_zero
def dD:=@List.take_append_drop
def fX:=@Nat.ne_of_lt
def dN:=@List.singleton_append
def eC:=@List.mem_singleton
def kB:=@Bool.not_eq_true
def dV:=@List.set_append_right
def fA:=@List.find?_some
def fY:=@List.mem_cons
def eD:=@Array.getElem_eq_getD
def eK:=@List.mem_append_left
def fH:=@List.map_append
def gH:=@Bool.true_and
def fF:=@List.not_mem_nil
def eX:=@Array.length_toList
def dW:=@List.drop_eq_getElem_cons
def gO:=@List.take_zero
def fB:=@List.pairwise_cons
def gP:=@Bool.false_and
def fC:=@List.find?_eq_none
def iH:=@Bool.not_false
def jm:=@Nat.sub_zero
def gG:=@List.take_length
def iI:=@Bool.and_false
def dz:=@List.take_succ_eq_append_getElem
def fO:=@List.set_cons_zero
def fP:=@List.set_cons_succ
def jy:=@Bool.and_true
def fR:=@Array.toArray_toList
def fG:=@List.mem_append_right
def fS:=@List.pairwise_append
def gZ:=@List.getElem?_map
def g_:=@List.all_eq_false
def e8:=@Array.getElem?_append_left
def eW:=@Array.getD_eq_getD_getElem?
def f_:=@List.getElem?_toArray
def gi:=@List.length_replicate
def ja:=@Nat.le_of_not_lt
def ie:=@List.getD_cons_succ
def ig:=@List.takeWhile_cons
def fL:=@Array.getElem?_eq_some_iff
def jz:=@List.flatMap_cons
def iM:=@List.set_append_left
def gj:=@Option.isSome_iff_exists
def fx:=@List.eq_nil_of_length_eq_zero
def jA:=@List.ext_getElem?
def gK:=@Option.bind_eq_some_iff
def iy:=@List.getElem?_eq_none
def iR:=@List.length_pos_iff
def jB:=@List.take_add_one
def ju:=@List.range_eq_range'
def jv:=@List.mem_of_mem_drop
def fQ:=@Array.eq_empty_of_size_eq_zero
def jw:=@List.mem_of_getElem?
def ij:=@List.mem_of_find?_eq_some
end Go
namespace Go.AM
def Qs: List Nat:=[1]
def Bx (w : World) : Prop := Lib.TabIs Go.Proofs.Tryz.prog w "internal/strconv.uint64pow10" .u64 Lib.pow10Tab
def NG : Go.Proofs.Tryz.prog.globalNamed "internal/strconv.uint64pow10" = some 1 := iQ
def Bx.of_heap{w w':World}(h:Bx w)(hb:∀ b ∈ Qs,w'.heap[b]? = w.heap[b]?): Bx w':=by
 unfold Bx Lib.TabIs World.var? at *;simp only[NG,Option.bind_some]at h ⊢;rw[hb 1 (by simp[Qs])];exact h
structure El where
 ag:Bool
 sz:Nat
deriving DecidableEq,Inhabited,Repr
inductive AV where
 | undef
 | bool (b:Bool)
 | int (k:IntKind) (n:Int)
 | str (s:List UInt8)
 | agg (cs:List AV)
 | bR (vs:List AV)
 | aU
 | aS (full:Bool) (el:El) (xs:List AV)
 | own (el:El) (l m lo n:Nat)
 | ref (l off:Nat)
 | eY (el:El) (x:AV) (off:Nat)
 | fy (el:El) (l m i off:Nat)
 | ik
 | oC
 | jR
 | fn (f:Fn) (first cap:List AV)
 | kR (t:TypeId) (v:AV)
 | iZ
 | mp (l:Nat)
 | qR (l:Nat)
 | l7 (el:El) (p:AV) (n:Nat)
 | nT
deriving Inhabited
def AV.scalar: AV->Bool
 | .agg _ | .bR _ | .undef=>false
 | _=>true
def AV.cell: AV->Nat->AV
 | .agg cs,i=>cs.getD i .undef
 | v,_=>v
def AV.cells: AV->List AV
 | .agg cs=>cs
 | v=>[v]
def AV.fits(el:El): AV->Bool
 | .agg cs=>el.ag && cs.length==el.sz && cs.all AV.scalar
 | .bR _ | .undef=>false
 | _=> !el.ag && el.sz==1
structure aN where
 fE:Nat->Prop
 n:Nat
 ver:Nat->Nat
 base:Nat->Option Nat
 cap:Nat->Nat
 off:Nat->Nat
def eT(w:World)(a:Addr): Value:=(w.cell? a).getD undef
def akM(g:aN)(el:El)(l m lo n:Nat)(v:Value): Prop :=
 l < g.n /\ m <= g.ver l /\ ∃ A cap, v = .slice A n cap /\ (m = g.ver l -> lo + n <= m /\ cap + lo = g.cap l /\
   (lo<g.cap l->A=(g.base l).map fun b=>⟨b,g.off l+lo*el.sz,none⟩))
def akN(g:aN)(l off:Nat)(v:Value): Prop :=
 (l<g.n/\1<=g.ver l)/\ ∃ A,v = .pointer (some A)/\(g.ver l=1->g.base l=some A.block/\A=⟨A.block,off,none⟩)
def ai3(g:aN)(el:El)(l m i off:Nat)(v:Value): Prop :=
 l<g.n/\m<=g.ver l/\ ∃ A,v = .pointer (some A)/\(m=g.ver l->g.base l=some A.block/\A=⟨A.block,g.off l+i*el.sz+off,none⟩)
def MpP(g:aN)(l:Nat)(v:Value): Prop :=
 l<g.n/\ ∃ b,v = .map (some b)/\(g.ver l=0->g.base l=some b)
def akO(g:aN)(l:Nat)(v:Value): Prop :=
 l<g.n/\ ∃ b,v = .func (.yield b) #[] #[]/\(g.ver l=0->g.base l=some b)
inductive VR (g:aN) (w:World):AV->Value->Prop where
 | undef (v:Value):VR g w .undef v
 | bool (b:Bool):VR g w (.bool b) (.bool b)
 | int (k:IntKind) (n:Int):VR g w (.int k n) (.int k n)
 | str (s:List UInt8):VR g w (.str s) (.string ⟨s.toArray⟩)
 | agg (cs : List AV) (vs : Array Value) (hl : cs.length = vs.size) (hs : cs.all AV.scalar = true)
    (h:∀ i,i<cs.length->VR g w (cs.getD i .undef) (vs.getD i Go.undef)):VR g w (.agg cs) (.agg vs)
 | bR (cs : List AV) (vs : Array Value) (hl : cs.length = vs.size)
    (h:∀ i,i<cs.length->VR g w (cs.getD i .undef) (vs.getD i Go.undef)):VR g w (.bR cs) (.tuple vs)
 | aU:VR g w .aU (.slice none 0 0)
 | jd (f:Bool) (el:El) (b:Option Addr) (cap:Nat) (hf:f=true->cap=0):VR g w (.aS f el []) (.slice b 0 cap)
 | aS (f : Bool) (el : El) (xs : List AV) (b off cap : Nat) (hi : g.fE b) (hf : f = true -> cap = xs.length) (hx : xs.length <= cap)
    (ft:∀ i,i<xs.length->(xs.getD i .undef).fits el=true)
    (hc:∀ i c,i<xs.length->c<el.sz->(w.cell? ⟨b,off+(i*el.sz+c),none⟩).isSome=true)
    (h:∀ i c,i<xs.length->c<el.sz->VR g w ((xs.getD i .undef).cell c) (eT w ⟨b,off+(i*el.sz+c),none⟩)) :
    VR g w (.aS f el xs) (.slice (some ⟨b,off,none⟩) xs.length cap)
 | own (el:El) (l m lo n:Nat) (v:Value) (h:akM g el l m lo n v):VR g w (.own el l m lo n) v
 | ref (l off:Nat) (v:Value) (h:akN g l off v):VR g w (.ref l off) v
 | eY (el : El) (x : AV) (off b o : Nat) (hi : g.fE b) (ft : x.fits el = true)
    (hc:∀ c,c<el.sz->(w.cell? ⟨b,o+c,none⟩).isSome=true)
    (h:∀ c,c<el.sz->VR g w (x.cell c) (eT w ⟨b,o+c,none⟩)) :
    VR g w (.eY el x off) (.pointer (some ⟨b,o+off,none⟩))
 | fy (el:El) (l m i off:Nat) (v:Value) (h:ai3 g el l m i off v):VR g w (.fy el l m i off) v
 | ik:VR g w .ik (.pointer none)
 | oC:VR g w .oC .nilFunc
 | jR:VR g w .jR .nilIface
 | fn (f : Fn) (first cap : List AV) (first' cap' : Array Value) (hl : first.length = first'.size) (hl' : cap.length = cap'.size)
    (h:∀ i,i<first.length->VR g w (first.getD i .undef) (first'.getD i Go.undef))
    (h':∀ i,i<cap.length->VR g w (cap.getD i .undef) (cap'.getD i Go.undef)):VR g w (.fn f first cap) (.func f first' cap')
 | kR (t:TypeId) (a:AV) (v:Value) (h:VR g w a v):VR g w (.kR t a) (.iface t v)
 | iZ:VR g w .iZ (.map none)
 | mp (l:Nat) (v:Value) (h:MpP g l v):VR g w (.mp l) v
 | qR (l:Nat) (v:Value) (h:akO g l v):VR g w (.qR l) v
 | nT (v:Value) (h:v.oneCell'=true):VR g w .nT v
 | l7 (el:El) (p:AV) (n:Nat) (A:Addr) (cap:Nat) (hn:0<n) (hc:n<=cap) (h:VR g w p (.pointer (some A))):VR g w (.l7 el p n) (.slice (some A) n cap)
structure kD (g:aN) (w:World) (g':aN) (w':World):Prop where
 fE:∀ b,g.fE b->g'.fE b/\w'.heap[b]? = w.heap[b]?
 n:g.n<=g'.n
 ver:∀ l,l<g.n->g.ver l<=g'.ver l/\(g'.ver l=g.ver l->g'.base l=g.base l/\g'.cap l=g.cap l/\g'.off l=g.off l)
def kD.refl(g:aN)(w:World): kD g w g w:=⟨fun _ h=>⟨h,rfl⟩,bf _,fun _ _=>⟨bf _,fun _=>⟨rfl,rfl,rfl⟩⟩⟩
def kD.trans{g1 g2 g3:aN}{w1 w2 w3:World}(h:kD g1 w1 g2 w2)(k:kD g2 w2 g3 w3): kD g1 w1 g3 w3:=by
 refine⟨fun b hb=>?_,cZ h.n k.n,fun l hl=>?_⟩
 ·obtain⟨h1,h2⟩:=h.fE b hb;obtain⟨h3,h4⟩:=k.fE b h1;exact⟨h3,h4.trans h2⟩
 obtain⟨a1,a2⟩:=h.ver l hl;obtain⟨b1,b2⟩:=k.ver l (c7 hl h.n);refine⟨cZ a1 b1,fun e=>?_⟩;have e1:g2.ver l=g1.ver l:=ae;have e2:g3.ver l=g2.ver l:=ae;exact⟨(b2 e2).1.trans (a2 e1).1,(b2 e2).2.1.trans (a2 e1).2.1,(b2 e2).2.2.trans (a2 e1).2.2⟩
def nP{w w':World}{b:Nat}(h:w'.heap[b]? = w.heap[b]?)(o:Nat)(s:Option Nat): w'.cell? ⟨b,o,s⟩=w.cell? ⟨b,o,s⟩:=by
 simp only[World.cell?,h]
def J7{w w':World}{b:Nat}(h:w'.heap[b]? = w.heap[b]?)(o:Nat)(s:Option Nat): w'.frozen? ⟨b,o,s⟩=w.frozen? ⟨b,o,s⟩:=by
 simp only[World.frozen?,h]
def tj{w w':World}{b:Nat}(h:w'.heap[b]? = w.heap[b]?)(o:Nat)(s:Option Nat): eT w' ⟨b,o,s⟩=eT w ⟨b,o,s⟩:=by
 simp only[eT,nP h]
def VR.mono{g g':aN}{w w':World}(hm:kD g w g' w'){a:AV}{v:Value}(h:VR g w a v): VR g' w' a v:=by
 induction h with
 | undef v=>exact .undef v
 | bool b=>exact .bool b
 | int k n=>exact .int k n
 | str s=>exact .str s
 | agg cs vs hl hs _ ih=>exact .agg cs vs hl hs ih
 | bR cs vs hl _ ih=>exact .bR cs vs hl ih
 | aU=>exact .aU
 | jd f el b cap hf=>exact .jd f el b cap hf
 | aS f el xs b off cap hi hf hx ft hc _ ih =>
   obtain⟨hi',he⟩:=hm.fE b hi;refine .aS f el xs b off cap hi' hf hx ft (fun i c h1 h2=>?_) (fun i c h1 h2=>?_)
   ·rw[nP he];exact hc i c h1 h2
   rw[tj he];exact ih i c h1 h2
 | own el l m lo n v h =>
   obtain⟨h1,h2,A,cap,h3,h4⟩:=h;obtain⟨v1,v2⟩:=hm.ver l h1;refine .own el l m lo n v ⟨c7 h1 hm.n,cZ h2 v1,A,cap,h3,fun e=>?_⟩;have e1:g'.ver l=g.ver l:=ae;obtain⟨b1,b2,b3⟩:=v2 e1;rw[b1,b2,b3];exact h4 ae
 | ref l off v h =>
   obtain⟨⟨h1,h0⟩,A,h2,h3⟩:=h;obtain⟨v1,v2⟩:=hm.ver l h1;refine .ref l off v ⟨⟨c7 h1 hm.n,cZ h0 v1⟩,A,h2,fun e=>?_⟩;have e1:g'.ver l=g.ver l:=ae;rw[(v2 e1).1];exact h3 ae
 | eY el x off b o hi ft hc _ ih =>
   obtain⟨hi',he⟩:=hm.fE b hi;refine .eY el x off b o hi' ft (fun c h2=>?_) (fun c h2=>?_)
   ·rw[nP he];exact hc c h2
   rw[tj he];exact ih c h2
 | fy el l m i off v h =>
   obtain⟨h1,h2,A,h3,h4⟩:=h;obtain⟨v1,v2⟩:=hm.ver l h1;refine .fy el l m i off v ⟨c7 h1 hm.n,cZ h2 v1,A,h3,fun e=>?_⟩;have e1:g'.ver l=g.ver l:=ae;rw[(v2 e1).1,(v2 e1).2.2];exact h4 ae
 | ik=>exact .ik
 | oC=>exact .oC
 | jR=>exact .jR
 | fn f first cap first' cap' hl hl' _ _ ih qH=>exact .fn f first cap first' cap' hl hl' ih qH
 | kR t a v _ ih=>exact .kR t a v ih
 | iZ=>exact .iZ
 | nT v h=>exact .nT v h
 | mp l v h =>
   obtain⟨h1,b,h2,h3⟩:=h;obtain⟨v1,v2⟩:=hm.ver l h1;refine .mp l v ⟨c7 h1 hm.n,b,h2,fun e=>?_⟩;have e1:g'.ver l=g.ver l:=ae;rw[(v2 e1).1];exact h3 ae
 | qR l v h =>
   obtain⟨h1,b,h2,h3⟩:=h;obtain⟨v1,v2⟩:=hm.ver l h1;refine .qR l v ⟨c7 h1 hm.n,b,h2,fun e=>?_⟩;have e1:g'.ver l=g.ver l:=ae;rw[(v2 e1).1];exact h3 ae
 | l7 el p n A cap hn hc _ ih=>exact .l7 el p n A cap hn hc ih
def VR.GS{g:aN}{w:World}{a:AV}{v:Value}(h:VR g w a v)(hs:a.scalar=true): v.oneCell'=true:=by
 cases h<;>first
  | rfl
  |(simp[AV.scalar]at hs;done)
  | skip
 case own h=>obtain⟨_,_,A,cap,rfl,_⟩:=h;rfl
 case ref h=>obtain⟨_,A,rfl,_⟩:=h;rfl
 case fy h=>obtain⟨_,_,A,rfl,_⟩:=h;rfl
 case mp h=>obtain⟨_,A,rfl,_⟩:=h;rfl
 case nT h=>exact h
 case qR h=>obtain⟨_,A,rfl,_⟩:=h;rfl
inductive aX where
 | bV (T:Option TypeId) (cs:List AV)
 | dh (T:Option TypeId) (el:El) (xs:List AV)
 | jC (s:List UInt8) (pos:Nat)
 | map (es:List (AV × AV))
 | loop (nt:Nat) (e:Nat->AV) (ps:Array Tmp) (assign body:Code) (st:LoopState) (pend:Option Code)
 | dead
 | resv
deriving Inhabited
abbrev aX.cells(cs:List AV): aX:= .bV none cs
abbrev aX.vec(el:El)(xs:List AV): aX:= .dh none el xs
def yC(w:World)(b n:Nat): Option TypeId->Prop
 | none=>True
 | some T=>w.shape? b=some (T,n)
def yC.of_heap{w w':World}{b n:Nat}{T:Option TypeId}(h:yC w b n T)(he:w'.heap[b]? = w.heap[b]?): yC w' b n T:=by
 cases T with
 | none=>trivial
 | some T=>simp only[yC,World.shape?]at *;rw[he];exact h
def Ve(w:World)(b n o:Nat): Option TypeId->Prop
 | none=>True
 | some T=>w.shape? b=some (T,n)/\o=0
def Ve.of_heap{w w':World}{b n o:Nat}{T:Option TypeId}(h:Ve w b n o T)(he:w'.heap[b]? = w.heap[b]?): Ve w' b n o T:=by
 cases T with
 | none=>trivial
 | some T=>simp only[Ve,World.shape?]at *;rw[he];exact h
def yC.v{w:World}{b n:Nat}{T:Option TypeId}(h:yC w b n T): Ve w b n 0 T:=by
 cases T with
 | none=>trivial
 | some T=>exact⟨h,rfl⟩
abbrev ai:=List aX
def aX.live: aX->Bool
 | .dead=>false
 | _=>true
def Live(σ : ai)(l:Nat): Prop:= ∃ o,σ[l]? = some o/\o.live=true
def mB(σ : ai)(g:aN)(b:Nat): Prop:= ∃ l,Live σ l/\g.base l=some b
def Row(w:World)(b:Nat)(vs:Array Value): Prop :=
 ∃ T fz,w.heap[b]? = some (.cells vs T fz)/\ ∀ i,i<vs.size->w.frozen? ⟨b,i,none⟩=false
def aX.Ok(g:aN)(w:World)(l:Nat): aX->Prop
 | .bV T cs => g.ver l = 1 /\ cs.all AV.scalar = true /\ ∃ b vs, g.base l = some b /\ Row w b vs /\ vs.size = cs.length /\
    (∀ i,i<cs.length->VR g w (cs.getD i .undef) (vs.getD i Go.undef))/\yC w b cs.length T
 | .dh T el xs => g.ver l = xs.length /\ (∀ i, i < xs.length -> (xs.getD i .undef).fits el = true) /\
    ((xs = [] /\ g.base l = none /\ g.cap l = 0 /\ g.off l = 0) \/
      ∃ b vs, g.base l = some b /\ Row w b vs /\ vs.size = g.off l + g.cap l * el.sz /\ xs.length <= g.cap l /\
        (∀ i c,i<xs.length->c<el.sz->VR g w ((xs.getD i .undef).cell c) (vs.getD (g.off l+i*el.sz+c) Go.undef))/\Ve w b vs.size (g.off l) T)
 | .jC s pos=>g.ver l=1/\ ∃ b,g.base l=some b/\w.heap[b]? = some (.stringIter ⟨s.toArray⟩ pos)
 | .map es => g.ver l = 0 /\ ∃ b ms clock, g.base l = some b /\ w.heap[b]? = some (.map ms clock) /\ ms.size = es.length /\ (clock = es.length /\ ∀ i, i < es.length -> (ms.getD i default).born = i) /\
    ∀ i,i<es.length->VR g w (es.getD i default).1 (ms.getD i default).key/\VR g w (es.getD i default).2 (ms.getD i default).val
 | .loop nt e ps ca cb st pe => g.ver l = 0 /\ ∃ b rec, g.base l = some b /\ w.heap[b]? = some (.loop rec) /\ rec.params = ps /\ rec.assign = ca /\ rec.body = cb /\ rec.state = st /\ rec.pending = pe /\
    rec.tmps.size=nt/\ ∀ t,t<nt->VR g w (e t) (rec.tmps.getD t Go.undef)
 | .dead=>True
 | .resv=>g.ver l=0/\g.base l=none/\g.cap l=0/\g.off l=0
def xS(g:aN)(w:World): Prop:=(∀ b ∈ Qs,g.fE b)/\Bx w
def xS.mono{g g':aN}{w w':World}(h:xS g w)(hm:∀ b,g.fE b->g'.fE b/\w'.heap[b]? = w.heap[b]?): xS g' w' :=
 ⟨fun b hb=>(hm b (h.1 b hb)).1,h.2.of_heap fun b hb=>(hm b (h.1 b hb)).2⟩
structure Rel (g:aN) (w:World) (σ : ai):Prop where
 len : σ.length=g.n
 lt:∀ b,g.fE b->b<w.heap.size
 ok:∀ (l:Nat) (o:aX),σ[l]? = some o->o.Ok g w l
 inj:∀ l l' b,Live σ l->Live σ l'->g.base l=some b->g.base l'=some b->l=l'
 p7:∀ l b,Live σ l->g.base l=some b->¬ g.fE b
 glob:xS g w
structure gk (σ : ai) (g:aN) (w:World) (σ':ai) (g':aN) (w':World):Prop where
 mono:kD g w g' w'
 size:w.heap.size<=w'.heap.size
 os:w'.os=w.os
 tape:w'.tape=w.tape
 output:w'.output=w.output
 frame:∀ b,b<w.heap.size->¬ mB σ g b->w'.heap[b]? = w.heap[b]?
 qS:∀ b,b<w.heap.size->g'.fE b->g.fE b\/mB σ g b
 By:∀ b,b<w.heap.size->mB σ' g' b->mB σ g b
def gk.refl(σ : ai)(g:aN)(w:World): gk σ g w σ g w :=
 ⟨.refl _ _,bf _,rfl,rfl,rfl,fun _ _ _=>rfl,fun _ _ h=> .inl h,fun _ _ h=>h⟩
def gk.trans{σ1 σ2 σ3:ai}{g1 g2 g3:aN}{w1 w2 w3:World}(h:gk σ1 g1 w1 σ2 g2 w2)(k:gk σ2 g2 w2 σ3 g3 w3): gk σ1 g1 w1 σ3 g3 w3:=by
 refine⟨h.mono.trans k.mono,cZ h.size k.size,k.os.trans h.os,k.tape.trans h.tape,k.output.trans h.output,fun b hb ht=>?_,fun b hb hi=>?_,fun b hb ht=>?_⟩
 ·rw[k.frame b (c7 hb h.size) (fun t=>ht (h.By b hb t)),h.frame b hb ht]
 ·rcases k.qS b (Nat.lt_of_lt_of_le hb h.size) hi with h1|h1
  ·exact h.qS b hb h1
  exact .inr (h.By b hb h1)
 exact h.By b hb (k.By b (c7 hb h.size) ht)
def gk.drew(σ : ai)(g:aN)(w:World)(d:Nat): gk σ g w σ g { w with drawn:=d } :=
 ⟨⟨fun _ h=>⟨h,rfl⟩,bf _,fun _ _=>⟨bf _,fun _=>⟨rfl,rfl,rfl⟩⟩⟩,bf _,rfl,rfl,rfl,fun _ _ _=>rfl,fun _ _ h=> .inl h,fun _ _ h=>h⟩
def Row.lt{w:World}{b:Nat}{vs:Array Value}(h:Row w b vs): b<w.heap.size:=by
 obtain⟨T,fz,h,_⟩:=h;exact(fL.1 h).1
def Row.of_heap{w w':World}{b:Nat}{vs:Array Value}(h:Row w b vs)(he:w'.heap[b]? = w.heap[b]?): Row w' b vs:=by
 obtain⟨T,fz,h,hf⟩:=h;exact⟨T,fz,he.trans h,fun i hi=>(J7 he i none).trans (hf i hi)⟩
def Row.cell{w:World}{b:Nat}{vs:Array Value}(h:Row w b vs){i:Nat}(hi:i<vs.size): w.cell? ⟨b,i,none⟩=some (vs.getD i Go.undef):=by
 obtain⟨T,fz,h,_⟩:=h;simp[World.cell?,h,hi]
def aX.Ok.step {g g' : aN} {w w' : World} {l : Nat} {o : aX} (h : o.Ok g w l) (hm : kD g w g' w') (hl : l < g.n)
    (hv:g'.ver l=g.ver l) (hb:∀ b,g.base l=some b->w'.heap[b]? = w.heap[b]?):o.Ok g' w' l:=by
 obtain⟨e1,e2,e3⟩:=(hm.ver l hl).2 hv;cases o with
 | bV T cs =>
   obtain⟨h1,hs,b,vs,h2,h3,h4,h5,h6⟩:=h;exact⟨hv.trans h1,hs,b,vs,e1.trans h2,h3.of_heap (hb b h2),h4,fun i hi=>(h5 i hi).mono hm,h6.of_heap (hb b h2)⟩
 | dh T el xs =>
   obtain⟨h1,hf,h2⟩:=h;refine⟨hv.trans h1,hf,?_⟩;rcases h2 with⟨h2,h3,h4⟩|⟨b,vs,h2,h3,h4,h5,h6,h7⟩
   ·exact .inl ⟨h2,e1.trans h3,e2.trans h4.1,e3.trans h4.2⟩
   exact .inr ⟨b,vs,e1.trans h2,h3.of_heap (hb b h2),by rw[e2,e3];exact h4,by rw[e2];exact h5,fun i c hi hc=>by rw[e3];exact(h6 i c hi hc).mono hm,by rw[e3];exact h7.of_heap (hb b h2)⟩
 | jC s pos =>
   obtain⟨h1,b,h2,h3⟩:=h;exact⟨hv.trans h1,b,e1.trans h2,(hb b h2).trans h3⟩
 | map es =>
   obtain⟨h1,b,ms,clock,h2,h3,h4,h6,h5⟩:=h;exact⟨hv.trans h1,b,ms,clock,e1.trans h2,(hb b h2).trans h3,h4,h6,fun i hi=>⟨(h5 i hi).1.mono hm,(h5 i hi).2.mono hm⟩⟩
 | loop nt e ps ca cb st pe =>
   obtain⟨h1,b,rec,h2,h3,h4,h5,h6,h7,h8,h9,h10⟩:=h;exact⟨hv.trans h1,b,rec,e1.trans h2,(hb b h2).trans h3,h4,h5,h6,h7,h8,h9,fun t ht=>(h10 t ht).mono hm⟩
 | dead=>trivial
 | resv=>exact⟨hv.trans h.1,e1.trans h.2.1,e2.trans h.2.2.1,e3.trans h.2.2.2⟩
def Rel.kS{g:aN}{w:World}{σ : ai}(h:Rel g w σ){l b:Nat}(hl:Live σ l)(hb:g.base l=some b): b<w.heap.size:=by
 obtain⟨o,ho,hv⟩:=hl;have:=h.ok l o ho;cases o with
 | bV T cs=>obtain⟨_,_,b',vs,h2,h3,_⟩:=this;rw[hb]at h2;cases h2;exact h3.lt
 | dh T el xs =>
   obtain⟨_,_,h2⟩:=this;rcases h2 with⟨_,h3,_⟩|⟨b',vs,h2,h3,_⟩
   ·rw[hb]at h3;cases h3
   rw[hb]at h2;cases h2;exact h3.lt
 | jC s pos=>obtain⟨_,b',h2,h3⟩:=this;rw[hb]at h2;cases h2;exact(Array.getElem?_eq_some_iff.1 h3).1
 | map es=>obtain⟨_,b',_,_,h2,h3,_⟩:=this;rw[hb]at h2;cases h2;exact(Array.getElem?_eq_some_iff.1 h3).1
 | loop nt e ps ca cb st pe=>obtain⟨_,b',_,h2,h3,_⟩:=this;rw[hb]at h2;cases h2;exact(Array.getElem?_eq_some_iff.1 h3).1
 | dead=>simp[aX.live]at hv
 | resv=>rw[this.2.1]at hb;cases hb
def Rel.Cx{g:aN}{w:World}{σ : ai}(h:Rel g w σ){b:Nat}(ht:mB σ g b): b<w.heap.size :=
 let ⟨_,hl,hb⟩:=ht;h.kS hl hb
def Live.lt{σ : ai}{l:Nat}(h:Live σ l): l < σ.length:=by
 obtain⟨o,ho,_⟩:=h;exact(aE.1 ho).1
def heap_alloc_old(w:World)(o:Obj){b:Nat}(h:b<w.heap.size): (w.alloc o).heap[b]? = w.heap[b]?:=by
 exact Go.RowKit.Below.heap_alloc w o b h
def heap_alloc_new(w:World)(o:Obj): (w.alloc o).heap[w.heap.size]? = some o:=by
 show(w.heap.push o)[w.heap.size]? = _;simp
def Rel.drew{g:aN}{w:World}{σ : ai}(h:Rel g w σ)(d:Nat): Rel g { w with drawn:=d } σ :=
 ⟨h.len,h.lt,fun l o ho=>(h.ok l o ho).step (gk.drew σ g w d).mono (by rw[<-h.len];exact(aE.1 ho).1) rfl (fun _ _=>rfl),h.inj,h.p7,h.glob.mono fun _ hb=>⟨hb,rfl⟩⟩
def aN.qT(g:aN)(b:Nat): aN:= { g with fE:=fun c=>g.fE c\/c=b }
def aN.push(g:aN)(v:Nat)(b:Option Nat)(c:Nat)(o:Nat:=0): aN :=
 { g with n:=g.n+1,off:=fun l=>if l=g.n then o else g.off l,ver:=fun l=>if l=g.n then v else g.ver l,base:=fun l=>if l=g.n then b else g.base l,cap:=fun l=>if l=g.n then c else g.cap l }
def vy(g:aN)(w:World)(o:Obj)(hlt:∀ b,g.fE b->b<w.heap.size): kD g w (g.qT w.heap.size) (w.alloc o) :=
 ⟨fun b h=>⟨.inl h,heap_alloc_old w o (hlt b h)⟩,bf _,fun _ _=>⟨bf _,fun _=>⟨rfl,rfl,rfl⟩⟩⟩
def nU(g:aN)(w:World)(o:Obj)(v:Nat)(b:Option Nat)(c:Nat)(hlt:∀ b,g.fE b->b<w.heap.size): kD g w (g.push v b c) (w.alloc o) :=
 ⟨fun b h => ⟨h, heap_alloc_old w o (hlt b h)⟩, Nat.le_succ _, fun l hl => by
   have:l≠g.n:=fX hl;simp[aN.push,this]⟩
def Rel.QN{g:aN}{w:World}{σ : ai}(h:Rel g w σ)(o:Obj): Rel (g.qT w.heap.size) (w.alloc o) σ/\gk σ g w σ (g.qT w.heap.size) (w.alloc o):=by
 have hm:=vy g w o h.lt;refine⟨⟨h.len,fun b hb=>?_,fun l o' ho=>?_,h.inj,fun l b hl hb hi=>?_,h.glob.mono hm.fE⟩,⟨hm,aR,rfl,rfl,rfl,fun b hb _=>heap_alloc_old w o hb,fun b hb hi=>?_,fun b _ ht=>ht⟩⟩
 ·rcases hb with hb|rfl
  ·have:=h.lt b hb;simp;omega
  simp
 ·have hl:l<g.n:=by rw[<-h.len];exact(aE.1 ho).1
  by_cases hv:o'.live=true
  ·exact(h.ok l o' ho).step hm hl rfl (fun b hb=>heap_alloc_old w o (h.kS ⟨o',ho,hv⟩ hb))
  ·cases o'<;>simp[aX.live]at hv;trivial
 ·rcases hi with hi|rfl
  ·exact h.p7 l b hl hb hi
  exact absurd (h.kS hl hb) (Nat.lt_irrefl _)
 rcases hi with hi|rfl
 ·exact .inl hi
 exact absurd hb (Nat.lt_irrefl _)
def oD{σ : ai}{o:aX}{l:Nat}(h:Live (σ++[o]) l): Live σ l\/l = σ.length:=by
 obtain⟨o',ho,hv⟩:=h;by_cases hl:l < σ.length
 ·exact .inl ⟨o',by rwa[aH hl]at ho,hv⟩
 have:=(aE.1 ho).1;simp at this;exact .inr ae
def Rel.agI {g0 g : aN} {w0 w w' : World} {nI σ : ai} {D : Nat} (h : Rel g w σ) (fc : gk nI g0 w0 σ g w) (hD : w0.heap.size <= D) (ht : ¬ mB σ g D) (hi : ¬ g.fE D)
    (hsz:w'.heap.size=w.heap.size) (hos:w'.os=w.os) (xU:w'.tape=w.tape) (hout:w'.output=w.output) (hheap:∀ c,c≠D->w'.heap[c]? = w.heap[c]?) :
    Rel g w' σ/\gk nI g0 w0 σ g w'/\kD g w g w':=by
 have hm:kD g w g w':=⟨fun b hb=>⟨hb,hheap b (fun e=>hi (e ▸ hb))⟩,bf _,fun _ _=>⟨bf _,fun _=>⟨rfl,rfl,rfl⟩⟩⟩
 refine⟨⟨h.len,fun b hb=>by rw[hsz];exact h.lt b hb,fun l o' ho=>?_,h.inj,h.p7,h.glob.mono hm.fE⟩,
  ⟨fc.mono.trans hm,by rw[hsz];exact fc.size,hos.trans fc.os,xU.trans fc.tape,hout.trans fc.output,fun b hb hnt=>(hheap b ae).trans (fc.frame b hb hnt),fc.qS,fc.By⟩,hm⟩
 have hl:l<g.n:=by rw[<-h.len];exact(aE.1 ho).1
 by_cases hv:o'.live=true
 ·exact(h.ok l o' ho).step hm hl rfl (fun b hb=>hheap b (fun e=>ht ⟨l,⟨o',ho,hv⟩,e ▸ hb⟩))
 ·cases o'<;>simp[aX.live]at hv;trivial
def Rel.vz {g : aN} {w : World} {σ : ai} (h : Rel g w σ) (o : Obj) (ao : aX) (v c : Nat)
    (hok:ao.Ok (g.push v (some w.heap.size) c) (w.alloc o) g.n) :
    Rel (g.push v (some w.heap.size) c) (w.alloc o) (σ++[ao])/\gk σ g w (σ++[ao]) (g.push v (some w.heap.size) c) (w.alloc o):=by
 have hm:=nU g w o v (some w.heap.size) c h.lt;have hbase:∀ l,l<g.n->(g.push v (some w.heap.size) c).base l=g.base l:=fun l hl=>by simp[aN.push,fX hl]
 have hnew:(g.push v (some w.heap.size) c).base g.n=some w.heap.size:=by simp[aN.push]
 have hold:∀ l b,Live σ l->(g.push v (some w.heap.size) c).base l=some b->g.base l=some b/\b<w.heap.size:=fun l b hl hb=>by
  rw[hbase l (by rw[<-h.len];exact hl.lt)]at hb;exact⟨hb,h.kS hl hb⟩
 refine⟨⟨by simp[aN.push,h.len],fun b hb=>by have:=h.lt b hb;simp;omega,fun l o' ho=>?_,fun l l' b hl hl' hb hb'=>?_,fun l b hl hb hi=>?_,h.glob.mono hm.fE⟩,
  ⟨hm,aR,rfl,rfl,rfl,fun b hb _=>heap_alloc_old w o hb,fun b hb hi=> .inl hi,fun b hb ht=>?_⟩⟩
 ·by_cases hl:l < σ.length
  ·rw[aH hl]at ho;have hl':l<g.n:=by rw[<-h.len];exact hl
   by_cases hv:o'.live=true
   ·refine(h.ok l o' ho).step hm hl' (by simp[aN.push,fX hl']) (fun b hb=>heap_alloc_old w o (h.kS ⟨o',ho,hv⟩ hb))
   ·cases o'<;>simp[aX.live]at hv;trivial
  have h1:=(aE.1 ho).1;simp at h1;have h2:l = σ.length:=ae;subst h2;simp at ho;subst ho;rw[h.len];exact hok
 ·rcases oD hl with hl|rfl<;>rcases oD hl' with hl'|rfl
  ·exact h.inj l l' b hl hl' (hold l b hl hb).1 (hold l' b hl' hb').1
  ·have:=(hold l b hl hb).2;rw[h.len,hnew]at hb';cases hb';exact absurd this (Nat.lt_irrefl _)
  ·have:=(hold l' b hl' hb').2;rw[h.len,hnew]at hb;cases hb;exact absurd this (Nat.lt_irrefl _)
  rfl
 ·rcases oD hl with hl|rfl
  ·exact h.p7 l b hl (hold l b hl hb).1 hi
  rw[h.len,hnew]at hb;cases hb;exact absurd (h.lt _ hi) (Nat.lt_irrefl _)
 obtain⟨l,hl,hb'⟩:=ht;rcases oD hl with hl|rfl
 ·exact⟨l,hl,(hold l b hl hb').1⟩
 rw[h.len,hnew]at hb';cases hb';exact absurd hb (Nat.lt_irrefl _)
def aN.reset(g:aN)(l v:Nat)(b:Option Nat)(c:Nat)(o:Nat:=0): aN :=
 { g with off:=fun k=>if k=l then o else g.off k,ver:=fun k=>if k=l then v else g.ver k,base:=fun k=>if k=l then b else g.base k,cap:=fun k=>if k=l then c else g.cap k }
def lE{σ : ai}{l k:Nat}{o:aX}(h:Live (σ.set l o) k): (k=l/\l < σ.length/\o.live=true)\/(k≠l/\Live σ k):=by
 obtain⟨o',ho,hv⟩:=h;by_cases hk:k=l
 ·subst hk;have hlt:=(aE.1 ho).1;simp at hlt;simp[hlt]at ho;exact .inl ⟨rfl,hlt,ho ▸ hv⟩
 rw[aF (Ne.symm hk)]at ho;exact .inr ⟨hk,o',ho,hv⟩
def Rel.change {g : aN} {w w' : World} {σ : ai} {l : Nat} {o o' : aX} (h : Rel g w σ) (hl : σ[l]? = some o) (ho : o.live = true)
    (v:Nat) (nb:Option Nat) (c:Nat) (fo:Nat) (hv:g.ver l<=v) (hvb:v=g.ver l->nb=g.base l/\c=g.cap l/\fo=g.off l)
    (hsz:w.heap.size<=w'.heap.size) (hos:w'.os=w.os) (xU:w'.tape=w.tape) (hout:w'.output=w.output)
    (hheap:∀ b,b<w.heap.size->g.base l≠some b->w'.heap[b]? = w.heap[b]?)
    (hnb:∀ b,nb=some b->g.base l=some b\/w.heap.size<=b)
    (hok:kD g w (g.reset l v nb c fo) w'->o'.Ok (g.reset l v nb c fo) w' l) :
    Rel (g.reset l v nb c fo) w' (σ.set l o')/\gk σ g w (σ.set l o') (g.reset l v nb c fo) w':=by
 have iV:Live σ l:=⟨o,hl,ho⟩;have hbase:∀ k,k≠l->(g.reset l v nb c fo).base k=g.base k:=fun k hk=>by simp[aN.reset,hk]
 have Qt:(g.reset l v nb c fo).base l=nb:=by simp[aN.reset]
 have hm:kD g w (g.reset l v nb c fo) w':=by
  refine⟨fun b hb=>⟨hb,hheap b (h.lt b hb) (fun e=>h.p7 l b iV e hb)⟩,bf _,fun k _=>?_⟩;by_cases hk:k=l
  ·subst hk;simp only[aN.reset,if_true];exact⟨hv,hvb⟩
  simp[aN.reset,hk]
 refine⟨⟨by simp[aN.reset,h.len],fun b hb=>c7 (h.lt b hb) hsz,fun k ok hk=>?_,fun k k' b hk hk' hb hb'=>?_,fun k b hk hb hi=>?_,h.glob.mono hm.fE⟩,
  ⟨hm,hsz,hos,xU,hout,fun b hb ht=>hheap b hb (fun e=>ht ⟨l,iV,e⟩),fun b _ hi=> .inl hi,fun b hb ht=>?_⟩⟩
 ·by_cases e:k=l
  ·subst e;have hlt:=(aE.1 hk).1;simp at hlt;simp[hlt]at hk;subst hk;exact hok hm
  rw[aF (Ne.symm e)]at hk;have hkn:k<g.n:=by rw[<-h.len];exact(aE.1 hk).1
  by_cases hvk:ok.live=true
  ·refine(h.ok k ok hk).step hm hkn (by simp[aN.reset,e]) (fun b hb=>hheap b (h.kS ⟨ok,hk,hvk⟩ hb) (fun e'=>e (h.inj k l b ⟨ok,hk,hvk⟩ iV hb e')))
  ·cases ok<;>simp[aX.live]at hvk;trivial
 ·rcases lE hk with⟨e,_,_⟩|⟨e,k8⟩<;>rcases lE hk' with⟨e',_,_⟩|⟨e',abY⟩
  ·exact e.trans e'.symm
  ·subst e;rw[Qt]at hb;rw[hbase k' e']at hb';rcases hnb b hb with h1|h1
   ·exact h.inj _ _ b iV abY h1 hb'
   have:=h.kS abY hb';omega
  ·subst e';rw[Qt]at hb';rw[hbase k e]at hb;rcases hnb b hb' with h1|h1
   ·exact h.inj _ _ b k8 iV hb h1
   have:=h.kS k8 hb;omega
  rw[hbase k e]at hb;rw[hbase k' e']at hb';exact h.inj k k' b k8 abY hb hb'
 ·rcases lE hk with⟨rfl,_,_⟩|⟨e,hk⟩
  ·rw[Qt]at hb;rcases hnb b hb with h1|h1
   ·exact h.p7 _ b iV h1 hi
   have:=h.lt b hi;omega
  rw[hbase k e]at hb;exact h.p7 k b hk hb hi
 obtain⟨k,hk,hb'⟩:=ht;rcases lE hk with⟨rfl,_,_⟩|⟨e,hk⟩
 ·rw[Qt]at hb';rcases hnb b hb' with h1|h1
  ·exact⟨_,iV,h1⟩
  omega
 exact⟨k,hk,by rw[hbase k e]at hb';exact hb'⟩
def aN.J8(g:aN)(l:Nat): g.reset l (g.ver l) (g.base l) (g.cap l) (g.off l)=g:=by
 simp only[aN.reset]
 congr 1<;>(funext k;split<;>simp_all)
def Rel.update {g : aN} {w w' : World} {σ : ai} {l b : Nat} {o o' : aX} (h : Rel g w σ) (hl : σ[l]? = some o) (ho : o.live = true) (hb : g.base l = some b)
    (hsz:w'.heap.size=w.heap.size) (hos:w'.os=w.os) (xU:w'.tape=w.tape) (hout:w'.output=w.output)
    (hheap:∀ c,c≠b->w'.heap[c]? = w.heap[c]?) (hok:kD g w g w'->o'.Ok g w' l) :
    Rel g w' (σ.set l o')/\gk σ g w (σ.set l o') g w':=by
 have:=Rel.change (o':=o') (w':=w') h hl ho (g.ver l) (g.base l) (g.cap l) (g.off l) (bf _) (fun _=>⟨rfl,rfl,rfl⟩) (Nat.le_of_eq hsz.symm) hos xU hout
  (fun c _ hc=>hheap c (fun e=>hc (e ▸ hb))) (fun c hc=> .inl hc)
 rw[g.J8 l]at this;exact this hok
def Rel.freeze {g : aN} {w : World} {σ : ai} {l b : Nat} {o : aX} (h : Rel g w σ) (hl : σ[l]? = some o) (ho : o.live = true) (hb : g.base l = some b) :
    Rel (g.qT b) w (σ.set l .dead)/\gk σ g w (σ.set l .dead) (g.qT b) w:=by
 have iV:Live σ l:=⟨o,hl,ho⟩;have hm:kD g w (g.qT b) w:=⟨fun c hc=>⟨.inl hc,rfl⟩,bf _,fun _ _=>⟨bf _,fun _=>⟨rfl,rfl,rfl⟩⟩⟩
 refine⟨⟨by simp[aN.qT,h.len],fun c hc=>?_,fun k ok hk=>?_,fun k k' c hk hk' hc l8=>?_,fun k c hk hc hi=>?_,h.glob.mono hm.fE⟩,
  ⟨hm,bf _,rfl,rfl,rfl,fun _ _ _=>rfl,fun c _ hi=>?_,fun c _ ht=>?_⟩⟩
 ·rcases hc with hc|rfl
  ·exact h.lt c hc
  exact h.kS iV hb
 ·by_cases e:k=l
  ·subst e;have hlt:=(aE.1 hk).1;simp at hlt;simp[hlt]at hk;subst hk;trivial
  rw[aF (Ne.symm e)]at hk;have hkn:k<g.n:=by rw[<-h.len];exact(aE.1 hk).1
  exact(h.ok k ok hk).step hm hkn rfl (fun _ _=>rfl)
 ·rcases lE hk with⟨_,_,e⟩|⟨_,hk⟩
  ·simp[aX.live]at e
  rcases lE hk' with⟨_,_,e⟩|⟨_,hk'⟩
  ·simp[aX.live]at e
  exact h.inj k k' c hk hk' hc l8
 ·rcases lE hk with⟨_,_,e⟩|⟨e,hk⟩
  ·simp[aX.live]at e
  rcases hi with hi|rfl
  ·exact h.p7 k c hk hc hi
  exact e (h.inj k l c hk iV hc hb)
 ·rcases hi with hi|rfl
  ·exact .inl hi
  exact .inr ⟨l,iV,hb⟩
 obtain⟨k,hk,hc⟩:=ht;rcases lE hk with⟨_,_,e⟩|⟨_,hk⟩
 ·simp[aX.live]at e
 exact⟨k,hk,hc⟩
def Rel.lu {g : aN} {w : World} {σ : ai} (h : Rel g w σ) (el : El) :
    Rel (g.push 0 none 0) w (σ++[.vec el []])/\gk σ g w (σ++[.vec el []]) (g.push 0 none 0) w:=by
 have hm:kD g w (g.push 0 none 0) w:=⟨fun b hb=>⟨hb,rfl⟩,Nat.le_succ _,fun l hl=>by simp[aN.push,fX hl]⟩;have hbase:∀ l,l<g.n->(g.push 0 none 0).base l=g.base l:=fun l hl=>by simp[aN.push,fX hl]
 have hnew:(g.push 0 none 0).base g.n=none:=by simp[aN.push]
 have hold:∀ l b,Live (σ++[.vec el []]) l->(g.push 0 none 0).base l=some b->Live σ l/\g.base l=some b:=fun l b hl hb=>by
  rcases oD hl with hl|rfl
  ·rw[hbase l (by rw[<-h.len];exact hl.lt)]at hb;exact⟨hl,hb⟩
  rw[h.len,hnew]at hb;cases hb
 refine⟨⟨by simp[aN.push,h.len],h.lt,fun l o' ho=>?_,fun l l' b hl hl' hb hb'=>h.inj l l' b (hold l b hl hb).1 (hold l' b hl' hb').1 (hold l b hl hb).2 (hold l' b hl' hb').2,
  fun l b hl hb hi=>h.p7 l b (hold l b hl hb).1 (hold l b hl hb).2 hi,h.glob.mono hm.fE⟩,
  ⟨hm,bf _,rfl,rfl,rfl,fun _ _ _=>rfl,fun b hb hi=> .inl hi,fun b hb ht=>?_⟩⟩
 ·by_cases hl:l < σ.length
  ·rw[aH hl]at ho;have hl':l<g.n:=by rw[<-h.len];exact hl
   exact(h.ok l o' ho).step hm hl' (by simp[aN.push,fX hl']) (fun _ _=>rfl)
  have h1:=(aE.1 ho).1;simp at h1;have h2:l = σ.length:=ae;subst h2;simp at ho;subst ho;rw[h.len];exact⟨by simp[aN.push],aR,.inl ⟨rfl,hnew,by simp[aN.push]⟩⟩
 obtain⟨l,hl,hb'⟩:=ht;exact⟨l,(hold l b hl hb').1,(hold l b hl hb').2⟩
def Rel.hold {g : aN} {w : World} {σ : ai} (h : Rel g w σ) :
    Rel (g.push 0 none 0) w (σ++[.resv])/\gk σ g w (σ++[.resv]) (g.push 0 none 0) w:=by
 have hm:kD g w (g.push 0 none 0) w:=⟨fun b hb=>⟨hb,rfl⟩,Nat.le_succ _,fun l hl=>by simp[aN.push,fX hl]⟩;have hbase:∀ l,l<g.n->(g.push 0 none 0).base l=g.base l:=fun l hl=>by simp[aN.push,fX hl]
 have hnew:(g.push 0 none 0).base g.n=none:=by simp[aN.push]
 have hold:∀ l b,Live (σ++[.resv]) l->(g.push 0 none 0).base l=some b->Live σ l/\g.base l=some b:=fun l b hl hb=>by
  rcases oD hl with hl|rfl
  ·rw[hbase l (by rw[<-h.len];exact hl.lt)]at hb;exact⟨hl,hb⟩
  rw[h.len,hnew]at hb;cases hb
 refine⟨⟨by simp[aN.push,h.len],h.lt,fun l o' ho=>?_,fun l l' b hl hl' hb hb'=>h.inj l l' b (hold l b hl hb).1 (hold l' b hl' hb').1 (hold l b hl hb).2 (hold l' b hl' hb').2,
  fun l b hl hb hi=>h.p7 l b (hold l b hl hb).1 (hold l b hl hb).2 hi,h.glob.mono hm.fE⟩,
  ⟨hm,bf _,rfl,rfl,rfl,fun _ _ _=>rfl,fun b hb hi=> .inl hi,fun b hb ht=>?_⟩⟩
 ·by_cases hl:l < σ.length
  ·rw[aH hl]at ho;have hl':l<g.n:=by rw[<-h.len];exact hl
   exact(h.ok l o' ho).step hm hl' (by simp[aN.push,fX hl']) (fun _ _=>rfl)
  have h1:=(aE.1 ho).1;simp at h1;have h2:l = σ.length:=ae;subst h2;simp at ho;subst ho;rw[h.len];exact⟨by simp[aN.push],hnew,by simp[aN.push]⟩
 obtain⟨l,hl,hb'⟩:=ht;exact⟨l,(hold l b hl hb').1,(hold l b hl hb').2⟩
def zK(w:World)(b i:Nat)(v:Value){c:Nat}(h:c≠b): (w.setCell ⟨b,i,none⟩ v).heap[c]? = w.heap[c]? :=
 Go.RowKit.Below.heap_setCell w ⟨b,i,none⟩ v c h
def Row.set{w:World}{b:Nat}{vs:Array Value}(h:Row w b vs)(i:Nat)(v:Value): Row (w.setCell ⟨b,i,none⟩ v) b (vs.setIfInBounds i v):=by
 obtain⟨T,fz,h1,h2⟩:=h;refine⟨T,fz,?_,fun j hj=>?_⟩
 ·simp[World.setCell,Array.getElem?_modify,h1]
 rw[World.frozen?_setCell];exact h2 j (by simpa using hj)
def setRow(w:World)(b:Nat): Nat->List Value->World
 | _,[]=>w
 | i,v::vs=>setRow (w.setCell ⟨b,i,none⟩ v) b (i+1) vs
def putRow(vs:Array Value): Nat->List Value->Array Value
 | _,[]=>vs
 | i,u::us=>putRow (vs.setIfInBounds i u) (i+1) us
def qU (w : World) (b i : Nat) (us : List Value) : (setRow w b i us).heap.size = w.heap.size /\ (setRow w b i us).os = w.os /\ (setRow w b i us).tape = w.tape /\
    (setRow w b i us).output=w.output/\ ∀ c,c≠b->(setRow w b i us).heap[c]? = w.heap[c]?:=by
 induction us generalizing w i with
 | nil=>exact⟨rfl,rfl,rfl,rfl,fun _ _=>rfl⟩
 | cons u us ih =>
   obtain⟨h1,h2,h3,h4,h5⟩:=ih (w.setCell ⟨b,i,none⟩ u) (i+1);exact⟨h1.trans (World.size_setCell ..),h2,h3,h4,fun c hc=>(h5 c hc).trans (zK w b i u hc)⟩
def Row.setRow{w:World}{b:Nat}{vs:Array Value}(h:Row w b vs)(i:Nat)(us:List Value): Row (setRow w b i us) b (putRow vs i us):=by
 induction us generalizing w i vs with
 | nil=>exact h
 | cons u us ih=>exact ih (h.set i u) (i+1)
def PI(w:World)(b i:Nat)(v:Value)(c:Nat): (w.setCell ⟨b,i,none⟩ v).shape? c=w.shape? c:=by
 by_cases h:c=b
 ·subst h;simp only[World.shape?,World.setCell,Array.getElem?_modify,if_true];cases w.heap[c]? with
  | none=>rfl
  | some o=>cases o<;>simp
 simp only[World.shape?,zK w b i v h]
def um(w:World)(b i:Nat)(us:List Value)(c:Nat): (setRow w b i us).shape? c=w.shape? c:=by
 induction us generalizing w i with
 | nil=>rfl
 | cons u us ih=>exact(ih (w.setCell ⟨b,i,none⟩ u) (i+1)).trans (PI w b i u c)
def size_putRow(vs:Array Value)(i:Nat)(us:List Value): (putRow vs i us).size=vs.size:=by
 induction us generalizing vs i with
 | nil=>rfl
 | cons u us ih=>simp[putRow,ih]
def oE (vs : Array Value) (i : Nat) (us : List Value) (hi : i + us.length <= vs.size) (j : Nat) (d : Value) :
    (putRow vs i us).getD j d=if i<=j/\j<i+us.length then us.getD (j-i) d else vs.getD j d:=by
 induction us generalizing vs i with
 | nil=>simp[putRow];intro h1 h2;omega
 | cons u us ih =>
   simp only[aO]at hi;rw[putRow,ih (vs.setIfInBounds i u) (i+1) (by simp;omega)];by_cases h1:i+1<=j/\j<i+1+us.length
   ·rw[au h1,au (by simp only[aO];omega)];obtain⟨k,rfl⟩:∃ k,j=i+1+k:=⟨j-(i+1),ae⟩;rw[show i+1+k-(i+1)=k by omega,show i+1+k-i=k+1 by omega];simp
   rw[aj h1];by_cases h2:j=i
   ·subst h2;rw[au (by simp only[aO];omega)];have hlt:j<vs.size:=ae;simp[hlt]
   rw[aj (by simp only[aO];omega)];simp[Array.getElem?_setIfInBounds_ne (Ne.symm h2)]
inductive Out where
 | ret (a:AV)
 | panic (a:AV)
def AN(g:aN)(w:World): Out->Ending->Prop
 | .ret a,.returned v=>VR g w a v
 | .panic a,.panicked chain=> ∃ v,chain=[{ v,recovered:=false }]/\VR g w a v
 | _,_=>False
def Has (P : Program) (f : FuncId) : Prop := ∃ fn, P.funcs[f]? = some fn ∧ fn.body.isSome = true ∧ (fn.name == "runtime.NumGoroutine") = false
def cK(P:Program)(f:FuncId)(args:List AV)(σ : ai)(R:Out->ai->Prop): Prop :=
 Has P f/\ ∀(g:aN) (w:World) (vs:Array Value),Rel g w σ->args.length=vs.size->(∀ i,i<args.length->VR g w (args.getD i .undef) (vs.getD i Go.undef)) ->
  Calls P f vs w fun e w'=> ∃ out g' σ',Rel g' w' σ'/\gk σ g w σ' g' w'/\AN g' w' out e/\R out σ'
def cK.mono{P:Program}{f:FuncId}{args:List AV}{σ : ai}{R R':Out->ai->Prop}(h:cK P f args σ R)(hr:∀ o σ',R o σ'->R' o σ'): cK P f args σ R' :=
 ⟨h.1,fun g w vs h1 h2 h3=>(h.2 g w vs h1 h2 h3).mono fun _ _ ⟨out,g',σ',a,b,c,d⟩=>⟨out,g',σ',a,b,c,hr _ _ d⟩⟩
def wD(P:Program)(l:Nat)(args:List AV)(σ : ai)(R:Out->ai->Prop): Prop :=
 (∃ nt e ps ca cb st pe, σ[l]? = some (.loop nt e ps ca cb st pe)) /\ ∀ (g : aN) (w : World) (vs : Array Value) (b : Nat), Rel g w σ -> g.base l = some b -> args.length = vs.size -> (∀ i, i < args.length -> VR g w (args.getD i .undef) (vs.getD i Go.undef)) ->
   ∃ fn tmps assign body,(Instr.yield b vs).run P w = .ok (.round b fn tmps assign body) w/\RoundIn Fence.wide 0 P b fn tmps assign body w fun en w'=> ∃ out g' σ',Rel g' w' σ'/\gk σ g w σ' g' w'/\AN g' w' out en/\R out σ'
def wD.mono{P:Program}{l:Nat}{args:List AV}{σ : ai}{R R':Out->ai->Prop}(h:wD P l args σ R)(hr:∀ o σ',R o σ'->R' o σ'): wD P l args σ R':=by
 refine⟨h.1,fun g w vs b h1 h2 h3 h4=>?_⟩;obtain⟨fn,tmps,ca,cb,r1,r2⟩:=h.2 g w vs b h1 h2 h3 h4;exact⟨fn,tmps,ca,cb,r1,r2.mono fun _ _ ⟨out,g',σ',a,b,c,d⟩=>⟨out,g',σ',a,b,c,hr _ _ d⟩⟩
def kK(P:Program)(f:FuncId)(args:List AV)(σ : ai)(r:AV): Prop:=cK P f args σ fun o σ'=>o = .ret r/\σ' = σ
abbrev Env:=Nat->AV
inductive AX where
 | t (n:Nat)
 | c (a:AV)
def AX.ev(e:Env): AX->AV
 | .t n=>e n
 | .c a=>a
def eP(e:Env)(d:Option Nat)(a:AV): Env :=
 match d with
 | some d=>fun n=>if n=d then a else e n
 | none=>e
def fD: List AV->Nat->List AV->List AV
 | cs,_,[]=>cs
 | cs,i,a::az=>fD (cs.set i a) (i+1) az
inductive Kd where
 | b|i|s
deriving DecidableEq
def QO: Kd->AV->AV->Option Bool
 | .b,.bool a,.bool b=>some (a==b)
 | .i,.int k a,.int k' b=>if k=k' then some (a==b)else none
 | .s,.str a,.str b=>some (a==b)
 | _,_,_=>none
def jc: List Kd->List AV->List AV->Option Bool
 | [],[],[]=>some true
 | k :: ks, a :: az, b :: bs => match QO k a b, jc ks az bs with
   | some x,some y=>some (x && y)
   | _,_=>none
 | _,_,_=>none
inductive NK where
 | p|i|f|m
deriving DecidableEq
def p8: NK->AV->Option Bool
 | .p,.ik=>some true
 | .p,.ref .. | .p,.eY .. | .p,.fy ..=>some false
 | .i,.jR=>some true
 | .i,.kR ..=>some false
 | .f,.oC=>some true
 | .f,.fn ..=>some false
 | .m,.iZ=>some true
 | .m,.mp ..=>some false
 | _,_=>none
def pG(k:NK)(x y:AV): Option Bool :=
 match p8 k x,p8 k y with
 | some true,some b=>some b
 | some false,some true=>some false
 | _,_=>none
def AV.obj: AV->Option Nat
 | .ref l _=>some l
 | .fy _ l _ _ _=>some l
 | .own _ l _ _ _=>some l
 | .l7 _ (.ref l _) _=>some l
 | .l7 _ (.fy _ l _ _ _) _=>some l
 | .mp l=>some l
 | _=>none
def AV.adv(d:Nat): AV->AV
 | .ref l o=> .ref l (o+d)
 | .eY el y o=> .eY el y (o+d)
 | .fy el l m i o=> .fy el l m i (o+d)
 | x=>x
def AV.ptr: AV->Bool
 | .ref .. | .eY .. | .fy ..=>true
 | _=>false
def aX.like: aX->aX->Prop
 | .dh T el xs,o=> ∃ ys,o = .dh T el ys/\ys.length=xs.length
 | _,_=>True
def GU(P:Program)(n:FuncId)(args:List AV)(σ : ai)(K:AV->ai->Prop): Prop:=match args with
 | a::_=> ∃ l ob nJ r,a.obj=some l/\σ[l]? = some ob/\ob.like nJ/\cK P n args σ (fun o σ'=>o = .ret r/\σ' = σ.set l nJ)/\K r (σ.set l nJ)
 | []=>False
inductive gu where
 | NH (el:El) (lo:Bool)
 | Cy
 | xk (kd:Option IntKind) (ok:Bool) (zero:AV)
 | wE (kd:Option IntKind)
 | Mg
 | tV (el:El) (n:Nat) (lo hi:Bool)
 | copy (el:El)
 | inv (name:String)
 | DV (el:El)
 | yD (el:El) (lo:Bool)
 | xm (el:El)
 | cw (n:FuncId) (k:Nat) (ku:List (Bool × Nat))
 | QS (neg:Bool)
 | QU (T:TypeId) (ok:Bool) (zero:AV)
 | s2a (n:Nat)
 | agJ (kd:Option IntKind) (zero:AV)
 | agK
 | clr (el:El) (zero:AV)
 | pc (n:FuncId)
 | Za
 | AO (neg:Bool)
inductive bA where
 | ex (o:gu) (xs:List AX)
 | mv (x:AX)
 | pick (c a b:AX)
 | alloc (T:Option TypeId) (cs:List AV)
 | box (x:AX)
 | build (zero:List AV) (parts:List (Nat × Nat × AX))
 | l9 (mt:Bool) (el:El) (zero:AV) (n:Nat) (parts:List (Nat × AX))
 | load (ag:Bool) (n:Nat) (x:AX)
 | store (n:Nat) (x v:AX)
 | tq (x:AX)
 | bin (op:BinOp) (x y:AX)
 | nK (neg:Bool) (ag:Bool) (ks:List Kd) (x y:AX)
 | un (op:UnOp) (x:AX)
 | jW (k:IntKind) (x:AX)
 | Vf (x:AX)
 | Zb (x:AX)
 | yE (x:AX)
 | v7 (t:TypeId) (x:AX)
 | tJ (f:Fn) (first cap:List AX)
 | yF (x:AX) (lo hi:Option AX)
 | pz (el:El) (x:AX) (lo hi:Option AX)
 | rP (off:Nat) (x:AX)
 | field (ag:Bool) (off n:Nat) (x:AX)
 | ff (el:El) (arr:Option Nat) (x i:AX)
 | oR (x i:AX)
 | yG (el:El) (ln:Nat) (x i:AX)
 | ext (x:AX) (i:Nat)
 | call (q:Bool) (f:AX) (args:List AX)
 | tK (f:AX) (args:List AX)
 | len (s:Bool) (x:AX)
 | app (T:Option TypeId) (el:El) (x y:AX)
 | DW (el:El) (x:AX)
 | yH (T:TypeId) (x n:AX)
 | J9 (x:AX)
 | J_ (u:TypeId) (x:AX)
 | HL (neg:Bool) (x y:AX)
 | GV (f:FuncId) (x:AX)
 | min (x:AX) (xs:List AX)
 | max (x:AX) (xs:List AX)
 | oS (el:El) (zero:AV) (n c:AX)
 | panic (x:AX)
 | lu (el:El)
 | hold
 | yI (T:TypeId) (x:AX)
 | lp (k:Nat) (T:Option TypeId) (cs:List AV)
 | rQ (k:Nat) (T:Option TypeId) (el:El) (x y:AX)
 | IG (x:AX)
 | II (x:AX)
 | pH (neg:Bool) (k:NK) (x y:AX)
 | rR (k:Nat) (el:El) (zero:AV) (n c:AX)
def di(k:IntKind)(n:Int): Int:=k.wrap n
def nW(op:BinOp)(k:IntKind)(x y:Int): Int :=
 let a:=BitVec.ofInt k.bits x
 let b:=BitVec.ofInt k.bits y
 match op with
 | .and=>k.wrap (a &&& b).toNat
 | .or=>k.wrap (a ||| b).toNat
 | .xor=>k.wrap (a ^^^ b).toNat
 | _=>k.wrap (a &&& ~~~b).toNat
def kE(op:BinOp)(x y:AV)(K:AV->Prop): Prop :=
 match op,x,y with
 | .shl,.int k a,.int _ b=>0<=b/\K (.int k (di k (a*2 ^ (Nat.min b.toNat k.bits))))
 | .shr,.int k a,.int _ b=>0<=b/\K (.int k (a.fdiv (2 ^ (Nat.min b.toNat k.bits))))
 | .add,.int k a,.int k' b=>k=k'/\K (.int k (di k (a+b)))
 | .sub,.int k a,.int k' b=>k=k'/\K (.int k (di k (a-b)))
 | .mul,.int k a,.int k' b=>k=k'/\K (.int k (di k (a*b)))
 | .quo,.int k a,.int k' b=>k=k'/\b≠0/\K (.int k (di k (a.tdiv b)))
 | .rem,.int k a,.int k' b=>k=k'/\b≠0/\K (.int k (a.tmod b))
 | .and,.int k a,.int k' b=>k=k'/\K (.int k (nW .and k a b))
 | .or,.int k a,.int k' b=>k=k'/\K (.int k (nW .or k a b))
 | .xor,.int k a,.int k' b=>k=k'/\K (.int k (nW .xor k a b))
 | .andNot,.int k a,.int k' b=>k=k'/\K (.int k (nW .andNot k a b))
 | .eql,.int k a,.int k' b=>k=k'/\K (.bool (a==b))
 | .neq,.int k a,.int k' b=>k=k'/\K (.bool (!(a==b)))
 | .lss,.int k a,.int k' b=>k=k'/\K (.bool (decide (a<b)))
 | .leq,.int k a,.int k' b=>k=k'/\K (.bool (decide (a<=b)))
 | .gtr,.int k a,.int k' b=>k=k'/\K (.bool (decide (b<a)))
 | .geq,.int k a,.int k' b=>k=k'/\K (.bool (decide (b<=a)))
 | .add,.str a,.str b=>((a.length+b.length:Nat):Int)<=IntKind.i64.max/\K (.str (a++b))
 | .eql,.str a,.str b=>K (.bool (a==b))
 | .neq,.str a,.str b=>K (.bool (!(a==b)))
 | .lss,.str a,.str b=>K (.bool (Op.bytesLess a b))
 | .leq,.str a,.str b=>K (.bool (Op.bytesLess a b || a==b))
 | .gtr,.str a,.str b=>K (.bool (!(Op.bytesLess a b || a==b)))
 | .geq,.str a,.str b=>K (.bool (!Op.bytesLess a b))
 | _,_,_=>False
def ED(op:UnOp)(x:AV)(K:AV->Prop): Prop :=
 match op,x with
 | .not,.bool b=>K (.bool (!b))
 | .neg,.int k n=>K (.int k (di k (0-n)))
 | .xor,.int k n=>K (.int k (nW .xor k (if k.signed then -1 else k.max) n))
 | _,_=>False
def bound(x:Option AV)(d:Nat)(y:Nat)(K:Nat->Prop): Prop :=
 match x with
 | none=>K d
 | some (.int _ i)=>0<=i/\i<=y/\K i.toNat
 | _=>False
def partOf(el:El)(x:AV)(off:Nat)(ag:Bool)(n:Nat)(K:AV->Prop): Prop :=
 if off=0/\n=el.sz/\ag=el.ag then K x
 else off+n<=el.sz/\match x with
  | .agg cs=>K (if ag then .agg ((cs.drop off).take n)else cs.getD off .undef)/\(ag=false->n=1)
  | _=>False
def iP(σ : ai)(ag:Bool)(n:Nat)(p:AV)(K:AV->Prop): Prop :=
 match p with
 | .ref l off => match σ[l]? with
   | some (.bV _ cs)=>off+n<=cs.length/\(ag=false->n=1)/\K (if ag then .agg ((cs.drop off).take n)else cs.getD off .undef)
   | _=>False
 | .eY el x off=>partOf el x off ag n K
 | .fy el l m i off => match σ[l]? with
   | some (.dh T bE xs)=>bE=el/\m=xs.length/\i<xs.length/\partOf el (xs.getD i .undef) off ag n K
   | _=>False
 | _=>False
def nX(σ : ai)(n:Nat)(p v:AV)(K:ai->Prop): Prop :=
 v.cells.length=n/\v.cells.all AV.scalar=true /\
 match p with
 | .ref l off => match σ[l]? with
   | some (.bV T cs)=>off+n<=cs.length/\K (σ.set l (.bV T (fD cs off v.cells)))
   | _=>False
 | .fy el l m i off => match σ[l]? with
   | some (.dh T bE xs) => bE = el /\ m = xs.length /\ i < xs.length /\ off + n <= el.sz /\ (el.ag = false -> v.fits el = true) /\
      K (σ.set l (.dh T el (xs.set i (if el.ag then .agg (fD (xs.getD i .undef).cells off v.cells)else v))))
   | _=>False
 | _=>False
def gC(σ : ai)(el:El)(x:AV)(K:List AV->Prop): Prop :=
 match x with
 | .aU=>K []
 | .aS _ bE xs=>bE=el/\K xs
 | .own bE l m lo n => bE = el /\ match σ[l]? with
   | some (.dh T bL xs)=>bL=el/\m=xs.length/\K ((xs.drop lo).take n)
   | _=>False
 | .str s=>el=⟨false,1⟩/\K (s.map fun b=> .int .u8 b.toNat)
 | .l7 bE p n=>bE=el/\el=⟨false,1⟩/\iP σ true n p fun v=>K v.cells
 | _=>False
def gw(n:Nat)(el:El): Prop:=n*(el.sz+1)<=2 ^ 40
def oT(σ : ai)(T:Option TypeId)(el:El)(x y:AV)(K:AV->ai->Prop): Prop :=
 gC σ el y fun ys=>ys.all (fun a=>a.fits el)=true /\
 match x with
 | .aU=>if ys.length=0 then K .aU σ else gw ys.length el/\K (.own el σ.length ys.length 0 ys.length) (σ++[.dh T el ys])
 | .aS true bE xs => bE = el /\ if ys.length = 0 then K (.aS true el xs) σ else
    gw (xs.length+ys.length) el/\K (.own el σ.length (xs.length+ys.length) 0 (xs.length+ys.length)) (σ++[.dh T el (xs++ys)])
 | .own bE l m lo n => bE = el /\ match σ[l]? with
   | some (.dh T' bL xs) => (T' = none \/ T' = T) /\ bL = el /\ m = xs.length /\ lo = 0 /\ n = xs.length /\ gw (xs.length + ys.length) el /\
      K (.own el l (xs.length+ys.length) 0 (xs.length+ys.length)) (σ.set l (.dh T' el (xs++ys)))
   | _=>False
 | _=>False
def EE(op:Bool)(x y:AV)(K:AV->Prop): Prop :=
 match x,y with
 | .int k a,.int _ b=>K (.int k (if op then(if b<a then b else a)else (if b>a then b else a)))
 | _,_=>False
def tu(op:Bool)(x:AV): List AV->(AV->Prop)->Prop
 | [],K=>K x
 | y::ys,K=>EE op x y fun z=>tu op z ys K
def nA(zero:List AV)(e:Env): List (Nat × Nat × AX)->(List AV->Prop)->Prop
 | [],K=>K zero
 |(off,n,x)::r,K=>(x.ev e).cells.length=n/\(x.ev e).cells.all AV.scalar=true/\off+n<=zero.length/\nA (fD zero off (x.ev e).cells) e r K
def mC(el:El)(xs:List AV)(e:Env): List (Nat × AX)->(List AV->Prop)->Prop
 | [],K=>K xs
 |(i,x)::r,K=>(x.ev e).fits el=true/\i<xs.length/\mC el (xs.set i (x.ev e)) e r K
def ai4(el:El): AV->Bool
 | .aU=>true
 | .aS true bE xs=>bE==el && xs.isEmpty
 | _=>false
def ai5(el:El): AV->Option (List AV)
 | .aU=>some []
 | .aS _ bE xs=>if bE=el then some xs else none
 | _=>none
def Qu: AV->AV->Option Bool
 | .str a,.str b=>some (a==b)
 | .int k a,.int k' b=>if k=k' then some (a==b)else none
 | _,_=>none
def lF(k:AV): List (AV × AV)->Nat->Option (Option (Nat × AV))
 | [],_=>some none
 | (q, v) :: r, i => match Qu k q with
   | some true=>some (some (i,v))
   | some false=>lF k r (i+1)
   | none=>none
def wF(k v:AV)(es:List (AV × AV)): Option (List (AV × AV)):=match lF k es 0 with
 | some (some (i,_))=>some (es.set i (k,v))
 | some none=>some (es++[(k,v)])
 | none=>none
def AV.pI: Option IntKind->AV->Bool
 | none,.str _=>true
 | some k,.int k' _=>k==k'
 | _,_=>false
def agL(P:Program)(t:TypeId)(name:String): Option FuncId:=match P.info? t,P.underlying t with
 | some i, some (.pointer _) => match i.methods.find? (·.name == name) with
   | some m => match m.func with
     | some (f,true)=>if m.path.isEmpty then some f else none
     | _=>none
   | none=>none
 | _,_=>none
def mc(lo:Option AV)(hi mx:AV)(cap:Nat)(K:Nat->Nat->Nat->Prop): Prop :=
 bound (some mx) 0 cap fun m=>bound (some hi) 0 m fun h=>bound lo 0 h fun l=>K l h m
def AP(σ : ai)(el:El)(x:AV)(lo:Option AV)(hi mx:AV)(K:AV->ai->Prop): Prop :=
 match x with
 | .aU=>mc lo hi mx 0 fun _ _ _=>K .aU σ
 | .aS _ bE xs=>bE=el/\mc lo hi mx xs.length fun l h m=>K (.aS (h==m) el ((xs.drop l).take (h-l))) σ
 | .own bE l0 m0 o n => bE = el /\ match σ[l0]? with
   | some (.dh _ bL xs) => bL = el /\ m0 = xs.length /\ o + n <= m0 /\ mc lo hi mx n fun l h m =>
      if m=l then K (.aS true el []) σ else h=m/\K (.aS true el ((xs.drop (o+l)).take (h-l))) (σ.set l0 .dead)
   | _=>False
 | _=>False
def v8(el:El)(x:AV)(lo:Option AV)(hi mx:AV)(K:AV->Prop): Prop :=
 match x with
 | .aU=>mc lo hi mx 0 fun _ _ _=>K .aU
 | .aS _ bE xs=>bE=el/\mc lo hi mx xs.length fun l h m=>K (.aS (h==m) el ((xs.drop l).take (h-l)))
 | .own bE _ _ _ _=>bE=el/\mc lo hi mx 0 fun _ _ _=>K (.aS true el [])
 | _=>False
def Bz(σ : ai)(el:El)(x:AV)(ys:List AV)(K:AV->ai->Prop): Prop :=
 match x with
 | .aU=>K (.int .i64 0) σ
 | .aS _ bE []=>bE=el/\K (.int .i64 0) σ
 | .l7 bE p n=>bE=el/\el=⟨false,1⟩/\nX σ (min ys.length n) p (.agg (ys.take n)) fun σ'=>K (.int .i64 (min ys.length n:Nat)) σ'
 | .own bE l m o n => bE = el /\ match σ[l]? with
   | some (.dh T bL xs)=>bL=el/\m=xs.length/\o+n<=m/\K (.int .i64 (min ys.length n:Nat)) (σ.set l (.dh T el (fD xs o (ys.take n))))
   | _=>False
 | _=>False
def Cz(σ : ai)(el:El)(x y:AV)(K:AV->ai->Prop): Prop :=
 gC σ el y fun ys=>ys.all (fun a=>a.fits el)=true/\Bz σ el x ys K
def CA(σ : ai)(el:El)(x y:AV)(K:AV->ai->Prop): Prop :=
 match x with
 | .own bE l m (lo + 1) n => bE = el /\ gC σ el y fun ys => ys.all (fun a => a.fits el) = true /\ match σ[l]? with
   | some (.dh _ bL xs) => bL = el /\ m = xs.length /\ lo + 1 + n = m /\ gw (n + ys.length) el /\
      K (.own el σ.length (n+ys.length) 0 (n+ys.length)) (σ.set l .dead++[.vec el (xs.drop (lo+1)++ys)])
   | _=>False
 | x=>oT σ none el x y K
def GW(σ : ai)(el:El)(x y:AV)(K:AV->Prop): Prop :=
 gC σ el y fun ys=>ys.all (fun a=>a.fits el)=true/\ys.length≠0/\match x with
  | .aU=>gw ys.length el/\K (.aS false el ys)
  | .aS true bE xs=>bE=el/\gw (xs.length+ys.length) el/\K (.aS false el (xs++ys))
  | _=>False
def CB(el:El)(n:Nat)(p:AV)(lo hi:Option AV)(K:AV->Prop): Prop :=
 p.ptr=true/\bound hi n n fun h=>bound lo 0 h fun l=>K (if h=l then .aS false el []else .l7 el (p.adv (l*el.sz)) (h-l))
def uo(σ : ai)(x:AV)(K:Bool->Prop): Prop:=match x with
 | .aU=>K true
 | .aS _ _ (_::_)=>K false
 | .l7 ..=>K false
 | .own _ l m _ n => match σ[l]? with
   | some (.dh _ _ xs)=>m=xs.length/\0<n/\K false
   | _=>False
 | _=>False
mutual
def AV.nL(m:Nat): AV->Bool
 | .own _ l _ _ _=> !(l==m)
 | .ref l _=> !(l==m)
 | .fy _ l _ _ _=> !(l==m)
 | .mp l=> !(l==m)
 | .qR l=> !(l==m)
 | .l7 _ p _=>AV.nL m p
 | .agg cs=>AV.uq m cs
 | .bR cs=>AV.uq m cs
 | .aS _ _ xs=>AV.uq m xs
 | .eY _ x _=>AV.nL m x
 | .fn _ a b=>AV.uq m a && AV.uq m b
 | .kR _ v=>AV.nL m v
 | .undef | .bool _ | .int .. | .str _ | .aU | .ik | .oC | .jR | .iZ | .nT=>true
def AV.uq(m:Nat): List AV->Bool
 | []=>true
 | a::az=>AV.nL m a && AV.uq m az
end
def aX.nL(m:Nat): aX->Bool
 | .bV _ cs=>AV.uq m cs
 | .dh _ _ xs=>AV.uq m xs
 | .map es=>es.all fun p=>p.1.nL m && p.2.nL m
 | .loop nt e ..=>(List.range nt).all fun t=>(e t).nL m
 | .jC .. | .dead | .resv=>true
def Ka(m:Nat)(σ : ai): Bool:=σ.all (aX.nL m)
def GX(σ : ai)(x:AV)(K:Bool->Prop): Prop:=match x with
 | .aS _ _ []=>K true/\K false
 | x=>uo σ x K
def WU(az:List AV)(σ σ2:ai)(p:AV): Prop:=match p with
 | .ref m 0=>σ2[m]? = some .resv->σ[m]? = some .resv/\AV.uq m az=true/\Ka m σ = true
 | _=>False
def p_(az:List AV)(σ σ2:ai): List (Bool × Nat)->List AV->Prop
 | [],_=>True
 |(ag,n)::r,p::ps=>(p = .ik\/if n=0 then WU az σ σ2 p else ∃ v,iP σ ag n p (fun u=>u=v)/\iP σ2 ag n p (fun u=>u=v))/\p_ az σ σ2 r ps
 | _::_,[]=>False
def yJ(T:TypeId)(ok:Bool)(z x:AV)(K:AV->Prop): Prop:=match x with
 | .kR t v=>if t=T then K (if ok then .bR [v,.bool true]else v)else ok=true/\K (.bR [z,.bool false])
 | .jR=>ok=true/\K (.bR [z,.bool false])
 | _=>False
def IJ(σ : ai)(n:Nat)(x:AV)(K:AV->ai->Prop): Prop:=match x with
 | .aS _ bE xs=>bE=⟨false,1⟩/\0<n/\n<=xs.length/\K (.eY ⟨true,n⟩ (.agg (xs.take n)) 0) σ
 | .own bE l m o k => bE = ⟨false, 1⟩ /\ match σ[l]? with
   | some (.dh _ bL xs)=>bL=⟨false,1⟩/\m=xs.length/\o+k<=m/\0<n/\n<=k/\K (.eY ⟨true,n⟩ (.agg ((xs.drop o).take n)) 0) (σ.set l .dead)
   | _=>False
 | _=>False
def CD(σ : ai)(kd:Option IntKind)(zero x k:AV)(K:AV->ai->Prop): Prop:=match x with
 | .mp l => k.pI kd = true /\ match σ[l]? with
   | some (.map es) => match lF k es 0 with
     | some (some (i,v))=>K (.bR [v,.int .i64 i]) σ
     | some none=>K (.bR [zero,.int .i64 es.length]) (σ.set l (.map (es++[(k,zero)])))
     | none=>False
   | _=>False
 | _=>False
def CH(σ : ai)(x s v:AV)(K:ai->Prop): Prop:=match x,s with
 | .mp l, .int .i64 z => match σ[l]? with
   | some (.map es)=>0<=z/\z.toNat<es.length/\K (σ.set l (.map (es.set z.toNat ((es.getD z.toNat default).1,v))))
   | _=>False
 | _,_=>False
def IK(σ : ai)(el:El)(zero x:AV)(K:ai->Prop): Prop:=match x with
 | .aU=>K σ
 | .aS _ _ []=>K σ
 | .own bE l m o n => bE = el /\ zero.fits el = true /\ match σ[l]? with
   | some (.dh T bL xs)=>bL=el/\m=xs.length/\o+n<=m/\K (σ.set l (.dh T el (fD xs o (List.replicate n zero))))
   | _=>False
 | _=>False
def yK(σ : ai)(x:AV)(K:AV->ai->Prop): Prop:=match x with
 | .aU=>K .aU σ
 | .aS f el xs=>K (.aS f el xs) σ
 | .own el l m lo n => match σ[l]? with
   | some (.dh _ bE xs)=>bE=el/\m=xs.length/\lo+n<=m/\K (.aS false el ((xs.drop lo).take n)) (σ.set l .dead)
   | _=>False
 | _=>False
def pcK(K Kp:AV->Prop): Out->Prop
 | .ret r=>K r
 | .panic v=>Kp v
def gu.run(P:Program)(o:gu)(vs:List AV)(σ : ai)(K Kp:AV->ai->Prop): Prop :=
 match o,vs with
 | .NH el false,[x,hi,mx]=>AP σ el x none hi mx K
 | .NH el true,[x,lo,hi,mx]=>AP σ el x (some lo) hi mx K
 | .Cy,[]=>K (.mp σ.length) (σ++[.map []])
 | .xk kd ok zero,[.iZ,k]=>k.pI kd=true/\K (if ok then .bR [zero,.bool false]else zero) σ
 | .xk kd ok zero, [.mp l, k] => k.pI kd = true /\ match σ[l]? with
   | some (.map es) => match lF k es 0 with
     | some (some (_,v))=>K (if ok then .bR [v,.bool true]else v) σ
     | some none=>K (if ok then .bR [zero,.bool false]else zero) σ
     | none=>False
   | _=>False
 | .wE kd, [.mp l, k, v] => k.pI kd = true /\ match σ[l]? with
   | some (.map es) => match wF k v es with
     | some es'=>K (.bR []) (σ.set l (.map es'))
     | none=>False
   | _=>False
 | .Mg,[.iZ]=>K (.int .i64 0) σ
 | .Mg, [.mp l] => match σ[l]? with
   | some (.map es)=>K (.int .i64 es.length) σ
   | _=>False
 | .tV el n false false,[p]=>CB el n p none none fun v=>K v σ
 | .tV el n true false,[p,a]=>CB el n p (some a) none fun v=>K v σ
 | .tV el n false true,[p,b]=>CB el n p none (some b) fun v=>K v σ
 | .tV el n true true,[p,a,b]=>CB el n p (some a) (some b) fun v=>K v σ
 | .copy el,[x,y]=>Cz σ el x y K
 | .DV el,[x,y]=>CA σ el x y K
 | .xm el,[x,y]=>GW σ el x y fun v=>K v σ
 | .QS neg,[x]=>uo σ x fun r=>K (.bool (if neg then !r else r)) σ
 | .cw n k ku,x::vs=> ∃ r σ2,cK P n ((x::vs).take k) σ (fun o σ'=>o = .ret r/\σ' = σ2)/\p_ ((x::vs).take k) σ σ2 ku ((x::vs).drop k)/\K r σ2
 | .yD el false,[x,hi,mx]=>v8 el x none hi mx fun v=>K v σ
 | .yD el true,[x,lo,hi,mx]=>v8 el x (some lo) hi mx fun v=>K v σ
 | .inv name, .kR t v :: r => match agL P t name with
   | some f => cK P f (v :: r) σ fun
     | .ret r,σ'=>K r σ'
     | .panic r,σ'=>Kp r σ'
   | none=>False
 | .QU T ok z,[x]=>yJ T ok z x fun v=>K v σ
 | .s2a n,[x]=>IJ σ n x K
 | .agJ kd z,[x,k]=>CD σ kd z x k K
 | .agK,[x,s,v]=>CH σ x s v fun σ'=>K (.bR []) σ'
 | .clr el z,[x]=>IK σ el z x fun σ'=>K (.bR []) σ'
 | .pc n,vs=> ∃ o,(∀ s,cK P n vs s fun o' s'=>o'=o/\s'=s)/\pcK (fun r=>K r σ) (fun v=> ∀ s,Kp v s) o
 | .Za,[x]=>yK σ x K
 | .AO neg,[x]=>GX σ x fun r=>K (.bool (if neg then !r else r)) σ
 | _,_=>False
def bA.run(P:Program)(o:bA)(e:Env)(σ : ai)(K:AV->ai->Prop)(Kp:AV->ai->Prop): Prop :=
 match o with
 | .ex o xs=>o.run P (xs.map (AX.ev e)) σ K Kp
 | .mv x=>K (x.ev e) σ
 | .pick c a b => match c.ev e with
   | .bool t=>K (if t then a.ev e else b.ev e) σ
   | _=>False
 | .alloc T cs=>K (.ref σ.length 0) (σ++[.bV T cs])
 | .box x=>(x.ev e).cells.all AV.scalar=true/\K (.ref σ.length 0) (σ++[.cells (x.ev e).cells])
 | .build zero parts=>nA zero e parts fun cs=>K (.agg cs) σ
 | .l9 mt el zero n parts => mC el (List.replicate n zero) e parts fun xs =>
    if mt then K (.own el σ.length n 0 n) (σ++[.vec el xs])else K (.aS true el xs) σ
 | .load ag n x=>iP σ ag n (x.ev e) fun v=>K v σ
 | .store n x v=>nX σ n (x.ev e) (v.ev e) fun σ'=>K (.bR []) σ'
 | .tq x => match x.ev e with
   | .ref .. | .eY .. | .fy .. | .kR .. | .fn (.func _) _ _ | .qR _=>K (x.ev e) σ
   | _=>False
 | .bin op x y=>kE op (x.ev e) (y.ev e) fun v=>K v σ
 | .nK neg ag ks x y => match (if ag then (match x.ev e, y.ev e with | .agg az, .agg bs => jc ks az bs | _, _ => none) else jc ks [x.ev e] [y.ev e]) with
   | some b=>K (.bool (if neg then !b else b)) σ
   | none=>False
 | .un op x=>ED op (x.ev e) fun v=>K v σ
 | .jW k x => match x.ev e with
   | .int _ n=>K (.int k (di k n)) σ
   | _=>False
 | .Vf x => match x.ev e with
   | .str s=>K (.str s) σ
   | _=>False
 | .Zb x => match x.ev e with
   | .str s=>s.length<=2 ^ 40/\K (.own ⟨false,1⟩ σ.length s.length 0 s.length) (σ++[.vec ⟨false,1⟩ (s.map fun b=> .int .u8 b.toNat)])
   | _=>False
 | .yE x=>(match x.ev e with | .str _=>False|_=>True)/\gC σ ⟨false,1⟩ (x.ev e) fun xs=> ∃ s:List UInt8,xs=s.map (fun b=>AV.int .u8 b.toNat)/\K (.str s) σ
 | .v7 t x=>K (.kR t (x.ev e)) σ
 | .tJ f first cap=>K (.fn f (first.map (AX.ev e)) (cap.map (AX.ev e))) σ
 | .yF x lo hi => match x.ev e with
   | .str s=>bound (hi.map (AX.ev e)) s.length s.length fun h=>bound (lo.map (AX.ev e)) 0 h fun l=>K (.str ((s.drop l).take (h-l))) σ
   | _=>False
 | .pz el x lo hi => match x.ev e with
   | .aU=>bound (hi.map (AX.ev e)) 0 0 fun h=>bound (lo.map (AX.ev e)) 0 h fun _=>K .aU σ
   | .aS _ bE xs=>bE=el/\bound (hi.map (AX.ev e)) xs.length xs.length fun h=>bound (lo.map (AX.ev e)) 0 h fun l=>K (.aS false el ((xs.drop l).take (h-l))) σ
   | .own bE l m o n => bE = el /\ match σ[l]? with
     | some (.dh T bL xs)=>bL=el/\m=xs.length/\o+n<=m/\bound (hi.map (AX.ev e)) n n fun h=>bound (lo.map (AX.ev e)) 0 h fun k=>K (.own el l m (o+k) (h-k)) σ
     | _=>False
   | _=>False
 | .rP off x => match x.ev e with
   | .ref l o=>K (.ref l (o+off)) σ
   | .eY el y o=>K (.eY el y (o+off)) σ
   | .fy el l m i o=>K (.fy el l m i (o+off)) σ
   | _=>False
 | .field ag off n x => match x.ev e with
   | .agg cs=>off+n<=cs.length/\(ag=false->n=1)/\K (if ag then .agg ((cs.drop off).take n)else cs.getD off .undef) σ
   | _=>False
 | .ff el arr x i => match i.ev e with
   | .int _ k => match arr, x.ev e with
     | none,.aS _ bE xs=>bE=el/\0<=k/\k<xs.length/\K (.eY el (xs.getD k.toNat .undef) 0) σ
     | none, .own bE l m o n => bE = el /\ 0 <= k /\ k < n /\ match σ[l]? with
       | some (.dh T bL xs)=>bL=el/\m=xs.length/\K (.fy el l m (o+k.toNat) 0) σ
       | _=>False
     | some n,.ref l o=>0<=k/\k<n/\K (.ref l (o+k.toNat*el.sz)) σ
     | some n,.eY bE y o=>0<=k/\k<n/\K (.eY bE y (o+k.toNat*el.sz)) σ
     | some n,.fy bE l m j o=>0<=k/\k<n/\K (.fy bE l m j (o+k.toNat*el.sz)) σ
     | _,_=>False
   | _=>False
 | .oR x i => match x.ev e, i.ev e with
   | .str s,.int _ k=>0<=k/\k<s.length/\K (.int .u8 (s.getD k.toNat 0).toNat) σ
   | _,_=>False
 | .yG el ln x i => match x.ev e, i.ev e with
   | .agg cs, .int _ k => 0 <= k /\ k < ln /\ (k.toNat * el.sz + el.sz <= cs.length) /\ (el.ag = false -> el.sz = 1) /\
      K (if el.ag then .agg ((cs.drop (k.toNat*el.sz)).take el.sz)else cs.getD (k.toNat*el.sz) .undef) σ
   | _,_=>False
 | .ext x i => match x.ev e with
   | .bR vs=>i<vs.length/\K (vs.getD i .undef) σ
   | _=>False
 | .call q f args => match f.ev e with
   | .fn (.func n) first cap =>
     if q then ∃ r,(∀ τ,kK P n (first++args.map (AX.ev e)++cap) (σ++ τ) r)/\K r σ
     else cK P n (first++args.map (AX.ev e)++cap) σ fun
      | .ret r,σ'=>K r σ'
      | .panic r,σ'=>Kp r σ'
   | .qR l => if q then False else wD P l (args.map (AX.ev e)) σ fun
      | .ret r,σ'=>K r σ'
      | .panic r,σ'=>Kp r σ'
   | _=>False
 | .tK f args => match f.ev e with
   | .fn (.func n) [] []=>GU P n (args.map (AX.ev e)) σ K
   | _=>False
 | .len s x => match s, x.ev e with
   | true,.str s=>K (.int .i64 s.length) σ
   | false,.aU=>K (.int .i64 0) σ
   | false,.aS _ _ xs=>K (.int .i64 xs.length) σ
   | false,.own _ _ _ _ n=>K (.int .i64 n) σ
   | _,_=>False
 | .app T el x y=>oT σ T el (x.ev e) (y.ev e) K
 | .DW el x => match x.ev e with
   | .aU=>K .ik σ
   | .own bE l m lo n => bE = el /\ match σ[l]? with
     | some (.dh _ bL xs)=>bL=el/\m=xs.length/\0<n/\K (.fy el l m lo 0) σ
     | _=>False
   | _=>False
 | .yH T x n => match x.ev e, n.ev e with
   | .ik,.int .i64 k=>k=0/\K (.str []) σ
   | .fy el l m lo off, .int .i64 k => lo = 0 /\ off = 0 /\ el = ⟨false, 1⟩ /\ match σ[l]? with
     | some (.dh T' _ xs)=>T'=some T/\m=xs.length/\0<k/\k<=xs.length/\xs.length<=2 ^ 62/\ ∃ s:List UInt8,xs.take k.toNat=s.map (fun b=>AV.int .u8 b.toNat)/\K (.str s) (σ.set l .dead)
     | _=>False
   | _,_=>False
 | .J9 x => match x.ev e with
   | .ref l off => match σ[l]? with
     | some (.bV _ cs)=>off<cs.length/\K (.ref l off) σ
     | _=>False
   | _=>False
 | .J_ u x => match x.ev e with
   | .ref l off => match σ[l]? with
     | some (.bV (some T) cs)=>liesAt P P.depth T (cs.length / P.cellsOf T) off u 1=true/\K (.ref l off) σ
     | _=>False
   | _=>False
 | .HL neg x y => match x.ev e, y.ev e with
   | .ref l o, .ref l' o' => l = l' /\ o = o' /\ match σ[l]? with
     | some (.bV _ _)=>K (.bool neg.not) σ
     | _=>False
   | _,_=>False
 | .GV f x => (∃ fn, P.funcs[f]? = some fn ∧ (fn.name == "runtime.NumGoroutine") = false ∧ fn.body.isNone = true ∧ Extern.findNext fn = none ∧ Extern.find fn = some Extern.AbiNoEscape.same) ∧ K (x.ev e) σ
 | .min x xs=>tu true (x.ev e) (xs.map (AX.ev e)) fun v=>K v σ
 | .max x xs=>tu false (x.ev e) (xs.map (AX.ev e)) fun v=>K v σ
 | .oS el zero n c => match n.ev e, c.ev e with
   | .int .i64 k,.int .i64 m=>zero.fits el=true/\0<=k/\k<=m/\m*(el.sz+1)<=2 ^ 40/\K (.own el σ.length k.toNat 0 k.toNat) (σ++[.vec el (List.replicate k.toNat zero)])
   | _,_=>False
 | .panic x => match x.ev e with
   | .kR t v=>Kp (.kR t v) σ
   | _=>False
 | .lu el=>K (.own el σ.length 0 0 0) (σ++[.vec el []])
 | .hold=>K (.ref σ.length 0) (σ++[.resv])
 | .yI T x=>(x.ev e).cells.all AV.scalar=true/\K (.ref σ.length 0) (σ++[.bV (some T) (x.ev e).cells])
 | .lp k T cs => match e k with
   | .ref n 0 => match σ[n]? with
     | some .resv=>K (.ref n 0) (σ.set n (.bV T cs))
     | _=>False
   | _=>False
 | .rQ k T el x y => match e k with
   | .ref n 0 => match σ[n]? with
     | some .resv => match ai5 el (y.ev e) with
       | some ys=>ai4 el (x.ev e)=true/\ys.all (fun a=>a.fits el)=true/\gw ys.length el/\K (.own el n ys.length 0 ys.length) (σ.set n (.dh T el ys))
       | none=>False
     | _=>False
   | _=>False
 | .rR k el zero n c => match e k with
   | .ref l 0 => match σ[l]? with
     | some .resv => match n.ev e, c.ev e with
       | .int .i64 i,.int .i64 m=>zero.fits el=true/\0<i/\i<=m/\m*(el.sz+1)<=2 ^ 40/\K (.own el l i.toNat 0 i.toNat) (σ.set l (.vec el (List.replicate i.toNat zero)))
       | _,_=>False
     | _=>False
   | _=>False
 | .IG x => match x.ev e with
   | .str s=>K (.ref σ.length 0) (σ++[.jC s 0])
   | _=>False
 | .II x => match x.ev e with
   | .ref l 0 => match σ[l]? with
     | some (.jC s pos) =>
       if pos<s.length then K (.bR [.bool true,.int .i64 pos,.int .i32 (Utf8.decode ⟨s.toArray⟩ pos).1]) (σ.set l (.jC s (pos+(Utf8.decode ⟨s.toArray⟩ pos).2)))
       else K (.bR [.bool false]) σ
     | _=>False
   | _=>False
 | .pH neg k x y => match pG k (x.ev e) (y.ev e) with
   | some b=>K (.bool (if neg then !b else b)) σ
   | none=>False
