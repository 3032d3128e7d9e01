/- Part. -/
import Derived.Test.YtdohdkdejmhgnaaGreatDoorProg
import Derived.Lib.ItoaMem
import Derived.KernelRfl
import Derived.Calls
import Derived.Orders
import Derived.Below
import Derived.RangeFuncIn
import Derived.RangeFuncLeaves
import Derived.RangeFuncRecord
import Derived.OrdersIn
set_option linter.all false
def gi{α : Sort _}(a : α): ∃ b,a=b:=⟨a,rfl⟩
def NY{p:Prop}(h:p:=by constructor<;>first|kernel_rfl|decide|(intro w;kernel_rfl)|(constructor<;>first|kernel_rfl|decide|(intro w;kernel_rfl))): p:=h
def ae{p:Prop}(h:p:=by omega): p:=h
def aT{p:Prop}(h:p:=by simp): p:=h
def dV{p:Prop}(h:p:=by decide): p:=h
def b_{p:Prop}(h:p:=by kernel_rfl): p:=h
namespace Go.Proofs
noncomputable abbrev aM:=Tryz.prog
end Go.Proofs
namespace Go
def aq:=@if_neg
def aB:=@if_pos
def aj:=@List.getD_eq_getElem?_getD
def au:=@decide_eq_true_eq
def bC:=@congrArg
def aD:=@Bool.and_eq_true
def aE:=@List.length_cons
def aV:=@Nat.le_refl
def aG:=@List.length_append
def aI:=@List.getElem?_set_ne
def aN:=@Bool.false_eq_true
def aJ:=@List.getElem?_eq_getElem
def bp:=@Nat.zero_add
def aK:=@List.getElem?_eq_some_iff
def a_:=@List.length_nil
def aO:=@List.getElem?_append_left
def bn:=@Int.cast_ofNat_Int
def bA:=@Int.natCast_add
def bJ:=@Nat.add_mul
def bt:=@List.all_eq_true
def aW:=@Option.map_eq_some_iff
def bN:=@List.map_cons
def bP:=@Nat.add_assoc
def bS:=@Nat.le_trans
def bw:=@Nat.mul_le_mul_right
def bF:=@Option.getD_some
def cD:=@Nat.zero_le
def bx:=@List.getElem?_append_right
def bI:=@List.getElem?_set_self
def cq:=@Bool.eq_iff_iff
def bU:=@Nat.lt_of_lt_of_le
def cB:=@Option.map_some
def cI:=@List.append_nil
def cJ:=@Nat.not_lt_zero
def dy:=@Nat.succ_mul
def bY:=@List.getElem_of_mem
def dP:=@Nat.add_zero
def c8:=@List.length_map
def c9:=@List.getElem_mem
def cC:=@List.getD_cons_zero
def dD:=@Bool.or_eq_true
def cz:=@List.length_replicate
def eK:=@Nat.ne_of_lt
def cP:=@List.mem_cons_of_mem
def bT:=@Array.getElem?_append_left
def bQ:=@Array.getD_eq_getD_getElem?
def dH:=@List.length_take
def cn:=@Int.eq_ofNat_of_zero_le
def eL:=@List.mem_map
def cE:=@List.getElem?_cons_zero
def cM:=@List.take_of_length_le
def dR:=@Bool.not_eq_true'
def eC:=@List.length_set
def dB:=@Array.length_toList
def cR:=@List.getElem?_cons_succ
def gN:=@Bool.not_eq_true
def fH:=@List.map_nil
def eO:=@List.mem_range
def fj:=@List.mem_cons
def dz:=@Array.getElem_eq_getD
def dX:=@List.getElem?_take
def eH:=@List.not_mem_nil
def eM:=@List.size_toArray
def dO:=@List.getElem?_toArray
def e8:=@List.length_drop
def dW:=@Array.toArray_toList
def fT:=@decide_eq_true
def ij:=@Nat.lt_irrefl
def gY:=@Bool.not_false
def gj:=@List.nil_append
def iE:=@List.set_set
def fB:=@Int.toNat_natCast
def eP:=@List.length_eq_zero_iff
def eo:=@List.getElem?_eq_none
def gk:=@List.find?_some
def dN:=@Array.getElem?_eq_some_iff
def fY:=@List.append_assoc
def gO:=@List.cons_append
def iN:=@Bool.true_and
def iy:=@Bool.false_and
def fJ:=@List.find?_eq_none
def eN:=@Array.getElem?_toList
def fK:=@List.getElem?_drop
def eJ:=@Option.isSome_iff_exists
def iu:=@Nat.mod_eq_of_lt
def fR:=@Array.getElem_modify
def eR:=@Option.bind_eq_some_iff
def fS:=@List.mem_append_left
def iw:=@Nat.le_of_not_lt
def ia:=@List.getElem?_map
def gu:=@List.getD_cons_succ
def gw:=@List.takeWhile_cons
def gP:=@Bool.false_ne_true
def hU:=@List.mem_iff_getElem
def eA:=@List.eq_nil_of_length_eq_zero
def iO:=@Array.size_append
def eW:=@Int.fdiv_eq_ediv_of_nonneg
def iL:=@List.range_eq_range'
def gy:=@List.drop_eq_getElem_cons
def eZ:=@Array.eq_empty_of_size_eq_zero
def gC:=@List.mem_of_find?_eq_some
def jf:=@List.drop_of_length_le
end Go
namespace Go.AM
def NG: List Nat:=[3]
def zY (w : World) : Prop := Lib.TabIs Go.Proofs.Tryz.prog w "internal/strconv.uint64pow10" .u64 Lib.pow10Tab
def Lr : Go.Proofs.Tryz.prog.globalNamed "internal/strconv.uint64pow10" = some 3 := b_
def zY.of_heap{w w':World}(h:zY w)(hb:∀ b ∈ NG,w'.heap[b]? = w.heap[b]?): zY w':=by
 unfold zY Lib.TabIs World.var? at *;simp only[Lr,Option.bind_some]at h |-;rw[hb 3 (by simp[NG])];exact h
structure El where
 ag:Bool
 sz:Nat
deriving DecidableEq,Inhabited,Repr
inductive AV where
 | undef
 | bool (b:Bool)
 | int (k:IntKind) (n:Int)
 | str (s:List UInt8)
 | agg (cs:List AV)
 | bg (vs:List AV)
 | aP
 | aH (full:Bool) (el:El) (xs:List AV)
 | own (el:El) (l m lo n:Nat)
 | ref (l off:Nat)
 | cN (el:El) (x:AV) (off:Nat)
 | dw (el:El) (l m i off:Nat)
 | ew
 | ld
 | eG
 | fn (f:Fn) (first cap:List AV)
 | iS (t:TypeId) (v:AV)
 | iU
 | mp (l:Nat)
 | lW (l:Nat)
 | lX (el:El) (p:AV) (n:Nat)
 | lf
deriving Inhabited
def AV.scalar: AV->Bool
 | .agg _ | .bg _ | .undef=>false
 | _=>true
def AV.cell: AV->Nat->AV
 | .agg cs,i=>cs.getD i .undef
 | v,_=>v
def AV.cells: AV->List AV
 | .agg cs=>cs
 | v=>[v]
def AV.fits(el:El): AV->Bool
 | .agg cs=>el.ag && cs.length==el.sz && cs.all AV.scalar
 | .bg _ | .undef=>false
 | _=> !el.ag && el.sz==1
structure aC where
 eS:Nat->Prop
 n:Nat
 ver:Nat->Nat
 base:Nat->Option Nat
 cap:Nat->Nat
 off:Nat->Nat
def dn(w:World)(a:Addr): Value:=(w.cell? a).getD undef
def aj9(g:aC)(el:El)(l m lo n:Nat)(v:Value): Prop :=
 l < g.n /\ m <= g.ver l /\ ∃ A cap, v = .slice A n cap /\ (m = g.ver l -> lo + n <= m /\ cap + lo = g.cap l /\
   (lo<g.cap l->A=(g.base l).map fun b=>⟨b,g.off l+lo*el.sz,none⟩))
def aj_(g:aC)(l off:Nat)(v:Value): Prop :=
 (l<g.n/\1<=g.ver l)/\ ∃ A,v = .pointer (some A)/\(g.ver l=1->g.base l=some A.block/\A=⟨A.block,off,none⟩)
def aib(g:aC)(el:El)(l m i off:Nat)(v:Value): Prop :=
 l<g.n/\m<=g.ver l/\ ∃ A,v = .pointer (some A)/\(m=g.ver l->g.base l=some A.block/\A=⟨A.block,g.off l+i*el.sz+off,none⟩)
def MpP(g:aC)(l:Nat)(v:Value): Prop :=
 l<g.n/\ ∃ b,v = .map (some b)/\(g.ver l=0->g.base l=some b)
def akb(g:aC)(l:Nat)(v:Value): Prop :=
 l<g.n/\ ∃ b,v = .func (.yield b) #[] #[]/\(g.ver l=0->g.base l=some b)
inductive VR (g:aC) (w:World):AV->Value->Prop where
 | undef (v:Value):VR g w .undef v
 | bool (b:Bool):VR g w (.bool b) (.bool b)
 | int (k:IntKind) (n:Int):VR g w (.int k n) (.int k n)
 | str (s:List UInt8):VR g w (.str s) (.string ⟨s.toArray⟩)
 | agg (cs : List AV) (vs : Array Value) (hl : cs.length = vs.size) (hs : cs.all AV.scalar = true)
    (h:∀ i,i<cs.length->VR g w (cs.getD i .undef) (vs.getD i Go.undef)):VR g w (.agg cs) (.agg vs)
 | bg (cs : List AV) (vs : Array Value) (hl : cs.length = vs.size)
    (h:∀ i,i<cs.length->VR g w (cs.getD i .undef) (vs.getD i Go.undef)):VR g w (.bg cs) (.tuple vs)
 | aP:VR g w .aP (.slice none 0 0)
 | iz (f:Bool) (el:El) (b:Option Addr) (cap:Nat) (hf:f=true->cap=0):VR g w (.aH f el []) (.slice b 0 cap)
 | aH (f : Bool) (el : El) (xs : List AV) (b off cap : Nat) (hi : g.eS b) (hf : f = true -> cap = xs.length) (hx : xs.length <= cap)
    (ft:∀ i,i<xs.length->(xs.getD i .undef).fits el=true)
    (hc:∀ i c,i<xs.length->c<el.sz->(w.cell? ⟨b,off+(i*el.sz+c),none⟩).isSome=true)
    (h:∀ i c,i<xs.length->c<el.sz->VR g w ((xs.getD i .undef).cell c) (dn w ⟨b,off+(i*el.sz+c),none⟩)) :
    VR g w (.aH f el xs) (.slice (some ⟨b,off,none⟩) xs.length cap)
 | own (el:El) (l m lo n:Nat) (v:Value) (h:aj9 g el l m lo n v):VR g w (.own el l m lo n) v
 | ref (l off:Nat) (v:Value) (h:aj_ g l off v):VR g w (.ref l off) v
 | cN (el : El) (x : AV) (off b o : Nat) (hi : g.eS b) (ft : x.fits el = true)
    (hc:∀ c,c<el.sz->(w.cell? ⟨b,o+c,none⟩).isSome=true)
    (h:∀ c,c<el.sz->VR g w (x.cell c) (dn w ⟨b,o+c,none⟩)) :
    VR g w (.cN el x off) (.pointer (some ⟨b,o+off,none⟩))
 | dw (el:El) (l m i off:Nat) (v:Value) (h:aib g el l m i off v):VR g w (.dw el l m i off) v
 | ew:VR g w .ew (.pointer none)
 | ld:VR g w .ld .nilFunc
 | eG:VR g w .eG .nilIface
 | fn (f : Fn) (first cap : List AV) (first' cap' : Array Value) (hl : first.length = first'.size) (hl' : cap.length = cap'.size)
    (h:∀ i,i<first.length->VR g w (first.getD i .undef) (first'.getD i Go.undef))
    (h':∀ i,i<cap.length->VR g w (cap.getD i .undef) (cap'.getD i Go.undef)):VR g w (.fn f first cap) (.func f first' cap')
 | iS (t:TypeId) (a:AV) (v:Value) (h:VR g w a v):VR g w (.iS t a) (.iface t v)
 | iU:VR g w .iU (.map none)
 | mp (l:Nat) (v:Value) (h:MpP g l v):VR g w (.mp l) v
 | lW (l:Nat) (v:Value) (h:akb g l v):VR g w (.lW l) v
 | lf (v:Value) (h:v.oneCell'=true):VR g w .lf v
 | lX (el:El) (p:AV) (n:Nat) (A:Addr) (cap:Nat) (hn:0<n) (hc:n<=cap) (h:VR g w p (.pointer (some A))):VR g w (.lX el p n) (.slice (some A) n cap)
structure jQ (g:aC) (w:World) (g':aC) (w':World):Prop where
 eS:∀ b,g.eS b->g'.eS b/\w'.heap[b]? = w.heap[b]?
 n:g.n<=g'.n
 ver:∀ l,l<g.n->g.ver l<=g'.ver l/\(g'.ver l=g.ver l->g'.base l=g.base l/\g'.cap l=g.cap l/\g'.off l=g.off l)
def jQ.refl(g:aC)(w:World): jQ g w g w:=⟨fun _ h=>⟨h,rfl⟩,aV _,fun _ _=>⟨aV _,fun _=>⟨rfl,rfl,rfl⟩⟩⟩
def jQ.trans{g1 g2 g3:aC}{w1 w2 w3:World}(h:jQ g1 w1 g2 w2)(k:jQ g2 w2 g3 w3): jQ g1 w1 g3 w3:=by
 refine⟨fun b hb=>?_,bS h.n k.n,fun l hl=>?_⟩
 ·obtain⟨h1,h2⟩:=h.eS b hb;obtain⟨h3,h4⟩:=k.eS b h1;exact⟨h3,h4.trans h2⟩
 obtain⟨a1,a2⟩:=h.ver l hl;obtain⟨b1,b2⟩:=k.ver l (bU hl h.n);refine⟨bS a1 b1,fun e=>?_⟩;have e1:g2.ver l=g1.ver l:=ae;have e2:g3.ver l=g2.ver l:=ae;exact⟨(b2 e2).1.trans (a2 e1).1,(b2 e2).2.1.trans (a2 e1).2.1,(b2 e2).2.2.trans (a2 e1).2.2⟩
def mC{w w':World}{b:Nat}(h:w'.heap[b]? = w.heap[b]?)(o:Nat)(s:Option Nat): w'.cell? ⟨b,o,s⟩=w.cell? ⟨b,o,s⟩:=by
 simp only[World.cell?,h]
def yo{w w':World}{b:Nat}(h:w'.heap[b]? = w.heap[b]?)(o:Nat)(s:Option Nat): w'.frozen? ⟨b,o,s⟩=w.frozen? ⟨b,o,s⟩:=by
 simp only[World.frozen?,h]
def qX{w w':World}{b:Nat}(h:w'.heap[b]? = w.heap[b]?)(o:Nat)(s:Option Nat): dn w' ⟨b,o,s⟩=dn w ⟨b,o,s⟩:=by
 simp only[dn,mC h]
def VR.mono{g g':aC}{w w':World}(hm:jQ g w g' w'){a:AV}{v:Value}(h:VR g w a v): VR g' w' a v:=by
 induction h with
 | undef v=>exact .undef v
 | bool b=>exact .bool b
 | int k n=>exact .int k n
 | str s=>exact .str s
 | agg cs vs hl hs _ ih=>exact .agg cs vs hl hs ih
 | bg cs vs hl _ ih=>exact .bg cs vs hl ih
 | aP=>exact .aP
 | iz f el b cap hf=>exact .iz f el b cap hf
 | aH f el xs b off cap hi hf hx ft hc _ ih =>
   obtain⟨hi',he⟩:=hm.eS b hi;refine .aH f el xs b off cap hi' hf hx ft (fun i c h1 h2=>?_) (fun i c h1 h2=>?_)
   ·rw[mC he];exact hc i c h1 h2
   rw[qX he];exact ih i c h1 h2
 | own el l m lo n v h =>
   obtain⟨h1,h2,A,cap,h3,h4⟩:=h;obtain⟨v1,v2⟩:=hm.ver l h1;refine .own el l m lo n v ⟨bU h1 hm.n,bS h2 v1,A,cap,h3,fun e=>?_⟩;have e1:g'.ver l=g.ver l:=ae;obtain⟨b1,b2,b3⟩:=v2 e1;rw[b1,b2,b3];exact h4 ae
 | ref l off v h =>
   obtain⟨⟨h1,h0⟩,A,h2,h3⟩:=h;obtain⟨v1,v2⟩:=hm.ver l h1;refine .ref l off v ⟨⟨bU h1 hm.n,bS h0 v1⟩,A,h2,fun e=>?_⟩;have e1:g'.ver l=g.ver l:=ae;rw[(v2 e1).1];exact h3 ae
 | cN el x off b o hi ft hc _ ih =>
   obtain⟨hi',he⟩:=hm.eS b hi;refine .cN el x off b o hi' ft (fun c h2=>?_) (fun c h2=>?_)
   ·rw[mC he];exact hc c h2
   rw[qX he];exact ih c h2
 | dw el l m i off v h =>
   obtain⟨h1,h2,A,h3,h4⟩:=h;obtain⟨v1,v2⟩:=hm.ver l h1;refine .dw el l m i off v ⟨bU h1 hm.n,bS h2 v1,A,h3,fun e=>?_⟩;have e1:g'.ver l=g.ver l:=ae;rw[(v2 e1).1,(v2 e1).2.2];exact h4 ae
 | ew=>exact .ew
 | ld=>exact .ld
 | eG=>exact .eG
 | fn f first cap first' cap' hl hl' _ _ ih Dh=>exact .fn f first cap first' cap' hl hl' ih Dh
 | iS t a v _ ih=>exact .iS t a v ih
 | iU=>exact .iU
 | lf v h=>exact .lf v h
 | mp l v h =>
   obtain⟨h1,b,h2,h3⟩:=h;obtain⟨v1,v2⟩:=hm.ver l h1;refine .mp l v ⟨bU h1 hm.n,b,h2,fun e=>?_⟩;have e1:g'.ver l=g.ver l:=ae;rw[(v2 e1).1];exact h3 ae
 | lW l v h =>
   obtain⟨h1,b,h2,h3⟩:=h;obtain⟨v1,v2⟩:=hm.ver l h1;refine .lW l v ⟨bU h1 hm.n,b,h2,fun e=>?_⟩;have e1:g'.ver l=g.ver l:=ae;rw[(v2 e1).1];exact h3 ae
 | lX el p n A cap hn hc _ ih=>exact .lX el p n A cap hn hc ih
def VR.Fu{g:aC}{w:World}{a:AV}{v:Value}(h:VR g w a v)(hs:a.scalar=true): v.oneCell'=true:=by
 cases h<;>first
  | rfl
  |(simp[AV.scalar]at hs;done)
  | skip
 case own h=>obtain⟨_,_,A,cap,rfl,_⟩:=h;rfl
 case ref h=>obtain⟨_,A,rfl,_⟩:=h;rfl
 case dw h=>obtain⟨_,_,A,rfl,_⟩:=h;rfl
 case mp h=>obtain⟨_,A,rfl,_⟩:=h;rfl
 case lf h=>exact h
 case lW h=>obtain⟨_,A,rfl,_⟩:=h;rfl
inductive bG where
 | bH (T:Option TypeId) (cs:List AV)
 | bW (T:Option TypeId) (el:El) (xs:List AV)
 | fZ (s:List UInt8) (pos:Nat)
 | map (es:List (AV × AV))
 | loop (nt:Nat) (e:Nat->AV) (ps:Array Tmp) (assign body:Code) (st:LoopState) (an8:Option Code)
 | dead
 | resv
deriving Inhabited
abbrev bG.cells(cs:List AV): bG:= .bH none cs
abbrev bG.vec(el:El)(xs:List AV): bG:= .bW none el xs
def tf(w:World)(b n:Nat): Option TypeId->Prop
 | none=>True
 | some T=>w.shape? b=some (T,n)
def tf.of_heap{w w':World}{b n:Nat}{T:Option TypeId}(h:tf w b n T)(he:w'.heap[b]? = w.heap[b]?): tf w' b n T:=by
 cases T with
 | none=>trivial
 | some T=>simp only[tf,World.shape?]at *;rw[he];exact h
def RN(w:World)(b n o:Nat): Option TypeId->Prop
 | none=>True
 | some T=>w.shape? b=some (T,n)/\o=0
def RN.of_heap{w w':World}{b n o:Nat}{T:Option TypeId}(h:RN w b n o T)(he:w'.heap[b]? = w.heap[b]?): RN w' b n o T:=by
 cases T with
 | none=>trivial
 | some T=>simp only[RN,World.shape?]at *;rw[he];exact h
def tf.v{w:World}{b n:Nat}{T:Option TypeId}(h:tf w b n T): RN w b n 0 T:=by
 cases T with
 | none=>trivial
 | some T=>exact⟨h,rfl⟩
abbrev ai:=List bG
def bG.live: bG->Bool
 | .dead=>false
 | _=>true
def Live(σ : ai)(l:Nat): Prop:= ∃ o,σ[l]? = some o/\o.live=true
def kD(σ : ai)(g:aC)(b:Nat): Prop:= ∃ l,Live σ l/\g.base l=some b
def Row(w:World)(b:Nat)(vs:Array Value): Prop :=
 ∃ T fz,w.heap[b]? = some (.cells vs T fz)/\ ∀ i,i<vs.size->w.frozen? ⟨b,i,none⟩=false
def qF(el:El)(w:World)(b:Nat)(vs:Array Value): Prop:=Row w b vs/\(el.ag=true-> ∀ i,w.frozen? ⟨b,i,none⟩=false)
def bG.Ok(g:aC)(w:World)(l:Nat): bG->Prop
 | .bH T cs => g.ver l = 1 /\ cs.all AV.scalar = true /\ ∃ b vs, g.base l = some b /\ Row w b vs /\ vs.size = cs.length /\
    (∀ i,i<cs.length->VR g w (cs.getD i .undef) (vs.getD i Go.undef))/\tf w b cs.length T
 | .bW T el xs => g.ver l = xs.length /\ (∀ i, i < xs.length -> (xs.getD i .undef).fits el = true) /\
    ((xs = [] /\ g.base l = none /\ g.cap l = 0 /\ g.off l = 0) \/
      ∃ b vs, g.base l = some b /\ qF el w b vs /\ vs.size = g.off l + g.cap l * el.sz /\ xs.length <= g.cap l /\
        (∀ i c,i<xs.length->c<el.sz->VR g w ((xs.getD i .undef).cell c) (vs.getD (g.off l+i*el.sz+c) Go.undef))/\RN w b vs.size (g.off l) T)
 | .fZ s pos=>g.ver l=1/\ ∃ b,g.base l=some b/\w.heap[b]? = some (.stringIter ⟨s.toArray⟩ pos)
 | .map es => g.ver l = 0 /\ ∃ b ms clock, g.base l = some b /\ w.heap[b]? = some (.map ms clock) /\ ms.size = es.length /\ (clock = es.length /\ ∀ i, i < es.length -> (ms.getD i default).born = i) /\
    ∀ i,i<es.length->VR g w (es.getD i default).1 (ms.getD i default).key/\VR g w (es.getD i default).2 (ms.getD i default).val
 | .loop nt e ps ca cb st pe => g.ver l = 0 /\ ∃ b rec, g.base l = some b /\ w.heap[b]? = some (.loop rec) /\ rec.params = ps /\ rec.assign = ca /\ rec.body = cb /\ rec.state = st /\ rec.pending = pe /\
    rec.tmps.size=nt/\ ∀ t,t<nt->VR g w (e t) (rec.tmps.getD t Go.undef)
 | .dead=>True
 | .resv=>g.ver l=0/\g.base l=none/\g.cap l=0/\g.off l=0
def yp(g:aC)(w:World): Prop:=(∀ b ∈ NG,g.eS b)/\zY w
def yp.mono{g g':aC}{w w':World}(h:yp g w)(hm:∀ b,g.eS b->g'.eS b/\w'.heap[b]? = w.heap[b]?): yp g' w' :=
 ⟨fun b hb=>(hm b (h.1 b hb)).1,h.2.of_heap fun b hb=>(hm b (h.1 b hb)).2⟩
structure Rel (g:aC) (w:World) (σ : ai):Prop where
 len : σ.length=g.n
 lt:∀ b,g.eS b->b<w.heap.size
 ok:∀ (l:Nat) (o:bG),σ[l]? = some o->o.Ok g w l
 inj:∀ l l' b,Live σ l->Live σ l'->g.base l=some b->g.base l'=some b->l=l'
 qy:∀ l b,Live σ l->g.base l=some b->¬ g.eS b
 glob:yp g w
structure ep (σ : ai) (g:aC) (w:World) (σ':ai) (g':aC) (w':World):Prop where
 mono:jQ g w g' w'
 size:w.heap.size<=w'.heap.size
 os:w'.os=w.os
 tape:w'.tape=w.tape
 output:w'.output=w.output
 frame:∀ b,b<w.heap.size->¬ kD σ g b->w'.heap[b]? = w.heap[b]?
 uD:∀ b,b<w.heap.size->g'.eS b->g.eS b\/kD σ g b
 Di:∀ b,b<w.heap.size->kD σ' g' b->kD σ g b
def ep.refl(σ : ai)(g:aC)(w:World): ep σ g w σ g w :=
 ⟨.refl _ _,aV _,rfl,rfl,rfl,fun _ _ _=>rfl,fun _ _ h=> .inl h,fun _ _ h=>h⟩
def ep.trans{σ1 σ2 σ3:ai}{g1 g2 g3:aC}{w1 w2 w3:World}(h:ep σ1 g1 w1 σ2 g2 w2)(k:ep σ2 g2 w2 σ3 g3 w3): ep σ1 g1 w1 σ3 g3 w3:=by
 refine⟨h.mono.trans k.mono,bS h.size k.size,k.os.trans h.os,k.tape.trans h.tape,k.output.trans h.output,fun b hb ht=>?_,fun b hb hi=>?_,fun b hb ht=>?_⟩
 ·rw[k.frame b (bU hb h.size) (fun t=>ht (h.Di b hb t)),h.frame b hb ht]
 ·rcases k.uD b (Nat.lt_of_lt_of_le hb h.size) hi with h1|h1
  ·exact h.uD b hb h1
  exact .inr (h.Di b hb h1)
 exact h.Di b hb (k.Di b (bU hb h.size) ht)
def ep.drew(σ : ai)(g:aC)(w:World)(d:Nat): ep σ g w σ g { w with drawn:=d } :=
 ⟨⟨fun _ h=>⟨h,rfl⟩,aV _,fun _ _=>⟨aV _,fun _=>⟨rfl,rfl,rfl⟩⟩⟩,aV _,rfl,rfl,rfl,fun _ _ _=>rfl,fun _ _ h=> .inl h,fun _ _ h=>h⟩
def Row.lt{w:World}{b:Nat}{vs:Array Value}(h:Row w b vs): b<w.heap.size:=by
 obtain⟨T,fz,h,_⟩:=h;exact(dN.1 h).1
def Row.of_heap{w w':World}{b:Nat}{vs:Array Value}(h:Row w b vs)(he:w'.heap[b]? = w.heap[b]?): Row w' b vs:=by
 obtain⟨T,fz,h,hf⟩:=h;exact⟨T,fz,he.trans h,fun i hi=>(yo he i none).trans (hf i hi)⟩
def Row.cell{w:World}{b:Nat}{vs:Array Value}(h:Row w b vs){i:Nat}(hi:i<vs.size): w.cell? ⟨b,i,none⟩=some (vs.getD i Go.undef):=by
 obtain⟨T,fz,h,_⟩:=h;simp[World.cell?,h,hi]
def qF.lt{el:El}{w:World}{b:Nat}{vs:Array Value}(h:qF el w b vs): b<w.heap.size:=h.1.lt
def qF.of_heap{el:El}{w w':World}{b:Nat}{vs:Array Value}(h:qF el w b vs)(he:w'.heap[b]? = w.heap[b]?): qF el w' b vs :=
 ⟨h.1.of_heap he,fun e i=>(yo he i none).trans (h.2 e i)⟩
def qF.cell{el:El}{w:World}{b:Nat}{vs:Array Value}(h:qF el w b vs){i:Nat}(hi:i<vs.size): w.cell? ⟨b,i,none⟩=some (vs.getD i Go.undef):=h.1.cell hi
def bG.Ok.step {g g' : aC} {w w' : World} {l : Nat} {o : bG} (h : o.Ok g w l) (hm : jQ g w g' w') (hl : l < g.n)
    (hv:g'.ver l=g.ver l) (hb:∀ b,g.base l=some b->w'.heap[b]? = w.heap[b]?):o.Ok g' w' l:=by
 obtain⟨e1,e2,e3⟩:=(hm.ver l hl).2 hv;cases o with
 | bH T cs =>
   obtain⟨h1,hs,b,vs,h2,h3,h4,h5,h6⟩:=h;exact⟨hv.trans h1,hs,b,vs,e1.trans h2,h3.of_heap (hb b h2),h4,fun i hi=>(h5 i hi).mono hm,h6.of_heap (hb b h2)⟩
 | bW T el xs =>
   obtain⟨h1,hf,h2⟩:=h;refine⟨hv.trans h1,hf,?_⟩;rcases h2 with⟨h2,h3,h4⟩|⟨b,vs,h2,h3,h4,h5,h6,h7⟩
   ·exact .inl ⟨h2,e1.trans h3,e2.trans h4.1,e3.trans h4.2⟩
   exact .inr ⟨b,vs,e1.trans h2,h3.of_heap (hb b h2),by rw[e2,e3];exact h4,by rw[e2];exact h5,fun i c hi hc=>by rw[e3];exact(h6 i c hi hc).mono hm,by rw[e3];exact h7.of_heap (hb b h2)⟩
 | fZ s pos =>
   obtain⟨h1,b,h2,h3⟩:=h;exact⟨hv.trans h1,b,e1.trans h2,(hb b h2).trans h3⟩
 | map es =>
   obtain⟨h1,b,ms,clock,h2,h3,h4,h6,h5⟩:=h;exact⟨hv.trans h1,b,ms,clock,e1.trans h2,(hb b h2).trans h3,h4,h6,fun i hi=>⟨(h5 i hi).1.mono hm,(h5 i hi).2.mono hm⟩⟩
 | loop nt e ps ca cb st pe =>
   obtain⟨h1,b,rec,h2,h3,h4,h5,h6,h7,h8,h9,h10⟩:=h;exact⟨hv.trans h1,b,rec,e1.trans h2,(hb b h2).trans h3,h4,h5,h6,h7,h8,h9,fun t ht=>(h10 t ht).mono hm⟩
 | dead=>trivial
 | resv=>exact⟨hv.trans h.1,e1.trans h.2.1,e2.trans h.2.2.1,e3.trans h.2.2.2⟩
def Rel.kK{g:aC}{w:World}{σ : ai}(h:Rel g w σ){l b:Nat}(hl:Live σ l)(hb:g.base l=some b): b<w.heap.size:=by
 obtain⟨o,ho,hv⟩:=hl;have:=h.ok l o ho;cases o with
 | bH T cs=>obtain⟨_,_,b',vs,h2,h3,_⟩:=this;rw[hb]at h2;cases h2;exact h3.lt
 | bW T el xs =>
   obtain⟨_,_,h2⟩:=this;rcases h2 with⟨_,h3,_⟩|⟨b',vs,h2,h3,_⟩
   ·rw[hb]at h3;cases h3
   rw[hb]at h2;cases h2;exact h3.lt
 | fZ s pos=>obtain⟨_,b',h2,h3⟩:=this;rw[hb]at h2;cases h2;exact(Array.getElem?_eq_some_iff.1 h3).1
 | map es=>obtain⟨_,b',_,_,h2,h3,_⟩:=this;rw[hb]at h2;cases h2;exact(Array.getElem?_eq_some_iff.1 h3).1
 | loop nt e ps ca cb st pe=>obtain⟨_,b',_,h2,h3,_⟩:=this;rw[hb]at h2;cases h2;exact(Array.getElem?_eq_some_iff.1 h3).1
 | dead=>simp[bG.live]at hv
 | resv=>rw[this.2.1]at hb;cases hb
def Rel.rU{g:aC}{w:World}{σ : ai}(h:Rel g w σ){b:Nat}(ht:kD σ g b): b<w.heap.size :=
 let ⟨_,hl,hb⟩:=ht;h.kK hl hb
def Live.lt{σ : ai}{l:Nat}(h:Live σ l): l < σ.length:=by
 obtain⟨o,ho,_⟩:=h;exact(aK.1 ho).1
def heap_alloc_old(w:World)(o:Obj){b:Nat}(h:b<w.heap.size): (w.alloc o).heap[b]? = w.heap[b]?:=by
 exact Go.RowKit.Below.heap_alloc w o b h
def heap_alloc_new(w:World)(o:Obj): (w.alloc o).heap[w.heap.size]? = some o:=by
 show(w.heap.push o)[w.heap.size]? = _;simp
def Rel.drew{g:aC}{w:World}{σ : ai}(h:Rel g w σ)(d:Nat): Rel g { w with drawn:=d } σ :=
 ⟨h.len,h.lt,fun l o ho=>(h.ok l o ho).step (ep.drew σ g w d).mono (by rw[<-h.len];exact(aK.1 ho).1) rfl (fun _ _=>rfl),h.inj,h.qy,h.glob.mono fun _ hb=>⟨hb,rfl⟩⟩
def aC.oE(g:aC)(b:Nat): aC:= { g with eS:=fun c=>g.eS c\/c=b }
def aC.push(g:aC)(v:Nat)(b:Option Nat)(c:Nat)(o:Nat:=0): aC :=
 { g with n:=g.n+1,off:=fun l=>if l=g.n then o else g.off l,ver:=fun l=>if l=g.n then v else g.ver l,base:=fun l=>if l=g.n then b else g.base l,cap:=fun l=>if l=g.n then c else g.cap l }
def tg(g:aC)(w:World)(o:Obj)(hlt:∀ b,g.eS b->b<w.heap.size): jQ g w (g.oE w.heap.size) (w.alloc o) :=
 ⟨fun b h=>⟨.inl h,heap_alloc_old w o (hlt b h)⟩,aV _,fun _ _=>⟨aV _,fun _=>⟨rfl,rfl,rfl⟩⟩⟩
def kj(g:aC)(w:World)(o:Obj)(v:Nat)(b:Option Nat)(c:Nat)(hlt:∀ b,g.eS b->b<w.heap.size): jQ g w (g.push v b c) (w.alloc o) :=
 ⟨fun b h => ⟨h, heap_alloc_old w o (hlt b h)⟩, Nat.le_succ _, fun l hl => by
   have:l≠g.n:=eK hl;simp[aC.push,this]⟩
def Rel.NZ{g:aC}{w:World}{σ : ai}(h:Rel g w σ)(o:Obj): Rel (g.oE w.heap.size) (w.alloc o) σ/\ep σ g w σ (g.oE w.heap.size) (w.alloc o):=by
 have hm:=tg g w o h.lt;refine⟨⟨h.len,fun b hb=>?_,fun l o' ho=>?_,h.inj,fun l b hl hb hi=>?_,h.glob.mono hm.eS⟩,⟨hm,aT,rfl,rfl,rfl,fun b hb _=>heap_alloc_old w o hb,fun b hb hi=>?_,fun b _ ht=>ht⟩⟩
 ·rcases hb with hb|rfl
  ·have:=h.lt b hb;simp;omega
  simp
 ·have hl:l<g.n:=by rw[<-h.len];exact(aK.1 ho).1
  by_cases hv:o'.live=true
  ·exact(h.ok l o' ho).step hm hl rfl (fun b hb=>heap_alloc_old w o (h.kK ⟨o',ho,hv⟩ hb))
  ·cases o'<;>simp[bG.live]at hv;trivial
 ·rcases hi with hi|rfl
  ·exact h.qy l b hl hb hi
  exact absurd (h.kK hl hb) (ij _)
 rcases hi with hi|rfl
 ·exact .inl hi
 exact absurd hb (ij _)
def mZ{σ : ai}{o:bG}{l:Nat}(h:Live (σ++[o]) l): Live σ l\/l = σ.length:=by
 obtain⟨o',ho,hv⟩:=h;by_cases hl:l < σ.length
 ·exact .inl ⟨o',by rwa[aO hl]at ho,hv⟩
 have:=(aK.1 ho).1;simp at this;exact .inr ae
def Rel.Yr{g:aC}{w:World}{σ : ai}(h:Rel g w σ)(o:Obj): Rel g (w.alloc o) σ/\ep σ g w σ g (w.alloc o):=by
 have hm:jQ g w g (w.alloc o):=⟨fun b hb=>⟨hb,heap_alloc_old w o (h.lt b hb)⟩,aV _,fun _ _=>⟨aV _,fun _=>⟨rfl,rfl,rfl⟩⟩⟩
 refine⟨⟨h.len,fun b hb=>by have:=h.lt b hb;simp;omega,fun l o' ho=>?_,h.inj,h.qy,h.glob.mono hm.eS⟩,
  ⟨hm,aT,rfl,rfl,rfl,fun b hb _=>heap_alloc_old w o hb,fun b hb hi=> .inl hi,fun b hb ht=>ht⟩⟩
 have hl:l<g.n:=by rw[<-h.len];exact(aK.1 ho).1
 by_cases hv:o'.live=true
 ·exact(h.ok l o' ho).step hm hl rfl (fun b hb=>heap_alloc_old w o (h.kK ⟨o',ho,hv⟩ hb))
 ·cases o'<;>simp[bG.live]at hv;trivial
def Rel.adb {g0 g : aC} {w0 w w' : World} {lY σ : ai} {D : Nat} (h : Rel g w σ) (fX : ep lY g0 w0 σ g w) (hD : w0.heap.size <= D) (ht : ¬ kD σ g D) (hi : ¬ g.eS D)
    (hsz:w'.heap.size=w.heap.size) (hos:w'.os=w.os) (rV:w'.tape=w.tape) (hout:w'.output=w.output) (mu:∀ c,c≠D->w'.heap[c]? = w.heap[c]?) :
    Rel g w' σ/\ep lY g0 w0 σ g w'/\jQ g w g w':=by
 have hm:jQ g w g w':=⟨fun b hb=>⟨hb,mu b (fun e=>hi (e ▸ hb))⟩,aV _,fun _ _=>⟨aV _,fun _=>⟨rfl,rfl,rfl⟩⟩⟩
 refine⟨⟨h.len,fun b hb=>by rw[hsz];exact h.lt b hb,fun l o' ho=>?_,h.inj,h.qy,h.glob.mono hm.eS⟩,
  ⟨fX.mono.trans hm,by rw[hsz];exact fX.size,hos.trans fX.os,rV.trans fX.tape,hout.trans fX.output,fun b hb hnt=>(mu b ae).trans (fX.frame b hb hnt),fX.uD,fX.Di⟩,hm⟩
 have hl:l<g.n:=by rw[<-h.len];exact(aK.1 ho).1
 by_cases hv:o'.live=true
 ·exact(h.ok l o' ho).step hm hl rfl (fun b hb=>mu b (fun e=>ht ⟨l,⟨o',ho,hv⟩,e ▸ hb⟩))
 ·cases o'<;>simp[bG.live]at hv;trivial
def Rel.pG {g : aC} {w : World} {σ : ai} (h : Rel g w σ) (o : Obj) (ao : bG) (v c : Nat)
    (hok:ao.Ok (g.push v (some w.heap.size) c) (w.alloc o) g.n) :
    Rel (g.push v (some w.heap.size) c) (w.alloc o) (σ++[ao])/\ep σ g w (σ++[ao]) (g.push v (some w.heap.size) c) (w.alloc o):=by
 have hm:=kj g w o v (some w.heap.size) c h.lt;have hbase:∀ l,l<g.n->(g.push v (some w.heap.size) c).base l=g.base l:=fun l hl=>by simp[aC.push,eK hl]
 have hnew:(g.push v (some w.heap.size) c).base g.n=some w.heap.size:=by simp[aC.push]
 have hold:∀ l b,Live σ l->(g.push v (some w.heap.size) c).base l=some b->g.base l=some b/\b<w.heap.size:=fun l b hl hb=>by
  rw[hbase l (by rw[<-h.len];exact hl.lt)]at hb;exact⟨hb,h.kK hl hb⟩
 refine⟨⟨by simp[aC.push,h.len],fun b hb=>by have:=h.lt b hb;simp;omega,fun l o' ho=>?_,fun l l' b hl hl' hb hb'=>?_,fun l b hl hb hi=>?_,h.glob.mono hm.eS⟩,
  ⟨hm,aT,rfl,rfl,rfl,fun b hb _=>heap_alloc_old w o hb,fun b hb hi=> .inl hi,fun b hb ht=>?_⟩⟩
 ·by_cases hl:l < σ.length
  ·rw[aO hl]at ho;have hl':l<g.n:=by rw[<-h.len];exact hl
   by_cases hv:o'.live=true
   ·refine(h.ok l o' ho).step hm hl' (by simp[aC.push,eK hl']) (fun b hb=>heap_alloc_old w o (h.kK ⟨o',ho,hv⟩ hb))
   ·cases o'<;>simp[bG.live]at hv;trivial
  have h1:=(aK.1 ho).1;simp at h1;have h2:l = σ.length:=ae;subst h2;simp at ho;subst ho;rw[h.len];exact hok
 ·rcases mZ hl with hl|rfl<;>rcases mZ hl' with hl'|rfl
  ·exact h.inj l l' b hl hl' (hold l b hl hb).1 (hold l' b hl' hb').1
  ·have:=(hold l b hl hb).2;rw[h.len,hnew]at hb';cases hb';exact absurd this (ij _)
  ·have:=(hold l' b hl' hb').2;rw[h.len,hnew]at hb;cases hb;exact absurd this (ij _)
  rfl
 ·rcases mZ hl with hl|rfl
  ·exact h.qy l b hl (hold l b hl hb).1 hi
  rw[h.len,hnew]at hb;cases hb;exact absurd (h.lt _ hi) (ij _)
 obtain⟨l,hl,hb'⟩:=ht;rcases mZ hl with hl|rfl
 ·exact⟨l,hl,(hold l b hl hb').1⟩
 rw[h.len,hnew]at hb';cases hb';exact absurd hb (ij _)
def aC.reset(g:aC)(l v:Nat)(b:Option Nat)(c:Nat)(o:Nat:=0): aC :=
 { g with off:=fun k=>if k=l then o else g.off k,ver:=fun k=>if k=l then v else g.ver k,base:=fun k=>if k=l then b else g.base k,cap:=fun k=>if k=l then c else g.cap k }
def kL{σ : ai}{l k:Nat}{o:bG}(h:Live (σ.set l o) k): (k=l/\l < σ.length/\o.live=true)\/(k≠l/\Live σ k):=by
 obtain⟨o',ho,hv⟩:=h;by_cases hk:k=l
 ·subst hk;have hlt:=(aK.1 ho).1;simp at hlt;simp[hlt]at ho;exact .inl ⟨rfl,hlt,ho ▸ hv⟩
 rw[aI (Ne.symm hk)]at ho;exact .inr ⟨hk,o',ho,hv⟩
def Rel.change {g : aC} {w w' : World} {σ : ai} {l : Nat} {o o' : bG} (h : Rel g w σ) (hl : σ[l]? = some o) (ho : o.live = true)
    (v:Nat) (nb:Option Nat) (c:Nat) (fo:Nat) (hv:g.ver l<=v) (hvb:v=g.ver l->nb=g.base l/\c=g.cap l/\fo=g.off l)
    (hsz:w.heap.size<=w'.heap.size) (hos:w'.os=w.os) (rV:w'.tape=w.tape) (hout:w'.output=w.output)
    (mu:∀ b,b<w.heap.size->g.base l≠some b->w'.heap[b]? = w.heap[b]?)
    (hnb:∀ b,nb=some b->g.base l=some b\/w.heap.size<=b)
    (hok:jQ g w (g.reset l v nb c fo) w'->o'.Ok (g.reset l v nb c fo) w' l) :
    Rel (g.reset l v nb c fo) w' (σ.set l o')/\ep σ g w (σ.set l o') (g.reset l v nb c fo) w':=by
 have jg:Live σ l:=⟨o,hl,ho⟩;have hbase:∀ k,k≠l->(g.reset l v nb c fo).base k=g.base k:=fun k hk=>by simp[aC.reset,hk]
 have NH:(g.reset l v nb c fo).base l=nb:=by simp[aC.reset]
 have hm:jQ g w (g.reset l v nb c fo) w':=by
  refine⟨fun b hb=>⟨hb,mu b (h.lt b hb) (fun e=>h.qy l b jg e hb)⟩,aV _,fun k _=>?_⟩;by_cases hk:k=l
  ·subst hk;simp only[aC.reset,if_true];exact⟨hv,hvb⟩
  simp[aC.reset,hk]
 refine⟨⟨by simp[aC.reset,h.len],fun b hb=>bU (h.lt b hb) hsz,fun k ok hk=>?_,fun k k' b hk hk' hb hb'=>?_,fun k b hk hb hi=>?_,h.glob.mono hm.eS⟩,
  ⟨hm,hsz,hos,rV,hout,fun b hb ht=>mu b hb (fun e=>ht ⟨l,jg,e⟩),fun b _ hi=> .inl hi,fun b hb ht=>?_⟩⟩
 ·by_cases e:k=l
  ·subst e;have hlt:=(aK.1 hk).1;simp at hlt;simp[hlt]at hk;subst hk;exact hok hm
  rw[aI (Ne.symm e)]at hk;have hkn:k<g.n:=by rw[<-h.len];exact(aK.1 hk).1
  by_cases hvk:ok.live=true
  ·refine(h.ok k ok hk).step hm hkn (by simp[aC.reset,e]) (fun b hb=>mu b (h.kK ⟨ok,hk,hvk⟩ hb) (fun e'=>e (h.inj k l b ⟨ok,hk,hvk⟩ jg hb e')))
  ·cases ok<;>simp[bG.live]at hvk;trivial
 ·rcases kL hk with⟨e,_,_⟩|⟨e,lZ⟩<;>rcases kL hk' with⟨e',_,_⟩|⟨e',Ys⟩
  ·exact e.trans e'.symm
  ·subst e;rw[NH]at hb;rw[hbase k' e']at hb';rcases hnb b hb with h1|h1
   ·exact h.inj _ _ b jg Ys h1 hb'
   have:=h.kK Ys hb';omega
  ·subst e';rw[NH]at hb';rw[hbase k e]at hb;rcases hnb b hb' with h1|h1
   ·exact h.inj _ _ b lZ jg hb h1
   have:=h.kK lZ hb;omega
  rw[hbase k e]at hb;rw[hbase k' e']at hb';exact h.inj k k' b lZ Ys hb hb'
 ·rcases kL hk with⟨rfl,_,_⟩|⟨e,hk⟩
  ·rw[NH]at hb;rcases hnb b hb with h1|h1
   ·exact h.qy _ b jg h1 hi
   have:=h.lt b hi;omega
  rw[hbase k e]at hb;exact h.qy k b hk hb hi
 obtain⟨k,hk,hb'⟩:=ht;rcases kL hk with⟨rfl,_,_⟩|⟨e,hk⟩
 ·rw[NH]at hb';rcases hnb b hb' with h1|h1
  ·exact⟨_,jg,h1⟩
  omega
 exact⟨k,hk,by rw[hbase k e]at hb';exact hb'⟩
def aC.vY(g:aC)(l:Nat): g.reset l (g.ver l) (g.base l) (g.cap l) (g.off l)=g:=by
 simp only[aC.reset]
 congr 1<;>(funext k;split<;>simp_all)
def Rel.update {g : aC} {w w' : World} {σ : ai} {l b : Nat} {o o' : bG} (h : Rel g w σ) (hl : σ[l]? = some o) (ho : o.live = true) (hb : g.base l = some b)
    (hsz:w'.heap.size=w.heap.size) (hos:w'.os=w.os) (rV:w'.tape=w.tape) (hout:w'.output=w.output)
    (mu:∀ c,c≠b->w'.heap[c]? = w.heap[c]?) (hok:jQ g w g w'->o'.Ok g w' l) :
    Rel g w' (σ.set l o')/\ep σ g w (σ.set l o') g w':=by
 have:=Rel.change (o':=o') (w':=w') h hl ho (g.ver l) (g.base l) (g.cap l) (g.off l) (aV _) (fun _=>⟨rfl,rfl,rfl⟩) (Nat.le_of_eq hsz.symm) hos rV hout
  (fun c _ hc=>mu c (fun e=>hc (e ▸ hb))) (fun c hc=> .inl hc)
 rw[g.vY l]at this;exact this hok
def Rel.freeze {g : aC} {w : World} {σ : ai} {l b : Nat} {o : bG} (h : Rel g w σ) (hl : σ[l]? = some o) (ho : o.live = true) (hb : g.base l = some b) :
    Rel (g.oE b) w (σ.set l .dead)/\ep σ g w (σ.set l .dead) (g.oE b) w:=by
 have jg:Live σ l:=⟨o,hl,ho⟩;have hm:jQ g w (g.oE b) w:=⟨fun c hc=>⟨.inl hc,rfl⟩,aV _,fun _ _=>⟨aV _,fun _=>⟨rfl,rfl,rfl⟩⟩⟩
 refine⟨⟨by simp[aC.oE,h.len],fun c hc=>?_,fun k ok hk=>?_,fun k k' c hk hk' hc lg=>?_,fun k c hk hc hi=>?_,h.glob.mono hm.eS⟩,
  ⟨hm,aV _,rfl,rfl,rfl,fun _ _ _=>rfl,fun c _ hi=>?_,fun c _ ht=>?_⟩⟩
 ·rcases hc with hc|rfl
  ·exact h.lt c hc
  exact h.kK jg hb
 ·by_cases e:k=l
  ·subst e;have hlt:=(aK.1 hk).1;simp at hlt;simp[hlt]at hk;subst hk;trivial
  rw[aI (Ne.symm e)]at hk;have hkn:k<g.n:=by rw[<-h.len];exact(aK.1 hk).1
  exact(h.ok k ok hk).step hm hkn rfl (fun _ _=>rfl)
 ·rcases kL hk with⟨_,_,e⟩|⟨_,hk⟩
  ·simp[bG.live]at e
  rcases kL hk' with⟨_,_,e⟩|⟨_,hk'⟩
  ·simp[bG.live]at e
  exact h.inj k k' c hk hk' hc lg
 ·rcases kL hk with⟨_,_,e⟩|⟨e,hk⟩
  ·simp[bG.live]at e
  rcases hi with hi|rfl
  ·exact h.qy k c hk hc hi
  exact e (h.inj k l c hk jg hc hb)
 ·rcases hi with hi|rfl
  ·exact .inl hi
  exact .inr ⟨l,jg,hb⟩
 obtain⟨k,hk,hc⟩:=ht;rcases kL hk with⟨_,_,e⟩|⟨_,hk⟩
 ·simp[bG.live]at e
 exact⟨k,hk,hc⟩
def Rel.nw {g : aC} {w : World} {σ : ai} (h : Rel g w σ) (el : El) :
    Rel (g.push 0 none 0) w (σ++[.vec el []])/\ep σ g w (σ++[.vec el []]) (g.push 0 none 0) w:=by
 have hm:jQ g w (g.push 0 none 0) w:=⟨fun b hb=>⟨hb,rfl⟩,Nat.le_succ _,fun l hl=>by simp[aC.push,eK hl]⟩;have hbase:∀ l,l<g.n->(g.push 0 none 0).base l=g.base l:=fun l hl=>by simp[aC.push,eK hl]
 have hnew:(g.push 0 none 0).base g.n=none:=by simp[aC.push]
 have hold:∀ l b,Live (σ++[.vec el []]) l->(g.push 0 none 0).base l=some b->Live σ l/\g.base l=some b:=fun l b hl hb=>by
  rcases mZ hl with hl|rfl
  ·rw[hbase l (by rw[<-h.len];exact hl.lt)]at hb;exact⟨hl,hb⟩
  rw[h.len,hnew]at hb;cases hb
 refine⟨⟨by simp[aC.push,h.len],h.lt,fun l o' ho=>?_,fun l l' b hl hl' hb hb'=>h.inj l l' b (hold l b hl hb).1 (hold l' b hl' hb').1 (hold l b hl hb).2 (hold l' b hl' hb').2,
  fun l b hl hb hi=>h.qy l b (hold l b hl hb).1 (hold l b hl hb).2 hi,h.glob.mono hm.eS⟩,
  ⟨hm,aV _,rfl,rfl,rfl,fun _ _ _=>rfl,fun b hb hi=> .inl hi,fun b hb ht=>?_⟩⟩
 ·by_cases hl:l < σ.length
  ·rw[aO hl]at ho;have hl':l<g.n:=by rw[<-h.len];exact hl
   exact(h.ok l o' ho).step hm hl' (by simp[aC.push,eK hl']) (fun _ _=>rfl)
  have h1:=(aK.1 ho).1;simp at h1;have h2:l = σ.length:=ae;subst h2;simp at ho;subst ho;rw[h.len];exact⟨by simp[aC.push],aT,.inl ⟨rfl,hnew,by simp[aC.push]⟩⟩
 obtain⟨l,hl,hb'⟩:=ht;exact⟨l,(hold l b hl hb').1,(hold l b hl hb').2⟩
def Rel.hold {g : aC} {w : World} {σ : ai} (h : Rel g w σ) :
    Rel (g.push 0 none 0) w (σ++[.resv])/\ep σ g w (σ++[.resv]) (g.push 0 none 0) w:=by
 have hm:jQ g w (g.push 0 none 0) w:=⟨fun b hb=>⟨hb,rfl⟩,Nat.le_succ _,fun l hl=>by simp[aC.push,eK hl]⟩;have hbase:∀ l,l<g.n->(g.push 0 none 0).base l=g.base l:=fun l hl=>by simp[aC.push,eK hl]
 have hnew:(g.push 0 none 0).base g.n=none:=by simp[aC.push]
 have hold:∀ l b,Live (σ++[.resv]) l->(g.push 0 none 0).base l=some b->Live σ l/\g.base l=some b:=fun l b hl hb=>by
  rcases mZ hl with hl|rfl
  ·rw[hbase l (by rw[<-h.len];exact hl.lt)]at hb;exact⟨hl,hb⟩
  rw[h.len,hnew]at hb;cases hb
 refine⟨⟨by simp[aC.push,h.len],h.lt,fun l o' ho=>?_,fun l l' b hl hl' hb hb'=>h.inj l l' b (hold l b hl hb).1 (hold l' b hl' hb').1 (hold l b hl hb).2 (hold l' b hl' hb').2,
  fun l b hl hb hi=>h.qy l b (hold l b hl hb).1 (hold l b hl hb).2 hi,h.glob.mono hm.eS⟩,
  ⟨hm,aV _,rfl,rfl,rfl,fun _ _ _=>rfl,fun b hb hi=> .inl hi,fun b hb ht=>?_⟩⟩
 ·by_cases hl:l < σ.length
  ·rw[aO hl]at ho;have hl':l<g.n:=by rw[<-h.len];exact hl
   exact(h.ok l o' ho).step hm hl' (by simp[aC.push,eK hl']) (fun _ _=>rfl)
  have h1:=(aK.1 ho).1;simp at h1;have h2:l = σ.length:=ae;subst h2;simp at ho;subst ho;rw[h.len];exact⟨by simp[aC.push],hnew,by simp[aC.push]⟩
 obtain⟨l,hl,hb'⟩:=ht;exact⟨l,(hold l b hl hb').1,(hold l b hl hb').2⟩
def Rel.abn {g : aC} {w : World} {σ : ai} (h : Rel g w σ) {n : Nat} (hn : σ[n]? = some .resv) (T : Option TypeId) (el : El) :
    Rel g w (σ.set n (.bW T el []))/\ep σ g w (σ.set n (.bW T el [])) g w:=by
 obtain⟨h1,h2,h3⟩:=h.ok n _ hn
 have:=h.change (w':=w) (o':= .bW T el []) hn rfl (g.ver n) (g.base n) (g.cap n) (g.off n) (aV _) (fun _=>⟨rfl,rfl,rfl⟩) (aV _) rfl rfl rfl (fun _ _ _=>rfl) (fun b hb=> .inl hb)
  (fun _=>by rw[aC.vY];exact⟨h1,aT,.inl ⟨rfl,h2,h3⟩⟩)
 rwa[aC.vY]at this
def yq(w:World)(b i:Nat)(v:Value){c:Nat}(h:c≠b): (w.setCell ⟨b,i,none⟩ v).heap[c]? = w.heap[c]? :=
 Go.RowKit.Below.heap_setCell w ⟨b,i,none⟩ v c h
def Row.set{w:World}{b:Nat}{vs:Array Value}(h:Row w b vs)(i:Nat)(v:Value): Row (w.setCell ⟨b,i,none⟩ v) b (vs.setIfInBounds i v):=by
 obtain⟨T,fz,h1,h2⟩:=h;refine⟨T,fz,?_,fun j hj=>?_⟩
 ·simp[World.setCell,Array.getElem?_modify,h1]
 rw[World.frozen?_setCell];exact h2 j (by simpa using hj)
def setRow(w:World)(b:Nat): Nat->List Value->World
 | _,[]=>w
 | i,v::vs=>setRow (w.setCell ⟨b,i,none⟩ v) b (i+1) vs
def putRow(vs:Array Value): Nat->List Value->Array Value
 | _,[]=>vs
 | i,u::us=>putRow (vs.setIfInBounds i u) (i+1) us
def jt (w : World) (b i : Nat) (us : List Value) : (setRow w b i us).heap.size = w.heap.size /\ (setRow w b i us).os = w.os /\ (setRow w b i us).tape = w.tape /\
    (setRow w b i us).output=w.output/\ ∀ c,c≠b->(setRow w b i us).heap[c]? = w.heap[c]?:=by
 induction us generalizing w i with
 | nil=>exact⟨rfl,rfl,rfl,rfl,fun _ _=>rfl⟩
 | cons u us ih =>
   obtain⟨h1,h2,h3,h4,h5⟩:=ih (w.setCell ⟨b,i,none⟩ u) (i+1);exact⟨h1.trans (World.size_setCell ..),h2,h3,h4,fun c hc=>(h5 c hc).trans (yq w b i u hc)⟩
def Row.setRow{w:World}{b:Nat}{vs:Array Value}(h:Row w b vs)(i:Nat)(us:List Value): Row (setRow w b i us) b (putRow vs i us):=by
 induction us generalizing w i vs with
 | nil=>exact h
 | cons u us ih=>exact ih (h.set i u) (i+1)
def Nf(w:World)(b i:Nat)(us:List Value)(a:Addr): (setRow w b i us).frozen? a=w.frozen? a:=by
 induction us generalizing w i with
 | nil=>rfl
 | cons u us ih=>exact(ih (w.setCell ⟨b,i,none⟩ u) (i+1)).trans (World.frozen?_setCell ..)
def qF.setRow{el:El}{w:World}{b:Nat}{vs:Array Value}(h:qF el w b vs)(i:Nat)(us:List Value): qF el (setRow w b i us) b (putRow vs i us) :=
 ⟨h.1.setRow i us,fun e j=>(Nf ..).trans (h.2 e j)⟩
def Ng(w:World)(b i:Nat)(v:Value)(c:Nat): (w.setCell ⟨b,i,none⟩ v).shape? c=w.shape? c:=by
 by_cases h:c=b
 ·subst h;simp only[World.shape?,World.setCell,Array.getElem?_modify,if_true];cases w.heap[c]? with
  | none=>rfl
  | some o=>cases o<;>simp
 simp only[World.shape?,yq w b i v h]
def pH(w:World)(b i:Nat)(us:List Value)(c:Nat): (setRow w b i us).shape? c=w.shape? c:=by
 induction us generalizing w i with
 | nil=>rfl
 | cons u us ih=>exact(ih (w.setCell ⟨b,i,none⟩ u) (i+1)).trans (Ng w b i u c)
def size_putRow(vs:Array Value)(i:Nat)(us:List Value): (putRow vs i us).size=vs.size:=by
 induction us generalizing vs i with
 | nil=>rfl
 | cons u us ih=>simp[putRow,ih]
def jd (vs : Array Value) (i : Nat) (us : List Value) (hi : i + us.length <= vs.size) (j : Nat) (d : Value) :
    (putRow vs i us).getD j d=if i<=j/\j<i+us.length then us.getD (j-i) d else vs.getD j d:=by
 induction us generalizing vs i with
 | nil=>simp[putRow];intro h1 h2;omega
 | cons u us ih =>
   simp only[aE]at hi;rw[putRow,ih (vs.setIfInBounds i u) (i+1) (by simp;omega)];by_cases h1:i+1<=j/\j<i+1+us.length
   ·rw[aB h1,aB (by simp only[aE];omega)];obtain⟨k,rfl⟩:∃ k,j=i+1+k:=⟨j-(i+1),ae⟩;rw[show i+1+k-(i+1)=k by omega,show i+1+k-i=k+1 by omega];simp
   rw[aq h1];by_cases h2:j=i
   ·subst h2;rw[aB (by simp only[aE];omega)];have hlt:j<vs.size:=ae;simp[hlt]
   rw[aq (by simp only[aE];omega)];simp[Array.getElem?_setIfInBounds_ne (Ne.symm h2)]
inductive Out where
 | ret (a:AV)
 | panic (a:AV)
def vf(g:aC)(w:World): Out->Ending->Prop
 | .ret a,.returned v=>VR g w a v
 | .panic a,.panicked chain=> ∃ v,chain=[{ v,recovered:=false }]/\VR g w a v
 | _,_=>False
def Has (P : Program) (f : FuncId) : Prop := ∃ fn, P.funcs[f]? = some fn ∧ fn.body.isSome = true ∧ (fn.name == "runtime.NumGoroutine") = false
def cV(P:Program)(f:FuncId)(args:List AV)(σ : ai)(R:Out->ai->Prop): Prop :=
 Has P f/\ ∀(g:aC) (w:World) (vs:Array Value),Rel g w σ->args.length=vs.size->(∀ i,i<args.length->VR g w (args.getD i .undef) (vs.getD i Go.undef)) ->
  Calls P f vs w fun e w'=> ∃ out g' σ',Rel g' w' σ'/\ep σ g w σ' g' w'/\vf g' w' out e/\R out σ'
def cV.mono{P:Program}{f:FuncId}{args:List AV}{σ : ai}{R R':Out->ai->Prop}(h:cV P f args σ R)(hr:∀ o σ',R o σ'->R' o σ'): cV P f args σ R' :=
 ⟨h.1,fun g w vs h1 h2 h3=>(h.2 g w vs h1 h2 h3).mono fun _ _ ⟨out,g',σ',a,b,c,d⟩=>⟨out,g',σ',a,b,c,hr _ _ d⟩⟩
def oF(P:Program)(l:Nat)(args:List AV)(σ : ai)(R:Out->ai->Prop): Prop :=
 (∃ nt e ps ca cb st pe, σ[l]? = some (.loop nt e ps ca cb st pe)) /\ ∀ (g : aC) (w : World) (vs : Array Value) (b : Nat), Rel g w σ -> g.base l = some b -> args.length = vs.size -> (∀ i, i < args.length -> VR g w (args.getD i .undef) (vs.getD i Go.undef)) ->
   ∃ fn tmps assign body,(Instr.yield b vs).run P w = .ok (.round b fn tmps assign body) w/\RoundIn Fence.wide 0 P b fn tmps assign body w fun en w'=> ∃ out g' σ',Rel g' w' σ'/\ep σ g w σ' g' w'/\vf g' w' out en/\R out σ'
def oF.mono{P:Program}{l:Nat}{args:List AV}{σ : ai}{R R':Out->ai->Prop}(h:oF P l args σ R)(hr:∀ o σ',R o σ'->R' o σ'): oF P l args σ R':=by
 refine⟨h.1,fun g w vs b h1 h2 h3 h4=>?_⟩;obtain⟨fn,tmps,ca,cb,r1,r2⟩:=h.2 g w vs b h1 h2 h3 h4;exact⟨fn,tmps,ca,cb,r1,r2.mono fun _ _ ⟨out,g',σ',a,b,c,d⟩=>⟨out,g',σ',a,b,c,hr _ _ d⟩⟩
def mD(P:Program)(f:FuncId)(args:List AV)(σ : ai)(r:AV): Prop:=cV P f args σ fun o σ'=>o = .ret r/\σ' = σ
abbrev Env:=Nat->AV
inductive AX where
 | t (n:Nat)
 | c (a:AV)
def AX.ev(e:Env): AX->AV
 | .t n=>e n
 | .c a=>a
def cZ(e:Env)(d:Option Nat)(a:AV): Env :=
 match d with
 | some d=>fun n=>if n=d then a else e n
 | none=>e
def dm: List AV->Nat->List AV->List AV
 | cs,_,[]=>cs
 | cs,i,a::az=>dm (cs.set i a) (i+1) az
inductive Kd where
 | b|i|s
deriving DecidableEq
def G6: Kd->AV->AV->Option Bool
 | .b,.bool a,.bool b=>some (a==b)
 | .i,.int k a,.int k' b=>if k=k' then some (a==b)else none
 | .s,.str a,.str b=>some (a==b)
 | _,_,_=>none
def ic: List Kd->List AV->List AV->Option Bool
 | [],[],[]=>some true
 | k :: ks, a :: az, b :: bs => match G6 k a b, ic ks az bs with
   | some x,some y=>some (x && y)
   | _,_=>none
 | _,_,_=>none
inductive NK where
 | p|i|f|m
deriving DecidableEq
def pI: NK->AV->Option Bool
 | .p,.ew=>some true
 | .p,.ref .. | .p,.cN .. | .p,.dw ..=>some false
 | .i,.eG=>some true
 | .i,.iS ..=>some false
 | .f,.ld=>some true
 | .f,.fn ..=>some false
 | .m,.iU=>some true
 | .m,.mp ..=>some false
 | _,_=>none
def n8(k:NK)(x y:AV): Option Bool :=
 match pI k x,pI k y with
 | some true,some b=>some b
 | some false,some true=>some false
 | _,_=>none
def AV.obj: AV->Option Nat
 | .ref l _=>some l
 | .dw _ l _ _ _=>some l
 | .own _ l _ _ _=>some l
 | .lX _ (.ref l _) _=>some l
 | .lX _ (.dw _ l _ _ _) _=>some l
 | .mp l=>some l
 | _=>none
def AV.adv(d:Nat): AV->AV
 | .ref l o=> .ref l (o+d)
 | .cN el y o=> .cN el y (o+d)
 | .dw el l m i o=> .dw el l m i (o+d)
 | x=>x
def AV.ptr: AV->Bool
 | .ref .. | .cN .. | .dw ..=>true
 | _=>false
def bG.like: bG->bG->Prop
 | .bW T el xs,o=> ∃ ys,o = .bW T el ys/\ys.length=xs.length
 | _,_=>True
def Ba(P:Program)(n:FuncId)(args:List AV)(σ : ai)(K:AV->ai->Prop): Prop:=match args with
 | a::_=> ∃ l ob mA r,a.obj=some l/\σ[l]? = some ob/\ob.like mA/\cV P n args σ (fun o σ'=>o = .ret r/\σ' = σ.set l mA)/\K r (σ.set l mA)
 | []=>False
inductive ef where
 | Vp (el:El) (lo:Bool)
 | Fv
 | Bb (kd:Option IntKind) (ok:Bool) (zero:AV)
 | zZ (kd:Option IntKind)
 | Dj
 | Ik (el:El) (n:Nat) (lo hi:Bool)
 | copy (el:El)
 | inv (name:String)
 | Vq (el:El)
 | G7 (el:El) (lo:Bool)
 | G8 (el:El)
 | cw (n:FuncId) (k:Nat) (iT:List (Bool × Nat))
 | Dk (neg:Bool)
 | RO (T:TypeId) (ok:Bool) (zero:AV)
 | s2a (n:Nat)
 | S9 (kd:Option IntKind) (zero:AV)
 | N0
 | clr (el:El) (zero:AV)
 | pc (n:FuncId)
 | frz
 | G9 (neg:Bool)
inductive bf where
 | ex (o:ef) (xs:List AX)
 | mv (x:AX)
 | pick (c a b:AX)
 | alloc (T:Option TypeId) (cs:List AV)
 | box (x:AX)
 | build (zero:List AV) (parts:List (Nat × Nat × AX))
 | kG (mt:Bool) (el:El) (zero:AV) (n:Nat) (parts:List (Nat × AX))
 | load (ag:Bool) (n:Nat) (x:AX)
 | store (n:Nat) (x v:AX)
 | p8 (x:AX)
 | bin (op:BinOp) (x y:AX)
 | rW (neg:Bool) (ag:Bool) (ks:List Kd) (x y:AX)
 | un (op:UnOp) (x:AX)
 | n9 (k:IntKind) (x:AX)
 | N1 (x:AX)
 | N2 (x:AX)
 | yu (x:AX)
 | Bc (t:TypeId) (x:AX)
 | vg (f:Fn) (first cap:List AX)
 | vD (x:AX) (lo hi:Option AX)
 | Ct (el:El) (x:AX) (lo hi:Option AX)
 | pn (off:Nat) (x:AX)
 | field (ag:Bool) (off n:Nat) (x:AX)
 | jh (el:El) (arr:Option Nat) (x i:AX)
 | mb (x i:AX)
 | wX (el:El) (ln:Nat) (x i:AX)
 | ext (x:AX) (i:Nat)
 | call (q:Bool) (f:AX) (args:List AX)
 | qG (f:AX) (args:List AX)
 | len (s:Bool) (x:AX)
 | app (T:Option TypeId) (el:El) (x y:AX)
 | z6 (el:El) (x:AX)
 | vi (T:TypeId) (x n:AX)
 | Gp (x:AX)
 | Gq (u:TypeId) (x:AX)
 | Dl (neg:Bool) (x y:AX)
 | Bd (f:FuncId) (x:AX)
 | min (x:AX) (xs:List AX)
 | max (x:AX) (xs:List AX)
 | l7 (el:El) (zero:AV) (n c:AX)
 | panic (x:AX)
 | nw (el:El)
 | hold
 | vo (T:TypeId) (x:AX)
 | jO (k:Nat) (T:Option TypeId) (cs:List AV)
 | n_ (k:Nat) (T:Option TypeId) (el:El) (x y:AX)
 | Dm (x:AX)
 | Dn (x:AX)
 | p_ (neg:Bool) (k:NK) (x y:AX)
 | oa (k:Nat) (el:El) (zero:AV) (n c:AX)
def dQ(k:IntKind)(n:Int): Int:=k.wrap n
def jE(op:BinOp)(k:IntKind)(x y:Int): Int :=
 let a:=BitVec.ofInt k.bits x
 let b:=BitVec.ofInt k.bits y
 match op with
 | .and=>k.wrap (a &&& b).toNat
 | .or=>k.wrap (a ||| b).toNat
 | .xor=>k.wrap (a ^^^ b).toNat
 | _=>k.wrap (a &&& ~~~b).toNat
def jR(op:BinOp)(x y:AV)(K:AV->Prop): Prop :=
 match op,x,y with
 | .shl,.int k a,.int _ b=>0<=b/\K (.int k (dQ k (a*2 ^ (Nat.min b.toNat k.bits))))
 | .shr,.int k a,.int _ b=>0<=b/\K (.int k (a.fdiv (2 ^ (Nat.min b.toNat k.bits))))
 | .add,.int k a,.int k' b=>k=k'/\K (.int k (dQ k (a+b)))
 | .sub,.int k a,.int k' b=>k=k'/\K (.int k (dQ k (a-b)))
 | .mul,.int k a,.int k' b=>k=k'/\K (.int k (dQ k (a*b)))
 | .quo,.int k a,.int k' b=>k=k'/\b≠0/\K (.int k (dQ k (a.tdiv b)))
 | .rem,.int k a,.int k' b=>k=k'/\b≠0/\K (.int k (a.tmod b))
 | .and,.int k a,.int k' b=>k=k'/\K (.int k (jE .and k a b))
 | .or,.int k a,.int k' b=>k=k'/\K (.int k (jE .or k a b))
 | .xor,.int k a,.int k' b=>k=k'/\K (.int k (jE .xor k a b))
 | .andNot,.int k a,.int k' b=>k=k'/\K (.int k (jE .andNot k a b))
 | .eql,.int k a,.int k' b=>k=k'/\K (.bool (a==b))
 | .neq,.int k a,.int k' b=>k=k'/\K (.bool (!(a==b)))
 | .lss,.int k a,.int k' b=>k=k'/\K (.bool (decide (a<b)))
 | .leq,.int k a,.int k' b=>k=k'/\K (.bool (decide (a<=b)))
 | .gtr,.int k a,.int k' b=>k=k'/\K (.bool (decide (b<a)))
 | .geq,.int k a,.int k' b=>k=k'/\K (.bool (decide (b<=a)))
 | .add,.str a,.str b=>((a.length+b.length:Nat):Int)<=IntKind.i64.max/\K (.str (a++b))
 | .eql,.str a,.str b=>K (.bool (a==b))
 | .neq,.str a,.str b=>K (.bool (!(a==b)))
 | .lss,.str a,.str b=>K (.bool (Op.bytesLess a b))
 | .leq,.str a,.str b=>K (.bool (Op.bytesLess a b || a==b))
 | .gtr,.str a,.str b=>K (.bool (!(Op.bytesLess a b || a==b)))
 | .geq,.str a,.str b=>K (.bool (!Op.bytesLess a b))
 | _,_,_=>False
def Cu(op:UnOp)(x:AV)(K:AV->Prop): Prop :=
 match op,x with
 | .not,.bool b=>K (.bool (!b))
 | .neg,.int k n=>K (.int k (dQ k (0-n)))
 | .xor,.int k n=>K (.int k (jE .xor k (if k.signed then -1 else k.max) n))
 | _,_=>False
def bound(x:Option AV)(d:Nat)(y:Nat)(K:Nat->Prop): Prop :=
 match x with
 | none=>K d
 | some (.int _ i)=>0<=i/\i<=y/\K i.toNat
 | _=>False
def partOf(el:El)(x:AV)(off:Nat)(ag:Bool)(n:Nat)(K:AV->Prop): Prop :=
 if off=0/\n=el.sz/\ag=el.ag then K x
 else off+n<=el.sz/\match x with
  | .agg cs=>K (if ag then .agg ((cs.drop off).take n)else cs.getD off .undef)/\(ag=false->n=1)
  | _=>False
def gE(σ : ai)(ag:Bool)(n:Nat)(p:AV)(K:AV->Prop): Prop :=
 match p with
 | .ref l off => match σ[l]? with
   | some (.bH _ cs)=>off+n<=cs.length/\(ag=false->n=1)/\K (if ag then .agg ((cs.drop off).take n)else cs.getD off .undef)
   | _=>False
 | .cN el x off=>partOf el x off ag n K
 | .dw el l m i off => match σ[l]? with
   | some (.bW T aS xs)=>aS=el/\m=xs.length/\i<xs.length/\partOf el (xs.getD i .undef) off ag n K
   | _=>False
 | _=>False
def mE(σ : ai)(n:Nat)(p v:AV)(K:ai->Prop): Prop :=
 v.cells.length=n/\v.cells.all AV.scalar=true /\
 match p with
 | .ref l off => match σ[l]? with
   | some (.bH T cs)=>off+n<=cs.length/\K (σ.set l (.bH T (dm cs off v.cells)))
   | _=>False
 | .dw el l m i off => match σ[l]? with
   | some (.bW T aS xs) => aS = el /\ m = xs.length /\ i < xs.length /\ off + n <= el.sz /\ (el.ag = false -> v.fits el = true) /\
      K (σ.set l (.bW T el (xs.set i (if el.ag then .agg (dm (xs.getD i .undef).cells off v.cells)else v))))
   | _=>False
 | _=>False
def fL(σ : ai)(el:El)(x:AV)(K:List AV->Prop): Prop :=
 match x with
 | .aP=>K []
 | .aH _ aS xs=>aS=el/\K xs
 | .own aS l m lo n => aS = el /\ match σ[l]? with
   | some (.bW T bq xs)=>bq=el/\m=xs.length/\K ((xs.drop lo).take n)
   | _=>False
 | .str s=>el=⟨false,1⟩/\K (s.map fun b=> .int .u8 b.toNat)
 | .lX aS p n=>aS=el/\el=⟨false,1⟩/\gE σ true n p fun v=>K v.cells
 | _=>False
def fE(n:Nat)(el:El): Prop:=n*(el.sz+1)<=2^40
def oc(σ : ai)(T:Option TypeId)(el:El)(x y:AV)(K:AV->ai->Prop): Prop :=
 fL σ el y fun ys=>ys.all (fun a=>a.fits el)=true /\
 match x with
 | .aP=>if ys.length=0 then K .aP σ else fE ys.length el/\K (.own el σ.length ys.length 0 ys.length) (σ++[.bW T el ys])
 | .aH true aS xs => aS = el /\ if ys.length = 0 then K (.aH true el xs) σ else
    fE (xs.length+ys.length) el/\K (.own el σ.length (xs.length+ys.length) 0 (xs.length+ys.length)) (σ++[.bW T el (xs++ys)])
 | .own aS l m lo n => aS = el /\ match σ[l]? with
   | some (.bW T' bq xs) => (T' = none \/ T' = T) /\ bq = el /\ m = xs.length /\ lo = 0 /\ n = xs.length /\ fE (xs.length + ys.length) el /\
      K (.own el l (xs.length+ys.length) 0 (xs.length+ys.length)) (σ.set l (.bW T' el (xs++ys)))
   | _=>False
 | _=>False
def Dp(op:Bool)(x y:AV)(K:AV->Prop): Prop :=
 match x,y with
 | .int k a,.int _ b=>K (.int k (if op then(if b<a then b else a)else (if b>a then b else a)))
 | _,_=>False
def po(op:Bool)(x:AV): List AV->(AV->Prop)->Prop
 | [],K=>K x
 | y::ys,K=>Dp op x y fun z=>po op z ys K
def lP(zero:List AV)(e:Env): List (Nat × Nat × AX)->(List AV->Prop)->Prop
 | [],K=>K zero
 |(off,n,x)::r,K=>(x.ev e).cells.length=n/\(x.ev e).cells.all AV.scalar=true/\off+n<=zero.length/\lP (dm zero off (x.ev e).cells) e r K
def kM(el:El)(xs:List AV)(e:Env): List (Nat × AX)->(List AV->Prop)->Prop
 | [],K=>K xs
 |(i,x)::r,K=>(x.ev e).fits el=true/\i<xs.length/\kM el (xs.set i (x.ev e)) e r K
def Il(el:El): AV->Bool
 | .aP=>true
 | .aH true aS xs=>aS==el && xs.isEmpty
 | _=>false
def Im(el:El): AV->Option (List AV)
 | .aP=>some []
 | .aH _ aS xs=>if aS=el then some xs else none
 | _=>none
def Fw: AV->AV->Option Bool
 | .str a,.str b=>some (a==b)
 | .int k a,.int k' b=>if k=k' then some (a==b)else none
 | _,_=>none
def fM(k:AV): List (AV × AV)->Nat->Option (Option (Nat × AV))
 | [],_=>some none
 | (q, v) :: r, i => match Fw k q with
   | some true=>some (some (i,v))
   | some false=>fM k r (i+1)
   | none=>none
def uE(k v:AV)(es:List (AV × AV)): Option (List (AV × AV)):=match fM k es 0 with
 | some (some (i,_))=>some (es.set i (k,v))
 | some none=>some (es++[(k,v)])
 | none=>none
def AV.nG: Option IntKind->AV->Bool
 | none,.str _=>true
 | some k,.int k' _=>k==k'
 | _,_=>false
def z7(P:Program)(t:TypeId)(name:String): Option FuncId:=match P.info? t,P.underlying t with
 | some i, some (.pointer _) => match i.methods.find? (·.name == name) with
   | some m => match m.func with
     | some (f,true)=>if m.path.isEmpty then some f else none
     | _=>none
   | none=>none
 | _,_=>none
def mc(lo:Option AV)(hi mx:AV)(cap:Nat)(K:Nat->Nat->Nat->Prop): Prop :=
 bound (some mx) 0 cap fun m=>bound (some hi) 0 m fun h=>bound lo 0 h fun l=>K l h m
def wY(σ : ai)(el:El)(x:AV)(lo:Option AV)(hi mx:AV)(K:AV->ai->Prop): Prop :=
 match x with
 | .aP=>mc lo hi mx 0 fun _ _ _=>K .aP σ
 | .aH _ aS xs=>aS=el/\mc lo hi mx xs.length fun l h m=>K (.aH (h==m) el ((xs.drop l).take (h-l))) σ
 | .own aS l0 m0 o n => aS = el /\ match σ[l0]? with
   | some (.bW _ bq xs) => bq = el /\ m0 = xs.length /\ o + n <= m0 /\ mc lo hi mx n fun l h m =>
      if m=l then K (.aH true el []) σ else h=m/\K (.aH true el ((xs.drop (o+l)).take (h-l))) (σ.set l0 .dead)
   | _=>False
 | _=>False
def rX(el:El)(x:AV)(lo:Option AV)(hi mx:AV)(K:AV->Prop): Prop :=
 match x with
 | .aP=>mc lo hi mx 0 fun _ _ _=>K .aP
 | .aH _ aS xs=>aS=el/\mc lo hi mx xs.length fun l h m=>K (.aH (h==m) el ((xs.drop l).take (h-l)))
 | .own aS _ _ _ _=>aS=el/\mc lo hi mx 0 fun _ _ _=>K (.aH true el [])
 | _=>False
def wZ(σ : ai)(el:El)(x:AV)(ys:List AV)(K:AV->ai->Prop): Prop :=
 match x with
 | .aP=>K (.int .i64 0) σ
 | .aH _ aS []=>aS=el/\K (.int .i64 0) σ
 | .lX aS p n=>aS=el/\el=⟨false,1⟩/\mE σ (min ys.length n) p (.agg (ys.take n)) fun σ'=>K (.int .i64 (min ys.length n:Nat)) σ'
 | .own aS l m o n => aS = el /\ match σ[l]? with
   | some (.bW T bq xs)=>bq=el/\m=xs.length/\o+n<=m/\K (.int .i64 (min ys.length n:Nat)) (σ.set l (.bW T el (dm xs o (ys.take n))))
   | _=>False
 | _=>False
def Io(σ : ai)(el:El)(x y:AV)(K:AV->ai->Prop): Prop :=
 fL σ el y fun ys=>ys.all (fun a=>a.fits el)=true/\wZ σ el x ys K
def zo(σ : ai)(el:El)(x y:AV)(K:AV->ai->Prop): Prop :=
 match x with
 | .own aS l m (lo + 1) n => aS = el /\ fL σ el y fun ys => ys.all (fun a => a.fits el) = true /\ match σ[l]? with
   | some (.bW _ bq xs) => bq = el /\ m = xs.length /\ lo + 1 + n = m /\ fE (n + ys.length) el /\
      K (.own el σ.length (n+ys.length) 0 (n+ys.length)) (σ.set l .dead++[.vec el (xs.drop (lo+1)++ys)])
   | _=>False
 | x=>oc σ none el x y K
def Fx(σ : ai)(el:El)(x y:AV)(K:AV->Prop): Prop :=
 fL σ el y fun ys=>ys.all (fun a=>a.fits el)=true/\ys.length≠0/\match x with
  | .aP=>fE ys.length el/\K (.aH false el ys)
  | .aH true aS xs=>aS=el/\fE (xs.length+ys.length) el/\K (.aH false el (xs++ys))
  | _=>False
def zp(el:El)(n:Nat)(p:AV)(lo hi:Option AV)(K:AV->Prop): Prop :=
 p.ptr=true/\bound hi n n fun h=>bound lo 0 h fun l=>K (if h=l then .aH false el []else .lX el (p.adv (l*el.sz)) (h-l))
def qY(σ : ai)(x:AV)(K:Bool->Prop): Prop:=match x with
 | .aP=>K true
 | .aH _ _ (_::_)=>K false
 | .lX ..=>K false
 | .own _ l m _ n => match σ[l]? with
   | some (.bW _ _ xs)=>m=xs.length/\0<n/\K false
   | _=>False
 | _=>False
mutual
def AV.kH(m:Nat): AV->Bool
 | .own _ l _ _ _=> !(l==m)
 | .ref l _=> !(l==m)
 | .dw _ l _ _ _=> !(l==m)
 | .mp l=> !(l==m)
 | .lW l=> !(l==m)
 | .lX _ p _=>AV.kH m p
 | .agg cs=>AV.me m cs
 | .bg cs=>AV.me m cs
 | .aH _ _ xs=>AV.me m xs
 | .cN _ x _=>AV.kH m x
 | .fn _ a b=>AV.me m a && AV.me m b
 | .iS _ v=>AV.kH m v
 | .undef | .bool _ | .int .. | .str _ | .aP | .ew | .ld | .eG | .iU | .lf=>true
def AV.me(m:Nat): List AV->Bool
 | []=>true
 | a::az=>AV.kH m a && AV.me m az
end
def bG.kH(m:Nat): bG->Bool
 | .bH _ cs=>AV.me m cs
 | .bW _ _ xs=>AV.me m xs
 | .map es=>es.all fun p=>p.1.kH m && p.2.kH m
 | .loop nt e ..=>(List.range nt).all fun t=>(e t).kH m
 | .fZ .. | .dead | .resv=>true
def Be(m:Nat)(σ : ai): Bool:=σ.all (bG.kH m)
def Fy(σ : ai)(x:AV)(K:Bool->Prop): Prop:=match x with
 | .aH _ _ []=>K true/\K false
 | x=>qY σ x K
def NI(az:List AV)(σ σ2:ai)(p:AV): Prop:=match p with
 | .ref m 0=>σ2[m]? = some .resv->σ[m]? = some .resv/\AV.me m az=true/\Be m σ = true
 | _=>False
def nH(az:List AV)(σ σ2:ai): List (Bool × Nat)->List AV->Prop
 | [],_=>True
 |(ag,n)::r,p::ps=>(p = .ew\/if n=0 then NI az σ σ2 p else ∃ v,gE σ ag n p (fun u=>u=v)/\gE σ2 ag n p (fun u=>u=v))/\nH az σ σ2 r ps
 | _::_,[]=>False
def zq(T:TypeId)(ok:Bool)(z x:AV)(K:AV->Prop): Prop:=match x with
 | .iS t v=>if t=T then K (if ok then .bg [v,.bool true]else v)else ok=true/\K (.bg [z,.bool false])
 | .eG=>ok=true/\K (.bg [z,.bool false])
 | _=>False
def Bf(σ : ai)(n:Nat)(x:AV)(K:AV->ai->Prop): Prop:=match x with
 | .aH _ aS xs=>aS=⟨false,1⟩/\0<n/\n<=xs.length/\K (.cN ⟨true,n⟩ (.agg (xs.take n)) 0) σ
 | .own aS l m o k => aS = ⟨false, 1⟩ /\ match σ[l]? with
   | some (.bW _ bq xs)=>bq=⟨false,1⟩/\m=xs.length/\o+k<=m/\0<n/\n<=k/\K (.cN ⟨true,n⟩ (.agg ((xs.drop o).take n)) 0) (σ.set l .dead)
   | _=>False
 | _=>False
def vZ(σ : ai)(kd:Option IntKind)(zero x k:AV)(K:AV->ai->Prop): Prop:=match x with
 | .mp l => k.nG kd = true /\ match σ[l]? with
   | some (.map es) => match fM k es 0 with
     | some (some (i,v))=>K (.bg [v,.int .i64 i]) σ
     | some none=>K (.bg [zero,.int .i64 es.length]) (σ.set l (.map (es++[(k,zero)])))
     | none=>False
   | _=>False
 | _=>False
def uc(σ : ai)(x s v:AV)(K:ai->Prop): Prop:=match x,s with
 | .mp l, .int .i64 z => match σ[l]? with
   | some (.map es)=>0<=z/\z.toNat<es.length/\K (σ.set l (.map (es.set z.toNat ((es.getD z.toNat default).1,v))))
   | _=>False
 | _,_=>False
def Bg(σ : ai)(el:El)(zero x:AV)(K:ai->Prop): Prop:=match x with
 | .aP=>K σ
 | .aH _ _ []=>K σ
 | .own aS l m o n => aS = el /\ zero.fits el = true /\ match σ[l]? with
   | some (.bW T bq xs)=>bq=el/\m=xs.length/\o+n<=m/\K (σ.set l (.bW T el (dm xs o (List.replicate n zero))))
   | _=>False
 | _=>False
def Bh(σ : ai)(x:AV)(K:AV->ai->Prop): Prop:=match x with
 | .aP=>K .aP σ
 | .aH f el xs=>K (.aH f el xs) σ
 | .own el l m lo n => match σ[l]? with
   | some (.bW _ aS xs)=>aS=el/\m=xs.length/\lo+n<=m/\K (.aH false el ((xs.drop lo).take n)) (σ.set l .dead)
   | _=>False
 | _=>False
def pcK(K Kp:AV->Prop): Out->Prop
 | .ret r=>K r
 | .panic v=>Kp v
def ef.run(P:Program)(o:ef)(vs:List AV)(σ : ai)(K Kp:AV->ai->Prop): Prop :=
 match o,vs with
 | .Vp el false,[x,hi,mx]=>wY σ el x none hi mx K
 | .Vp el true,[x,lo,hi,mx]=>wY σ el x (some lo) hi mx K
 | .Fv,[]=>K (.mp σ.length) (σ++[.map []])
 | .Bb kd ok zero,[.iU,k]=>k.nG kd=true/\K (if ok then .bg [zero,.bool false]else zero) σ
 | .Bb kd ok zero, [.mp l, k] => k.nG kd = true /\ match σ[l]? with
   | some (.map es) => match fM k es 0 with
     | some (some (_,v))=>K (if ok then .bg [v,.bool true]else v) σ
     | some none=>K (if ok then .bg [zero,.bool false]else zero) σ
     | none=>False
   | _=>False
 | .zZ kd, [.mp l, k, v] => k.nG kd = true /\ match σ[l]? with
   | some (.map es) => match uE k v es with
     | some es'=>K (.bg []) (σ.set l (.map es'))
     | none=>False
   | _=>False
 | .Dj,[.iU]=>K (.int .i64 0) σ
 | .Dj, [.mp l] => match σ[l]? with
   | some (.map es)=>K (.int .i64 es.length) σ
   | _=>False
 | .Ik el n false false,[p]=>zp el n p none none fun v=>K v σ
 | .Ik el n true false,[p,a]=>zp el n p (some a) none fun v=>K v σ
 | .Ik el n false true,[p,b]=>zp el n p none (some b) fun v=>K v σ
 | .Ik el n true true,[p,a,b]=>zp el n p (some a) (some b) fun v=>K v σ
 | .copy el,[x,y]=>Io σ el x y K
 | .Vq el,[x,y]=>zo σ el x y K
 | .G8 el,[x,y]=>Fx σ el x y fun v=>K v σ
 | .Dk neg,[x]=>qY σ x fun r=>K (.bool (if neg then !r else r)) σ
 | .cw n k iT,x::vs=> ∃ r σ2,cV P n ((x::vs).take k) σ (fun o σ'=>o = .ret r/\σ' = σ2)/\nH ((x::vs).take k) σ σ2 iT ((x::vs).drop k)/\K r σ2
 | .G7 el false,[x,hi,mx]=>rX el x none hi mx fun v=>K v σ
 | .G7 el true,[x,lo,hi,mx]=>rX el x (some lo) hi mx fun v=>K v σ
 | .inv name, .iS t v :: r => match z7 P t name with
   | some f => cV P f (v :: r) σ fun
     | .ret r,σ'=>K r σ'
     | .panic r,σ'=>Kp r σ'
   | none=>False
 | .RO T ok z,[x]=>zq T ok z x fun v=>K v σ
 | .s2a n,[x]=>Bf σ n x K
 | .S9 kd z,[x,k]=>vZ σ kd z x k K
 | .N0,[x,s,v]=>uc σ x s v fun σ'=>K (.bg []) σ'
 | .clr el z,[x]=>Bg σ el z x fun σ'=>K (.bg []) σ'
 | .pc n,vs=> ∃ o,(∀ s,cV P n vs s fun o' s'=>o'=o/\s'=s)/\pcK (fun r=>K r σ) (fun v=> ∀ s,Kp v s) o
 | .frz,[x]=>Bh σ x K
 | .G9 neg,[x]=>Fy σ x fun r=>K (.bool (if neg then !r else r)) σ
 | _,_=>False
def bf.run(P:Program)(o:bf)(e:Env)(σ : ai)(K:AV->ai->Prop)(Kp:AV->ai->Prop): Prop :=
 match o with
 | .ex o xs=>o.run P (xs.map (AX.ev e)) σ K Kp
 | .mv x=>K (x.ev e) σ
 | .pick c a b => match c.ev e with
   | .bool t=>K (if t then a.ev e else b.ev e) σ
   | _=>False
 | .alloc T cs=>K (.ref σ.length 0) (σ++[.bH T cs])
 | .box x=>(x.ev e).cells.all AV.scalar=true/\K (.ref σ.length 0) (σ++[.cells (x.ev e).cells])
 | .build zero parts=>lP zero e parts fun cs=>K (.agg cs) σ
 | .kG mt el zero n parts => kM el (List.replicate n zero) e parts fun xs =>
    if mt then K (.own el σ.length n 0 n) (σ++[.vec el xs])else K (.aH true el xs) σ
 | .load ag n x=>gE σ ag n (x.ev e) fun v=>K v σ
 | .store n x v=>mE σ n (x.ev e) (v.ev e) fun σ'=>K (.bg []) σ'
 | .p8 x => match x.ev e with
   | .ref .. | .cN .. | .dw .. | .iS .. | .fn (.func _) _ _ | .lW _=>K (x.ev e) σ
   | _=>False
 | .bin op x y=>jR op (x.ev e) (y.ev e) fun v=>K v σ
 | .rW neg ag ks x y => match (if ag then (match x.ev e, y.ev e with | .agg az, .agg bs => ic ks az bs | _, _ => none) else ic ks [x.ev e] [y.ev e]) with
   | some b=>K (.bool (if neg then !b else b)) σ
   | none=>False
 | .un op x=>Cu op (x.ev e) fun v=>K v σ
 | .n9 k x => match x.ev e with
   | .int _ n=>K (.int k (dQ k n)) σ
   | _=>False
 | .N1 x => match x.ev e with
   | .str s=>K (.str s) σ
   | _=>False
 | .N2 x => match x.ev e with
   | .str s=>s.length<=2^40/\K (.own ⟨false,1⟩ σ.length s.length 0 s.length) (σ++[.vec ⟨false,1⟩ (s.map fun b=> .int .u8 b.toNat)])
   | _=>False
 | .yu x=>(match x.ev e with | .str _=>False|_=>True)/\fL σ ⟨false,1⟩ (x.ev e) fun xs=> ∃ s:List UInt8,xs=s.map (fun b=>AV.int .u8 b.toNat)/\K (.str s) σ
 | .Bc t x=>K (.iS t (x.ev e)) σ
 | .vg f first cap=>K (.fn f (first.map (AX.ev e)) (cap.map (AX.ev e))) σ
 | .vD x lo hi => match x.ev e with
   | .str s=>bound (hi.map (AX.ev e)) s.length s.length fun h=>bound (lo.map (AX.ev e)) 0 h fun l=>K (.str ((s.drop l).take (h-l))) σ
   | _=>False
 | .Ct el x lo hi => match x.ev e with
   | .aP=>bound (hi.map (AX.ev e)) 0 0 fun h=>bound (lo.map (AX.ev e)) 0 h fun _=>K .aP σ
   | .aH _ aS xs=>aS=el/\bound (hi.map (AX.ev e)) xs.length xs.length fun h=>bound (lo.map (AX.ev e)) 0 h fun l=>K (.aH false el ((xs.drop l).take (h-l))) σ
   | .own aS l m o n => aS = el /\ match σ[l]? with
     | some (.bW T bq xs)=>bq=el/\m=xs.length/\o+n<=m/\bound (hi.map (AX.ev e)) n n fun h=>bound (lo.map (AX.ev e)) 0 h fun k=>K (.own el l m (o+k) (h-k)) σ
     | _=>False
   | _=>False
 | .pn off x => match x.ev e with
   | .ref l o=>K (.ref l (o+off)) σ
   | .cN el y o=>K (.cN el y (o+off)) σ
   | .dw el l m i o=>K (.dw el l m i (o+off)) σ
   | _=>False
 | .field ag off n x => match x.ev e with
   | .agg cs=>off+n<=cs.length/\(ag=false->n=1)/\K (if ag then .agg ((cs.drop off).take n)else cs.getD off .undef) σ
   | _=>False
 | .jh el arr x i => match i.ev e with
   | .int _ k => match arr, x.ev e with
     | none,.aH _ aS xs=>aS=el/\0<=k/\k<xs.length/\K (.cN el (xs.getD k.toNat .undef) 0) σ
     | none, .own aS l m o n => aS = el /\ 0 <= k /\ k < n /\ match σ[l]? with
       | some (.bW T bq xs)=>bq=el/\m=xs.length/\K (.dw el l m (o+k.toNat) 0) σ
       | _=>False
     | some n,.ref l o=>0<=k/\k<n/\K (.ref l (o+k.toNat*el.sz)) σ
     | some n,.cN aS y o=>0<=k/\k<n/\K (.cN aS y (o+k.toNat*el.sz)) σ
     | some n,.dw aS l m j o=>0<=k/\k<n/\K (.dw aS l m j (o+k.toNat*el.sz)) σ
     | _,_=>False
   | _=>False
 | .mb x i => match x.ev e, i.ev e with
   | .str s,.int _ k=>0<=k/\k<s.length/\K (.int .u8 (s.getD k.toNat 0).toNat) σ
   | _,_=>False
 | .wX el ln x i => match x.ev e, i.ev e with
   | .agg cs, .int _ k => 0 <= k /\ k < ln /\ (k.toNat * el.sz + el.sz <= cs.length) /\ (el.ag = false -> el.sz = 1) /\
      K (if el.ag then .agg ((cs.drop (k.toNat*el.sz)).take el.sz)else cs.getD (k.toNat*el.sz) .undef) σ
   | _,_=>False
 | .ext x i => match x.ev e with
   | .bg vs=>i<vs.length/\K (vs.getD i .undef) σ
   | _=>False
 | .call q f args => match f.ev e with
   | .fn (.func n) first cap =>
     if q then ∃ r,(∀ H,mD P n (first++args.map (AX.ev e)++cap) (σ++H) r)/\K r σ
     else cV P n (first++args.map (AX.ev e)++cap) σ fun
      | .ret r,σ'=>K r σ'
      | .panic r,σ'=>Kp r σ'
   | .lW l => if q then False else oF P l (args.map (AX.ev e)) σ fun
      | .ret r,σ'=>K r σ'
      | .panic r,σ'=>Kp r σ'
   | _=>False
 | .qG f args => match f.ev e with
   | .fn (.func n) [] []=>Ba P n (args.map (AX.ev e)) σ K
   | _=>False
 | .len s x => match s, x.ev e with
   | true,.str s=>K (.int .i64 s.length) σ
   | false,.aP=>K (.int .i64 0) σ
   | false,.aH _ _ xs=>K (.int .i64 xs.length) σ
   | false,.own _ _ _ _ n=>K (.int .i64 n) σ
   | _,_=>False
 | .app T el x y=>oc σ T el (x.ev e) (y.ev e) K
 | .z6 el x => match x.ev e with
   | .aP=>K .ew σ
   | .own aS l m lo n => aS = el /\ match σ[l]? with
     | some (.bW _ bq xs)=>bq=el/\m=xs.length/\0<n/\K (.dw el l m lo 0) σ
     | _=>False
   | _=>False
 | .vi T x n => match x.ev e, n.ev e with
   | .ew,.int .i64 k=>k=0/\K (.str []) σ
   | .dw el l m lo off, .int .i64 k => lo = 0 /\ off = 0 /\ el = ⟨false, 1⟩ /\ match σ[l]? with
     | some (.bW T' _ xs)=>T'=some T/\m=xs.length/\0<k/\k<=xs.length/\xs.length<=2^62/\ ∃ s:List UInt8,xs.take k.toNat=s.map (fun b=>AV.int .u8 b.toNat)/\K (.str s) (σ.set l .dead)
     | _=>False
   | _,_=>False
 | .Gp x => match x.ev e with
   | .ref l off => match σ[l]? with
     | some (.bH _ cs)=>off<cs.length/\K (.ref l off) σ
     | _=>False
   | _=>False
 | .Gq u x => match x.ev e with
   | .ref l off => match σ[l]? with
     | some (.bH (some T) cs)=>liesAt P P.depth T (cs.length / P.cellsOf T) off u 1=true/\K (.ref l off) σ
     | _=>False
   | _=>False
 | .Dl neg x y => match x.ev e, y.ev e with
   | .ref l o, .ref l' o' => l = l' /\ o = o' /\ match σ[l]? with
     | some (.bH _ _)=>K (.bool neg.not) σ
     | _=>False
   | _,_=>False
 | .Bd f x => (∃ fn, P.funcs[f]? = some fn ∧ (fn.name == "runtime.NumGoroutine") = false ∧ fn.body.isNone = true ∧ Extern.findNext fn = none ∧ Extern.find fn = some Extern.AbiNoEscape.same) ∧ K (x.ev e) σ
 | .min x xs=>po true (x.ev e) (xs.map (AX.ev e)) fun v=>K v σ
 | .max x xs=>po false (x.ev e) (xs.map (AX.ev e)) fun v=>K v σ
 | .l7 el zero n c => match n.ev e, c.ev e with
   | .int .i64 k,.int .i64 m=>zero.fits el=true/\0<=k/\k<=m/\m*(el.sz+1)<=2^40/\K (.own el σ.length k.toNat 0 k.toNat) (σ++[.vec el (List.replicate k.toNat zero)])
   | _,_=>False
 | .panic x => match x.ev e with
   | .iS t v=>Kp (.iS t v) σ
   | _=>False
 | .nw el=>K (.own el σ.length 0 0 0) (σ++[.vec el []])
 | .hold=>K (.ref σ.length 0) (σ++[.resv])
 | .vo T x=>(x.ev e).cells.all AV.scalar=true/\K (.ref σ.length 0) (σ++[.bH (some T) (x.ev e).cells])
 | .jO k T cs => match e k with
   | .ref n 0 => match σ[n]? with
     | some .resv=>K (.ref n 0) (σ.set n (.bH T cs))
     | _=>False
   | _=>False
 | .n_ k T el x y => match e k with
   | .ref n 0 => match σ[n]? with
     | some .resv => match Im el (y.ev e) with
       | some ys=>Il el (x.ev e)=true/\ys.all (fun a=>a.fits el)=true/\fE ys.length el/\K (.own el n ys.length 0 ys.length) (σ.set n (.bW T el ys))
       | none=>False
     | _=>False
   | _=>False
 | .oa k el zero n c => match e k with
   | .ref l 0 => match σ[l]? with
     | some .resv => match n.ev e, c.ev e with
       | .int .i64 i,.int .i64 m=>zero.fits el=true/\0<i/\i<=m/\m*(el.sz+1)<=2^40/\K (.own el l i.toNat 0 i.toNat) (σ.set l (.vec el (List.replicate i.toNat zero)))
       | _,_=>False
     | _=>False
   | _=>False
 | .Dm x => match x.ev e with
   | .str s=>K (.ref σ.length 0) (σ++[.fZ s 0])
   | _=>False
 | .Dn x => match x.ev e with
   | .ref l 0 => match σ[l]? with
     | some (.fZ s pos) =>
       if pos<s.length then K (.bg [.bool true,.int .i64 pos,.int .i32 (Utf8.decode ⟨s.toArray⟩ pos).1]) (σ.set l (.fZ s (pos+(Utf8.decode ⟨s.toArray⟩ pos).2)))
       else K (.bg [.bool false]) σ
     | _=>False
   | _=>False
 | .p_ neg k x y => match n8 k (x.ev e) (y.ev e) with
   | some b=>K (.bool (if neg then !b else b)) σ
   | none=>False
